/- Walks of functions, and plain words. No conditions. -/
import Derived.Test.YtefkfglkpebbmadGreatP6
set_option linter.unusedVariables false
set_option linter.unusedSimpArgs false
set_option maxRecDepth 100000
set_option maxHeartbeats 40000000
namespace Go.Proofs.YtefkfglkpebbmadGreat
open Go.RowKit
theorem refPatSameZ_calls (p : Pat) (B : Option Addr) (c : Nat) (w : World) (hp : PatIn w p B c) : Calls Tryz.prog 48 #[.agg (patA p.from_ p.to_ p.old p.new_ p.size B p.ops.length c), .agg (patA 0 0 0 0 0 none 0 0)] w (RetB w (.bool (decide (p = Pat.zero)))) :=
 refPatSameA_calls B none c 0 p.from_ p.to_ p.old p.new_ p.size 0 0 0 0 0 p.ops [] w hp.len (by simp) hp.ops (Sps.nil _ _)
theorem run_min64 (n : Int) (w : World) : (Builtin.min_ #[3, 3] 3 #[.int .i64 64, .int .i64 n]).run Tryz.prog w = .ok (.int .i64 (min 64 n)) w := by
 by_cases h : n < (64 : Int)
 ·have e : min 64 n = n := by omega
  rw [e]
  go_simp <;> omega
 ·have e : min 64 n = 64 := by omega
  rw [e]
  go_simp <;> omega
theorem refDevCheck_calls (d : Dev) (L : DLoc) (w : World) (h : DevIn w d L) : Calls Tryz.prog 17 #[.agg (devA d L)] w (RetB w (iv (devCheck d))) := by
 have HIN := hD h
 clear h
 obtain ⟨n, hn⟩ : ∃ n, devCheck d = n := ⟨_, rfl⟩
 rw [hn]
 have HN := hD hn
 clear hn
 have HBA := hD ((Below.refl w.heap.size w).alloc (Nat.le_refl _) (.cells (devA d L) 38))
 obtain ⟨g, hg⟩ : ∃ g, w.heap.size = g := ⟨_, rfl⟩
 have HG := hD hg
 clear hg
 go_enter Tryz.func17, Tryz.ntmps17
 by_cases l0 : d.s0.length = 64
 case neg =>
  have q0 : ((d.s0.length : Int) != 64) = true := by simp; omega
  have hz : Hid (n = 3) := hD (HN.out.symm.trans (devCheck_is_len (.inl l0)))
  clear l0
  go_wp2_with fail
  go_ret
  have hgg := HG.out
  have hs := HBA.out.size
  refine ⟨ret_int hz.out.symm, ?_⟩
  repeat (first | exact HBA.out | refine bA ?_ _)
 have q0 : ((d.s0.length : Int) != 64) = false := by simp; omega
 by_cases l1 : d.s1.length = 64
 case neg =>
  have q1 : ((d.s1.length : Int) != 64) = true := by simp; omega
  have hz : Hid (n = 3) := hD (HN.out.symm.trans (devCheck_is_len (.inr l1)))
  clear l1 l0
  go_wp2_with fail
  go_ret
  have hgg := HG.out
  have hs := HBA.out.size
  refine ⟨ret_int hz.out.symm, ?_⟩
  repeat (first | exact HBA.out | refine bA ?_ _)
 have q1 : ((d.s1.length : Int) != 64) = false := by simp; omega
 have HL0 := hD l0
 have HL1 := hD l1
 clear l0 l1
 go_wp2_with fail
 refine (refCopies_calls d.c0 d.c1 _).mono ?_
 rintro e w1 ⟨rfl, hb⟩
 have a0r : rowOf (w.alloc (.cells (devA d L) 38)) w.heap.size = devA d L := by rw [rowOf_alloc, if_pos rfl]
 have a0f : frOf (w.alloc (.cells (devA d L) 38)) w.heap.size = (0, 0) := by rw [frOf_alloc, if_pos rfl]
 have HB1 : Hid (Below w.heap.size w w1) := hD (HBA.out.trans (hb.mono (by simp)))
 rw [HG.out] at a0r a0f ⊢
 obtain ⟨a0r, a0f, a0n, a0c, a0z, a0l⟩ := keep1 (g := g) (cs := devA d L) hb a0r (by go_simp) a0f
 clear hb q0 q1 HBA
 by_cases hc : copCheck d.c0 d.c1 = 0
 case neg =>
  have q : (copCheck d.c0 d.c1 != 0) = true := by simp [hc]
  have hz : Hid (n = copCheck d.c0 d.c1) := hD (HN.out.symm.trans (devCheck_is_cop HL0.out HL1.out hc))
  generalize copCheck d.c0 d.c1 = e1 at *
  clear hc
  go_wp2_with fail
  go_ret
  have hgg := HG.out
  have hs := HB1.out.size
  refine ⟨ret_int hz.out.symm, ?_⟩
  repeat (first | exact HB1.out | refine bA ?_ _)
 rw [hc]
 have HC := hD hc
 clear hc
 go_upto_region 6 with fail
 obtain ⟨idle, hidle⟩ : ∃ b, decide (d.done = 0 ∧ d.job = Pat.zero) = b := ⟨_, rfl⟩
 have HID := hD hidle
 clear hidle
 go_cut [4] (fun v wx => v = .bool idle ∧ Hid (Below w1.heap.size w1 wx))
 case first =>
  by_cases hd : d.done = 0
  ·have q1 : (d.done == 0) = true := by simp [hd]
   have hres : decide (d.job = Pat.zero) = idle := by rw [← HID.out]; simp [hd]
   clear hd
   go_wp2_with fail
   refine (refPatSameZ_calls d.job L.aj L.cj w1 (HIN.out.job.stays HB1.out)).mono ?_
   rintro e w2 ⟨rfl, hb⟩
   rw [hres]
   have HB2 := hD hb
   clear hb
   go_wp2_with fail
   go_meet
   case rel => exact ⟨rfl, HB2⟩
  ·have q1 : (d.done == 0) = false := by simp [hd]
   have hres : idle = false := by rw [← HID.out]; simp [hd]
   clear hd
   go_wp2_with fail
   go_meet
   case rel => exact ⟨by rw [hres], hD (Below.refl _ _)⟩
 case rest =>
 obtain ⟨rfl, hb⟩ := hcut
 obtain ⟨a0r, a0f, a0n, a0c, a0z, a0l⟩ := keep1 (g := g) (cs := devA d L) hb.out a0r (by go_simp) a0f
 have HB2 : Hid (Below w.heap.size w wc) := hD (HB1.out.trans (hb.out.mono HB1.out.size))
 clear hb HB1
 have HIZ : Hid (idle = false → d.done ≠ 0 ∨ d.job ≠ Pat.zero) := hD (fun e => by
  have := HID.out
  rw [e] at this
  by_cases h1 : d.done = 0
  ·exact .inr (fun h2 => of_decide_eq_false this ⟨h1, h2⟩)
  ·exact .inl h1)
 have HIO : Hid (idle = true → d.done = 0 ∧ d.job = Pat.zero) := hD (fun e => by have := HID.out; rw [e] at this; exact of_decide_eq_true this)
 clear HID
 cases hu : d.up
 ·have E := hD (HN.out.symm.trans (devCheck_is_off HL0.out HL1.out HC.out hu))
  by_cases c1 : d.running = 0
  ·have q1 : (d.running != 0) = false := by simp [c1]
   by_cases c2 : d.got = []
   ·have q2 : decide ((0 : Int) < (d.got.length : Int)) = false := by rw [c2]; simp
    cases c3 : d.busy
    ·cases c4 : idle
     ·have hz : Hid (n = 3) := hD (E.out.trans (if_pos (.inr (.inr (.inr (HIZ.out c4))))))
      clear c1
      go_wp2_with fail
      go_ret
      have hgg := HG.out
      have hs := HB2.out.size
      refine ⟨ret_int hz.out.symm, ?_⟩
      repeat (first | exact HB2.out | refine bA ?_ _)
     ·have hz : Hid (n = 0) := hD (E.out.trans (if_neg (by rintro (h | h | h | h | h); exact h c1; exact h c2; rw [c3] at h; cases h; exact h (HIO.out c4).1; exact h (HIO.out c4).2)))
      clear c1
      go_wp2_with fail
      go_ret
      have hgg := HG.out
      have hs := HB2.out.size
      refine ⟨ret_int hz.out.symm, ?_⟩
      repeat (first | exact HB2.out | refine bA ?_ _)
    ·have hz : Hid (n = 3) := hD (E.out.trans (if_pos (.inr (.inr (.inl c3)))))
     clear c1
     go_wp2_with fail
     go_ret
     have hgg := HG.out
     have hs := HB2.out.size
     refine ⟨ret_int hz.out.symm, ?_⟩
     repeat (first | exact HB2.out | refine bA ?_ _)
   ·have q2 : decide ((0 : Int) < (d.got.length : Int)) = true := decide_eq_true (by have := List.length_pos_iff.2 c2; omega)
    have hz : Hid (n = 3) := hD (E.out.trans (if_pos (.inr (.inl c2))))
    have c2n : 0 < d.got.length := List.length_pos_iff.2 c2
    clear c1
    go_wp2_with fail
    go_ret
    have hgg := HG.out
    have hs := HB2.out.size
    refine ⟨ret_int hz.out.symm, ?_⟩
    repeat (first | exact HB2.out | refine bA ?_ _)
  ·have q1 : (d.running != 0) = true := by simp [c1]
   have hz : Hid (n = 3) := hD (E.out.trans (if_pos (.inl c1)))
   clear c1
   go_wp2_with fail
   go_ret
   have hgg := HG.out
   have hs := HB2.out.size
   refine ⟨ret_int hz.out.symm, ?_⟩
   repeat (first | exact HB2.out | refine bA ?_ _)
 have hact := rec_active (recRead_ok HC.out)
 have hok := recRead_ok HC.out
 have hnw := refNewest_ok HC.out
 have KN := hD (fun w => newest_calls d.c0 d.c1 w)
 rw [hnw] at KN
 have HIM := hD (fun w h => imageOf_calls d L w h HL0.out HL1.out HC.out)
 have hrec : (recRead d.c0 d.c1).1 = d.rec_ := rfl
 have E := hD (HN.out.symm.trans (devCheck_is_up HL0.out HL1.out HC.out hu))
 rw [hrec] at KN hact hok E
 obtain ⟨rk, hrk⟩ : ∃ rk, (recRead d.c0 d.c1).2 = rk := ⟨_, rfl⟩
 rw [hrk] at KN
 generalize d.rec_ = r at *
 obtain ⟨a, ha, ha1⟩ : ∃ a : Nat, r.active = (a : Int) ∧ a ≤ 1 := ⟨r.active.toNat, by omega, by omega⟩
 have HOK := hD hok
 have HA := hD ha
 clear hrec hrk hnw hok hact ha HN
 go_wp2_with fail
 refine (KN.out _).mono ?_
 rintro e w3 ⟨rfl, hb⟩
 obtain ⟨a0r, a0f, a0n, a0c, a0z, a0l⟩ := keep1 (g := g) (cs := devA d L) hb a0r (by go_simp) a0f
 have HB3 : Hid (Below w.heap.size w w3) := hD (HB2.out.trans (hb.mono HB2.out.size))
 clear hb KN HB2
 go_upto_region 12 with fail
 obtain ⟨w4, hw4⟩ : ∃ w4, w3.alloc (.cells (recA r) 29) = w4 := ⟨_, rfl⟩
 have hb : Below w3.heap.size w3 w4 := by rw [← hw4]; exact (Below.refl _ _).alloc (Nat.le_refl _) _
 have r0r : rowOf w4 w3.heap.size = recA r := by rw [← hw4, rowOf_alloc, if_pos rfl]
 have r0f : frOf w4 w3.heap.size = (0, 0) := by rw [← hw4, frOf_alloc, if_pos rfl]
 obtain ⟨a0r, a0f, a0n, a0c, a0z, a0l⟩ := keep1 (g := g) (cs := devA d L) hb a0r (by go_simp) a0f
 have HB4 : Hid (Below w.heap.size w w4) := hD (HB3.out.trans (hb.mono HB3.out.size))
 rw [hw4]
 obtain ⟨gr, hgr⟩ : ∃ gr, w3.heap.size = gr := ⟨_, rfl⟩
 rw [hgr] at r0r r0f ⊢
 clear hw4 hb hgr HB3
 obtain ⟨r0r, r0f, r0n, r0c, r0z, r0l⟩ := keep1 (Below.refl w4.heap.size w4) r0r (by simp [recA]) r0f
 go_cut [78] (fun v wx => v = .bool (decide (d.running < 0 ∨ 1 < d.running ∨ (d.running ≠ r.active ∧ r.trying = false))) ∧ Hid (Below w4.heap.size w4 wx))
 case first =>
  by_cases c1 : 0 ≤ d.running ∧ d.running ≤ 1
  ·have KI := hD (fun w => refIn_t (n := d.running) (a := 0) (b := 1) c1 w)
   cases c2 : r.trying
   ·by_cases c3 : d.running = r.active
    ·have q3 : (d.running != r.active) = false := by simp [c3]
     have hres : decide (d.running < 0 ∨ 1 < d.running ∨ (d.running ≠ r.active ∧ r.trying = false)) = false := decide_eq_false (by rintro (h | h | h); omega; omega; exact h.1 c3)
     clear c1 c3
     go_wp2_with fail
     refine (KI.out _).mono ?_
     rintro e w5 ⟨rfl, rfl⟩
     go_wp2_with fail
     go_meet
     case rel => exact ⟨by rw [hres], hD (Below.refl _ _)⟩
    ·have q3 : (d.running != r.active) = true := by simp [c3]
     have hres : decide (d.running < 0 ∨ 1 < d.running ∨ (d.running ≠ r.active ∧ r.trying = false)) = true := decide_eq_true (.inr (.inr ⟨c3, c2⟩))
     clear c1 c3
     go_wp2_with fail
     refine (KI.out _).mono ?_
     rintro e w5 ⟨rfl, rfl⟩
     go_wp2_with fail
     go_meet
     case rel => exact ⟨by rw [hres], hD (Below.refl _ _)⟩
   ·have hres : decide (d.running < 0 ∨ 1 < d.running ∨ (d.running ≠ r.active ∧ r.trying = false)) = false := decide_eq_false (by rintro (h | h | h); omega; omega; rw [c2] at h; cases h.2)
    clear c1
    go_wp2_with fail
    refine (KI.out _).mono ?_
    rintro e w5 ⟨rfl, rfl⟩
    go_wp2_with fail
    go_meet
    case rel => exact ⟨by rw [hres], hD (Below.refl _ _)⟩
  ·have KI := hD (fun w => refIn_f (n := d.running) (a := 0) (b := 1) (by omega) w)
   have hres : decide (d.running < 0 ∨ 1 < d.running ∨ (d.running ≠ r.active ∧ r.trying = false)) = true := decide_eq_true (by omega)
   clear c1
   go_wp2_with fail
   refine (KI.out _).mono ?_
   rintro e w5 ⟨rfl, rfl⟩
   go_wp2_with fail
   go_meet
   case rel => exact ⟨by rw [hres], hD (Below.refl _ _)⟩
 case rest =>
 obtain ⟨rfl, hb⟩ := hcut
 obtain ⟨a0r, a0f, a0n, a0c, a0z, a0l⟩ := keep1 (g := g) (cs := devA d L) hb.out a0r (by go_simp) a0f
 obtain ⟨r0r, r0f, r0n, r0c, r0z, r0l⟩ := keep1 (g := gr) (cs := recA r) hb.out r0r (by simp [recA]) r0f
 have HB5 : Hid (Below w.heap.size w wc) := hD (HB4.out.trans (hb.out.mono HB4.out.size))
 clear hb HB4
 by_cases c1 : d.running < 0 ∨ 1 < d.running ∨ (d.running ≠ r.active ∧ r.trying = false)
 ·have q : decide (d.running < 0 ∨ 1 < d.running ∨ (d.running ≠ r.active ∧ r.trying = false)) = true := decide_eq_true c1
  have hz : Hid (n = 2) := hD (E.out.trans (devUp_range c1))
  rw [q]
  clear c1 q
  go_wp2_with fail
  go_ret
  have hgg := HG.out
  have hs := HB5.out.size
  refine ⟨ret_int hz.out.symm, ?_⟩
  repeat (first | exact HB5.out | refine bA ?_ _)
 have q : decide (d.running < 0 ∨ 1 < d.running ∨ (d.running ≠ r.active ∧ r.trying = false)) = false := decide_eq_false c1
 have HRG := hD c1
 rw [q]
 clear c1 q
 go_wp2_with fail
 refine (refChkList_calls L.ag L.cg d.got _ HIN.out.lg (HIN.out.got.stays HB5.out)).mono ?_
 rintro e w6 ⟨rfl, hb⟩
 obtain ⟨a0r, a0f, a0n, a0c, a0z, a0l⟩ := keep1 (g := g) (cs := devA d L) hb a0r (by go_simp) a0f
 obtain ⟨r0r, r0f, r0n, r0c, r0z, r0l⟩ := keep1 (g := gr) (cs := recA r) hb r0r (by simp [recA]) r0f
 have HB6 : Hid (Below w.heap.size w w6) := hD (HB5.out.trans (hb.mono HB5.out.size))
 clear hb HB5
 by_cases c1 : chkList d.got = 0
 case neg =>
  have q : (chkList d.got != 0) = true := by simp [c1]
  have hz : Hid (n = chkList d.got) := hD (E.out.trans (devUp_list HRG.out c1))
  generalize chkList d.got = e1 at *
  clear c1
  go_wp2_with fail
  go_ret
  have hgg := HG.out
  have hs := HB6.out.size
  refine ⟨ret_int hz.out.symm, ?_⟩
  repeat (first | exact HB6.out | refine bA ?_ _)
 rw [c1]
 have HGT := hD c1
 clear c1
 cases c2 : d.busy
 ·have E2 := hD (E.out.trans (devUp_idle HRG.out HGT.out c2))
  cases c4 : idle
  ·have hz : Hid (n = 3) := hD (E2.out.trans (if_pos (HIZ.out c4)))
   clear c4
   go_wp2_with fail
   go_ret
   have hgg := HG.out
   have hs := HB6.out.size
   refine ⟨ret_int hz.out.symm, ?_⟩
   repeat (first | exact HB6.out | refine bA ?_ _)
  ·have hz : Hid (n = 0) := hD (E2.out.trans (if_neg (by rintro (h | h); exact h (HIO.out c4).1; exact h (HIO.out c4).2)))
   clear c4
   go_wp2_with fail
   go_ret
   have hgg := HG.out
   have hs := HB6.out.size
   refine ⟨ret_int hz.out.symm, ?_⟩
   repeat (first | exact HB6.out | refine bA ?_ _)
 have E2 := hD (E.out.trans (devUp_busy HRG.out HGT.out c2))
 clear E HRG HGT HIZ HIO
 go_upto_region 21 with fail
 obtain ⟨a', ha', ha2⟩ : ∃ a' : Nat, a + a' = 1 ∧ a' ≤ 1 := ⟨1 - a, by omega, by omega⟩
 have hsub : (1 : Int) - (a : Int) = (a' : Int) := by omega
 have hwr : IntKind.i64.wrap ((1 : Int) - (a : Int)) = (a' : Int) := by rw [hsub]; exact IntWalk.i64_in _ (by omega)
 obtain ⟨bad, hbad⟩ : ∃ b, decide (r.trying = true ∨ d.job.to_ < r.floor ∨ d.job.from_ ≠ (r.at_ r.active).ver ∨ (r.at_ (1 - r.active)).ver ≠ 0) = b := ⟨_, rfl⟩
 have HBAD := hD hbad
 have hbad2 := hbad
 rw [HA.out, hsub] at hbad2
 have HBAD2 := hD hbad2
 clear hbad hbad2
 go_cut [121] (fun v wx => v = .bool bad ∧ Hid (Below w6.heap.size w6 wx))
 case first =>
  have ha := HA.out
  have pv := recA_ver r ha1
  have pv2 := recA_ver r ha2
  have z3 := (at_sizes HOK.out (a' : Int)).2.2
  have k1 : (0 : Int) ≤ (a : Int) := by omega
  have k2 : (a : Int) < 2 := by omega
  have k3 : ¬ (2 : Int) ≤ (a : Int) := by omega
  have k4 : (0 : Int) ≤ (a' : Int) := by omega
  have k5 : (a' : Int) < 2 := by omega
  have k6 : ¬ (2 : Int) ≤ (a' : Int) := by omega
  clear HBAD
  cases c3 : r.trying
  ·by_cases c4 : d.job.to_ < r.floor
   ·have hres : bad = true := by rw [← HBAD2.out]; exact decide_eq_true (.inr (.inl c4))
    have q4 : decide (d.job.to_ < r.floor) = true := decide_eq_true c4
    clear c4 pv pv2
    go_quiet (fail)
    go_wp2_with fail
    go_meet
    case rel => exact ⟨by rw [hres], hD (below_drewN _ _)⟩
   ·have q4 : decide (d.job.to_ < r.floor) = false := decide_eq_false c4
    generalize (r.at_ (a : Int)).ver = x1 at *
    generalize (r.at_ (a' : Int)).ver = x2 at *
    by_cases c5 : d.job.from_ = x1
    ·have q5 : (d.job.from_ != x1) = false := by simp [c5]
     by_cases c6 : x2 = 0
     ·have hres : bad = false := by rw [← HBAD2.out]; exact decide_eq_false (by rintro (h | h | h | h); rw [c3] at h; cases h; exact c4 h; exact h c5; exact h c6)
      have q6 : decide (0 < x2) = false := decide_eq_false (by omega)
      clear c4 c5 c6
      go_quiet (fail)
      go_wp2_with fail
      go_meet
      case rel => exact ⟨by rw [hres], hD (below_drewN _ _)⟩
     ·have hres : bad = true := by rw [← HBAD2.out]; exact decide_eq_true (.inr (.inr (.inr c6)))
      have q6 : decide (0 < x2) = true := decide_eq_true (by omega)
      clear c4 c5 c6
      go_quiet (fail)
      go_wp2_with fail
      go_meet
      case rel => exact ⟨by rw [hres], hD (below_drewN _ _)⟩
    ·have q5 : (d.job.from_ != x1) = true := by simp [c5]
     have hres : bad = true := by rw [← HBAD2.out]; exact decide_eq_true (.inr (.inr (.inl c5)))
     clear c4 c5 pv2
     go_quiet (fail)
     go_wp2_with fail
     go_meet
     case rel => exact ⟨by rw [hres], hD (below_drewN _ _)⟩
  ·have hres : bad = true := by rw [← HBAD2.out]; exact decide_eq_true (.inl c3)
   clear pv pv2
   go_quiet (fail)
   go_wp2_with fail
   go_meet
   case rel => exact ⟨by rw [hres], hD (below_drewN _ _)⟩
 case rest =>
 obtain ⟨rfl, hb⟩ := hcut
 obtain ⟨a0r, a0f, a0n, a0c, a0z, a0l⟩ := keep1 (g := g) (cs := devA d L) hb.out a0r (by go_simp) a0f
 obtain ⟨r0r, r0f, r0n, r0c, r0z, r0l⟩ := keep1 (g := gr) (cs := recA r) hb.out r0r (by simp [recA]) r0f
 have HB7 : Hid (Below w.heap.size w wc) := hD (HB6.out.trans (hb.out.mono HB6.out.size))
 clear hb HB6 HBAD2
 cases hbd : bad
 case true =>
  have hz : Hid (n = 3) := hD (E2.out.trans (devBusy_form (of_decide_eq_true (HBAD.out.trans hbd))))
  clear hbd
  go_wp2_with fail
  go_ret
  have hgg := HG.out
  have hs := HB7.out.size
  refine ⟨ret_int hz.out.symm, ?_⟩
  repeat (first | exact HB7.out | refine bA ?_ _)
 have hnf := of_decide_eq_false (HBAD.out.trans hbd)
 have hrest := E2.out.trans (devBusy_rest hnf)
 clear hbd HBAD E2 hnf
 obtain ⟨img, himg⟩ : ∃ img, d.image r.active r = img := ⟨_, rfl⟩
 rw [himg] at hrest HIM
 have hil : img.length ≤ 64 := by
  rw [← himg]; unfold Dev.image; rw [List.length_take]
  have := (at_sizes HOK.out r.active).2.1
  omega
 rw [HA.out, hsub] at hrest
 have hpok := @patDo_ok (sumOn 1) d.job img
 obtain ⟨⟨b, en⟩, hpd⟩ : ∃ x, patDo (sumOn 1) d.job img = x := ⟨_, rfl⟩
 rw [hpd] at hrest hpok
 have HBL : Hid (en = 0 → b.length ≤ 64 ∧ (b.length : Int) = d.job.size ∧ d.job.size ≤ 64) := hD (fun e => by
  obtain ⟨_, _, _, g1, g2, _, g3⟩ := hpok e
  have g2' : b = applied img d.job.ops := g2
  rw [g2']
  have g4 := g1.s1
  exact ⟨by omega, g3, g4⟩)
 dsimp only at hrest
 have HR3 := hD hrest
 have HPD := hD hpd
 clear hrest hpok hpd himg hsub
 have RD : Hid (rowOf wc g = devA d L) := hD a0r
 have FD : Hid (frOf wc g = (0, 0)) := hD a0f
 have KI : Hid (∀ wq, Below wc.heap.size wc wq → Calls Tryz.prog 30 #[.agg (devA d L)] wq (ImRet wq img)) := hD (fun wq h => HIM.out wq ((HIN.out.stays HB7.out).stays h))
 have KD : Hid (∀ wq A c, Below wc.heap.size wc wq → img.length ≤ c → Bts wq A img → Calls Tryz.prog 29 #[.agg (patA d.job.from_ d.job.to_ d.job.old d.job.new_ d.job.size L.aj d.job.ops.length L.cj), .slice A img.length c] wq (ByRet2 wq b en)) := hD (fun wq A c h hc hb => by
  have hq := refDone_calls L.aj A L.cj c d.job img wq hc (by omega) hb ((HIN.out.job.stays HB7.out).stays h)
  rw [HPD.out] at hq
  exact hq)
 go_wp2_with fail
 refine wp_region_free (by kernel_rfl) (some 123 :: some 124 :: some 125 :: some 126 :: some 127 :: some 122 :: some 128 :: some 129 :: some 8 :: some 9 :: []) (false :: false :: false :: true :: true :: true :: true :: true :: true :: true :: []) (.pointer (some ⟨g, 30, none⟩) :: .agg (patA d.job.from_ d.job.to_ d.job.old d.job.new_ d.job.size L.aj d.job.ops.length L.cj) :: .agg (devA d L) :: undef :: undef :: undef :: undef :: undef :: undef :: undef :: []) (imJ wc 3 4 5 6 7 8 9 img b en) 164 rfl rfl (by decide +kernel) (by decide +kernel) (by decide +kernel) rfl rfl (rfl) ?_ ?_
 ·refine ⟨?_, ?_⟩
  ·intro done cv a wq hn hw hcl h hJ
   have e1 := fO 1 (.pointer (some ⟨g, 0, none⟩)) h
   go_simp
  refine ⟨?_, ?_⟩
  ·intro done cv a wq hn hw hcl h hJ
   have e123 := fN 0 123 h hw
   obtain ⟨r_, f_, n_, c_, z_, l_⟩ := keep1 (imJ_bel hJ) RD.out (by go_simp) FD.out
   go_simp
  refine ⟨?_, ?_⟩
  ·intro done cv a wq hn hw hcl h hJ
   have e1 := fO 1 (.pointer (some ⟨g, 0, none⟩)) h
   obtain ⟨r_, f_, n_, c_, z_, l_⟩ := keep1 (imJ_bel hJ) RD.out (by go_simp) FD.out
   go_simp
  refine ⟨?_, ?_⟩
  ·intro done cv a wq hn hw hcl h hJ
   have e125 := fN 2 125 h hw
   have n3 := hn
   have n4 := nW 4 3 hcl n3
   obtain rfl : wq = wc.drew := imJ_0 (by simp [maskB, n3]) (by simp [maskB, n4]) hJ
   refine wp_call (vals := #[.agg (devA d L)]) (by rw [List.map_toArray, List.map_cons, List.map_nil, ch_ev e125]) (enters_of Tryz.func30 (by kernel_rfl) rfl _ _) (KI.out _ ((Below.refl _ _).drew)) ?_
   rintro e w' ⟨A1, c1, rfl, h3, h4, h5⟩
   exact ⟨_, rfl, _, rfl, imJ_i (by decide) (by simp [maskB, n4]) h3 h4 ((Below.refl _ _).drew.trans h5)⟩
  refine ⟨?_, ?_⟩
  ·intro done cv a wq hn hw hcl h hJ
   have e124 := fN 1 124 h hw; have e126 := fr_cv (i := 3) (t := 126) h (hw 3 (by decide)) rfl rfl
   have n4 := hn
   have m3 := hw 3 (by decide)
   have n5 := nW 5 4 hcl n4
   have n6 := nW 6 5 hcl n5
   have n7 := nW 7 5 hcl n5
   have n8 := nW 8 4 hcl n4
   have n9 := nW 9 4 hcl n4
   obtain ⟨A1, c1, y1, h3, h4, h5⟩ := imJ_1 (by simp [maskB, m3]) (by simp [maskB, n4]) hJ
   rw [y1] at e126
   refine wp_call (vals := #[.agg (patA d.job.from_ d.job.to_ d.job.old d.job.new_ d.job.size L.aj d.job.ops.length L.cj), .slice A1 (img).length c1]) (by rw [List.map_toArray, List.map_cons, List.map_cons, List.map_nil, ch_ev e124, ch_ev e126]) (enters_of Tryz.func29 (by kernel_rfl) rfl _ _) (KD.out _ _ _ h5 h3 h4) ?_
   rintro e w' ⟨A2, c2, rfl, g1, g2, g3⟩
   exact ⟨_, rfl, _, rfl, imJ_d (by simp [maskB, n5]) (by simp [maskB, n6]) (by simp [maskB, n7]) (by simp [maskB, n8]) (by simp [maskB, n9]) (by decide) (by decide) (by decide) (by decide) (by decide) g1 g2 (h5.trans (g3.mono h5.size))⟩
  refine ⟨?_, ?_⟩
  ·intro done cv a wq hn hw hcl h hJ
   have e127 := fr_cv (i := 4) (t := 127) h (hw 4 (by decide)) rfl rfl
   have m4 := hw 4 (by decide)
   refine wp_val (v := cv 4) (mx_move (ch_ev e127)) ⟨_, rfl, imJ_k (by simp [maskB, m4]) (by decide) hJ (fun A2 c2 _ _ _ q => ⟨fun _ => q, fun h => absurd h (by decide), fun h => absurd h (by decide), fun h => absurd h (by decide), fun h => absurd h (by decide)⟩)⟩
  refine ⟨?_, ?_⟩
  ·intro done cv a wq hn hw hcl h hJ
   have e122 := fr_cv (i := 5) (t := 122) h (hw 5 (by decide)) rfl rfl
   have m5 := hw 5 (by decide)
   have m4 := hcl 5 _ rfl m5 4 (by decide)
   obtain ⟨A2, c2, y1, _, _, _, g5, _⟩ := imJ_2 (by simp [maskB, m4]) hJ
   have y := g5 (by simp [maskB, m5])
   rw [y] at e122
   refine wp_val (v := .slice A2 (b).length c2) (by go_simp) ⟨_, rfl, imJ_k (by simp [maskB, m4]) (by decide) hJ (fun A3 c3 h8 _ _ _ => ⟨fun h => absurd h (by decide), fun _ => by have q := h8 (by simp [maskB, m5]); rw [y] at q; simp at q ⊢; exact q, fun h => absurd h (by decide), fun h => absurd h (by decide), fun h => absurd h (by decide)⟩)⟩
  refine ⟨?_, ?_⟩
  ·intro done cv a wq hn hw hcl h hJ
   have e122 := fr_cv (i := 5) (t := 122) h (hw 5 (by decide)) rfl rfl
   have m5 := hw 5 (by decide)
   have m4 := hcl 5 _ rfl m5 4 (by decide)
   obtain ⟨A2, c2, y1, _, _, _, g5, _⟩ := imJ_2 (by simp [maskB, m4]) hJ
   have y := g5 (by simp [maskB, m5])
   rw [y] at e122
   refine wp_val (v := iv en) (by go_simp) ⟨_, rfl, imJ_k (by simp [maskB, m4]) (by decide) hJ (fun A3 c3 h8 _ _ _ => ⟨fun h => absurd h (by decide), fun h => absurd h (by decide), fun _ => rfl, fun h => absurd h (by decide), fun h => absurd h (by decide)⟩)⟩
  refine ⟨?_, ?_⟩
  ·intro done cv a wq hn hw hcl h hJ
   have e128 := fr_cv (i := 6) (t := 128) h (hw 6 (by decide)) rfl rfl
   have m4 := hw 4 (by decide)
   have m6 := hw 6 (by decide)
   obtain ⟨A2, c2, y1, _, _, _, _, g6, _⟩ := imJ_2 (by simp [maskB, m4]) hJ
   have y := g6 (by simp [maskB, m6])
   rw [y] at e128
   refine wp_asg (v := .slice A2 (b).length c2) (ch_ev e128) ⟨_, rfl, imJ_k (by simp [maskB, m4]) (by decide) hJ (fun A3 c3 _ h9 _ _ => ⟨fun h => absurd h (by decide), fun h => absurd h (by decide), fun h => absurd h (by decide), fun _ => by have q := h9 (by simp [maskB, m6]); rw [y] at q; exact q, fun h => absurd h (by decide)⟩)⟩
  refine ⟨?_, ?_⟩
  ·intro done cv a wq hn hw hcl h hJ
   have e129 := fr_cv (i := 7) (t := 129) h (hw 7 (by decide)) rfl rfl
   have m4 := hw 4 (by decide)
   have m7 := hw 7 (by decide)
   obtain ⟨A2, c2, y1, _, _, _, _, _, g7, _⟩ := imJ_2 (by simp [maskB, m4]) hJ
   have y := g7 (by simp [maskB, m7])
   rw [y] at e129
   refine wp_asg (v := iv en) (ch_ev e129) ⟨_, rfl, imJ_k (by simp [maskB, m4]) (by decide) hJ (fun A3 c3 _ _ _ _ => ⟨fun h => absurd h (by decide), fun h => absurd h (by decide), fun h => absurd h (by decide), fun h => absurd h (by decide), fun _ => rfl⟩)⟩
  exact trivial
 intro dn cv w8 hall hJ
 obtain ⟨A2, c2', y4, g1, g2, g3, g5, g6, g7, g8, g9⟩ := imJ_2 (hall 4 rfl (by decide)) hJ
 replace g5 := g5 (hall 5 rfl (by decide))
 replace g6 := g6 (hall 6 rfl (by decide))
 replace g7 := g7 (hall 7 rfl (by decide))
 replace g8 := g8 (hall 8 rfl (by decide))
 replace g9 := g9 (hall 9 rfl (by decide))
 simp only [freeAll, putAll_some, putAll_none, putAll_nil, List.getD_cons_zero, List.getD_cons_succ, Bool.false_eq_true, if_true, if_false, reduceIte, Nat.zero_add, Nat.reduceAdd, List.setIfInBounds_toArray, List.set_cons_zero, List.set_cons_succ]
 rw [y4, g5, g6, g7, g8, g9]
 obtain ⟨a0r, a0f, a0n, a0c, a0z, a0l⟩ := keep1 (g := g) (cs := devA d L) g3 a0r (by go_simp) a0f
 obtain ⟨r0r, r0f, r0n, r0c, r0z, r0l⟩ := keep1 (g := gr) (cs := recA r) g3 r0r (by simp [recA]) r0f
 have HB8 : Hid (Below w.heap.size w w8) := hD (HB7.out.trans (g3.mono HB7.out.size))
 have HBB := hD g1
 have HC2 := hD g2
 clear hJ hall y4 g5 g6 g7 g8 g9 g1 g2 g3 KI KD RD FD HIM HB7 HPD
 by_cases c1 : en = 0
 case neg =>
  have q : (en != 0) = true := by simp [c1]
  have hz : Hid (n = en) := hD (HR3.out.trans (if_pos c1))
  clear c1
  go_wp2_with fail
  go_ret
  have hgg := HG.out
  have hs := HB8.out.size
  refine ⟨ret_int hz.out.symm, ?_⟩
  repeat (first | exact HB8.out | refine bA ?_ _)
 subst c1
 obtain ⟨b1, b2, b3⟩ := HBL.out rfl
 have HR4 := hD (HR3.out.trans (if_neg (by decide)))
 have hw7 : IntKind.i64.wrap (d.job.size + 7) = d.job.size + 7 := IntWalk.i64_in _ (by omega)
 have hmn := run_min64 (d.job.size + 7)
 have HSZ := hD b3
 have HB1 := hD b1
 clear HR3 HBL b2
 go_upto_region 26 with fail
 obtain ⟨bad2, hbad2⟩ : ∃ b, decide (d.done < 0 ∨ 64 < d.done ∨ d.done % 8 ≠ 0 ∨ d.job.size + 8 ≤ d.done) = b := ⟨_, rfl⟩
 have HBAD := hD hbad2
 clear hbad2 b1 b3
 go_cut [147] (fun v wx => v = .bool bad2 ∧ Hid (Below w8.heap.size w8 wx))
 case first =>
  have hsz := HSZ.out
  by_cases c1 : 0 ≤ d.done ∧ d.done ≤ min 64 (d.job.size + 7)
  ·have KI := hD (fun w => refIn_t (n := d.done) (a := 0) (b := min 64 (d.job.size + 7)) c1 w)
   have hmod : d.done.tmod 8 = d.done % 8 := Int.tmod_eq_emod_of_nonneg c1.1
   by_cases c3 : d.done % 8 = 0
   ·have q3 : (d.done.tmod 8 != 0) = false := by rw [hmod]; simp [c3]
    have hres : bad2 = false := by rw [← HBAD.out]; exact decide_eq_false (by omega)
    clear c1 c3 hmod hsz
    go_wp2_with fail
    refine (KI.out _).mono ?_
    rintro e w9 ⟨rfl, rfl⟩
    go_wp2_with fail
    go_meet
    case rel => exact ⟨by rw [hres], hD (Below.refl _ _)⟩
   ·have q3 : (d.done.tmod 8 != 0) = true := by rw [hmod]; simp [c3]
    have hres : bad2 = true := by rw [← HBAD.out]; exact decide_eq_true (.inr (.inr (.inl c3)))
    clear c1 c3 hmod hsz
    go_wp2_with fail
    refine (KI.out _).mono ?_
    rintro e w9 ⟨rfl, rfl⟩
    go_wp2_with fail
    go_meet
    case rel => exact ⟨by rw [hres], hD (Below.refl _ _)⟩
  ·have KI := hD (fun w => refIn_f (n := d.done) (a := 0) (b := min 64 (d.job.size + 7)) (by omega) w)
   have hres : bad2 = true := by rw [← HBAD.out]; exact decide_eq_true (by omega)
   clear c1 hsz
   go_wp2_with fail
   refine (KI.out _).mono ?_
   rintro e w9 ⟨rfl, rfl⟩
   go_wp2_with fail
   go_meet
   case rel => exact ⟨by rw [hres], hD (Below.refl _ _)⟩
 case rest =>
 obtain ⟨rfl, hb⟩ := hcut
 obtain ⟨a0r, a0f, a0n, a0c, a0z, a0l⟩ := keep1 (g := g) (cs := devA d L) hb.out a0r (by go_simp) a0f
 obtain ⟨r0r, r0f, r0n, r0c, r0z, r0l⟩ := keep1 (g := gr) (cs := recA r) hb.out r0r (by simp [recA]) r0f
 have HB9 : Hid (Below w.heap.size w wc) := hD (HB8.out.trans (hb.out.mono HB8.out.size))
 have HBB := hD (HBB.out.stays hb.out)
 clear hb HB8 hw7 hmn
 cases hbd : bad2
 case true =>
  have hz : Hid (n = 2) := hD (HR4.out.trans (if_pos (of_decide_eq_true (HBAD.out.trans hbd))))
  clear hbd
  go_wp2_with fail
  go_ret
  have hgg := HG.out
  have hs := HB9.out.size
  refine ⟨ret_int hz.out.symm, ?_⟩
  repeat (first | exact HB9.out | refine bA ?_ _)
 have hnb := of_decide_eq_false (HBAD.out.trans hbd)
 have HR5 := hD (HR4.out.trans (if_neg hnb))
 obtain ⟨dn', hdn⟩ : ∃ dn' : Nat, d.done = (dn' : Int) := ⟨d.done.toNat, by omega⟩
 have hdt : d.done.toNat = dn' := by omega
 rw [hdt] at HR5
 have hd64 : dn' ≤ 64 := by omega
 have HDN := hD hdn
 clear hbd HBAD HR4 hnb hdt
 have hsl := slot_len HL0.out HL1.out (a' : Int)
 obtain ⟨A6, c6, p1, p2, p3⟩ := devSlotA (HIN.out.stays HB9.out) ha2
 generalize d.slot (a' : Int) = sl at *
 have HP1 := hD p1
 have HX := hD p3
 obtain ⟨bx, ox, hax, -⟩ := p3 0 (by omega)
 have HSL := hD (pre_slice (A := A6) (n := sl.length) (c := c6) dn' hdn p2 (by omega) (by omega) ⟨bx, ox, hax⟩)
 have hrl := room_len HB1.out
 obtain ⟨eq, heq⟩ : ∃ eq, decide (sl.take dn' = (room b).take dn') = eq := ⟨_, rfl⟩
 have hlt1 : (sl.take dn').length = dn' := by rw [List.length_take, hsl]; omega
 have hlt2 : ((room b).take dn').length = dn' := by rw [List.length_take, hrl]; omega
 have KQ : Hid (∀ wq A c, Below wc.heap.size wc wq → dn' ≤ c → Bts wq A ((room b).take dn') → Calls Tryz.prog 9 #[.slice A6 dn' c6, .slice A dn' c] wq (RetB wq (.bool eq))) := hD (fun wq A c h hc hb => by
  have hq := (bytesEqual_calls A6 A c6 c (sl.take dn') ((room b).take dn') wq (by omega) (by omega) (mid_take (HX.out.stays h) dn') hb).mono (fun _ _ h => h.to)
  rw [heq, hlt1, hlt2] at hq
  exact hq)
 have HQ := hD heq
 have HRL := hD hrl
 obtain ⟨rb, hrb⟩ : ∃ rb, room b = rb := ⟨_, rfl⟩
 rw [hrb] at KQ HQ HRL HR5
 have HRB := hD hrb
 have HKS : Hid ((0 : Int) ≤ (a' : Int) ∧ (a' : Int) < 2 ∧ ¬ (2 : Int) ≤ (a' : Int) ∧ IntKind.i64.wrap ((1 : Int) - (a : Int)) = (a' : Int)) := hD ⟨by omega, by omega, by omega, hwr⟩
 clear hsl p1 p2 p3 hax hrl heq hlt1 hlt2 hrb hwr hdn
 go_wp2_with fail
 have RD : Hid (rowOf wc g = devA d L) := hD a0r
 have FD : Hid (frOf wc g = (0, 0)) := hD a0f
 have RR : Hid (rowOf wc gr = recA r) := hD r0r
 have FR : Hid (frOf wc gr = (0, 0)) := hD r0f
 refine wp_region_mix (by kernel_rfl) (some 148 :: some 149 :: some 150 :: some 151 :: some 152 :: some 153 :: some 154 :: some 155 :: some 156 :: some 157 :: some 158 :: some 159 :: some 160 :: some 161 :: some 162 :: some 163 :: []) (none :: none :: none :: none :: none :: none :: none :: none :: none :: none :: some 0 :: none :: none :: some 1 :: some 2 :: some 3 :: []) (.pointer (some ⟨gr, 1, none⟩) :: iv (a : Int) :: iv (a' : Int) :: .pointer (some ⟨g, 0, none⟩) :: .pointer (some ⟨g, a', none⟩) :: .slice A6 sl.length c6 :: .pointer (some ⟨g, 36, none⟩) :: iv d.done :: .slice A6 dn' c6 :: .slice A2 b.length c2' :: undef :: .pointer (some ⟨g, 36, none⟩) :: iv d.done :: undef :: undef :: undef :: []) 4 (rmJ wc rb dn' eq) 164 rfl rfl (by decide +kernel) (by decide +kernel) (by decide +kernel) (by decide +kernel) rfl rfl (by decide +kernel) (by decide +kernel) (rfl) ?_ ?_
 ·refine ⟨?_, ?_⟩
  ·intro done cv k0 a wq hw h hJ hn
   have e5 := mO 5 (.pointer (some ⟨gr, 0, none⟩)) h
   go_simp
  refine ⟨?_, ?_⟩
  ·intro done cv k0 a wq hw h hJ hn
   have e148 := mN 0 148 h hw
   obtain ⟨r_, f_, n_, c_, z_, l_⟩ := keep1 (rmJ_bel hJ) RR.out (by simp [recA]) FR.out
   have hk_ := HA.out
   go_simp
  refine ⟨?_, ?_⟩
  ·intro done cv k0 a wq hw h hJ hn
   have e149 := mN 1 149 h hw
   obtain ⟨k1_, k2_, k3_, k4_⟩ := HKS.out
   go_simp
  refine ⟨?_, ?_⟩
  ·intro done cv k0 a wq hw h hJ hn
   have e1 := mO 1 (.pointer (some ⟨g, 0, none⟩)) h
   go_simp
  refine ⟨?_, ?_⟩
  ·intro done cv k0 a wq hw h hJ hn
   have e151 := mN 3 151 h hw; have e150 := mN 2 150 h hw
   obtain ⟨k1_, k2_, k3_, k4_⟩ := HKS.out
   go_simp
  refine ⟨?_, ?_⟩
  ·intro done cv k0 a wq hw h hJ hn
   have e152 := mN 4 152 h hw
   obtain ⟨r_, f_, n_, c_, z_, l_⟩ := keep1 (rmJ_bel hJ) RD.out (by go_simp) FD.out
   have e_ := HP1.out
   go_simp
  refine ⟨?_, ?_⟩
  ·intro done cv k0 a wq hw h hJ hn
   have e1 := mO 1 (.pointer (some ⟨g, 0, none⟩)) h
   go_simp
  refine ⟨?_, ?_⟩
  ·intro done cv k0 a wq hw h hJ hn
   have e154 := mN 6 154 h hw
   obtain ⟨r_, f_, n_, c_, z_, l_⟩ := keep1 (rmJ_bel hJ) RD.out (by go_simp) FD.out
   go_simp
  refine ⟨?_, ?_⟩
  ·intro done cv k0 a wq hw h hJ hn
   have e153 := mN 5 153 h hw; have e155 := mN 7 155 h hw
   have hs_ := HSL.out
   go_simp
  refine ⟨?_, ?_⟩
  ·intro done cv k0 a wq hw h hJ hn
   have e8 := mO 8 (.slice A2 b.length c2') h
   exact mx_move (ch_ev e8)
  refine ⟨?_, ?_⟩
  ·intro done cv a wq hw h hJ
   have e157 := mN 9 157 h hw
   obtain rfl : wq = wc.drew := hJ
   refine wp_call (vals := #[.slice A2 b.length c2']) (by rw [List.map_toArray, List.map_cons, List.map_nil, ch_ev e157]) (enters_of Tryz.func31 (by kernel_rfl) rfl _ _) (filled_calls A2 c2' b _ HB1.out (HBB.out.stays (Below.refl _ _).drew)) ?_
   rintro e w' ⟨A5, c5, rfl, hown, hbel⟩
   rw [HRB.out] at hown ⊢
   exact ⟨_, rfl, _, rfl, A5, c5, by simp, hown.src.bts, hown.le, (Below.refl _ _).drew.trans hbel⟩
  refine ⟨?_, ?_⟩
  ·intro done cv k0 a wq hw h hJ hn
   have e1 := mO 1 (.pointer (some ⟨g, 0, none⟩)) h
   go_simp
  refine ⟨?_, ?_⟩
  ·intro done cv k0 a wq hw h hJ hn
   have e159 := mN 11 159 h hw
   obtain ⟨r_, f_, n_, c_, z_, l_⟩ := keep1 (rmJ_bel hJ) RD.out (by go_simp) FD.out
   go_simp
  refine ⟨?_, ?_⟩
  ·intro done cv a wq hw h hJ
   have e158 := mx_cv (i := 10) (t := 158) h (hw 10 (by decide)) rfl rfl; have e160 := mN 12 160 h hw
   obtain ⟨A5, c5, y1, g1, g2, g3⟩ := hJ
   rw [y1] at e158
   obtain ⟨by_, oy_, hay, -⟩ := g1 0 (by rw [HRL.out]; omega)
   have hs_ := pre_slice (z := d.done) dn' HDN.out g2 (by rw [HRL.out]; omega) (by rw [HRL.out]; omega) ⟨by_, oy_, hay⟩
   clear hay
   refine wp_val (v := .slice A5 dn' c5) (by go_simp) ⟨_, rfl, A5, c5, by simp, mid_take g1 dn', by rw [HRL.out] at g2; omega, g3⟩
  refine ⟨?_, ?_⟩
  ·intro done cv a wq hw h hJ
   have e156 := mN 8 156 h hw; have e161 := mx_cv (i := 13) (t := 161) h (hw 13 (by decide)) rfl rfl
   obtain ⟨A5, c5, y1, g1, g2, g3⟩ := hJ
   rw [y1] at e161
   refine wp_call (vals := #[.slice A6 dn' c6, .slice A5 dn' c5]) (by rw [List.map_toArray, List.map_cons, List.map_cons, List.map_nil, ch_ev e156, ch_ev e161]) (enters_of Tryz.func9 (by kernel_rfl) rfl _ _) (KQ.out _ _ _ g3 g2 g1) ?_
   rintro e w' ⟨rfl, hbel⟩
   exact ⟨_, rfl, _, rfl, by simp, g3.trans (hbel.mono g3.size)⟩
  refine ⟨?_, ?_⟩
  ·intro done cv a wq hw h hJ
   have e162 := mx_cv (i := 14) (t := 162) h (hw 14 (by decide)) rfl rfl
   obtain ⟨y1, g3⟩ := hJ
   rw [y1] at e162
   refine wp_val (v := .bool (!eq)) (by go_simp) ⟨_, rfl, by simp, g3⟩
  exact trivial
 intro cv5 w10 hJ
 obtain ⟨y15, hb⟩ := hJ
 simp only [mixAll, putAll_some, putAll_none, putAll_nil, List.getElem?_cons_zero, List.getElem?_cons_succ, Nat.zero_add, Nat.reduceAdd, List.setIfInBounds_toArray, List.set_cons_zero, List.set_cons_succ]
 rw [y15]
 have HB10 : Hid (Below w.heap.size w w10) := hD (HB9.out.trans (hb.mono HB9.out.size))
 clear hb y15
 cases eq
 ·have hz : Hid (n = 3) := hD (HR5.out.trans (if_pos (by have := HQ.out; simpa using this)))
  go_wp2_with fail
  go_ret
  have hgg := HG.out
  have hs := HB10.out.size
  refine ⟨ret_int hz.out.symm, ?_⟩
  repeat (first | exact HB10.out | refine bA ?_ _)
 ·have hz : Hid (n = 0) := hD (HR5.out.trans (if_neg (by have := HQ.out; simpa using this)))
  go_wp2_with fail
  go_ret
  have hgg := HG.out
  have hs := HB10.out.size
  refine ⟨ret_int hz.out.symm, ?_⟩
  repeat (first | exact HB10.out | refine bA ?_ _)
theorem refWorCheck_calls (x : Wor) (L : WLoc) (w : World) (h : WorIn w x L) : Calls Tryz.prog 6 #[.agg (worA x L)] w (RetB w (iv (worCheck x))) := by
 have HBA := hD ((Below.refl w.heap.size w).alloc (Nat.le_refl _) (.cells (worA x L) 40))
 have HIN := hD h
 have K1 := hD (fun w h => refReleases_calls L.ar L.cr x.rel w HIN.out.lr h)
 have K2 := hD (fun w h => refDevCheck_calls x.d L.l w h)
 obtain ⟨n, hn⟩ : ∃ n, worCheck x = n := ⟨_, rfl⟩
 rw [hn]
 have HN := hD hn
 obtain ⟨e1, he1⟩ : ∃ e, relCheck x.rel = e := ⟨_, rfl⟩
 obtain ⟨e2, he2⟩ : ∃ e, devCheck x.d = e := ⟨_, rfl⟩
 rw [he1] at K1
 rw [he2] at K2
 have HE1 := hD he1
 have HE2 := hD he2
 clear h hn he1 he2
 go_enter Tryz.func6, Tryz.ntmps6
 go_wp2_with fail
 refine (K1.out _ (HIN.out.rel.stays HBA.out)).mono ?_
 rintro e w0 ⟨rfl, hb⟩
 obtain ⟨a0r, a0f, a0n, a0c, a0z, a0l⟩ := kp (w.heap.size) (worA x L) hb
 have HB0 := hD (HBA.out.trans (hb.mono (by simp)))
 clear hb
 by_cases c1 : e1 ≠ 0
 ·have hz : Hid (n = e1) := hD (by rw [← HN.out, worCheck_rel (by rw [HE1.out]; exact c1), HE1.out])
  have q : (e1 != 0) = true := by simp [c1]
  clear c1
  go_wp2_with fail
  go_ret
  have hs := HB0.out.size
  refine ⟨ret_int hz.out.symm, ?_⟩
  repeat (first | exact HB0.out | refine bR ?_ _ | refine bC ?_ _ | refine bA ?_ _)
 have c1 := Decidable.not_not.1 c1
 subst c1
 go_wp2_with fail
 refine (K2.out _ (HIN.out.dev.stays HB0.out)).mono ?_
 rintro e w1 ⟨rfl, hb⟩
 obtain ⟨a0r, a0f, a0n, a0c, a0z, a0l⟩ := kp (w.heap.size) (worA x L) hb
 have HB1 := hD (HB0.out.trans (hb.mono HB0.out.size))
 clear hb
 by_cases c2 : e2 ≠ 0
 ·have hz : Hid (n = e2) := hD (by rw [← HN.out, worCheck_dev HE1.out (by rw [HE2.out]; exact c2), HE2.out])
  have q : (e2 != 0) = true := by simp [c2]
  clear c2
  go_wp2_with fail
  go_ret
  have hs := HB1.out.size
  refine ⟨ret_int hz.out.symm, ?_⟩
  repeat (first | exact HB1.out | refine bR ?_ _ | refine bC ?_ _ | refine bA ?_ _)
 have c2 := Decidable.not_not.1 c2
 subst c2
 by_cases c3 : 120 < x.net.length
 ·have hz : Hid (n = 1) := hD (by rw [← HN.out, worCheck_many HE1.out HE2.out c3])
  have q : (120 : Int) < (x.net.length : Int) := by omega
  go_wp2_with fail
  go_ret
  have hs := HB1.out.size
  refine ⟨ret_int hz.out.symm, ?_⟩
  repeat (first | exact HB1.out | refine bR ?_ _ | refine bC ?_ _ | refine bA ?_ _)
 have q3 : ¬ (120 : Int) < (x.net.length : Int) := by omega
 have HN2 : Hid (netCheck x.net = n) := hD (by rw [← HN.out, worCheck_net HE1.out HE2.out c3])
 have hcap : (x.net.length : Int) ≤ (L.cn : Int) := by have := HIN.out.kn; omega
 have HNT := hD HIN.out.net
 go_wp2_with fail
 generalize L.an = an at *
 go_loopw [27] (fun i wr => ∃ k : Nat, k ≤ x.net.length ∧ i = .int .i64 k ∧ Hid (netCheck (x.net.drop k) = n) ∧ Hid (Below w.heap.size w wr)) (fun i _ => x.net.length - (intOf i).toNat)
 case atStart => exact ⟨0, Nat.zero_le _, rfl, hD (by rw [List.drop_zero]; exact HN2.out), HB1⟩
 case round =>
  clear HB1 HN2 a0r a0f a0n a0c a0z a0l
  rename World => wr
  obtain ⟨k, hk, rfl, HE, HB⟩ := hrel
  have hsz := HB.out.size
  by_cases hlt : k < x.net.length
  ·obtain ⟨b, o, B, c, rfl, hb, hck, hin⟩ := (HNT.out.stays HB.out).chk hlt
   obtain ⟨y, hy⟩ : ∃ y, x.net[k] = y := ⟨_, rfl⟩
   rw [hy] at hck hin
   obtain ⟨q0, q1, q2, q4, q5⟩ := hck
   have hdr : x.net.drop k = y :: x.net.drop (k + 1) := by rw [List.drop_eq_getElem_cons hlt, hy]
   have hne := HE.out
   rw [hdr, netCheck_cons] at hne
   have HNE := hD hne
   have KC := hD (fun w => refChkCheckX_calls B c y w ⟨hin.i2, hin.i3⟩)
   have hwk : IntKind.i64.wrap ((k : Int) + 1) = (k : Int) + 1 := IntWalk.i64_in _ (by omega)
   have dl : decide ((k : Int) < (x.net.length : Int)) = true := decide_eq_true (by omega)
   obtain ⟨e3, he3⟩ : ∃ e, chkCheck y = e := ⟨_, rfl⟩
   rw [he3] at KC HNE
   clear hy hin hdr hne he3
   go_wp2_with fail
   refine (KC.out _).mono ?_
   rintro e w2 ⟨rfl, hb2⟩
   have HB2 : Hid (Below w.heap.size w w2) := hD (by
    refine Below.trans ?_ (hb2.mono (by first | omega | (simp <;> omega)))
    repeat (first | exact HB.out | refine bA ?_ _))
   clear hb2
   by_cases c5 : e3 ≠ 0
   ·have hz : Hid (n = e3) := hD (by have := HNE.out; rw [if_pos c5] at this; exact this.symm)
    have q : (e3 != 0) = true := by simp [c5]
    clear c5
    go_wp2_with fail
    go_ret
    have hs := HB2.out.size
    refine ⟨ret_int hz.out.symm, ?_⟩
    repeat (first | exact HB2.out | refine bR ?_ _ | refine bC ?_ _ | refine bA ?_ _)
   ·have c5 := Decidable.not_not.1 c5
    subst c5
    have HE2' : Hid (netCheck (x.net.drop (k + 1)) = n) := hD (by have := HNE.out; rw [if_neg (by decide)] at this; exact this)
    go_wp2_with fail
    go_roundw
    case rel => exact ⟨k + 1, by omega, by go_num, HE2', HB2⟩
    case measure => simp [intOf]; omega
  ·obtain rfl : k = x.net.length := by omega
   have dl : decide ((x.net.length : Int) < (x.net.length : Int)) = false := by simp
   have hz : Hid (n = 0) := hD (by have := HE.out; rw [List.drop_length] at this; exact this.symm)
   go_wp2_with fail
   go_ret
   have hs := HB.out.size
   refine ⟨ret_int hz.out.symm, ?_⟩
   repeat (first | exact HB.out | refine bR ?_ _ | refine bC ?_ _ | refine bA ?_ _)
def Bex (g base : Nat) (w w' : World) : Prop := Below 0 w w' ∧ ∀ k, k < base → k ≠ g → w'.heap[k]? = w.heap[k]?
section
variable {g base : Nat} {w w' w2 : World}
theorem Bex.refl (g base : Nat) (w : World) : Bex g base w w := ⟨Below.refl _ _, fun _ _ _ => rfl⟩
theorem Bex.below (h : Bex g base w w') (hb : Below w'.heap.size w' w2) (hg : g ≤ w'.heap.size) (hs : base ≤ w'.heap.size) : Bex g base w w2 := ⟨h.1.trans (hb.mono (Nat.zero_le _)), fun k h1 h2 => (hb.block k (by omega)).trans (h.2 k h1 h2)⟩
theorem Bex.row (h : Bex g base w w') {q : Nat} (hq : q = g ∨ base ≤ q) (cs : Array Value) : Bex g base w (w'.setRow q cs) := ⟨below_row h.1 (Nat.zero_le _) _, fun k h1 h2 => (setRow_other _ _ _ _ (by omega)).trans (h.2 k h1 h2)⟩
theorem Bex.to (h : Bex g base w w') {B : Nat} (h1 : B ≤ g) (h2 : B ≤ base) : Below B w w' := ⟨h.1.os, h.1.tape, h.1.output, h.1.size, fun k hk => h.2 k (by omega) (by omega)⟩
end
def HaRet (w : World) (g base : Nat) (x : Wor) (n : Int) : Ending → World → Prop := fun en w' =>
 en = .returned (iv n) ∧ (n = 0 → ∃ L, rowOf w' g = worA x L ∧ frOf w' g = (0, 0) ∧ ∀ v : World, (∀ k, base ≤ k → k ≠ g → k < w'.heap.size → v.heap[k]? = w'.heap[k]?) → WorIn v x L) ∧ Bex g base w w' ∧ w.heap.size ≤ w'.heap.size
theorem rowOf_heap {w w' : World} {g : Nat} (h : w'.heap[g]? = w.heap[g]?) : rowOf w' g = rowOf w g ∧ frOf w' g = frOf w g := by unfold rowOf frOf; rw [h]; exact ⟨rfl, rfl⟩
def HapOk (kd n : Int) : Prop := ∀ (g base m top : Nat) (ds : List (Option Addr × Nat)) (x : Wor) (L : WLoc) (w : World), rowOf w g = worA x L → frOf w g = (0, 0) → (g < base ∨ top ≤ g) → WorAt w base m top ds x L → WorOk x → I64 n → Calls Tryz.prog 53 #[.pointer (some ⟨g, 0, none⟩), .agg #[iv kd, iv n]] w (HaRet w g base (worHappen x kd n).1 (worHappen x kd n).2)
def KrRet {α : Type} (K : Kd α) (w : World) (l : List α) : Ending → World → Prop := fun en w' =>
 ∃ A c ds, en = .returned (.slice A l.length c) ∧ GRow K w' w.heap.size l ds A c ∧ Each K l ds (fun k => w.heap.size ≤ k) ∧ Below w.heap.size w w'
theorem images_calls (A : Option Addr) (c : Nat) (l : List (List UInt8)) (w : World) (hl : l.length ≤ 1048576) (hs : Ims w A l) :
  Calls Tryz.prog 51 #[.slice A l.length c] w (KrRet kImg w l) := by
 obtain ⟨ds0, hg⟩ := hs.gsrc
 have hbd := hs.bound
 have HBD := hD hbd
 have HG := hD hg
 have K1 := hD (cloneRows_calls A l.length c (kImg.cells l ds0) w (cells_len _ _ hg.len) (by omega) hg.row (cells_oneCell _ _))
 clear hs hg hbd
 go_enter Tryz.func51, Tryz.ntmps51
 go_wp2_with fail
 refine K1.out.mono ?_
 rintro e w1 ⟨A1, c1, rfl, hown, hb1⟩
 have hrow : GRow kImg w1 w.heap.size l ds0 A1 c1 := ⟨HG.out.len, hown, (HG.out.stays hb1).data, fun i o d h1 h2 hx k hk e => by
  have := HG.out.each i o d h1 h2 hx k hk
  have := (hown.block k e).1
  omega⟩
 have HR0 := hD hrow
 have HB0 : Hid (Below w.heap.size w w1) := hD hb1
 clear hown hb1 hrow K1
 go_wp2_with fail
 go_loopw [9] (fun i wr => ∃ (k : Nat) (ds : List (Option Addr × Nat)), k ≤ l.length ∧ i = .int .i64 k ∧ Hid (GRow kImg wr w.heap.size l ds A1 c1) ∧ Hid (∀ (j : Nat) (o : (List UInt8)) (d : Option Addr × Nat), j < k → l[j]? = some o → ds[j]? = some d → kImg.dat o ≠ [] → ∀ q, d.1.map (·.block) = some q → w.heap.size ≤ q) ∧ Hid (Below w.heap.size w wr)) (fun i _ => l.length - (intOf i).toNat)
 case atStart => exact ⟨0, ds0, Nat.zero_le _, rfl, HR0, hD (fun j o d h => by omega), HB0⟩
 case round =>
  clear HR0 HB0
  rename World => wr
  obtain ⟨k, ds, hk, rfl, HR, HN, HB⟩ := hrel
  have hsz := HB.out.size
  by_cases hlt : k < l.length
  ·obtain ⟨g, rfl, hg1, hg2⟩ := HR.out.row.form (by omega)
   have hlk : l[k]? = some l[k] := List.getElem?_eq_getElem hlt
   have hdk : ds[k]? = some (ds[k]'(by have := HR.out.len; omega)) := List.getElem?_eq_getElem _
   obtain ⟨x, hx⟩ : ∃ x, l[k] = x := ⟨_, rfl⟩
   obtain ⟨e, he⟩ : ∃ e, ds[k]'(by have := HR.out.len; omega) = e := ⟨_, rfl⟩
   rw [hx] at hlk
   rw [he] at hdk
   have hcell : ∀ j, j < 1 → wr.cell? ⟨g, k + j, none⟩ = (kImg.cell x e)[j]? := fun j hj => by
    rw [HR.out.row.cellAt _ (show k + j < l.length * 1 by omega)]
    have h9 := cells_at (K := kImg) l ds HR.out.len k j x e hlk hdk hj
    rw [show k * kImg.size + j = k + j by show k * 1 + j = k + j; omega] at h9
    exact h9
   have q0 : wr.cell? ⟨g, k, none⟩ = some (.slice e.1 x.length e.2) := by have := hcell 0 (by decide); simpa [kImg] using this
   obtain ⟨hd1, hd2⟩ := HR.out.data k x e hlk hdk
   have hxl : x.length ≤ 1048576 := (HBD.out x (List.mem_of_getElem? hlk))
   have HD1 : Hid (Bts wr e.1 x) := hD hd1
   have HLK := hD hlk
   have HDK := hD hdk
   have K2 := hD (fun w h => cloneBytes_calls e.1 x.length e.2 (x.map bv) w (by simp) (by omega) h (bv_one _))
   have hfr : wr.frozen? ⟨g, k, none⟩ = false := HR.out.row.frozenAt _
   have dl : decide ((k : Int) < (l.length : Int)) = true := decide_eq_true (by omega)
   have hwk : IntKind.i64.wrap ((k : Int) + 1) = (k : Int) + 1 := IntWalk.i64_in _ (by omega)
   have hcap : (l.length : Int) ≤ (c1 : Int) := by have := HR.out.row.le; omega
   clear hcell hx he hlk hdk hd1 hd2
   go_wp2_with fail
   refine (K2.out _ HD1.out.src).mono ?_
   rintro en w2 ⟨B, d, rfl, hob, hb2⟩
   have hb3 := hb2
   have HR2 := hD (HR.out.below hb3)
   have hq2 : w2.cell? ⟨g, k, none⟩ = some (.slice e.1 x.length e.2) := (hb3.cell (p := ⟨g, k, none⟩) hg2).trans q0
   have hf2 : w2.frozen? ⟨g, k, none⟩ = false := (hb3.frozen (p := ⟨g, k, none⟩) hg2).trans hfr
   have HBB : Hid (Below w.heap.size w (w2.setCell ⟨g, k, none⟩ (.slice B x.length d))) := hD ((HB.out.trans (hb3.mono hsz)).setCell (p := ⟨g, k, none⟩) hg1 _)
   have hgw : ∀ q, B.map (·.block) = some q → wr.heap.size ≤ q := fun q h => (hob.block q h).1
   have HR3 : Hid (GRow kImg (w2.setCell ⟨g, k, none⟩ (.slice B x.length d)) w.heap.size l (ds.set k (B, d)) (some ⟨g, 0, none⟩) c1) := hD (by
    have h9 := HR2.out.setData (e := (B, d)) HLK.out hob.src.bts (by show x.length ≤ d; simpa using hob.le) (fun _ q h e2 => by have := hgw q h; omega)
    rw [show k * kImg.size + kImg.slot = k by show k * 1 + 0 = k; omega] at h9
    exact h9)
   have HN3 : Hid (∀ (j : Nat) (o : (List UInt8)) (d' : Option Addr × Nat), j < k + 1 → l[j]? = some o → (ds.set k (B, d))[j]? = some d' → kImg.dat o ≠ [] → ∀ q, d'.1.map (·.block) = some q → w.heap.size ≤ q) := hD (fun j o d' hj h1 h2 hx q hq => by
    rw [List.getElem?_set] at h2
    by_cases hjk : k = j
    ·by_cases hdl : k < ds.length
     ·rw [if_pos hjk, if_pos hdl] at h2
      injection h2 with h2
      subst h2
      have := hgw q hq
      omega
     ·rw [if_pos hjk, if_neg hdl] at h2; cases h2
    ·rw [if_neg hjk] at h2
     exact HN.out j o d' (by omega) h1 h2 hx q hq)
   clear hob hb2 hb3 q0 hfr hgw
   go_wp2_with fail
   go_roundw
   case rel => exact ⟨k + 1, ds.set k (B, d), by omega, by go_num, HR3, HN3, HBB⟩
   case measure => simp [intOf]; omega
  ·obtain rfl : k = l.length := by omega
   have dl : decide ((l.length : Int) < (l.length : Int)) = false := by simp
   go_wp2_with fail
   go_ret
   exact ⟨A1, c1, ds, rfl, HR.out, fun i o d h1 h2 hx q hq => HN.out i o d (List.getElem?_eq_some_iff.1 h1).1 h1 h2 hx q hq, HB.out⟩
theorem opsCopy_calls (A : Option Addr) (c : Nat) (l : List Stp) (w : World) (hl : l.length ≤ 1048576) (hs : Sps w A l) :
  Calls Tryz.prog 92 #[.slice A l.length c] w (KrRet kOp w l) := by
 obtain ⟨ds0, hg⟩ := hs.gsrc
 have hbd := hs.bound
 have HBD := hD hbd
 have HG := hD hg
 have K1 := hD (cloneOps_calls A l.length c (kOp.cells l ds0) w (cells_len _ _ hg.len) (by omega) hg.row (cells_oneCell _ _))
 clear hs hg hbd
 go_enter Tryz.func92, Tryz.ntmps92
 go_wp2_with fail
 refine K1.out.mono ?_
 rintro e w1 ⟨A1, c1, rfl, hown, hb1⟩
 have hrow : GRow kOp w1 w.heap.size l ds0 A1 c1 := ⟨HG.out.len, hown, (HG.out.stays hb1).data, fun i o d h1 h2 hx k hk e => by
  have := HG.out.each i o d h1 h2 hx k hk
  have := (hown.block k e).1
  omega⟩
 have HR0 := hD hrow
 have HB0 : Hid (Below w.heap.size w w1) := hD hb1
 clear hown hb1 hrow K1
 go_wp2_with fail
 go_loopw [9] (fun i wr => ∃ (k : Nat) (ds : List (Option Addr × Nat)), k ≤ l.length ∧ i = .int .i64 k ∧ Hid (GRow kOp wr w.heap.size l ds A1 c1) ∧ Hid (∀ (j : Nat) (o : Stp) (d : Option Addr × Nat), j < k → l[j]? = some o → ds[j]? = some d → kOp.dat o ≠ [] → ∀ q, d.1.map (·.block) = some q → w.heap.size ≤ q) ∧ Hid (Below w.heap.size w wr)) (fun i _ => l.length - (intOf i).toNat)
 case atStart => exact ⟨0, ds0, Nat.zero_le _, rfl, HR0, hD (fun j o d h => by omega), HB0⟩
 case round =>
  clear HR0 HB0
  rename World => wr
  obtain ⟨k, ds, hk, rfl, HR, HN, HB⟩ := hrel
  have hsz := HB.out.size
  by_cases hlt : k < l.length
  ·obtain ⟨g, rfl, hg1, hg2⟩ := HR.out.row.form (by omega)
   have hlk : l[k]? = some l[k] := List.getElem?_eq_getElem hlt
   have hdk : ds[k]? = some (ds[k]'(by have := HR.out.len; omega)) := List.getElem?_eq_getElem _
   obtain ⟨x, hx⟩ : ∃ x, l[k] = x := ⟨_, rfl⟩
   obtain ⟨e, he⟩ : ∃ e, ds[k]'(by have := HR.out.len; omega) = e := ⟨_, rfl⟩
   rw [hx] at hlk
   rw [he] at hdk
   have hcell : ∀ j, j < 3 → wr.cell? ⟨g, k * 3 + j, none⟩ = (kOp.cell x e)[j]? := fun j hj => by
    rw [HR.out.row.cellAt _ (show k * 3 + j < l.length * 3 by omega)]
    exact cells_at (K := kOp) l ds HR.out.len k j x e hlk hdk hj
   have q0 : wr.cell? ⟨g, k * 3, none⟩ = some (iv x.at_) := hcell 0 (by decide)
   have q1 : wr.cell? ⟨g, k * 3 + 1, none⟩ = some (iv x.len) := hcell 1 (by decide)
   have q2 : wr.cell? ⟨g, k * 3 + 2, none⟩ = some (.slice e.1 x.data.length e.2) := hcell 2 (by decide)
   obtain ⟨hd1, hd2⟩ := HR.out.data k x e hlk hdk
   have hxl : x.data.length ≤ 1048576 := (HBD.out x (List.mem_of_getElem? hlk)).2.2
   have HD1 : Hid (Bts wr e.1 x.data) := hD hd1
   have HLK := hD hlk
   have HDK := hD hdk
   have K2 := hD (fun w h => cloneBytes_calls e.1 x.data.length e.2 (x.data.map bv) w (by simp) (by omega) h (bv_one _))
   have hfr : wr.frozen? ⟨g, k * 3 + 2, none⟩ = false := HR.out.row.frozenAt _
   have dl : decide ((k : Int) < (l.length : Int)) = true := decide_eq_true (by omega)
   have hwk : IntKind.i64.wrap ((k : Int) + 1) = (k : Int) + 1 := IntWalk.i64_in _ (by omega)
   have hcap : (l.length : Int) ≤ (c1 : Int) := by have := HR.out.row.le; omega
   clear hcell hx he hlk hdk hd1 hd2
   go_wp2_with fail
   have hba := (Below.refl wr.heap.size wr).alloc (Nat.le_refl _) (.cells (#[iv x.at_, iv x.len, .slice e.1 x.data.length e.2]) 122)
   refine (K2.out _ (HD1.out.stays hba).src).mono ?_
   rintro en w2 ⟨B, d, rfl, hob, hb2⟩
   have hb3 := hba.trans (hb2.mono (by simp))
   have HR2 := hD (HR.out.below hb3)
   have hq2 : w2.cell? ⟨g, k * 3 + 2, none⟩ = some (.slice e.1 x.data.length e.2) := (hb3.cell (p := ⟨g, k * 3 + 2, none⟩) hg2).trans q2
   have hf2 : w2.frozen? ⟨g, k * 3 + 2, none⟩ = false := (hb3.frozen (p := ⟨g, k * 3 + 2, none⟩) hg2).trans hfr
   have HBB : Hid (Below w.heap.size w (w2.setCell ⟨g, k * 3 + 2, none⟩ (.slice B x.data.length d))) := hD ((HB.out.trans (hb3.mono hsz)).setCell (p := ⟨g, k * 3 + 2, none⟩) hg1 _)
   have hgw : ∀ q, B.map (·.block) = some q → wr.heap.size + 1 ≤ q := fun q h => by have := (hob.block q h).1; simpa using this
   have HR3 : Hid (GRow kOp (w2.setCell ⟨g, k * 3 + 2, none⟩ (.slice B x.data.length d)) w.heap.size l (ds.set k (B, d)) (some ⟨g, 0, none⟩) c1) := hD (HR2.out.setData (e := (B, d)) HLK.out hob.src.bts (by show x.data.length ≤ d; simpa using hob.le) (fun _ q h e2 => by have := hgw q h; omega))
   have HN3 : Hid (∀ (j : Nat) (o : Stp) (d' : Option Addr × Nat), j < k + 1 → l[j]? = some o → (ds.set k (B, d))[j]? = some d' → kOp.dat o ≠ [] → ∀ q, d'.1.map (·.block) = some q → w.heap.size ≤ q) := hD (fun j o d' hj h1 h2 hx q hq => by
    rw [List.getElem?_set] at h2
    by_cases hjk : k = j
    ·by_cases hdl : k < ds.length
     ·rw [if_pos hjk, if_pos hdl] at h2
      injection h2 with h2
      subst h2
      have := hgw q hq
      omega
     ·rw [if_pos hjk, if_neg hdl] at h2; cases h2
    ·rw [if_neg hjk] at h2
     exact HN.out j o d' (by omega) h1 h2 hx q hq)
   obtain ⟨a0r, a0f, a0n, a0c, a0z, a0l⟩ := kp (wr.heap.size) (#[iv x.at_, iv x.len, .slice e.1 x.data.length e.2]) hb2
   clear hob hb2 hb3 hba q0 q1 q2 hfr hgw a0r a0f a0n a0c a0z a0l
   go_wp2_with fail
   go_roundw
   case rel => exact ⟨k + 1, ds.set k (B, d), by omega, by go_num, HR3, HN3, HBB⟩
   case measure => simp [intOf]; omega
  ·obtain rfl : k = l.length := by omega
   have dl : decide ((l.length : Int) < (l.length : Int)) = false := by simp
   go_wp2_with fail
   go_ret
   exact ⟨A1, c1, ds, rfl, HR.out, fun i o d h1 h2 hx q hq => HN.out i o d (List.getElem?_eq_some_iff.1 h1).1 h1 h2 hx q hq, HB.out⟩
def PcRet (w : World) (p : Pat) : Ending → World → Prop := fun en w' =>
 ∃ A c, en = .returned (.agg (patA p.from_ p.to_ p.old p.new_ p.size A p.ops.length c)) ∧ Fresh w.heap.size w' (fun v => PatIn v p A c) ∧ Below w.heap.size w w'
theorem patCopy_calls (B : Option Addr) (d : Nat) (p : Pat) (w : World) (hp : PatIn w p B d) :
  Calls Tryz.prog 70 #[.agg (patA p.from_ p.to_ p.old p.new_ p.size B p.ops.length d)] w (PcRet w p) := by
 obtain ⟨f, t, o, n, sz, l⟩ := p
 obtain ⟨hcap, hlen, hops, j0, j1, j2, j3, j4⟩ := hp
 dsimp only at *
 have hba := ((Below.refl w.heap.size w).alloc (Nat.le_refl _) (.cells (patA f t o n sz B l.length d) 36)).alloc (by simp) (.cells (patA 0 0 0 0 0 none 0 0) 36)
 have HBD := hD hops.bound
 have HS := hD hops
 have HI : Hid (I64 f ∧ I64 t ∧ I64 o ∧ I64 n ∧ I64 sz) := hD ⟨j0, j1, j2, j3, j4⟩
 have HBA := hD hba
 clear hops hba j0 j1 j2 j3 j4
 go_enter Tryz.func70, Tryz.ntmps70
 go_wp2_with fail
 refine (opsCopy_calls B d l _ hlen (HS.out.stays HBA.out)).mono ?_
 rintro e w1 ⟨A1, c1, ds, rfl, hg, he, hb1⟩
 obtain ⟨a0r, a0f, a0n, a0c, a0z, a0l⟩ := kp (w.heap.size) (patA f t o n sz B l.length d) hb1
 obtain ⟨a1r, a1f, a1n, a1c, a1z, a1l⟩ := kp (w.heap.size + 1) (patA 0 0 0 0 0 none 0 0) hb1
 have HB1 := hD (HBA.out.trans (hb1.mono (by simp; omega)))
 have hfr := hg.fresh he
 have HF : Hid (Fresh (w.heap.size + 2) w1 (fun v => GRow kOp v (w.heap.size + 2) l ds A1 c1)) := hD (by simpa using hfr)
 have HC := hD hg.row.le
 clear hb1 hg he hfr
 go_wp2_with fail
 refine bodyPost_ret (results_c rfl rfl (cs := patA f t o n sz A1 l.length c1) (by go_simp) (by go_simp) (by go_simp)) rfl ?_
 refine ⟨A1, c1, rfl, ?_, ?_⟩
 ·refine Fresh.imp (P := fun v => GRow kOp v (w.heap.size + 2) l ds A1 c1) (Fresh.mono (base := w.heap.size + 2) ?_ (by omega)) (fun v hv => ⟨HC.out, hlen, hv.src.sps HBD.out, HI.out.1, HI.out.2.1, HI.out.2.2.1, HI.out.2.2.2.1, HI.out.2.2.2.2⟩)
  repeat (first | exact HF.out | refine Fresh.row ?_ (by omega) _ | refine Fresh.cell ?_ (by simp) _)
 ·have hs := HB1.out.size
  repeat (first | exact HB1.out | refine bR ?_ _ | refine bC ?_ _ | refine bA ?_ _)
theorem chkCopy_calls (A : Option Addr) (c : Nat) (l : List Chk) (w : World) (hl : l.length ≤ 1048576) (hs : Chs w A l) :
  Calls Tryz.prog 69 #[.slice A l.length c] w (KrRet kChk w l) := by
 obtain ⟨ds0, hg⟩ := hs.gsrc
 have hbd := hs.bound
 have HBD := hD hbd
 have HG := hD hg
 have K1 := hD (cloneChunks_calls A l.length c (kChk.cells l ds0) w (cells_len _ _ hg.len) (by omega) hg.row (cells_oneCell _ _))
 clear hs hg hbd
 go_enter Tryz.func69, Tryz.ntmps69
 go_wp2_with fail
 refine K1.out.mono ?_
 rintro e w1 ⟨A1, c1, rfl, hown, hb1⟩
 have hrow : GRow kChk w1 w.heap.size l ds0 A1 c1 := ⟨HG.out.len, hown, (HG.out.stays hb1).data, fun i o d h1 h2 hx k hk e => by
  have := HG.out.each i o d h1 h2 hx k hk
  have := (hown.block k e).1
  omega⟩
 have HR0 := hD hrow
 have HB0 : Hid (Below w.heap.size w w1) := hD hb1
 clear hown hb1 hrow K1
 go_wp2_with fail
 go_loopw [9] (fun i wr => ∃ (k : Nat) (ds : List (Option Addr × Nat)), k ≤ l.length ∧ i = .int .i64 k ∧ Hid (GRow kChk wr w.heap.size l ds A1 c1) ∧ Hid (∀ (j : Nat) (o : Chk) (d : Option Addr × Nat), j < k → l[j]? = some o → ds[j]? = some d → kChk.dat o ≠ [] → ∀ q, d.1.map (·.block) = some q → w.heap.size ≤ q) ∧ Hid (Below w.heap.size w wr)) (fun i _ => l.length - (intOf i).toNat)
 case atStart => exact ⟨0, ds0, Nat.zero_le _, rfl, HR0, hD (fun j o d h => by omega), HB0⟩
 case round =>
  clear HR0 HB0
  rename World => wr
  obtain ⟨k, ds, hk, rfl, HR, HN, HB⟩ := hrel
  have hsz := HB.out.size
  by_cases hlt : k < l.length
  ·obtain ⟨g, rfl, hg1, hg2⟩ := HR.out.row.form (by omega)
   have hlk : l[k]? = some l[k] := List.getElem?_eq_getElem hlt
   have hdk : ds[k]? = some (ds[k]'(by have := HR.out.len; omega)) := List.getElem?_eq_getElem _
   obtain ⟨x, hx⟩ : ∃ x, l[k] = x := ⟨_, rfl⟩
   obtain ⟨e, he⟩ : ∃ e, ds[k]'(by have := HR.out.len; omega) = e := ⟨_, rfl⟩
   rw [hx] at hlk
   rw [he] at hdk
   have hcell : ∀ j, j < 5 → wr.cell? ⟨g, k * 5 + j, none⟩ = (kChk.cell x e)[j]? := fun j hj => by
    rw [HR.out.row.cellAt _ (show k * 5 + j < l.length * 5 by omega)]
    exact cells_at (K := kChk) l ds HR.out.len k j x e hlk hdk hj
   have q0 : wr.cell? ⟨g, k * 5, none⟩ = some (iv x.from_) := hcell 0 (by decide)
   have q1 : wr.cell? ⟨g, k * 5 + 1, none⟩ = some (iv x.to_) := hcell 1 (by decide)
   have q2 : wr.cell? ⟨g, k * 5 + 2, none⟩ = some (iv x.n) := hcell 2 (by decide)
   have q3 : wr.cell? ⟨g, k * 5 + 3, none⟩ = some (iv x.of_) := hcell 3 (by decide)
   have q4 : wr.cell? ⟨g, k * 5 + 4, none⟩ = some (.slice e.1 x.data.length e.2) := hcell 4 (by decide)
   obtain ⟨hd1, hd2⟩ := HR.out.data k x e hlk hdk
   have hxl : x.data.length ≤ 1048576 := (HBD.out x (List.mem_of_getElem? hlk)).1
   have HD1 : Hid (Bts wr e.1 x.data) := hD hd1
   have HLK := hD hlk
   have HDK := hD hdk
   have K2 := hD (fun w h => cloneBytes_calls e.1 x.data.length e.2 (x.data.map bv) w (by simp) (by omega) h (bv_one _))
   have hfr : wr.frozen? ⟨g, k * 5 + 4, none⟩ = false := HR.out.row.frozenAt _
   have dl : decide ((k : Int) < (l.length : Int)) = true := decide_eq_true (by omega)
   have hwk : IntKind.i64.wrap ((k : Int) + 1) = (k : Int) + 1 := IntWalk.i64_in _ (by omega)
   have hcap : (l.length : Int) ≤ (c1 : Int) := by have := HR.out.row.le; omega
   clear hcell hx he hlk hdk hd1 hd2
   go_wp2_with fail
   have hba := (Below.refl wr.heap.size wr).alloc (Nat.le_refl _) (.cells (chkA x.from_ x.to_ x.n x.of_ e.1 x.data.length e.2) 56)
   refine (K2.out _ (HD1.out.stays hba).src).mono ?_
   rintro en w2 ⟨B, d, rfl, hob, hb2⟩
   have hb3 := hba.trans (hb2.mono (by simp))
   have HR2 := hD (HR.out.below hb3)
   have hq2 : w2.cell? ⟨g, k * 5 + 4, none⟩ = some (.slice e.1 x.data.length e.2) := (hb3.cell (p := ⟨g, k * 5 + 4, none⟩) hg2).trans q4
   have hf2 : w2.frozen? ⟨g, k * 5 + 4, none⟩ = false := (hb3.frozen (p := ⟨g, k * 5 + 4, none⟩) hg2).trans hfr
   have HBB : Hid (Below w.heap.size w (w2.setCell ⟨g, k * 5 + 4, none⟩ (.slice B x.data.length d))) := hD ((HB.out.trans (hb3.mono hsz)).setCell (p := ⟨g, k * 5 + 4, none⟩) hg1 _)
   have hgw : ∀ q, B.map (·.block) = some q → wr.heap.size + 1 ≤ q := fun q h => by have := (hob.block q h).1; simpa using this
   have HR3 : Hid (GRow kChk (w2.setCell ⟨g, k * 5 + 4, none⟩ (.slice B x.data.length d)) w.heap.size l (ds.set k (B, d)) (some ⟨g, 0, none⟩) c1) := hD (HR2.out.setData (e := (B, d)) HLK.out hob.src.bts (by show x.data.length ≤ d; simpa using hob.le) (fun _ q h e2 => by have := hgw q h; omega))
   have HN3 : Hid (∀ (j : Nat) (o : Chk) (d' : Option Addr × Nat), j < k + 1 → l[j]? = some o → (ds.set k (B, d))[j]? = some d' → kChk.dat o ≠ [] → ∀ q, d'.1.map (·.block) = some q → w.heap.size ≤ q) := hD (fun j o d' hj h1 h2 hx q hq => by
    rw [List.getElem?_set] at h2
    by_cases hjk : k = j
    ·by_cases hdl : k < ds.length
     ·rw [if_pos hjk, if_pos hdl] at h2
      injection h2 with h2
      subst h2
      have := hgw q hq
      omega
     ·rw [if_pos hjk, if_neg hdl] at h2; cases h2
    ·rw [if_neg hjk] at h2
     exact HN.out j o d' (by omega) h1 h2 hx q hq)
   obtain ⟨a0r, a0f, a0n, a0c, a0z, a0l⟩ := kp (wr.heap.size) (chkA x.from_ x.to_ x.n x.of_ e.1 x.data.length e.2) hb2
   clear hob hb2 hb3 hba q0 q1 q2 q3 q4 hfr hgw a0r a0f a0n a0c a0z a0l
   go_wp2_with fail
   go_roundw
   case rel => exact ⟨k + 1, ds.set k (B, d), by omega, by go_num, HR3, HN3, HBB⟩
   case measure => simp [intOf]; omega
  ·obtain rfl : k = l.length := by omega
   have dl : decide ((l.length : Int) < (l.length : Int)) = false := by simp
   go_wp2_with fail
   go_ret
   exact ⟨A1, c1, ds, rfl, HR.out, fun i o d h1 h2 hx q hq => HN.out i o d (List.getElem?_eq_some_iff.1 h1).1 h1 h2 hx q hq, HB.out⟩
end Go.Proofs.YtefkfglkpebbmadGreat
