/- Walks of functions, and plain words. No conditions. -/
import Derived.Test.YtefkfglkpebbmacPE3
import Derived.Test.YtefkfglkpebbmacP2
import Derived.Test.YtefkfglkpebbmacP3
import Derived.Laws.OwnMore
set_option linter.unusedVariables false
set_option linter.unusedSimpArgs false
set_option maxRecDepth 100000
set_option maxHeartbeats 40000000
namespace Go.Proofs.Ytefkfglkpebbmac
open Go.RowKit
variable {d : Dev} {r : Rec} {w : World} {n c : Nat}
theorem devUp_range (h : d.running < 0 ∨ 1 < d.running ∨ (d.running ≠ r.active ∧ r.trying = false)) : devUpCheck d r = 2 := by unfold devUpCheck; rw [if_pos h]
theorem devUp_list (h : ¬ (d.running < 0 ∨ 1 < d.running ∨ (d.running ≠ r.active ∧ r.trying = false))) (g : chkList d.got ≠ 0) : devUpCheck d r = chkList d.got := by unfold devUpCheck; rw [if_neg h, if_pos g]
theorem devUp_idle (h : ¬ (d.running < 0 ∨ 1 < d.running ∨ (d.running ≠ r.active ∧ r.trying = false))) (g : chkList d.got = 0) (b : d.busy = false) : devUpCheck d r = if d.done ≠ 0 ∨ d.job ≠ Pat.zero then 3 else 0 := by unfold devUpCheck; rw [if_neg h, if_neg (by omega), if_pos b]
theorem devUp_busy (h : ¬ (d.running < 0 ∨ 1 < d.running ∨ (d.running ≠ r.active ∧ r.trying = false))) (g : chkList d.got = 0) (b : d.busy = true) : devUpCheck d r = devBusyCheck d r := by unfold devUpCheck; rw [if_neg h, if_neg (by omega), if_neg (by rw [b]; simp)]
theorem devCheck_range (d : Dev) (L : DLoc) (w : World) (h : DevIn w d L) (h0 : d.s0.length = 64) (h1 : d.s1.length = 64) (hc : copCheck d.c0 d.c1 = 0) (hu : d.up = true) (hx : d.running < 0 ∨ 1 < d.running ∨ (d.running ≠ (recRead d.c0 d.c1).1.active ∧ (recRead d.c0 d.c1).1.trying = false)) : Calls Try.prog 52 #[.agg (devA d L)] w (RetB w (iv (devCheck d))) := by
 have E := Lib.hid (devCheck_is_up h0 h1 hc hu)
 obtain ⟨n, hn⟩ : ∃ n, devCheck d = n := ⟨_, rfl⟩
 rw [hn] at E
 rw [hn]
 have HIN := Lib.hid h
 clear hn h
 have hz : Hid (n = 2) := Lib.hid (E.out.trans (devUp_range hx))
 have l0 : ((d.s0.length : Int) != 64) = false := by simp; omega
 have l1 : ((d.s1.length : Int) != 64) = false := by simp; omega
 have i0 : ∀ w, (Instr.index 61 (.agg (slotsA L.a0 d.s0.length L.c0 L.a1 d.s1.length L.c1)) (.int .i64 0)).run Try.prog w = .ok (.slice L.a0 d.s0.length L.c0) w := fun _ => by kernel_rfl
 have i1 : ∀ w, (Instr.index 61 (.agg (slotsA L.a0 d.s0.length L.c0 L.a1 d.s1.length L.c1)) (.int .i64 1)).run Try.prog w = .ok (.slice L.a1 d.s1.length L.c1) w := fun _ => by kernel_rfl
 have HBA := Lib.hid ((Below.refl w.heap.size w).alloc (Nat.le_refl _) (.cells (devA d L) 71))
 have KR := Lib.hid (fun w => read_ok d.c0 d.c1 w hc)
 obtain ⟨r, hr⟩ : ∃ r, (recRead d.c0 d.c1).1 = r := ⟨_, rfl⟩
 obtain ⟨rk, hrk⟩ : ∃ rk, (recRead d.c0 d.c1).2 = rk := ⟨_, rfl⟩
 rw [hr, hrk] at KR
 rw [hr] at hx E
 clear hr
 clear h0 h1 hc hrk
 go_enter Try.func52, Try.ntmps52
 go_wp2_with fail
 go_loopw [12] (fun i wr => ∃ k : Nat, k ≤ 2 ∧ i = .int .i64 k ∧ wr = w.alloc (.cells (devA d L) 71)) (fun i _ => (2 - intOf i).toNat)
 case atStart => exact ⟨0, by omega, rfl, rfl⟩
 case round =>
  obtain ⟨k, hk, rfl, rfl⟩ := hrel
  by_cases hlt : k < 2
  ·rcases (show k = 0 ∨ k = 1 by omega) with rfl | rfl
   ·go_wp2_with fail
    go_roundw
    case rel => exact ⟨1, by omega, rfl, by first | rfl | trivial⟩
    case measure => simp [intOf] <;> omega
   ·go_wp2_with fail
    go_roundw
    case rel => exact ⟨2, by omega, rfl, by first | rfl | trivial⟩
    case measure => simp [intOf] <;> omega
  ·obtain rfl : k = 2 := by omega
   clear hk hlt i0 i1 l0 l1
   go_wp2_with fail
   refine (KR.out _).mono ?_
   rintro e w1 ⟨rfl, hb1⟩
   obtain ⟨a0r, a0f, a0n, a0c, a0z, a0l⟩ := keep1 (g := w.heap.size) (cs := devA d L) hb1 (by first | (go_simp; done) | (go_simp; rfl)) (by go_simp) (by go_simp)
   have HB1 := Lib.hid (HBA.out.trans (hb1.mono (by simp)))
   clear hb1
   by_cases c1 : d.running < 0
   ·skip
    go_wp2_with fail
    go_ret
    have hs := HB1.out.size
    refine ⟨ret_int hz.out.symm, ?_⟩
    repeat (first | exact HB1.out | refine below_row ?_ (by omega) _ | refine Below.setCell ?_ (by simp <;> omega) _ | refine Below.alloc ?_ (by first | omega | (simp <;> omega)) _)
   by_cases c2 : 1 < d.running
   ·skip
    go_wp2_with fail
    go_ret
    have hs := HB1.out.size
    refine ⟨ret_int hz.out.symm, ?_⟩
    repeat (first | exact HB1.out | refine below_row ?_ (by omega) _ | refine Below.setCell ?_ (by simp <;> omega) _ | refine Below.alloc ?_ (by first | omega | (simp <;> omega)) _)
   obtain ⟨c3, c4⟩ := (hx.resolve_left c1).resolve_left c2
   have q3 : (d.running != r.active) = true := by simp [c3]
   clear hx c3
   go_wp2_with fail
   go_ret
   have hs := HB1.out.size
   refine ⟨ret_int hz.out.symm, ?_⟩
   repeat (first | exact HB1.out | refine below_row ?_ (by omega) _ | refine Below.setCell ?_ (by simp <;> omega) _ | refine Below.alloc ?_ (by first | omega | (simp <;> omega)) _)
theorem devCheck_idleEq_ : (∀ (d : Dev) (L : DLoc) (w : World) (h : DevIn w d L) (h0 : d.s0.length = 64) (h1 : d.s1.length = 64) (hc : copCheck d.c0 d.c1 = 0) (hu : d.up = true) (hx : d.running = (recRead d.c0 d.c1).1.active) (hg : chkList d.got = 0) (hbz : d.busy = false), Calls Try.prog 52 #[.agg (devA d L)] w (RetB w (iv (devCheck d)))) ∧ (∀ (d : Dev) (L : DLoc) (w : World) (h : DevIn w d L) (h0 : d.s0.length = 64) (h1 : d.s1.length = 64) (hc : copCheck d.c0 d.c1 = 0) (hu : d.up = true) (hx : d.running ≠ (recRead d.c0 d.c1).1.active) (ht : (recRead d.c0 d.c1).1.trying = true) (hv : d.running = 0 ∨ d.running = 1) (hg : chkList d.got = 0) (hbz : d.busy = false), Calls Try.prog 52 #[.agg (devA d L)] w (RetB w (iv (devCheck d)))) ∧ (∀ (d : Dev) (L : DLoc) (w : World) (h : DevIn w d L) (h0 : d.s0.length = 64) (h1 : d.s1.length = 64) (hc : copCheck d.c0 d.c1 = 0) (hu : d.up = true) (hx : d.running = (recRead d.c0 d.c1).1.active) (hg : chkList d.got ≠ 0), Calls Try.prog 52 #[.agg (devA d L)] w (RetB w (iv (devCheck d)))) ∧ (∀ (d : Dev) (L : DLoc) (w : World) (h : DevIn w d L) (h0 : d.s0.length = 64) (h1 : d.s1.length = 64) (hc : copCheck d.c0 d.c1 = 0) (hu : d.up = true) (hx : d.running ≠ (recRead d.c0 d.c1).1.active) (ht : (recRead d.c0 d.c1).1.trying = true) (hv : d.running = 0 ∨ d.running = 1) (hg : chkList d.got ≠ 0), Calls Try.prog 52 #[.agg (devA d L)] w (RetB w (iv (devCheck d)))) := by
 refine ⟨?_, ?_, ?_, ?_⟩
 case' refine_1 => have U01 : Hid True := Lib.hid trivial; have U02 : Hid True := Lib.hid trivial; have U03 : Hid True := Lib.hid trivial; intro d L w h h0 h1 hc hu hx hg hbz
 case' refine_2 => have U02 : Hid True := Lib.hid trivial; have U03 : Hid True := Lib.hid trivial; intro d L w h h0 h1 hc hu hx ht hv hg hbz
 case' refine_3 => have U03 : Hid True := Lib.hid trivial; intro d L w h h0 h1 hc hu hx hg
 case' refine_4 => intro d L w h h0 h1 hc hu hx ht hv hg
 all_goals
  have E := Lib.hid (devCheck_is_up h0 h1 hc hu)
  obtain ⟨n, hn⟩ : ∃ n, devCheck d = n := ⟨_, rfl⟩
  rw [hn] at E
  rw [hn]
  have HIN := Lib.hid h
  clear hn h
  have l0 : ((d.s0.length : Int) != 64) = false := by simp; omega
  have l1 : ((d.s1.length : Int) != 64) = false := by simp; omega
  have i0 : ∀ w, (Instr.index 61 (.agg (slotsA L.a0 d.s0.length L.c0 L.a1 d.s1.length L.c1)) (.int .i64 0)).run Try.prog w = .ok (.slice L.a0 d.s0.length L.c0) w := fun _ => by kernel_rfl
  have i1 : ∀ w, (Instr.index 61 (.agg (slotsA L.a0 d.s0.length L.c0 L.a1 d.s1.length L.c1)) (.int .i64 1)).run Try.prog w = .ok (.slice L.a1 d.s1.length L.c1) w := fun _ => by kernel_rfl
  have HBA := Lib.hid ((Below.refl w.heap.size w).alloc (Nat.le_refl _) (.cells (devA d L) 71))
  have KR := Lib.hid (fun w => read_ok d.c0 d.c1 w hc)
  obtain ⟨r, hr⟩ : ∃ r, (recRead d.c0 d.c1).1 = r := ⟨_, rfl⟩
  obtain ⟨rk, hrk⟩ : ∃ rk, (recRead d.c0 d.c1).2 = rk := ⟨_, rfl⟩
  rw [hr, hrk] at KR
  first
   |
    revert U03; intro U03
    first
     |
      revert U02; intro U02
      first
       |
        revert U01; intro U01
        rw [hr] at E hx
       | rw [hr] at E hx ht
     | rw [hr] at E hx
   | rw [hr] at E hx ht
  have hrec := recRead_ok hc
  rw [hr] at hrec
  have hact := rec_active hrec
  clear hr
  first
   |
    revert U03; intro U03
    first
     |
      revert U02; intro U02
      first
       |
        revert U01; intro U01
        have hng : ¬ (d.running < 0 ∨ 1 < d.running ∨ (d.running ≠ r.active ∧ r.trying = false)) := fun a => a.elim (fun a => by omega) (fun a => a.elim (fun a => by omega) (fun a => a.1 hx))
       | have hng : ¬ (d.running < 0 ∨ 1 < d.running ∨ (d.running ≠ r.active ∧ r.trying = false)) := fun a => a.elim (fun a => by omega) (fun a => a.elim (fun a => by omega) (fun a => by rw [ht] at a; exact absurd a.2 (by decide)))
     | have hng : ¬ (d.running < 0 ∨ 1 < d.running ∨ (d.running ≠ r.active ∧ r.trying = false)) := fun a => a.elim (fun a => by omega) (fun a => a.elim (fun a => by omega) (fun a => a.1 hx))
   | have hng : ¬ (d.running < 0 ∨ 1 < d.running ∨ (d.running ≠ r.active ∧ r.trying = false)) := fun a => a.elim (fun a => by omega) (fun a => a.elim (fun a => by omega) (fun a => by rw [ht] at a; exact absurd a.2 (by decide)))
  have z1 : ¬ d.running < 0 := by omega
  have z2 : ¬ (1 : Int) < d.running := by omega
  first
   |
    revert U03; intro U03
    first
     |
      revert U02; intro U02
      first
       |
        revert U01; intro U01
        have q3 : (d.running != r.active) = false := by simp [hx]
       | have q3 : (d.running != r.active) = true := by simp [hx]
     | have q3 : (d.running != r.active) = false := by simp [hx]
   | have q3 : (d.running != r.active) = true := by simp [hx]
  first
   |
    revert U03; intro U03
    first
     |
      revert U02; intro U02
      have HE2 : Hid (n = if d.done ≠ 0 ∨ d.job ≠ Pat.zero then 3 else 0) := Lib.hid (E.out.trans (devUp_idle hng hg hbz))
     | have hz : Hid (n = chkList d.got) := Lib.hid (E.out.trans (devUp_list hng hg))
   | have hz : Hid (n = chkList d.got) := Lib.hid (E.out.trans (devUp_list hng hg))
  first
   |
    revert U03; intro U03
    first
     |
      revert U02; intro U02
      first
       |
        revert U01; intro U01
        clear hx hact hng
       | clear hx hact hng hv
     | clear hx hact hng
   | clear hx hact hng hv
  have HLG := Lib.hid HIN.out.lg
  first
   |
    revert U03; intro U03
    first
     |
      revert U02; intro U02
      have HG := Lib.hid hg
     | have qg : (chkList d.got != 0) = true := by simp [hg]
   | have qg : (chkList d.got != 0) = true := by simp [hg]
  clear hg E
  clear h0 h1 hc hrk
  go_enter Try.func52, Try.ntmps52
  go_wp2_with fail
  go_loopw [12] (fun i wr => ∃ k : Nat, k ≤ 2 ∧ i = .int .i64 k ∧ wr = w.alloc (.cells (devA d L) 71)) (fun i _ => (2 - intOf i).toNat)
  case atStart => exact ⟨0, by omega, rfl, rfl⟩
  case round =>
   obtain ⟨k, hk, rfl, rfl⟩ := hrel
   by_cases hlt : k < 2
   ·rcases (show k = 0 ∨ k = 1 by omega) with rfl | rfl
    ·go_wp2_with fail
     go_roundw
     case rel => exact ⟨1, by omega, rfl, by first | rfl | trivial⟩
     case measure => simp [intOf] <;> omega
    ·go_wp2_with fail
     go_roundw
     case rel => exact ⟨2, by omega, rfl, by first | rfl | trivial⟩
     case measure => simp [intOf] <;> omega
   ·obtain rfl : k = 2 := by omega
    clear hk hlt i0 i1 l0 l1
    go_wp2_with fail
    refine (KR.out _).mono ?_
    rintro e w1 ⟨rfl, hb1⟩
    obtain ⟨a0r, a0f, a0n, a0c, a0z, a0l⟩ := keep1 (g := w.heap.size) (cs := devA d L) hb1 (by first | (go_simp; done) | (go_simp; rfl)) (by go_simp) (by go_simp)
    have HB1 := Lib.hid (HBA.out.trans (hb1.mono (by simp)))
    clear hb1
    go_wp2_with fail
    have hbx := HB1.out.alloc HB1.out.size (.cells (recA r) 66)
    refine (chkList_calls L.ag L.cg d.got _ HLG.out (HIN.out.got.stays hbx)).mono ?_
    rintro e w2 ⟨rfl, hb2⟩
    first
     |
      revert U03; intro U03
      first
       |
        revert U02; intro U02
        rw [HG.out]
       | skip
     | skip
    obtain ⟨a0r, a0f, a0n, a0c, a0z, a0l⟩ := keep1 (g := w.heap.size) (cs := devA d L) hb2 (by first | (go_simp; done) | (go_simp; rfl)) (by go_simp) (by go_simp)
    obtain ⟨a1r, a1f, a1n, a1c, a1z, a1l⟩ := keep1 (g := w1.heap.size) (cs := recA r) hb2 (by first | (go_simp; done) | (go_simp; rfl)) (by go_simp) (by go_simp)
    have HB2 := Lib.hid (hbx.trans (hb2.mono (by simp; have := HB1.out.size; omega)))
    first
     |
      revert U03; intro U03
      first
       |
        revert U02; intro U02
        clear hb2 hbx

        by_cases c4 : d.done ≠ 0
        ·have hz : Hid (n = 3) := Lib.hid (HE2.out.trans (if_pos (.inl c4)))
         have q : (d.done != 0) = true := by simp [c4]
         clear c4
         go_wp2_with fail
         go_ret
         have hs := HB2.out.size
         refine ⟨ret_int hz.out.symm, ?_⟩
         repeat (first | exact HB2.out | refine below_row ?_ (by omega) _ | refine Below.setCell ?_ (by simp <;> omega) _ | refine Below.alloc ?_ (by first | omega | (simp <;> omega)) _)
        have q4 : (d.done != 0) = false := by simpa using c4
        have E2 : Hid (n = if d.job ≠ Pat.zero then 3 else 0) := Lib.hid (by
         rw [HE2.out]
         by_cases c5 : d.job ≠ Pat.zero
         ·rw [if_pos (.inr c5), if_pos c5]
         ·rw [if_neg (fun a => ?_), if_neg c5]
          rcases a with a | a
          ·exact c4 a
          ·exact c5 a)
        clear c4
       | clear hb2 hbx
     | clear hb2 hbx
    go_wp2_with fail
    first
     |
      revert U03; intro U03
      first
       |
        revert U02; intro U02
        refine (patSameZ_calls d.job L.aj L.cj _ (HIN.out.job.stays HB2.out)).mono ?_
        rintro e w3 ⟨rfl, hb3⟩
        have HB3 := Lib.hid (HB2.out.trans (hb3.mono HB2.out.size))
        clear hb3
        by_cases c5 : d.job = Pat.zero
        ·have hz : Hid (n = 0) := Lib.hid (E2.out.trans (if_neg (by simpa using c5)))
         have q5 : decide (d.job = Pat.zero) = true := decide_eq_true c5
         clear c5
         go_wp2_with fail
         go_ret
         have hs := HB3.out.size
         refine ⟨ret_int hz.out.symm, ?_⟩
         repeat (first | exact HB3.out | refine below_row ?_ (by omega) _ | refine Below.setCell ?_ (by simp <;> omega) _ | refine Below.alloc ?_ (by first | omega | (simp <;> omega)) _)
        ·have hz : Hid (n = 3) := Lib.hid (E2.out.trans (if_pos c5))
         have q5 : decide (d.job = Pat.zero) = false := decide_eq_false c5
         clear c5
         go_wp2_with fail
         go_ret
         have hs := HB3.out.size
         refine ⟨ret_int hz.out.symm, ?_⟩
         repeat (first | exact HB3.out | refine below_row ?_ (by omega) _ | refine Below.setCell ?_ (by simp <;> omega) _ | refine Below.alloc ?_ (by first | omega | (simp <;> omega)) _)
       |
        go_ret
        have hs := HB2.out.size
        refine ⟨ret_int hz.out.symm, ?_⟩
        repeat (first | exact HB2.out | refine below_row ?_ (by omega) _ | refine Below.setCell ?_ (by simp <;> omega) _ | refine Below.alloc ?_ (by first | omega | (simp <;> omega)) _)
     |
      go_ret
      have hs := HB2.out.size
      refine ⟨ret_int hz.out.symm, ?_⟩
      repeat (first | exact HB2.out | refine below_row ?_ (by omega) _ | refine Below.setCell ?_ (by simp <;> omega) _ | refine Below.alloc ?_ (by first | omega | (simp <;> omega)) _)
theorem bts_zeros {g : Nat} {t : TypeId} {fr : Nat × Nat} (h : w.heap[g]? = some (.cells (Array.replicate n (.int .u8 0)) t fr)) : Bts w (some ⟨g, 0, none⟩) (List.replicate n 0) := by
 intro j hj
 refine ⟨g, 0, rfl, blk_lt h, ?_⟩
 rw [cell_of_row _ _ _ _ _ _ h]
 have hj' : j < n := by simpa using hj
 simp [hj', bv]
theorem made_zeros (n : Nat) : madeCells #[Value.int .u8 0] n = Array.replicate n (.int .u8 0) := by
 apply Array.ext'
 rw [toList_madeCells_one]
 simp
theorem room_calls (A : Option Addr) (c : Nat) (b : List UInt8) (w : World) (hb : b.length ≤ 64) (hB : Bts w A b) :
  Calls Try.prog 119 #[.slice A b.length c] w (BtRet w (room b)) := by
 obtain ⟨m, hm⟩ : ∃ m : Nat, 64 - b.length = m := ⟨_, rfl⟩
 have hm2 : (64 : Int) - (b.length : Int) = (m : Int) := by omega
 have hwr : IntKind.i64.wrap ((64 : Int) - (b.length : Int)) = (m : Int) := by rw [hm2]; exact IntWalk.i64_in _ (by omega)
 have hmk : ∀ w : World, (Instr.makeSlice 22 (.int .i64 (m : Int)) (.int .i64 (m : Int))).run Try.prog w = .ok (.slice (some ⟨w.heap.size, 0, none⟩) m m) (w.alloc (.cells (Array.replicate m (.int .u8 0)) 5)) := fun w => by
  have := run_make_row' (P := Try.prog) 22 5 (.int .u8 0) 1 Try.underlying22 (by kernel_rfl) rfl .i64 .i64 m (by omega) (by omega) w
  rw [made_zeros] at this
  exact this
 have HM : Hid (room b = b ++ List.replicate m 0) := Lib.hid (by unfold room; rw [hm])
 have HMB : Hid (b.length + m ≤ 64) := Lib.hid (by omega)
 have hba := ((Below.refl w.heap.size w).alloc (Nat.le_refl _) (.cells (Array.replicate m (.int .u8 0)) 5)).alloc (by simp) (.cells #[.slice A b.length c, .slice (some ⟨w.heap.size, 0, none⟩) m m] 22)
 have K := Lib.hid (concat2_calls (w := (w.alloc (.cells (Array.replicate m (.int .u8 0)) 5)).alloc (.cells #[.slice A b.length c, .slice (some ⟨w.heap.size, 0, none⟩) m m] 22)) (g := w.heap.size + 1) (A := A) (B := some ⟨w.heap.size, 0, none⟩) (a := b) (b := List.replicate m 0) (c := c) (d := m)
  (t := 22) (fr := (0, 0)) (by rw [List.length_replicate]; exact blk_top (by simp)) (by rw [List.length_replicate]; omega) (hB.stays hba) ((bts_zeros (n := m) (w := w.alloc (.cells (Array.replicate m (.int .u8 0)) 5)) (blk_top rfl)).stays ((Below.refl _ _).alloc (Nat.le_refl _) _)))
 have HBA := Lib.hid hba
 rw [HM.out]
 clear hm hm2 hb hB hba
 go_enter Try.func119, Try.ntmps119
 go_wp2_with fail
 refine K.out.mono ?_
 rintro e w1 ⟨A1, c1, rfl, hown, hb1⟩
 have HO := Lib.hid hown
 have HB1 := Lib.hid (HBA.out.trans (hb1.mono (by simp; omega)))
 clear hown hb1
 go_wp2_with fail
 go_ret
 exact ⟨A1, c1, by simp, HO.out.mono (by simp; omega), HB1.out⟩
theorem mid_slice {ab ao : Nat} {l : List UInt8} {z1 z2 : Int} (i y : Nat) (h1 : z1 = (i : Int)) (h2 : z2 = (i : Int) + (y : Int)) (hc : l.length ≤ c) (hy : i + y ≤ l.length) (hB : Bts w (some ⟨ab, ao, none⟩) l) : ∃ o' c', y ≤ c' ∧ Bts w (some ⟨ab, o', none⟩) ((l.drop i).take y) ∧
  ∀ W, (Instr.slice 22 (.slice (some ⟨ab, ao, none⟩) l.length c) (some (.int .i64 z1)) (some (.int .i64 z2)) none).run Try.prog W = .ok (.slice (some ⟨ab, o', none⟩) y c') W := by
 subst h1 h2
 have q1 : (i : Int) + (y : Int) ≤ (c : Int) := by omega
 have q2 : (i : Int) ≤ (i : Int) + (y : Int) := by omega
 have q3 : i + y - i = y := by omega
 by_cases e : c = i
 ·have hy0 : y = 0 := by omega
  subst hy0
  refine ⟨ao, c - i, by omega, by simpa using Bts.nil _ _, fun W => ?_⟩
  go_simp
 ·refine ⟨ao + i, c - i, by omega, mid_take (mid_at hB i) y, fun W => ?_⟩
  go_simp
  omega
def ctJ (w0 : World) (base : Nat) (C : Option Addr) (n c : Nat) (xs bs : List Value) (y : Nat) (mk : Option Addr × Nat → List Value) : Nat → (Nat → Value) → World → Prop
 | 0, _, w => w = w0.drew
 | 1, cv, w => ∃ A5 c5, cv 17 = .slice A5 y c5 ∧ Own w w0.heap.size 5 1 A5 y c5 bs ∧ Below w0.heap.size w0 w
 | 2, cv, w => ∃ A5 c5, cv 18 = .agg (mk (A5, c5)).toArray ∧ Own w w0.heap.size 5 1 A5 y c5 bs ∧ Below w0.heap.size w0 w
 | 3, cv, w => ∃ A5 c5 w1, Own w1 w0.heap.size 5 1 A5 y c5 bs ∧ Below w0.heap.size w0 w1 ∧ w = w1.alloc (.cells (mk (A5, c5)).toArray 49) ∧ cv 19 = .slice (some ⟨w1.heap.size, 0, none⟩) 1 1
 | 4, cv, w => ∃ A5 c5 w1 A' c', Own w1 w0.heap.size 5 1 A5 y c5 bs ∧ Below w0.heap.size w0 w1 ∧ cv 20 = .slice A' (n + 1) c' ∧ Own w base 49 5 A' (n + 1) c' (xs ++ mk (A5, c5)) ∧ Below base w1 w ∧ (∀ k, k < w1.heap.size → C.map (·.block) ≠ some k → w.heap[k]? = w1.heap[k]?) ∧ (A'.map (·.block) = C.map (·.block) ∨ ∀ k, A'.map (·.block) = some k → w1.heap.size ≤ k)
 | _, cv, w => ∃ A5 c5 w1 A' c', Own w1 w0.heap.size 5 1 A5 y c5 bs ∧ Below w0.heap.size w0 w1 ∧ cv 21 = .slice A' (n + 1) c' ∧ Own w base 49 5 A' (n + 1) c' (xs ++ mk (A5, c5)) ∧ Below base w1 w ∧ (∀ k, k < w1.heap.size → C.map (·.block) ≠ some k → w.heap[k]? = w1.heap[k]?) ∧ (A'.map (·.block) = C.map (·.block) ∨ ∀ k, A'.map (·.block) = some k → w1.heap.size ≤ k)
theorem ctJ_blk {w0 : World} {base y k g : Nat} {C : Option Addr} {xs bs : List Value} {mk : Option Addr × Nat → List Value} {cv : Nat → Value} {o : Obj} (hJ : ctJ w0 base C n c xs bs y mk k cv w) (h : w0.heap[g]? = some o) (hg : g < base) : w.heap[g]? = some o := by
 have hl := blk_lt h
 match k, hJ with
 | 0, hJ => obtain rfl : w = w0.drew := hJ; exact h
 | 1, ⟨_, _, _, _, h2⟩ => exact blk_below h h2
 | 2, ⟨_, _, _, _, h2⟩ => exact blk_below h h2
 | 3, ⟨_, _, w1, _, h2, h3, _⟩ => subst h3; exact blk_old (blk_below h h2)
 | 4, ⟨_, _, w1, _, _, _, h2, _, _, h3, _⟩ => exact (h3.block g hg).trans (blk_below h h2)
 | q + 5, ⟨_, _, w1, _, _, _, h2, _, _, h3, _⟩ => exact (h3.block g hg).trans (blk_below h h2)
theorem ctJ_app {w0 w1 w' : World} {base y c5 : Nat} {C A5 A' : Option Addr} {c' : Nat} {xs bs : List Value} {mk : Option Addr × Nat → List Value} {cv : Nat → Value} (h1 : Own w1 w0.heap.size 5 1 A5 y c5 bs) (h2 : Below w0.heap.size w0 w1)
  (hown : Own w' base 49 5 A' (n + 1) c' (xs ++ mk (A5, c5))) (hgr : (w1.alloc (.cells (mk (A5, c5)).toArray 49)).grownBy w' (C.map (·.block))) (hbel : Below base (w1.alloc (.cells (mk (A5, c5)).toArray 49)) w')
  (hor : A'.map (·.block) = C.map (·.block) ∨ A'.map (·.block) = some (w1.alloc (.cells (mk (A5, c5)).toArray 49)).heap.size) (hle : base ≤ w1.heap.size) :
  ctJ w0 base C n c xs bs y mk 4 (fun j => if j = 20 then .slice A' (n + 1) c' else cv j) w' := by
 refine ⟨A5, c5, w1, A', c', h1, h2, by simp, hown, ((Below.refl _ _).alloc hle _).trans hbel, fun k hk hn => (hgr.block k (by simp; omega) (fun e => hn e.symm)).trans (Below.heap_alloc w1 _ k hk), ?_⟩
 rcases hor with h | h
 ·exact .inl h
 ·exact .inr (fun k hk => by rw [h] at hk; injection hk with hk; simp at hk; omega)
theorem wp_val {P : Program} {o : Oper} {a : Act} {K : Act → World → Prop} {Q : Exit → Act → World → Prop} {v : Value} (e : (execOp a.eval o).run P w = .ok (.value v) w) (h : K (a.put o.dst v) w) : Oper.wp P o a w K Q := by
 unfold Oper.wp
 rw [e]
 exact h
theorem wp_sbc {a : Act} {K : Act → World → Prop} {Q : Exit → Act → World → Prop} {t : TypeId} {p : String} {af : Array Edge} {gd : Option (Nat × Bool)} {d s : Tmp} {f t1 n o : Int} {A : Option Addr} {k : Nat} (hs : a.tmps[s]? = some (.agg (chkA f t1 n o A k c)))
  (h : K (a.put (some d) (.slice (some ⟨w.heap.size, 0, none⟩) 1 1)) (w.alloc (.cells (chkA f t1 n o A k c) 49))) :
  Oper.wp Try.prog ⟨some d, .buildSlice 43 1 #[(0, .tmp s)], t, p, af, gd⟩ a w K Q := by
 have e1 : a.eval (.tmp s) = .agg (chkA f t1 n o A k c) := by simp [Act.eval, hs]
 unfold Oper.wp execOp
 simp only [e1, List.map_toArray, List.map_cons, List.map_nil]
 go_simp
 trace_state
 exact h
def ChkRet2 (w : World) (l : List Chk) (n : Int) : Ending → World → Prop := fun en w' =>
 ∃ A c ds, en = .returned (.tuple #[.slice A l.length c, iv n]) ∧ GRow kChk w' w.heap.size l ds A c ∧ Each kChk l ds (fun k => w.heap.size ≤ k) ∧ Below w.heap.size w w'
theorem chkCut_bad (B : Option Addr) (d : Nat) (p : Pat) (w : World) (hp : PatIn w p B d) (h : patCheck p ≠ 0) :
  Calls Try.prog 33 #[.agg (patA p.from_ p.to_ p.old p.new_ p.size B p.ops.length d)] w (ChkRet2 w [] (patCheck p)) := by
 have K1 := hD (fun w hp => patPut_bad B d p w hp h)
 have HP := hD hp
 obtain ⟨ck, hck⟩ : ∃ ck, patCheck p = ck := ⟨_, rfl⟩
 rw [hck] at h K1
 rw [hck]
 have q : (ck != 0) = true := by simp [h]
 clear hp h hck
 go_enter Try.func33, Try.ntmps33
 go_wp2_with fail
 have hba := (Below.refl w.heap.size w).alloc (Nat.le_refl _) (.cells (patA p.from_ p.to_ p.old p.new_ p.size B p.ops.length d) 35)
 refine (K1.out _ (HP.out.stays hba)).mono ?_
 rintro e w1 ⟨rfl, hb1⟩
 have HB1 := hD (hba.trans (hb1.mono (by simp)))
 clear hb1
 go_wp2_with fail
 go_ret2
 exact ⟨none, 0, [], rfl, GRow.nil _ _, Each.nil, HB1.out⟩
theorem chkCut_fine (B : Option Addr) (d : Nat) (p : Pat) (w : World) (hp : PatIn w p B d) (h : patCheck p = 0) :
  Calls Try.prog 33 #[.agg (patA p.from_ p.to_ p.old p.new_ p.size B p.ops.length d)] w (ChkRet2 w (chunksOf p (packed (patBytes p))) 0) := by
 have K1 := hD (fun w hp => patPut_ok B d p w hp h)
 have HP := hD hp
 have hl1 := patBytes_len h
 obtain ⟨hl2, hl3⟩ := packed_patch_len h
 obtain ⟨pb, hpb⟩ : ∃ pb, patBytes p = pb := ⟨_, rfl⟩
 rw [hpb] at K1 hl1 hl2 hl3 ⊢
 have K2 := hD (fun A c w hc hb => pack_calls A c pb w hc (by omega) hb)
 obtain ⟨b, hb⟩ : ∃ b, packed pb = b := ⟨_, rfl⟩
 rw [hb] at K2 hl2 hl3 ⊢
 obtain ⟨m, hm⟩ : ∃ m, (b.length + 15) / 16 = m := ⟨_, rfl⟩
 have HCO : Hid (∀ k, k < m → (chunksOf p b)[k]? = some (chunkAt p b m k)) := hD (fun k hk => by unfold chunksOf; rw [hm]; simp [hk])
 have HCL0 : Hid ((chunksOf p b).length = m) := hD (by unfold chunksOf; rw [hm]; simp)
 have hq : ((b.length : Int) + 15).tdiv 16 = (m : Int) := by rw [Int.tdiv_eq_ediv_of_nonneg (by omega)]; omega
 have hm1 : m ≤ 10 := by omega
 have HM := hD hm
 clear hp h hpb hb hm
 generalize chunksOf p b = cs at *
 have HCA : Hid (∀ k, chunkAt p b m k = ⟨p.from_, p.to_, k, m, (b.drop (k * 16)).take 16⟩) := hD (fun k => rfl)
 generalize chunkAt p b m = ca at *
 obtain ⟨f, t, o, n, sz, l⟩ := p
 dsimp only at *
 have j1 : IntKind.i64.wrap ((b.length : Int) + 16) = (b.length : Int) + 16 := IntWalk.i64_in _ (by omega)
 have j2 : IntKind.i64.wrap ((b.length : Int) + 15) = (b.length : Int) + 15 := IntWalk.i64_in _ (by omega)
 have j3 : (b.length : Int) + 16 - 1 = (b.length : Int) + 15 := by omega
 have j4 : IntKind.i64.wrap (m : Int) = (m : Int) := IntWalk.i64_in _ (by omega)
 have j5 : decide ((52 : Int) < (m : Int)) = false := decide_eq_false (by omega)
 have j6 : ¬ 52 < m := by omega
 go_enter Try.func33, Try.ntmps33
 go_wp2_with fail
 have hba := (Below.refl w.heap.size w).alloc (Nat.le_refl _) (.cells (patA f t o n sz B l.length d) 35)
 refine (K1.out _ (HP.out.stays hba)).mono ?_
 rintro e w1 ⟨A1, c1, rfl, ho1, hb1⟩
 have hb1' := hba.trans (hb1.mono (by simp))
 obtain ⟨a0r, a0f, a0n, a0c, a0z, a0l⟩ := kp (w.heap.size) (patA f t o n sz B l.length d) hb1
 have HBT := hD ho1.src.bts
 have hc1 := ho1.le
 dsimp only at hc1
 have HB1 := hD hb1'
 clear ho1 hb1 hb1'
 go_wp2_with fail
 refine (K2.out _ _ _ hc1 HBT.out).mono ?_
 rintro e w2 ⟨A2, c2, rfl, ho2, hb2⟩
 obtain ⟨tT, hgp⟩ := row_blk (w := w2) (g := w.heap.size) (by rw [rowOf_below a0l hb2, a0r]; simp [patA])
 have hpb2 : w2.heap[w.heap.size]? = some (.cells (patA f t o n sz B l.length d) tT (0, 0)) := by rw [rowOf_below a0l hb2, a0r, frOf_below a0l hb2, a0f] at hgp; exact hgp
 have HPB0 := hD hpb2
 have HBB2 := hD ho2.src.bts
 have hc2 := ho2.le
 have HB2 : Hid (Below w.heap.size w w2) := hD (HB1.out.trans (hb2.mono HB1.out.size))
 have hg0l := blk_lt hpb2
 have hlb : 0 < b.length := by omega
 obtain ⟨ab, ao, rfl, hab, _⟩ := HBB2.out 0 hlb
 clear ho2 hb2 hgp hpb2 a0r a0f a0n a0c a0z a0l HP K1 K2
 go_wp2_with fail
 generalize hg0 : w.heap.size = g0 at *
 have HGE := hD hg0
 generalize hbase : w2.heap.size = base at *
 have HBE := hD hbase
 clear hg0 hbase
 go_loopw [7, 27] (fun v i wr => ∃ (k : Nat) (acc : List Chk) (ds : List (Option Addr × Nat)) (C : Option Addr) (cc : Nat), k ≤ m ∧ i = .int .i64 k ∧ v = .slice C acc.length cc ∧ acc.length = k ∧ Hid (acc = cs.take k) ∧ Hid (GRow kChk wr base acc ds C cc) ∧ Hid (Each kChk acc ds (fun q => base ≤ q)) ∧ Hid (Below base w2 wr)) (fun _ i _ => m - (intOf i).toNat)
 case atStart => exact ⟨0, [], [], none, 0, Nat.zero_le _, rfl, rfl, rfl, hD (by simp), hD (GRow.nil _ _), hD Each.nil, hD (Below.refl _ _)⟩
 case round =>
  rename World => wo
  obtain ⟨k, acc, ds, C, cc, hk, rfl, rfl, hal, HAC, HR, HE, HB⟩ := hrel
  have hbo : base ≤ wo.heap.size := Nat.le_trans (Nat.le_of_eq HBE.out.symm) HB.out.size
  have hbw : Below w2.heap.size w2 wo := HBE.out ▸ HB.out
  by_cases hlt : k < m
  ·have dl : decide ((k : Int) < (m : Int)) = true := decide_eq_true (by omega)
   have hwk : IntKind.i64.wrap ((k : Int) + 1) = (k : Int) + 1 := IntWalk.i64_in _ (by omega)
   obtain ⟨x, hx⟩ : ∃ x, ca k = x := ⟨_, rfl⟩
   have hxe := HCA.out k
   rw [hx] at hxe
   obtain ⟨y, hy⟩ : ∃ y, x.data.length = y := ⟨_, rfl⟩
   have hyk : k * 16 + y ≤ b.length ∧ y ≤ 16 ∧ (y = 16 ∨ k * 16 + y = b.length) := by rw [← hy, hxe]; have := HM.out; simp; omega
   obtain ⟨hy1, hy2, hy3⟩ := hyk
   obtain ⟨o3, c3, hc3, hB3, hsl3⟩ := mid_slice (z1 := (k : Int) * 16) (z2 := (k : Int) * 16 + (y : Int)) (k * 16) y (by simp) (by simp) hc2 hy1 (HBB2.out.stays hbw)
   have hdt : (b.drop (k * 16)).take y = x.data := by
    rw [← hy, hxe]
    dsimp only
    rw [List.length_take, List.take_eq_take_iff]
    omega
   rw [hdt] at hB3
   have HNXT : Hid (acc ++ [x] = cs.take (k + 1)) := hD (by
    have h1 := HCO.out k hlt
    rw [hx] at h1
    obtain ⟨h2, h3⟩ := List.getElem?_eq_some_iff.1 h1
    rw [List.take_succ_eq_append_getElem h2, h3, HAC.out])
   have HCL : Hid (∀ wq, Below wo.heap.size wo wq → Calls Try.prog 100 #[.slice (some ⟨ab, o3, none⟩) y c3] wq (SlRet wq 5 1 y (x.data.map bv))) := hD (fun wq h => cloneBytes_calls _ _ _ _ wq (by simp [hy]) (by omega) (hB3.stays h).src (bv_one _))
   have HXE : Hid (∀ e : Option Addr × Nat, (kChk.cell x e).toArray = chkA f t (k : Int) (m : Int) e.1 y e.2) := hD (fun e => by rw [← hy]; rw [show kChk.cell x e = chkC x e.1 e.2 from rfl, hxe]; simp [chkA])
   have HW1 : Hid (IntKind.i64.wrap ((k : Int) * 16) = (k : Int) * 16) := hD (IntWalk.i64_in _ (by omega))
   have HW2 : Hid (IntKind.i64.wrap ((k : Int) + 1) = (k : Int) + 1) := hD hwk
   have HW3 : Hid (IntKind.i64.wrap (((k : Int) + 1) * 16) = ((k : Int) + 1) * 16) := hD (IntWalk.i64_in _ (by omega))
   have HMIN : Hid ((if ((k : Int) + 1) * 16 < (b.length : Int) then ((k : Int) + 1) * 16 else (b.length : Int)) = (k : Int) * 16 + (y : Int)) := hD (by split <;> omega)
   have HSL := hD hsl3
   have HPB : Hid (wo.heap[g0]? = some (.cells (patA f t o n sz B l.length d) tT (0, 0))) := hD ((HB.out.block g0 (by omega)).trans HPB0.out)
   have hg0b : g0 < base := by omega
   have HY := hD hy
   have HAL := hD hal
   have hk10 : k ≤ 10 := by omega
   have hacl : acc.length ≤ 10 := by omega
   clear hx hxe hy3 hB3 hsl3 hdt hbw hal hwk hy
   go_wp2_with fail
   refine wp_region_free (by kernel_rfl) (some 30 :: some 31 :: some 32 :: some 33 :: some 34 :: some 35 :: some 36 :: some 37 :: some 38 :: some 39 :: some 40 :: some 41 :: some 42 :: some 43 :: some 44 :: some 45 :: some 46 :: some 47 :: some 48 :: some 49 :: some 50 :: some 7 :: []) (false :: false :: false :: false :: false :: false :: false :: false :: false :: false :: false :: false :: false :: false :: false :: false :: false :: true :: true :: true :: true :: true :: []) (.slice C acc.length cc :: .pointer (some ⟨g0, 0, none⟩) :: iv f :: .pointer (some ⟨g0, 1, none⟩) :: iv t :: .int .i64 (k : Int) :: .int .i64 (m : Int) :: .slice (some ⟨ab, ao, none⟩) b.length c2 :: .int .i64 (k : Int) :: .int .i64 ((k : Int) * 16) :: .slice (some ⟨ab, ao, none⟩) b.length c2 :: .int .i64 (b.length : Int) :: .int .i64 (k : Int) :: .int .i64 ((k : Int) + 1) :: .int .i64 (((k : Int) + 1) * 16) :: .int .i64 ((k : Int) * 16 + (y : Int)) :: .slice (some ⟨ab, o3, none⟩) y c3 :: undef :: undef :: undef :: undef :: undef :: []) (fun done cv w => ctJ wo base C acc.length cc (kChk.cells acc ds) (x.data.map bv) y (fun e => kChk.cell x e) (lvlN [21, 20, 19, 18, 17] done) cv w) 53 rfl rfl (by decide +kernel) (by decide +kernel) (by decide +kernel) rfl rfl (rfl) ?_ ?_
   ·refine ⟨?_, ?_⟩
    ·intro done cv a wq hn hw hcl h hJ
     have e7 := fr_un (t := 7) (i := 0) (i0 := 21) (v := .slice C acc.length cc) h hcl hn rfl (by decide) (by decide) rfl
     exact mx_move (ch_ev e7)
    refine ⟨?_, ?_⟩
    ·intro done cv a wq hn hw hcl h hJ
     have e1 := fO 1 (.pointer (some ⟨g0, 0, none⟩)) h
     go_simp
    refine ⟨?_, ?_⟩
    ·intro done cv a wq hn hw hcl h hJ
     have e31 := fN 1 31 h hw
     have hc := ctJ_blk hJ HPB.out hg0b
     have hc2 : wq.cell? ⟨g0, 0, none⟩ = some (iv f) := by rw [cell_of_row _ _ _ _ _ _ hc]; rfl
     go_simp
    refine ⟨?_, ?_⟩
    ·intro done cv a wq hn hw hcl h hJ
     have e1 := fO 1 (.pointer (some ⟨g0, 0, none⟩)) h
     go_simp
    refine ⟨?_, ?_⟩
    ·intro done cv a wq hn hw hcl h hJ
     have e33 := fN 3 33 h hw
     have hc := ctJ_blk hJ HPB.out hg0b
     have hc2 : wq.cell? ⟨g0, 1, none⟩ = some (iv t) := by rw [cell_of_row _ _ _ _ _ _ hc]; rfl
     go_simp
    refine ⟨?_, ?_⟩
    ·intro done cv a wq hn hw hcl h hJ
     have e8 := fO 8 (.int .i64 (k : Int)) h
     exact mx_move (ch_ev e8)
    refine ⟨?_, ?_⟩
    ·intro done cv a wq hn hw hcl h hJ
     have e6 := fO 6 (.int .i64 (m : Int)) h
     exact mx_move (ch_ev e6)
    refine ⟨?_, ?_⟩
    ·intro done cv a wq hn hw hcl h hJ
     have e4 := fO 4 (.slice (some ⟨ab, ao, none⟩) b.length c2) h
     exact mx_move (ch_ev e4)
    refine ⟨?_, ?_⟩
    ·intro done cv a wq hn hw hcl h hJ
     have e8 := fO 8 (.int .i64 (k : Int)) h
     exact mx_move (ch_ev e8)
    refine ⟨?_, ?_⟩
    ·intro done cv a wq hn hw hcl h hJ
     have e38 := fN 8 38 h hw
     have h1 := HW1.out
     go_simp
    refine ⟨?_, ?_⟩
    ·intro done cv a wq hn hw hcl h hJ
     have e4 := fO 4 (.slice (some ⟨ab, ao, none⟩) b.length c2) h
     exact mx_move (ch_ev e4)
    refine ⟨?_, ?_⟩
    ·intro done cv a wq hn hw hcl h hJ
     have e40 := fN 10 40 h hw
     go_simp
    refine ⟨?_, ?_⟩
    ·intro done cv a wq hn hw hcl h hJ
     have e8 := fO 8 (.int .i64 (k : Int)) h
     exact mx_move (ch_ev e8)
    refine ⟨?_, ?_⟩
    ·intro done cv a wq hn hw hcl h hJ
     have e42 := fN 12 42 h hw
     have h1 := HW2.out
     go_simp
    refine ⟨?_, ?_⟩
    ·intro done cv a wq hn hw hcl h hJ
     have e43 := fN 13 43 h hw
     have h1 := HW3.out
     go_simp
    refine ⟨?_, ?_⟩
    ·intro done cv a wq hn hw hcl h hJ
     have e41 := fN 11 41 h hw; have e44 := fN 14 44 h hw
     have h1 := HMIN.out
     first | (go_simp; done) | (go_simp; split at h1 <;> omega)
    refine ⟨?_, ?_⟩
    ·intro done cv a wq hn hw hcl h hJ
     have e37 := fN 7 37 h hw; have e39 := fN 9 39 h hw; have e45 := fN 15 45 h hw
     have h1 := HSL.out
     go_simp
    refine ⟨?_, ?_⟩
    ·intro done cv a wq hn hw hcl h hJ
     have e46 := fN 16 46 h hw
     have n17 := hn
     have n18 := nW 18 17 hcl n17
     have n19 := nW 19 18 hcl n18
     have n20 := nW 20 19 hcl n19
     have n21 := nW 21 20 hcl n20
     have hl : lvlN [21, 20, 19, 18, 17] (maskB [false, false, false, false, false, false, false, false, false, false, false, false, false, false, false, false, false, true, true, true, true, true] done) = 0 := by simp [lvlN, maskB, n17, n18, n19, n20, n21]
     have hl2 : lvlN [21, 20, 19, 18, 17] (fun j => if j = 17 then true else maskB [false, false, false, false, false, false, false, false, false, false, false, false, false, false, false, false, false, true, true, true, true, true] done j) = 1 := by simp [lvlN, maskB, n17, n18, n19, n20, n21]
     rw [hl] at hJ
     have hK : ∀ (v : Value) (w' : World), ctJ wo base C acc.length cc (kChk.cells acc ds) (x.data.map bv) y (fun e => kChk.cell x e) 1 (fun j => if j = 17 then v else cv j) w' → ctJ wo base C acc.length cc (kChk.cells acc ds) (x.data.map bv) y (fun e => kChk.cell x e) (lvlN [21, 20, 19, 18, 17] (fun j => if j = 17 then true else maskB [false, false, false, false, false, false, false, false, false, false, false, false, false, false, false, false, false, true, true, true, true, true] done j)) (fun j => if j = 17 then v else cv j) w' := fun v w' h => by rw [hl2]; exact h
     obtain rfl : wq = wo.drew := hJ
     refine wp_call (vals := #[.slice (some ⟨ab, o3, none⟩) y c3]) (by rw [List.map_toArray, List.map_cons, List.map_nil, ch_ev e46]) (enters_of Try.func100 (by kernel_rfl) rfl _ _) (HCL.out _ ((Below.refl _ _).drew)) ?_
     rintro e w' ⟨A5, c5, rfl, hown, hbel⟩
     exact ⟨_, rfl, _, rfl, hK _ _ ⟨A5, c5, by simp, hown, (Below.refl _ _).drew.trans hbel⟩⟩
    refine ⟨?_, ?_⟩
    ·intro done cv a wq hn hw hcl h hJ
     have e32 := fN 2 32 h hw; have e34 := fN 4 34 h hw; have e35 := fN 5 35 h hw; have e36 := fN 6 36 h hw; have e47 := fr_cv (i := 17) (t := 47) h (hw 17 (by decide)) rfl rfl
     have n18 := hn
     have n19 := nW 19 18 hcl n18
     have n20 := nW 20 19 hcl n19
     have n21 := nW 21 20 hcl n20
     have m17 := hw 17 (by decide)
     have hl : lvlN [21, 20, 19, 18, 17] (maskB [false, false, false, false, false, false, false, false, false, false, false, false, false, false, false, false, false, true, true, true, true, true] done) = 1 := by simp [lvlN, maskB, n18, n19, n20, n21, m17]
     have hl2 : lvlN [21, 20, 19, 18, 17] (fun j => if j = 18 then true else maskB [false, false, false, false, false, false, false, false, false, false, false, false, false, false, false, false, false, true, true, true, true, true] done j) = 2 := by simp [lvlN, maskB, n18, n19, n20, n21, m17]
     rw [hl] at hJ
     have hK : ∀ (v : Value) (w' : World), ctJ wo base C acc.length cc (kChk.cells acc ds) (x.data.map bv) y (fun e => kChk.cell x e) 2 (fun j => if j = 18 then v else cv j) w' → ctJ wo base C acc.length cc (kChk.cells acc ds) (x.data.map bv) y (fun e => kChk.cell x e) (lvlN [21, 20, 19, 18, 17] (fun j => if j = 18 then true else maskB [false, false, false, false, false, false, false, false, false, false, false, false, false, false, false, false, false, true, true, true, true, true] done j)) (fun j => if j = 18 then v else cv j) w' := fun v w' h => by rw [hl2]; exact h
     obtain ⟨A5, c5, y1, hown, hbel⟩ := hJ
     rw [y1] at e47
     refine wp_val (v := .agg (chkA f t (k : Int) (m : Int) A5 y c5)) (by go_simp) ⟨_, rfl, hK _ _ ⟨A5, c5, ?_, hown, hbel⟩⟩
     rw [HXE.out]
     simp
    refine ⟨?_, ?_⟩
    ·intro done cv a wq hn hw hcl h hJ
     have e48 := fr_cv (i := 18) (t := 48) h (hw 18 (by decide)) rfl rfl
     have n19 := hn
     have n20 := nW 20 19 hcl n19
     have n21 := nW 21 20 hcl n20
     have m18 := hw 18 (by decide)
     have hl : lvlN [21, 20, 19, 18, 17] (maskB [false, false, false, false, false, false, false, false, false, false, false, false, false, false, false, false, false, true, true, true, true, true] done) = 2 := by simp [lvlN, maskB, n19, n20, n21, m18]
     have hl2 : lvlN [21, 20, 19, 18, 17] (fun j => if j = 19 then true else maskB [false, false, false, false, false, false, false, false, false, false, false, false, false, false, false, false, false, true, true, true, true, true] done j) = 3 := by simp [lvlN, maskB, n19, n20, n21, m18]
     rw [hl] at hJ
     have hK : ∀ (v : Value) (w' : World), ctJ wo base C acc.length cc (kChk.cells acc ds) (x.data.map bv) y (fun e => kChk.cell x e) 3 (fun j => if j = 19 then v else cv j) w' → ctJ wo base C acc.length cc (kChk.cells acc ds) (x.data.map bv) y (fun e => kChk.cell x e) (lvlN [21, 20, 19, 18, 17] (fun j => if j = 19 then true else maskB [false, false, false, false, false, false, false, false, false, false, false, false, false, false, false, false, false, true, true, true, true, true] done j)) (fun j => if j = 19 then v else cv j) w' := fun v w' h => by rw [hl2]; exact h
     obtain ⟨A5, c5, y1, hown, hbel⟩ := hJ
     rw [y1] at e48
     rw [HXE.out] at e48
     refine wp_sbc e48 ⟨_, rfl, hK _ _ ⟨A5, c5, wq, hown, hbel, by rw [HXE.out], by simp⟩⟩
    refine ⟨?_, ?_⟩
    ·intro done cv a wq hn hw hcl h hJ
     have e30 := fN 0 30 h hw; have e49 := fr_cv (i := 19) (t := 49) h (hw 19 (by decide)) rfl rfl
     have n20 := hn
     have n21 := nW 21 20 hcl n20
     have m19 := hw 19 (by decide)
     have hl : lvlN [21, 20, 19, 18, 17] (maskB [false, false, false, false, false, false, false, false, false, false, false, false, false, false, false, false, false, true, true, true, true, true] done) = 3 := by simp [lvlN, maskB, n20, n21, m19]
     have hl2 : lvlN [21, 20, 19, 18, 17] (fun j => if j = 20 then true else maskB [false, false, false, false, false, false, false, false, false, false, false, false, false, false, false, false, false, true, true, true, true, true] done j) = 4 := by simp [lvlN, maskB, n20, n21, m19]
     rw [hl] at hJ
     have hK : ∀ (v : Value) (w' : World), ctJ wo base C acc.length cc (kChk.cells acc ds) (x.data.map bv) y (fun e => kChk.cell x e) 4 (fun j => if j = 20 then v else cv j) w' → ctJ wo base C acc.length cc (kChk.cells acc ds) (x.data.map bv) y (fun e => kChk.cell x e) (lvlN [21, 20, 19, 18, 17] (fun j => if j = 20 then true else maskB [false, false, false, false, false, false, false, false, false, false, false, false, false, false, false, false, false, true, true, true, true, true] done j)) (fun j => if j = 20 then v else cv j) w' := fun v w' h => by rw [hl2]; exact h
     obtain ⟨A5, c5, w1, hown, hbel, rfl, y1⟩ := hJ
     rw [y1] at e49
     refine wp_app _ (.tmp 30) (.tmp 49) 43 rfl elChunks base C acc.length cc (kChk.cells acc ds) (ch_ev e30) ((HR.out.row.below (B := 0) hbel).alloc _) (some ⟨w1.heap.size, 0, none⟩) 1 1 (kChk.cell x (A5, c5)) (ch_ev e49) (src_blk (blk_top rfl)) (by simp [kChk]) (kChk.one _ _) (by omega) (by have := hbel.size; simp; omega) ?_
     intro A' c' w' hown2 hgr hbel2 hor
     exact ⟨_, rfl, hK _ _ (ctJ_app hown hbel hown2 hgr hbel2 hor (Nat.le_trans hbo hbel.size))⟩
    refine ⟨?_, ?_⟩
    ·intro done cv a wq hn hw hcl h hJ
     have e50 := fr_cv (i := 20) (t := 50) h (hw 20 (by decide)) rfl rfl
     have n21 := hn
     have m20 := hw 20 (by decide)
     have hl : lvlN [21, 20, 19, 18, 17] (maskB [false, false, false, false, false, false, false, false, false, false, false, false, false, false, false, false, false, true, true, true, true, true] done) = 4 := by simp [lvlN, maskB, n21, m20]
     have hl2 : lvlN [21, 20, 19, 18, 17] (fun j => if j = 21 then true else maskB [false, false, false, false, false, false, false, false, false, false, false, false, false, false, false, false, false, true, true, true, true, true] done j) = 5 := by simp [lvlN, maskB, n21, m20]
     rw [hl] at hJ
     have hK : ∀ (v : Value) (w' : World), ctJ wo base C acc.length cc (kChk.cells acc ds) (x.data.map bv) y (fun e => kChk.cell x e) 5 (fun j => if j = 21 then v else cv j) w' → ctJ wo base C acc.length cc (kChk.cells acc ds) (x.data.map bv) y (fun e => kChk.cell x e) (lvlN [21, 20, 19, 18, 17] (fun j => if j = 21 then true else maskB [false, false, false, false, false, false, false, false, false, false, false, false, false, false, false, false, false, true, true, true, true, true] done j)) (fun j => if j = 21 then v else cv j) w' := fun v w' h => by rw [hl2]; exact h
     obtain ⟨A5, c5, w1, A', c', hown, hbel, y1, r1, r2, r3, r4⟩ := hJ
     rw [y1] at e50
     exact wp_asg (ch_ev e50) ⟨_, rfl, hK _ _ ⟨A5, c5, w1, A', c', hown, hbel, by simp, r1, r2, r3, r4⟩⟩
    exact trivial
   ·intro dn cv w3 hall hJ
    rw [show lvlN [21, 20, 19, 18, 17] dn = 5 by simp [lvlN, hall 21 rfl (by decide)]] at hJ
    obtain ⟨A5, c5, w1', A', c', hown, hbel, y1, r1, r2, r3, r4⟩ := hJ
    simp only [freeAll, putAll_some, putAll_none, putAll_nil, List.getD_cons_zero, List.getD_cons_succ, Bool.false_eq_true, if_true, if_false, reduceIte, Nat.zero_add, Nat.reduceAdd, List.setIfInBounds_toArray, List.set_cons_zero, List.set_cons_succ]
    rw [y1]
    have hr1 : GRow kChk w1' base acc ds C cc := HR.out.below hbel
    have hdb : x.data.length ≤ c5 := by rw [HY.out]; exact hown.le
    have hblk : ∀ q, A5.map (·.block) = some q → wo.heap.size ≤ q := fun q e => (hown.block q e).1
    have hr2 := hr1.push (o := x) (d := (A5, c5)) r1 r2 r3 r4 hown.src.bts hdb (fun _ q e e2 => by have h5 := hblk q e; have h6 := (HR.out.row.block q e2).2; omega)
    have HR3 := hD hr2
    have HE3 : Hid (Each kChk (acc ++ [x]) (ds ++ [(A5, c5)]) (fun q => base ≤ q)) := hD (HE.out.push HR.out.len (fun _ q e => by have h5 := hblk q e; omega))
    have HB3 : Hid (Below base w2 w3) := hD ((HB.out.trans (hbel.mono hbo)).trans r2)
    have hwk : IntKind.i64.wrap ((k : Int) + 1) = (k : Int) + 1 := HW2.out
    clear hown hbel y1 r1 r2 r3 r4 hr1 hdb hblk hr2
    go_wp2_with fail
    go_roundw
    case rel => exact ⟨k + 1, acc ++ [x], ds ++ [(A5, c5)], A', c', by omega, by go_num, by simp, by rw [List.length_append, HAL.out]; rfl, HNXT, HR3, HE3, HB3⟩
    case measure => simp [intOf]; omega
  ·obtain rfl : k = m := by omega
   have dl : decide ((k : Int) < (k : Int)) = false := by simp
   have hz : acc = cs := by rw [HAC.out, List.take_of_length_le (by rw [HCL0.out]; exact Nat.le_refl _)]
   have HZ := hD hz
   clear hz hal
   go_wp2_with fail
   go_ret2
   rw [← HZ.out]
   exact ⟨C, cc, ds, rfl, HR.out.mono (by rw [HGE.out]; omega), HE.out.imp (fun q hq => by rw [HGE.out]; omega), by rw [HGE.out]; exact HB2.out.trans (HB.out.mono (by omega))⟩
theorem chkCut_calls (B : Option Addr) (d : Nat) (p : Pat) (w : World) (hp : PatIn w p B d) :
  Calls Try.prog 33 #[.agg (patA p.from_ p.to_ p.old p.new_ p.size B p.ops.length d)] w (ChkRet2 w (chkCut p).1 (chkCut p).2) := by
 unfold chkCut
 by_cases h : patCheck p = 0
 ·obtain ⟨h1, h2⟩ := packed_patch_len h
  rw [if_neg (by simpa using h), if_neg (by omega)]
  exact chkCut_fine B d p w hp h
 ·rw [if_pos h]
  exact chkCut_bad B d p w hp h
end Go.Proofs.Ytefkfglkpebbmac
