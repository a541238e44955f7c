/- Walks of functions, and plain words. No conditions. -/
import Derived.Test.YtefkfglkpebbmacGreatP22
set_option linter.unusedVariables false
set_option linter.unusedSimpArgs false
set_option maxRecDepth 100000
set_option maxHeartbeats 40000000
namespace Go.Proofs.YtefkfglkpebbmacGreat
open Go.RowKit
variable {a : Nat}
theorem x19 {p : Prop} (h : p := by
 go_quiet (fail)
 go_wp2_with fail
 go_meet
 case rel => exact ⟨by rw [hres], hD (below_drewN _ _)⟩) : p := h
theorem x75 {p : Prop} (h : p := by
 have e3 := mO 3 (.pointer (some ⟨w.heap.size, 0, none⟩)) h
 go_simp) : p := h
theorem splice_other (r : Rec) {a' : Nat} (ha : r.active = (a : Int)) (h : a + a' = 1) : splice (recA r) (5 + a' * 3) (infA Inf.zero) = recA (r.setOther Inf.zero) := by
 unfold Rec.setOther
 rcases (show (a = 0 ∧ a' = 1) ∨ (a = 1 ∧ a' = 0) by omega) with ⟨rfl, rfl⟩ | ⟨rfl, rfl⟩
 ·rw [if_pos (by simp [ha])]; simp [splice, recA, infA]
 rw [if_neg (by simp [ha])]; simp [splice, recA, infA]
theorem acts_open (S : Nat -> Prop) (d : Dev) (L : DLoc) (n f t m o : Int) (B : Option Addr) (bl bc : Nat) (w : World) (hok : DevOk d) (hu : d.up = true) (hd : On S w (fun v => DevIn v d L)) : Calls Tryz.prog 19 #[.agg (devA d L), .agg #[iv 5, iv n], .agg (chkA f t m o B bl bc)] w (AcRet S w (devOpen d).1 (devOpen d).2) := by
 have hrec := rec_ok hok
 have hrd : devReady d = 0 := by unfold devReady; rw [if_neg (by simpa using devCheck_ok.2 hok), if_neg (by rw [hu]; decide)]
 have KN := hD (fun w => newest_calls d.c0 d.c1 w)
 rw [refNewest_ok hok.cops] at KN
 obtain ⟨rk, hrk⟩ : ∃ rk, (recRead d.c0 d.c1).2 = rk := ⟨_, rfl⟩
 have hre : (recRead d.c0 d.c1).1 = d.rec_ := rfl
 rw [hrk, hre] at KN
 clear hrk hre
 have hact := rec_active hrec
 have hdef : devOpen d = if d.busy = true ∨ d.rec_.trying = true then (Dev.zero, 5) else if (chkJoin d.got).2 ≠ 0 then (Dev.zero, (chkJoin d.got).2)
   else if (chkJoin d.got).1.from_ ≠ (d.rec_.at_ d.rec_.active).ver ∨ (chkJoin d.got).1.to_ < d.rec_.floor then (Dev.zero, 4)
   else if (patDo (sumOn 1) (chkJoin d.got).1 (d.image d.rec_.active d.rec_)).2 ≠ 0 then (Dev.zero, (patDo (sumOn 1) (chkJoin d.got).1 (d.image d.rec_.active d.rec_)).2)
   else if (recWrite d.c0 d.c1 (d.rec_.setOther Inf.zero) false).2 ≠ 0 then (Dev.zero, (recWrite d.c0 d.c1 (d.rec_.setOther Inf.zero) false).2)
   else ({ d.write (d.rec_.setOther Inf.zero) false with busy := true, job := (chkJoin d.got).1, done := 0, got := [] }, 0) := by
  unfold devOpen; rw [if_neg (by omega)]
 have HD := hD hdef
 have HI := hD hd
 have K1 := hD (fun v (hb : Below w.heap.size w v) => refJoined_calls L.ag L.cg d.got v hd.now.lg (hd.at_ hb).got)
 have K2 := hD (fun v (hb : Below w.heap.size w v) => imageOf_calls d L v (hd.at_ hb) hok.l0 hok.l1 hok.cops)
 have K3 := hD (fun B A dd c p old w hc ho hA hp => refDone_calls B A dd c p old w hc ho hA hp)
 have K4 := hD (fun gd w h1 h2 => actsWrite_calls d L (d.rec_.setOther Inf.zero) false gd w hok.cops h1 h2)
 have hil : (d.image d.rec_.active d.rec_).length <= 1048576 := by unfold Dev.image; rw [List.length_take]; have := slot_len hok.l0 hok.l1 d.rec_.active; omega
 generalize d.image d.rec_.active d.rec_ = im at *
 obtain ⟨⟨p, e1⟩, hp⟩ : ∃ y, chkJoin d.got = y := ⟨_, rfl⟩
 rw [hp] at K1 HD
 dsimp only at K1 HD
 generalize devOpen d = res at *
 clear hrec hrd hok hdef hd hp
 generalize d.rec_ = r at *
 go_enter Tryz.func19, Tryz.ntmps19
 go_wp2_with fail
 refine (KN.out _).mono ?_
 rintro e w1 ⟨rfl, hb⟩
 obtain ⟨a0r, a0f, a0n, a0c, a0z, a0l⟩ := kp (w.heap.size) (devA d L) hb
 obtain ⟨a1r, a1f, a1n, a1c, a1z, a1l⟩ := kp (w.heap.size + 1) (#[iv 5, iv n]) hb
 obtain ⟨a3r, a3f, a3n, a3c, a3z, a3l⟩ := kp (w.heap.size + 1 + 1 + 1) (devA Dev.zero DLoc.zero) hb
 obtain ⟨a4r, a4f, a4n, a4c, a4z, a4l⟩ := kp (w.heap.size + 1 + 1 + 1 + 1) (#[.func (Fn.func 51) #[] #[]]) hb
 have HB1 : Hid (Below w.heap.size w w1) := hD (((((((Below.refl w.heap.size w).alloc (Nat.le_refl _) (.cells (devA d L) 37)).alloc (by simp) (.cells #[iv 5, iv n] 55)).alloc (by simp; omega) (.cells (chkA f t m o B bl bc) 39)).alloc (by simp; omega) (.cells (devA Dev.zero DLoc.zero) 37)).alloc (by simp; omega) _).trans (hb.mono (by simp; omega)))
 clear hb
 by_cases c1 : d.busy = true ∨ r.trying = true
 ·have hz := HD.out.trans (if_pos c1)
  subst hz
  clear HD K1 K2 K3 K4 KN hact
  cases c2 : d.busy
  case true =>
   go_wp2_with fail
   refine (actsBad_calls 5 _).mono ?_
   rintro e wz ⟨rfl, hb⟩
   obtain ⟨z3r, z3f, z3n, z3c, z3z, z3l⟩ := kp (w.heap.size + 1 + 1 + 1) (devA Dev.zero DLoc.zero) hb
   have HBZ : Hid (Below w.heap.size w wz) := hD (by
    refine Below.trans ?_ (hb.mono (by have := HB1.out.size; simp; omega))
    have hs := HB1.out.size
    exact x0)
   clear hb
   go_wp2_with fail
   refine bodyPost_ret (rC (devA Dev.zero DLoc.zero)) rfl ⟨DLoc.zero, rfl, .const fun v => DevIn.zero v, ?_⟩
   have hs := HBZ.out.size
   exact x0
  case false =>
   have q : r.trying = true := c1.resolve_left (by rw [c2]; decide)
   clear c1
   go_wp2_with fail
   refine (actsBad_calls 5 _).mono ?_
   rintro e wz ⟨rfl, hb⟩
   obtain ⟨z3r, z3f, z3n, z3c, z3z, z3l⟩ := kp (w.heap.size + 1 + 1 + 1) (devA Dev.zero DLoc.zero) hb
   have HBZ : Hid (Below w.heap.size w wz) := hD (by
    refine Below.trans ?_ (hb.mono (by have := HB1.out.size; simp; omega))
    have hs := HB1.out.size
    exact x0)
   clear hb
   go_wp2_with fail
   refine bodyPost_ret (rC (devA Dev.zero DLoc.zero)) rfl ⟨DLoc.zero, rfl, .const fun v => DevIn.zero v, ?_⟩
   have hs := HBZ.out.size
   exact x0
 have c2 : d.busy = false := by cases h : d.busy; rfl; exact absurd (.inl h) c1
 have c3 : r.trying = false := by cases h : r.trying; rfl; exact absurd (.inr h) c1
 have HD2 := hD (HD.out.trans (if_neg c1))
 clear c1 HD KN hu
 go_wp2_with fail
 refine (K1.out _ (by have hs := HB1.out.size; repeat (first | exact HB1.out | refine bA ?_ _))).mono ?_
 rintro e w2 ⟨A2, c2', rfl, hf2, hb⟩
 obtain ⟨a0r, a0f, a0n, a0c, a0z, a0l⟩ := kp (w.heap.size) (devA d L) hb
 obtain ⟨a3r, a3f, a3n, a3c, a3z, a3l⟩ := kp (w.heap.size + 1 + 1 + 1) (devA Dev.zero DLoc.zero) hb
 obtain ⟨a4r, a4f, a4n, a4c, a4z, a4l⟩ := kp (w.heap.size + 1 + 1 + 1 + 1) (#[.func (Fn.func 51) #[] #[]]) hb
 obtain ⟨r0r, r0f, r0n, r0c, r0z, r0l⟩ := kp (w1.heap.size) (recA r) hb
 have HB2 : Hid (Below w.heap.size w w2) := hD (by
  refine Below.trans ?_ (hb.mono (by have := HB1.out.size; simp; omega))
  have hs := HB1.out.size
  exact x0)
 have hs5 : w.heap.size + 5 <= w1.heap.size := by omega
 have HF2 : Hid (Fresh (w1.heap.size + 1) w2 (fun v => PatIn v p A2 c2')) := hD (by simpa using hf2)
 have hs12 : w1.heap.size + 1 <= w2.heap.size := by have := hb.size; simpa using this
 clear hb hf2 K1
 by_cases c4 : e1 ≠ 0
 ·have hz := HD2.out.trans (if_pos c4)
  subst hz
  have q : (e1 != 0) = true := by simp [c4]
  clear c4 HD2 K2 K3 K4 HF2 hact
  go_wp2_with fail
  refine (actsBad_calls e1 _).mono ?_
  rintro e wz ⟨rfl, hb⟩
  obtain ⟨z3r, z3f, z3n, z3c, z3z, z3l⟩ := kp (w.heap.size + 1 + 1 + 1) (devA Dev.zero DLoc.zero) hb
  have HBZ : Hid (Below w.heap.size w wz) := hD (by
   refine Below.trans ?_ (hb.mono (by have := HB2.out.size; simp; omega))
   have hs := HB2.out.size
   exact x0)
  clear hb
  go_wp2_with fail
  refine bodyPost_ret (rC (devA Dev.zero DLoc.zero)) rfl ⟨DLoc.zero, rfl, .const fun v => DevIn.zero v, ?_⟩
  have hs := HBZ.out.size
  exact x0
 have c4 := Decidable.not_not.1 c4
 subst c4
 have HD3 := hD (HD2.out.trans (if_neg (by decide)))
 clear HD2
 go_upto_region 20 with fail
 obtain ⟨w3, hw3⟩ : ∃ w3, w2.alloc (.cells (patA p.from_ p.to_ p.old p.new_ p.size A2 p.ops.length c2') 35) = w3 := ⟨_, rfl⟩
 have hb : Below w2.heap.size w2 w3 := by rw [← hw3]; exact (Below.refl _ _).alloc (Nat.le_refl _) _
 have hrr : rowOf w3 w2.heap.size = patA p.from_ p.to_ p.old p.new_ p.size A2 p.ops.length c2' ∧ frOf w3 w2.heap.size = (0, 0) := by rw [← hw3]; exact ⟨by rw [rowOf_alloc, if_pos rfl], by rw [frOf_alloc, if_pos rfl]⟩
 obtain ⟨a0r, a0f, a0n, a0c, a0z, a0l⟩ := keep1 (g := w.heap.size) (cs := devA d L) hb a0r (by first | (go_simp; done) | simp [recA] | simp [patA]) a0f
 obtain ⟨a3r, a3f, a3n, a3c, a3z, a3l⟩ := keep1 (g := w.heap.size + 1 + 1 + 1) (cs := devA Dev.zero DLoc.zero) hb a3r (by first | (go_simp; done) | simp [recA] | simp [patA]) a3f
 obtain ⟨a4r, a4f, a4n, a4c, a4z, a4l⟩ := keep1 (g := w.heap.size + 1 + 1 + 1 + 1) (cs := #[.func (Fn.func 51) #[] #[]]) hb a4r (by first | (go_simp; done) | simp [recA] | simp [patA]) a4f
 obtain ⟨r0r, r0f, r0n, r0c, r0z, r0l⟩ := keep1 (g := w1.heap.size) (cs := recA r) hb r0r (by first | (go_simp; done) | simp [recA] | simp [patA]) r0f
 obtain ⟨p0r, p0f, p0n, p0c, p0z, p0l⟩ := keep1 (Below.refl w3.heap.size w3) hrr.1 (by simp [patA]) hrr.2
 have HB3 := bT HB2 hb
 have HF3 : Hid (Fresh (w1.heap.size + 1) w3 (fun v => PatIn v p A2 c2')) := hD (HF2.out.below hb (Nat.le_refl _))
 have hs23 : w2.heap.size < w3.heap.size := p0l
 rw [hw3]
 clear hw3 hb hrr HB2 HF2
 obtain ⟨a, ha⟩ : ∃ a : Nat, r.active = (a : Int) := ⟨r.active.toNat, by omega⟩
 have ha1 : a <= 1 := by omega
 have pv := recA_ver r ha1
 have HA := hD ha
 rw [ha] at HD3
 obtain ⟨bad2, hbad⟩ : ∃ b, decide (p.from_ ≠ (r.at_ (a : Int)).ver ∨ p.to_ < r.floor) = b := ⟨_, rfl⟩
 have HBAD := hD hbad
 clear hbad
 go_cut [110] (fun v wx => v = .bool bad2 ∧ Hid (Below w3.heap.size w3 wx))
 case first =>
  have k1 : (0 : Int) <= (a : Int) := by omega
  have k2 : (a : Int) < 2 := by omega
  have k3 : ¬ (2 : Int) <= (a : Int) := by omega
  by_cases c5 : p.from_ = (r.at_ (a : Int)).ver
  ·have q1 : (p.from_ != (r.at_ (a : Int)).ver) = false := by simp [c5]
   by_cases c6 : p.to_ < r.floor
   ·have hres : bad2 = true := by rw [← HBAD.out]; exact decide_eq_true (.inr c6)
    clear c5
    exact x19
   have hres : bad2 = false := by rw [← HBAD.out]; exact decide_eq_false (fun h => h.elim (fun h => h c5) c6)
   clear c5
   exact x19
  have q1 : (p.from_ != (r.at_ (a : Int)).ver) = true := by simp [c5]
  have hres : bad2 = true := by rw [← HBAD.out]; exact decide_eq_true (.inl c5)
  clear c5
  exact x19
 case rest =>
 obtain ⟨rfl, hb⟩ := hcut
 obtain ⟨a0r, a0f, a0n, a0c, a0z, a0l⟩ := keep1 (g := w.heap.size) (cs := devA d L) hb.out a0r (by first | (go_simp; done) | simp [recA] | simp [patA]) a0f
 obtain ⟨a3r, a3f, a3n, a3c, a3z, a3l⟩ := keep1 (g := w.heap.size + 1 + 1 + 1) (cs := devA Dev.zero DLoc.zero) hb.out a3r (by first | (go_simp; done) | simp [recA] | simp [patA]) a3f
 obtain ⟨a4r, a4f, a4n, a4c, a4z, a4l⟩ := keep1 (g := w.heap.size + 1 + 1 + 1 + 1) (cs := #[.func (Fn.func 51) #[] #[]]) hb.out a4r (by first | (go_simp; done) | simp [recA] | simp [patA]) a4f
 obtain ⟨r0r, r0f, r0n, r0c, r0z, r0l⟩ := keep1 (g := w1.heap.size) (cs := recA r) hb.out r0r (by first | (go_simp; done) | simp [recA] | simp [patA]) r0f
 obtain ⟨p0r, p0f, p0n, p0c, p0z, p0l⟩ := keep1 (g := w2.heap.size) (cs := patA p.from_ p.to_ p.old p.new_ p.size A2 p.ops.length c2') hb.out p0r (by first | (go_simp; done) | simp [recA] | simp [patA]) p0f
 have HB4 := bT HB3 hb.out
 have HF4 : Hid (Fresh (w1.heap.size + 1) wc (fun v => PatIn v p A2 c2')) := hD (HF3.out.below hb.out (Nat.le_refl _))
 have hs34 : w3.heap.size <= wc.heap.size := hb.out.size
 clear hb HB3 HF3
 cases hbd : bad2
 case true =>
  have hz := HD3.out.trans (if_pos (of_decide_eq_true (HBAD.out.trans hbd)))
  subst hz
  clear hbd HD3 K2 K3 K4 HF4 hact
  go_wp2_with fail
  refine (actsBad_calls 4 _).mono ?_
  rintro e wz ⟨rfl, hb⟩
  obtain ⟨z3r, z3f, z3n, z3c, z3z, z3l⟩ := kp (w.heap.size + 1 + 1 + 1) (devA Dev.zero DLoc.zero) hb
  have HBZ : Hid (Below w.heap.size w wz) := hD (by
   refine Below.trans ?_ (hb.mono (by have := HB4.out.size; simp; omega))
   have hs := HB4.out.size
   exact x0)
  clear hb
  go_wp2_with fail
  refine bodyPost_ret (rC (devA Dev.zero DLoc.zero)) rfl ⟨DLoc.zero, rfl, .const fun v => DevIn.zero v, ?_⟩
  have hs := HBZ.out.size
  exact x0
 have HD4 := hD (HD3.out.trans (if_neg (of_decide_eq_false (HBAD.out.trans hbd))))
 clear HD3 HBAD hbd
 obtain ⟨⟨b', en⟩, hpd⟩ : ∃ x, patDo (sumOn 1) p im = x := ⟨_, rfl⟩
 have KI : Hid (∀ wq, Below wc.heap.size wc wq -> Calls Tryz.prog 28 #[.agg (devA d L)] wq (ImRet wq im)) := hD (fun wq h => K2.out wq (HB4.out.trans (h.mono HB4.out.size)))
 have KD : Hid (∀ wq A c, Below wc.heap.size wc wq -> im.length <= c -> Bts wq A im -> Calls Tryz.prog 27 #[.agg (patA p.from_ p.to_ p.old p.new_ p.size A2 p.ops.length c2'), .slice A im.length c] wq (ByRet2 wq b' en)) := hD (fun wq A c h hc hb => by
  have hq := K3.out A2 A c2' c p im wq hc hil hb (HF4.out.now.stays h)
  rw [hpd] at hq
  exact hq)
 rw [hpd] at HD4
 dsimp only at HD4
 clear hpd K2 K3
 have RD : Hid (rowOf wc w.heap.size = devA d L) := hD a0r
 have FD : Hid (frOf wc w.heap.size = (0, 0)) := hD a0f
 have RP : Hid (rowOf wc w2.heap.size = patA p.from_ p.to_ p.old p.new_ p.size A2 p.ops.length c2') := hD p0r
 have FP : Hid (frOf wc w2.heap.size = (0, 0)) := hD p0f
 go_wp2_with fail
 refine wp_region_free (by kernel_rfl) (some 116 :: some 117 :: some 118 :: some 119 :: some 115 :: some 120 :: some 121 :: some 17 :: some 18 :: []) (false :: false :: true :: true :: true :: true :: true :: true :: true :: []) (.agg (patA p.from_ p.to_ p.old p.new_ p.size A2 p.ops.length c2') :: .agg (devA d L) :: undef :: undef :: undef :: undef :: undef :: undef :: undef :: []) (imJ wc 2 3 4 5 6 7 8 im b' en) 327 rfl rfl (by decide +kernel) (by decide +kernel) (by decide +kernel) rfl rfl (rfl) ?_ ?_
 ·refine ⟨?_, ?_, ?_, ?_, ?_, ?_, ?_, ?_, ?_, trivial⟩
  all_goals intro done cv a wq hn hw hcl h hJ
  ·have e15 := fO 15 (.pointer (some ⟨w2.heap.size, 0, none⟩)) h
   obtain ⟨r_, f_, n_, c_, z_, l_⟩ := keep1 (imJ_bel hJ) RP.out (by simp [patA]) FP.out
   go_simp
  ·have e3 := fO 3 (.pointer (some ⟨w.heap.size, 0, none⟩)) h
   exact x61
  ·have e117 := fN 1 117 h hw
   have n2 := hn
   have n3 := nW 3 2 hcl n2
   obtain rfl : wq = wc.drew := imJ_0 (by simp [maskB, n2]) (by simp [maskB, n3]) hJ
   refine wp_call (vals := #[.agg (devA d L)]) (by rw [List.map_toArray, List.map_cons, List.map_nil, ch_ev e117]) (enters_of Tryz.func28 (by kernel_rfl) rfl _ _) (KI.out _ ((Below.refl _ _).drew)) ?_
   rintro e w' ⟨A1, c1, rfl, h3, h4, h5⟩
   exact ⟨_, rfl, _, rfl, imJ_i (by decide) (by simp [maskB, n3]) h3 h4 ((Below.refl _ _).drew.trans h5)⟩
  ·have e116 := fN 0 116 h hw; have e118 := fr_cv (i := 2) (t := 118) h (hw 2 (by decide)) rfl rfl
   have n3 := hn
   have m2 := hw 2 (by decide)
   have n4 := nW 4 3 hcl n3
   have n5 := nW 5 4 hcl n4
   have n6 := nW 6 4 hcl n4
   have n7 := nW 7 3 hcl n3
   have n8 := nW 8 3 hcl n3
   obtain ⟨A1, c1, y1, h3, h4, h5⟩ := imJ_1 (by simp [maskB, m2]) (by simp [maskB, n3]) hJ
   rw [y1] at e118
   refine wp_call (vals := #[.agg (patA p.from_ p.to_ p.old p.new_ p.size A2 p.ops.length c2'), .slice A1 (im).length c1]) (by rw [List.map_toArray, List.map_cons, List.map_cons, List.map_nil, ch_ev e116, ch_ev e118]) (enters_of Tryz.func27 (by kernel_rfl) rfl _ _) (KD.out _ _ _ h5 h3 h4) ?_
   rintro e w' ⟨A2, c2, rfl, g1, g2, g3⟩
   exact ⟨_, rfl, _, rfl, imJ_d (by simp [maskB, n4]) (by simp [maskB, n5]) (by simp [maskB, n6]) (by simp [maskB, n7]) (by simp [maskB, n8]) (by decide) (by decide) (by decide) (by decide) (by decide) g1 g2 (h5.trans (g3.mono h5.size))⟩
  ·have e119 := fr_cv (i := 3) (t := 119) h (hw 3 (by decide)) rfl rfl
   have m3 := hw 3 (by decide)
   refine wp_val (v := cv 3) (mx_move (ch_ev e119)) ⟨_, rfl, imJ_k (by simp [maskB, m3]) (by decide) hJ (fun A2 c2 _ _ _ q => ⟨fun _ => q, fun h => absurd h (by decide), fun h => absurd h (by decide), fun h => absurd h (by decide), fun h => absurd h (by decide)⟩)⟩
  ·have e115 := fr_cv (i := 4) (t := 115) h (hw 4 (by decide)) rfl rfl
   have m4 := hw 4 (by decide)
   have m3 := hcl 4 _ rfl m4 3 (by decide)
   obtain ⟨A2, c2, y1, _, _, _, g5, _⟩ := imJ_2 (by simp [maskB, m3]) hJ
   have y := g5 (by simp [maskB, m4])
   rw [y] at e115
   refine wp_val (v := .slice A2 (b').length c2) (by go_simp) ⟨_, rfl, imJ_k (by simp [maskB, m3]) (by decide) hJ (fun A3 c3 h8 _ _ _ => ⟨fun h => absurd h (by decide), fun _ => by have q := h8 (by simp [maskB, m4]); rw [y] at q; simp at q ⊢; exact q, fun h => absurd h (by decide), fun h => absurd h (by decide), fun h => absurd h (by decide)⟩)⟩
  ·have e115 := fr_cv (i := 4) (t := 115) h (hw 4 (by decide)) rfl rfl
   have m4 := hw 4 (by decide)
   have m3 := hcl 4 _ rfl m4 3 (by decide)
   obtain ⟨A2, c2, y1, _, _, _, g5, _⟩ := imJ_2 (by simp [maskB, m3]) hJ
   have y := g5 (by simp [maskB, m4])
   rw [y] at e115
   refine wp_val (v := iv en) (by go_simp) ⟨_, rfl, imJ_k (by simp [maskB, m3]) (by decide) hJ (fun A3 c3 h8 _ _ _ => ⟨fun h => absurd h (by decide), fun h => absurd h (by decide), fun _ => rfl, fun h => absurd h (by decide), fun h => absurd h (by decide)⟩)⟩
  ·have e120 := fr_cv (i := 5) (t := 120) h (hw 5 (by decide)) rfl rfl
   have m3 := hw 3 (by decide)
   have m5 := hw 5 (by decide)
   obtain ⟨A2, c2, y1, _, _, _, _, g6, _⟩ := imJ_2 (by simp [maskB, m3]) hJ
   have y := g6 (by simp [maskB, m5])
   rw [y] at e120
   refine wp_asg (v := .slice A2 (b').length c2) (ch_ev e120) ⟨_, rfl, imJ_k (by simp [maskB, m3]) (by decide) hJ (fun A3 c3 _ h9 _ _ => ⟨fun h => absurd h (by decide), fun h => absurd h (by decide), fun h => absurd h (by decide), fun _ => by have q := h9 (by simp [maskB, m5]); rw [y] at q; exact q, fun h => absurd h (by decide)⟩)⟩
  ·have e121 := fr_cv (i := 6) (t := 121) h (hw 6 (by decide)) rfl rfl
   have m3 := hw 3 (by decide)
   have m6 := hw 6 (by decide)
   obtain ⟨A2, c2, y1, _, _, _, _, _, g7, _⟩ := imJ_2 (by simp [maskB, m3]) hJ
   have y := g7 (by simp [maskB, m6])
   rw [y] at e121
   refine wp_asg (v := iv en) (ch_ev e121) ⟨_, rfl, imJ_k (by simp [maskB, m3]) (by decide) hJ (fun A3 c3 _ _ _ _ => ⟨fun h => absurd h (by decide), fun h => absurd h (by decide), fun h => absurd h (by decide), fun h => absurd h (by decide), fun _ => rfl⟩)⟩
 intro dn cv w5 hall hJ
 obtain ⟨A5, c5', y3, g1, g2, g3, g4, g5, g6, g7, g8⟩ := imJ_2 (hall 3 rfl (by decide)) hJ
 replace g4 := g4 (hall 4 rfl (by decide))
 replace g5 := g5 (hall 5 rfl (by decide))
 replace g6 := g6 (hall 6 rfl (by decide))
 replace g7 := g7 (hall 7 rfl (by decide))
 replace g8 := g8 (hall 8 rfl (by decide))
 simp only [freeAll, putAll_some, putAll_none, putAll_nil, List.getD_cons_zero, List.getD_cons_succ, Bool.false_eq_true, if_true, if_false, reduceIte, Nat.zero_add, Nat.reduceAdd, List.setIfInBounds_toArray, List.set_cons_zero, List.set_cons_succ]
 rw [y3, g4, g5, g6, g7, g8]
 obtain ⟨a0r, a0f, a0n, a0c, a0z, a0l⟩ := keep1 (g := w.heap.size) (cs := devA d L) g3 a0r (by first | (go_simp; done) | simp [recA] | simp [patA]) a0f
 obtain ⟨a3r, a3f, a3n, a3c, a3z, a3l⟩ := keep1 (g := w.heap.size + 1 + 1 + 1) (cs := devA Dev.zero DLoc.zero) g3 a3r (by first | (go_simp; done) | simp [recA] | simp [patA]) a3f
 obtain ⟨a4r, a4f, a4n, a4c, a4z, a4l⟩ := keep1 (g := w.heap.size + 1 + 1 + 1 + 1) (cs := #[.func (Fn.func 51) #[] #[]]) g3 a4r (by first | (go_simp; done) | simp [recA] | simp [patA]) a4f
 obtain ⟨r0r, r0f, r0n, r0c, r0z, r0l⟩ := keep1 (g := w1.heap.size) (cs := recA r) g3 r0r (by first | (go_simp; done) | simp [recA] | simp [patA]) r0f
 obtain ⟨p0r, p0f, p0n, p0c, p0z, p0l⟩ := keep1 (g := w2.heap.size) (cs := patA p.from_ p.to_ p.old p.new_ p.size A2 p.ops.length c2') g3 p0r (by first | (go_simp; done) | simp [recA] | simp [patA]) p0f
 have HB5 : Hid (Below w.heap.size w w5) := hD (HB4.out.trans (g3.mono HB4.out.size))
 have HF5 : Hid (Fresh (w1.heap.size + 1) w5 (fun v => PatIn v p A2 c2')) := hD (HF4.out.below g3 (Nat.le_refl _))
 have hs45 : wc.heap.size <= w5.heap.size := g3.size
 clear hJ hall y3 g1 g2 g3 g4 g5 g6 g7 g8 KI KD RD FD RP FP HB4 HF4
 by_cases c6 : en ≠ 0
 ·have hz := HD4.out.trans (if_pos c6)
  subst hz
  have q : (en != 0) = true := by simp [c6]
  clear c6 HD4 K4 HF5 hact
  go_wp2_with fail
  refine (actsBad_calls en _).mono ?_
  rintro e wz ⟨rfl, hb⟩
  obtain ⟨z3r, z3f, z3n, z3c, z3z, z3l⟩ := kp (w.heap.size + 1 + 1 + 1) (devA Dev.zero DLoc.zero) hb
  have HBZ : Hid (Below w.heap.size w wz) := hD (by
   refine Below.trans ?_ (hb.mono (by have := HB5.out.size; simp; omega))
   have hs := HB5.out.size
   exact x0)
  clear hb
  go_wp2_with fail
  refine bodyPost_ret (rC (devA Dev.zero DLoc.zero)) rfl ⟨DLoc.zero, rfl, .const fun v => DevIn.zero v, ?_⟩
  have hs := HBZ.out.size
  exact x0
 have c6 := Decidable.not_not.1 c6
 subst c6
 have HD5 := hD (HD4.out.trans (if_neg (by decide)))
 clear HD4
 obtain ⟨a', haa⟩ : ∃ a' : Nat, a + a' = 1 := ⟨1 - a, by omega⟩
 have hsp := splice_other r ha haa
 generalize r.setOther Inf.zero = r2 at *
 have hle : 5 + a' * 3 + 3 <= 11 := by omega
 have hw1 : IntKind.i64.wrap ((1 : Int) - (a : Int)) = (a' : Int) := by rw [IntWalk.i64_in _ (by omega)]; omega
 have i1 : (0 : Int) <= (a' : Int) := by omega
 have i2 : (a' : Int) < 2 := by omega
 have i3 : ¬ (2 : Int) <= (a' : Int) := by omega
 clear hact
 go_upto_region 26 with fail
 have hp5 : 0 < (rowOf w5 w1.heap.size).size := by rw [r0r]; simp [recA]
 obtain ⟨w6, hw6⟩ : ∃ w6, w5.setRow w1.heap.size (recA r2) = w6 := ⟨_, rfl⟩
 have hk6 : ∀ k, k ≠ w1.heap.size -> w6.heap[k]? = w5.heap[k]? := fun k hk => by rw [← hw6]; exact setRow_other _ _ _ _ hk
 have hs56 : w6.heap.size = w5.heap.size := by rw [← hw6]; simp
 have hrr : rowOf w6 w1.heap.size = recA r2 ∧ frOf w6 w1.heap.size = (0, 0) := by rw [← hw6, rowOf_setRow _ _ _ _ hp5, if_pos rfl, frOf_setRow]; exact ⟨rfl, r0f⟩
 have HB6 : Hid (Below w.heap.size w w6) := hD (by rw [← hw6]; exact below_row HB5.out (by omega) _)
 have HF6 : Hid (Fresh (w1.heap.size + 1) w6 (fun v => PatIn v p A2 c2')) := hD (by rw [← hw6]; exact HF5.out.row (by omega) _)
 rw [hw6]
 obtain ⟨a0r, a0f, a0n, a0c, a0z, a0l⟩ := keepH (g := w.heap.size) (cs := devA d L) (hk6 _ (by omega)) a0r (by first | (go_simp; done) | simp [patA]) a0f
 obtain ⟨a3r, a3f, a3n, a3c, a3z, a3l⟩ := keepH (g := w.heap.size + 1 + 1 + 1) (cs := devA Dev.zero DLoc.zero) (hk6 _ (by omega)) a3r (by first | (go_simp; done) | simp [patA]) a3f
 obtain ⟨a4r, a4f, a4n, a4c, a4z, a4l⟩ := keepH (g := w.heap.size + 1 + 1 + 1 + 1) (cs := #[.func (Fn.func 51) #[] #[]]) (hk6 _ (by omega)) a4r (by first | (go_simp; done) | simp [patA]) a4f
 obtain ⟨p0r, p0f, p0n, p0c, p0z, p0l⟩ := keepH (g := w2.heap.size) (cs := patA p.from_ p.to_ p.old p.new_ p.size A2 p.ops.length c2') (hk6 _ (by omega)) p0r (by first | (go_simp; done) | simp [patA]) p0f
 obtain ⟨r0r, r0f, r0n, r0c, r0z, r0l⟩ := keep1 (Below.refl w6.heap.size w6) hrr.1 (by simp [recA]) hrr.2
 clear hw6 hk6 hp5 hrr hsp hle hw1 i1 i2 i3 haa HB5 HF5 pv
 go_wp2_with fail
 refine (K4.out _ _ (by go_simp) (by go_simp)).mono ?_
 intro e w7 hwt
 obtain ⟨rfl, ⟨x0r, x0f⟩, hbx, hkx⟩ := hwt.row a0r a0f
 obtain ⟨a3r, a3f, a3n, a3c, a3z, a3l⟩ := keepH (g := w.heap.size + 1 + 1 + 1) (cs := devA Dev.zero DLoc.zero) (hkx _ (by omega) (by omega)) a3r (by first | (go_simp; done) | simp [patA]) a3f
 obtain ⟨a4r, a4f, a4n, a4c, a4z, a4l⟩ := keepH (g := w.heap.size + 1 + 1 + 1 + 1) (cs := #[.func (Fn.func 51) #[] #[]]) (hkx _ (by omega) (by omega)) a4r (by first | (go_simp; done) | simp [patA]) a4f
 obtain ⟨p0r, p0f, p0n, p0c, p0z, p0l⟩ := keepH (g := w2.heap.size) (cs := patA p.from_ p.to_ p.old p.new_ p.size A2 p.ops.length c2') (hkx _ (by omega) (by omega)) p0r (by first | (go_simp; done) | simp [patA]) p0f
 have HB7 : Hid (Below w.heap.size w w7) := hD (HB6.out.trans hbx)
 have HF7 : Hid (Fresh (w1.heap.size + 1) w7 (fun v => PatIn v p A2 c2')) := hD (HF6.out.fresh fun k h1 h2 => hkx k h2 (by omega))
 have hs67 : w6.heap.size <= w7.heap.size := hbx.size
 clear hwt hbx hkx HB6 HF6 K4
 obtain ⟨e4, he4⟩ : ∃ e4, (recWrite d.c0 d.c1 r2 false).2 = e4 := ⟨_, rfl⟩
 rw [he4] at x0r HD5 ⊢
 obtain ⟨dX, hdX⟩ : ∃ dX, (if e4 = 0 then d.write r2 false else d) = dX := ⟨_, rfl⟩
 rw [hdX] at x0r
 have HDX := hD hdX
 clear he4 hdX
 have RD : Hid (rowOf w7 w.heap.size = devA dX L) := hD x0r
 have FD : Hid (frOf w7 w.heap.size = (0, 0)) := hD x0f
 have RP : Hid (rowOf w7 w2.heap.size = patA p.from_ p.to_ p.old p.new_ p.size A2 p.ops.length c2') := hD p0r
 have FP : Hid (frOf w7 w2.heap.size = (0, 0)) := hD p0f
 have HQ1 : Hid (w2.heap.size ≠ w.heap.size) := hD (by omega)
 have HP0 : Hid (0 < (rowOf w7 w.heap.size).size) := hD (by rw [RD.out, devA_size]; decide)
 clear x0r x0f
 go_wp2_with fail
 refine wp_region_mix (by kernel_rfl) (some 138 :: some 139 :: none :: some 140 :: none :: some 141 :: none :: some 142 :: none :: []) (none :: none :: some 0 :: none :: some 1 :: none :: some 2 :: none :: some 3 :: []) (.agg (patA p.from_ p.to_ p.old p.new_ p.size A2 p.ops.length c2') :: .pointer (some ⟨w.heap.size, 29, none⟩) :: undef :: .pointer (some ⟨w.heap.size, 30, none⟩) :: undef :: .pointer (some ⟨w.heap.size, 36, none⟩) :: undef :: .pointer (some ⟨w.heap.size, 28, none⟩) :: undef :: []) 4 (opJ w7 w.heap.size dX L p A2 c2') 327 rfl rfl (by decide +kernel) (by decide +kernel) (by decide +kernel) (by decide +kernel) rfl rfl (by decide +kernel) (by decide +kernel) (rfl) ?_ ?_
 ·refine ⟨?_, ?_, ?_, ?_, ?_, ?_, ?_, ?_, ?_, trivial⟩
  ·intro done cv k a wq hw h hJ hn
   have e15 := mO 15 (.pointer (some ⟨w2.heap.size, 0, none⟩)) h
   obtain ⟨r_, f_⟩ := opJ_row hJ HQ1.out RP.out FP.out HP0.out
   go_simp
  ·intro done cv k a wq hw h hJ hn
   exact x75
  ·intro done cv a wq hw h hJ
   have e139 := mN 1 139 h hw
   obtain rfl : wq = w7.drew := hJ
   refine wp_sb1c e139 (cs := devA dX L) (by rw [rowOf_drew]; exact RD.out) (by go_simp) (by rw [frOf_drew]; exact FD.out) ⟨undef, rfl, ?_⟩
   show _ = _
   rw [devA_set_busy]
  ·intro done cv k a wq hw h hJ hn
   exact x75
  ·intro done cv a wq hw h hJ
   have e140 := mN 3 140 h hw; have e138 := mN 0 138 h hw
   have hJ' : wq = w7.drew.setRow w.heap.size (devA { dX with busy := true } L) := hJ
   subst hJ'
   refine wp_srow e140 e138 (by go_simp) (by go_simp) (cs := devA { dX with busy := true } L) (by rw [rowOf_setRow _ _ _ _ (by rw [rowOf_drew]; exact HP0.out), if_pos rfl]) (by go_simp) (by rw [frOf_setRow, frOf_drew]; exact FD.out) (by go_simp) ⟨undef, rfl, ?_⟩
   show _ = _
   rw [devA_splice_job, setRow_setRow]
  ·intro done cv k a wq hw h hJ hn
   exact x75
  ·intro done cv a wq hw h hJ
   have e141 := mN 5 141 h hw
   have hJ' : wq = w7.drew.setRow w.heap.size (devA { dX with busy := true, job := p } { L with aj := A2, cj := c2' }) := hJ
   subst hJ'
   refine wp_si1c e141 (cs := devA { dX with busy := true, job := p } { L with aj := A2, cj := c2' }) (by rw [rowOf_setRow _ _ _ _ (by rw [rowOf_drew]; exact HP0.out), if_pos rfl]) (by go_simp) (by rw [frOf_setRow, frOf_drew]; exact FD.out) ⟨undef, rfl, ?_⟩
   show _ = _
   rw [devA_set_done, setRow_setRow]
  ·intro done cv k a wq hw h hJ hn
   exact x75
  ·intro done cv a wq hw h hJ
   have e142 := mN 7 142 h hw
   have hJ' : wq = w7.drew.setRow w.heap.size (devA { dX with busy := true, job := p, done := 0 } { L with aj := A2, cj := c2' }) := hJ
   subst hJ'
   refine wp_sn1c e142 (cs := devA { dX with busy := true, job := p, done := 0 } { L with aj := A2, cj := c2' }) (by rw [rowOf_setRow _ _ _ _ (by rw [rowOf_drew]; exact HP0.out), if_pos rfl]) (by go_simp) (by rw [frOf_setRow, frOf_drew]; exact FD.out) ⟨undef, rfl, ?_⟩
   show _ = _
   rw [devA_set_got0, setRow_setRow]
 intro cv8 w8 hJ
 have hw8 : w8 = w7.drew.setRow w.heap.size (devA { dX with busy := true, job := p, done := 0, got := [] } { L with aj := A2, cj := c2', ag := none, cg := 0 }) := hJ
 simp only [mixAll, putAll_some, putAll_none, putAll_nil, List.getElem?_cons_zero, List.getElem?_cons_succ, Nat.zero_add, Nat.reduceAdd, List.setIfInBounds_toArray, List.set_cons_zero, List.set_cons_succ]
 have r8 : rowOf w8 w.heap.size = devA { dX with busy := true, job := p, done := 0, got := [] } { L with aj := A2, cj := c2', ag := none, cg := 0 } ∧ frOf w8 w.heap.size = (0, 0) := by rw [hw8, rowOf_setRow _ _ _ _ (by rw [rowOf_drew]; exact HP0.out), if_pos rfl, frOf_setRow, frOf_drew]; exact ⟨rfl, FD.out⟩
 have hk8 : ∀ k, k ≠ w.heap.size -> w8.heap[k]? = w7.heap[k]? := fun k hk => by rw [hw8]; exact setRow_other w7.drew _ _ _ hk
 have hs78 : w8.heap.size = w7.heap.size := by
  have h9 : w8.heap.size = w7.drew.heap.size := by rw [hw8]; simp [World.setRow]
  exact h9
 have HB8 : Hid (Below w.heap.size w w8) := hD (by rw [hw8]; exact below_row HB7.out.drew (Nat.le_refl _) _)
 have HF8 : Hid (Fresh (w1.heap.size + 1) w8 (fun v => PatIn v p A2 c2')) := hD (HF7.out.fresh fun k h1 h2 => hk8 k (by omega))
 obtain ⟨a3r, a3f, a3n, a3c, a3z, a3l⟩ := keepH (g := w.heap.size + 1 + 1 + 1) (cs := devA Dev.zero DLoc.zero) (hk8 _ (by omega)) a3r (by go_simp) a3f
 obtain ⟨a4r, a4f, a4n, a4c, a4z, a4l⟩ := keepH (g := w.heap.size + 1 + 1 + 1 + 1) (cs := #[.func (Fn.func 51) #[] #[]]) (hk8 _ (by omega)) a4r (by go_simp) a4f
 clear hJ hw8 hk8 RD FD RP FP HP0 HB7 HF7
 obtain ⟨x0r, x0f, x0n, x0c, x0z, x0l⟩ := keep1 (Below.refl w8.heap.size w8) r8.1 (by go_simp) r8.2
 clear r8
 by_cases c7 : e4 ≠ 0
 ·have hz := HD5.out.trans (if_pos c7)
  subst hz
  have KD := hD (fun gb gd w h1 h2 => actsDone_bad e4 gb gd w c7 h1 h2)
  clear c7 HD5 HDX HF8
  go_wp2_with fail
  refine (KD.out _ _ _ (by go_simp) (by go_simp)).mono ?_
  rintro e w9 ⟨rfl, hb⟩
  obtain ⟨c3r, c3f, c3n, c3c, c3z, c3l⟩ := kp (w.heap.size + 1 + 1 + 1) (devA Dev.zero DLoc.zero) hb
  have HB9 := bT HB8 hb
  clear hb
  go_wp2_with fail
  refine bodyPost_ret (rC (devA Dev.zero DLoc.zero)) rfl ⟨DLoc.zero, rfl, .const fun v => DevIn.zero v, ?_⟩
  exact below_row HB9.out (by omega) _
 have c7 := Decidable.not_not.1 c7
 subst c7
 have hz := HD5.out.trans (if_neg (by decide))
 have hX : d.write r2 false = dX := by have := HDX.out; rwa [if_pos rfl] at this
 rw [hX] at hz
 subst hz
 have hin : ∀ v, DevIn v d L -> PatIn v p A2 c2' -> DevIn v { dX with busy := true, job := p, done := 0, got := [] } { L with aj := A2, cj := c2', ag := none, cg := 0 } := fun v h g => by
  rw [← hX]
  exact ⟨h.k0, h.l0, h.b0, h.k1, h.l1, h.b1, Nat.le_refl _, Nat.zero_le _, Chs.nil _ _, g, h.ir, i64_0⟩
 have HIN := hD hin
 clear hin hX HDX HD5
 go_wp2_with fail
 refine (actsDone_ok { dX with busy := true, job := p, done := 0, got := [] } { L with aj := A2, cj := c2', ag := none, cg := 0 } _ _ _ (by go_simp) (by go_simp)).mono ?_
 rintro e w9 ⟨rfl, hb⟩
 obtain ⟨c3r, c3f, c3n, c3c, c3z, c3l⟩ := kp (w.heap.size + 1 + 1 + 1) (devA Dev.zero DLoc.zero) hb
 have HB9 := bT HB8 hb
 have HF9 : Hid (Fresh (w1.heap.size + 1) w9 (fun v => PatIn v p A2 c2')) := hD (HF8.out.below hb (Nat.le_refl _))
 clear hb HF8
 have hn2 : ¬ (S (w.heap.size + 1 + 1 + 1) ∧ w.heap.size + 1 + 1 + 1 < w.heap.size ∨ w1.heap.size + 1 <= w.heap.size + 1 + 1 + 1) := by rintro (h | h) <;> omega
 have o3 : On (fun k => S k ∧ k < w.heap.size ∨ w1.heap.size + 1 <= k) w9 (fun v => DevIn v d L) := (HI.out.sub (fun k h1 h2 => .inl ⟨h2, h1⟩)).below HB9.out
 have o4 : On (fun k => S k ∧ k < w.heap.size ∨ w1.heap.size + 1 <= k) w9 (fun v => PatIn v p A2 c2') := (On.fresh HF9.out).sub fun k _ h => .inr h
 have HON := hD ((o3.and o4).imp fun v ⟨h, g⟩ => HIN.out v h g)
 clear o3 o4 HF9 HIN
 go_wp2_with fail
 refine bodyPost_ret (rC (devA { dX with busy := true, job := p, done := 0, got := [] } { L with aj := A2, cj := c2', ag := none, cg := 0 })) rfl ⟨_, rfl, ?_, below_row HB9.out (by omega) _⟩
 exact (HON.out.row hn2 _).sub fun k _ h => h.elim .inl fun h => .inr (by omega)
theorem x1 {p : Prop} (h : p := by
 have hlt : dn + k < (room b').length := by omega
 obtain ⟨x, hx⟩ : ∃ x, (room b')[dn + k] = x := ⟨_, rfl⟩
 have hps := putU_succ (sl := sl) hlt (by omega)
 rw [hx] at hps
 have HPS := hD hps
 have hgx : (room b')[dn + k]? = some x := by rw [← hx]; exact List.getElem?_eq_getElem hlt
 have HGX := hD hgx
 have hwr : IntKind.i64.wrap ((dn : Int) + (k : Int)) = (dn : Int) + (k : Int) := IntWalk.i64_in _ (by omega)
 have hj0 : (0 : Int) <= (dn : Int) + (k : Int) := by omega
 have hj1 : (dn : Int) + (k : Int) < 64 := by omega
 have hj2 : ((dn : Int) + (k : Int)).toNat = dn + k := by omega
 have hj3 : ¬ (64 : Int) <= (dn : Int) + (k : Int) := by omega
 have hoc := HO.out.cellAt (dn + k) (by omega)
 have hof := HO.out.frozenAt (dn + k)
 have hol : g7 < wr.heap.size := (HO.out.block g7 rfl).2
 have HOC : Hid (∃ u, wr.cell? ⟨g7, dn + k, none⟩ = some u) := hD (by
  rw [hoc]; exact ⟨_, List.getElem?_eq_getElem (by rw [List.length_map, putU_len (by omega) (by omega), hsl]; omega)⟩)
 have HOF := hD hof
 have HBr := hD (HBB.out.stays HX.out)
 have RD : Hid (rowOf wr w.heap.size = devA d L ∧ frOf wr w.heap.size = (0, 0)) := hD (by
  obtain ⟨q1, q2, _⟩ := keep1 (g := w.heap.size) (cs := devA d L) HX.out RA.out.1 (by go_simp) RA.out.2
  exact ⟨q1, q2⟩)
 have HL1 : Hid (b'.length <= 64) := hD hb64
 clear hx hps hgx hoc hof
 go_wp2_with fail
 refine wp_region_mix (by kernel_rfl) (some 193 :: some 194 :: some 195 :: some 196 :: some 197 :: some 198 :: some 199 :: some 200 :: some 201 :: some 202 :: some 203 :: some 204 :: some 205 :: some 206 :: none :: []) (none :: none :: none :: none :: none :: none :: some 0 :: none :: none :: none :: none :: some 1 :: some 2 :: none :: some 3 :: []) (.slice (some ⟨g7, 0, none⟩) 64 c7 :: .pointer (some ⟨w.heap.size, 36, none⟩) :: iv d.done :: iv (k : Int) :: iv ((dn : Int) + (k : Int)) :: .slice A5 b'.length c5' :: undef :: .pointer (some ⟨w.heap.size, 36, none⟩) :: iv d.done :: iv (k : Int) :: iv ((dn : Int) + (k : Int)) :: undef :: undef :: .pointer (some ⟨g7, dn + k, none⟩) :: undef :: []) 4 (wtJ wr (room b') g7 (dn + k) x) 327 rfl rfl (by decide +kernel) (by decide +kernel) (by decide +kernel) (by decide +kernel) rfl rfl (by decide +kernel) (by decide +kernel) (rfl) ?_ ?_
 ·refine ⟨?_, ?_, ?_, ?_, ?_, ?_, ?_, ?_, ?_, ?_, ?_, ?_, ?_, ?_, ?_, trivial⟩
  ·intro done cv k0 a wq hw h hJ hn
   have e22 := mO 22 (.slice (some ⟨g7, 0, none⟩) 64 c7) h
   exact mx_move (ch_ev e22)
  ·intro done cv k0 a wq hw h hJ hn
   have e3 := mO 3 (.pointer (some ⟨w.heap.size, 0, none⟩)) h
   go_simp
  ·intro done cv k0 a wq hw h hJ hn
   have e194 := mN 1 194 h hw
   have hk_ := hn 14 _ 3 rfl rfl (by decide)
   obtain ⟨r_, f_, n_, c_, z_, l_⟩ := keep1 (wtJ_bel hk_ hJ) RD.out.1 (by go_simp) RD.out.2
   go_simp
  ·intro done cv k0 a wq hw h hJ hn
   have e23 := mO 23 (iv (k : Int)) h
   exact mx_move (ch_ev e23)
  ·intro done cv k0 a wq hw h hJ hn
   have e195 := mN 2 195 h hw; have e196 := mN 3 196 h hw
   go_simp
  ·intro done cv k0 a wq hw h hJ hn
   have e19 := mO 19 (.slice A5 b'.length c5') h
   exact mx_move (ch_ev e19)
  ·intro done cv a wq hw h hJ
   have e198 := mN 5 198 h hw
   obtain rfl : wq = wr.drew := hJ
   refine wp_call (vals := #[.slice A5 b'.length c5']) (by rw [List.map_toArray, List.map_cons, List.map_nil, ch_ev e198]) (enters_of Tryz.func30 (by kernel_rfl) rfl _ _) (filled_calls A5 c5' b' _ HL1.out (HBr.out.stays (Below.refl _ _).drew)) ?_
   rintro e w' ⟨A8, c8, rfl, hown, hbel⟩
   exact ⟨_, rfl, _, rfl, A8, c8, by simp, hown.src.bts, (Below.refl _ _).drew.trans hbel⟩
  ·intro done cv k0 a wq hw h hJ hn
   have e3 := mO 3 (.pointer (some ⟨w.heap.size, 0, none⟩)) h
   go_simp
  ·intro done cv k0 a wq hw h hJ hn
   have e200 := mN 7 200 h hw
   have hk_ := hn 14 _ 3 rfl rfl (by decide)
   obtain ⟨r_, f_, n_, c_, z_, l_⟩ := keep1 (wtJ_bel hk_ hJ) RD.out.1 (by go_simp) RD.out.2
   go_simp
  ·intro done cv k0 a wq hw h hJ hn
   have e23 := mO 23 (iv (k : Int)) h
   exact mx_move (ch_ev e23)
  ·intro done cv k0 a wq hw h hJ hn
   have e201 := mN 8 201 h hw; have e202 := mN 9 202 h hw
   go_simp
  ·intro done cv a wq hw h hJ
   have e199 := mx_cv (i := 6) (t := 199) h (hw 6 (by decide)) rfl rfl; have e203 := mN 10 203 h hw
   obtain ⟨A8, c8, y1, g1, g2⟩ := hJ
   rw [y1] at e199
   have hgx := HGX.out
   obtain ⟨bb, oo, rfl, hll, hcc⟩ := g1 (dn + k) hlt
   have hcc2 : wq.cell? ⟨bb, oo + (dn + k), none⟩ = some (bv x) := by
    rw [hcc]; rw [List.getElem?_eq_getElem hlt] at hgx; injection hgx with hgx; rw [hgx]
   refine wp_val (v := .pointer (some ⟨bb, oo + (dn + k), none⟩)) (by go_simp) ⟨_, rfl, bb, oo + (dn + k), by simp, hcc2, g2⟩
  ·intro done cv a wq hw h hJ
   have e204 := mx_cv (i := 11) (t := 204) h (hw 11 (by decide)) rfl rfl
   obtain ⟨bb, oo, y1, hcc, g2⟩ := hJ
   rw [y1] at e204
   refine wp_val (v := bv x) (by go_simp) ⟨_, rfl, by simp, g2⟩
  ·intro done cv k0 a wq hw h hJ hn
   have e193 := mN 0 193 h hw; have e197 := mN 4 197 h hw
   go_simp
  ·intro done cv a wq hw h hJ
   have e206 := mN 13 206 h hw; have e205 := mx_cv (i := 12) (t := 205) h (hw 12 (by decide)) rfl rfl
   obtain ⟨y1, g2⟩ := hJ
   rw [y1] at e205
   obtain ⟨u, hu⟩ := HOC.out
   have hf_ : wq.frozen? ⟨g7, dn + k, none⟩ = false := by
    have := HOF.out
    unfold World.frozen? at this ⊢
    rw [g2.block g7 hol]; exact this
   refine wp_stu e206 e205 ((g2.cell (p := ⟨g7, dn + k, none⟩) hol).trans hu) hf_ ⟨undef, rfl, wq, g2, rfl⟩
 intro cv w5 hJ
 obtain ⟨w', hbw, rfl⟩ : ∃ w', Below wr.heap.size wr w' ∧ w5 = w'.setCell ⟨g7, dn + k, none⟩ (bv x) := hJ
 simp only [mixAll, putAll_some, putAll_none, putAll_nil, List.getElem?_cons_zero, List.getElem?_cons_succ, Nat.zero_add, Nat.reduceAdd, List.setIfInBounds_toArray, List.set_cons_zero, List.set_cons_succ]
 have hst := Own.stored (Own.below HO.out hbw) (dn + k) (bv x)
 rw [← List.map_set, HPS.out] at hst
 have HO2 := hD hst
 have HX2 : Hid (Below w3.heap.size w3 (w'.setCell ⟨g7, dn + k, none⟩ (bv x))) := hD ((HX.out.trans (hbw.mono HX.out.size)).setCell hg7 _)
 have hwk : IntKind.i64.wrap ((k : Int) + 1) = (k : Int) + 1 := IntWalk.i64_in _ (by omega)
 clear hst
 go_wp2_with fail
 go_roundw
 case rel => exact ⟨k + 1, by omega, rfl, HO2, HX2⟩
 case measure => simp [intOf] <;> omega) : p := h
theorem x2 {p : Prop} (h : p := by
 refine ⟨?_, ?_, ?_, ?_, ?_, ?_, ?_, ?_, ?_, ?_, trivial⟩
 all_goals intro done cv a wq hn hw hcl h hJ
 ·have e3 := fO 3 (.pointer (some ⟨w.heap.size, 0, none⟩)) h
  go_simp
 ·have e167 := fN 0 167 h hw
  obtain ⟨r_, f_, n_, c_, z_, l_⟩ := kq (imJ_bel hJ) RD FD
  go_simp
 ·have e3 := fO 3 (.pointer (some ⟨w.heap.size, 0, none⟩)) h
  obtain ⟨r_, f_, n_, c_, z_, l_⟩ := kq (imJ_bel hJ) RD FD
  go_simp
 ·have e169 := fN 2 169 h hw
  have n3 := hn
  have n4 := nW 4 3 hcl n3
  obtain rfl : wq = w2.drew := imJ_0 (by simp [maskB, n3]) (by simp [maskB, n4]) hJ
  refine wp_call (vals := #[.agg (devA d L)]) (by rw [List.map_toArray, List.map_cons, List.map_nil, ch_ev e169]) (enters_of Tryz.func28 (by kernel_rfl) rfl _ _) (KI.out _ ((Below.refl _ _).drew)) ?_
  rintro e w' ⟨A1, c1, rfl, h3, h4, h5⟩
  exact ⟨_, rfl, _, rfl, imJ_i (by decide) (by simp [maskB, n4]) h3 h4 ((Below.refl _ _).drew.trans h5)⟩
 ·have e168 := fN 1 168 h hw; have e170 := fr_cv (i := 3) (t := 170) h (hw 3 (by decide)) rfl rfl
  have n4 := hn
  have m3 := hw 3 (by decide)
  have n5 := nW 5 4 hcl n4
  have n6 := nW 6 5 hcl n5
  have n7 := nW 7 5 hcl n5
  have n8 := nW 8 4 hcl n4
  have n9 := nW 9 4 hcl n4
  obtain ⟨A1, c1, y1, h3, h4, h5⟩ := imJ_1 (by simp [maskB, m3]) (by simp [maskB, n4]) hJ
  rw [y1] at e170
  refine wp_call (vals := #[.agg (patA d.job.from_ d.job.to_ d.job.old d.job.new_ d.job.size L.aj d.job.ops.length L.cj), .slice A1 (im).length c1]) (by rw [List.map_toArray, List.map_cons, List.map_cons, List.map_nil, ch_ev e168, ch_ev e170]) (enters_of Tryz.func27 (by kernel_rfl) rfl _ _) (KD.out _ _ _ h5 h3 h4) ?_
  rintro e w' ⟨A2, c2, rfl, g1, g2, g3⟩
  exact ⟨_, rfl, _, rfl, imJ_d (by simp [maskB, n5]) (by simp [maskB, n6]) (by simp [maskB, n7]) (by simp [maskB, n8]) (by simp [maskB, n9]) (by decide) (by decide) (by decide) (by decide) (by decide) g1 g2 (h5.trans (g3.mono h5.size))⟩
 ·have e171 := fr_cv (i := 4) (t := 171) h (hw 4 (by decide)) rfl rfl
  have m4 := hw 4 (by decide)
  refine wp_val (v := cv 4) (mx_move (ch_ev e171)) ⟨_, rfl, imJ_k (by simp [maskB, m4]) (by decide) hJ (fun A2 c2 _ _ _ q => ⟨fun _ => q, fun h => absurd h (by decide), fun h => absurd h (by decide), fun h => absurd h (by decide), fun h => absurd h (by decide)⟩)⟩
 ·have e166 := fr_cv (i := 5) (t := 166) h (hw 5 (by decide)) rfl rfl
  have m5 := hw 5 (by decide)
  have m4 := hcl 5 _ rfl m5 4 (by decide)
  obtain ⟨A2, c2, y1, _, _, _, g5, _⟩ := imJ_2 (by simp [maskB, m4]) hJ
  have y := g5 (by simp [maskB, m5])
  rw [y] at e166
  refine wp_val (v := .slice A2 (b').length c2) (by go_simp) ⟨_, rfl, imJ_k (by simp [maskB, m4]) (by decide) hJ (fun A3 c3 h8 _ _ _ => ⟨fun h => absurd h (by decide), fun _ => by have q := h8 (by simp [maskB, m5]); rw [y] at q; simp at q ⊢; exact q, fun h => absurd h (by decide), fun h => absurd h (by decide), fun h => absurd h (by decide)⟩)⟩
 ·have e166 := fr_cv (i := 5) (t := 166) h (hw 5 (by decide)) rfl rfl
  have m5 := hw 5 (by decide)
  have m4 := hcl 5 _ rfl m5 4 (by decide)
  obtain ⟨A2, c2, y1, _, _, _, g5, _⟩ := imJ_2 (by simp [maskB, m4]) hJ
  have y := g5 (by simp [maskB, m5])
  rw [y] at e166
  refine wp_val (v := iv 0) (by go_simp) ⟨_, rfl, imJ_k (by simp [maskB, m4]) (by decide) hJ (fun A3 c3 h8 _ _ _ => ⟨fun h => absurd h (by decide), fun h => absurd h (by decide), fun _ => rfl, fun h => absurd h (by decide), fun h => absurd h (by decide)⟩)⟩
 ·have e172 := fr_cv (i := 6) (t := 172) h (hw 6 (by decide)) rfl rfl
  have m4 := hw 4 (by decide)
  have m6 := hw 6 (by decide)
  obtain ⟨A2, c2, y1, _, _, _, _, g6, _⟩ := imJ_2 (by simp [maskB, m4]) hJ
  have y := g6 (by simp [maskB, m6])
  rw [y] at e172
  refine wp_asg (v := .slice A2 (b').length c2) (ch_ev e172) ⟨_, rfl, imJ_k (by simp [maskB, m4]) (by decide) hJ (fun A3 c3 _ h9 _ _ => ⟨fun h => absurd h (by decide), fun h => absurd h (by decide), fun h => absurd h (by decide), fun _ => by have q := h9 (by simp [maskB, m6]); rw [y] at q; exact q, fun h => absurd h (by decide)⟩)⟩
 ·have e173 := fr_cv (i := 7) (t := 173) h (hw 7 (by decide)) rfl rfl
  have m4 := hw 4 (by decide)
  have m7 := hw 7 (by decide)
  obtain ⟨A2, c2, y1, _, _, _, _, _, g7, _⟩ := imJ_2 (by simp [maskB, m4]) hJ
  have y := g7 (by simp [maskB, m7])
  rw [y] at e173
  refine wp_asg (v := iv 0) (ch_ev e173) ⟨_, rfl, imJ_k (by simp [maskB, m4]) (by decide) hJ (fun A3 c3 _ _ _ _ => ⟨fun h => absurd h (by decide), fun h => absurd h (by decide), fun h => absurd h (by decide), fun h => absurd h (by decide), fun _ => rfl⟩)⟩) : p := h
theorem x131 {p : Prop} (h : p := by
 have hbo := hok.work hu hb
 exact ⟨hbo.does, hbo.d0, hbo.d8, (busy_len hbo).1, (busy_len hbo).2⟩) : p := h
theorem x161 {p : Prop} (h : p := by
 have hq := refDone_calls L.aj A L.cj c d.job im wq hc hil hb (HI.out.at_ (HB2.out.trans (h.mono HB2.out.size))).job
 rw [hpd] at hq
 exact hq) : p := h
theorem x163 {p : Prop} (h : p := by
 have hbo := hok.work hu hb
 unfold devWrite; rw [if_neg (by omega), if_neg (by rw [hb]; simp; omega), if_neg (by rw [hbo.does]; simp)]
 rfl) : p := h
theorem x189 {p : Prop} (h : p := by
 unfold Dev.put putU
 rw [HRR.out, ha, show (1 : Int) - (a : Int) = (a' : Int) by omega, hgs, hdn]; rfl) : p := h
theorem x224 {p : Prop} (h : p := by
 unfold devWrite; rw [if_neg (by omega), if_pos h]) : p := h
theorem On.cell2 {S : Nat -> Prop} {w : World} {P : World -> Prop} (h : On S w P) {g j : Nat} (hg : ¬ S g) (u : Value) : On S (w.setCell ⟨g, j, none⟩ u) P := h.cell (p := ⟨g, j, none⟩) hg u
def DLoc.setS (L : DLoc) (a : Nat) (A : Option Addr) (c : Nat) : DLoc := if a = 0 then { L with a0 := A, c0 := c } else { L with a1 := A, c1 := c }
theorem devA_setS (d : Dev) (L : DLoc) (ha : a <= 1) {A : Option Addr} {c n : Nat} {nb : List UInt8} (hn : nb.length = n) : (devA d L).setIfInBounds a (.slice A n c) = devA (d.setSlot (a : Int) nb) (L.setS a A c) := by
 subst hn
 match a, ha with
 | 0, _ => rfl
 | 1, _ => rfl
theorem DevIn.put {w : World} {d : Dev} {L : DLoc} (h : DevIn w d L) (ha : a <= 1) {A : Option Addr} {c : Nat} {nb : List UInt8} {z : Int} (hb : Bts w A nb) (hl : nb.length = 64) (hc : 64 <= c) (hi : I64 z) : DevIn w { d.setSlot (a : Int) nb with done := z } (L.setS a A c) := by
 match a, ha with
 | 0, _ => exact ⟨by show nb.length <= c; omega, by show nb.length <= _; omega, hb, h.k1, h.l1, h.b1, h.kg, h.lg, h.got, h.job, h.ir, hi⟩
 | 1, _ => exact ⟨h.k0, h.l0, h.b0, by show nb.length <= c; omega, by show nb.length <= _; omega, hb, h.kg, h.lg, h.got, h.job, h.ir, hi⟩
theorem acts_write_bad (S : Nat -> Prop) (d : Dev) (L : DLoc) (kd n f t m o : Int) (B : Option Addr) (bl bc : Nat) (w : World) (hok : DevOk d) (hu : d.up = true) (hd : On S w (fun v => DevIn v d L)) (hin : I64 n) (hk : kd = 6 ∨ kd = 11) (c1 : d.busy = false ∨ d.job.size <= d.done) : Calls Tryz.prog 19 #[.agg (devA d L), .agg #[iv kd, iv n], .agg (chkA f t m o B bl bc)] w (AcRet S w (devWrite d (decide (kd = 11)) n).1 (devWrite d (decide (kd = 11)) n).2) := by
 have hrec := rec_ok hok
 have hrd : devReady d = 0 := by unfold devReady; rw [if_neg (by simpa using devCheck_ok.2 hok), if_neg (by rw [hu]; decide)]
 have KN := hD (fun w => newest_calls d.c0 d.c1 w)
 rw [refNewest_ok hok.cops] at KN
 obtain ⟨rk, hrk⟩ : ∃ rk, (recRead d.c0 d.c1).2 = rk := ⟨_, rfl⟩
 have hre : (recRead d.c0 d.c1).1 = d.rec_ := rfl
 rw [hrk, hre] at KN
 clear hrk hre
 obtain ⟨tn, htn⟩ : ∃ tn, decide (kd = 11) = tn := ⟨_, rfl⟩
 rw [htn]
 have HTN := hD htn
 have hq10 : (kd == (10 : Int)) = false := by rcases hk with rfl | rfl <;> rfl
 have hq2 : (kd == (2 : Int)) = false := by rcases hk with rfl | rfl <;> rfl
 have hq5 : (kd == (5 : Int)) = false := by rcases hk with rfl | rfl <;> rfl
 have HK := hD hk
 have hact := rec_active hrec
 have hdef : d.busy = true -> ¬ d.job.size <= d.done -> devWrite d tn n = (if tn = true then Dev.down { d.setSlot (1 - d.rec_.active) (d.put (patDo (sumOn 1) d.job (d.image d.rec_.active d.rec_)).1 (keepN tn n).toNat) with done := d.done + keepN tn n } else { d.setSlot (1 - d.rec_.active) (d.put (patDo (sumOn 1) d.job (d.image d.rec_.active d.rec_)).1 (keepN tn n).toNat) with done := d.done + keepN tn n }, 0) := fun hb hs => by
  have hbo := hok.work hu hb
  unfold devWrite; rw [if_neg (by omega), if_neg (by rw [hb]; simp; omega), if_neg (by rw [hbo.does]; simp)]
 have hdef0 : (d.busy = false ∨ d.job.size <= d.done) -> devWrite d tn n = (Dev.zero, 5) := fun h => by
  exact x224
 have hfacts : d.busy = true -> (patDo (sumOn 1) d.job (d.image d.rec_.active d.rec_)).2 = 0 ∧ 0 <= d.done ∧ d.done % 8 = 0 ∧ ((patDo (sumOn 1) d.job (d.image d.rec_.active d.rec_)).1.length : Int) = d.job.size ∧ d.job.size <= 64 := fun hb => by
  exact x131
 have HD := hD hdef
 have HD0 := hD hdef0
 have HFA := hD hfacts
 have HI := hD hd
 have K2 := hD (fun v (hb : Below w.heap.size w v) => imageOf_calls d L v (hd.at_ hb) hok.l0 hok.l1 hok.cops)
 have hil : (d.image d.rec_.active d.rec_).length <= 1048576 := by unfold Dev.image; rw [List.length_take]; have := slot_len hok.l0 hok.l1 d.rec_.active; omega
 have hl0 := hok.l0
 have hl1 := hok.l1
 generalize devWrite d tn n = res at *
 clear hrec hrd hok hdef hdef0 hfacts hd hk htn
 generalize hrr : d.rec_ = r at *
 have HRR := hD hrr
 clear hrr
 go_enter Tryz.func19, Tryz.ntmps19
 go_wp2_with fail
 refine (KN.out _).mono ?_
 rintro e w1 ⟨rfl, hb⟩
 obtain ⟨a0r, a0f, a0n, a0c, a0z, a0l⟩ := kp (w.heap.size) (devA d L) hb
 obtain ⟨a1r, a1f, a1n, a1c, a1z, a1l⟩ := kp (w.heap.size + 1) (#[iv kd, iv n]) hb
 obtain ⟨a3r, a3f, a3n, a3c, a3z, a3l⟩ := kp (w.heap.size + 1 + 1 + 1) (devA Dev.zero DLoc.zero) hb
 obtain ⟨a4r, a4f, a4n, a4c, a4z, a4l⟩ := kp (w.heap.size + 1 + 1 + 1 + 1) (#[.func (Fn.func 51) #[] #[]]) hb
 have HB1 : Hid (Below w.heap.size w w1) := hD (((((((Below.refl w.heap.size w).alloc (Nat.le_refl _) (.cells (devA d L) 37)).alloc (by simp) (.cells #[iv kd, iv n] 55)).alloc (by simp; omega) (.cells (chkA f t m o B bl bc) 39)).alloc (by simp; omega) (.cells (devA Dev.zero DLoc.zero) 37)).alloc (by simp; omega) _).trans (hb.mono (by simp; omega)))
 clear hb
 go_upto_region 7 with fail
 obtain ⟨w2, hw2⟩ : ∃ w2, w1.alloc (.cells (recA r) 28) = w2 := ⟨_, rfl⟩
 have hb : Below w1.heap.size w1 w2 := by rw [← hw2]; exact (Below.refl _ _).alloc (Nat.le_refl _) _
 have hrr : rowOf w2 w1.heap.size = recA r ∧ frOf w2 w1.heap.size = (0, 0) := by rw [← hw2]; exact ⟨by rw [rowOf_alloc, if_pos rfl], by rw [frOf_alloc, if_pos rfl]⟩
 obtain ⟨a0r, a0f, a0n, a0c, a0z, a0l⟩ := keep1 (g := w.heap.size) (cs := devA d L) hb a0r (by first | (go_simp; done) | simp [recA]) a0f
 obtain ⟨a1r, a1f, a1n, a1c, a1z, a1l⟩ := keep1 (g := w.heap.size + 1) (cs := #[iv kd, iv n]) hb a1r (by first | (go_simp; done) | simp [recA]) a1f
 obtain ⟨a3r, a3f, a3n, a3c, a3z, a3l⟩ := keep1 (g := w.heap.size + 1 + 1 + 1) (cs := devA Dev.zero DLoc.zero) hb a3r (by first | (go_simp; done) | simp [recA]) a3f
 obtain ⟨a4r, a4f, a4n, a4c, a4z, a4l⟩ := keep1 (g := w.heap.size + 1 + 1 + 1 + 1) (cs := #[.func (Fn.func 51) #[] #[]]) hb a4r (by first | (go_simp; done) | simp [recA]) a4f
 obtain ⟨r0r, r0f, r0n, r0c, r0z, r0l⟩ := keep1 (Below.refl w2.heap.size w2) hrr.1 (by simp [recA]) hrr.2
 have HB2 := bT HB1 hb
 have hs5 : w.heap.size + 5 <= w1.heap.size := by omega
 have hs12 : w1.heap.size < w2.heap.size := r0l
 rw [hw2]
 clear hw2 hb hrr HB1
 go_upto_if 148 with fail
 go_cut [148] (fun v wx => v = .bool true ∧ w2 = wx)
 case first =>
  rcases HK.out with e | e
  ·have q6 : (kd == (6 : Int)) = true := by rw [e]; rfl
   clear e
   go_wp2_with fail
   go_meet
   case rel => exact ⟨by rw [q6], rfl⟩
  have q6 : (kd == (6 : Int)) = false := by rw [e]; rfl
  have q11 : (kd == (11 : Int)) = true := by rw [e]; rfl
  clear e
  go_wp2_with fail
  go_meet
  case rel => exact ⟨rfl, rfl⟩
 case rest =>
 obtain ⟨rfl, rfl⟩ := hcut
 have hz := HD0.out c1
 subst hz
 clear HD HD0 HFA K2 KN hact
 cases c2 : d.busy
 case false =>
  go_wp2_with fail
  refine (actsBad_calls 5 _).mono ?_
  rintro e wz ⟨rfl, hb⟩
  obtain ⟨z3r, z3f, z3n, z3c, z3z, z3l⟩ := kp (w.heap.size + 1 + 1 + 1) (devA Dev.zero DLoc.zero) hb
  have HBZ : Hid (Below w.heap.size w wz) := hD (by
   refine Below.trans ?_ (hb.mono (by have := HB2.out.size; simp; omega))
   have hs := HB2.out.size
   exact x0)
  clear hb
  go_wp2_with fail
  refine bodyPost_ret (rC (devA Dev.zero DLoc.zero)) rfl ⟨DLoc.zero, rfl, .const fun v => DevIn.zero v, ?_⟩
  have hs := HBZ.out.size
  exact x0
 case true =>
  have q : d.job.size <= d.done := c1.resolve_left (by rw [c2]; decide)
  clear c1
  go_wp2_with fail
  refine (actsBad_calls 5 _).mono ?_
  rintro e wz ⟨rfl, hb⟩
  obtain ⟨z3r, z3f, z3n, z3c, z3z, z3l⟩ := kp (w.heap.size + 1 + 1 + 1) (devA Dev.zero DLoc.zero) hb
  have HBZ : Hid (Below w.heap.size w wz) := hD (by
   refine Below.trans ?_ (hb.mono (by have := HB2.out.size; simp; omega))
   have hs := HB2.out.size
   exact x0)
  clear hb
  go_wp2_with fail
  refine bodyPost_ret (rC (devA Dev.zero DLoc.zero)) rfl ⟨DLoc.zero, rfl, .const fun v => DevIn.zero v, ?_⟩
  have hs := HBZ.out.size
  exact x0
end Go.Proofs.YtefkfglkpebbmacGreat
