/- Walks of functions, and plain words. No conditions. -/
import Derived.Test.YtefkfglkpebbmadGreatP8
set_option linter.unusedVariables false
set_option linter.unusedSimpArgs false
set_option maxRecDepth 100000
set_option maxHeartbeats 40000000
namespace Go.Proofs.YtefkfglkpebbmadGreat
open Go.RowKit
variable {d : Dev} {w0 w : World} {g k : Nat} {cv : Nat → Value} {x : Wor}
def RdRet (w : World) (d : Dev) : Ending → World → Prop := fun en w' =>
 ∃ L, en = .returned (.tuple #[.agg (devA d L), .agg (recA d.rec_), iv 0]) ∧ Fresh w.heap.size w' (fun v => DvOwn v w.heap.size d L) ∧ Below w.heap.size w w'
theorem devReady_check (h : devCheck d ≠ 0) : devReady d = devCheck d := by unfold devReady; rw [if_pos h]
theorem devReady_off (h : devCheck d = 0) (hu : d.up = false) : devReady d = 5 := by unfold devReady; rw [if_neg (by omega), if_pos hu]
theorem devReady_up (h : devReady d = 0) : devCheck d = 0 ∧ d.up = true := by
 have := devReady_ok.1 h
 exact ⟨devCheck_ok.2 this.1, this.2⟩
theorem ready_bad (d : Dev) (L : DLoc) (w : World) (h : DevIn w d L) (hne : devReady d ≠ 0) : Calls Tryz.prog 39 #[.agg (devA d L)] w (RetB w (.tuple #[.agg (devA Dev.zero DLoc.zero), .agg (recA Rec.zero), iv (devReady d)])) := by
 have hba := (((Below.refl w.heap.size w).alloc (Nat.le_refl _) (.cells (devA d L) 38)).alloc (by simp) (.cells (devA Dev.zero DLoc.zero) 38)).alloc (by simp; omega) (.cells (recA Rec.zero) 29)
 have HBA := hD hba
 have HIN := hD h
 have K1 := hD (fun w h => devCheck_calls d L w h)
 by_cases hc : devCheck d ≠ 0
 first | case' inl => have T2 : Hid True := hD trivial | case' pos => have T2 : Hid True := hD trivial | case' refine_1 => have T2 : Hid True := hD trivial
 iterate 2
  ·first
    |
     revert T2; intro T2
     rw [devReady_check hc]
     have q : (devCheck d != 0) = true := by simp [hc]
     generalize devCheck d = n at *
    |
     have hc := Decidable.not_not.1 hc
     have hu : d.up = false := by
      cases hu : d.up
      ·rfl
      ·exact absurd (devReady_ok.2 ⟨devCheck_ok.1 hc, hu⟩) hne
     rw [devReady_off hc hu]
     rw [hc] at K1
   clear hne hc h hba
   go_enter Tryz.func39, Tryz.ntmps39
   go_wp2_with fail
   refine (K1.out _ (HIN.out.stays HBA.out)).mono ?_
   rintro e w1 ⟨rfl, hb1⟩
   obtain ⟨a0r, a0f, a0n, a0c, a0z, a0l⟩ := kp (w.heap.size) (devA d L) hb1
   obtain ⟨a1r, a1f, a1n, a1c, a1z, a1l⟩ := kp (w.heap.size + 1) (devA Dev.zero DLoc.zero) hb1
   obtain ⟨a2r, a2f, a2n, a2c, a2z, a2l⟩ := kp (w.heap.size + 1 + 1) (recA Rec.zero) hb1
   have HB1 := hD (HBA.out.trans (hb1.mono (by simp; omega)))
   clear hb1
   go_wp2_with fail
   refine bodyPost_ret (results_cct rfl rfl (cs := devA Dev.zero DLoc.zero) (ds := recA Rec.zero) (by go_simp) (by go_simp) (by go_simp) rfl (by go_simp) (by go_simp) (by go_simp)) rfl ⟨rfl, ?_⟩
   have hs := HB1.out.size
   repeat (first | exact HB1.out | refine bR ?_ _ | refine bC ?_ _ | refine bA ?_ _)
def rdJ (w0 : World) (g : Nat) (d : Dev) : Nat → (Nat → Value) → World → Prop
 | 0, _, w => w = w0.drew
 | 1, cv, w => ∃ L2, cv 1 = .agg (devA d L2) ∧ Fresh w0.heap.size w (fun v => DvOwn v w0.heap.size d L2) ∧ Below w0.heap.size w0 w
 | 2, _, w => ∃ L2 w2, Fresh w0.heap.size w2 (fun v => DvOwn v w0.heap.size d L2) ∧ Below w0.heap.size w0 w2 ∧ w = w2.setRow (g + 1) (devA d L2)
 | _, _, w => ∃ L2 w2, Fresh w0.heap.size w2 (fun v => DvOwn v w0.heap.size d L2) ∧ Below w0.heap.size w0 w2 ∧ w = (w2.setRow (g + 1) (devA d L2)).setRow (g + 1 + 1) (recA d.rec_)
theorem rdJ_bel (hk : k ≤ 1) (hJ : rdJ w0 g d k cv w) : Below w0.heap.size w0 w := by
 match k, hk, hJ with
 | 0, _, hJ => obtain rfl : w = w0.drew := hJ; exact (Below.refl _ _).drew
 | 1, _, ⟨_, _, _, h⟩ => exact h
theorem rdJ_any {g6 : Nat} (hk : k ≤ 2) (hg : g6 ≠ g + 1) (hr : rowOf w0 g6 = recA d.rec_) (hf : frOf w0 g6 = (0, 0)) (hz : rowOf w0 (g + 1) = devA Dev.zero DLoc.zero) (hJ : rdJ w0 g d k cv w) : rowOf w g6 = recA d.rec_ ∧ frOf w g6 = (0, 0) := by
 have hlt := row_lt (w := w0) (g := g6) (by rw [hr]; simp [recA])
 have hlt1 := row_lt (w := w0) (g := g + 1) (by rw [hz]; simp [devA])
 match k, hk, hJ with
 | 0, _, hJ => have hb := rdJ_bel (k := 0) (by omega) hJ; exact ⟨(rowOf_below hlt hb).trans hr, (frOf_below hlt hb).trans hf⟩
 | 1, _, hJ => have hb := rdJ_bel (k := 1) (by omega) hJ; exact ⟨(rowOf_below hlt hb).trans hr, (frOf_below hlt hb).trans hf⟩
 | 2, _, ⟨L2, w2, _, hb, e⟩ =>
  subst e
  rw [rowOf_setRow _ _ _ _ (by rw [rowOf_below hlt1 hb, hz]; simp [devA]), if_neg hg, frOf_setRow]
  exact ⟨(rowOf_below hlt hb).trans hr, (frOf_below hlt hb).trans hf⟩
theorem ready_ok (d : Dev) (L : DLoc) (w : World) (h : DevIn w d L) (hz : devReady d = 0) : Calls Tryz.prog 39 #[.agg (devA d L)] w (RdRet w d) := by
 have hba := (((Below.refl w.heap.size w).alloc (Nat.le_refl _) (.cells (devA d L) 38)).alloc (by simp) (.cells (devA Dev.zero DLoc.zero) 38)).alloc (by simp; omega) (.cells (recA Rec.zero) 29)
 have HBA := hD hba
 have HIN := hD h
 have K1 := hD (fun w h => devCheck_calls d L w h)
 obtain ⟨hc, hu⟩ := devReady_up hz
 have K2 := hD (fun w => read_ok d.c0 d.c1 w (devCheck_ok.1 hc).cops)
 obtain ⟨rk, hrk⟩ : ∃ rk, (recRead d.c0 d.c1).2 = rk := ⟨_, rfl⟩
 have hrec : (recRead d.c0 d.c1).1 = d.rec_ := rfl
 rw [hrk, hrec] at K2
 rw [hc] at K1
 clear hz hc h hba hrk hrec
 go_enter Tryz.func39, Tryz.ntmps39
 go_wp2_with fail
 refine (K1.out _ (HIN.out.stays HBA.out)).mono ?_
 rintro e w1 ⟨rfl, hb1⟩
 obtain ⟨a0r, a0f, a0n, a0c, a0z, a0l⟩ := kp (w.heap.size) (devA d L) hb1
 obtain ⟨a1r, a1f, a1n, a1c, a1z, a1l⟩ := kp (w.heap.size + 1) (devA Dev.zero DLoc.zero) hb1
 obtain ⟨a2r, a2f, a2n, a2c, a2z, a2l⟩ := kp (w.heap.size + 1 + 1) (recA Rec.zero) hb1
 have HB1 := hD (HBA.out.trans (hb1.mono (by simp; omega)))
 clear hb1
 go_wp2_with fail
 refine (K2.out _).mono ?_
 rintro e w2 ⟨rfl, hb2⟩
 obtain ⟨a0r, a0f, a0n, a0c, a0z, a0l⟩ := kp (w.heap.size) (devA d L) hb2
 obtain ⟨a1r, a1f, a1n, a1c, a1z, a1l⟩ := kp (w.heap.size + 1) (devA Dev.zero DLoc.zero) hb2
 obtain ⟨a2r, a2f, a2n, a2c, a2z, a2l⟩ := kp (w.heap.size + 1 + 1) (recA Rec.zero) hb2
 have HB2 := hD (HB1.out.trans (hb2.mono HB1.out.size))
 clear hb2
 go_wp2_with fail
 have q1 : rowOf (w2.alloc (.cells (recA d.rec_) 29)) w.heap.size = devA d L := by rw [rowOf_alloc, if_neg a0n]; exact a0r
 have q2 : frOf (w2.alloc (.cells (recA d.rec_) 29)) w.heap.size = (0, 0) := by rw [frOf_alloc, if_neg a0n]; exact a0f
 have q3 : rowOf (w2.alloc (.cells (recA d.rec_) 29)) (w.heap.size + 1) = devA Dev.zero DLoc.zero := by rw [rowOf_alloc, if_neg a1n]; exact a1r
 have q4 : frOf (w2.alloc (.cells (recA d.rec_) 29)) (w.heap.size + 1) = (0, 0) := by rw [frOf_alloc, if_neg a1n]; exact a1f
 have q5 : rowOf (w2.alloc (.cells (recA d.rec_) 29)) (w.heap.size + 1 + 1) = recA Rec.zero := by rw [rowOf_alloc, if_neg a2n]; exact a2r
 have q6 : frOf (w2.alloc (.cells (recA d.rec_) 29)) (w.heap.size + 1 + 1) = (0, 0) := by rw [frOf_alloc, if_neg a2n]; exact a2f
 have q7 : rowOf (w2.alloc (.cells (recA d.rec_) 29)) w2.heap.size = recA d.rec_ := by rw [rowOf_alloc, if_pos rfl]
 have q8 : frOf (w2.alloc (.cells (recA d.rec_) 29)) w2.heap.size = (0, 0) := by rw [frOf_alloc, if_pos rfl]
 have HB3 : Hid (Below w.heap.size w (w2.alloc (.cells (recA d.rec_) 29))) := hD (HB2.out.alloc HB2.out.size _)
 have HSZ : Hid (w.heap.size + 1 + 1 < (w2.alloc (.cells (recA d.rec_) 29)).heap.size) := hD (by simp; omega)
 have HG6 : Hid (w2.heap.size ≠ w.heap.size + 1) := hD (by omega)
 obtain ⟨g6, hg6⟩ : ∃ g6, w2.heap.size = g6 := ⟨_, rfl⟩
 obtain ⟨w3, hw3⟩ : ∃ w3, w2.alloc (.cells (recA d.rec_) 29) = w3 := ⟨_, rfl⟩
 obtain ⟨g, hg⟩ : ∃ g, w.heap.size = g := ⟨_, rfl⟩
 rw [hw3, hg] at q1 q2 q3 q4 q5 q6 HB3 HSZ
 rw [hw3, hg6] at q7 q8
 rw [hg6, hg] at HG6
 rw [hw3, hg6, hg]
 have RD := hD q1
 have FD := hD q2
 have RZ := hD q3
 have FZ := hD q4
 have RY := hD q5
 have FY := hD q6
 have RR := hD q7
 have FR := hD q8
 have HG := hD hg
 have KC : Hid (∀ wq, Below w3.heap.size w3 wq → Calls Tryz.prog 41 #[.agg (devA d L)] wq (DcRet wq d)) := hD (fun wq h => devCopy_calls d L wq ((HIN.out.stays (HG.out ▸ HB3.out)).stays h))
 clear q1 q2 q3 q4 q5 q6 q7 q8 hw3 hg6 hg a0r a0f a0n a0c a0z a0l a1r a1f a1n a1c a1z a1l a2r a2f a2n a2c a2z a2l
 refine wp_region_mix (by kernel_rfl) (some 28 :: some 29 :: some 30 :: some 31 :: none :: none :: some 4 :: []) (none :: some 0 :: none :: none :: some 1 :: some 2 :: none :: []) (.agg (devA d L) :: undef :: .agg (recA d.rec_) :: iv 0 :: undef :: undef :: iv 0 :: []) 3 (rdJ w3 g d) 32 rfl rfl (by decide +kernel) (by decide +kernel) (by decide +kernel) (by decide +kernel) rfl rfl (by decide +kernel) (by decide +kernel) (rfl) ?_ ?_
 ·refine ⟨?_, ?_⟩
  ·intro done cv k0 a wq hw h hJ hn
   have e1 := mO 1 (.pointer (some ⟨g, 0, none⟩)) h
   have hk := hn 4 _ 1 rfl rfl (by decide)
   have hb := rdJ_bel hk hJ
   obtain ⟨r_, f_, n_, c_, z_, l_⟩ := keep1 hb RD.out (by go_simp) FD.out
   go_simp
  refine ⟨?_, ?_⟩
  ·intro done cv a wq hw h hJ
   have e28 := mN 0 28 h hw
   obtain rfl : wq = w3.drew := hJ
   refine wp_call (vals := #[.agg (devA d L)]) (by rw [List.map_toArray, List.map_cons, List.map_nil, ch_ev e28]) (enters_of Tryz.func41 (by kernel_rfl) rfl _ _) (KC.out _ ((Below.refl _ _).drew)) ?_
   rintro e w' ⟨L2, rfl, hfr, hbel⟩
   exact ⟨_, rfl, _, rfl, L2, by simp, hfr, (Below.refl _ _).drew.trans hbel⟩
  refine ⟨?_, ?_⟩
  ·intro done cv k0 a wq hw h hJ hn
   have e6 := mO 6 (.pointer (some ⟨g6, 0, none⟩)) h
   have hk := hn 5 _ 2 rfl rfl (by decide)
   obtain ⟨r_, f_⟩ := rdJ_any hk HG6.out RR.out FR.out RZ.out hJ
   go_simp
  refine ⟨?_, ?_⟩
  ·intro done cv k0 a wq hw h hJ hn
   have e8 := mO 8 (iv 0) h
   exact mx_move (ch_ev e8)
  refine ⟨?_, ?_⟩
  ·intro done cv a wq hw h hJ
   have e2 := mO 2 (.pointer (some ⟨g + 1, 0, none⟩)) h; have e29 := mx_cv (i := 1) (t := 29) h (hw 1 (by decide)) rfl rfl
   obtain ⟨L2, y1, hfr, hbel⟩ := hJ
   rw [y1] at e29
   obtain ⟨r_, f_, n_, c_, z_, l_⟩ := keep1 hbel RZ.out (by go_simp) FZ.out
   refine wp_srow e2 e29 (by go_simp) (by go_simp) r_ (by go_simp) f_ (by go_simp) ⟨undef, rfl, L2, wq, hfr, hbel, ?_⟩
   rw [splice_all _ _ (by simp [devA])]
  refine ⟨?_, ?_⟩
  ·intro done cv a wq hw h hJ
   have e3 := mO 3 (.pointer (some ⟨g + 1 + 1, 0, none⟩)) h; have e30 := mN 2 30 h hw
   obtain ⟨L2, w2, hfr, hbel, rfl⟩ := hJ
   obtain ⟨r_, f_, n_, c_, z_, l_⟩ := keep1 hbel RY.out (by go_simp) FY.out
   obtain ⟨r2_, f2_, n2_, c2_, z2_, l2_⟩ := keep1 hbel RZ.out (by go_simp) FZ.out
   refine wp_srow e3 e30 (by go_simp) (by go_simp) (cs := recA Rec.zero) (by rw [rowOf_setRow _ _ _ _ (by rw [r2_]; simp [devA]), if_neg (by omega)]; exact r_) (by go_simp) (by rw [frOf_setRow]; exact f_) (by go_simp) ⟨undef, rfl, L2, w2, hfr, hbel, ?_⟩
   rw [splice_all _ _ (by simp [recA])]
  refine ⟨?_, ?_⟩
  ·intro done cv k0 a wq hw h hJ hn
   have e31 := mN 3 31 h hw
   exact mx_assign (ch_ev e31)
  exact trivial
 intro cv w4 hJ
 obtain ⟨L2, w5, hfr, hbel, rfl⟩ := hJ
 simp only [mixAll, putAll_some, putAll_none, putAll_nil, List.getElem?_cons_zero, List.getElem?_cons_succ, Nat.zero_add, Nat.reduceAdd, List.setIfInBounds_toArray, List.set_cons_zero, List.set_cons_succ]
 have hsz := HSZ.out
 have hge := HG.out
 obtain ⟨r_, f_, n_, c_, z_, l_⟩ := keep1 hbel RY.out (by go_simp) FY.out
 obtain ⟨r2_, f2_, n2_, c2_, z2_, l2_⟩ := keep1 hbel RZ.out (by go_simp) FZ.out
 have HFR := hD hfr
 have HB5 := hD hbel
 clear hfr hbel
 go_wp2_with fail
 refine bodyPost_ret (results_cct rfl rfl (cs := devA d L2) (ds := recA d.rec_) (by go_simp) (by go_simp) (by go_simp) rfl (by go_simp) (by go_simp) (by go_simp)) rfl ⟨L2, rfl, ?_, ?_⟩
 ·refine Fresh.imp (P := fun v => DvOwn v w3.heap.size d L2) (Fresh.mono (base := w3.heap.size) ?_ (by omega)) (fun v hv => hv.mono (by omega))
  repeat (first | exact HFR.out | refine Fresh.row ?_ (by omega) _)
 ·rw [hge]
  have hb3 := HB3.out.size
  have hb := HB3.out.trans (HB5.out.mono (by omega))
  repeat (first | exact hb | refine bR ?_ _)
theorem devCrash_bad (d : Dev) (L : DLoc) (w : World) (h : DevIn w d L)  (hne : devReady d ≠ 0) : Calls Tryz.prog 14 #[.agg (devA d L)] w (DvRet w Dev.zero (devReady d)) := by
 have hba : Below w.heap.size w ((w.alloc (.cells (devA d L) 38)).alloc (.cells (devA Dev.zero DLoc.zero) 38)) := bA (bA (Below.refl _ _) _) _
 have HBA := hD hba
 have HIN := hD h
 have KB := hD (fun w h => ready_bad d L w h hne)
 have q : (devReady d != 0) = true := by simp [hne]
 generalize devReady d = n at *
 clear hne h hba
 go_enter Tryz.func14, Tryz.ntmps14
 go_wp2_with fail
 refine (KB.out _ (HIN.out.stays HBA.out)).mono ?_
 rintro e w1 ⟨rfl, hb1⟩
 obtain ⟨a0r, a0f, a0n, a0c, a0z, a0l⟩ := kp (w.heap.size) (devA d L) hb1
 obtain ⟨a1r, a1f, a1n, a1c, a1z, a1l⟩ := kp (w.heap.size + 1) (devA Dev.zero DLoc.zero) hb1
 have HB1 := hD (HBA.out.trans (hb1.mono (by simp <;> omega)))
 clear hb1
 go_wp2_with fail
 refine bodyPost_ret (results_ct rfl rfl (cs := devA Dev.zero DLoc.zero) (by go_simp) (by go_simp) (by go_simp)) rfl ⟨DLoc.zero, rfl, .const fun v => DevIn.zero v, ?_⟩
 have hs := HB1.out.size
 repeat (first | exact HB1.out | refine bR ?_ _ | refine bC ?_ _ | refine bA ?_ _)
theorem devCrash_ok (d : Dev) (L : DLoc) (w : World) (h : DevIn w d L)  (hz : devReady d = 0) : Calls Tryz.prog 14 #[.agg (devA d L)] w (DvRet w d.down 0) := by
 have hba : Below w.heap.size w ((w.alloc (.cells (devA d L) 38)).alloc (.cells (devA Dev.zero DLoc.zero) 38)) := bA (bA (Below.refl _ _) _) _
 have HBA := hD hba
 have HIN := hD h
 have KR := hD (fun w h => ready_ok d L w h hz)
 clear hz h hba
 go_enter Tryz.func14, Tryz.ntmps14
 go_wp2_with fail
 refine (KR.out _ (HIN.out.stays HBA.out)).mono ?_
 rintro e w1 ⟨L1, rfl, hfr, hb1⟩
 obtain ⟨a0r, a0f, a0n, a0c, a0z, a0l⟩ := kp (w.heap.size) (devA d L) hb1
 obtain ⟨a1r, a1f, a1n, a1c, a1z, a1l⟩ := kp (w.heap.size + 1) (devA Dev.zero DLoc.zero) hb1
 have HFR : Hid (Fresh (w.heap.size + 2) w1 (fun v => DvOwn v (w.heap.size + 2) d L1)) := hD (by simpa [Nat.add_assoc] using hfr)
 have HB1 := hD (HBA.out.trans (hb1.mono (by simp <;> omega)))
 have hsz1 : w.heap.size + 2 ≤ w1.heap.size := by have := hb1.size; simp at this; omega
 have HK1 : Hid (Kp (w.heap.size + 2) w1 w1) := hD (Kp.refl _ _)
 clear hb1 hfr
 go_wp2_with fail
 refine (down_calls d L1 _).mono ?_
 rintro e w2 ⟨rfl, hb2⟩
 obtain ⟨a0r, a0f, a0n, a0c, a0z, a0l⟩ := kp (w.heap.size) (devA d L1) hb2
 obtain ⟨a1r, a1f, a1n, a1c, a1z, a1l⟩ := kp (w.heap.size + 1) (devA Dev.zero DLoc.zero) hb2
 have HB12 : Hid (Below w1.heap.size w1 w2 ∨ True) := hD (.inr trivial)
 have hs1 := HB1.out.size
 have HX : Hid (Fresh (w.heap.size + 2) w2 (fun v => DvOwn v (w.heap.size + 2) d L1)) := hD (by
  refine Fresh.below ?_ hb2 (Nat.le_refl _)
  repeat (first | exact HFR.out | refine Fresh.row ?_ (by omega) _ | refine Fresh.alloc ?_ _))
 have HB2 : Hid (Below w.heap.size w w2) := hD (by
  refine Below.trans ?_ (hb2.mono (by first | omega | (simp <;> omega)))
  repeat (first | exact HB1.out | refine bR ?_ _ | refine bC ?_ _ | refine bA ?_ _))
 clear hb2 HFR
 go_wp2_with fail
 refine bodyPost_ret (results_ct rfl rfl (cs := devA d.down L1.down) (by go_simp) (by go_simp) (by go_simp)) rfl ⟨L1.down, rfl, ?_, ?_⟩
 ·refine Fresh.imp (P := fun v => DvOwn v (w.heap.size + 2) d L1) (Fresh.mono (base := w.heap.size + 2) ?_ (by omega)) (fun v hv => hv.devIn.down)
  repeat (first | exact HX.out | refine Fresh.row ?_ (by omega) _)
 ·have hs := HB2.out.size
  repeat (first | exact HB2.out | refine bR ?_ _ | refine bC ?_ _ | refine bA ?_ _)
theorem devCrash_calls (d : Dev) (L : DLoc) (w : World) (h : DevIn w d L) : Calls Tryz.prog 14 #[.agg (devA d L)] w (DvRet w (devCrash d).1 (devCrash d).2) := by
 unfold devCrash
 by_cases hz : devReady d = 0
 ·rw [if_neg (by omega)]; exact devCrash_ok d L w h hz
 ·rw [if_pos hz]; exact devCrash_bad d L w h hz
theorem happen_9 (g base m top : Nat) (ds : List (Option Addr × Nat)) (n : Int) (x : Wor) (L : WLoc) (w : World) (hr : rowOf w g = worA x L) (hf : frOf w g = (0, 0)) (hg : g < base ∨ top ≤ g) (h : WorAt w base m top ds x L) : Calls Tryz.prog 53 #[.pointer (some ⟨g, 0, none⟩), .agg #[iv 9, iv n]] w (HaRet w g base (worDevice x (devCrash x.d)).1 (worDevice x (devCrash x.d)).2) := by
 have hlt : g < w.heap.size := row_lt (w := w) (by rw [hr]; simp [worA])
 have hm3 := h.h3
 have hm2 := h.h2
 have hm1 := h.h1
 obtain ⟨a0r, a0f, a0n, a0c, a0z, a0l⟩ := keep1 (Below.refl w.heap.size w) hr (by go_simp) hf
 have HBA : Hid (Below w.heap.size w ((w.alloc (.cells #[iv 9, iv n] 54)).alloc (.cells (devA x.d L.l) 38))) := hD (((Below.refl _ _).alloc (Nat.le_refl _) _).alloc (by simp) _)
 have HW1 : Hid (WorAt ((w.alloc (.cells #[iv 9, iv n] 54)).alloc (.cells (devA x.d L.l) 38)) base m top ds x L) := hD (h.same (fun k a b => HBA.out.block k (by omega)) (by simp; omega))
 have HX1 : Hid (Bex g base w ((w.alloc (.cells #[iv 9, iv n] 54)).alloc (.cells (devA x.d L.l) 38))) := hD ((Bex.refl g base w).below HBA.out (by omega) (by omega))
 have hs1 : ((w.alloc (.cells #[iv 9, iv n] 54)).alloc (.cells (devA x.d L.l) 38)).heap.size = w.heap.size + 2 := by simp
 obtain ⟨⟨d2, e2⟩, hd2⟩ : ∃ z, devCrash x.d = z := ⟨_, rfl⟩
 have KD := hD (devCrash_calls x.d L.l ((w.alloc (.cells #[iv 9, iv n] 54)).alloc (.cells (devA x.d L.l) 38)) HW1.out.dev.now)
 rw [hd2] at KD ⊢
 obtain ⟨res, hres⟩ : ∃ res, worDevice x (d2, e2) = res := ⟨_, rfl⟩
 rw [hres]
 have HD : Hid (res = if e2 ≠ 0 then (Wor.zero, e2) else ({ x with d := d2 }, 0)) := hD (by rw [← hres]; unfold worDevice; rfl)
 clear hd2 hres hr hf h
 go_enter Tryz.func53, Tryz.ntmps53
 go_wp2_with fail
 refine KD.out.mono ?_
 rintro e w2 ⟨L2, rfl, hfr, hb⟩
 have hg1 : ¬ w.heap.size + 1 = g := by omega
 have hg2 : ¬ g = w.heap.size + 1 := by omega
 obtain ⟨a0r, a0f, a0n, a0c, a0z, a0l⟩ := kp g (worA x L) hb
 obtain ⟨a1r, a1f, a1n, a1c, a1z, a1l⟩ := kp (w.heap.size + 1) (devA x.d L.l) hb
 have hs2 : w.heap.size + 2 ≤ w2.heap.size := by have := hb.size; omega
 have HX2 : Hid (Bex g base w w2) := hD (HX1.out.below hb (by omega) (by omega))
 have HW2 : Hid (WorAt w2 base m top ds x L) := hD (HW1.out.same (fun k a b => hb.block k (by omega)) (by omega))
 have HFR : Hid (Fresh (w.heap.size + 2) w2 (fun v => DevIn v d2 L2)) := hD (by simpa [Nat.add_assoc] using hfr)
 clear hb hfr KD HX1 HW1
 by_cases c2 : e2 ≠ 0
 ·have hz : res = (Wor.zero, e2) := HD.out.trans (if_pos c2)
  subst hz
  have q : (e2 == 0) = false := by simp [c2]
  have HC := hD c2
  clear c2
  go_wp2_with fail
  go_ret
  refine ⟨rfl, fun e => absurd e HC.out, HX2.out.row (.inr (by omega)) _, by simp [World.setRow]; omega⟩
 ·have c2 := Decidable.not_not.1 c2
  subst c2
  have hz : res = ({ x with d := d2 }, 0) := HD.out.trans (if_neg (by simp))
  subst hz
  go_wp2_with fail
  have hp1 : 0 < (rowOf w2 (w.heap.size + 1)).size := by rw [a1r]; simp [devA]
  have hp2 : 0 < (rowOf (w2.setRow (w.heap.size + 1) (devA d2 L2)) g).size := by rw [rowOf_setRow _ _ _ _ hp1, if_neg (by omega), a0r]; simp [worA]
  go_ret
  refine ⟨rfl, fun _ => ⟨{ L with l := L2 }, ?_, ?_, ?_⟩, ?_, ?_⟩
  ·rw [rowOf_setRow _ _ _ _ hp2, if_pos rfl]
  ·rw [frOf_setRow, frOf_setRow]; exact a0f
  ·intro v hv
   have hb0 : ∀ k, base ≤ k → k ≠ g → k ≠ w.heap.size + 1 → k < w2.heap.size → v.heap[k]? = w2.heap[k]? := fun k h1 h0 h3 h2 => (hv k h1 h0 (by simp [World.setRow]; omega)).trans ((setRow_other _ _ _ _ h0).trans (setRow_other _ _ _ _ h3))
   have hi := HW2.out.wex (v := v) (fun k h1 h2 => hb0 k h1 (by omega) (by omega) (by omega))
   exact ⟨hi.kr, hi.lr, hi.rel, HFR.out v (fun k h1 h2 => hb0 k (by omega) (by omega) (by omega) h2), hi.kn, hi.ln, hi.net⟩
  ·exact (HX2.out.row (.inr (by omega)) _).row (.inl rfl) _
  ·simp [World.setRow]; omega
theorem hapOk_9 (n : Int) : HapOk 9 n := fun g base m top ds x L w hr hf hg h _ _ => happen_9 g base m top ds n x L w hr hf hg h
theorem stoRuns_bad (h : worCheck x ≠ 0) : stoRuns x = (0, [], worCheck x) := by unfold stoRuns; rw [if_pos h]
theorem stoRuns_off (h : worCheck x = 0) (hu : x.d.up = false) : stoRuns x = (0, [], 5) := by unfold stoRuns; rw [if_neg (by omega), if_pos hu]
theorem stoRuns_up (h : worCheck x = 0) (hu : x.d.up = true) : stoRuns x = ((x.d.rec_.at_ x.d.running).ver, x.d.image x.d.running x.d.rec_, 0) := by unfold stoRuns; rw [if_neg (by omega), if_neg (by rw [hu]; simp)]
def SrRet (w : World) (v : Int) (b : List UInt8) (n : Int) : Ending → World → Prop := fun en w' =>
 ∃ A c, en = .returned (.tuple #[iv v, .slice A b.length c, iv n]) ∧ b.length ≤ c ∧ Fresh w.heap.size w' (fun v => Bts v A b) ∧ Below w.heap.size w w'
def srJ (w0 : World) (b : List UInt8) : Nat → (Nat → Value) → World → Prop
 | 0, _, w => w = w0.drew
 | 1, cv, w => ∃ A c, cv 12 = .slice A b.length c ∧ Own w w0.heap.size 5 1 A b.length c (b.map bv) ∧ Below w0.heap.size w0 w
 | _, cv, w => ∃ A c, cv 14 = .slice A b.length c ∧ Own w w0.heap.size 5 1 A b.length c (b.map bv) ∧ Below w0.heap.size w0 w
theorem srJ_bel {b : List UInt8} (hJ : srJ w0 b k cv w) : Below w0.heap.size w0 w := by
 match k, hJ with
 | 0, hJ => obtain rfl : w = w0.drew := hJ; exact (Below.refl _ _).drew
 | 1, ⟨_, _, _, _, h⟩ => exact h
 | n + 2, ⟨_, _, _, _, h⟩ => exact h
theorem stoRuns_calls (x : Wor) (L : WLoc) (w : World) (h : WorIn w x L) : Calls Tryz.prog 4 #[.agg (worA x L)] w (SrRet w (stoRuns x).1 (stoRuns x).2.1 (stoRuns x).2.2) := by
 have HBA : Hid (Below w.heap.size w (w.alloc (.cells (worA x L) 40))) := hD ((Below.refl _ _).alloc (Nat.le_refl _) _)
 have HIN := hD h
 have K1 := hD (fun w h => worCheck_calls x L w h)
 by_cases hc : worCheck x ≠ 0
 ·rw [stoRuns_bad hc]
  have q : (worCheck x != 0) = true := by simp [hc]
  generalize worCheck x = n at *
  clear hc h
  go_enter Tryz.func4, Tryz.ntmps4
  go_wp2_with fail
  refine (K1.out _ (HIN.out.stays HBA.out)).mono ?_
  rintro e w1 ⟨rfl, hb⟩
  obtain ⟨a0r, a0f, a0n, a0c, a0z, a0l⟩ := kp (w.heap.size) (worA x L) hb
  have hs1 : w.heap.size + 1 ≤ w1.heap.size := by have := hb.size; simpa using this
  have HB1 : Hid (Below w.heap.size w w1) := hD (HBA.out.trans (hb.mono (by simp)))
  clear hb
  go_wp2_with fail
  go_ret3
  exact ⟨none, 0, rfl, Nat.le_refl _, fun _ _ => bts_nil _ _, HB1.out⟩
 have hc := Decidable.not_not.1 hc
 have hok := (worCheck_ok.1 hc).dev
 rw [hc] at K1
 cases hu : x.d.up
 ·rw [stoRuns_off hc hu]
  clear hc h hok
  go_enter Tryz.func4, Tryz.ntmps4
  go_wp2_with fail
  refine (K1.out _ (HIN.out.stays HBA.out)).mono ?_
  rintro e w1 ⟨rfl, hb⟩
  obtain ⟨a0r, a0f, a0n, a0c, a0z, a0l⟩ := kp (w.heap.size) (worA x L) hb
  have hs1 : w.heap.size + 1 ≤ w1.heap.size := by have := hb.size; simpa using this
  have HB1 : Hid (Below w.heap.size w w1) := hD (HBA.out.trans (hb.mono (by simp)))
  clear hb
  go_wp2_with fail
  go_ret3
  exact ⟨none, 0, rfl, Nat.le_refl _, fun _ _ => bts_nil _ _, HB1.out⟩
 rw [stoRuns_up hc hu]
 have hrec := rec_ok hok
 have K2 := hD (fun w => read_ok x.d.c0 x.d.c1 w hok.cops)
 obtain ⟨rk, hrk⟩ : ∃ rk, (recRead x.d.c0 x.d.c1).2 = rk := ⟨_, rfl⟩
 have hre : (recRead x.d.c0 x.d.c1).1 = x.d.rec_ := rfl
 rw [hrk, hre] at K2
 have hrun := (hok.run hu).1
 clear hc h hrk hre
 rcases hrun with hk | hk
 first | case' inl => have T2 : Hid True := hD trivial | case' pos => have T2 : Hid True := hD trivial | case' refine_1 => have T2 : Hid True := hD trivial
 iterate 2
  ·first
    |
     revert T2; intro T2
     have hver : (x.d.rec_.at_ x.d.running).ver = x.d.rec_.a.ver := by rw [hk, at_0]
    | have hver : (x.d.rec_.at_ x.d.running).ver = x.d.rec_.b.ver := by rw [hk, at_1]
   first
    |
     revert T2; intro T2
     have himg : x.d.image x.d.running x.d.rec_ = x.d.s0.take x.d.rec_.a.size.toNat := by rw [hk]; unfold Dev.image; rw [at_0]; simp [Dev.slot]
    | have himg : x.d.image x.d.running x.d.rec_ = x.d.s1.take x.d.rec_.b.size.toNat := by rw [hk]; unfold Dev.image; rw [at_1]; simp [Dev.slot]
   first
    |
     revert T2; intro T2
     have hsz := (recCheck_parts hrec).2.1
    | have hsz := (recCheck_parts hrec).2.2.1
   first
    |
     revert T2; intro T2
     have hsz2 : 0 ≤ x.d.rec_.a.size ∧ x.d.rec_.a.size ≤ 64 := by
      unfold infCheck at hsz
      by_cases hh : InfRange x.d.rec_.a
      ·unfold InfRange at hh; omega
      ·rw [if_neg hh] at hsz; exact absurd hsz (by decide)
    |
     have hsz2 : 0 ≤ x.d.rec_.b.size ∧ x.d.rec_.b.size ≤ 64 := by
      unfold infCheck at hsz
      by_cases hh : InfRange x.d.rec_.b
      ·unfold InfRange at hh; omega
      ·rw [if_neg hh] at hsz; exact absurd hsz (by decide)
   first
    |
     revert T2; intro T2
     obtain ⟨y, hy⟩ : ∃ y : Nat, x.d.rec_.a.size = (y : Int) := ⟨x.d.rec_.a.size.toNat, by omega⟩
    | obtain ⟨y, hy⟩ : ∃ y : Nat, x.d.rec_.b.size = (y : Int) := ⟨x.d.rec_.b.size.toNat, by omega⟩
   first
    |
     revert T2; intro T2
     rw [show x.d.rec_.a.size.toNat = y by omega] at himg
    | rw [show x.d.rec_.b.size.toNat = y by omega] at himg
   first
    |
     revert T2; intro T2
     obtain ⟨b, hb⟩ : ∃ b, x.d.s0.take y = b := ⟨_, rfl⟩
    | obtain ⟨b, hb⟩ : ∃ b, x.d.s1.take y = b := ⟨_, rfl⟩
   rw [hver, himg, hb]
   first
    |
     revert T2; intro T2
     have hbl : b.length = y := by rw [← hb, List.length_take, hok.l0]; omega
    | have hbl : b.length = y := by rw [← hb, List.length_take, hok.l1]; omega
   have HBL := hD hbl
   first
    |
     revert T2; intro T2
     have HBT : Hid (Bts w L.l.a0 b) := hD (by rw [← hb]; exact mid_take HIN.out.dev.b0 y)
    | have HBT : Hid (Bts w L.l.a1 b) := hD (by rw [← hb]; exact mid_take HIN.out.dev.b1 y)
   first
    |
     revert T2; intro T2
     obtain ⟨ba, oa, hAa, -⟩ := HIN.out.dev.b0 0 (by rw [hok.l0]; decide)
    | obtain ⟨ba, oa, hAa, -⟩ := HIN.out.dev.b1 0 (by rw [hok.l1]; decide)
   first
    |
     revert T2; intro T2
     have HSL : Hid (∀ W, (Instr.slice 23 (.slice L.l.a0 x.d.s0.length L.l.c0) none (some (iv x.d.rec_.a.size)) none).run Tryz.prog W = .ok (.slice L.l.a0 b.length L.l.c0) W) := hD (by rw [hbl]; exact pre_slice y hy HIN.out.dev.k0 (by rw [hok.l0]; omega) (by rw [hok.l0]; decide) ⟨ba, oa, hAa⟩)
    | have HSL : Hid (∀ W, (Instr.slice 23 (.slice L.l.a1 x.d.s1.length L.l.c1) none (some (iv x.d.rec_.b.size)) none).run Tryz.prog W = .ok (.slice L.l.a1 b.length L.l.c1) W) := hD (by rw [hbl]; exact pre_slice y hy HIN.out.dev.k1 (by rw [hok.l1]; omega) (by rw [hok.l1]; decide) ⟨ba, oa, hAa⟩)
   have HB64 : Hid (b.length ≤ 64) := hD (by omega)
   have HK := hD hk
   clear hver himg hsz hsz2 hy hb hbl hAa hrec hok
   go_enter Tryz.func4, Tryz.ntmps4
   go_wp2_with fail
   refine (K1.out _ (HIN.out.stays HBA.out)).mono ?_
   rintro e w1 ⟨rfl, hb⟩
   obtain ⟨a0r, a0f, a0n, a0c, a0z, a0l⟩ := kp (w.heap.size) (worA x L) hb
   have hs1 : w.heap.size + 1 ≤ w1.heap.size := by have := hb.size; simpa using this
   have HB1 : Hid (Below w.heap.size w w1) := hD (HBA.out.trans (hb.mono (by simp)))
   clear hb
   go_wp2_with fail
   refine (K2.out _).mono ?_
   rintro e w2 ⟨rfl, hb⟩
   obtain ⟨a0r, a0f, a0n, a0c, a0z, a0l⟩ := kp (w.heap.size) (worA x L) hb
   have hs2 : w1.heap.size ≤ w2.heap.size := hb.size
   have HB2 : Hid (Below w.heap.size w w2) := hD (HB1.out.trans (hb.mono HB1.out.size))
   clear hb
   go_wp2_with fail
   first
    |
     revert T2; intro T2
     obtain ⟨w3, hw3⟩ : ∃ w3, (w2.alloc (.cells (recA x.d.rec_) 29)).alloc (.cells (infA x.d.rec_.a) 26) = w3 := ⟨_, rfl⟩
    | obtain ⟨w3, hw3⟩ : ∃ w3, (w2.alloc (.cells (recA x.d.rec_) 29)).alloc (.cells (infA x.d.rec_.b) 26) = w3 := ⟨_, rfl⟩
   have z1 : rowOf w3 w.heap.size = worA x L := by rw [← hw3, rowOf_alloc, if_neg (by simp; omega), rowOf_alloc, if_neg (by omega)]; exact a0r
   have z2 : frOf w3 w.heap.size = (0, 0) := by rw [← hw3, frOf_alloc, if_neg (by simp; omega), frOf_alloc, if_neg (by omega)]; exact a0f
   first
    |
     revert T2; intro T2
     have z3 : rowOf w3 (w2.heap.size + 1) = infA x.d.rec_.a := by rw [← hw3, rowOf_alloc, if_pos (by simp)]
    | have z3 : rowOf w3 (w2.heap.size + 1) = infA x.d.rec_.b := by rw [← hw3, rowOf_alloc, if_pos (by simp)]
   have z4 : frOf w3 (w2.heap.size + 1) = (0, 0) := by rw [← hw3, frOf_alloc, if_pos (by simp)]
   have HB3 : Hid (Below w.heap.size w w3) := hD (by rw [← hw3]; exact (HB2.out.alloc HB2.out.size _).alloc (by simp; omega) _)
   try rw [hw3]
   have RW := hD z1
   have FW := hD z2
   have RX := hD z3
   have FX := hD z4
   clear hw3 z1 z2 z3 z4 a0r a0f a0n a0c a0z a0l hk
   first
    |
     revert T2; intro T2
     refine wp_region_mix (by kernel_rfl) (some 33 :: some 34 :: some 35 :: some 36 :: some 37 :: some 38 :: some 39 :: some 40 :: some 41 :: some 42 :: some 43 :: some 44 :: some 45 :: some 2 :: some 3 :: some 4 :: []) (none :: none :: none :: none :: none :: none :: none :: none :: none :: none :: none :: none :: some 0 :: none :: some 1 :: none :: []) (.pointer (some ⟨w2.heap.size + 1, 0, none⟩) :: iv x.d.rec_.a.ver :: .pointer (some ⟨w.heap.size, 1, none⟩) :: .pointer (some ⟨w.heap.size, 28, none⟩) :: iv 0 :: .pointer (some ⟨w.heap.size, 1, none⟩) :: .pointer (some ⟨w.heap.size, 1, none⟩) :: .pointer (some ⟨w.heap.size, 1, none⟩) :: .slice L.l.a0 x.d.s0.length L.l.c0 :: .pointer (some ⟨w2.heap.size + 1, 1, none⟩) :: iv x.d.rec_.a.size :: .slice L.l.a0 b.length L.l.c0 :: undef :: iv x.d.rec_.a.ver :: undef :: .int .i64 0 :: []) 2 (srJ w3 b) 46 rfl rfl (by decide +kernel) (by decide +kernel) (by decide +kernel) (by decide +kernel) rfl rfl (by decide +kernel) (by decide +kernel) (rfl) ?_ ?_
    | refine wp_region_mix (by kernel_rfl) (some 33 :: some 34 :: some 35 :: some 36 :: some 37 :: some 38 :: some 39 :: some 40 :: some 41 :: some 42 :: some 43 :: some 44 :: some 45 :: some 2 :: some 3 :: some 4 :: []) (none :: none :: none :: none :: none :: none :: none :: none :: none :: none :: none :: none :: some 0 :: none :: some 1 :: none :: []) (.pointer (some ⟨w2.heap.size + 1, 0, none⟩) :: iv x.d.rec_.b.ver :: .pointer (some ⟨w.heap.size, 1, none⟩) :: .pointer (some ⟨w.heap.size, 28, none⟩) :: iv 1 :: .pointer (some ⟨w.heap.size, 1, none⟩) :: .pointer (some ⟨w.heap.size, 1, none⟩) :: .pointer (some ⟨w.heap.size, 2, none⟩) :: .slice L.l.a1 x.d.s1.length L.l.c1 :: .pointer (some ⟨w2.heap.size + 1, 1, none⟩) :: iv x.d.rec_.b.size :: .slice L.l.a1 b.length L.l.c1 :: undef :: iv x.d.rec_.b.ver :: undef :: .int .i64 0 :: []) 2 (srJ w3 b) 46 rfl rfl (by decide +kernel) (by decide +kernel) (by decide +kernel) (by decide +kernel) rfl rfl (by decide +kernel) (by decide +kernel) (rfl) ?_ ?_
   ·refine ⟨?_, ?_⟩
    ·intro done cv k0 a wq hw h hJ hn
     have e9 := mO 9 (.pointer (some ⟨w2.heap.size + 1, 0, none⟩)) h
     go_simp
    refine ⟨?_, ?_⟩
    ·intro done cv k0 a wq hw h hJ hn
     have e33 := mN 0 33 h hw
     obtain ⟨r_, f_, n_, c_, z_, l_⟩ := keep1 (srJ_bel hJ) RX.out (by go_simp) FX.out
     go_simp
    refine ⟨?_, ?_⟩
    ·intro done cv k0 a wq hw h hJ hn
     have e1 := mO 1 (.pointer (some ⟨w.heap.size, 0, none⟩)) h
     go_simp
    refine ⟨?_, ?_⟩
    ·intro done cv k0 a wq hw h hJ hn
     have e35 := mN 2 35 h hw
     go_simp
    refine ⟨?_, ?_⟩
    ·intro done cv k0 a wq hw h hJ hn
     have e36 := mN 3 36 h hw
     obtain ⟨r_, f_, n_, c_, z_, l_⟩ := keep1 (srJ_bel hJ) RW.out (by go_simp) FW.out
     have hk_ := HK.out
     go_simp
    refine ⟨?_, ?_⟩
    ·intro done cv k0 a wq hw h hJ hn
     have e1 := mO 1 (.pointer (some ⟨w.heap.size, 0, none⟩)) h
     go_simp
    refine ⟨?_, ?_⟩
    ·intro done cv k0 a wq hw h hJ hn
     have e38 := mN 5 38 h hw
     go_simp
    refine ⟨?_, ?_⟩
    ·intro done cv k0 a wq hw h hJ hn
     have e39 := mN 6 39 h hw; have e37 := mN 4 37 h hw
     go_simp
    refine ⟨?_, ?_⟩
    ·intro done cv k0 a wq hw h hJ hn
     have e40 := mN 7 40 h hw
     obtain ⟨r_, f_, n_, c_, z_, l_⟩ := keep1 (srJ_bel hJ) RW.out (by go_simp) FW.out
     go_simp
    refine ⟨?_, ?_⟩
    ·intro done cv k0 a wq hw h hJ hn
     have e9 := mO 9 (.pointer (some ⟨w2.heap.size + 1, 0, none⟩)) h
     go_simp
    refine ⟨?_, ?_⟩
    ·intro done cv k0 a wq hw h hJ hn
     have e42 := mN 9 42 h hw
     obtain ⟨r_, f_, n_, c_, z_, l_⟩ := keep1 (srJ_bel hJ) RX.out (by go_simp) FX.out
     go_simp
    refine ⟨?_, ?_⟩
    ·intro done cv k0 a wq hw h hJ hn
     have e41 := mN 8 41 h hw; have e43 := mN 10 43 h hw
     have hs_ := HSL.out
     go_simp
    refine ⟨?_, ?_⟩
    ·intro done cv a wq hw h hJ
     have e44 := mN 11 44 h hw
     obtain rfl : wq = w3.drew := hJ
     first
      |
       revert T2; intro T2
       refine wp_call (vals := #[.slice L.l.a0 b.length L.l.c0]) (by rw [List.map_toArray, List.map_cons, List.map_nil, ch_ev e44]) (enters_of Tryz.func13 (by kernel_rfl) rfl _ _) (cloneBytes_calls _ b.length _ (b.map bv) _ (by simp) (by have := HB64.out; omega) ((HBT.out.stays HB3.out).stays ((Below.refl _ _).drew)).src (bv_one _)) ?_
      | refine wp_call (vals := #[.slice L.l.a1 b.length L.l.c1]) (by rw [List.map_toArray, List.map_cons, List.map_nil, ch_ev e44]) (enters_of Tryz.func13 (by kernel_rfl) rfl _ _) (cloneBytes_calls _ b.length _ (b.map bv) _ (by simp) (by have := HB64.out; omega) ((HBT.out.stays HB3.out).stays ((Below.refl _ _).drew)).src (bv_one _)) ?_
     rintro e w' ⟨A5, c5, rfl, hown, hbel⟩
     exact ⟨_, rfl, _, rfl, A5, c5, by simp, hown, (Below.refl _ _).drew.trans hbel⟩
    refine ⟨?_, ?_⟩
    ·intro done cv k0 a wq hw h hJ hn
     have e34 := mN 1 34 h hw
     exact mx_assign (ch_ev e34)
    refine ⟨?_, ?_⟩
    ·intro done cv a wq hw h hJ
     have e45 := mx_cv (i := 12) (t := 45) h (hw 12 (by decide)) rfl rfl
     obtain ⟨A5, c5, y1, hown, hbel⟩ := hJ
     rw [y1] at e45
     exact wp_asg (ch_ev e45) ⟨_, rfl, A5, c5, by simp, hown, hbel⟩
    refine ⟨?_, ?_⟩
    ·intro done cv k0 a wq hw h hJ hn
     exact mx_assign rfl
    exact trivial
   intro cv4 w4 hJ
   obtain ⟨A5, c5, y14, hown, hbel⟩ := hJ
   simp only [mixAll, putAll_some, putAll_none, putAll_nil, List.getElem?_cons_zero, List.getElem?_cons_succ, Nat.zero_add, Nat.reduceAdd, List.setIfInBounds_toArray, List.set_cons_zero, List.set_cons_succ]
   rw [y14]
   have HB4 : Hid (Below w.heap.size w w4) := hD (HB3.out.trans (hbel.mono HB3.out.size))
   have HO := hD hown
   clear hown hbel y14
   go_wp2_with fail
   go_ret3
   exact ⟨A5, c5, rfl, HO.out.le, fun v hv => (own_fresh (HO.out.mono HB3.out.size) hv).src.bts, HB4.out⟩
section
open Go.RowKit
end
theorem DevIn.booted {L : DLoc} (h : DevIn w d L) (p q : Cop) (k : Int) (hk : k = 0 ∨ k = 1) : DevIn w { d with c0 := p, c1 := q, up := true, running := k } L := ⟨h.k0, h.l0, h.b0, h.k1, h.l1, h.b1, h.kg, h.lg, h.got, h.job, ⟨by show -9223372036854775808 ≤ k; omega, by show k ≤ 9223372036854775807; omega⟩, h.id⟩
theorem start_slot {r : Rec} (h : recCheck r = 0) : (recStart r).1 = 0 ∨ (recStart r).1 = 1 := by
 have := rec_active h
 unfold recStart
 repeat' split
 all_goals (try dsimp only)
 all_goals first | omega | (unfold nowAt; omega)
theorem devBoot_bad (d : Dev) (L : DLoc) (w : World) (h : DevIn w d L) (hne : devCheck d ≠ 0) : Calls Tryz.prog 15 #[.agg (devA d L)] w (DvRet w Dev.zero (devCheck d)) := by
 have hba : Below w.heap.size w ((w.alloc (.cells (devA d L) 38)).alloc (.cells (devA Dev.zero DLoc.zero) 38)) := bA (bA (Below.refl _ _) _) _
 have HBA := hD hba
 have HIN := hD h
 have K1 := hD (fun w h => devCheck_calls d L w h)
 have q : (devCheck d != 0) = true := by simp [hne]
 generalize devCheck d = n at *
 clear hne h hba
 go_enter Tryz.func15, Tryz.ntmps15
 go_wp2_with fail
 refine (K1.out _ (HIN.out.stays HBA.out)).mono ?_
 rintro e w1 ⟨rfl, hb1⟩
 obtain ⟨a0r, a0f, a0n, a0c, a0z, a0l⟩ := kp (w.heap.size) (devA d L) hb1
 obtain ⟨a1r, a1f, a1n, a1c, a1z, a1l⟩ := kp (w.heap.size + 1) (devA Dev.zero DLoc.zero) hb1
 have HB1 := hD (HBA.out.trans (hb1.mono (by simp <;> omega)))
 have hsz1 : w.heap.size + 2 ≤ w1.heap.size := by have := hb1.size; simp at this; omega
 clear hb1
 go_wp2_with fail
 refine bodyPost_ret (results_ct rfl rfl (cs := devA Dev.zero DLoc.zero) (by go_simp) (by go_simp) (by go_simp)) rfl ⟨DLoc.zero, rfl, .const fun v => DevIn.zero v, ?_⟩
 have hs := HB1.out.size
 repeat (first | exact HB1.out | refine bR ?_ _ | refine bC ?_ _ | refine bA ?_ _)
theorem devBoot_late (d : Dev) (L : DLoc) (w : World) (h : DevIn w d L) (hz : devCheck d = 0) (hu : d.up = true) : Calls Tryz.prog 15 #[.agg (devA d L)] w (DvRet w Dev.zero 5) := by
 have hba : Below w.heap.size w ((w.alloc (.cells (devA d L) 38)).alloc (.cells (devA Dev.zero DLoc.zero) 38)) := bA (bA (Below.refl _ _) _) _
 have HBA := hD hba
 have HIN := hD h
 have K1 := hD (fun w h => devCheck_calls d L w h)
 rw [hz] at K1
 clear hz h hba
 go_enter Tryz.func15, Tryz.ntmps15
 go_wp2_with fail
 refine (K1.out _ (HIN.out.stays HBA.out)).mono ?_
 rintro e w1 ⟨rfl, hb1⟩
 obtain ⟨a0r, a0f, a0n, a0c, a0z, a0l⟩ := kp (w.heap.size) (devA d L) hb1
 obtain ⟨a1r, a1f, a1n, a1c, a1z, a1l⟩ := kp (w.heap.size + 1) (devA Dev.zero DLoc.zero) hb1
 have HB1 := hD (HBA.out.trans (hb1.mono (by simp <;> omega)))
 have hsz1 : w.heap.size + 2 ≤ w1.heap.size := by have := hb1.size; simp at this; omega
 clear hb1
 go_wp2_with fail
 refine bodyPost_ret (results_ct rfl rfl (cs := devA Dev.zero DLoc.zero) (by go_simp) (by go_simp) (by go_simp)) rfl ⟨DLoc.zero, rfl, .const fun v => DevIn.zero v, ?_⟩
 have hs := HB1.out.size
 repeat (first | exact HB1.out | refine bR ?_ _ | refine bC ?_ _ | refine bA ?_ _)
theorem devBoot_ok (d : Dev) (L : DLoc) (w : World) (h : DevIn w d L) (hz : devCheck d = 0) (hu : d.up = false) : Calls Tryz.prog 15 #[.agg (devA d L)] w (DvRet w (devBoot d).1 (devBoot d).2) := by
 have hba : Below w.heap.size w ((w.alloc (.cells (devA d L) 38)).alloc (.cells (devA Dev.zero DLoc.zero) 38)) := bA (bA (Below.refl _ _) _) _
 have HBA := hD hba
 have HIN := hD h
 have K1 := hD (fun w h => devCheck_calls d L w h)
 have hdef : devBoot d = if (recStart d.rec_).2.2 ≠ 0 then (Dev.zero, (recStart d.rec_).2.2)
   else if (recStart d.rec_).2.1 ≠ d.rec_ then
    (if (recWrite d.c0 d.c1 (recStart d.rec_).2.1 false).2 ≠ 0 then (Dev.zero, (recWrite d.c0 d.c1 (recStart d.rec_).2.1 false).2)
    else ({ d with c0 := (recWrite d.c0 d.c1 (recStart d.rec_).2.1 false).1.1, c1 := (recWrite d.c0 d.c1 (recStart d.rec_).2.1 false).1.2, up := true, running := (recStart d.rec_).1 }, 0))
   else ({ d with c0 := d.c0, c1 := d.c1, up := true, running := (recStart d.rec_).1 }, 0) := by unfold devBoot; rw [if_neg (by omega), if_neg (by rw [hu]; decide)]; rfl
 have hok := devCheck_ok.1 hz
 have hrec := rec_ok hok
 have HSL := hD (start_slot hrec)
 have KC := hD (fun w h => devCopy_calls d L w h)
 have K2 := hD (fun w => read_ok d.c0 d.c1 w hok.cops)
 obtain ⟨rk, hrk⟩ : ∃ rk, (recRead d.c0 d.c1).2 = rk := ⟨_, rfl⟩
 have hre : (recRead d.c0 d.c1).1 = d.rec_ := rfl
 rw [hrk, hre] at K2
 have K3 := hD (fun w => start_calls d.rec_ w)
 obtain ⟨⟨k, nx, e3⟩, hq⟩ : ∃ x, recStart d.rec_ = x := ⟨_, rfl⟩
 rw [hq] at hdef K3 HSL
 dsimp only at hdef K3 HSL
 have K4 := hD (fun w => write_calls d.c0 d.c1 nx false w)
 obtain ⟨⟨⟨p1, p2⟩, e4⟩, hw⟩ : ∃ x, recWrite d.c0 d.c1 nx false = x := ⟨_, rfl⟩
 rw [hw] at hdef K4
 dsimp only at hdef
 have HD := hD hdef
 rw [hz] at K1
 generalize devBoot d = res at *
 clear hdef hok hrec hrk hre hq hw hz h hba
 go_enter Tryz.func15, Tryz.ntmps15
 go_wp2_with fail
 refine (K1.out _ (HIN.out.stays HBA.out)).mono ?_
 rintro e w1 ⟨rfl, hb1⟩
 obtain ⟨a0r, a0f, a0n, a0c, a0z, a0l⟩ := kp (w.heap.size) (devA d L) hb1
 obtain ⟨a1r, a1f, a1n, a1c, a1z, a1l⟩ := kp (w.heap.size + 1) (devA Dev.zero DLoc.zero) hb1
 have HB1 := hD (HBA.out.trans (hb1.mono (by simp <;> omega)))
 have hsz1 : w.heap.size + 2 ≤ w1.heap.size := by have := hb1.size; simp at this; omega
 clear hb1
 go_wp2_with fail
 refine (KC.out _ (HIN.out.stays HB1.out)).mono ?_
 rintro e w2 ⟨L1, rfl, hfr, hb⟩
 obtain ⟨a0r, a0f, a0n, a0c, a0z, a0l⟩ := kp (w.heap.size) (devA d L) hb
 obtain ⟨a1r, a1f, a1n, a1c, a1z, a1l⟩ := kp (w.heap.size + 1) (devA Dev.zero DLoc.zero) hb
 have HFR := hD hfr
 have hsz2 : w1.heap.size ≤ w2.heap.size := hb.size
 have HB2 : Hid (Below w.heap.size w w2) := hD (HB1.out.trans (hb.mono HB1.out.size))
 have HK2 : Hid (Kp w1.heap.size w2 w2) := hD (Kp.refl _ _)
 clear hb hfr
 go_wp2_with fail
 refine (K2.out _).mono ?_
 rintro e w3 ⟨rfl, hb⟩
 obtain ⟨a0r, a0f, a0n, a0c, a0z, a0l⟩ := kp (w.heap.size) (devA d L1) hb
 obtain ⟨a1r, a1f, a1n, a1c, a1z, a1l⟩ := kp (w.heap.size + 1) (devA Dev.zero DLoc.zero) hb
 have hbs3 := hb.size
 have hsz3 : w2.heap.size ≤ w3.heap.size := by first | omega | (simp [World.setRow] at hbs3; omega)
 have HK3 : Hid (Kp w1.heap.size w2 w3) := hD (by
  refine Kp.below ?_ (by first | omega | (simp [World.setRow] <;> omega)) hb
  repeat (first | exact HK2.out | exact Kp.refl _ _ | refine Kp.row ?_ (by omega) _ | refine Kp.cell ?_ (by first | (show _ < _ ∨ _ ≤ _; omega) | (simp <;> omega)) _ | refine Kp.alloc ?_ (by first | omega | (simp <;> omega)) _))
 have HB3 : Hid (Below w.heap.size w w3) := hD (by
  refine Below.trans ?_ (hb.mono (by first | omega | (simp [World.setRow] <;> omega)))
  have hs := HB2.out.size
  repeat (first | exact HB2.out | refine bR ?_ _ | refine bC ?_ _ | refine bA ?_ _))
 clear hb hbs3
 go_wp2_with fail
 refine (K3.out _).mono ?_
 rintro e w4 ⟨rfl, hb⟩
 obtain ⟨a0r, a0f, a0n, a0c, a0z, a0l⟩ := kp (w.heap.size) (devA d L1) hb
 obtain ⟨a1r, a1f, a1n, a1c, a1z, a1l⟩ := kp (w.heap.size + 1) (devA Dev.zero DLoc.zero) hb
 obtain ⟨a2r, a2f, a2n, a2c, a2z, a2l⟩ := kp (w3.heap.size) (recA d.rec_) hb
 have hbs4 := hb.size
 have hsz4 : w2.heap.size ≤ w4.heap.size := by first | omega | (simp [World.setRow] at hbs4; omega)
 have HK4 : Hid (Kp w1.heap.size w2 w4) := hD (by
  refine Kp.below ?_ (by first | omega | (simp [World.setRow] <;> omega)) hb
  repeat (first | exact HK3.out | exact Kp.refl _ _ | refine Kp.row ?_ (by omega) _ | refine Kp.cell ?_ (by first | (show _ < _ ∨ _ ≤ _; omega) | (simp <;> omega)) _ | refine Kp.alloc ?_ (by first | omega | (simp <;> omega)) _))
 have HB4 : Hid (Below w.heap.size w w4) := hD (by
  refine Below.trans ?_ (hb.mono (by first | omega | (simp [World.setRow] <;> omega)))
  have hs := HB3.out.size
  repeat (first | exact HB3.out | refine bR ?_ _ | refine bC ?_ _ | refine bA ?_ _))
 clear hb hbs4
 have hsz34 : w3.heap.size < w4.heap.size := a2l
 by_cases c3 : e3 ≠ 0
 ·have hz : res = (Dev.zero, e3) := HD.out.trans (if_pos c3)
  subst hz
  have q : (e3 != 0) = true := by simp [c3]
  clear c3
  go_wp2_with fail
  refine bodyPost_ret (results_ct rfl rfl (cs := devA Dev.zero DLoc.zero) (by go_simp) (by go_simp) (by go_simp)) rfl ⟨DLoc.zero, rfl, .const fun v => DevIn.zero v, ?_⟩
  have hs := HB4.out.size
  repeat (first | exact HB4.out | refine bR ?_ _ | refine bC ?_ _ | refine bA ?_ _)
 have c3 := Decidable.not_not.1 c3
 subst c3
 have HD2 := hD (HD.out.trans (if_neg (by decide)))
 clear HD
 by_cases c4 : nx ≠ d.rec_
 ·have HD3 := hD (HD2.out.trans (if_pos c4))
  have q4 : decide (nx = d.rec_) = false := decide_eq_false c4
  clear HD2 c4
  go_wp2_with fail
  refine (K4.out _).mono ?_
  rintro e w5 ⟨rfl, hb⟩
  obtain ⟨a0r, a0f, a0n, a0c, a0z, a0l⟩ := kp (w.heap.size) (devA d L1) hb
  obtain ⟨a1r, a1f, a1n, a1c, a1z, a1l⟩ := kp (w.heap.size + 1) (devA Dev.zero DLoc.zero) hb
  have hbs5 := hb.size
  have hsz5 : w2.heap.size ≤ w5.heap.size := by first | omega | (simp [World.setRow] at hbs5; omega)
  have HK5 : Hid (Kp w1.heap.size w2 w5) := hD (by
   refine Kp.below ?_ (by first | omega | (simp [World.setRow] <;> omega)) hb
   repeat (first | exact HK4.out | exact Kp.refl _ _ | refine Kp.row ?_ (by omega) _ | refine Kp.cell ?_ (by first | (show _ < _ ∨ _ ≤ _; omega) | (simp <;> omega)) _ | refine Kp.alloc ?_ (by first | omega | (simp <;> omega)) _))
  have HB5 : Hid (Below w.heap.size w w5) := hD (by
   refine Below.trans ?_ (hb.mono (by first | omega | (simp [World.setRow] <;> omega)))
   have hs := HB4.out.size
   repeat (first | exact HB4.out | refine bR ?_ _ | refine bC ?_ _ | refine bA ?_ _))
  clear hb hbs5
  by_cases c5 : e4 ≠ 0
  ·have hz : res = (Dev.zero, e4) := HD3.out.trans (if_pos c5)
   subst hz
   have q : (e4 != 0) = true := by simp [c5]
   clear c5
   go_wp2_with fail
   refine bodyPost_ret (results_ct rfl rfl (cs := devA Dev.zero DLoc.zero) (by go_simp) (by go_simp) (by go_simp)) rfl ⟨DLoc.zero, rfl, .const fun v => DevIn.zero v, ?_⟩
   have hs := HB5.out.size
   repeat (first | exact HB5.out | refine bR ?_ _ | refine bC ?_ _ | refine bA ?_ _)
  have c5 := Decidable.not_not.1 c5
  subst c5
  have hz : res = ({ d with c0 := p1, c1 := p2, up := true, running := k }, 0) := HD3.out.trans (if_neg (by decide))
  subst hz
  clear hu
  go_wp2_with fail
  refine bodyPost_ret (results_ct rfl rfl (cs := devA { d with c0 := p1, c1 := p2, up := true, running := k } L1) (by go_simp) (by go_simp) (by go_simp)) rfl ⟨L1, rfl, ?_, ?_⟩
  ·refine Fresh.imp (P := fun v => DvOwn v w1.heap.size d L1) (Fresh.kp HFR.out ?_ (by omega) (by first | omega | (simp [World.setRow] <;> omega))) (fun v hv => hv.devIn.booted p1 p2 k HSL.out)
   repeat (first | exact HK5.out | exact Kp.refl _ _ | refine Kp.row ?_ (by omega) _ | refine Kp.cell ?_ (by first | (show _ < _ ∨ _ ≤ _; omega) | (simp <;> omega)) _ | refine Kp.alloc ?_ (by first | omega | (simp <;> omega)) _)
  ·have hs := HB5.out.size
   repeat (first | exact HB5.out | refine bR ?_ _ | refine bC ?_ _ | refine bA ?_ _)
 ·have hz : res = ({ d with c0 := d.c0, c1 := d.c1, up := true, running := k }, 0) := HD2.out.trans (if_neg c4)
  have q4 : decide (nx = d.rec_) = true := decide_eq_true (Decidable.not_not.1 c4)
  subst hz
  clear c4 hu
  go_wp2_with fail
  refine bodyPost_ret (results_ct rfl rfl (cs := devA { d with c0 := d.c0, c1 := d.c1, up := true, running := k } L1) (by go_simp) (by go_simp) (by go_simp)) rfl ⟨L1, rfl, ?_, ?_⟩
  ·refine Fresh.imp (P := fun v => DvOwn v w1.heap.size d L1) (Fresh.kp HFR.out ?_ (by omega) (by first | omega | (simp [World.setRow] <;> omega))) (fun v hv => hv.devIn.booted d.c0 d.c1 k HSL.out)
   repeat (first | exact HK4.out | exact Kp.refl _ _ | refine Kp.row ?_ (by omega) _ | refine Kp.cell ?_ (by first | (show _ < _ ∨ _ ≤ _; omega) | (simp <;> omega)) _ | refine Kp.alloc ?_ (by first | omega | (simp <;> omega)) _)
  ·have hs := HB4.out.size
   repeat (first | exact HB4.out | refine bR ?_ _ | refine bC ?_ _ | refine bA ?_ _)
theorem devBoot_calls (d : Dev) (L : DLoc) (w : World) (h : DevIn w d L) : Calls Tryz.prog 15 #[.agg (devA d L)] w (DvRet w (devBoot d).1 (devBoot d).2) := by
 by_cases hz : devCheck d = 0
 ·cases hu : d.up
  ·exact devBoot_ok d L w h hz hu
  ·have e : devBoot d = (Dev.zero, 5) := by unfold devBoot; rw [if_neg (by omega), if_pos hu]
   rw [e]; exact devBoot_late d L w h hz hu
 ·have e : devBoot d = (Dev.zero, devCheck d) := by unfold devBoot; rw [if_pos hz]
  rw [e]; exact devBoot_bad d L w h hz
theorem stoNext_bad (h : worCheck x ≠ 0) : stoNext x = (0, worCheck x) := by unfold stoNext; rw [if_pos h]
theorem stoNext_ok (h : worCheck x = 0) : stoNext x = if (devBoot x.d.off).2 ≠ 0 then (0, (devBoot x.d.off).2) else (((devBoot x.d.off).1.rec_.at_ (devBoot x.d.off).1.running).ver, 0) := by unfold stoNext; rw [if_neg (by omega)]
theorem booted_ok (h : (devBoot d).2 = 0) : DevOk (devBoot d).1 ∧ ((devBoot d).1.running = 0 ∨ (devBoot d).1.running = 1) := by
 obtain ⟨h1, h2⟩ := boot_parts h
 rw [h2]
 have h3 := boot_ok_dev h1
 exact ⟨h3, (h3.run (by unfold Dev.boots; split <;> rfl)).1⟩
theorem stoNext_calls (x : Wor) (L : WLoc) (w : World) (h : WorIn w x L) : Calls Tryz.prog 5 #[.agg (worA x L)] w (RetB w (.tuple #[iv (stoNext x).1, iv (stoNext x).2])) := by
 have HBA : Hid (Below w.heap.size w (w.alloc (.cells (worA x L) 40))) := hD ((Below.refl _ _).alloc (Nat.le_refl _) _)
 have HIN := hD h
 have K1 := hD (fun w h => worCheck_calls x L w h)
 by_cases hc : worCheck x ≠ 0
 ·rw [stoNext_bad hc]
  have q : (worCheck x != 0) = true := by simp [hc]
  generalize worCheck x = n at *
  clear hc h
  go_enter Tryz.func5, Tryz.ntmps5
  go_wp2_with fail
  refine (K1.out _ (HIN.out.stays HBA.out)).mono ?_
  rintro e w1 ⟨rfl, hb⟩
  obtain ⟨a0r, a0f, a0n, a0c, a0z, a0l⟩ := kp (w.heap.size) (worA x L) hb
  have hs1 : w.heap.size + 1 ≤ w1.heap.size := by have := hb.size; simpa using this
  have HB1 : Hid (Below w.heap.size w w1) := hD (HBA.out.trans (hb.mono (by simp)))
  clear hb
  go_wp2_with fail
  go_ret2
  refine ⟨rfl, ?_⟩
  have hs := HB1.out.size
  repeat (first | exact HB1.out | refine bR ?_ _ | refine bC ?_ _ | refine bA ?_ _)
 have hc := Decidable.not_not.1 hc
 have hdef := stoNext_ok hc
 have hok := (worCheck_ok.1 hc).dev
 obtain ⟨res, hres⟩ : ∃ res, stoNext x = res := ⟨_, rfl⟩
 rw [hres] at hdef ⊢
 have HD := hD hdef
 rw [hc] at K1
 have KB := hD (fun L w h => devBoot_calls x.d.off L w h)
 clear hc h hdef hres
 cases hu : x.d.up
 ·have hoff : x.d.off = x.d := by unfold Dev.off; rw [hu]; rfl
  rw [hoff] at HD KB
  clear hok hoff
  go_enter Tryz.func5, Tryz.ntmps5
  go_wp2_with fail
  refine (K1.out _ (HIN.out.stays HBA.out)).mono ?_
  rintro e w1 ⟨rfl, hb⟩
  obtain ⟨a0r, a0f, a0n, a0c, a0z, a0l⟩ := kp (w.heap.size) (worA x L) hb
  have hs1 : w.heap.size + 1 ≤ w1.heap.size := by have := hb.size; simpa using this
  have HB1 : Hid (Below w.heap.size w w1) := hD (HBA.out.trans (hb.mono (by simp)))
  clear hb
  obtain ⟨⟨d3, e3⟩, hd3⟩ : ∃ z, devBoot x.d = z := ⟨_, rfl⟩
  have hbk := @booted_ok x.d
  rw [hd3] at HD KB hbk
  go_wp2_with fail
  refine (KB.out _ _ ?_).mono ?_
  ·refine HIN.out.dev.stays ?_
   have hs := HB1.out.size
   repeat (first | exact HB1.out | refine bR ?_ _ | refine bC ?_ _ | refine bA ?_ _)
  rintro e w2 ⟨L3, rfl, hfr3, hb⟩
  obtain ⟨a0r, a0f, a0n, a0c, a0z, a0l⟩ := kp (w1.heap.size) (devA x.d L.l) hb
  have hs2 : w1.heap.size + 1 ≤ w2.heap.size := by have := hb.size; first | omega | (simp [World.setRow] at this; omega)
  have HB2 : Hid (Below w.heap.size w w2) := hD (by
   refine Below.trans ?_ (hb.mono (by first | omega | (simp [World.setRow] <;> omega)))
   repeat (first | exact HB1.out | refine bR ?_ _ | refine bA ?_ _))
  clear hb hd3 hfr3
  by_cases c3 : e3 ≠ 0
  ·have hz : res = (0, e3) := HD.out.trans (if_pos c3)
   subst hz
   have q : (e3 != 0) = true := by simp [c3]
   clear c3 hbk
   go_wp2_with fail
   go_ret2
   refine ⟨rfl, ?_⟩
   have hs := HB2.out.size
   repeat (first | exact HB2.out | refine bR ?_ _ | refine bC ?_ _ | refine bA ?_ _)
  have c3 := Decidable.not_not.1 c3
  subst c3
  have hz : res = ((d3.rec_.at_ d3.running).ver, 0) := HD.out.trans (if_neg (by simp))
  subst hz
  obtain ⟨hok3, hrun⟩ := hbk rfl
  try dsimp only at hok3 hrun
  have K2 := hD (fun w => read_ok d3.c0 d3.c1 w hok3.cops)
  obtain ⟨rk, hrk⟩ : ∃ rk, (recRead d3.c0 d3.c1).2 = rk := ⟨_, rfl⟩
  have hre : (recRead d3.c0 d3.c1).1 = d3.rec_ := rfl
  rw [hrk, hre] at K2
  clear hok3 hrk hre HD KB
  go_wp2_with fail
  refine (K2.out _).mono ?_
  rintro e w9 ⟨rfl, hb⟩
  obtain ⟨a0r, a0f, a0n, a0c, a0z, a0l⟩ := kp (w1.heap.size) (devA d3 L3) hb
  have HB9 : Hid (Below w.heap.size w w9) := hD (by
   refine Below.trans ?_ (hb.mono (by first | omega | (simp [World.setRow] <;> omega)))
   have hs := HB2.out.size
   repeat (first | exact HB2.out | refine bR ?_ _ | refine bA ?_ _))
  clear hb K2
  rcases hrun with hk | hk
  ·have hv : (d3.rec_.at_ d3.running).ver = d3.rec_.a.ver := by rw [hk, at_0]
   have HV := hD hv
   clear hv
   go_wp2_with fail
   go_ret2
   refine ⟨by first | rfl | (dsimp only; rw [HV.out]; rfl) | (rw [HV.out]; rfl), ?_⟩
   have hs := HB9.out.size
   repeat (first | exact HB9.out | refine bR ?_ _ | refine bC ?_ _ | refine bA ?_ _)
  ·have hv : (d3.rec_.at_ d3.running).ver = d3.rec_.b.ver := by rw [hk, at_1]
   have HV := hD hv
   clear hv
   go_wp2_with fail
   go_ret2
   refine ⟨by first | rfl | (dsimp only; rw [HV.out]; rfl) | (rw [HV.out]; rfl), ?_⟩
   have hs := HB9.out.size
   repeat (first | exact HB9.out | refine bR ?_ _ | refine bC ?_ _ | refine bA ?_ _)
 ·have hoff : x.d.off = x.d.down := by unfold Dev.off; rw [hu]; rfl
  rw [hoff] at HD KB
  have hcr : devCrash x.d = (x.d.down, 0) := by
   unfold devCrash
   rw [if_neg (by have := devReady_ok.2 ⟨hok, hu⟩; omega)]
  have KC := hD (fun w h => devCrash_calls x.d L.l w h)
  rw [hcr] at KC
  clear hok hoff hcr
  go_enter Tryz.func5, Tryz.ntmps5
  go_wp2_with fail
  refine (K1.out _ (HIN.out.stays HBA.out)).mono ?_
  rintro e w1 ⟨rfl, hb⟩
  obtain ⟨a0r, a0f, a0n, a0c, a0z, a0l⟩ := kp (w.heap.size) (worA x L) hb
  have hs1 : w.heap.size + 1 ≤ w1.heap.size := by have := hb.size; simpa using this
  have HB1 : Hid (Below w.heap.size w w1) := hD (HBA.out.trans (hb.mono (by simp)))
  clear hb
  go_wp2_with fail
  refine (KC.out _ ?_).mono ?_
  ·refine HIN.out.dev.stays ?_
   have hs := HB1.out.size
   repeat (first | exact HB1.out | refine bR ?_ _ | refine bC ?_ _ | refine bA ?_ _)
  rintro e w2 ⟨L2, rfl, hfr, hb⟩
  obtain ⟨a0r, a0f, a0n, a0c, a0z, a0l⟩ := kp (w1.heap.size) (devA x.d L.l) hb
  have hs2 : w1.heap.size + 1 ≤ w2.heap.size := by have := hb.size; simpa using this
  have HB2 : Hid (Below w.heap.size w w2) := hD (by
   refine Below.trans ?_ (hb.mono (by first | omega | (simp <;> omega)))
   repeat (first | exact HB1.out | refine bA ?_ _))
  have HFR : Hid (Fresh (w1.heap.size + 1) w2 (fun v => DevIn v x.d.down L2)) := hD (by simpa using hfr)
  clear hb hfr KC
  obtain ⟨⟨d3, e3⟩, hd3⟩ : ∃ z, devBoot x.d.down = z := ⟨_, rfl⟩
  have hbk := @booted_ok x.d.down
  rw [hd3] at HD KB hbk
  go_wp2_with fail
  refine (KB.out _ _ ?_).mono ?_
  ·have hf9 : Fresh (w1.heap.size + 1) (w2.setRow w1.heap.size (devA x.d.down L2)) (fun v => DevIn v x.d.down L2) := HFR.out.row (by omega) _
   first | exact hf9.now | exact (HFR.out.row (by omega) _).now
  rintro e w3 ⟨L3, rfl, hfr3, hb⟩
  obtain ⟨a0r, a0f, a0n, a0c, a0z, a0l⟩ := kp (w1.heap.size) (devA x.d.down L2) hb
  have hs3 : w1.heap.size + 1 ≤ w3.heap.size := by have := hb.size; first | omega | (simp [World.setRow] at this; omega)
  have HB3 : Hid (Below w.heap.size w w3) := hD (by
   refine Below.trans ?_ (hb.mono (by first | omega | (simp [World.setRow] <;> omega)))
   repeat (first | exact HB2.out | refine bR ?_ _ | refine bA ?_ _))
  clear hb hd3 hfr3
  by_cases c3 : e3 ≠ 0
  ·have hz : res = (0, e3) := HD.out.trans (if_pos c3)
   subst hz
   have q : (e3 != 0) = true := by simp [c3]
   clear c3 hbk
   go_wp2_with fail
   go_ret2
   refine ⟨rfl, ?_⟩
   have hs := HB3.out.size
   repeat (first | exact HB3.out | refine bR ?_ _ | refine bC ?_ _ | refine bA ?_ _)
  have c3 := Decidable.not_not.1 c3
  subst c3
  have hz : res = ((d3.rec_.at_ d3.running).ver, 0) := HD.out.trans (if_neg (by simp))
  subst hz
  obtain ⟨hok3, hrun⟩ := hbk rfl
  try dsimp only at hok3 hrun
  have K2 := hD (fun w => read_ok d3.c0 d3.c1 w hok3.cops)
  obtain ⟨rk, hrk⟩ : ∃ rk, (recRead d3.c0 d3.c1).2 = rk := ⟨_, rfl⟩
  have hre : (recRead d3.c0 d3.c1).1 = d3.rec_ := rfl
  rw [hrk, hre] at K2
  clear hok3 hrk hre HD KB
  go_wp2_with fail
  refine (K2.out _).mono ?_
  rintro e w9 ⟨rfl, hb⟩
  obtain ⟨a0r, a0f, a0n, a0c, a0z, a0l⟩ := kp (w1.heap.size) (devA d3 L3) hb
  have HB9 : Hid (Below w.heap.size w w9) := hD (by
   refine Below.trans ?_ (hb.mono (by first | omega | (simp [World.setRow] <;> omega)))
   have hs := HB3.out.size
   repeat (first | exact HB3.out | refine bR ?_ _ | refine bA ?_ _))
  clear hb K2
  rcases hrun with hk | hk
  ·have hv : (d3.rec_.at_ d3.running).ver = d3.rec_.a.ver := by rw [hk, at_0]
   have HV := hD hv
   clear hv
   go_wp2_with fail
   go_ret2
   refine ⟨by first | rfl | (dsimp only; rw [HV.out]; rfl) | (rw [HV.out]; rfl), ?_⟩
   have hs := HB9.out.size
   repeat (first | exact HB9.out | refine bR ?_ _ | refine bC ?_ _ | refine bA ?_ _)
  ·have hv : (d3.rec_.at_ d3.running).ver = d3.rec_.b.ver := by rw [hk, at_1]
   have HV := hD hv
   clear hv
   go_wp2_with fail
   go_ret2
   refine ⟨by first | rfl | (dsimp only; rw [HV.out]; rfl) | (rw [HV.out]; rfl), ?_⟩
   have hs := HB9.out.size
   repeat (first | exact HB9.out | refine bR ?_ _ | refine bC ?_ _ | refine bA ?_ _)
theorem hps_one {t : TypeId} {f : Nat × Nat} {k n : Int} (h : w.heap[g]? = some (.cells #[iv k, iv n] t f)) (h1 : I64 k) (h2 : I64 n) : Hps w (some ⟨g, 0, none⟩) [(k, n)] := by
 intro i hi
 obtain rfl : i = 0 := by simpa using hi
 refine ⟨g, 0, rfl, blk_lt h, [iv k, iv n], rfl, fun j hj => ?_, rfl, h1, h2⟩
 rw [cell_of_row w g _ _ _ _ h]
 match j, hj with
 | 0, _ => rfl
 | 1, _ => rfl
theorem runs_calls (W : World) : Calls Tryz.prog 7 #[] W (RetB W (.bool true)) := by
 obtain ⟨x0, hx0⟩ : ∃ x0, (worNew ims).1 = x0 := ⟨_, rfl⟩
 obtain ⟨x1, hx1⟩ : ∃ x1, (worRun x0 [(9, 0)]).1 = x1 := ⟨_, rfl⟩
 obtain ⟨v1, hv1⟩ : ∃ v, (stoRuns x1).1 = v := ⟨_, rfl⟩
 obtain ⟨b1, hb1⟩ : ∃ v, (stoRuns x1).2.1 = v := ⟨_, rfl⟩
 have f1 := runs_runs
 have f2 := runs_next
 have f3 := runs_run
 have f4 := runs_late
 rw [hx0] at f1 f2 f3 f4
 rw [hx1] at f4
 have K1 : Hid (∀ A c w, ims.length ≤ c → Ims w A ims → Calls Tryz.prog 19 #[.slice A ims.length c] w (WvRet w x0 0)) := hD (fun A c w hc h => by
  have := worNew_calls A c ims w hc (by decide) h
  rwa [gone_new, hx0] at this)
 have K2 : Hid (∀ L w, WorIn w x0 L → Calls Tryz.prog 4 #[.agg (worA x0 L)] w (SrRet w 1 im0 0)) := hD (fun L w h => by
  have := stoRuns_calls x0 L w h
  rwa [f1] at this)
 have K3 : Hid (∀ L w, WorIn w x0 L → Calls Tryz.prog 5 #[.agg (worA x0 L)] w (RetB w (.tuple #[iv 1, iv 0]))) := hD (fun L w h => by
  have := stoNext_calls x0 L w h
  rwa [f2] at this)
 have K4 : Hid (∀ L B cl w, WorIn w x0 L → 1 ≤ cl → Hps w B [(9, 0)] → Calls Tryz.prog 21 #[.agg (worA x0 L), .slice B 1 cl] w (WrRet w x1 [0] 0)) := hD (fun L B cl w h hc hh => by
  have := worRun_gen x0 L B cl [(9, 0)] w h (by decide) hc hh (fun y hy => (show y = (9, 0) by simpa using hy) ▸ hapOk_9 0)
  rwa [f3, hx1] at this)
 have K5 : Hid (∀ L w, WorIn w x1 L → Calls Tryz.prog 4 #[.agg (worA x1 L)] w (SrRet w v1 b1 5)) := hD (fun L w h => by
  have := stoRuns_calls x1 L w h
  rwa [f4, hv1, hb1] at this)
 clear f1 f2 f3 f4 hx0 hx1 hv1 hb1
 have HL0 : Hid (im0.length = 8) := hD rfl
 have HE0 : Hid (∀ (A : Option Addr) (c : Nat) (w : World), im0.length ≤ c → Bts w A im0 → (convert 23 9 (.slice A im0.length c)).run Tryz.prog w = .ok (.string ⟨#[97, 98, 99, 100, 101, 102, 103, 104]⟩) w) := hD (fun A c w h1 h2 => conv_str A c im0 w h1 h2)
 generalize im0 = i0 at *
 go_enter Tryz.func7, Tryz.ntmps7
 go_wp2_with fail
 refine (lawImages_calls _).mono ?_
 rintro e w1 ⟨A, c, rfl, hc, hi, hb1⟩
 have HB1 := hD hb1
 have HI1 := hD hi
 have HC1 := hD hc
 clear hb1 hi hc
 go_wp2_with fail
 refine (K1.out _ _ _ HC1.out (by first | exact HI1.out | exact HI1.out.stays (Below.refl _ _))).mono ?_
 rintro e w2 ⟨L, rfl, hf, hb2⟩
 have HW2 := hD hf.now
 have HB2 : Hid (Below W.heap.size W w2) := hD (HB1.out.trans (hb2.mono HB1.out.size))
 clear hb2 hf
 go_wp2_with fail
 have hin3 : WorIn (w2.alloc (.cells (worA x0 L) 40)) x0 L := HW2.out.stays ((Below.refl _ _).alloc (Nat.le_refl _) _)
 refine (K2.out _ _ hin3).mono ?_
 rintro e w3 ⟨A3, c3, rfl, hc3, hbt, hb⟩
 obtain ⟨a0r, a0f, a0n, a0c, a0z, a0l⟩ := kp (w2.heap.size) (worA x0 L) hb
 have HB3 : Hid (Below W.heap.size W w3) := hD ((HB2.out.alloc HB2.out.size _).trans (hb.mono (by have := HB2.out.size; simp; omega)))
 have HW3 := hD (hin3.stays hb)
 have HT3 := hD hbt.now
 have HF3 := hD hbt
 have HC3 := hD hc3
 clear hb hbt hc3 hin3
 go_wp2_with fail
 refine (K3.out _ _ HW3.out).mono ?_
 rintro e w4 ⟨rfl, hb⟩
 obtain ⟨a0r, a0f, a0n, a0c, a0z, a0l⟩ := kp (w2.heap.size) (worA x0 L) hb
 have HB4 : Hid (Below W.heap.size W w4) := hD (HB3.out.trans (hb.mono HB3.out.size))
 have HB34 := hD hb
 have HW4 := hD (HW3.out.stays hb)
 have HT4 := hD (HT3.out.stays hb)
 clear hb
 go_wp2_with fail
 refine (K4.out _ _ _ _ (HW4.out.stays ((Below.refl _ _).alloc (Nat.le_refl _) _)) (Nat.le_refl _) (hps_one (blk_top rfl) ⟨by decide, by decide⟩ ⟨by decide, by decide⟩)).mono ?_
 rintro e w5 ⟨L5, A5, c5, b5, rfl, ho5, hbs5, hw5, hb⟩
 obtain ⟨a0r, a0f, a0n, a0c, a0z, a0l⟩ := kp (w2.heap.size) (worA x0 L) hb
 have hbx : Below w4.heap.size w4 w5 := ((Below.refl _ _).alloc (Nat.le_refl _) _).trans (hb.mono (by simp))
 have HB5 : Hid (Below W.heap.size W w5) := hD (HB4.out.trans (hbx.mono HB4.out.size))
 have HT5 := hD (HT4.out.stays hbx)
 have HB35 : Hid (Below w3.heap.size w3 w5) := hD (HB34.out.trans (hbx.mono HB34.out.size))
 have hp5 : 0 < (rowOf w5 w2.heap.size).size := by rw [a0r]; simp [worA]
 have hs5 : w2.heap.size < b5 := by have := hb.size; simp at hbs5; omega
 have HW5 : Hid (WorIn (w5.setRow w2.heap.size (worA x1 L5)) x1 L5) := hD (hw5 _ (fun q h1 _ _ => setRow_other _ _ _ _ (by omega)))
 have HB5' : Hid (Below W.heap.size W (w5.setRow w2.heap.size (worA x1 L5))) := hD (below_row HB5.out HB2.out.size _)
 have HT5' : Hid (Bts (w5.setRow w2.heap.size (worA x1 L5)) A3 i0) := hD (HF3.out _ (fun k h1 h2 => by
  simp at h1
  exact (setRow_other _ _ _ _ (by omega)).trans ((HB35.out.block k h2))))
 clear hb hbx ho5 hbs5 hw5
 go_wp2_with fail
 refine (K5.out _ _ HW5.out).mono ?_
 rintro e w6 ⟨A6, c6, rfl, hc6, hbt6, hb⟩
 have HB6 : Hid (Below W.heap.size W w6) := hD (HB5'.out.trans (hb.mono HB5'.out.size))
 have ks := HE0.out A3 c3 w6 HC3.out (HT5'.out.stays hb)
 clear hb hbt6 hc6 a0r a0f a0n a0c a0z a0l
 go_wp2_with fail
 go_ret
 refine ⟨rfl, ?_⟩
 first | exact HB6.out | (repeat (first | exact HB6.out | refine below_drewN ?_ _ | refine Below.drew ?_))
section
open Go.RowKit Go.WideShapes Go.ChangeShapes Go.ChangeAt
section
variable {H : Type} {enc : TypeId × Value → H} {P : Program} {w : World} {sp : Nat → Bool} {held : Bool} {t e : TypeId}
theorem readBy_img (ht : P.underlying t = some (.slice e)) (he : P.underlying e = some (.int .u8)) (hs : P.cellsOf e = 1) : ReadBy enc P w sp held t rImg := by
 intro fuel cs d ps h hb
 obtain ⟨xs, A, c, hx, h1, h2, h3⟩ := readBy_slice ht hs (by omega) (readBy_byte he) fuel cs d ps h hb
 exact ⟨xs, A, c, hx, h1, h2, h3.bts⟩
end
section
variable {H : Type} {enc : TypeId × Value → H} {w : World} {sp : Nat → Bool} {held : Bool}
theorem reads_img : ReadBy enc Tryz.prog w sp held 23 rImg :=
 readBy_img Tryz.underlying23 Tryz.underlying5 (by kernel_rfl)
end
section
variable {H : Type} {enc : TypeId × Value → H} {w : World} {base : Nat} {v : Value} {d : DataW H} {p : List MemPlace}
end
end
section
open Go.RowKit Go.WideShapes Go.ChangeShapes Go.ChangeAt
def rInf : CR Inf := fun _ cs x => cs = (infA x).toList
def rInfs : CR (Inf × Inf) := fun _ cs x => cs = (infA x.1).toList ++ (infA x.2).toList
def rRec : CR Rec := fun _ cs x => cs = (recA x).toList
def rCop : CR Cop := fun _ cs x => cs = (copA x).toList
def rCops : CR (Cop × Cop) := fun _ cs x => cs = (copA x.1).toList ++ (copA x.2).toList
section
variable {H : Type} {enc : TypeId × Value → H} {P : Program} {w : World} {sp : Nat → Bool} {held : Bool} {t e : TypeId}
theorem readBy_inf {f0 f1 f2 : Field} (ht : P.underlying t = some (.struct #[f0, f1, f2])) (hs : P.cellsOf t = 3)
  (o0 : f0.offset = 0) (o1 : f1.offset = 1) (o2 : f2.offset = 2) (k0 : P.cellsOf f0.type = 1) (k1 : P.cellsOf f1.type = 1) (k2 : P.cellsOf f2.type = 1)
  (t0 : P.underlying f0.type = some (.int .i64)) (t1 : P.underlying f1.type = some (.int .i64)) (t2 : P.underlying f2.type = some (.int .i64)) : ReadBy enc P w sp held t rInf := by
 intro fuel cs d ps h hb
 obtain ⟨hl, hf⟩ := field_of ht h hb
 obtain ⟨a, ha⟩ := hf 0 f0 rfl (readBy_int t0)
 obtain ⟨b, hb⟩ := hf 1 f1 rfl (readBy_int t1)
 obtain ⟨c, hc⟩ := hf 2 f2 rfl (readBy_int t2)
 rw [hs] at hl
 match cs, hl with
 | [x, y, z], _ =>
  rw [o0, k0] at ha
  rw [o1, k1] at hb
  rw [o2, k2] at hc
  obtain ⟨ha, ha'⟩ := ha
  obtain ⟨hb, hb'⟩ := hb
  obtain ⟨hc, hc'⟩ := hc
  simp at ha hb hc
  subst ha hb hc
  exact ⟨⟨a, b, c⟩, rfl⟩
theorem readBy_infs (ht : P.underlying t = some (.array 2 e)) (hs : P.cellsOf t = 6) (h1 : P.cellsOf e = 3) (hR : ReadBy enc P w sp held e rInf) : ReadBy enc P w sp held t rInfs := by
 intro fuel cs d ps h hb
 obtain ⟨hl, hf⟩ := place_of ht h hb
 obtain ⟨a, ha⟩ := hf 0 (by omega) hR
 obtain ⟨b, hb⟩ := hf 1 (by omega) hR
 rw [hs] at hl
 rw [h1] at ha hb
 refine ⟨(a, b), ?_⟩
 unfold rInf at ha hb
 show cs = _
 rw [← ha, ← hb]
 have e : (cs.drop (1 * 3)).take 3 = cs.drop 3 := by rw [Nat.one_mul]; exact List.take_of_length_le (by rw [List.length_drop]; omega)
 rw [e, Nat.zero_mul, List.drop_zero, List.take_append_drop]
theorem readBy_rec {f0 f1 f2 f3 f4 f5 : Field} (ht : P.underlying t = some (.struct #[f0, f1, f2, f3, f4, f5])) (hs : P.cellsOf t = 11)
  (o0 : f0.offset = 0) (o1 : f1.offset = 1) (o2 : f2.offset = 2) (o3 : f3.offset = 3) (o4 : f4.offset = 4) (o5 : f5.offset = 5)
  (k0 : P.cellsOf f0.type = 1) (k1 : P.cellsOf f1.type = 1) (k2 : P.cellsOf f2.type = 1) (k3 : P.cellsOf f3.type = 1) (k4 : P.cellsOf f4.type = 1) (k5 : P.cellsOf f5.type = 6)
  (t0 : P.underlying f0.type = some (.int .i64)) (t1 : P.underlying f1.type = some (.int .i64)) (t2 : P.underlying f2.type = some .bool) (t3 : P.underlying f3.type = some (.int .i64)) (t4 : P.underlying f4.type = some (.int .i64)) (t5 : ReadBy enc P w sp held f5.type rInfs) : ReadBy enc P w sp held t rRec := by
 intro fuel cs d ps h hb
 obtain ⟨hl, hf⟩ := field_of ht h hb
 obtain ⟨a0, h0⟩ := hf 0 f0 rfl (readBy_int t0)
 obtain ⟨a1, h1⟩ := hf 1 f1 rfl (readBy_int t1)
 obtain ⟨a2, h2⟩ := hf 2 f2 rfl (readBy_bool t2)
 obtain ⟨a3, h3⟩ := hf 3 f3 rfl (readBy_int t3)
 obtain ⟨a4, h4⟩ := hf 4 f4 rfl (readBy_int t4)
 obtain ⟨a5, h5⟩ := hf 5 f5 rfl t5
 rw [hs] at hl
 rw [o0, k0] at h0
 rw [o1, k1] at h1
 rw [o2, k2] at h2
 rw [o3, k3] at h3
 rw [o4, k4] at h4
 rw [o5, k5] at h5
 match cs, hl with
 | [c0, c1, c2, c3, c4, c5, c6, c7, c8, c9, c10], _ =>
  obtain ⟨h0, _⟩ := h0
  obtain ⟨h1, _⟩ := h1
  obtain ⟨h3, _⟩ := h3
  obtain ⟨h4, _⟩ := h4
  unfold rBool at h2
  unfold rInfs infA at h5
  simp at h0 h1 h2 h3 h4 h5
  obtain ⟨e5, e6, e7, e8, e9, e10⟩ := h5
  subst h0 h1 h2 h3 h4 e5 e6 e7 e8 e9 e10
  exact ⟨⟨a0, a1, a2, a3, a4, a5.1, a5.2⟩, rfl⟩
theorem readBy_cop {f0 f1 : Field} (ht : P.underlying t = some (.struct #[f0, f1])) (hs : P.cellsOf t = 12) (o0 : f0.offset = 0) (o1 : f1.offset = 1) (k0 : P.cellsOf f0.type = 1) (k1 : P.cellsOf f1.type = 11)
  (t0 : P.underlying f0.type = some .bool) (t1 : ReadBy enc P w sp held f1.type rRec) : ReadBy enc P w sp held t rCop := by
 intro fuel cs d ps h hb
 obtain ⟨hl, hf⟩ := field_of ht h hb
 obtain ⟨a0, h0⟩ := hf 0 f0 rfl (readBy_bool t0)
 obtain ⟨a1, h1⟩ := hf 1 f1 rfl t1
 rw [hs] at hl
 rw [o0, k0] at h0
 rw [o1, k1] at h1
 unfold rRec at h1
 match cs, hl with
 | c :: r, hl =>
  unfold rBool at h0
  have h0' : c = .bool a0 := by simpa using h0
  have h1' : r = (recA a1).toList := by rw [← h1]; show r = (r.take 11); rw [List.take_of_length_le (by simp at hl; omega)]
  subst h0' h1'
  exact ⟨⟨a0, a1⟩, rfl⟩
theorem readBy_cops (ht : P.underlying t = some (.array 2 e)) (hs : P.cellsOf t = 24) (h1 : P.cellsOf e = 12) (hR : ReadBy enc P w sp held e rCop) : ReadBy enc P w sp held t rCops := by
 intro fuel cs d ps h hb
 obtain ⟨hl, hf⟩ := place_of ht h hb
 obtain ⟨a, ha⟩ := hf 0 (by omega) hR
 obtain ⟨b, hb⟩ := hf 1 (by omega) hR
 rw [hs] at hl
 rw [h1] at ha hb
 refine ⟨(a, b), ?_⟩
 unfold rCop at ha hb
 show cs = _
 rw [← ha, ← hb]
 have e : (cs.drop (1 * 12)).take 12 = cs.drop 12 := by rw [Nat.one_mul]; exact List.take_of_length_le (by rw [List.length_drop]; omega)
 rw [e, Nat.zero_mul, List.drop_zero, List.take_append_drop]
end
section
variable {H : Type} {enc : TypeId × Value → H} {w : World} {sp : Nat → Bool} {held : Bool}
theorem reads_infs : ReadBy enc Tryz.prog w sp held 27 rInfs :=
 readBy_infs Tryz.underlying27 (by kernel_rfl) (by kernel_rfl) (readBy_inf Tryz.underlying26 (by kernel_rfl) rfl rfl rfl (by kernel_rfl) (by kernel_rfl) (by kernel_rfl) Tryz.underlying3 Tryz.underlying3 Tryz.underlying3)
theorem reads_rec : ReadBy enc Tryz.prog w sp held 29 rRec :=
 readBy_rec Tryz.underlying29 (by kernel_rfl) rfl rfl rfl rfl rfl rfl (by kernel_rfl) (by kernel_rfl) (by kernel_rfl) (by kernel_rfl) (by kernel_rfl) (by kernel_rfl)
  Tryz.underlying3 Tryz.underlying3 Tryz.underlying4 Tryz.underlying3 Tryz.underlying3 reads_infs
theorem reads_cop : ReadBy enc Tryz.prog w sp held 31 rCop :=
 readBy_cop Tryz.underlying31 (by kernel_rfl) rfl rfl (by kernel_rfl) (by kernel_rfl) Tryz.underlying4 reads_rec
theorem reads_cops : ReadBy enc Tryz.prog w sp held 32 rCops :=
 readBy_cops Tryz.underlying32 (by kernel_rfl) (by kernel_rfl) reads_cop
end
section
variable {H : Type} {enc : TypeId × Value → H} {w : World} {base : Nat} {v : Value} {d : DataW H} {p : List MemPlace}
end
end
end Go.Proofs.YtefkfglkpebbmadGreat
