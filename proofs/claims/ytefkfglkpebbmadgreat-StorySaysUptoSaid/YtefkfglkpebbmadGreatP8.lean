/- Walks of functions, and plain words. No conditions. -/
import Derived.Test.YtefkfglkpebbmadGreatP7
set_option linter.unusedVariables false
set_option linter.unusedSimpArgs false
set_option maxRecDepth 100000
set_option maxHeartbeats 40000000
namespace Go.Proofs.YtefkfglkpebbmadGreat
open Go.RowKit
variable {w0 w : World} {g k : Nat} {d : Dev} {cv : Nat → Value} {x : Wor} {l : List (Int × Int)}
def dcJ (w0 : World) (g : Nat) (d : Dev) (L : DLoc) : Nat → (Nat → Value) → World → Prop
 | 0, _, w => w = w0.drew
 | 1, cv, w => ∃ A5 c5, cv 3 = .slice A5 d.s0.length c5 ∧ Own w w0.heap.size 5 1 A5 d.s0.length c5 (d.s0.map bv) ∧ Below w0.heap.size w0 w
 | 2, cv, w => ∃ A5 c5 w1 A6 c6, cv 3 = .slice A5 d.s0.length c5 ∧ Own w1 w0.heap.size 5 1 A5 d.s0.length c5 (d.s0.map bv) ∧ Below w0.heap.size w0 w1 ∧ cv 7 = .slice A6 d.s1.length c6 ∧ Own w w1.heap.size 5 1 A6 d.s1.length c6 (d.s1.map bv) ∧ Below w1.heap.size w1 w
 | 3, cv, w => ∃ A5 c5 w1 A6 c6, cv 8 = .agg (slotsA A5 d.s0.length c5 A6 d.s1.length c6) ∧ Own w1 w0.heap.size 5 1 A5 d.s0.length c5 (d.s0.map bv) ∧ Below w0.heap.size w0 w1 ∧ Own w w1.heap.size 5 1 A6 d.s1.length c6 (d.s1.map bv) ∧ Below w1.heap.size w1 w
 | _, _, w => ∃ A5 c5 w1 A6 c6 w2, Own w1 w0.heap.size 5 1 A5 d.s0.length c5 (d.s0.map bv) ∧ Below w0.heap.size w0 w1 ∧ Own w2 w1.heap.size 5 1 A6 d.s1.length c6 (d.s1.map bv) ∧ Below w1.heap.size w1 w2 ∧ w = w2.setRow g (devA d { L with a0 := A5, c0 := c5, a1 := A6, c1 := c6 })
theorem dcJ_row {L : DLoc} (hk : k ≤ 3) (hr : rowOf w0 g = devA d L) (hf : frOf w0 g = (0, 0)) (hJ : dcJ w0 g d L k cv w) : rowOf w g = devA d L ∧ frOf w g = (0, 0) := by
 have hg : g < w0.heap.size := row_lt (w := w0) (by rw [hr]; simp [devA])
 have key : Below w0.heap.size w0 w → rowOf w g = devA d L ∧ frOf w g = (0, 0) := fun hb => ⟨(rowOf_below hg hb).trans hr, (frOf_below hg hb).trans hf⟩
 match k, hk, hJ with
 | 0, _, hJ => obtain rfl : w = w0.drew := hJ; exact key (Below.refl _ _).drew
 | 1, _, ⟨_, _, _, _, h⟩ => exact key h
 | 2, _, ⟨_, _, w1, _, _, _, _, h, _, _, h2⟩ => exact key (h.trans (h2.mono h.size))
 | 3, _, ⟨_, _, w1, _, _, _, _, h, _, h2⟩ => exact key (h.trans (h2.mono h.size))
def dcK (w0 : World) (g : Nat) (d : Dev) (L : DLoc) : Nat → (Nat → Value) → World → Prop
 | 0, _, w => w = w0.drew
 | 1, cv, w => ∃ A5 c5 ds, cv 2 = .slice A5 d.got.length c5 ∧ GRow kChk w w0.heap.size d.got ds A5 c5 ∧ Each kChk d.got ds (fun k => w0.heap.size ≤ k) ∧ Below w0.heap.size w0 w
 | 2, cv, w => ∃ A5 c5 ds w4 A6 c6, cv 2 = .slice A5 d.got.length c5 ∧ cv 5 = .agg (patA d.job.from_ d.job.to_ d.job.old d.job.new_ d.job.size A6 d.job.ops.length c6) ∧ GRow kChk w4 w0.heap.size d.got ds A5 c5 ∧ Each kChk d.got ds (fun k => w0.heap.size ≤ k) ∧ Below w0.heap.size w0 w4 ∧
   Fresh w4.heap.size w (fun v => PatIn v d.job A6 c6) ∧ Below w4.heap.size w4 w
 | 3, cv, w => ∃ A5 c5 ds w4 A6 c6 w5, cv 5 = .agg (patA d.job.from_ d.job.to_ d.job.old d.job.new_ d.job.size A6 d.job.ops.length c6) ∧ GRow kChk w4 w0.heap.size d.got ds A5 c5 ∧ Each kChk d.got ds (fun k => w0.heap.size ≤ k) ∧ Below w0.heap.size w0 w4 ∧
   Fresh w4.heap.size w5 (fun v => PatIn v d.job A6 c6) ∧ Below w4.heap.size w4 w5 ∧ w = w5.setRow g (devA d { L with ag := A5, cg := c5 })
 | _, _, w => ∃ A5 c5 ds w4 A6 c6 w5, GRow kChk w4 w0.heap.size d.got ds A5 c5 ∧ Each kChk d.got ds (fun k => w0.heap.size ≤ k) ∧ Below w0.heap.size w0 w4 ∧
   Fresh w4.heap.size w5 (fun v => PatIn v d.job A6 c6) ∧ Below w4.heap.size w4 w5 ∧ w = w5.setRow g (devA d { L with ag := A5, cg := c5, aj := A6, cj := c6 })
theorem dcK_row {L : DLoc} (hk : k ≤ 2) (hr : rowOf w0 g = devA d L) (hf : frOf w0 g = (0, 0)) (hg : g < w0.heap.size) (hJ : dcK w0 g d L k cv w) : rowOf w g = devA d L ∧ frOf w g = (0, 0) := by
 have key : Below w0.heap.size w0 w → rowOf w g = devA d L ∧ frOf w g = (0, 0) := fun hb => ⟨(rowOf_below hg hb).trans hr, (frOf_below hg hb).trans hf⟩
 match k, hk, hJ with
 | 0, _, hJ => obtain rfl : w = w0.drew := hJ; exact key (Below.refl _ _).drew
 | 1, _, ⟨_, _, _, _, _, _, h⟩ => exact key h
 | 2, _, ⟨_, _, _, w1, _, _, _, _, _, _, h, _, h2⟩ => exact key (h.trans (h2.mono h.size))
theorem dcEnd {w1 w3 w4 w5 w' : World} {L2 : DLoc} {A5 A6 A7 A8 : Option Addr} {c5 c6 c7 c8 : Nat} {ds : List (Option Addr × Nat)} (HIN : DevIn w0 d L2 ∨ True)
  (hl : d.s0.length ≤ 1048576 ∧ d.s1.length ≤ 1048576 ∧ d.got.length ≤ 1048576) (hi : I64 d.running ∧ I64 d.done) (hbd : ∀ x ∈ d.got, ChkB x)
  (h0 : Own w3 w0.heap.size 5 1 A5 d.s0.length c5 (d.s0.map bv)) (h1 : Own w3 w1.heap.size 5 1 A6 d.s1.length c6 (d.s1.map bv))
  (hbk : (∀ k, A5.map (·.block) = some k → k < w1.heap.size) ∧ (∀ k, A6.map (·.block) = some k → k < w3.heap.size) ∧ w0.heap.size ≤ w1.heap.size ∧ w1.heap.size ≤ w3.heap.size)
  (hg : Fresh w3.heap.size w4 (fun v => GRow kChk v w3.heap.size d.got ds A7 c7)) (hf : Fresh w4.heap.size w5 (fun v => PatIn v d.job A8 c8)) (b4 : Below w3.heap.size w3 w4) (b5 : Below w4.heap.size w4 w5) (hc : d.got.length ≤ c7)
  (he : L2.a0 = A5 ∧ L2.c0 = c5 ∧ L2.a1 = A6 ∧ L2.c1 = c6) (hw : ∀ k, w0.heap.size ≤ k → w'.heap[k]? = w5.heap[k]?) : DvOwn w' w0.heap.size d { L2 with ag := A7, cg := c7, aj := A8, cj := c8 } := by
 obtain ⟨e1, e2, e3, e4⟩ := he
 have s4 := b4.size
 have hk : ∀ k, w0.heap.size ≤ k → k < w3.heap.size → w'.heap[k]? = w3.heap[k]? := fun k h1 h2 => (hw k h1).trans (((b5.block k (by omega))).trans (b4.block k h2))
 refine ⟨w1.heap.size, w3.heap.size, hbk.2.2.1, hbk.2.2.2, ?_, ?_, ?_, ?_, ?_, ?_, hl.1, hl.2.1, hc, hl.2.2, hi.1, hi.2⟩
 ·show Own w' _ _ _ L2.a0 _ L2.c0 _
  rw [e1, e2]; exact own_fresh h0 hk
 ·show ∀ k, L2.a0.map (·.block) = some k → _
  rw [e1]; exact hbk.1
 ·show Own w' _ _ _ L2.a1 _ L2.c1 _
  rw [e3, e4]; exact own_fresh h1 (fun k h => hk k (by have := hbk.2.2.1; omega))
 ·show ∀ k, L2.a1.map (·.block) = some k → _
  rw [e3]; exact hbk.2.1
 ·have g5 : Fresh w3.heap.size w5 (fun v => GRow kChk v w3.heap.size d.got ds A7 c7) := hg.below b5 (Nat.le_refl _)
  exact (g5.fresh (fun k h1 h2 => hw k (by have := hbk.2.2; omega))).imp fun v hv => hv.src.chs hbd
 ·exact (hf.mono s4).fresh (fun k h1 h2 => hw k (by have := hbk.2.2; omega))
@[go_sem] theorem build_slots (a : Option Addr) (k c : Nat) (b : Option Addr) (m e : Nat) (w : World) : runBuild Tryz.prog 24 #[(0, .slice a k c), (1, .slice b m e)] w = .ok (.agg (slotsA a k c b m e)) w := by kernel_rfl
theorem devCopy_calls (d : Dev) (L : DLoc) (w : World) (h : DevIn w d L) : Calls Tryz.prog 41 #[.agg (devA d L)] w (DcRet w d) := by
 have HI := hD h
 have HL : Hid (d.s0.length ≤ 1048576 ∧ d.s1.length ≤ 1048576 ∧ d.got.length ≤ 1048576) := hD ⟨h.l0, h.l1, h.lg⟩
 have HI2 : Hid (I64 d.running ∧ I64 d.done) := hD ⟨h.ir, h.id⟩
 have HBD : Hid (∀ x ∈ d.got, ChkB x) := hD h.got.bound
 clear h
 go_enter Tryz.func41, Tryz.ntmps41
 go_wp2_with fail
 have q1 : rowOf ((w.alloc (.cells (devA d L) 38)).alloc (.cells (devA Dev.zero DLoc.zero) 38)) w.heap.size = devA d L := by go_simp
 have q2 : frOf ((w.alloc (.cells (devA d L) 38)).alloc (.cells (devA Dev.zero DLoc.zero) 38)) w.heap.size = (0, 0) := by go_simp
 have q3 : rowOf ((w.alloc (.cells (devA d L) 38)).alloc (.cells (devA Dev.zero DLoc.zero) 38)) (w.heap.size + 1) = devA Dev.zero DLoc.zero := by go_simp
 have q4 : frOf ((w.alloc (.cells (devA d L) 38)).alloc (.cells (devA Dev.zero DLoc.zero) 38)) (w.heap.size + 1) = (0, 0) := by go_simp
 obtain ⟨w0, hw0⟩ : ∃ w0, (w.alloc (.cells (devA d L) 38)).alloc (.cells (devA Dev.zero DLoc.zero) 38) = w0 := ⟨_, rfl⟩
 have HB0 : Hid (Below w.heap.size w w0) := hD (by rw [← hw0]; exact ((Below.refl _ _).alloc (Nat.le_refl _) _).alloc (by simp) _)
 obtain ⟨g, hg⟩ : ∃ g, w.heap.size = g := ⟨_, rfl⟩
 rw [hw0, hg] at q1 q2 q3 q4
 have HR := hD q1
 have HF := hD q2
 have HRz := hD q3
 have HFz := hD q4
 have HSZ : Hid (w0.heap.size = g + 2) := hD (by rw [← hw0, ← hg]; simp)
 have HG : Hid (g < w0.heap.size) := hD (by rw [HSZ.out]; omega)
 rw [hw0]
 rw [hg] at HB0 ⊢
 have HGE := hD hg
 clear hw0 hg q1 q2 q3 q4
 have HIN : Hid (DevIn w0 d L) := hD (HI.out.stays (HGE.out ▸ HB0.out))
 have K0 : Hid (∀ wq, Below w0.heap.size w0 wq → Calls Tryz.prog 13 #[.slice L.a0 d.s0.length L.c0] wq (SlRet wq 5 1 d.s0.length (d.s0.map bv))) := hD (fun wq h => cloneBytes_calls _ _ _ _ wq (by simp) (by have := HL.out.1; omega) (HIN.out.b0.stays h).src (bv_one _))
 have K1 : Hid (∀ wq, Below w0.heap.size w0 wq → Calls Tryz.prog 13 #[.slice L.a1 d.s1.length L.c1] wq (SlRet wq 5 1 d.s1.length (d.s1.map bv))) := hD (fun wq h => cloneBytes_calls _ _ _ _ wq (by simp) (by have := HL.out.2.1; omega) (HIN.out.b1.stays h).src (bv_one _))
 refine wp_region_mix (by kernel_rfl) (some 3 :: some 4 :: some 5 :: some 6 :: some 7 :: some 8 :: some 9 :: some 10 :: some 11 :: some 12 :: none :: []) (none :: none :: none :: some 0 :: none :: none :: none :: some 1 :: some 2 :: none :: some 3 :: []) (.pointer (some ⟨g, 0, none⟩) :: .pointer (some ⟨g, 0, none⟩) :: .slice L.a0 d.s0.length L.c0 :: undef :: .pointer (some ⟨g, 0, none⟩) :: .pointer (some ⟨g, 1, none⟩) :: .slice L.a1 d.s1.length L.c1 :: undef :: undef :: .pointer (some ⟨g, 0, none⟩) :: undef :: []) 4 (dcJ w0 g d L) 22 rfl rfl (by decide +kernel) (by decide +kernel) (by decide +kernel) (by decide +kernel) rfl rfl (by decide +kernel) (by decide +kernel) (rfl) ?_ ?_
 ·refine ⟨?_, ?_⟩
  ·intro done cv k0 a wq hw h hJ hn
   have e1 := mO 1 (.pointer (some ⟨g, 0, none⟩)) h
   go_simp
  refine ⟨?_, ?_⟩
  ·intro done cv k0 a wq hw h hJ hn
   have e3 := mN 0 3 h hw
   go_simp
  refine ⟨?_, ?_⟩
  ·intro done cv k0 a wq hw h hJ hn
   have e4 := mN 1 4 h hw
   have hk := hn 10 _ 3 rfl rfl (by decide)
   obtain ⟨hr, hf⟩ := dcJ_row hk HR.out HF.out hJ
   have hc := cell_row (w := wq) (g := g) (by rw [hr]; simp [devA])
   go_simp
  refine ⟨?_, ?_⟩
  ·intro done cv a wq hw h hJ
   have e5 := mN 2 5 h hw
   obtain rfl : wq = w0.drew := hJ
   refine wp_call (vals := #[.slice L.a0 d.s0.length L.c0]) (by rw [List.map_toArray, List.map_cons, List.map_nil, ch_ev e5]) (enters_of Tryz.func13 (by kernel_rfl) rfl _ _) (K0.out _ ((Below.refl _ _).drew)) ?_
   rintro e w' ⟨A5, c5, rfl, hown, hbel⟩
   exact ⟨_, rfl, _, rfl, A5, c5, by simp, hown, (Below.refl _ _).drew.trans hbel⟩
  refine ⟨?_, ?_⟩
  ·intro done cv k0 a wq hw h hJ hn
   have e1 := mO 1 (.pointer (some ⟨g, 0, none⟩)) h
   go_simp
  refine ⟨?_, ?_⟩
  ·intro done cv k0 a wq hw h hJ hn
   have e7 := mN 4 7 h hw
   go_simp
  refine ⟨?_, ?_⟩
  ·intro done cv k0 a wq hw h hJ hn
   have e8 := mN 5 8 h hw
   have hk := hn 10 _ 3 rfl rfl (by decide)
   obtain ⟨hr, hf⟩ := dcJ_row hk HR.out HF.out hJ
   have hc := cell_row (w := wq) (g := g) (by rw [hr]; simp [devA])
   go_simp
  refine ⟨?_, ?_⟩
  ·intro done cv a wq hw h hJ
   have e9 := mN 6 9 h hw
   obtain ⟨A5, c5, y1, hown, hbel⟩ := hJ
   refine wp_call (vals := #[.slice L.a1 d.s1.length L.c1]) (by rw [List.map_toArray, List.map_cons, List.map_nil, ch_ev e9]) (enters_of Tryz.func13 (by kernel_rfl) rfl _ _) (K1.out _ hbel) ?_
   rintro e w' ⟨A6, c6, rfl, hown2, hbel2⟩
   exact ⟨_, rfl, _, rfl, A5, c5, wq, A6, c6, by simpa using y1, hown, hbel, by simp, hown2, hbel2⟩
  refine ⟨?_, ?_⟩
  ·intro done cv a wq hw h hJ
   have e6 := mx_cv (i := 3) (t := 6) h (hw 3 (by decide)) rfl rfl; have e10 := mx_cv (i := 7) (t := 10) h (hw 7 (by decide)) rfl rfl
   obtain ⟨A5, c5, w1, A6, c6, y1, hown, hbel, y2, hown2, hbel2⟩ := hJ
   rw [y1] at e6
   rw [y2] at e10
   refine wp_val (v := .agg (slotsA A5 d.s0.length c5 A6 d.s1.length c6)) (by go_simp) ⟨_, rfl, A5, c5, w1, A6, c6, by simp, hown, hbel, hown2, hbel2⟩
  refine ⟨?_, ?_⟩
  ·intro done cv k0 a wq hw h hJ hn
   have e1 := mO 1 (.pointer (some ⟨g, 0, none⟩)) h
   go_simp
  refine ⟨?_, ?_⟩
  ·intro done cv a wq hw h hJ
   have e12 := mN 9 12 h hw; have e11 := mx_cv (i := 8) (t := 11) h (hw 8 (by decide)) rfl rfl
   obtain ⟨A5, c5, w1, A6, c6, y3, hown, hbel, hown2, hbel2⟩ := hJ
   rw [y3] at e11
   have hbl := hbel.trans (hbel2.mono hbel.size)
   refine wp_srow e12 e11 (by go_simp) (by go_simp) (cs := devA d L) ((rowOf_below HG.out hbl).trans HR.out) (by go_simp) ((frOf_below HG.out hbl).trans HF.out) (by go_simp) ⟨undef, rfl, A5, c5, w1, A6, c6, wq, hown, hbel, hown2, hbel2, ?_⟩
   rw [devA_splice_slots]
  exact trivial
 intro cv w3' hJ
 obtain ⟨A5, c5, w1, A6, c6, w2, hown, hbel, hown2, hbel2, rfl⟩ := hJ
 simp only [mixAll, putAll_some, putAll_none, putAll_nil, List.getElem?_cons_zero, List.getElem?_cons_succ, Nat.zero_add, Nat.reduceAdd, List.setIfInBounds_toArray, List.set_cons_zero, List.set_cons_succ]
 obtain ⟨L2, hL2⟩ : ∃ L2 : DLoc, { L with a0 := A5, c0 := c5, a1 := A6, c1 := c6 } = L2 := ⟨_, rfl⟩
 have hbl := hbel.trans (hbel2.mono hbel.size)
 have hr2 : rowOf w2 g = devA d L := (rowOf_below HG.out hbl).trans HR.out
 obtain ⟨w3, hw3⟩ : ∃ w3, w2.setRow g (devA d { L with a0 := A5, c0 := c5, a1 := A6, c1 := c6 }) = w3 := ⟨_, rfl⟩
 rw [hw3]
 rw [hL2] at hw3
 have HR2 : Hid (rowOf w3 g = devA d L2) := hD (by rw [← hw3, rowOf_setRow _ _ _ _ (by rw [hr2]; simp [devA]), if_pos rfl])
 have HF2 : Hid (frOf w3 g = (0, 0)) := hD (by rw [← hw3, frOf_setRow]; exact (frOf_below HG.out hbl).trans HF.out)
 have HRz2 : Hid (rowOf w3 (g + 1) = devA Dev.zero DLoc.zero) := hD (by rw [← hw3, rowOf_setRow _ _ _ _ (by rw [hr2]; simp [devA]), if_neg (by omega)]; exact (rowOf_below (by rw [HSZ.out]; omega) hbl).trans HRz.out)
 have HFz2 : Hid (frOf w3 (g + 1) = (0, 0)) := hD (by rw [← hw3, frOf_setRow]; exact (frOf_below (by rw [HSZ.out]; omega) hbl).trans HFz.out)
 have hs3 : w3.heap.size = w2.heap.size := by rw [← hw3]; simp [World.setRow]
 have hs1 := hbel.size
 have hs2 := hbel2.size
 have hsz := HSZ.out
 have HG2 : Hid (g < w3.heap.size) := hD (by omega)
 have HGz : Hid (g + 1 < w3.heap.size) := hD (by omega)
 have HB3 : Hid (Below g w w3) := hD (by rw [← hw3]; exact below_row (HB0.out.trans (hbl.mono (by omega))) (Nat.le_refl _) _)
 have HIN2 : Hid (Chs w3 L.ag d.got ∧ PatIn w3 d.job L.aj L.cj) := hD (by have hi := HI.out.stays (HGE.out ▸ HB3.out); exact ⟨hi.got, hi.job⟩)
 have HO0 : Hid (Own w3 w0.heap.size 5 1 A5 d.s0.length c5 (d.s0.map bv)) := hD (by rw [← hw3]; exact own_fresh (hown.below (B := 0) hbel2) fun k h1 h2 => setRow_other _ _ _ _ (by omega))
 have HO1 : Hid (Own w3 w1.heap.size 5 1 A6 d.s1.length c6 (d.s1.map bv)) := hD (by rw [← hw3]; exact own_fresh hown2 fun k h1 h2 => setRow_other _ _ _ _ (by omega))
 have HBK : Hid ((∀ k, A5.map (·.block) = some k → k < w1.heap.size) ∧ (∀ k, A6.map (·.block) = some k → k < w3.heap.size) ∧ w0.heap.size ≤ w1.heap.size ∧ w1.heap.size ≤ w3.heap.size) := hD ⟨fun k hk => (hown.block k hk).2, fun k hk => by have := (hown2.block k hk).2; omega, hs1, by omega⟩
 have HE : Hid (L2.ag = L.ag ∧ L2.cg = L.cg ∧ L2.aj = L.aj ∧ L2.cj = L.cj ∧ L2.a0 = A5 ∧ L2.c0 = c5 ∧ L2.a1 = A6 ∧ L2.c1 = c6) := hD (by rw [← hL2]; exact ⟨rfl, rfl, rfl, rfl, rfl, rfl, rfl, rfl⟩)
 have K2 : Hid (∀ wq, Below w3.heap.size w3 wq → Calls Tryz.prog 69 #[.slice L2.ag d.got.length L2.cg] wq (KrRet kChk wq d.got)) := hD (fun wq h => chkCopy_calls _ _ _ wq HL.out.2.2 (by rw [HE.out.1]; exact HIN2.out.1.stays h))
 have K3 : Hid (∀ wq, Below w3.heap.size w3 wq → Calls Tryz.prog 70 #[.agg (patA d.job.from_ d.job.to_ d.job.old d.job.new_ d.job.size L2.aj d.job.ops.length L2.cj)] wq (PcRet wq d.job)) := hD (fun wq h => patCopy_calls _ _ _ wq (by rw [HE.out.2.2.1, HE.out.2.2.2.1]; exact HIN2.out.2.stays h))
 clear hown hown2 hbel hbel2 hbl hr2 hw3 hL2 hs3 hs1 hs2 hsz K0 K1 HB0 HR HF HRz HFz
 go_wp2_with fail
 refine wp_region_mix (by kernel_rfl) (some 13 :: some 14 :: some 15 :: some 16 :: some 17 :: some 18 :: some 19 :: none :: some 20 :: none :: []) (none :: none :: some 0 :: none :: none :: some 1 :: none :: some 2 :: none :: some 3 :: []) (.pointer (some ⟨g, 28, none⟩) :: .slice L2.ag d.got.length L2.cg :: undef :: .pointer (some ⟨g, 30, none⟩) :: .agg (patA d.job.from_ d.job.to_ d.job.old d.job.new_ d.job.size L2.aj d.job.ops.length L2.cj) :: undef :: .pointer (some ⟨g, 28, none⟩) :: undef :: .pointer (some ⟨g, 30, none⟩) :: undef :: []) 4 (dcK w3 g d L2) 22 rfl rfl (by decide +kernel) (by decide +kernel) (by decide +kernel) (by decide +kernel) rfl rfl (by decide +kernel) (by decide +kernel) (rfl) ?_ ?_
 ·refine ⟨?_, ?_⟩
  ·intro done cv k0 a wq hw h hJ hn
   have e1 := mO 1 (.pointer (some ⟨g, 0, none⟩)) h
   go_simp
  refine ⟨?_, ?_⟩
  ·intro done cv k0 a wq hw h hJ hn
   have e13 := mN 0 13 h hw
   have hk := hn 7 _ 2 rfl rfl (by decide)
   obtain ⟨hr, hf⟩ := dcK_row hk HR2.out HF2.out HG2.out hJ
   have hc := cell_row (w := wq) (g := g) (by rw [hr]; simp [devA])
   go_simp
  refine ⟨?_, ?_⟩
  ·intro done cv a wq hw h hJ
   have e14 := mN 1 14 h hw
   obtain rfl : wq = w3.drew := hJ
   refine wp_call (vals := #[.slice L2.ag d.got.length L2.cg]) (by rw [List.map_toArray, List.map_cons, List.map_nil, ch_ev e14]) (enters_of Tryz.func69 (by kernel_rfl) rfl _ _) (K2.out _ ((Below.refl _ _).drew)) ?_
   rintro e w' ⟨A5, c5, ds, rfl, hrow, heach, hbel⟩
   exact ⟨_, rfl, _, rfl, A5, c5, ds, by simp, hrow, heach, (Below.refl _ _).drew.trans hbel⟩
  refine ⟨?_, ?_⟩
  ·intro done cv k0 a wq hw h hJ hn
   have e1 := mO 1 (.pointer (some ⟨g, 0, none⟩)) h
   go_simp
  refine ⟨?_, ?_⟩
  ·intro done cv k0 a wq hw h hJ hn
   have e16 := mN 3 16 h hw
   have hk := hn 7 _ 2 rfl rfl (by decide)
   obtain ⟨hr, hf⟩ := dcK_row hk HR2.out HF2.out HG2.out hJ
   have hc := cell_row (w := wq) (g := g) (by rw [hr]; simp [devA])
   go_simp
  refine ⟨?_, ?_⟩
  ·intro done cv a wq hw h hJ
   have e17 := mN 4 17 h hw
   obtain ⟨A5, c5, ds, y1, hrow, heach, hbel⟩ := hJ
   refine wp_call (vals := #[.agg (patA d.job.from_ d.job.to_ d.job.old d.job.new_ d.job.size L2.aj d.job.ops.length L2.cj)]) (by rw [List.map_toArray, List.map_cons, List.map_nil, ch_ev e17]) (enters_of Tryz.func70 (by kernel_rfl) rfl _ _) (K3.out _ hbel) ?_
   rintro e w' ⟨A6, c6, rfl, hfr, hbel2⟩
   exact ⟨_, rfl, _, rfl, A5, c5, ds, wq, A6, c6, by simpa using y1, by simp, hrow, heach, hbel, hfr, hbel2⟩
  refine ⟨?_, ?_⟩
  ·intro done cv k0 a wq hw h hJ hn
   have e1 := mO 1 (.pointer (some ⟨g, 0, none⟩)) h
   go_simp
  refine ⟨?_, ?_⟩
  ·intro done cv a wq hw h hJ
   have e19 := mN 6 19 h hw; have e15 := mx_cv (i := 2) (t := 15) h (hw 2 (by decide)) rfl rfl
   obtain ⟨A5, c5, ds, w4, A6, c6, y1, y2, hrow, heach, hbel, hfr, hbel2⟩ := hJ
   rw [y1] at e15
   have hbl := hbel.trans (hbel2.mono hbel.size)
   refine wp_ssc e19 e15 (cs := devA d L2) ((rowOf_below HG2.out hbl).trans HR2.out) (by go_simp) ((frOf_below HG2.out hbl).trans HF2.out) ⟨undef, rfl, A5, c5, ds, w4, A6, c6, wq, by simpa using y2, hrow, heach, hbel, hfr, hbel2, ?_⟩
   rw [devA_set_got]
  refine ⟨?_, ?_⟩
  ·intro done cv k0 a wq hw h hJ hn
   have e1 := mO 1 (.pointer (some ⟨g, 0, none⟩)) h
   go_simp
  refine ⟨?_, ?_⟩
  ·intro done cv a wq hw h hJ
   have e20 := mN 8 20 h hw; have e18 := mx_cv (i := 5) (t := 18) h (hw 5 (by decide)) rfl rfl
   obtain ⟨A5, c5, ds, w4, A6, c6, w5, y2, hrow, heach, hbel, hfr, hbel2, rfl⟩ := hJ
   rw [y2] at e18
   have hbl := hbel.trans (hbel2.mono hbel.size)
   have hr5 : rowOf w5 g = devA d L2 := (rowOf_below HG2.out hbl).trans HR2.out
   have hf5 : frOf w5 g = (0, 0) := (frOf_below HG2.out hbl).trans HF2.out
   refine wp_srow e20 e18 (by go_simp) (by go_simp) (cs := devA d { L2 with ag := A5, cg := c5 }) (by rw [rowOf_setRow _ _ _ _ (by rw [hr5]; simp [devA]), if_pos rfl]) (by go_simp) (by rw [frOf_setRow]; exact hf5) (by go_simp) ⟨undef, rfl, A5, c5, ds, w4, A6, c6, w5, hrow, heach, hbel, hfr, hbel2, ?_⟩
   rw [devA_splice_job, setRow_setRow]
  exact trivial
 intro cv w6 hJ
 obtain ⟨A7, c7, ds, w4, A8, c8, w5, hrow, heach, hbel, hfr, hbel2, rfl⟩ := hJ
 simp only [mixAll, putAll_some, putAll_none, putAll_nil, List.getElem?_cons_zero, List.getElem?_cons_succ, Nat.zero_add, Nat.reduceAdd, List.setIfInBounds_toArray, List.set_cons_zero, List.set_cons_succ]
 have hbl := hbel.trans (hbel2.mono hbel.size)
 have hr5 : rowOf w5 g = devA d L2 := (rowOf_below HG2.out hbl).trans HR2.out
 have hf5 : frOf w5 g = (0, 0) := (frOf_below HG2.out hbl).trans HF2.out
 have hrz5 : rowOf w5 (g + 1) = devA Dev.zero DLoc.zero := (rowOf_below HGz.out hbl).trans HRz2.out
 have hfz5 : frOf w5 (g + 1) = (0, 0) := (frOf_below HGz.out hbl).trans HFz2.out
 have HGR := hD (hrow.fresh heach)
 have HFR := hD hfr
 have HB4 := hD hbel
 have HB5 := hD hbel2
 have HC7 := hD hrow.row.le
 clear hrow heach hfr hbel hbel2 hbl
 go_wp2_with fail
 refine bodyPost_ret (results_c rfl rfl (cs := devA d { L2 with ag := A7, cg := c7, aj := A8, cj := c8 }) (by go_simp) (by go_simp) (by go_simp)) rfl ?_
 have hsz := HSZ.out
 have hge := HGE.out
 have s4 := HB4.out.size
 have s5 := HB5.out.size
 have hbk := HBK.out.2.2
 refine ⟨_, rfl, DvOwn.fresh (DvOwn.mono (base := w0.heap.size) (dcEnd (.inr trivial) HL.out HI2.out HBD.out HO0.out HO1.out HBK.out HGR.out HFR.out HB4.out HB5.out HC7.out HE.out.2.2.2.2 ?_) (by omega)), ?_⟩
 ·intro k hk
  repeat (first | rfl | refine (setRow_other _ _ _ _ (by omega)).trans ?_)
 ·rw [hge]
  repeat (first | exact HB3.out.trans ((HB4.out.trans (HB5.out.mono s4)).mono (by omega)) | refine bR ?_ _)
def wcJ (w0 : World) (g : Nat) (x : Wor) : Nat → (Nat → Value) → World → Prop
 | 0, _, w => w = w0.drew
 | 1, cv, w1 => ∃ A5 c5 ds, cv 2 = .slice A5 x.rel.length c5 ∧ GRow kImg w1 w0.heap.size x.rel ds A5 c5 ∧ Each kImg x.rel ds (fun k => w0.heap.size ≤ k) ∧ Below w0.heap.size w0 w1
 | 2, cv, w2 => ∃ A5 c5 ds w1 L6, cv 2 = .slice A5 x.rel.length c5 ∧ cv 5 = .agg (devA x.d L6) ∧ GRow kImg w1 w0.heap.size x.rel ds A5 c5 ∧ Each kImg x.rel ds (fun k => w0.heap.size ≤ k) ∧ Below w0.heap.size w0 w1 ∧ Fresh w1.heap.size w2 (fun v => DvOwn v w1.heap.size x.d L6) ∧ Below w1.heap.size w1 w2
 | 3, cv, w => ∃ A5 c5 ds w1 L6 w2 A7 c7 ds7, cv 2 = .slice A5 x.rel.length c5 ∧ cv 5 = .agg (devA x.d L6) ∧ cv 8 = .slice A7 x.net.length c7 ∧ GRow kImg w1 w0.heap.size x.rel ds A5 c5 ∧ Each kImg x.rel ds (fun k => w0.heap.size ≤ k) ∧ Below w0.heap.size w0 w1 ∧ Fresh w1.heap.size w2 (fun v => DvOwn v w1.heap.size x.d L6) ∧ Below w1.heap.size w1 w2 ∧ GRow kChk w w2.heap.size x.net ds7 A7 c7 ∧ Each kChk x.net ds7 (fun k => w2.heap.size ≤ k) ∧ Below w2.heap.size w2 w
 | 4, cv, w => ∃ A5 c5 ds w1 L6 w2 A7 c7 ds7, cv 9 = .agg (worA ⟨x.rel, x.d, x.net⟩ ⟨A5, c5, L6, A7, c7⟩) ∧ GRow kImg w1 w0.heap.size x.rel ds A5 c5 ∧ Each kImg x.rel ds (fun k => w0.heap.size ≤ k) ∧ Below w0.heap.size w0 w1 ∧ Fresh w1.heap.size w2 (fun v => DvOwn v w1.heap.size x.d L6) ∧ Below w1.heap.size w1 w2 ∧ GRow kChk w w2.heap.size x.net ds7 A7 c7 ∧ Each kChk x.net ds7 (fun k => w2.heap.size ≤ k) ∧ Below w2.heap.size w2 w
 | _, _, w => ∃ A5 c5 ds w1 L6 w2 A7 c7 ds7 w3, GRow kImg w1 w0.heap.size x.rel ds A5 c5 ∧ Each kImg x.rel ds (fun k => w0.heap.size ≤ k) ∧ Below w0.heap.size w0 w1 ∧ Fresh w1.heap.size w2 (fun v => DvOwn v w1.heap.size x.d L6) ∧ Below w1.heap.size w1 w2 ∧ GRow kChk w3 w2.heap.size x.net ds7 A7 c7 ∧ Each kChk x.net ds7 (fun k => w2.heap.size ≤ k) ∧ Below w2.heap.size w2 w3 ∧ w = w3.setRow (g + 1) (worA ⟨x.rel, x.d, x.net⟩ ⟨A5, c5, L6, A7, c7⟩)
theorem wcJ_row {L : WLoc} (hk : k ≤ 4) (hr : rowOf w0 g = worA x L) (hf : frOf w0 g = (0, 0)) (hJ : wcJ w0 g x k cv w) : rowOf w g = worA x L ∧ frOf w g = (0, 0) := by
 have hg : g < w0.heap.size := row_lt (w := w0) (by rw [hr]; simp [worA])
 have key : Below w0.heap.size w0 w → rowOf w g = worA x L ∧ frOf w g = (0, 0) := fun hb => ⟨(rowOf_below hg hb).trans hr, (frOf_below hg hb).trans hf⟩
 rcases (show k = 0 ∨ k = 1 ∨ k = 2 ∨ k = 3 ∨ k = 4 by omega) with rfl | rfl | rfl | rfl | rfl
 ·have hJ' : w = w0.drew := hJ
  subst hJ'
  exact key (Below.refl _ _).drew
 ·obtain ⟨A5, c5, ds, y1, g1, g2, h⟩ := hJ
  exact key h
 ·obtain ⟨A5, c5, ds, w1, L6, y1, y2, g1, g2, h, g3, h2⟩ := hJ
  exact key (h.trans (h2.mono h.size))
 ·obtain ⟨A5, c5, ds, w1, L6, w2, A7, c7, ds7, y1, y2, y3, g1, g2, h, g3, h2, g4, g5, h3⟩ := hJ
  exact key (h.trans ((h2.trans (h3.mono h2.size)).mono h.size))
 ·obtain ⟨A5, c5, ds, w1, L6, w2, A7, c7, ds7, y1, g1, g2, h, g3, h2, g4, g5, h3⟩ := hJ
  exact key (h.trans ((h2.trans (h3.mono h2.size)).mono h.size))
theorem worCopy_calls (x : Wor) (L : WLoc) (w : World) (h : WorIn w x L) : Calls Tryz.prog 52 #[.agg (worA x L)] w (WcRet w x) := by
 have HI := hD h
 have HBD : Hid ((∀ y ∈ x.net, ChkB y) ∧ ∀ y ∈ x.rel, y.length ≤ 1048576) := hD ⟨h.net.bound, h.rel.bound⟩
 clear h
 go_enter Tryz.func52, Tryz.ntmps52
 go_wp2_with fail
 have q1 : rowOf ((w.alloc (.cells (worA x L) 40)).alloc (.cells (worA Wor.zero WLoc.zero) 40)) w.heap.size = worA x L := by go_simp
 have q2 : frOf ((w.alloc (.cells (worA x L) 40)).alloc (.cells (worA Wor.zero WLoc.zero) 40)) w.heap.size = (0, 0) := by go_simp
 have q3 : rowOf ((w.alloc (.cells (worA x L) 40)).alloc (.cells (worA Wor.zero WLoc.zero) 40)) (w.heap.size + 1) = worA Wor.zero WLoc.zero := by go_simp
 have q4 : frOf ((w.alloc (.cells (worA x L) 40)).alloc (.cells (worA Wor.zero WLoc.zero) 40)) (w.heap.size + 1) = (0, 0) := by go_simp
 obtain ⟨w0, hw0⟩ : ∃ w0, (w.alloc (.cells (worA x L) 40)).alloc (.cells (worA Wor.zero WLoc.zero) 40) = w0 := ⟨_, rfl⟩
 have HB0 : Hid (Below w.heap.size w w0) := hD (by rw [← hw0]; exact ((Below.refl _ _).alloc (Nat.le_refl _) _).alloc (by simp) _)
 have HSZ : Hid (w0.heap.size = w.heap.size + 2) := hD (by rw [← hw0]; simp)
 obtain ⟨g, hg⟩ : ∃ g, w.heap.size = g := ⟨_, rfl⟩
 rw [hw0, hg] at q1 q2 q3 q4
 have HR := hD q1
 have HF := hD q2
 have HRz := hD q3
 have HFz := hD q4
 rw [hg] at HSZ
 have HGz : Hid (g + 1 < w0.heap.size) := hD (by rw [HSZ.out]; omega)
 rw [hw0]
 rw [hg] at HB0 ⊢
 have HGE := hD hg
 clear hw0 hg q1 q2 q3 q4
 have HIN : Hid (WorIn w0 x L) := hD (HI.out.stays (HGE.out ▸ HB0.out))
 have KA : Hid (∀ wq, Below w0.heap.size w0 wq → Calls Tryz.prog 51 #[.slice L.ar x.rel.length L.cr] wq (KrRet kImg wq x.rel)) := hD (fun wq h => images_calls _ _ _ wq HI.out.lr (HIN.out.rel.stays h))
 have KB : Hid (∀ wq, Below w0.heap.size w0 wq → Calls Tryz.prog 41 #[.agg (devA x.d L.l)] wq (DcRet wq x.d)) := hD (fun wq h => devCopy_calls _ _ wq (HIN.out.dev.stays h))
 have KN : Hid (∀ wq, Below w0.heap.size w0 wq → Calls Tryz.prog 69 #[.slice L.an x.net.length L.cn] wq (KrRet kChk wq x.net)) := hD (fun wq h => chkCopy_calls _ _ _ wq HI.out.ln (HIN.out.net.stays h))
 refine wp_region_mix (by kernel_rfl) (some 3 :: some 4 :: some 5 :: some 6 :: some 7 :: some 8 :: some 9 :: some 10 :: some 11 :: some 12 :: none :: []) (none :: none :: some 0 :: none :: none :: some 1 :: none :: none :: some 2 :: some 3 :: some 4 :: []) (.pointer (some ⟨g, 0, none⟩) :: .slice L.ar x.rel.length L.cr :: undef :: .pointer (some ⟨g, 1, none⟩) :: .agg (devA x.d L.l) :: undef :: .pointer (some ⟨g, 38, none⟩) :: .slice L.an x.net.length L.cn :: undef :: undef :: undef :: []) 5 (wcJ w0 g x) 13 rfl rfl (by decide +kernel) (by decide +kernel) (by decide +kernel) (by decide +kernel) rfl rfl (by decide +kernel) (by decide +kernel) (rfl) ?_ ?_
 ·refine ⟨?_, ?_⟩
  ·intro done cv k0 a wq hw h hJ hn
   have e1 := mO 1 (.pointer (some ⟨g, 0, none⟩)) h
   go_simp
  refine ⟨?_, ?_⟩
  ·intro done cv k0 a wq hw h hJ hn
   have e3 := mN 0 3 h hw
   obtain ⟨r_, f_⟩ := wcJ_row (by have hk := hn 10 _ 4 rfl rfl (by decide); omega) HR.out HF.out hJ
   have c_ := cell_row (w := wq) (g := g) (by rw [r_]; simp [worA])
   go_simp
  refine ⟨?_, ?_⟩
  ·intro done cv a wq hw h hJ
   have e4 := mN 1 4 h hw
   obtain rfl : wq = w0.drew := hJ
   refine wp_call (vals := #[.slice L.ar x.rel.length L.cr]) (by rw [List.map_toArray, List.map_cons, List.map_nil, ch_ev e4]) (enters_of Tryz.func51 (by kernel_rfl) rfl _ _) (KA.out _ ((Below.refl _ _).drew)) ?_
   rintro e w' ⟨A5, c5, ds, rfl, hrow, heach, hbel⟩
   exact ⟨_, rfl, _, rfl, A5, c5, ds, by simp, hrow, heach, (Below.refl _ _).drew.trans hbel⟩
  refine ⟨?_, ?_⟩
  ·intro done cv k0 a wq hw h hJ hn
   have e1 := mO 1 (.pointer (some ⟨g, 0, none⟩)) h
   go_simp
  refine ⟨?_, ?_⟩
  ·intro done cv k0 a wq hw h hJ hn
   have e6 := mN 3 6 h hw
   obtain ⟨r_, f_⟩ := wcJ_row (by have hk := hn 10 _ 4 rfl rfl (by decide); omega) HR.out HF.out hJ
   have c_ := cell_row (w := wq) (g := g) (by rw [r_]; simp [worA])
   go_simp
  refine ⟨?_, ?_⟩
  ·intro done cv a wq hw h hJ
   have e7 := mN 4 7 h hw
   obtain ⟨A5, c5, ds, y1, hrow, heach, hbel⟩ := hJ
   refine wp_call (vals := #[.agg (devA x.d L.l)]) (by rw [List.map_toArray, List.map_cons, List.map_nil, ch_ev e7]) (enters_of Tryz.func41 (by kernel_rfl) rfl _ _) (KB.out _ hbel) ?_
   rintro e w' ⟨L6, rfl, hfr, hbel2⟩
   exact ⟨_, rfl, _, rfl, A5, c5, ds, wq, L6, by simpa using y1, by simp, hrow, heach, hbel, hfr, hbel2⟩
  refine ⟨?_, ?_⟩
  ·intro done cv k0 a wq hw h hJ hn
   have e1 := mO 1 (.pointer (some ⟨g, 0, none⟩)) h
   go_simp
  refine ⟨?_, ?_⟩
  ·intro done cv k0 a wq hw h hJ hn
   have e9 := mN 6 9 h hw
   obtain ⟨r_, f_⟩ := wcJ_row (by have hk := hn 10 _ 4 rfl rfl (by decide); omega) HR.out HF.out hJ
   have c_ := cell_row (w := wq) (g := g) (by rw [r_]; simp [worA])
   go_simp
  refine ⟨?_, ?_⟩
  ·intro done cv a wq hw h hJ
   have e10 := mN 7 10 h hw
   obtain ⟨A5, c5, ds, w1, L6, y1, y2, hrow, heach, hbel, hfr, hbel2⟩ := hJ
   refine wp_call (vals := #[.slice L.an x.net.length L.cn]) (by rw [List.map_toArray, List.map_cons, List.map_nil, ch_ev e10]) (enters_of Tryz.func69 (by kernel_rfl) rfl _ _) (KN.out _ (hbel.trans (hbel2.mono hbel.size))) ?_
   rintro e w' ⟨A7, c7, ds7, rfl, hrow7, heach7, hbel7⟩
   exact ⟨_, rfl, _, rfl, A5, c5, ds, w1, L6, wq, A7, c7, ds7, by simpa using y1, by simpa using y2, by simp, hrow, heach, hbel, hfr, hbel2, hrow7, heach7, hbel7⟩
  refine ⟨?_, ?_⟩
  ·intro done cv a wq hw h hJ
   have e5 := mx_cv (i := 2) (t := 5) h (hw 2 (by decide)) rfl rfl; have e8 := mx_cv (i := 5) (t := 8) h (hw 5 (by decide)) rfl rfl; have e11 := mx_cv (i := 8) (t := 11) h (hw 8 (by decide)) rfl rfl
   obtain ⟨A5, c5, ds, w1, L6, w2, A7, c7, ds7, y1, y2, y3, hrow, heach, hbel, hfr, hbel2, hrow7, heach7, hbel7⟩ := hJ
   rw [y1] at e5
   rw [y2] at e8
   rw [y3] at e11
   refine wp_val (v := .agg (worA ⟨x.rel, x.d, x.net⟩ ⟨A5, c5, L6, A7, c7⟩)) (by go_simp) ⟨_, rfl, A5, c5, ds, w1, L6, w2, A7, c7, ds7, by simp, hrow, heach, hbel, hfr, hbel2, hrow7, heach7, hbel7⟩
  refine ⟨?_, ?_⟩
  ·intro done cv a wq hw h hJ
   have e2 := mO 2 (.pointer (some ⟨g + 1, 0, none⟩)) h; have e12 := mx_cv (i := 9) (t := 12) h (hw 9 (by decide)) rfl rfl
   obtain ⟨A5, c5, ds, w1, L6, w2, A7, c7, ds7, y1, hrow, heach, hbel, hfr, hbel2, hrow7, heach7, hbel7⟩ := hJ
   rw [y1] at e12
   have hbl := hbel.trans ((hbel2.trans (hbel7.mono hbel2.size)).mono hbel.size)
   refine wp_srow e2 e12 (by go_simp) (by go_simp) (cs := worA Wor.zero WLoc.zero) ((rowOf_below HGz.out hbl).trans HRz.out) (by go_simp) ((frOf_below HGz.out hbl).trans HFz.out) (by go_simp) ⟨undef, rfl, A5, c5, ds, w1, L6, w2, A7, c7, ds7, wq, hrow, heach, hbel, hfr, hbel2, hrow7, heach7, hbel7, ?_⟩
   rw [splice_all _ _ (by simp [worA])]
  exact trivial
 intro cv w4 hJ
 obtain ⟨A5, c5, ds, w1, L6, w2, A7, c7, ds7, w3, hrow, heach, hbel, hfr, hbel2, hrow7, heach7, hbel7, rfl⟩ := hJ
 simp only [mixAll, putAll_some, putAll_none, putAll_nil, List.getElem?_cons_zero, List.getElem?_cons_succ, Nat.zero_add, Nat.reduceAdd, List.setIfInBounds_toArray, List.set_cons_zero, List.set_cons_succ]
 have hbl := hbel.trans ((hbel2.trans (hbel7.mono hbel2.size)).mono hbel.size)
 have r3 : 0 < (rowOf w3 (g + 1)).size := by rw [rowOf_below HGz.out hbl, HRz.out]; simp [worA]
 have hs0 := HSZ.out
 have hs1 := hbel.size
 have hs2 := hbel2.size
 have hs3 := hbel7.size
 have HW : Hid (WorAt w3 w0.heap.size w2.heap.size w3.heap.size ds7 x ⟨A5, c5, L6, A7, c7⟩) := hD ⟨by omega, hs3, Nat.le_refl _, by
   have h1 : FrIn w0.heap.size w1.heap.size w1 (fun v => Ims v A5 x.rel) := ((hrow.fresh heach).imp fun v hv => hv.src.ims HBD.out.2).frIn
   exact (h1.of (v := w3) (fun k a b => ((hbel7.block k (by omega)).trans (hbel2.block k b)))).wider (Nat.le_refl _) hs2, by
   have h2 : FrIn w1.heap.size w2.heap.size w2 (fun v => DevIn v x.d L6) := (hfr.imp fun v hv => hv.devIn).frIn
   exact (h2.wider hs1 (Nat.le_refl _)).of (fun k a b => hbel7.block k b), hrow7, (fun i o d e1 e2 hx k hk => ⟨heach7 i o d e1 e2 hx k hk, hrow7.src.each i o d e1 e2 hx k hk⟩), (fun k e => (hrow7.row.block k e).2), HBD.out.1, hrow.row.le, HI.out.lr, HI.out.ln⟩
 have HB4 : Hid (Below g w (w3.setRow (g + 1) (worA ⟨x.rel, x.d, x.net⟩ ⟨A5, c5, L6, A7, c7⟩))) := hD (below_row (HB0.out.trans (hbl.mono (by omega))) (by omega) _)
 clear hrow heach hbel hfr hbel2 hrow7 heach7 hbel7 KA KB KN
 have r4 : rowOf (w3.setRow (g + 1) (worA ⟨x.rel, x.d, x.net⟩ ⟨A5, c5, L6, A7, c7⟩)) (g + 1) = worA ⟨x.rel, x.d, x.net⟩ ⟨A5, c5, L6, A7, c7⟩ := by rw [rowOf_setRow _ _ _ _ r3, if_pos rfl]
 go_wp2_with fail
 refine bodyPost_ret (results_c rfl rfl (cs := worA ⟨x.rel, x.d, x.net⟩ ⟨A5, c5, L6, A7, c7⟩) r4 (by go_simp) (by go_simp)) rfl ⟨⟨A5, c5, L6, A7, c7⟩, w2.heap.size, ds7, rfl, ?_, ?_⟩
 ·rw [HGE.out, ← hs0]
  have h9 := HW.out.same (v := w3.setRow (g + 1) (worA ⟨x.rel, x.d, x.net⟩ ⟨A5, c5, L6, A7, c7⟩)) (fun k a b => setRow_other _ _ _ _ (by omega)) (by simp [World.setRow])
  have e9 : (w3.setRow (g + 1) (worA ⟨x.rel, x.d, x.net⟩ ⟨A5, c5, L6, A7, c7⟩)).heap.size = w3.heap.size := by simp [World.setRow]
  rw [e9]
  exact h9
 ·rw [HGE.out]; exact HB4.out
def rHap : CR (Int × Int) := fun w cs x => cs = [iv x.1, iv x.2] ∧ I64 x.1 ∧ I64 x.2
abbrev Hps (w : World) (A : Option Addr) (l : List (Int × Int)) := Elems 2 rHap w A l
def WrRet (w : World) (x : Wor) (said : List Int) (n : Int) : Ending → World → Prop := fun en w' =>
 ∃ L A c b, en = .returned (.tuple #[.agg (worA x L), .slice A said.length c, iv n]) ∧ Own w' b 41 1 A said.length c (said.map iv) ∧ w.heap.size ≤ b ∧ (∀ v : World, (∀ q, b ≤ q → A.map (·.block) ≠ some q → q < w'.heap.size → v.heap[q]? = w'.heap[q]?) → WorIn v x L) ∧ Below w.heap.size w w'
theorem said_len : ∀ (l : List (Int × Int)) (x : Wor), (worSaid l x).length = l.length
 | [], x => rfl
 | y :: l, x => by simp [worSaid, said_len l]
theorem worRun_bad (h : worCheck x ≠ 0) : worRun x l = (Wor.zero, [], worCheck x) := by unfold worRun; rw [if_pos h]
theorem worRun_many (h : worCheck x = 0) (g : 200 < l.length) : worRun x l = (Wor.zero, [], 1) := by unfold worRun; rw [if_neg (by omega), if_pos g]
theorem worRun_ok (h : worCheck x = 0) (g : ¬ 200 < l.length) : worRun x l = (worGo l x, worSaid l x, 0) := by unfold worRun; rw [if_neg (by omega), if_neg g]
theorem worRun_gen (x0 : Wor) (L0 : WLoc) (B : Option Addr) (cl : Nat) (l : List (Int × Int)) (w : World) (h : WorIn w x0 L0) (hl : l.length ≤ 1048576) (hcl : l.length ≤ cl) (hh : Hps w B l) (KHP : ∀ y ∈ l, HapOk y.1 y.2) : Calls Tryz.prog 21 #[.agg (worA x0 L0), .slice B l.length cl] w (WrRet w (worRun x0 l).1 (worRun x0 l).2.1 (worRun x0 l).2.2) := by
 have hba : Below w.heap.size w ((w.alloc (.cells (worA x0 L0) 40)).alloc (.cells (worA Wor.zero WLoc.zero) 40)) := bA (bA (Below.refl _ _) _) _
 have HBA := hD hba
 have HIN := hD h
 have HH := hD hh
 have HKP := hD KHP
 clear KHP
 have K1 := hD (fun w h => worCheck_calls x0 L0 w h)
 by_cases hc : worCheck x0 ≠ 0
 ·rw [worRun_bad hc]
  have q : (worCheck x0 != 0) = true := by simp [hc]
  generalize worCheck x0 = cc at *
  clear hc hba h hh
  go_enter Tryz.func21, Tryz.ntmps21
  go_wp2_with fail
  refine (K1.out _ (HIN.out.stays HBA.out)).mono ?_
  rintro e w1 ⟨rfl, hb⟩
  obtain ⟨a0r, a0f, a0n, a0c, a0z, a0l⟩ := kp (w.heap.size) (worA x0 L0) hb
  obtain ⟨a1r, a1f, a1n, a1c, a1z, a1l⟩ := kp (w.heap.size + 1) (worA Wor.zero WLoc.zero) hb
  have hs1 : w.heap.size + 2 ≤ w1.heap.size := by have := hb.size; simp at this; omega
  have HB1 := hD (HBA.out.trans (hb.mono (by simp <;> omega)))
  clear hb
  go_wp2_with fail
  refine bodyPost_ret (results_ctt rfl rfl (cs := worA Wor.zero WLoc.zero) (by go_simp) (by go_simp) (by go_simp)) rfl ⟨WLoc.zero, none, 0, w.heap.size, rfl, Own.nil_ _ _ _ _, Nat.le_refl _, fun v _ => WorIn.zero v, ?_⟩
  have hs := HB1.out.size
  repeat (first | exact HB1.out | refine bR ?_ _ | refine bC ?_ _ | refine bA ?_ _)
 have hc := Decidable.not_not.1 hc
 have hok := worCheck_ok.1 hc
 by_cases hm : 200 < l.length
 ·rw [worRun_many hc hm]
  rw [hc] at K1
  have q : (200 : Int) < (l.length : Int) := by omega
  clear hc hba h hh hok
  go_enter Tryz.func21, Tryz.ntmps21
  go_wp2_with fail
  refine (K1.out _ (HIN.out.stays HBA.out)).mono ?_
  rintro e w1 ⟨rfl, hb⟩
  obtain ⟨a0r, a0f, a0n, a0c, a0z, a0l⟩ := kp (w.heap.size) (worA x0 L0) hb
  obtain ⟨a1r, a1f, a1n, a1c, a1z, a1l⟩ := kp (w.heap.size + 1) (worA Wor.zero WLoc.zero) hb
  have hs1 : w.heap.size + 2 ≤ w1.heap.size := by have := hb.size; simp at this; omega
  have HB1 := hD (HBA.out.trans (hb.mono (by simp <;> omega)))
  clear hb
  go_wp2_with fail
  refine bodyPost_ret (results_ctt rfl rfl (cs := worA Wor.zero WLoc.zero) (by go_simp) (by go_simp) (by go_simp)) rfl ⟨WLoc.zero, none, 0, w.heap.size, rfl, Own.nil_ _ _ _ _, Nat.le_refl _, fun v _ => WorIn.zero v, ?_⟩
  have hs := HB1.out.size
  repeat (first | exact HB1.out | refine bR ?_ _ | refine bC ?_ _ | refine bA ?_ _)
 rw [worRun_ok hc hm]
 rw [hc] at K1
 have q200 : ¬ (200 : Int) < (l.length : Int) := by omega
 have HOK := hD hok
 clear hc hba h hh hok
 go_enter Tryz.func21, Tryz.ntmps21
 go_wp2_with fail
 refine (K1.out _ (HIN.out.stays HBA.out)).mono ?_
 rintro e w1 ⟨rfl, hb⟩
 obtain ⟨a0r, a0f, a0n, a0c, a0z, a0l⟩ := kp (w.heap.size) (worA x0 L0) hb
 obtain ⟨a1r, a1f, a1n, a1c, a1z, a1l⟩ := kp (w.heap.size + 1) (worA Wor.zero WLoc.zero) hb
 have hs1 : w.heap.size + 2 ≤ w1.heap.size := by have := hb.size; simp at this; omega
 have HB1 := hD (HBA.out.trans (hb.mono (by simp <;> omega)))
 clear hb
 go_wp2_with fail
 refine (worCopy_calls x0 L0 _ (HIN.out.stays HB1.out)).mono ?_
 rintro e w2 ⟨L2, m, ds, rfl, hwa, hb⟩
 obtain ⟨a0r, a0f, a0n, a0c, a0z, a0l⟩ := kp (w.heap.size) (worA x0 L0) hb
 obtain ⟨a1r, a1f, a1n, a1c, a1z, a1l⟩ := kp (w.heap.size + 1) (worA Wor.zero WLoc.zero) hb
 have hs2 : w1.heap.size ≤ w2.heap.size := hb.size
 have HB2 : Hid (Below w.heap.size w w2) := hD (HB1.out.trans (hb.mono (by omega)))
 have hp2 : 0 < (rowOf w2 w.heap.size).size := by rw [a0r]; simp [worA]
 have HW2 : Hid (∀ v : World, (∀ q, w.heap.size + 2 ≤ q → q < w2.heap.size → v.heap[q]? = w2.heap[q]?) → WorIn v x0 L2) := hD (fun v hv => hwa.wex (fun k a b => hv k (by omega) b))
 have HRW : Hid (rowOf (w2.setRow w.heap.size (worA x0 L2)) w.heap.size = worA x0 L2 ∧ frOf (w2.setRow w.heap.size (worA x0 L2)) w.heap.size = (0, 0) ∧ rowOf (w2.setRow w.heap.size (worA x0 L2)) (w.heap.size + 1) = worA Wor.zero WLoc.zero ∧ frOf (w2.setRow w.heap.size (worA x0 L2)) (w.heap.size + 1) = (0, 0)) := hD
  ⟨by rw [rowOf_setRow _ _ _ _ hp2, if_pos rfl], by rw [frOf_setRow]; exact a0f, by rw [rowOf_setRow _ _ _ _ hp2, if_neg (by omega)]; exact a1r, by rw [frOf_setRow]; exact a1f⟩
 clear hb hwa
 go_wp2_with fail
 clear a0r a0f a0n a0c a0z a0l a1r a1f a1n a1c a1z a1l hp2
 obtain ⟨g, hg⟩ : ∃ g, w.heap.size = g := ⟨_, rfl⟩
 have HG := hD hg
 rw [hg] at HRW HW2 hs1 ⊢
 clear hg
 go_loopw [8, 27] (fun s i wr => ∃ (k : Nat) (x : Wor) (L : WLoc) (A : Option Addr) (c : Nat), k ≤ l.length ∧ i = .int .i64 k ∧ s = .slice A k c ∧ Hid (x = worGo (l.take k) x0 ∧ WorOk x) ∧ Hid (rowOf wr g = worA x L ∧ frOf wr g = (0, 0) ∧ rowOf wr (g + 1) = worA Wor.zero WLoc.zero ∧ frOf wr (g + 1) = (0, 0)) ∧
  Hid (∀ v : World, (∀ q, g + 2 ≤ q → A.map (·.block) ≠ some q → q < wr.heap.size → v.heap[q]? = wr.heap[q]?) → WorIn v x L) ∧ Hid (Own wr (g + 2) 41 1 A k c ((worSaid (l.take k) x0).map iv)) ∧ Hid (Below g w wr ∧ g + 2 ≤ wr.heap.size)) (fun _ i _ => l.length - (intOf i).toNat)
 case atStart =>
  refine ⟨0, x0, L2, none, 0, Nat.zero_le _, rfl, rfl, hD ⟨rfl, HOK.out⟩, HRW, hD (fun v hv => HW2.out v (fun q h1 h2 => (hv q h1 (by simp) (by simpa [World.setRow] using h2)).trans (setRow_other _ _ _ _ (by omega)))), hD (by simpa [worSaid] using Own.nil_ _ _ _ _), hD ⟨?_, by simp [World.setRow]; omega⟩⟩
  exact below_row (HG.out ▸ HB2.out) (Nat.le_refl _) _
 case round =>
  rename World => wr
  obtain ⟨k, x, L, A, c, hk, rfl, rfl, HX, HR, HI, HO, HB⟩ := hrel
  clear HRW HW2
  have hsz := HB.out.2
  by_cases hlt : k < l.length
  ·obtain ⟨b, o, rfl, hbl, cs, hcs, hcc, rfl, hi1, hi2⟩ := HH.out k hlt
   obtain ⟨⟨kd, n⟩, hy⟩ : ∃ y, l[k] = y := ⟨_, rfl⟩
   rw [hy] at hcc hi1 hi2
   have hb0 : b < wr.heap.size := Nat.lt_of_lt_of_le hbl (by rw [HG.out]; omega)
   have hwb : ∀ j, wr.cell? ⟨b, j, none⟩ = w.cell? ⟨b, j, none⟩ := fun j => HB.out.1.cell (p := ⟨b, j, none⟩) (by rw [← HG.out]; exact hbl)
   have p0 : wr.cell? ⟨b, o + k * 2, none⟩ = some (iv kd) := by rw [hwb]; have := hcc 0 (by simp); simpa using this
   have p1 : wr.cell? ⟨b, o + k * 2 + 1, none⟩ = some (iv n) := by rw [hwb]; have := hcc 1 (by simp); simpa using this
   have HY := hD hy
   have HI2 : Hid (I64 n) := hD hi2
   obtain ⟨a0r, a0f, a0n, a0c, a0z, a0l⟩ := keep1 (Below.refl wr.heap.size wr) HR.out.1 (by go_simp) HR.out.2.1
   obtain ⟨a1r, a1f, a1n, a1c, a1z, a1l⟩ := keep1 (Below.refl wr.heap.size wr) HR.out.2.2.1 (by go_simp) HR.out.2.2.2
   have hwk : IntKind.i64.wrap ((k : Int) + 1) = (k : Int) + 1 := IntWalk.i64_in _ (by omega)
   have dl : decide ((k : Int) < (l.length : Int)) = true := decide_eq_true (by omega)
   have hcap : (l.length : Int) ≤ (cl : Int) := by omega
   clear hcc hi1 hi2 hcs hy hwb hbl
   go_wp2_with fail
   have hx1 : WorIn (wr.alloc (.cells #[iv kd, iv n] 54)) x L := HI.out _ (fun q _ _ h2 => Below.heap_alloc wr _ q h2)
   refine (worCopy_calls x L _ hx1).mono ?_
   rintro e w2 ⟨L3, m3, ds3, rfl, hwa, hb⟩
   obtain ⟨a0r, a0f, a0n, a0c, a0z, a0l⟩ := kp g (worA x L) hb
   obtain ⟨a1r, a1f, a1n, a1c, a1z, a1l⟩ := kp (g + 1) (worA Wor.zero WLoc.zero) hb
   obtain ⟨a2r, a2f, a2n, a2c, a2z, a2l⟩ := kp (wr.heap.size) (#[iv kd, iv n]) hb
   have hs3 : wr.heap.size + 1 ≤ w2.heap.size := by have := hb.size; simpa using this
   have hkb : ∀ q, q < wr.heap.size → w2.heap[q]? = wr.heap[q]? := fun q h => (hb.block q (by simp; omega)).trans (Below.heap_alloc wr _ q h)
   have HB2' : Hid (Below g w w2) := hD ((HB.out.1.alloc (by omega) _).trans (hb.mono (by simp; omega)))
   have HWA : Hid (WorAt w2 (wr.heap.size + 1 + 2) m3 w2.heap.size ds3 x L3) := hD (by simpa using hwa)
   have hw3 : wr.heap.size + 1 + 2 ≤ w2.heap.size := by have := HWA.out.h1; have := HWA.out.h2; have := HWA.out.h3; omega
   clear hb hwa hx1
   go_wp2_with fail
   obtain ⟨w3, hw3e⟩ : ∃ w3, w2.alloc (.cells (worA x L3) 40) = w3 := ⟨_, rfl⟩
   have z1 : rowOf w3 w2.heap.size = worA x L3 := by rw [← hw3e, rowOf_alloc, if_pos rfl]
   have z2 : frOf w3 w2.heap.size = (0, 0) := by rw [← hw3e, frOf_alloc, if_pos rfl]
   have hs4 : w3.heap.size = w2.heap.size + 1 := by rw [← hw3e]; simp
   have hk3 : ∀ q, q < w2.heap.size → w3.heap[q]? = w2.heap[q]? := fun q h => by rw [← hw3e]; exact Below.heap_alloc w2 _ q h
   have HW3 : Hid (WorAt w3 (wr.heap.size + 1 + 2) m3 w2.heap.size ds3 x L3) := hD (HWA.out.same (fun q a b => hk3 q b) (by omega))
   have HB3 : Hid (Below g w w3) := hD (by rw [← hw3e]; exact HB2'.out.alloc (by omega) _)
   try rw [hw3e]
   obtain ⟨⟨x', e'⟩, hres⟩ : ∃ res, worHappen x kd n = res := ⟨_, rfl⟩
   have KH := hD (HKP.out (kd, n) (by rw [← HY.out]; exact List.getElem_mem hlt) w2.heap.size (wr.heap.size + 1 + 2) m3 w2.heap.size ds3 x L3 w3 z1 z2 (.inr (Nat.le_refl _)) HW3.out HX.out.2 HI2.out)
   rw [hres] at KH
   have HRES := hD hres
   have y0 := rowOf_heap (hk3 g (by omega))
   have y1 := rowOf_heap (hk3 (g + 1) (by omega))
   have y2 := y0.1.trans a0r
   have y3 := y0.2.trans a0f
   have y4 := y1.1.trans a1r
   have y5 := y1.2.trans a1f
   clear hw3e hres z1 z2 y0 y1 a0r a0f a0n a0c a0z a0l a1r a1f a1n a1c a1z a1l a2r a2f a2n a2c a2z a2l
   refine KH.out.mono ?_
   rintro e w4 ⟨rfl, hz, hx, hs5⟩
   have HZ := hD hz
   have HX4 := hD hx
   have e0 := rowOf_heap (hx.2 g (by omega) (by omega))
   have e1 := rowOf_heap (hx.2 (g + 1) (by omega) (by omega))
   have r0 := e0.1.trans y2
   have f0 := e0.2.trans y3
   have r1 := e1.1.trans y4
   have f1 := e1.2.trans y5
   have HB4 : Hid (Below g w w4) := hD (HB3.out.trans (hx.to (by omega) (by omega)))
   have hk4 : ∀ q, q < wr.heap.size → w4.heap[q]? = wr.heap[q]? := fun q h => (hx.2 q (by omega) (by omega)).trans ((hk3 q (by omega)).trans (hkb q h))
   have HK4 := hD hk4
   have HO4 : Hid (Own w4 (g + 2) 41 1 A k c ((worSaid (l.take k) x0).map iv)) := hD (HO.out.same (fun q e => hk4 q (HO.out.block q e).2))
   have HAB : Hid (∀ q, A.map (·.block) = some q → g + 2 ≤ q ∧ q < wr.heap.size) := hD (fun q e => HO.out.block q e)
   have HSD : Hid (worSaid (l.take (k + 1)) x0 = worSaid (l.take k) x0 ++ [e'] ∧ worGo (l.take (k + 1)) x0 = worTry x (kd, n)) := hD (by
    have h9 := worGo_append (l.take k) [(kd, n)] x0
    rw [List.take_succ_eq_append_getElem hlt, HY.out, h9.1, h9.2, ← HX.out.1]
    refine ⟨?_, rfl⟩
    congr 1
    show [(worHappen x kd n).2] = [e']
    rw [HRES.out])
   obtain ⟨b0r, b0f, b0n, b0c, b0z, b0l⟩ := keep1 (Below.refl w4.heap.size w4) r0 (by go_simp) f0
   obtain ⟨b1r, b1f, b1n, b1c, b1z, b1l⟩ := keep1 (Below.refl w4.heap.size w4) r1 (by go_simp) f1
   clear hz hx KH e0 e1 r0 f0 r1 f1 y2 y3 y4 y5 hk4 hk3 hkb
   by_cases c2 : e' = 0
   ·subst c2
    obtain ⟨L4, r4, f4, hw4⟩ := HZ.out rfl
    obtain ⟨b2r, b2f, b2n, b2c, b2z, b2l⟩ := keep1 (Below.refl w4.heap.size w4) r4 (by go_simp) f4
    have HW4 := hD hw4
    have q : ((0 : Int) == 0) = true := rfl
    have hp4 : 0 < (rowOf w4 g).size := by rw [b0r]; simp [worA]
    have hg2 : ¬ w2.heap.size = g := by omega
    have hg3 : ¬ g = w2.heap.size := by omega
    have hg4 : ¬ g + 1 = g := by omega
    have hown5 : Own ((w4.setRow g (worA x' L4)).alloc (.cells #[iv 0] 41)) (g + 2) 41 1 A k c ((worSaid (l.take k) x0).map iv) := HO4.out.same (fun q e => (Below.heap_alloc (w4.setRow g (worA x' L4)) _ q (by have := (HO4.out.block q e).2; simpa [World.setRow] using this)).trans (setRow_other _ _ _ _ (by have := (HAB.out q e).1; omega)))
    have hsrc : Src ((w4.setRow g (worA x' L4)).alloc (.cells #[iv 0] 41)) (some ⟨w4.heap.size, 0, none⟩) [iv 0] := src_blk (blk_top (by simp [World.setRow]))
    have hbase5 : g + 2 ≤ ((w4.setRow g (worA x' L4)).alloc (.cells #[iv 0] 41)).heap.size := by simp [World.setRow]; omega
    have hlim : k + 1 ≤ 1073741824 := by omega
    clear hw4 r4 f4
    go_wp2_with (at_builtin; go_must (refine wpList_app ((w4.setRow g (worA x' L4)).alloc (.cells #[iv 0] 41)) rfl _ _ 68 rfl elErrs (g + 2) A k c ((worSaid (l.take k) x0).map iv) rfl hown5 (some ⟨w4.heap.size, 0, none⟩) 1 1 [iv 0] rfl hsrc rfl (by simp [Value.oneCell']) hlim hbase5 ?_; intro A' c' w6 hown6 hg6 hb6 hor6))
    have hk6 : ∀ q, q < w4.heap.size → A.map (·.block) ≠ some q → q ≠ g → w6.heap[q]? = w4.heap[q]? := fun q h1 h2 h3 => (hg6.block q (by simp [World.setRow]; omega) (fun e => h2 e.symm)).trans ((Below.heap_alloc (w4.setRow g (worA x' L4)) _ q (by simpa [World.setRow] using h1)).trans (setRow_other _ _ _ _ h3))
    have hgA : ∀ q, q < g + 2 → A.map (·.block) ≠ some q := fun q h e => by have := (HAB.out q e).1; omega
    have hs6 := hb6.size
    have hs6' : w4.heap.size + 1 ≤ w6.heap.size := by simpa [World.setRow] using hs6
    have hA6 : ∀ q, A'.map (·.block) = some q → A.map (·.block) = some q ∨ w4.heap.size ≤ q := fun q e => by
     rcases hor6 with h9 | h9
     ·exact .inl (h9 ▸ e)
     ·rw [h9] at e; injection e with e
      simp [World.setRow] at e
      exact .inr (by omega)
    have hrow1 : rowOf w6 (g + 1) = worA Wor.zero WLoc.zero ∧ frOf w6 (g + 1) = (0, 0) := by
     have h9 := rowOf_heap (hk6 (g + 1) (by omega) (hgA _ (by omega)) (by omega))
     exact ⟨h9.1.trans b1r, h9.2.trans b1f⟩
    have hrow0 : rowOf w6 g = worA x' L4 ∧ frOf w6 g = (0, 0) := by
     have h8 : w6.heap[g]? = (w4.setRow g (worA x' L4)).heap[g]? := (hg6.block g (by simp [World.setRow]; omega) (fun e => hgA g (by omega) e.symm)).trans (Below.heap_alloc (w4.setRow g (worA x' L4)) _ g (by simp [World.setRow]; omega))
     have h9 := rowOf_heap h8
     refine ⟨h9.1.trans (by rw [rowOf_setRow _ _ _ _ hp4, if_pos rfl]), h9.2.trans (by rw [frOf_setRow]; exact b0f)⟩
    have hbel6 : Below g w w6 := ((below_row HB4.out (Nat.le_refl _) _).alloc (by simp [World.setRow]; omega) _).trans (hb6.mono (by omega))
    have HNEW : Hid (x' = worGo (l.take (k + 1)) x0 ∧ WorOk x') := hD (by
     have h1 : (worHappen x kd n).2 = 0 := by rw [HRES.out]
     have h2 := happen_keeps HX.out.2 h1
     rw [HRES.out] at h2
     refine ⟨?_, h2.1⟩
     rw [HSD.out.2]
     unfold worTry
     dsimp only
     rw [HRES.out, if_pos rfl])
    have HI6 : Hid (∀ v : World, (∀ q, g + 2 ≤ q → A'.map (·.block) ≠ some q → q < w6.heap.size → v.heap[q]? = w6.heap[q]?) → WorIn v x' L4) := hD (fun v hv => HW4.out v (fun q h1 h2 h3 => (hv q (by omega) (fun e => by
      rcases hA6 q e with h9 | h9
      ·have := (HAB.out q h9).2; omega
      ·omega) (by omega)).trans (hk6 q h3 (fun e => by have := (HAB.out q e).2; omega) (by omega))))
    have HR6 : Hid (rowOf w6 g = worA x' L4 ∧ frOf w6 g = (0, 0) ∧ rowOf w6 (g + 1) = worA Wor.zero WLoc.zero ∧ frOf w6 (g + 1) = (0, 0)) := hD ⟨hrow0.1, hrow0.2, hrow1.1, hrow1.2⟩
    have HO6 : Hid (Own w6 (g + 2) 41 1 A' (k + 1) c' ((worSaid (l.take (k + 1)) x0).map iv)) := hD (by rw [HSD.out.1, List.map_append]; exact hown6)
    have HB6 : Hid (Below g w w6 ∧ g + 2 ≤ w6.heap.size) := hD ⟨hbel6, by omega⟩
    clear hown6 hg6 hb6 hor6 hk6 hA6 hrow1 hrow0 hbel6 hown5 hsrc hs6 b0r b0f b0n b0c b0z b0l b1r b1f b1n b1c b1z b1l
    go_roundw
    case rel => exact ⟨k + 1, x', L4, A', c', by omega, by go_num, by first | rfl | go_num, HNEW, HR6, HI6, HO6, HB6⟩
    case measure => simp [intOf]; omega
   ·have q : (e' == 0) = false := by simp [c2]
    have hown5 : Own (w4.alloc (.cells #[iv e'] 41)) (g + 2) 41 1 A k c ((worSaid (l.take k) x0).map iv) := HO4.out.same (fun q e => Below.heap_alloc w4 _ q (HO4.out.block q e).2)
    have hsrc : Src (w4.alloc (.cells #[iv e'] 41)) (some ⟨w4.heap.size, 0, none⟩) [iv e'] := src_blk (blk_top rfl)
    have hbase5 : g + 2 ≤ (w4.alloc (.cells #[iv e'] 41)).heap.size := by simp; omega
    have hlim : k + 1 ≤ 1073741824 := by omega
    have HC2 := hD c2
    clear c2
    go_wp2_with (at_builtin; go_must (refine wpList_app (w4.alloc (.cells #[iv e'] 41)) rfl _ _ 68 rfl elErrs (g + 2) A k c ((worSaid (l.take k) x0).map iv) rfl hown5 (some ⟨w4.heap.size, 0, none⟩) 1 1 [iv e'] rfl hsrc rfl (by simp [Value.oneCell']) hlim hbase5 ?_; intro A' c' w6 hown6 hg6 hb6 hor6))
    have hk6 : ∀ q, q < w4.heap.size → A.map (·.block) ≠ some q → q ≠ g → w6.heap[q]? = w4.heap[q]? := fun q h1 h2 h3 => (hg6.block q (by simp [World.setRow]; omega) (fun e => h2 e.symm)).trans (Below.heap_alloc w4 _ q h1)
    have hgA : ∀ q, q < g + 2 → A.map (·.block) ≠ some q := fun q h e => by have := (HAB.out q e).1; omega
    have hs6 := hb6.size
    have hs6' : w4.heap.size + 1 ≤ w6.heap.size := by simpa [World.setRow] using hs6
    have hA6 : ∀ q, A'.map (·.block) = some q → A.map (·.block) = some q ∨ w4.heap.size ≤ q := fun q e => by
     rcases hor6 with h9 | h9
     ·exact .inl (h9 ▸ e)
     ·rw [h9] at e; injection e with e
      simp [World.setRow] at e
      exact .inr (by omega)
    have hrow1 : rowOf w6 (g + 1) = worA Wor.zero WLoc.zero ∧ frOf w6 (g + 1) = (0, 0) := by
     have h9 := rowOf_heap (hk6 (g + 1) (by omega) (hgA _ (by omega)) (by omega))
     exact ⟨h9.1.trans b1r, h9.2.trans b1f⟩
    have hrow0 : rowOf w6 g = worA x L ∧ frOf w6 g = (0, 0) := by
     have h9 := rowOf_heap (hg6.block g (by simp; omega) (fun e => hgA g (by omega) e.symm))
     have h8 := rowOf_heap (Below.heap_alloc w4 (.cells #[iv e'] 41) g (by omega))
     exact ⟨(h9.1.trans h8.1).trans b0r, (h9.2.trans h8.2).trans b0f⟩
    have hbel6 : Below g w w6 := (HB4.out.alloc (by omega) _).trans (hb6.mono (by omega))
    have HNEW : Hid (x = worGo (l.take (k + 1)) x0 ∧ WorOk x) := hD (by
     refine ⟨?_, HX.out.2⟩
     rw [HSD.out.2]
     unfold worTry
     dsimp only
     rw [HRES.out, if_neg HC2.out])
    have HI6 : Hid (∀ v : World, (∀ q, g + 2 ≤ q → A'.map (·.block) ≠ some q → q < w6.heap.size → v.heap[q]? = w6.heap[q]?) → WorIn v x L) := hD (fun v hv => HI.out v (fun q h1 h2 h3 => (hv q h1 (fun e => by
      rcases hA6 q e with h9 | h9
      ·exact h2 h9
      ·omega) (by omega)).trans ((hk6 q (by omega) h2 (by omega)).trans (HK4.out q h3))))
    have HR6 : Hid (rowOf w6 g = worA x L ∧ frOf w6 g = (0, 0) ∧ rowOf w6 (g + 1) = worA Wor.zero WLoc.zero ∧ frOf w6 (g + 1) = (0, 0)) := hD ⟨hrow0.1, hrow0.2, hrow1.1, hrow1.2⟩
    have HO6 : Hid (Own w6 (g + 2) 41 1 A' (k + 1) c' ((worSaid (l.take (k + 1)) x0).map iv)) := hD (by rw [HSD.out.1, List.map_append]; exact hown6)
    have HB6 : Hid (Below g w w6 ∧ g + 2 ≤ w6.heap.size) := hD ⟨hbel6, by omega⟩
    clear hown6 hg6 hb6 hor6 hk6 hA6 hrow1 hrow0 hbel6 hown5 hsrc hs6 b0r b0f b0n b0c b0z b0l b1r b1f b1n b1c b1z b1l
    go_roundw
    case rel => exact ⟨k + 1, x, L, A', c', by omega, by go_num, by first | rfl | go_num, HNEW, HR6, HI6, HO6, HB6⟩
    case measure => simp [intOf]; omega
  ·obtain rfl : k = l.length := by omega
   have dl : decide ((l.length : Int) < (l.length : Int)) = false := by simp
   have hxx := HX.out.1
   rw [List.take_length] at hxx
   have hoo := HO.out
   rw [List.take_length] at hoo
   have HXX := hD hxx
   have HOO := hD hoo
   obtain ⟨a0r, a0f, a0n, a0c, a0z, a0l⟩ := keep1 (Below.refl wr.heap.size wr) HR.out.1 (by go_simp) HR.out.2.1
   obtain ⟨a1r, a1f, a1n, a1c, a1z, a1l⟩ := keep1 (Below.refl wr.heap.size wr) HR.out.2.2.1 (by go_simp) HR.out.2.2.2
   clear hxx hoo
   go_wp2_with fail
   refine bodyPost_ret (results_ctt rfl rfl (cs := worA x L) (by go_simp) (by go_simp) (by go_simp)) rfl ?_
   rw [← HXX.out]
   refine ⟨L, A, c, g + 2, by rw [said_len]; rfl, ?_, by rw [HG.out]; omega, ?_, ?_⟩
   ·rw [said_len]; exact HOO.out.same (w' := wr.setRow (g + 1) (worA x L)) (fun q e => setRow_other _ _ _ _ (by have := (HOO.out.block q e).1; omega))
   ·exact fun v hv => HI.out v (fun q h1 h2 h3 => (hv q h1 h2 (by simpa [World.setRow] using h3)).trans (setRow_other _ _ _ _ (by omega)))
   ·rw [HG.out]; exact below_row HB.out.1 (by omega) _
@[go_sem] theorem aggSzHap : aggSz Tryz.prog 54 = 2 := by kernel_rfl
theorem ims_three {g0 g1 g2 g3 : Nat} (h0 : ∃ t f, w.heap[g0]? = some (.cells (im0.map bv).toArray t f)) (h1 : ∃ t f, w.heap[g1]? = some (.cells (im1.map bv).toArray t f)) (h2 : ∃ t f, w.heap[g2]? = some (.cells (im2.map bv).toArray t f))
  (h3 : ∃ t f, w.heap[g3]? = some (.cells #[.slice (some ⟨g0, 0, none⟩) 8 8, .slice (some ⟨g1, 0, none⟩) 9 9, .slice (some ⟨g2, 0, none⟩) 11 11] t f)) : Ims w (some ⟨g3, 0, none⟩) ims := by
 obtain ⟨_, _, h0⟩ := h0
 obtain ⟨_, _, h1⟩ := h1
 obtain ⟨_, _, h2⟩ := h2
 obtain ⟨_, _, h3⟩ := h3
 intro i hi
 have hi3 : i < 3 := hi
 refine ⟨g3, 0, rfl, blk_lt h3, ?_⟩
 have hc := fun j => cell_of_row w g3 j _ _ _ h3
 match i, hi3 with
 | 0, _ => exact ⟨[.slice (some ⟨g0, 0, none⟩) 8 8], rfl, (fun j hj => by
   obtain rfl : j = 0 := by simpa using hj
   simp [hc]), ⟨_, 8, rfl, Nat.le_refl _, Nat.le_of_ble_eq_true rfl, bts_blk h0 rfl⟩⟩
 | 1, _ => exact ⟨[.slice (some ⟨g1, 0, none⟩) 9 9], rfl, (fun j hj => by
   obtain rfl : j = 0 := by simpa using hj
   simp [hc]), ⟨_, 9, rfl, Nat.le_refl _, Nat.le_of_ble_eq_true rfl, bts_blk h1 rfl⟩⟩
 | 2, _ => exact ⟨[.slice (some ⟨g2, 0, none⟩) 11 11], rfl, (fun j hj => by
   obtain rfl : j = 0 := by simpa using hj
   simp [hc]), ⟨_, 11, rfl, Nat.le_refl _, Nat.le_of_ble_eq_true rfl, bts_blk h2 rfl⟩⟩
def IsRet (w : World) : Ending → World → Prop := fun en w' =>
 ∃ A c, en = .returned (.slice A ims.length c) ∧ ims.length ≤ c ∧ Ims w' A ims ∧ Below w.heap.size w w'
theorem lawImages_calls (w : World) : Calls Tryz.prog 20 #[] w (IsRet w) := by
 have kc := convert_const (P := Tryz.prog) 23 5 Tryz.underlying23 Tryz.underlying5
 go_enter Tryz.func20, Tryz.ntmps20
 go_wp2_with fail
 go_ret
 refine ⟨some ⟨w.heap.size + 1 + 1 + 1, 0, none⟩, 3, rfl, Nat.le_refl _, ims_three (g0 := w.heap.size) (g1 := w.heap.size + 1) (g2 := w.heap.size + 1 + 1) ?_ ?_ ?_ ?_, ?_⟩
 ·exact ⟨_, _, blk_old (blk_old (blk_old (blk_top (by simp))))⟩
 ·exact ⟨_, _, blk_old (blk_old (blk_top (by simp)))⟩
 ·exact ⟨_, _, blk_old (blk_top (by simp))⟩
 ·exact ⟨_, _, blk_top (by simp)⟩
 ·exact ((((Below.refl _ _).alloc (by simp) _).alloc (by simp) _).alloc (by simp; omega) _).alloc (by simp; omega) _
theorem big_recN (n : Nat) (h : 0 < n) : bigBuild Tryz.prog 29 n := by
 obtain ⟨i, hi, _⟩ := info_parts (P := Tryz.prog) (e := 29) (z := .agg (recA Rec.zero)) (size := 11) (bytes := 88) (by kernel_rfl)
 exact ⟨i, hi, h⟩
@[go_sem] theorem big_rec2N : bigBuild Tryz.prog 29 2 := big_recN 2 (by decide)
@[go_sem] theorem build_rec2N (g f : Int) (w : World) : runBuild Tryz.prog 29 #[(0, .int .i64 g), (4, .int .i64 f)] w = .ok (.agg (recA ⟨g, 0, false, 0, f, Inf.zero, Inf.zero⟩)) w := by kernel_rfl
@[go_sem] theorem build_devN (a b : Option Addr) (c e : Nat) (x y : List UInt8) (u : Bool) (w : World) : runBuild Tryz.prog 38 #[(2, .bool u), (0, .agg (slotsA a x.length c b y.length e))] w = .ok (.agg (devA ⟨x, y, Cop.zero, Cop.zero, u, 0, [], false, Pat.zero, 0⟩ ⟨a, c, b, e, none, 0, none, 0⟩)) w := by kernel_rfl
theorem devNew_calls (A : Option Addr) (c : Nat) (b : List UInt8) (w : World) (hl : b.length ≤ 1048576) (hB : Bts w A b) : Calls Tryz.prog 50 #[.slice A b.length c] w (DvRet w (devNew b).1 (devNew b).2) := by
 have hba : Below w.heap.size w (w.alloc (.cells (devA Dev.zero DLoc.zero) 38)) := (Below.refl _ _).alloc (Nat.le_refl _) _
 have HBA := hD hba
 have HB := hD hB
 by_cases h64 : 64 < b.length
 ·have hz : devNew b = (Dev.zero, 1) := by unfold devNew; rw [if_pos h64]
  rw [hz]
  have q : (64 : Int) < (b.length : Int) := by omega
  clear hB hba hz
  go_enter Tryz.func50, Tryz.ntmps50
  go_wp2_with fail
  refine bodyPost_ret (results_ct rfl rfl (cs := devA Dev.zero DLoc.zero) (by go_simp) (by go_simp) (by go_simp)) rfl ⟨DLoc.zero, rfl, .const fun v => DevIn.zero v, ?_⟩
  have hs := HBA.out.size
  repeat (first | exact HBA.out | refine bR ?_ _ | refine bC ?_ _ | refine bA ?_ _)
 have hz : devNew b = (newDev b, 0) := by unfold devNew; rw [if_neg h64]
 rw [hz]
 have q : ¬ (64 : Int) < (b.length : Int) := by omega
 have KS := hD (fun w h => sumOf_calls A c b w (by omega) h)
 have hb64 : b.length ≤ 64 := by omega
 have KR := hD (fun w h => room_calls A c b w hb64 h)
 have KN := hD (fun w => room_calls none 0 [] w (by simp) (bts_nil w none))
 have HRL : Hid ((room b).length = 64 ∧ (room []).length = 64) := hD ⟨room_len hb64, room_len (by simp)⟩
 obtain ⟨s, hs⟩ : ∃ s, sumOn 1 b = s := ⟨_, rfl⟩
 rw [hs] at KS
 obtain ⟨rb, hrb⟩ : ∃ rb, room b = rb := ⟨_, rfl⟩
 obtain ⟨rn, hrn⟩ : ∃ rn, room [] = rn := ⟨_, rfl⟩
 rw [hrb] at KR HRL
 rw [hrn] at KN HRL
 have hnd : newDev b = ⟨rb, rn, ⟨true, ⟨1, 0, false, 0, 1, ⟨1, b.length, s⟩, Inf.zero⟩⟩, Cop.zero, true, 0, [], false, Pat.zero, 0⟩ := by unfold newDev; rw [hrb, hrn, hs]
 rw [hnd]
 clear hz hnd hs hrb hrn hb64 hB hba h64
 go_enter Tryz.func50, Tryz.ntmps50
 go_wp2_with fail
 refine (KS.out _ (HB.out.stays ?_)).mono ?_
 ·repeat (first | exact Below.refl _ _ | refine bA ?_ _)
 rintro e w1 ⟨rfl, rfl⟩
 go_wp2_with fail
 refine (KR.out _ (HB.out.stays ?_)).mono ?_
 ·repeat (first | exact Below.refl _ _ | refine bA ?_ _)
 rintro e w2 ⟨A1, c1, rfl, ho1, hb⟩
 obtain ⟨a0r, a0f, a0n, a0c, a0z, a0l⟩ := kp (w.heap.size) (devA Dev.zero DLoc.zero) hb
 obtain ⟨a1r, a1f, a1n, a1c, a1z, a1l⟩ := kp (w.heap.size + 1) (recA ⟨1, 0, false, 0, 1, ⟨1, (b.length : Int), s⟩, Inf.zero⟩) hb
 have hsz2 : w.heap.size + 2 ≤ w2.heap.size := by have := hb.size; simp at this; omega
 have HB2 : Hid (Below w.heap.size w w2) := hD (by
  refine Below.trans ?_ (hb.mono (by first | omega | (simp <;> omega)))
  repeat (first | exact Below.refl _ _ | refine bA ?_ _))
 have HO1 : Hid (Own w2 (w.heap.size + 2) 5 1 A1 rb.length c1 (rb.map bv)) := hD (by simpa using ho1)
 clear hb ho1
 go_wp2_with fail
 refine (KN.out _).mono ?_
 rintro e w3 ⟨A2, c2, rfl, ho2, hb⟩
 obtain ⟨a0r, a0f, a0n, a0c, a0z, a0l⟩ := kp (w.heap.size) (devA Dev.zero DLoc.zero) hb
 obtain ⟨a1r, a1f, a1n, a1c, a1z, a1l⟩ := kp (w.heap.size + 1) (recA ⟨1, 0, false, 0, 1, ⟨1, (b.length : Int), s⟩, Inf.zero⟩) hb
 have hsz3 : w2.heap.size ≤ w3.heap.size := hb.size
 have HB3 : Hid (Below w.heap.size w w3) := hD (HB2.out.trans (hb.mono HB2.out.size))
 have HF : Hid (Fresh (w.heap.size + 2) w3 (fun v => Bts v A1 rb ∧ Bts v A2 rn)) := hD (fun v hv => ⟨(HO1.out.below (B := 0) hb).fresh v hv, (ho2.mono (base' := w.heap.size + 2) (by omega)).fresh v hv⟩)
 have HC : Hid (rb.length ≤ c1 ∧ rn.length ≤ c2) := hD ⟨HO1.out.le, ho2.le⟩
 clear hb ho2
 go_wp2_with fail
 refine bodyPost_ret (results_ct rfl rfl (cs := devA ⟨rb, rn, ⟨true, ⟨1, 0, false, 0, 1, ⟨1, b.length, s⟩, Inf.zero⟩⟩, Cop.zero, true, 0, [], false, Pat.zero, 0⟩ ⟨A1, c1, A2, c2, none, 0, none, 0⟩) (by go_simp) (by go_simp) (by go_simp)) rfl ⟨⟨A1, c1, A2, c2, none, 0, none, 0⟩, rfl, ?_, ?_⟩
 ·refine Fresh.imp (P := fun v => Bts v A1 rb ∧ Bts v A2 rn) (Fresh.mono (base := w.heap.size + 2) ?_ (by omega)) (fun v hv => ⟨HC.out.1, by show rb.length ≤ _; rw [HRL.out.1]; decide, hv.1, HC.out.2, by show rn.length ≤ _; rw [HRL.out.2]; decide, hv.2, Nat.le_refl _, Nat.zero_le _, Chs.nil _ _, pat_in_zero v, ⟨by show -9223372036854775808 ≤ (0:Int); omega, by show (0:Int) ≤ 9223372036854775807; omega⟩, ⟨by show -9223372036854775808 ≤ (0:Int); omega, by show (0:Int) ≤ 9223372036854775807; omega⟩⟩)
  repeat (first | exact HF.out | refine Fresh.row ?_ (by omega) _ | refine Fresh.cell ?_ (by first | (show _ < _; omega) | (simp <;> omega)) _ | refine Fresh.alloc ?_ _)
 ·have hs := HB3.out.size
  repeat (first | exact HB3.out | refine bR ?_ _ | refine bC ?_ _ | refine bA ?_ _)
def wnJ (w3 : World) (g : Nat) (l : List (List UInt8)) (d0 : Dev) (L1 : DLoc) : Nat → (Nat → Value) → World → Prop
 | 0, _, w => w = w3.drew
 | 1, cv, w => ∃ A5 c5 ds, cv 1 = .slice A5 l.length c5 ∧ GRow kImg w w3.heap.size l ds A5 c5 ∧ Each kImg l ds (fun k => w3.heap.size ≤ k) ∧ Below w3.heap.size w3 w
 | 2, cv, w => ∃ A5 c5 ds, cv 3 = .agg (worA ⟨l, d0, []⟩ ⟨A5, c5, L1, none, 0⟩) ∧ GRow kImg w w3.heap.size l ds A5 c5 ∧ Each kImg l ds (fun k => w3.heap.size ≤ k) ∧ Below w3.heap.size w3 w
 | _, _, w => ∃ A5 c5 ds w4, GRow kImg w4 w3.heap.size l ds A5 c5 ∧ Each kImg l ds (fun k => w3.heap.size ≤ k) ∧ Below w3.heap.size w3 w4 ∧ w = w4.setRow g (worA ⟨l, d0, []⟩ ⟨A5, c5, L1, none, 0⟩)
theorem wnJ_row {w3 : World} {q : Nat} {l : List (List UInt8)} {d0 : Dev} {L1 : DLoc} (hk : k ≤ 2) (hr : rowOf w3 q = devA d0 L1) (hf : frOf w3 q = (0, 0)) (hJ : wnJ w3 g l d0 L1 k cv w) : rowOf w q = devA d0 L1 ∧ frOf w q = (0, 0) := by
 have hg : q < w3.heap.size := row_lt (w := w3) (by rw [hr]; simp [devA])
 have key : Below w3.heap.size w3 w → rowOf w q = devA d0 L1 ∧ frOf w q = (0, 0) := fun hb => ⟨(rowOf_below hg hb).trans hr, (frOf_below hg hb).trans hf⟩
 rcases (show k = 0 ∨ k = 1 ∨ k = 2 by omega) with rfl | rfl | rfl
 ·have hJ' : w = w3.drew := hJ
  subst hJ'
  exact key (Below.refl _ _).drew
 ·obtain ⟨A5, c5, ds, y1, g1, g2, h⟩ := hJ
  exact key h
 ·obtain ⟨A5, c5, ds, y1, g1, g2, h⟩ := hJ
  exact key h
theorem worNew_calls (A : Option Addr) (c : Nat) (l : List (List UInt8)) (w : World) (hc : l.length ≤ c) (hl : l.length ≤ 1048576) (hs : Ims w A l) : Calls Tryz.prog 19 #[.slice A l.length c] w (WvRet w (worNew l).1 (worNew l).2) := by
 have HS := hD hs
 have K1 := hD (fun w h => releases_calls A c l w hc hl h)
 have HBA : Hid (Below w.heap.size w (w.alloc (.cells (worA Wor.zero WLoc.zero) 40))) := hD ((Below.refl _ _).alloc (Nat.le_refl _) _)
 by_cases h0 : relCheck l ≠ 0
 ·have hz : worNew l = (Wor.zero, relCheck l) := by unfold worNew; rw [if_pos h0]
  rw [hz]
  have q : (relCheck l != 0) = true := by simp [h0]
  generalize relCheck l = n at *
  clear hz h0 hs
  go_enter Tryz.func19, Tryz.ntmps19
  go_wp2_with fail
  refine (K1.out _ (HS.out.stays HBA.out)).mono ?_
  rintro e w1 ⟨rfl, rfl⟩
  go_wp2_with fail
  refine bodyPost_ret (results_ct rfl rfl (cs := worA Wor.zero WLoc.zero) (by go_simp) (by go_simp) (by go_simp)) rfl ⟨WLoc.zero, rfl, .const fun v => WorIn.zero v, ?_⟩
  repeat (first | exact HBA.out | refine bR ?_ _ | refine bC ?_ _ | refine bA ?_ _)
 have h0 := Decidable.not_not.1 h0
 obtain ⟨hne, hfew, hsm⟩ := relCheck_ok.1 h0
 obtain ⟨b0, hb0⟩ : ∃ b0, l[0]'(List.length_pos_iff.2 hne) = b0 := ⟨_, rfl⟩
 have hb64 : b0.length ≤ 64 := by rw [← hb0]; exact hsm _ (List.getElem_mem _)
 have hhd : l.headD [] = b0 := by
  rw [← hb0]
  cases l with
  | nil => exact absurd rfl hne
  | cons a r => rfl
 have hz : worNew l = (⟨l, newDev b0, []⟩, 0) := by unfold worNew; rw [if_neg (by omega), hhd]
 have hdn : devNew b0 = (newDev b0, 0) := by unfold devNew; rw [if_neg (by omega)]
 rw [hz]
 rw [h0] at K1
 obtain ⟨ab, ao, rfl, hab, cs, hcl, hcc, B, e0, rfl, hd1, hd2, hd3⟩ := hs 0 (List.length_pos_iff.2 hne)
 have q0 : w.cell? ⟨ab, ao, none⟩ = some (.slice B b0.length e0) := by have := hcc 0 (by simp); rw [hb0] at this; simpa using this
 have HB0 : Hid (Bts w B b0) := hD (by rw [← hb0]; exact hd3)
 have KD := hD (fun w h => devNew_calls B e0 b0 w (by omega) h)
 rw [hdn] at KD
 obtain ⟨d0, hd0⟩ : ∃ d0, newDev b0 = d0 := ⟨_, rfl⟩
 rw [hd0] at KD ⊢
 have HQ0 := hD q0
 have HQA := hD hab
 have hpos : 0 < l.length := List.length_pos_iff.2 hne
 have hposz : (0 : Int) < (l.length : Int) := by omega
 have hcapz : (l.length : Int) ≤ (c : Int) := by omega
 have HBD : Hid (∀ y ∈ l, y.length ≤ 1048576) := hD HS.out.bound
 have q0a : (w.alloc (.cells (worA Wor.zero WLoc.zero) 40)).cell? ⟨ab, ao, none⟩ = some (.slice B b0.length e0) := (((Below.refl w.heap.size w).alloc (Nat.le_refl _) (.cells (worA Wor.zero WLoc.zero) 40)).cell (p := ⟨ab, ao, none⟩) hab).trans q0
 clear hz hdn h0 hne hfew hsm hhd hcl hcc hd1 hd2 hd3 hb0 hd0 hb64 hs q0 hab
 go_enter Tryz.func19, Tryz.ntmps19
 go_wp2_with fail
 refine (K1.out _ (HS.out.stays HBA.out)).mono ?_
 rintro e w1 ⟨rfl, rfl⟩
 go_wp2_with fail
 refine (KD.out _ (HB0.out.stays HBA.out)).mono ?_
 rintro e w2 ⟨L1, rfl, hfr, hb⟩
 obtain ⟨a0r, a0f, a0n, a0c, a0z, a0l⟩ := kp (w.heap.size) (worA Wor.zero WLoc.zero) hb
 have hsz2 : w.heap.size + 1 ≤ w2.heap.size := by have := hb.size; simpa using this
 have HB2 : Hid (Below w.heap.size w w2) := hD (HBA.out.trans (hb.mono (by simp)))
 have HFR : Hid (Fresh (w.heap.size + 1) w2 (fun v => DevIn v d0 L1)) := hD (by simpa using hfr)
 clear hb hfr
 go_wp2_with fail
 obtain ⟨w3, hw3⟩ : ∃ w3, w2.alloc (.cells (devA d0 L1) 38) = w3 := ⟨_, rfl⟩
 have HRz : Hid (rowOf w3 w.heap.size = worA Wor.zero WLoc.zero) := hD (by rw [← hw3, rowOf_alloc, if_neg a0n]; exact a0r)
 have HFz : Hid (frOf w3 w.heap.size = (0, 0)) := hD (by rw [← hw3, frOf_alloc, if_neg a0n]; exact a0f)
 have HR5 : Hid (rowOf w3 w2.heap.size = devA d0 L1) := hD (by rw [← hw3, rowOf_alloc, if_pos rfl])
 have HF5 : Hid (frOf w3 w2.heap.size = (0, 0)) := hD (by rw [← hw3, frOf_alloc, if_pos rfl])
 have hsz3 : w3.heap.size = w2.heap.size + 1 := by rw [← hw3]; simp
 have HB3 : Hid (Below w.heap.size w w3) := hD (by rw [← hw3]; exact HB2.out.alloc HB2.out.size _)
 have HF3 : Hid (Fresh (w.heap.size + 1) w3 (fun v => DevIn v d0 L1)) := hD (by rw [← hw3]; exact HFR.out.alloc _)
 rw [hw3]
 obtain ⟨g, hg⟩ : ∃ g, w.heap.size = g := ⟨_, rfl⟩
 obtain ⟨g5, hg5⟩ : ∃ g5, w2.heap.size = g5 := ⟨_, rfl⟩
 have HG := hD hg
 have KA : Hid (∀ wq, Below w3.heap.size w3 wq → Calls Tryz.prog 51 #[.slice (some ⟨ab, ao, none⟩) l.length c] wq (KrRet kImg wq l)) := hD (fun wq h => images_calls _ _ _ wq hl ((HS.out.stays HB3.out).stays h))
 rw [hg] at HRz HFz hsz2 ⊢
 rw [hg5] at HR5 HF5 ⊢
 clear hw3 a0r a0f a0n a0c a0z a0l hg hg5
 generalize hAA : (some ⟨ab, ao, none⟩ : Option Addr) = A at *
 clear hAA
 refine wp_region_mix (by kernel_rfl) (some 24 :: some 25 :: some 26 :: some 27 :: none :: some 3 :: []) (none :: some 0 :: none :: some 1 :: some 2 :: none :: []) (.slice A l.length c :: undef :: .agg (devA d0 L1) :: undef :: undef :: .int .i64 0 :: []) 3 (wnJ w3 g l d0 L1) 28 rfl rfl (by decide +kernel) (by decide +kernel) (by decide +kernel) (by decide +kernel) rfl rfl (by decide +kernel) (by decide +kernel) (rfl) ?_ ?_
 ·refine ⟨?_, ?_⟩
  ·intro done cv k0 a wq hw h hJ hn
   have e0 := mO 0 (.slice A l.length c) h
   exact mx_move (ch_ev e0)
  refine ⟨?_, ?_⟩
  ·intro done cv a wq hw h hJ
   have e24 := mN 0 24 h hw
   obtain rfl : wq = w3.drew := hJ
   refine wp_call (vals := #[.slice A l.length c]) (by rw [List.map_toArray, List.map_cons, List.map_nil, ch_ev e24]) (enters_of Tryz.func51 (by kernel_rfl) rfl _ _) (KA.out _ ((Below.refl _ _).drew)) ?_
   rintro e w' ⟨A5, c5, ds, rfl, hrow, heach, hbel⟩
   exact ⟨_, rfl, _, rfl, A5, c5, ds, by simp, hrow, heach, (Below.refl _ _).drew.trans hbel⟩
  refine ⟨?_, ?_⟩
  ·intro done cv k0 a wq hw h hJ hn
   have e5 := mO 5 (.pointer (some ⟨g5, 0, none⟩)) h
   have hk := hn 4 _ 2 rfl rfl (by decide)
   obtain ⟨r_, f_⟩ := wnJ_row hk HR5.out HF5.out hJ
   go_simp
  refine ⟨?_, ?_⟩
  ·intro done cv a wq hw h hJ
   have e25 := mx_cv (i := 1) (t := 25) h (hw 1 (by decide)) rfl rfl; have e26 := mN 2 26 h hw
   obtain ⟨A5, c5, ds, y1, hrow, heach, hbel⟩ := hJ
   rw [y1] at e25
   refine wp_val (v := .agg (worA ⟨l, d0, []⟩ ⟨A5, c5, L1, none, 0⟩)) (by go_simp) ⟨_, rfl, A5, c5, ds, by simp, hrow, heach, hbel⟩
  refine ⟨?_, ?_⟩
  ·intro done cv a wq hw h hJ
   have e2 := mO 2 (.pointer (some ⟨g, 0, none⟩)) h; have e27 := mx_cv (i := 3) (t := 27) h (hw 3 (by decide)) rfl rfl
   obtain ⟨A5, c5, ds, y1, hrow, heach, hbel⟩ := hJ
   rw [y1] at e27
   obtain ⟨r_, f_, n_, c_, z_, l_⟩ := keep1 hbel HRz.out (by go_simp) HFz.out
   refine wp_srow e2 e27 (by go_simp) (by go_simp) (cs := worA Wor.zero WLoc.zero) r_ (by go_simp) f_ (by go_simp) ⟨undef, rfl, A5, c5, ds, wq, hrow, heach, hbel, ?_⟩
   rw [splice_all _ _ (by simp [worA])]
  refine ⟨?_, ?_⟩
  ·intro done cv k0 a wq hw h hJ hn
   exact mx_assign rfl
  exact trivial
 intro cv w5 hJ
 obtain ⟨A5, c5, ds, w4, hrow, heach, hbel, rfl⟩ := hJ
 simp only [mixAll, putAll_some, putAll_none, putAll_nil, List.getElem?_cons_zero, List.getElem?_cons_succ, Nat.zero_add, Nat.reduceAdd, List.setIfInBounds_toArray, List.set_cons_zero, List.set_cons_succ]
 have hs4 := hbel.size
 have r4 : 0 < (rowOf w4 g).size := by rw [rowOf_below (by omega) hbel, HRz.out]; simp [worA]
 have r5 : rowOf (w4.setRow g (worA ⟨l, d0, []⟩ ⟨A5, c5, L1, none, 0⟩)) g = worA ⟨l, d0, []⟩ ⟨A5, c5, L1, none, 0⟩ := by rw [rowOf_setRow _ _ _ _ r4, if_pos rfl]
 have HBL := hD hbel
 have HIM : Hid (Fresh w3.heap.size w4 (fun v => Ims v A5 l)) := hD ((hrow.fresh heach).imp fun v hv => hv.src.ims HBD.out)
 have HC5 := hD hrow.row.le
 clear hrow heach hbel
 go_wp2_with fail
 refine bodyPost_ret (results_ct rfl rfl (cs := worA ⟨l, d0, []⟩ ⟨A5, c5, L1, none, 0⟩) r5 (by go_simp) (by go_simp)) rfl ⟨⟨A5, c5, L1, none, 0⟩, rfl, ?_, ?_⟩
 ·refine Fresh.imp (P := fun v => DevIn v d0 L1 ∧ Ims v A5 l) ?_ (fun v hv => ⟨HC5.out, hl, hv.2, hv.1, Nat.le_refl _, Nat.zero_le _, Chs.nil _ _⟩)
  have e1 : Fresh (g + 1) (w4.setRow g (worA ⟨l, d0, []⟩ ⟨A5, c5, L1, none, 0⟩)) (fun v => DevIn v d0 L1) := (Fresh.below (by rw [← HG.out]; exact HF3.out) HBL.out (Nat.le_refl _)).row (by omega) _
  have e2 : Fresh (g + 1) (w4.setRow g (worA ⟨l, d0, []⟩ ⟨A5, c5, L1, none, 0⟩)) (fun v => Ims v A5 l) := (HIM.out.mono (by omega)).row (by omega) _
  rw [HG.out]
  exact fun v hv => ⟨e1 v (fun k h1 h2 => hv k (by omega) h2), e2 v (fun k h1 h2 => hv k (by omega) h2)⟩
 ·rw [HG.out]
  have hb3 : Below g w w3 := by rw [← HG.out]; exact HB3.out
  exact below_row (hb3.trans (HBL.out.mono (by omega))) (Nat.le_refl _) _
end Go.Proofs.YtefkfglkpebbmadGreat
