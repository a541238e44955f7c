/- Walks of functions, and plain words. No conditions. -/
import Derived.Test.YtefkfglkpebbmacGreatP8
set_option linter.unusedVariables false
set_option linter.unusedSimpArgs false
set_option maxRecDepth 100000
set_option maxHeartbeats 40000000
namespace Go.Proofs.YtefkfglkpebbmacGreat
open Go.RowKit
variable {w0 w : World} {g k : Nat} {d : Dev} {cv : Nat -> Value}
theorem x135 {p : Prop} (h : p := by
 have hk := hn 7 _ 2 rfl rfl (by decide)
 obtain ⟨hr, hf⟩ := dcK_row hk HR2.out HF2.out HG2.out hJ
 have hc := cell_row (w := wq) (g := g) (by rw [hr]; simp [devA])
 go_simp) : p := h
theorem x143 {p : Prop} (h : p := by
 have hk := hn 10 _ 3 rfl rfl (by decide)
 obtain ⟨hr, hf⟩ := dcJ_row hk HR.out HF.out hJ
 have hc := cell_row (w := wq) (g := g) (by rw [hr]; simp [devA])
 go_simp) : p := h
def dcJ (w0 : World) (g : Nat) (d : Dev) (L : DLoc) : Nat -> (Nat -> Value) -> World -> Prop
 | 0, _, w => w = w0.drew
 | 1, cv, w => ∃ A5 c5, cv 3 = .slice A5 d.s0.length c5 ∧ Own w w0.heap.size 5 1 A5 d.s0.length c5 (d.s0.map bv) ∧ Below w0.heap.size w0 w
 | 2, cv, w => ∃ A5 c5 w1 A6 c6, cv 3 = .slice A5 d.s0.length c5 ∧ Own w1 w0.heap.size 5 1 A5 d.s0.length c5 (d.s0.map bv) ∧ Below w0.heap.size w0 w1 ∧ cv 7 = .slice A6 d.s1.length c6 ∧ Own w w1.heap.size 5 1 A6 d.s1.length c6 (d.s1.map bv) ∧ Below w1.heap.size w1 w
 | 3, cv, w => ∃ A5 c5 w1 A6 c6, cv 8 = .agg (slotsA A5 d.s0.length c5 A6 d.s1.length c6) ∧ Own w1 w0.heap.size 5 1 A5 d.s0.length c5 (d.s0.map bv) ∧ Below w0.heap.size w0 w1 ∧ Own w w1.heap.size 5 1 A6 d.s1.length c6 (d.s1.map bv) ∧ Below w1.heap.size w1 w
 | _, _, w => ∃ A5 c5 w1 A6 c6 w2, Own w1 w0.heap.size 5 1 A5 d.s0.length c5 (d.s0.map bv) ∧ Below w0.heap.size w0 w1 ∧ Own w2 w1.heap.size 5 1 A6 d.s1.length c6 (d.s1.map bv) ∧ Below w1.heap.size w1 w2 ∧ w = w2.setRow g (devA d { L with a0 := A5, c0 := c5, a1 := A6, c1 := c6 })
theorem dcJ_row {L : DLoc} (hk : k <= 3) (hr : rowOf w0 g = devA d L) (hf : frOf w0 g = (0, 0)) (hJ : dcJ w0 g d L k cv w) : rowOf w g = devA d L ∧ frOf w g = (0, 0) := by
 have hg : g < w0.heap.size := row_lt (w := w0) (by rw [hr]; simp [devA])
 have key : Below w0.heap.size w0 w -> rowOf w g = devA d L ∧ frOf w g = (0, 0) := fun hb => ⟨(rowOf_below hg hb).trans hr, (frOf_below hg hb).trans hf⟩
 match k, hk, hJ with
 | 0, _, hJ => obtain rfl : w = w0.drew := hJ; exact key (Below.refl _ _).drew
 | 1, _, ⟨_, _, _, _, h⟩ => exact key h
 | 2, _, ⟨_, _, w1, _, _, _, _, h, _, _, h2⟩ => exact key (h.trans (h2.mono h.size))
 | 3, _, ⟨_, _, w1, _, _, _, _, h, _, h2⟩ => exact key (h.trans (h2.mono h.size))
def dcK (w0 : World) (g : Nat) (d : Dev) (L : DLoc) : Nat -> (Nat -> Value) -> World -> Prop
 | 0, _, w => w = w0.drew
 | 1, cv, w => ∃ A5 c5 ds, cv 2 = .slice A5 d.got.length c5 ∧ GRow kChk w w0.heap.size d.got ds A5 c5 ∧ Each kChk d.got ds (fun k => w0.heap.size <= k) ∧ Below w0.heap.size w0 w
 | 2, cv, w => ∃ A5 c5 ds w4 A6 c6, cv 2 = .slice A5 d.got.length c5 ∧ cv 5 = .agg (patA d.job.from_ d.job.to_ d.job.old d.job.new_ d.job.size A6 d.job.ops.length c6) ∧ GRow kChk w4 w0.heap.size d.got ds A5 c5 ∧ Each kChk d.got ds (fun k => w0.heap.size <= k) ∧ Below w0.heap.size w0 w4 ∧
   Fresh w4.heap.size w (fun v => PatIn v d.job A6 c6) ∧ Below w4.heap.size w4 w
 | 3, cv, w => ∃ A5 c5 ds w4 A6 c6 w5, cv 5 = .agg (patA d.job.from_ d.job.to_ d.job.old d.job.new_ d.job.size A6 d.job.ops.length c6) ∧ GRow kChk w4 w0.heap.size d.got ds A5 c5 ∧ Each kChk d.got ds (fun k => w0.heap.size <= k) ∧ Below w0.heap.size w0 w4 ∧
   Fresh w4.heap.size w5 (fun v => PatIn v d.job A6 c6) ∧ Below w4.heap.size w4 w5 ∧ w = w5.setRow g (devA d { L with ag := A5, cg := c5 })
 | _, _, w => ∃ A5 c5 ds w4 A6 c6 w5, GRow kChk w4 w0.heap.size d.got ds A5 c5 ∧ Each kChk d.got ds (fun k => w0.heap.size <= k) ∧ Below w0.heap.size w0 w4 ∧
   Fresh w4.heap.size w5 (fun v => PatIn v d.job A6 c6) ∧ Below w4.heap.size w4 w5 ∧ w = w5.setRow g (devA d { L with ag := A5, cg := c5, aj := A6, cj := c6 })
theorem dcK_row {L : DLoc} (hk : k <= 2) (hr : rowOf w0 g = devA d L) (hf : frOf w0 g = (0, 0)) (hg : g < w0.heap.size) (hJ : dcK w0 g d L k cv w) : rowOf w g = devA d L ∧ frOf w g = (0, 0) := by
 have key : Below w0.heap.size w0 w -> rowOf w g = devA d L ∧ frOf w g = (0, 0) := fun hb => ⟨(rowOf_below hg hb).trans hr, (frOf_below hg hb).trans hf⟩
 match k, hk, hJ with
 | 0, _, hJ => obtain rfl : w = w0.drew := hJ; exact key (Below.refl _ _).drew
 | 1, _, ⟨_, _, _, _, _, _, h⟩ => exact key h
 | 2, _, ⟨_, _, _, w1, _, _, _, _, _, _, h, _, h2⟩ => exact key (h.trans (h2.mono h.size))
theorem dcEnd {w1 w3 w4 w5 w' : World} {L2 : DLoc} {A5 A6 A7 A8 : Option Addr} {c5 c6 c7 c8 : Nat} {ds : List (Option Addr × Nat)} (HIN : DevIn w0 d L2 ∨ True)
  (hl : d.s0.length <= 1048576 ∧ d.s1.length <= 1048576 ∧ d.got.length <= 1048576) (hi : I64 d.running ∧ I64 d.done) (hbd : ∀ x ∈ d.got, ChkB x)
  (h0 : Own w3 w0.heap.size 5 1 A5 d.s0.length c5 (d.s0.map bv)) (h1 : Own w3 w1.heap.size 5 1 A6 d.s1.length c6 (d.s1.map bv))
  (hbk : (∀ k, A5.map (·.block) = some k -> k < w1.heap.size) ∧ (∀ k, A6.map (·.block) = some k -> k < w3.heap.size) ∧ w0.heap.size <= w1.heap.size ∧ w1.heap.size <= w3.heap.size)
  (hg : Fresh w3.heap.size w4 (fun v => GRow kChk v w3.heap.size d.got ds A7 c7)) (hf : Fresh w4.heap.size w5 (fun v => PatIn v d.job A8 c8)) (b4 : Below w3.heap.size w3 w4) (b5 : Below w4.heap.size w4 w5) (hc : d.got.length <= c7)
  (he : L2.a0 = A5 ∧ L2.c0 = c5 ∧ L2.a1 = A6 ∧ L2.c1 = c6) (hw : ∀ k, w0.heap.size <= k -> w'.heap[k]? = w5.heap[k]?) : DvOwn w' w0.heap.size d { L2 with ag := A7, cg := c7, aj := A8, cj := c8 } := by
 obtain ⟨e1, e2, e3, e4⟩ := he
 have s4 := b4.size
 have hk : ∀ k, w0.heap.size <= k -> k < w3.heap.size -> w'.heap[k]? = w3.heap[k]? := fun k h1 h2 => (hw k h1).trans (((b5.block k (by omega))).trans (b4.block k h2))
 refine ⟨w1.heap.size, w3.heap.size, hbk.2.2.1, hbk.2.2.2, ?_, ?_, ?_, ?_, ?_, ?_, hl.1, hl.2.1, hc, hl.2.2, hi.1, hi.2⟩
 ·show Own w' _ _ _ L2.a0 _ L2.c0 _
  rw [e1, e2]; exact own_fresh h0 hk
 ·show ∀ k, L2.a0.map (·.block) = some k -> _
  rw [e1]; exact hbk.1
 ·show Own w' _ _ _ L2.a1 _ L2.c1 _
  rw [e3, e4]; exact own_fresh h1 (fun k h => hk k (by have := hbk.2.2.1; omega))
 ·show ∀ k, L2.a1.map (·.block) = some k -> _
  rw [e3]; exact hbk.2.1
 ·have g5 : Fresh w3.heap.size w5 (fun v => GRow kChk v w3.heap.size d.got ds A7 c7) := hg.below b5 (Nat.le_refl _)
  exact (g5.fresh (fun k h1 h2 => hw k (by have := hbk.2.2; omega))).imp fun v hv => hv.src.chs hbd
 exact (hf.mono s4).fresh (fun k h1 h2 => hw k (by have := hbk.2.2; omega))
@[go_sem] theorem build_slots (a : Option Addr) (k c : Nat) (b : Option Addr) (m e : Nat) (w : World) : runBuild Tryz.prog 23 #[(0, .slice a k c), (1, .slice b m e)] w = .ok (.agg (slotsA a k c b m e)) w := by kernel_rfl
theorem devCopy_calls (d : Dev) (L : DLoc) (w : World) (h : DevIn w d L) : Calls Tryz.prog 49 #[.agg (devA d L)] w (DcRet w d) := by
 have HI := hD h
 have HL : Hid (d.s0.length <= 1048576 ∧ d.s1.length <= 1048576 ∧ d.got.length <= 1048576) := hD ⟨h.l0, h.l1, h.lg⟩
 have HI2 : Hid (I64 d.running ∧ I64 d.done) := hD ⟨h.ir, h.id⟩
 have HBD : Hid (∀ x ∈ d.got, ChkB x) := hD h.got.bound
 clear h
 go_enter Tryz.func49, Tryz.ntmps49
 go_wp2_with fail
 have q1 : rowOf ((w.alloc (.cells (devA d L) 37)).alloc (.cells (devA Dev.zero DLoc.zero) 37)) w.heap.size = devA d L := by go_simp
 have q2 : frOf ((w.alloc (.cells (devA d L) 37)).alloc (.cells (devA Dev.zero DLoc.zero) 37)) w.heap.size = (0, 0) := by go_simp
 have q3 : rowOf ((w.alloc (.cells (devA d L) 37)).alloc (.cells (devA Dev.zero DLoc.zero) 37)) (w.heap.size + 1) = devA Dev.zero DLoc.zero := by go_simp
 have q4 : frOf ((w.alloc (.cells (devA d L) 37)).alloc (.cells (devA Dev.zero DLoc.zero) 37)) (w.heap.size + 1) = (0, 0) := by go_simp
 obtain ⟨w0, hw0⟩ : ∃ w0, (w.alloc (.cells (devA d L) 37)).alloc (.cells (devA Dev.zero DLoc.zero) 37) = w0 := ⟨_, rfl⟩
 have HB0 : Hid (Below w.heap.size w w0) := hD (by rw [← hw0]; exact ((Below.refl _ _).alloc (Nat.le_refl _) _).alloc (by simp) _)
 obtain ⟨g, hg⟩ : ∃ g, w.heap.size = g := ⟨_, rfl⟩
 rw [hw0, hg] at q1 q2 q3 q4
 have HR := hD q1
 have HF := hD q2
 have HRz := hD q3
 have HFz := hD q4
 have HSZ : Hid (w0.heap.size = g + 2) := hD (by rw [← hw0, ← hg]; simp)
 have HG : Hid (g < w0.heap.size) := hD (by rw [HSZ.out]; omega)
 rw [hw0]
 rw [hg] at HB0 ⊢
 have HGE := hD hg
 clear hw0 hg q1 q2 q3 q4
 have HIN : Hid (DevIn w0 d L) := hD (HI.out.stays (HGE.out ▸ HB0.out))
 have K0 : Hid (∀ wq, Below w0.heap.size w0 wq -> Calls Tryz.prog 83 #[.slice L.a0 d.s0.length L.c0] wq (SlRet wq 5 1 d.s0.length (d.s0.map bv))) := hD (fun wq h => cloneBytes_calls _ _ _ _ wq (by simp) (by have := HL.out.1; omega) (HIN.out.b0.stays h).src (bv_one _))
 have K1 : Hid (∀ wq, Below w0.heap.size w0 wq -> Calls Tryz.prog 83 #[.slice L.a1 d.s1.length L.c1] wq (SlRet wq 5 1 d.s1.length (d.s1.map bv))) := hD (fun wq h => cloneBytes_calls _ _ _ _ wq (by simp) (by have := HL.out.2.1; omega) (HIN.out.b1.stays h).src (bv_one _))
 refine wp_region_mix (by kernel_rfl) (some 3 :: some 4 :: some 5 :: some 6 :: some 7 :: some 8 :: some 9 :: some 10 :: some 11 :: some 12 :: none :: []) (none :: none :: none :: some 0 :: none :: none :: none :: some 1 :: some 2 :: none :: some 3 :: []) (.pointer (some ⟨g, 0, none⟩) :: .pointer (some ⟨g, 0, none⟩) :: .slice L.a0 d.s0.length L.c0 :: undef :: .pointer (some ⟨g, 0, none⟩) :: .pointer (some ⟨g, 1, none⟩) :: .slice L.a1 d.s1.length L.c1 :: undef :: undef :: .pointer (some ⟨g, 0, none⟩) :: undef :: []) 4 (dcJ w0 g d L) 22 rfl rfl (by decide +kernel) (by decide +kernel) (by decide +kernel) (by decide +kernel) rfl rfl (by decide +kernel) (by decide +kernel) (rfl) ?_ ?_
 ·refine ⟨?_, ?_, ?_, ?_, ?_, ?_, ?_, ?_, ?_, ?_, ?_, trivial⟩
  ·exact x25
  ·intro done cv k0 a wq hw h hJ hn
   have e3 := mN 0 3 h hw
   go_simp
  ·intro done cv k0 a wq hw h hJ hn
   have e4 := mN 1 4 h hw
   exact x143
  ·intro done cv a wq hw h hJ
   have e5 := mN 2 5 h hw
   obtain rfl : wq = w0.drew := hJ
   refine wp_call (vals := #[.slice L.a0 d.s0.length L.c0]) (by rw [List.map_toArray, List.map_cons, List.map_nil, ch_ev e5]) (enters_of Tryz.func83 (by kernel_rfl) rfl _ _) (K0.out _ ((Below.refl _ _).drew)) ?_
   rintro e w' ⟨A5, c5, rfl, hown, hbel⟩
   exact ⟨_, rfl, _, rfl, A5, c5, by simp, hown, (Below.refl _ _).drew.trans hbel⟩
  ·exact x25
  ·intro done cv k0 a wq hw h hJ hn
   have e7 := mN 4 7 h hw
   go_simp
  ·intro done cv k0 a wq hw h hJ hn
   have e8 := mN 5 8 h hw
   exact x143
  ·intro done cv a wq hw h hJ
   have e9 := mN 6 9 h hw
   obtain ⟨A5, c5, y1, hown, hbel⟩ := hJ
   refine wp_call (vals := #[.slice L.a1 d.s1.length L.c1]) (by rw [List.map_toArray, List.map_cons, List.map_nil, ch_ev e9]) (enters_of Tryz.func83 (by kernel_rfl) rfl _ _) (K1.out _ hbel) ?_
   rintro e w' ⟨A6, c6, rfl, hown2, hbel2⟩
   exact ⟨_, rfl, _, rfl, A5, c5, wq, A6, c6, by simpa using y1, hown, hbel, by simp, hown2, hbel2⟩
  ·intro done cv a wq hw h hJ
   have e6 := mx_cv (i := 3) (t := 6) h (hw 3 (by decide)) rfl rfl; have e10 := mx_cv (i := 7) (t := 10) h (hw 7 (by decide)) rfl rfl
   obtain ⟨A5, c5, w1, A6, c6, y1, hown, hbel, y2, hown2, hbel2⟩ := hJ
   rw [y1] at e6
   rw [y2] at e10
   refine wp_val (v := .agg (slotsA A5 d.s0.length c5 A6 d.s1.length c6)) (by go_simp) ⟨_, rfl, A5, c5, w1, A6, c6, by simp, hown, hbel, hown2, hbel2⟩
  ·exact x25
  ·intro done cv a wq hw h hJ
   have e12 := mN 9 12 h hw; have e11 := mx_cv (i := 8) (t := 11) h (hw 8 (by decide)) rfl rfl
   obtain ⟨A5, c5, w1, A6, c6, y3, hown, hbel, hown2, hbel2⟩ := hJ
   rw [y3] at e11
   have hbl := hbel.trans (hbel2.mono hbel.size)
   refine wp_srow e12 e11 (by go_simp) (by go_simp) (cs := devA d L) ((rowOf_below HG.out hbl).trans HR.out) (by go_simp) ((frOf_below HG.out hbl).trans HF.out) (by go_simp) ⟨undef, rfl, A5, c5, w1, A6, c6, wq, hown, hbel, hown2, hbel2, ?_⟩
   rw [devA_splice_slots]
 intro cv w3' hJ
 obtain ⟨A5, c5, w1, A6, c6, w2, hown, hbel, hown2, hbel2, rfl⟩ := hJ
 simp only [mixAll, putAll_some, putAll_none, putAll_nil, List.getElem?_cons_zero, List.getElem?_cons_succ, Nat.zero_add, Nat.reduceAdd, List.setIfInBounds_toArray, List.set_cons_zero, List.set_cons_succ]
 obtain ⟨L2, hL2⟩ : ∃ L2 : DLoc, { L with a0 := A5, c0 := c5, a1 := A6, c1 := c6 } = L2 := ⟨_, rfl⟩
 have hbl := hbel.trans (hbel2.mono hbel.size)
 have hr2 : rowOf w2 g = devA d L := (rowOf_below HG.out hbl).trans HR.out
 obtain ⟨w3, hw3⟩ : ∃ w3, w2.setRow g (devA d { L with a0 := A5, c0 := c5, a1 := A6, c1 := c6 }) = w3 := ⟨_, rfl⟩
 rw [hw3]
 rw [hL2] at hw3
 have HR2 : Hid (rowOf w3 g = devA d L2) := hD (by rw [← hw3, rowOf_setRow _ _ _ _ (by rw [hr2]; simp [devA]), if_pos rfl])
 have HF2 : Hid (frOf w3 g = (0, 0)) := hD (by rw [← hw3, frOf_setRow]; exact (frOf_below HG.out hbl).trans HF.out)
 have HRz2 : Hid (rowOf w3 (g + 1) = devA Dev.zero DLoc.zero) := hD (by rw [← hw3, rowOf_setRow _ _ _ _ (by rw [hr2]; simp [devA]), if_neg (by omega)]; exact (rowOf_below (by rw [HSZ.out]; omega) hbl).trans HRz.out)
 have HFz2 : Hid (frOf w3 (g + 1) = (0, 0)) := hD (by rw [← hw3, frOf_setRow]; exact (frOf_below (by rw [HSZ.out]; omega) hbl).trans HFz.out)
 have hs3 : w3.heap.size = w2.heap.size := by rw [← hw3]; simp [World.setRow]
 have hs1 := hbel.size
 have hs2 := hbel2.size
 have hsz := HSZ.out
 have HG2 : Hid (g < w3.heap.size) := hD (by omega)
 have HGz : Hid (g + 1 < w3.heap.size) := hD (by omega)
 have HB3 : Hid (Below g w w3) := hD (by rw [← hw3]; exact below_row (HB0.out.trans (hbl.mono (by omega))) (Nat.le_refl _) _)
 have HIN2 : Hid (Chs w3 L.ag d.got ∧ PatIn w3 d.job L.aj L.cj) := hD (by have hi := HI.out.stays (HGE.out ▸ HB3.out); exact ⟨hi.got, hi.job⟩)
 have HO0 : Hid (Own w3 w0.heap.size 5 1 A5 d.s0.length c5 (d.s0.map bv)) := hD (by rw [← hw3]; exact own_fresh (hown.below hbel2) fun k h1 h2 => setRow_other _ _ _ _ (by omega))
 have HO1 : Hid (Own w3 w1.heap.size 5 1 A6 d.s1.length c6 (d.s1.map bv)) := hD (by rw [← hw3]; exact own_fresh hown2 fun k h1 h2 => setRow_other _ _ _ _ (by omega))
 have HBK : Hid ((∀ k, A5.map (·.block) = some k -> k < w1.heap.size) ∧ (∀ k, A6.map (·.block) = some k -> k < w3.heap.size) ∧ w0.heap.size <= w1.heap.size ∧ w1.heap.size <= w3.heap.size) := hD ⟨fun k hk => (hown.block k hk).2, fun k hk => by have := (hown2.block k hk).2; omega, hs1, by omega⟩
 have HE : Hid (L2.ag = L.ag ∧ L2.cg = L.cg ∧ L2.aj = L.aj ∧ L2.cj = L.cj ∧ L2.a0 = A5 ∧ L2.c0 = c5 ∧ L2.a1 = A6 ∧ L2.c1 = c6) := hD (by rw [← hL2]; exact ⟨rfl, rfl, rfl, rfl, rfl, rfl, rfl, rfl⟩)
 have K2 : Hid (∀ wq, Below w3.heap.size w3 wq -> Calls Tryz.prog 82 #[.slice L2.ag d.got.length L2.cg] wq (KrRet kChk wq d.got)) := hD (fun wq h => chkCopy_calls _ _ _ wq HL.out.2.2 (by rw [HE.out.1]; exact HIN2.out.1.stays h))
 have K3 : Hid (∀ wq, Below w3.heap.size w3 wq -> Calls Tryz.prog 88 #[.agg (patA d.job.from_ d.job.to_ d.job.old d.job.new_ d.job.size L2.aj d.job.ops.length L2.cj)] wq (PcRet wq d.job)) := hD (fun wq h => patCopy_calls _ _ _ wq (by rw [HE.out.2.2.1, HE.out.2.2.2.1]; exact HIN2.out.2.stays h))
 clear hown hown2 hbel hbel2 hbl hr2 hw3 hL2 hs3 hs1 hs2 hsz K0 K1 HB0 HR HF HRz HFz
 go_wp2_with fail
 refine wp_region_mix (by kernel_rfl) (some 13 :: some 14 :: some 15 :: some 16 :: some 17 :: some 18 :: some 19 :: none :: some 20 :: none :: []) (none :: none :: some 0 :: none :: none :: some 1 :: none :: some 2 :: none :: some 3 :: []) (.pointer (some ⟨g, 28, none⟩) :: .slice L2.ag d.got.length L2.cg :: undef :: .pointer (some ⟨g, 30, none⟩) :: .agg (patA d.job.from_ d.job.to_ d.job.old d.job.new_ d.job.size L2.aj d.job.ops.length L2.cj) :: undef :: .pointer (some ⟨g, 28, none⟩) :: undef :: .pointer (some ⟨g, 30, none⟩) :: undef :: []) 4 (dcK w3 g d L2) 22 rfl rfl (by decide +kernel) (by decide +kernel) (by decide +kernel) (by decide +kernel) rfl rfl (by decide +kernel) (by decide +kernel) (rfl) ?_ ?_
 ·refine ⟨?_, ?_, ?_, ?_, ?_, ?_, ?_, ?_, ?_, ?_, trivial⟩
  ·exact x25
  ·intro done cv k0 a wq hw h hJ hn
   have e13 := mN 0 13 h hw
   exact x135
  ·intro done cv a wq hw h hJ
   have e14 := mN 1 14 h hw
   obtain rfl : wq = w3.drew := hJ
   refine wp_call (vals := #[.slice L2.ag d.got.length L2.cg]) (by rw [List.map_toArray, List.map_cons, List.map_nil, ch_ev e14]) (enters_of Tryz.func82 (by kernel_rfl) rfl _ _) (K2.out _ ((Below.refl _ _).drew)) ?_
   rintro e w' ⟨A5, c5, ds, rfl, hrow, heach, hbel⟩
   exact ⟨_, rfl, _, rfl, A5, c5, ds, by simp, hrow, heach, (Below.refl _ _).drew.trans hbel⟩
  ·exact x25
  ·intro done cv k0 a wq hw h hJ hn
   have e16 := mN 3 16 h hw
   exact x135
  ·intro done cv a wq hw h hJ
   have e17 := mN 4 17 h hw
   obtain ⟨A5, c5, ds, y1, hrow, heach, hbel⟩ := hJ
   refine wp_call (vals := #[.agg (patA d.job.from_ d.job.to_ d.job.old d.job.new_ d.job.size L2.aj d.job.ops.length L2.cj)]) (by rw [List.map_toArray, List.map_cons, List.map_nil, ch_ev e17]) (enters_of Tryz.func88 (by kernel_rfl) rfl _ _) (K3.out _ hbel) ?_
   rintro e w' ⟨A6, c6, rfl, hfr, hbel2⟩
   exact ⟨_, rfl, _, rfl, A5, c5, ds, wq, A6, c6, by simpa using y1, by simp, hrow, heach, hbel, hfr, hbel2⟩
  ·exact x25
  ·intro done cv a wq hw h hJ
   have e19 := mN 6 19 h hw; have e15 := mx_cv (i := 2) (t := 15) h (hw 2 (by decide)) rfl rfl
   obtain ⟨A5, c5, ds, w4, A6, c6, y1, y2, hrow, heach, hbel, hfr, hbel2⟩ := hJ
   rw [y1] at e15
   have hbl := hbel.trans (hbel2.mono hbel.size)
   refine wp_ssc e19 e15 (cs := devA d L2) ((rowOf_below HG2.out hbl).trans HR2.out) (by go_simp) ((frOf_below HG2.out hbl).trans HF2.out) ⟨undef, rfl, A5, c5, ds, w4, A6, c6, wq, by simpa using y2, hrow, heach, hbel, hfr, hbel2, ?_⟩
   rw [devA_set_got]
  ·exact x25
  ·intro done cv a wq hw h hJ
   have e20 := mN 8 20 h hw; have e18 := mx_cv (i := 5) (t := 18) h (hw 5 (by decide)) rfl rfl
   obtain ⟨A5, c5, ds, w4, A6, c6, w5, y2, hrow, heach, hbel, hfr, hbel2, rfl⟩ := hJ
   rw [y2] at e18
   have hbl := hbel.trans (hbel2.mono hbel.size)
   have hr5 : rowOf w5 g = devA d L2 := (rowOf_below HG2.out hbl).trans HR2.out
   have hf5 : frOf w5 g = (0, 0) := (frOf_below HG2.out hbl).trans HF2.out
   refine wp_srow e20 e18 (by go_simp) (by go_simp) (cs := devA d { L2 with ag := A5, cg := c5 }) (by rw [rowOf_setRow _ _ _ _ (by rw [hr5]; simp [devA]), if_pos rfl]) (by go_simp) (by rw [frOf_setRow]; exact hf5) (by go_simp) ⟨undef, rfl, A5, c5, ds, w4, A6, c6, w5, hrow, heach, hbel, hfr, hbel2, ?_⟩
   rw [devA_splice_job, setRow_setRow]
 intro cv w6 hJ
 obtain ⟨A7, c7, ds, w4, A8, c8, w5, hrow, heach, hbel, hfr, hbel2, rfl⟩ := hJ
 simp only [mixAll, putAll_some, putAll_none, putAll_nil, List.getElem?_cons_zero, List.getElem?_cons_succ, Nat.zero_add, Nat.reduceAdd, List.setIfInBounds_toArray, List.set_cons_zero, List.set_cons_succ]
 have hbl := hbel.trans (hbel2.mono hbel.size)
 have hr5 : rowOf w5 g = devA d L2 := (rowOf_below HG2.out hbl).trans HR2.out
 have hf5 : frOf w5 g = (0, 0) := (frOf_below HG2.out hbl).trans HF2.out
 have hrz5 : rowOf w5 (g + 1) = devA Dev.zero DLoc.zero := (rowOf_below HGz.out hbl).trans HRz2.out
 have hfz5 : frOf w5 (g + 1) = (0, 0) := (frOf_below HGz.out hbl).trans HFz2.out
 have HGR := hD (hrow.fresh heach)
 have HFR := hD hfr
 have HB4 := hD hbel
 have HB5 := hD hbel2
 have HC7 := hD hrow.row.le
 clear hrow heach hfr hbel hbel2 hbl
 go_wp2_with fail
 refine bodyPost_ret (results_c rfl rfl (cs := devA d { L2 with ag := A7, cg := c7, aj := A8, cj := c8 }) (by go_simp) (by go_simp) (by go_simp)) rfl ?_
 have hsz := HSZ.out
 have hge := HGE.out
 have s4 := HB4.out.size
 have s5 := HB5.out.size
 have hbk := HBK.out.2.2
 refine ⟨_, rfl, DvOwn.fresh (DvOwn.mono (base := w0.heap.size) (dcEnd (.inr trivial) HL.out HI2.out HBD.out HO0.out HO1.out HBK.out HGR.out HFR.out HB4.out HB5.out HC7.out HE.out.2.2.2.2 ?_) (by omega)), ?_⟩
 ·intro k hk
  repeat (first | rfl | refine (setRow_other _ _ _ _ (by omega)).trans ?_)
 rw [hge]
 repeat (first | exact HB3.out.trans ((HB4.out.trans (HB5.out.mono s4)).mono (by omega)) | refine bR ?_ _)
theorem x27 {p : Prop} (h : p := by
 repeat (first | exact HK1.out | exact Kp.refl _ _ | refine Kp.row ?_ (by omega) _ | refine Kp.cell ?_ (by first | (show _ < _ ∨ _ <= _; omega) | (simp <;> omega)) _ | refine Kp.alloc ?_ (by first | omega | (simp <;> omega)) _)) : p := h
theorem x39 {p : Prop} (h : p := by
 repeat (first | exact HK2.out | exact Kp.refl _ _ | refine Kp.row ?_ (by omega) _ | refine Kp.cell ?_ (by first | (show _ < _ ∨ _ <= _; omega) | (simp <;> omega)) _ | refine Kp.alloc ?_ (by first | omega | (simp <;> omega)) _)) : p := h
def RdRet (w : World) (d : Dev) : Ending -> World -> Prop := fun en w' =>
 ∃ L, en = .returned (.tuple #[.agg (devA d L), .agg (recA d.rec_), iv 0]) ∧ Fresh w.heap.size w' (fun v => DvOwn v w.heap.size d L) ∧ Below w.heap.size w w'
theorem devReady_check (h : devCheck d ≠ 0) : devReady d = devCheck d := by unfold devReady; rw [if_pos h]
theorem devReady_off (h : devCheck d = 0) (hu : d.up = false) : devReady d = 5 := by unfold devReady; rw [if_neg (by omega), if_pos hu]
theorem devReady_up (h : devReady d = 0) : devCheck d = 0 ∧ d.up = true := by
 have := devReady_ok.1 h
 exact ⟨devCheck_ok.2 this.1, this.2⟩
theorem ready_bad (d : Dev) (L : DLoc) (w : World) (h : DevIn w d L) (hne : devReady d ≠ 0) : Calls Tryz.prog 43 #[.agg (devA d L)] w (RetB w (.tuple #[.agg (devA Dev.zero DLoc.zero), .agg (recA Rec.zero), iv (devReady d)])) := by
 have hba := (((Below.refl w.heap.size w).alloc (Nat.le_refl _) (.cells (devA d L) 37)).alloc (by simp) (.cells (devA Dev.zero DLoc.zero) 37)).alloc (by simp; omega) (.cells (recA Rec.zero) 28)
 have HBA := hD hba
 have HIN := hD h
 have K1 := hD (fun w h => devCheck_calls d L w h)
 by_cases hc : devCheck d ≠ 0
 first | case' inl => have T2 : Hid True := hD trivial | case' pos => have T2 : Hid True := hD trivial | case' refine_1 => have T2 : Hid True := hD trivial
 iterate 2
  ·first
    |
     revert T2; intro T2
     rw [devReady_check hc]
     have q : (devCheck d != 0) = true := by simp [hc]
     generalize devCheck d = n at *
    |
     have hc := Decidable.not_not.1 hc
     have hu : d.up = false := by
      cases hu : d.up
      ·rfl
      exact absurd (devReady_ok.2 ⟨devCheck_ok.1 hc, hu⟩) hne
     rw [devReady_off hc hu]
     rw [hc] at K1
   clear hne hc h hba
   go_enter Tryz.func43, Tryz.ntmps43
   go_wp2_with fail
   refine (K1.out _ (HIN.out.stays HBA.out)).mono ?_
   rintro e w1 ⟨rfl, hb1⟩
   obtain ⟨a0r, a0f, a0n, a0c, a0z, a0l⟩ := kp (w.heap.size) (devA d L) hb1
   obtain ⟨a1r, a1f, a1n, a1c, a1z, a1l⟩ := kp (w.heap.size + 1) (devA Dev.zero DLoc.zero) hb1
   obtain ⟨a2r, a2f, a2n, a2c, a2z, a2l⟩ := kp (w.heap.size + 1 + 1) (recA Rec.zero) hb1
   have HB1 := hD (HBA.out.trans (hb1.mono (by simp; omega)))
   clear hb1
   go_wp2_with fail
   refine bodyPost_ret (results_cct rfl rfl (cs := devA Dev.zero DLoc.zero) (ds := recA Rec.zero) (by go_simp) (by go_simp) (by go_simp) rfl (by go_simp) (by go_simp) (by go_simp)) rfl ⟨rfl, ?_⟩
   have hs := HB1.out.size
   repeat (first | exact hA | refine bR ?_ _ | refine bC ?_ _ | refine bA ?_ _)
def rdJ (w0 : World) (g : Nat) (d : Dev) : Nat -> (Nat -> Value) -> World -> Prop
 | 0, _, w => w = w0.drew
 | 1, cv, w => ∃ L2, cv 1 = .agg (devA d L2) ∧ Fresh w0.heap.size w (fun v => DvOwn v w0.heap.size d L2) ∧ Below w0.heap.size w0 w
 | 2, _, w => ∃ L2 w2, Fresh w0.heap.size w2 (fun v => DvOwn v w0.heap.size d L2) ∧ Below w0.heap.size w0 w2 ∧ w = w2.setRow (g + 1) (devA d L2)
 | _, _, w => ∃ L2 w2, Fresh w0.heap.size w2 (fun v => DvOwn v w0.heap.size d L2) ∧ Below w0.heap.size w0 w2 ∧ w = (w2.setRow (g + 1) (devA d L2)).setRow (g + 1 + 1) (recA d.rec_)
theorem rdJ_bel (hk : k <= 1) (hJ : rdJ w0 g d k cv w) : Below w0.heap.size w0 w := by
 match k, hk, hJ with
 | 0, _, hJ => obtain rfl : w = w0.drew := hJ; exact (Below.refl _ _).drew
 | 1, _, ⟨_, _, _, h⟩ => exact h
theorem rdJ_any {g6 : Nat} (hk : k <= 2) (hg : g6 ≠ g + 1) (hr : rowOf w0 g6 = recA d.rec_) (hf : frOf w0 g6 = (0, 0)) (hz : rowOf w0 (g + 1) = devA Dev.zero DLoc.zero) (hJ : rdJ w0 g d k cv w) : rowOf w g6 = recA d.rec_ ∧ frOf w g6 = (0, 0) := by
 have hlt := row_lt (w := w0) (g := g6) (by rw [hr]; simp [recA])
 have hlt1 := row_lt (w := w0) (g := g + 1) (by rw [hz]; simp [devA])
 match k, hk, hJ with
 | 0, _, hJ => have hb := rdJ_bel (k := 0) (by omega) hJ; exact ⟨(rowOf_below hlt hb).trans hr, (frOf_below hlt hb).trans hf⟩
 | 1, _, hJ => have hb := rdJ_bel (k := 1) (by omega) hJ; exact ⟨(rowOf_below hlt hb).trans hr, (frOf_below hlt hb).trans hf⟩
 | 2, _, ⟨L2, w2, _, hb, e⟩ =>
  subst e
  rw [rowOf_setRow _ _ _ _ (by rw [rowOf_below hlt1 hb, hz]; simp [devA]), if_neg hg, frOf_setRow]
  exact ⟨(rowOf_below hlt hb).trans hr, (frOf_below hlt hb).trans hf⟩
theorem ready_ok (d : Dev) (L : DLoc) (w : World) (h : DevIn w d L) (hz : devReady d = 0) : Calls Tryz.prog 43 #[.agg (devA d L)] w (RdRet w d) := by
 have hba := (((Below.refl w.heap.size w).alloc (Nat.le_refl _) (.cells (devA d L) 37)).alloc (by simp) (.cells (devA Dev.zero DLoc.zero) 37)).alloc (by simp; omega) (.cells (recA Rec.zero) 28)
 have HBA := hD hba
 have HIN := hD h
 have K1 := hD (fun w h => devCheck_calls d L w h)
 obtain ⟨hc, hu⟩ := devReady_up hz
 have K2 := hD (fun w => read_ok d.c0 d.c1 w (devCheck_ok.1 hc).cops)
 obtain ⟨rk, hrk⟩ : ∃ rk, (recRead d.c0 d.c1).2 = rk := ⟨_, rfl⟩
 have hrec : (recRead d.c0 d.c1).1 = d.rec_ := rfl
 rw [hrk, hrec] at K2
 rw [hc] at K1
 clear hz hc h hba hrk hrec
 go_enter Tryz.func43, Tryz.ntmps43
 go_wp2_with fail
 refine (K1.out _ (HIN.out.stays HBA.out)).mono ?_
 rintro e w1 ⟨rfl, hb1⟩
 obtain ⟨a0r, a0f, a0n, a0c, a0z, a0l⟩ := kp (w.heap.size) (devA d L) hb1
 obtain ⟨a1r, a1f, a1n, a1c, a1z, a1l⟩ := kp (w.heap.size + 1) (devA Dev.zero DLoc.zero) hb1
 obtain ⟨a2r, a2f, a2n, a2c, a2z, a2l⟩ := kp (w.heap.size + 1 + 1) (recA Rec.zero) hb1
 have HB1 := hD (HBA.out.trans (hb1.mono (by simp; omega)))
 clear hb1
 go_wp2_with fail
 refine (K2.out _).mono ?_
 rintro e w2 ⟨rfl, hb2⟩
 obtain ⟨a0r, a0f, a0n, a0c, a0z, a0l⟩ := kp (w.heap.size) (devA d L) hb2
 obtain ⟨a1r, a1f, a1n, a1c, a1z, a1l⟩ := kp (w.heap.size + 1) (devA Dev.zero DLoc.zero) hb2
 obtain ⟨a2r, a2f, a2n, a2c, a2z, a2l⟩ := kp (w.heap.size + 1 + 1) (recA Rec.zero) hb2
 have HB2 := bT HB1 hb2
 clear hb2
 go_wp2_with fail
 have q1 : rowOf (w2.alloc (.cells (recA d.rec_) 28)) w.heap.size = devA d L := by rw [rowOf_alloc, if_neg a0n]; exact a0r
 have q2 : frOf (w2.alloc (.cells (recA d.rec_) 28)) w.heap.size = (0, 0) := by rw [frOf_alloc, if_neg a0n]; exact a0f
 have q3 : rowOf (w2.alloc (.cells (recA d.rec_) 28)) (w.heap.size + 1) = devA Dev.zero DLoc.zero := by rw [rowOf_alloc, if_neg a1n]; exact a1r
 have q4 : frOf (w2.alloc (.cells (recA d.rec_) 28)) (w.heap.size + 1) = (0, 0) := by rw [frOf_alloc, if_neg a1n]; exact a1f
 have q5 : rowOf (w2.alloc (.cells (recA d.rec_) 28)) (w.heap.size + 1 + 1) = recA Rec.zero := by rw [rowOf_alloc, if_neg a2n]; exact a2r
 have q6 : frOf (w2.alloc (.cells (recA d.rec_) 28)) (w.heap.size + 1 + 1) = (0, 0) := by rw [frOf_alloc, if_neg a2n]; exact a2f
 have q7 : rowOf (w2.alloc (.cells (recA d.rec_) 28)) w2.heap.size = recA d.rec_ := by rw [rowOf_alloc, if_pos rfl]
 have q8 : frOf (w2.alloc (.cells (recA d.rec_) 28)) w2.heap.size = (0, 0) := by rw [frOf_alloc, if_pos rfl]
 have HB3 : Hid (Below w.heap.size w (w2.alloc (.cells (recA d.rec_) 28))) := hD (HB2.out.alloc HB2.out.size _)
 have HSZ : Hid (w.heap.size + 1 + 1 < (w2.alloc (.cells (recA d.rec_) 28)).heap.size) := hD (by simp; omega)
 have HG6 : Hid (w2.heap.size ≠ w.heap.size + 1) := hD (by omega)
 obtain ⟨g6, hg6⟩ : ∃ g6, w2.heap.size = g6 := ⟨_, rfl⟩
 obtain ⟨w3, hw3⟩ : ∃ w3, w2.alloc (.cells (recA d.rec_) 28) = w3 := ⟨_, rfl⟩
 obtain ⟨g, hg⟩ : ∃ g, w.heap.size = g := ⟨_, rfl⟩
 rw [hw3, hg] at q1 q2 q3 q4 q5 q6 HB3 HSZ
 rw [hw3, hg6] at q7 q8
 rw [hg6, hg] at HG6
 rw [hw3, hg6, hg]
 have RD := hD q1
 have FD := hD q2
 have RZ := hD q3
 have FZ := hD q4
 have RY := hD q5
 have FY := hD q6
 have RR := hD q7
 have FR := hD q8
 have HG := hD hg
 have KC : Hid (∀ wq, Below w3.heap.size w3 wq -> Calls Tryz.prog 49 #[.agg (devA d L)] wq (DcRet wq d)) := hD (fun wq h => devCopy_calls d L wq ((HIN.out.stays (HG.out ▸ HB3.out)).stays h))
 clear q1 q2 q3 q4 q5 q6 q7 q8 hw3 hg6 hg a0r a0f a0n a0c a0z a0l a1r a1f a1n a1c a1z a1l a2r a2f a2n a2c a2z a2l
 refine wp_region_mix (by kernel_rfl) (some 28 :: some 29 :: some 30 :: some 31 :: none :: none :: some 4 :: []) (none :: some 0 :: none :: none :: some 1 :: some 2 :: none :: []) (.agg (devA d L) :: undef :: .agg (recA d.rec_) :: iv 0 :: undef :: undef :: iv 0 :: []) 3 (rdJ w3 g d) 32 rfl rfl (by decide +kernel) (by decide +kernel) (by decide +kernel) (by decide +kernel) rfl rfl (by decide +kernel) (by decide +kernel) (rfl) ?_ ?_
 ·refine ⟨?_, ?_, ?_, ?_, ?_, ?_, ?_, trivial⟩
  ·intro done cv k0 a wq hw h hJ hn
   have e1 := mO 1 (.pointer (some ⟨g, 0, none⟩)) h
   have hk := hn 4 _ 1 rfl rfl (by decide)
   have hb := rdJ_bel hk hJ
   obtain ⟨r_, f_, n_, c_, z_, l_⟩ := keep1 hb RD.out (by go_simp) FD.out
   go_simp
  ·intro done cv a wq hw h hJ
   have e28 := mN 0 28 h hw
   obtain rfl : wq = w3.drew := hJ
   refine wp_call (vals := #[.agg (devA d L)]) (by rw [List.map_toArray, List.map_cons, List.map_nil, ch_ev e28]) (enters_of Tryz.func49 (by kernel_rfl) rfl _ _) (KC.out _ ((Below.refl _ _).drew)) ?_
   rintro e w' ⟨L2, rfl, hfr, hbel⟩
   exact ⟨_, rfl, _, rfl, L2, by simp, hfr, (Below.refl _ _).drew.trans hbel⟩
  ·intro done cv k0 a wq hw h hJ hn
   have e6 := mO 6 (.pointer (some ⟨g6, 0, none⟩)) h
   have hk := hn 5 _ 2 rfl rfl (by decide)
   obtain ⟨r_, f_⟩ := rdJ_any hk HG6.out RR.out FR.out RZ.out hJ
   go_simp
  ·intro done cv k0 a wq hw h hJ hn
   have e8 := mO 8 (iv 0) h
   exact mx_move (ch_ev e8)
  ·intro done cv a wq hw h hJ
   have e2 := mO 2 (.pointer (some ⟨g + 1, 0, none⟩)) h; have e29 := mx_cv (i := 1) (t := 29) h (hw 1 (by decide)) rfl rfl
   obtain ⟨L2, y1, hfr, hbel⟩ := hJ
   rw [y1] at e29
   obtain ⟨r_, f_, n_, c_, z_, l_⟩ := keep1 hbel RZ.out (by go_simp) FZ.out
   refine wp_srow e2 e29 (by go_simp) (by go_simp) r_ (by go_simp) f_ (by go_simp) ⟨undef, rfl, L2, wq, hfr, hbel, ?_⟩
   rw [splice_all _ _ (by simp [devA])]
  ·intro done cv a wq hw h hJ
   have e3 := mO 3 (.pointer (some ⟨g + 1 + 1, 0, none⟩)) h; have e30 := mN 2 30 h hw
   obtain ⟨L2, w2, hfr, hbel, rfl⟩ := hJ
   obtain ⟨r_, f_, n_, c_, z_, l_⟩ := keep1 hbel RY.out (by go_simp) FY.out
   obtain ⟨r2_, f2_, n2_, c2_, z2_, l2_⟩ := keep1 hbel RZ.out (by go_simp) FZ.out
   refine wp_srow e3 e30 (by go_simp) (by go_simp) (cs := recA Rec.zero) (by rw [rowOf_setRow _ _ _ _ (by rw [r2_]; simp [devA]), if_neg (by omega)]; exact r_) (by go_simp) (by rw [frOf_setRow]; exact f_) (by go_simp) ⟨undef, rfl, L2, w2, hfr, hbel, ?_⟩
   rw [splice_all _ _ (by simp [recA])]
  ·intro done cv k0 a wq hw h hJ hn
   have e31 := mN 3 31 h hw
   exact mx_assign (ch_ev e31)
 intro cv w4 hJ
 obtain ⟨L2, w5, hfr, hbel, rfl⟩ := hJ
 simp only [mixAll, putAll_some, putAll_none, putAll_nil, List.getElem?_cons_zero, List.getElem?_cons_succ, Nat.zero_add, Nat.reduceAdd, List.setIfInBounds_toArray, List.set_cons_zero, List.set_cons_succ]
 have hsz := HSZ.out
 have hge := HG.out
 obtain ⟨r_, f_, n_, c_, z_, l_⟩ := keep1 hbel RY.out (by go_simp) FY.out
 obtain ⟨r2_, f2_, n2_, c2_, z2_, l2_⟩ := keep1 hbel RZ.out (by go_simp) FZ.out
 have HFR := hD hfr
 have HB5 := hD hbel
 clear hfr hbel
 go_wp2_with fail
 refine bodyPost_ret (results_cct rfl rfl (cs := devA d L2) (ds := recA d.rec_) (by go_simp) (by go_simp) (by go_simp) rfl (by go_simp) (by go_simp) (by go_simp)) rfl ⟨L2, rfl, ?_, ?_⟩
 ·refine Fresh.imp (P := fun v => DvOwn v w3.heap.size d L2) (Fresh.mono (base := w3.heap.size) ?_ (by omega)) (fun v hv => hv.mono (by omega))
  repeat (first | exact HFR.out | refine Fresh.row ?_ (by omega) _)
 rw [hge]
 have hb3 := HB3.out.size
 have hb := HB3.out.trans (HB5.out.mono (by omega))
 repeat (first | exact hb | refine bR ?_ _)
end Go.Proofs.YtefkfglkpebbmacGreat
