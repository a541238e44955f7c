/- Walks of functions, and plain words. No conditions. -/
import Derived.Test.YtefkfglkpebbmadP7
set_option linter.unusedVariables false
set_option linter.unusedSimpArgs false
set_option maxRecDepth 100000
set_option maxHeartbeats 40000000
namespace Go.Proofs.Ytefkfglkpebbmad
open Go.RowKit
variable {l : List Chk} {ds : List (Option Addr × Nat)} {i g : Nat} {w : World}
def Bex (g base : Nat) (w w' : World) : Prop := Below 0 w w' ∧ ∀ k, k < base → k ≠ g → w'.heap[k]? = w.heap[k]?
section
variable {g base : Nat} {w w' w2 : World}
theorem Bex.refl (g base : Nat) (w : World) : Bex g base w w := ⟨Below.refl _ _, fun _ _ _ => rfl⟩
theorem Bex.below (h : Bex g base w w') (hb : Below w'.heap.size w' w2) (hg : g ≤ w'.heap.size) (hs : base ≤ w'.heap.size) : Bex g base w w2 := ⟨h.1.trans (hb.mono (Nat.zero_le _)), fun k h1 h2 => (hb.block k (by omega)).trans (h.2 k h1 h2)⟩
theorem Bex.row (h : Bex g base w w') {q : Nat} (hq : q = g ∨ base ≤ q) (cs : Array Value) : Bex g base w (w'.setRow q cs) := ⟨below_row h.1 (Nat.zero_le _) _, fun k h1 h2 => (setRow_other _ _ _ _ (by omega)).trans (h.2 k h1 h2)⟩
theorem Bex.alloc (h : Bex g base w w') (hg : g ≤ w'.heap.size) (hs : base ≤ w'.heap.size) (o : Obj) : Bex g base w (w'.alloc o) := h.below ((Below.refl _ _).alloc (Nat.le_refl _) o) hg hs
theorem Bex.to (h : Bex g base w w') {B : Nat} (h1 : B ≤ g) (h2 : B ≤ base) : Below B w w' := ⟨h.1.os, h.1.tape, h.1.output, h.1.size, fun k hk => h.2 k (by omega) (by omega)⟩
end
def HaRet (w : World) (g base : Nat) (x : Wor) (n : Int) : Ending → World → Prop := fun en w' =>
 en = .returned (iv n) ∧ (n = 0 → ∃ L, rowOf w' g = worA x L ∧ frOf w' g = (0, 0) ∧ ∀ v : World, (∀ k, base ≤ k → k ≠ g → k < w'.heap.size → v.heap[k]? = w'.heap[k]?) → WorIn v x L) ∧ Bex g base w w' ∧ w.heap.size ≤ w'.heap.size
theorem cells_del (h : ds.length = l.length) (hi : i < l.length) : kChk.cells (l.eraseIdx i) (ds.eraseIdx i) = (kChk.cells l ds).take (i * 5) ++ (kChk.cells l ds).drop ((i + 1) * 5) := by
 have h1 := cells_take (K := kChk) l ds h i (by omega)
 have h2 := cells_take (K := kChk) l ds h (i + 1) (by omega)
 rw [List.eraseIdx_eq_take_drop_succ, List.eraseIdx_eq_take_drop_succ, cells_append _ _ _ _ (by simp; omega), h1.1, h2.2]
 rfl
theorem erase_at {α : Type} {l : List α} {j : Nat} {o : α} (h : (l.eraseIdx i)[j]? = some o) : l[if j < i then j else j + 1]? = some o := by
 rw [List.getElem?_eraseIdx] at h
 split at h
 ·rename_i hj; rw [if_pos hj]; exact h
 ·rename_i hj; rw [if_neg hj]; exact h
theorem GRow.del {w' : World} {base c : Nat} (h : GRow kChk w base l ds (some ⟨g, 0, none⟩) c) (hi : i < l.length) (ho : Own w' base 80 5 (some ⟨g, 0, none⟩) (l.length - 1) c ((kChk.cells l ds).take (i * 5) ++ (kChk.cells l ds).drop ((i + 1) * 5)))
  (hk : ∀ k, k ≠ g → w'.heap[k]? = w.heap[k]?) (hs : w'.heap.size = w.heap.size) : GRow kChk w' base (l.eraseIdx i) (ds.eraseIdx i) (some ⟨g, 0, none⟩) c := by
 have hl := h.len
 refine ⟨by rw [List.length_eraseIdx_of_lt hi, List.length_eraseIdx_of_lt (by omega)]; omega, ?_, fun j o d h1 h2 => ?_, fun j o d h1 h2 hx k hk2 => h.off _ o d (erase_at h1) (erase_at h2) hx k hk2⟩
 ·rw [cells_del hl hi, List.length_eraseIdx_of_lt hi]; exact ho
 ·obtain ⟨h3, h4⟩ := h.data _ o d (erase_at h1) (erase_at h2)
  refine ⟨bts_keep h3 (by omega) fun hx k hlt e => hk k fun e2 => ?_, h4⟩
  have := h.off _ o d (erase_at h1) (erase_at h2) hx k e
  subst e2
  exact this rfl
theorem Each.del {P : Nat → Prop} (h : Each kChk l ds P) : Each kChk (l.eraseIdx i) (ds.eraseIdx i) P := fun j o d h1 h2 hx k hk => h _ o d (erase_at h1) (erase_at h2) hx k hk
def dhJ (w0 : World) (g gn m : Nat) (x : Wor) (L : WLoc) (i : Nat) (out : List Value) : Nat → (Nat → Value) → World → Prop
 | 0, _, w => w = w0.drew
 | 1, cv, w => cv 10 = .slice (some ⟨gn, 0, none⟩) (x.net.eraseIdx i).length L.cn ∧ Own w m 80 5 (some ⟨gn, 0, none⟩) (x.net.length - 1) L.cn out ∧ w.heap.size = w0.heap.size ∧ (∀ k, k ≠ gn → w.heap[k]? = w0.heap[k]?) ∧ Below m w0 w
 | _, _, w => ∃ w1, Own w1 m 80 5 (some ⟨gn, 0, none⟩) (x.net.length - 1) L.cn out ∧ w1.heap.size = w0.heap.size ∧ (∀ k, k ≠ gn → w1.heap[k]? = w0.heap[k]?) ∧ Below m w0 w1 ∧ w = w1.setRow g (worA { x with net := x.net.eraseIdx i } { L with an := some ⟨gn, 0, none⟩, cn := L.cn })
theorem rowOf_heap {w' : World} (h : w'.heap[g]? = w.heap[g]?) : rowOf w' g = rowOf w g ∧ frOf w' g = frOf w g := by unfold rowOf frOf; rw [h]; exact ⟨rfl, rfl⟩
theorem dhJ_row {w0 : World} {gn m k q : Nat} {x : Wor} {L : WLoc} {out : List Value} {cv : Nat → Value} {cs : Array Value} (hk : k ≤ 1) (hq : q ≠ gn) (hr : rowOf w0 q = cs) (hf : frOf w0 q = (0, 0)) (h0 : 0 < cs.size) (hJ : dhJ w0 g gn m x L i out k cv w) :
  rowOf w q = cs ∧ frOf w q = (0, 0) ∧ (∀ j, w.cell? ⟨q, j, none⟩ = cs[j]?) := by
 have key : w.heap[q]? = w0.heap[q]? → rowOf w q = cs ∧ frOf w q = (0, 0) ∧ (∀ j, w.cell? ⟨q, j, none⟩ = cs[j]?) := fun e => by
  obtain ⟨e1, e2⟩ := rowOf_heap e
  have e3 := e1.trans hr
  exact ⟨e3, e2.trans hf, fun j => by rw [cell_row (by rw [e3]; exact h0), e3]⟩
 rcases (show k = 0 ∨ k = 1 by omega) with rfl | rfl
 ·have hJ' : w = w0.drew := hJ
  subst hJ'
  exact key rfl
 ·obtain ⟨_, _, _, h, _⟩ := hJ
  exact key (h q hq)
theorem hear_who (g base m top : Nat) (ds : List (Option Addr × Nat)) (n : Int) (x : Wor) (L : WLoc) (w : World) (hr : rowOf w g = worA x L) (hf : frOf w g = (0, 0)) (hg : g < base ∨ top ≤ g) (h : WorAt w base m top ds x L) (hnet : x.net.length ≤ 120) (k : Int) (hn : n < 0 ∨ (x.net.length : Int) ≤ n) : Calls Try.prog 40 #[.pointer (some ⟨g, 0, none⟩), .agg #[iv k, iv n]] w (HaRet w g base Wor.zero 4) := by
 have hlt : g < w.heap.size := row_lt (w := w) (by rw [hr]; simp [worA])
 have hm3 := h.h3
 have hm2 := h.h2
 have hm1 := h.h1
 have hp : 0 < (rowOf w g).size := by rw [hr]; simp [worA]
 have q1 : rowOf ((w.alloc (.cells #[iv k, iv n] 52)).drew) g = worA x L := by rw [rowOf_drew, rowOf_alloc, if_neg (by omega)]; exact hr
 have q2 : frOf ((w.alloc (.cells #[iv k, iv n] 52)).drew) g = (0, 0) := by rw [frOf_drew, frOf_alloc, if_neg (by omega)]; exact hf
 have q3 : rowOf ((w.alloc (.cells #[iv k, iv n] 52)).drew) w.heap.size = #[iv k, iv n] := by rw [rowOf_drew, rowOf_alloc, if_pos rfl]
 have q4 : frOf ((w.alloc (.cells #[iv k, iv n] 52)).drew) w.heap.size = (0, 0) := by rw [frOf_drew, frOf_alloc, if_pos rfl]
 obtain ⟨w1, hw1⟩ : ∃ w1, w.alloc (.cells #[iv k, iv n] 52) = w1 := ⟨_, rfl⟩
 have HX1 : Hid (Bex g base w w1) := hD (by rw [← hw1]; exact (Bex.refl _ _ _).alloc (by omega) (by omega) _)
 have HW1 : Hid (WorAt w1 base m top ds x L) := hD (h.same (fun k a b => by rw [← hw1]; exact Below.heap_alloc w _ k (by omega)) (by rw [← hw1]; simp; omega))
 have hs1 : w1.heap.size = w.heap.size + 1 := by rw [← hw1]; simp
 rw [hw1] at q1 q2 q3 q4
 have RW := hD q1
 have FW := hD q2
 have RX := hD q3
 have FX := hD q4
 by_cases c1 : n < 0
 ·have HA := hD c1
  clear c1 hn
  clear q1 q2 q3 q4 hr hf h hp
  go_enter Try.func40, Try.ntmps40
  go_wp2_with fail
  try rw [hw1]
  clear hw1
  refine wp_region_chain (by kernel_rfl) (some 7 :: some 8 :: some 9 :: some 10 :: some 11 :: some 12 :: some 13 :: some 14 :: some 15 :: some 16 :: some 17 :: some 18 :: some 19 :: []) (.pointer (some ⟨w.heap.size, 1, none⟩) :: iv n :: .bool true :: .bool true :: undef :: undef :: undef :: undef :: undef :: undef :: undef :: undef :: .bool true :: []) 62 rfl rfl (by decide +kernel) (by decide +kernel) (by decide +kernel) rfl ?_ ?_
  ·refine ⟨.inl ⟨rfl, fun done a wq hw h => ?_⟩, ?_⟩
   ·have e3 := cO 3 (.pointer (some ⟨w.heap.size, 0, none⟩)) h; refine ch_pure ?_; go_simp
   refine ⟨.inl ⟨rfl, fun done a wq hw h => ?_⟩, ?_⟩
   ·have e7 := cN 0 7 h hw; obtain ⟨r_, f_, n_, c_, z_, l_⟩ := keep1 h.bel RX.out (by simp) FX.out; refine ch_pure ?_; go_simp
   refine ⟨.inl ⟨rfl, fun done a wq hw h => ?_⟩, ?_⟩
   ·have e8 := cN 1 8 h hw; exact ch_lss_int (by kernel_rfl) (ch_ev e8) rfl (by have := HA.out; simp; omega)
   refine ⟨.inl ⟨rfl, fun done a wq hw h => ?_⟩, ?_⟩
   ·have e9 := cN 2 9 h hw; exact ch_move (ch_ev e9)
   iterate 8 refine ⟨.inr ⟨rfl, rfl⟩, ?_⟩
   refine ⟨.inl ⟨rfl, fun done a wq hw h => ?_⟩, ?_⟩
   ·have e10 := cN 3 10 h hw; exact ch_pick_t e10 rfl
   exact trivial
  ·intro w3 hb
   simp only [putAll_some, putAll_none, putAll_nil, List.setIfInBounds_toArray, List.set_cons_zero, List.set_cons_succ]
   have hb3 : Below w1.heap.size w1 w3 := hb
   have HX3 := hD (HX1.out.below hb3 (by omega) (by omega))
   have hs3 := hb3.size
   clear hb hb3
   go_wp2_with fail
   go_ret
   exact ⟨rfl, fun e => absurd e (by decide), HX3.out, by omega⟩
 ·have HA : Hid (¬ n < 0 ∧ (x.net.length : Int) ≤ n) := hD ⟨c1, hn.resolve_left c1⟩
  clear c1 hn
  clear q1 q2 q3 q4 hr hf h hp
  go_enter Try.func40, Try.ntmps40
  go_wp2_with fail
  try rw [hw1]
  clear hw1
  refine wp_region_chain (by kernel_rfl) (some 7 :: some 8 :: some 9 :: some 10 :: some 11 :: some 12 :: some 13 :: some 14 :: some 15 :: some 16 :: some 17 :: some 18 :: some 19 :: []) (.pointer (some ⟨w.heap.size, 1, none⟩) :: iv n :: .bool false :: .bool false :: .pointer (some ⟨w.heap.size, 1, none⟩) :: iv n :: .pointer (some ⟨g, 0, none⟩) :: .pointer (some ⟨g, 0, none⟩) :: .pointer (some ⟨g, 38, none⟩) :: .slice L.an x.net.length L.cn :: iv (x.net.length : Int) :: .bool true :: .bool true :: []) 62 rfl rfl (by decide +kernel) (by decide +kernel) (by decide +kernel) rfl ?_ ?_
  ·refine ⟨.inl ⟨rfl, fun done a wq hw h => ?_⟩, ?_⟩
   ·have e3 := cO 3 (.pointer (some ⟨w.heap.size, 0, none⟩)) h; refine ch_pure ?_; go_simp
   refine ⟨.inl ⟨rfl, fun done a wq hw h => ?_⟩, ?_⟩
   ·have e7 := cN 0 7 h hw; obtain ⟨r_, f_, n_, c_, z_, l_⟩ := keep1 h.bel RX.out (by simp) FX.out; refine ch_pure ?_; go_simp
   refine ⟨.inl ⟨rfl, fun done a wq hw h => ?_⟩, ?_⟩
   ·have e8 := cN 1 8 h hw; exact ch_lss_int (by kernel_rfl) (ch_ev e8) rfl (by have := HA.out; simp; omega)
   refine ⟨.inl ⟨rfl, fun done a wq hw h => ?_⟩, ?_⟩
   ·have e9 := cN 2 9 h hw; exact ch_move (ch_ev e9)
   refine ⟨.inl ⟨rfl, fun done a wq hw h => ?_⟩, ?_⟩
   ·have e3 := cO 3 (.pointer (some ⟨w.heap.size, 0, none⟩)) h; refine ch_pure ?_; go_simp
   refine ⟨.inl ⟨rfl, fun done a wq hw h => ?_⟩, ?_⟩
   ·have e11 := cN 4 11 h hw; obtain ⟨r_, f_, n_, c_, z_, l_⟩ := keep1 h.bel RX.out (by simp) FX.out; refine ch_pure ?_; go_simp
   refine ⟨.inl ⟨rfl, fun done a wq hw h => ?_⟩, ?_⟩
   ·have e0 := cO 0 (.pointer (some ⟨g, 0, none⟩)) h; exact ch_move (ch_ev e0)
   refine ⟨.inl ⟨rfl, fun done a wq hw h => ?_⟩, ?_⟩
   ·have e13 := cN 6 13 h hw; refine ch_pure ?_; go_simp
   refine ⟨.inl ⟨rfl, fun done a wq hw h => ?_⟩, ?_⟩
   ·have e14 := cN 7 14 h hw; refine ch_pure ?_; go_simp
   refine ⟨.inl ⟨rfl, fun done a wq hw h => ?_⟩, ?_⟩
   ·have e15 := cN 8 15 h hw; obtain ⟨r_, f_, n_, c_, z_, l_⟩ := keep1 h.bel RW.out (by go_simp) FW.out; refine ch_pure ?_; go_simp
   refine ⟨.inl ⟨rfl, fun done a wq hw h => ?_⟩, ?_⟩
   ·have e16 := cN 9 16 h hw; refine ch_pure ?_; go_simp
   refine ⟨.inl ⟨rfl, fun done a wq hw h => ?_⟩, ?_⟩
   ·have e12 := cN 5 12 h hw; have e17 := cN 10 17 h hw; exact ch_geq_int (by kernel_rfl) (ch_ev e12) (ch_ev e17) (by have := HA.out; simp; omega)
   refine ⟨.inl ⟨rfl, fun done a wq hw h => ?_⟩, ?_⟩
   ·have e10 := cN 3 10 h hw; have e18 := cN 11 18 h hw; exact ch_pick_f e10 (ch_ev e18)
   exact trivial
  ·intro w3 hb
   simp only [putAll_some, putAll_none, putAll_nil, List.setIfInBounds_toArray, List.set_cons_zero, List.set_cons_succ]
   have hb3 : Below w1.heap.size w1 w3 := hb
   have HX3 := hD (HX1.out.below hb3 (by omega) (by omega))
   have hs3 := hb3.size
   clear hb hb3
   go_wp2_with fail
   go_ret
   exact ⟨rfl, fun e => absurd e (by decide), HX3.out, by omega⟩
theorem hear_h2_ : (∀ (g base m top : Nat) (ds : List (Option Addr × Nat)) (n : Int) (x : Wor) (L : WLoc) (w : World) (hr : rowOf w g = worA x L) (hf : frOf w g = (0, 0)) (hg : g < base ∨ top ≤ g) (h : WorAt w base m top ds x L) (hnet : x.net.length ≤ 120) (i : Nat) (hni : n = (i : Int)) (hi : i < x.net.length), Calls Try.prog 40 #[.pointer (some ⟨g, 0, none⟩), .agg #[iv 2, iv n]] w (HaRet w g base (worHear x 2 n).1 (worHear x 2 n).2)) ∧ (∀ (g base m top : Nat) (ds : List (Option Addr × Nat)) (n : Int) (x : Wor) (L : WLoc) (w : World) (hr : rowOf w g = worA x L) (hf : frOf w g = (0, 0)) (hg : g < base ∨ top ≤ g) (h : WorAt w base m top ds x L) (hnet : x.net.length ≤ 120) (i : Nat) (hni : n = (i : Int)) (hi : i < x.net.length), Calls Try.prog 40 #[.pointer (some ⟨g, 0, none⟩), .agg #[iv 3, iv n]] w (HaRet w g base (worHear x 3 n).1 (worHear x 3 n).2)) ∧ (∀ (g base m top : Nat) (ds : List (Option Addr × Nat)) (n : Int) (x : Wor) (L : WLoc) (w : World) (hr : rowOf w g = worA x L) (hf : frOf w g = (0, 0)) (hg : g < base ∨ top ≤ g) (h : WorAt w base m top ds x L) (hnet : x.net.length ≤ 120) (i : Nat) (hni : n = (i : Int)) (hi : i < x.net.length), Calls Try.prog 40 #[.pointer (some ⟨g, 0, none⟩), .agg #[iv 4, iv n]] w (HaRet w g base (worHear x 4 n).1 (worHear x 4 n).2)) := by
 refine ⟨?_, ?_, ?_⟩
 case' refine_1 => have U01 : Hid True := hD trivial; have U02 : Hid True := hD trivial; intro g base m top ds n x L w hr hf hg h hnet i hni hi
 case' refine_2 => have U02 : Hid True := hD trivial; intro g base m top ds n x L w hr hf hg h hnet i hni hi
 case' refine_3 => intro g base m top ds n x L w hr hf hg h hnet i hni hi
 all_goals
  have hlt : g < w.heap.size := row_lt (w := w) (by rw [hr]; simp [worA])
  have hm3 := h.h3
  have hm2 := h.h2
  have hm1 := h.h1
  first
   |
    revert U02; intro U02
    first
     |
      revert U01; intro U01
      have hdef : worHear x 2 n = if (devHear x.d (x.net.getD i Chk.zero)).2 ≠ 0 then (Wor.zero, (devHear x.d (x.net.getD i Chk.zero)).2) else (⟨x.rel, (devHear x.d (x.net.getD i Chk.zero)).1, x.net.eraseIdx i⟩, 0) := by
       subst hni
       unfold worHear
       rw [if_neg (by omega)]
       by_cases c : (devHear x.d (x.net.getD i Chk.zero)).2 ≠ 0
       ·rw [if_pos c, if_pos ⟨by decide, by simpa using c⟩]
        simp
       ·rw [if_neg c, if_neg (fun e => c (by simpa using e.2))]
        simp
     |
      have hdef : worHear x 3 n = if (devHear x.d (x.net.getD i Chk.zero)).2 ≠ 0 then (Wor.zero, (devHear x.d (x.net.getD i Chk.zero)).2) else (⟨x.rel, (devHear x.d (x.net.getD i Chk.zero)).1, x.net⟩, 0) := by
       subst hni
       unfold worHear
       rw [if_neg (by omega)]
       by_cases c : (devHear x.d (x.net.getD i Chk.zero)).2 ≠ 0
       ·rw [if_pos c, if_pos ⟨by decide, by simpa using c⟩]
        simp
       ·rw [if_neg c, if_neg (fun e => c (by simpa using e.2))]
        simp
   |
    have hdef : worHear x 4 n = (⟨x.rel, x.d, x.net.eraseIdx i⟩, 0) := by
     subst hni
     unfold worHear
     rw [if_neg (by omega)]
     rw [if_neg (by simp)]
     simp
  have HD := hD hdef
  obtain ⟨y, hy⟩ : ∃ y, x.net[i] = y := ⟨_, rfl⟩
  have hgd : x.net.getD i Chk.zero = y := by rw [← hy]; simp [hi]
  try rw [hgd] at HD
  have HY : Hid (x.net[i]? = some y) := hD (by rw [List.getElem?_eq_getElem hi, hy])
  have hin := (h.net.src.chs h.bd).chk hi
  rw [hy] at hin
  first
   |
    revert U02; intro U02
    first
     |
      revert U01; intro U01
      generalize worHear x 2 n = res at *
     | generalize worHear x 3 n = res at *
   | generalize worHear x 4 n = res at *
  clear hdef hgd hy
  have hp : 0 < (rowOf w g).size := by rw [hr]; simp [worA]
  first
   |
    revert U02; intro U02
    first
     |
      revert U01; intro U01
      have q1 : rowOf ((w.alloc (.cells #[iv 2, iv n] 52)).drew) g = worA x L := by rw [rowOf_drew, rowOf_alloc, if_neg (by omega)]; exact hr
     | have q1 : rowOf ((w.alloc (.cells #[iv 3, iv n] 52)).drew) g = worA x L := by rw [rowOf_drew, rowOf_alloc, if_neg (by omega)]; exact hr
   | have q1 : rowOf ((w.alloc (.cells #[iv 4, iv n] 52)).drew) g = worA x L := by rw [rowOf_drew, rowOf_alloc, if_neg (by omega)]; exact hr
  first
   |
    revert U02; intro U02
    first
     |
      revert U01; intro U01
      have q2 : frOf ((w.alloc (.cells #[iv 2, iv n] 52)).drew) g = (0, 0) := by rw [frOf_drew, frOf_alloc, if_neg (by omega)]; exact hf
     | have q2 : frOf ((w.alloc (.cells #[iv 3, iv n] 52)).drew) g = (0, 0) := by rw [frOf_drew, frOf_alloc, if_neg (by omega)]; exact hf
   | have q2 : frOf ((w.alloc (.cells #[iv 4, iv n] 52)).drew) g = (0, 0) := by rw [frOf_drew, frOf_alloc, if_neg (by omega)]; exact hf
  first
   |
    revert U02; intro U02
    first
     |
      revert U01; intro U01
      have q3 : rowOf ((w.alloc (.cells #[iv 2, iv n] 52)).drew) w.heap.size = #[iv 2, iv n] := by rw [rowOf_drew, rowOf_alloc, if_pos rfl]
     | have q3 : rowOf ((w.alloc (.cells #[iv 3, iv n] 52)).drew) w.heap.size = #[iv 3, iv n] := by rw [rowOf_drew, rowOf_alloc, if_pos rfl]
   | have q3 : rowOf ((w.alloc (.cells #[iv 4, iv n] 52)).drew) w.heap.size = #[iv 4, iv n] := by rw [rowOf_drew, rowOf_alloc, if_pos rfl]
  first
   |
    revert U02; intro U02
    first
     |
      revert U01; intro U01
      have q4 : frOf ((w.alloc (.cells #[iv 2, iv n] 52)).drew) w.heap.size = (0, 0) := by rw [frOf_drew, frOf_alloc, if_pos rfl]
     | have q4 : frOf ((w.alloc (.cells #[iv 3, iv n] 52)).drew) w.heap.size = (0, 0) := by rw [frOf_drew, frOf_alloc, if_pos rfl]
   | have q4 : frOf ((w.alloc (.cells #[iv 4, iv n] 52)).drew) w.heap.size = (0, 0) := by rw [frOf_drew, frOf_alloc, if_pos rfl]
  first
   |
    revert U02; intro U02
    first
     |
      revert U01; intro U01
      obtain ⟨w1, hw1⟩ : ∃ w1, w.alloc (.cells #[iv 2, iv n] 52) = w1 := ⟨_, rfl⟩
     | obtain ⟨w1, hw1⟩ : ∃ w1, w.alloc (.cells #[iv 3, iv n] 52) = w1 := ⟨_, rfl⟩
   | obtain ⟨w1, hw1⟩ : ∃ w1, w.alloc (.cells #[iv 4, iv n] 52) = w1 := ⟨_, rfl⟩
  have HX1 : Hid (Bex g base w w1) := hD (by rw [← hw1]; exact (Bex.refl _ _ _).alloc (by omega) (by omega) _)
  have HW1 : Hid (WorAt w1 base m top ds x L) := hD (h.same (fun k a b => by rw [← hw1]; exact Below.heap_alloc w _ k (by omega)) (by rw [← hw1]; simp; omega))
  have hs1 : w1.heap.size = w.heap.size + 1 := by rw [← hw1]; simp
  rw [hw1] at q1 q2 q3 q4
  have RW := hD q1
  have FW := hD q2
  have RX := hD q3
  have FX := hD q4
  have HA : Hid (¬ n < 0 ∧ ¬ (x.net.length : Int) ≤ n) := hD (by omega)
  obtain ⟨gn, on, B, e, hAn, hbn, hck, hci⟩ := hin
  obtain ⟨gq, hAn2, hgn1, hgn2⟩ := h.net.row.form (by omega)
  rw [hAn] at hAn2
  injection hAn2 with hAn2
  injection hAn2 with e1 e2
  subst e1 e2
  have hgnT := h.blk gn (by rw [hAn]; rfl)
  have HAN := hD hAn
  have HNI := hD hni
  have HCI : Hid (ChkIn w1 y B e) := hD (hci.stays (by rw [← hw1]; exact (Below.refl _ _).alloc (Nat.le_refl _) _))
  have HCK : Hid (ChkAt w1 gn (0 + i * 5) y B e) := hD (hck.stays hbn (by rw [← hw1]; exact (Below.refl _ _).alloc (Nat.le_refl _) _))
  have hcn := h.net.row.le
  clear hAn hck hci hni
  clear q1 q2 q3 q4 hr hf h hp
  go_enter Try.func40, Try.ntmps40
  go_wp2_with fail
  try rw [hw1]
  clear hw1
  refine wp_region_chain (by kernel_rfl) (some 7 :: some 8 :: some 9 :: some 10 :: some 11 :: some 12 :: some 13 :: some 14 :: some 15 :: some 16 :: some 17 :: some 18 :: some 19 :: []) (.pointer (some ⟨w.heap.size, 1, none⟩) :: iv n :: .bool false :: .bool false :: .pointer (some ⟨w.heap.size, 1, none⟩) :: iv n :: .pointer (some ⟨g, 0, none⟩) :: .pointer (some ⟨g, 0, none⟩) :: .pointer (some ⟨g, 38, none⟩) :: .slice L.an x.net.length L.cn :: iv (x.net.length : Int) :: .bool false :: .bool false :: []) 62 rfl rfl (by decide +kernel) (by decide +kernel) (by decide +kernel) rfl ?_ ?_
  ·refine ⟨.inl ⟨rfl, fun done a wq hw h => ?_⟩, ?_⟩
   ·have e3 := cO 3 (.pointer (some ⟨w.heap.size, 0, none⟩)) h; refine ch_pure ?_; go_simp
   refine ⟨.inl ⟨rfl, fun done a wq hw h => ?_⟩, ?_⟩
   ·have e7 := cN 0 7 h hw; obtain ⟨r_, f_, n_, c_, z_, l_⟩ := keep1 h.bel RX.out (by simp) FX.out; refine ch_pure ?_; go_simp
   refine ⟨.inl ⟨rfl, fun done a wq hw h => ?_⟩, ?_⟩
   ·have e8 := cN 1 8 h hw; exact ch_lss_int (by kernel_rfl) (ch_ev e8) rfl (by have := HA.out; simp; omega)
   refine ⟨.inl ⟨rfl, fun done a wq hw h => ?_⟩, ?_⟩
   ·have e9 := cN 2 9 h hw; exact ch_move (ch_ev e9)
   refine ⟨.inl ⟨rfl, fun done a wq hw h => ?_⟩, ?_⟩
   ·have e3 := cO 3 (.pointer (some ⟨w.heap.size, 0, none⟩)) h; refine ch_pure ?_; go_simp
   refine ⟨.inl ⟨rfl, fun done a wq hw h => ?_⟩, ?_⟩
   ·have e11 := cN 4 11 h hw; obtain ⟨r_, f_, n_, c_, z_, l_⟩ := keep1 h.bel RX.out (by simp) FX.out; refine ch_pure ?_; go_simp
   refine ⟨.inl ⟨rfl, fun done a wq hw h => ?_⟩, ?_⟩
   ·have e0 := cO 0 (.pointer (some ⟨g, 0, none⟩)) h; exact ch_move (ch_ev e0)
   refine ⟨.inl ⟨rfl, fun done a wq hw h => ?_⟩, ?_⟩
   ·have e13 := cN 6 13 h hw; refine ch_pure ?_; go_simp
   refine ⟨.inl ⟨rfl, fun done a wq hw h => ?_⟩, ?_⟩
   ·have e14 := cN 7 14 h hw; refine ch_pure ?_; go_simp
   refine ⟨.inl ⟨rfl, fun done a wq hw h => ?_⟩, ?_⟩
   ·have e15 := cN 8 15 h hw; obtain ⟨r_, f_, n_, c_, z_, l_⟩ := keep1 h.bel RW.out (by go_simp) FW.out; refine ch_pure ?_; go_simp
   refine ⟨.inl ⟨rfl, fun done a wq hw h => ?_⟩, ?_⟩
   ·have e16 := cN 9 16 h hw; refine ch_pure ?_; go_simp
   refine ⟨.inl ⟨rfl, fun done a wq hw h => ?_⟩, ?_⟩
   ·have e12 := cN 5 12 h hw; have e17 := cN 10 17 h hw; exact ch_geq_int (by kernel_rfl) (ch_ev e12) (ch_ev e17) (by have := HA.out; simp; omega)
   refine ⟨.inl ⟨rfl, fun done a wq hw h => ?_⟩, ?_⟩
   ·have e10 := cN 3 10 h hw; have e18 := cN 11 18 h hw; exact ch_pick_f e10 (ch_ev e18)
   exact trivial
  ·intro w3 hb
   simp only [putAll_some, putAll_none, putAll_nil, List.setIfInBounds_toArray, List.set_cons_zero, List.set_cons_succ]
   have hb3 : Below w1.heap.size w1 w3 := hb
   have HX3 := hD (HX1.out.below hb3 (by omega) (by omega))
   have hs3 := hb3.size
   obtain ⟨a0r, a0f, a0n, a0c, a0z, a0l⟩ := keep1 hb RW.out (by go_simp) FW.out
   obtain ⟨a1r, a1f, a1n, a1c, a1z, a1l⟩ := keep1 hb RX.out (by simp) FX.out
   have HW3 : Hid (WorAt w3 base m top ds x L) := hD (HW1.out.same (fun k a b => hb3.block k (by omega)) (by omega))
   have HCI3 : Hid (ChkIn w3 y B e) := hD (HCI.out.stays hb3)
   have HCK3 : Hid (ChkAt w3 gn (0 + i * 5) y B e) := hD (HCK.out.stays (by omega) hb3)
   clear hb hb3 RW FW RX FX HX1 HW1 HCI HCK
   go_wp2_with fail
   first
    |
     revert U02; intro U02
     have RW3 := hD a0r
     have FW3 := hD a0f
     have RX3 := hD a1r
     have FX3 := hD a1f
     obtain ⟨⟨d2, e2⟩, hd2⟩ : ∃ z, devHear x.d y = z := ⟨_, rfl⟩
     rw [hd2] at HD
     have KH : Hid (∀ wq, Below w3.heap.size w3 wq → Calls Try.prog 58 #[.agg (devA x.d L.l), .agg (chkA y.from_ y.to_ y.n y.of_ B y.data.length e)] wq (DvRet wq d2 e2)) := hD (fun wq hb => by
      have h9 := devHear_calls x.d L.l y B e wq (HW3.out.dev.now.stays hb) (HCI3.out.stays hb)
      rw [hd2] at h9
      exact h9)
     clear hd2
     refine wp_region_free (by kernel_rfl) (some 24 :: some 25 :: some 26 :: some 27 :: some 28 :: some 29 :: some 30 :: some 31 :: some 32 :: some 33 :: some 34 :: some 35 :: some 36 :: some 23 :: some 37 :: some 38 :: some 5 :: none :: some 6 :: []) (false :: false :: false :: false :: false :: false :: false :: false :: false :: false :: false :: false :: true :: true :: true :: true :: true :: true :: true :: []) (.pointer (some ⟨g, 0, none⟩) :: .pointer (some ⟨g, 0, none⟩) :: .pointer (some ⟨g, 1, none⟩) :: .agg (devA x.d L.l) :: .pointer (some ⟨g, 0, none⟩) :: .pointer (some ⟨g, 0, none⟩) :: .pointer (some ⟨g, 38, none⟩) :: .slice L.an x.net.length L.cn :: .pointer (some ⟨w.heap.size, 1, none⟩) :: iv n :: .pointer (some ⟨gn, 0 + i * 5, none⟩) :: .agg (chkA y.from_ y.to_ y.n y.of_ B y.data.length e) :: undef :: undef :: undef :: undef :: undef :: undef :: undef :: []) (cbJ w3 12 13 14 15 16 17 18 (fun L2 => devA d2 L2) (devA Dev.zero DLoc.zero) e2 (fun L2 u => DevIn u d2 L2)) 62 rfl rfl (by decide +kernel) (by decide +kernel) (by decide +kernel) rfl rfl (cbJ_start DLoc.zero) ?_ ?_
     ·refine ⟨?_, ?_⟩
      ·intro done cv a wq hn hw hcl h hJ
       have e0 := fO 0 (.pointer (some ⟨g, 0, none⟩)) h
       exact mx_move (ch_ev e0)
      refine ⟨?_, ?_⟩
      ·intro done cv a wq hn hw hcl h hJ
       have e24 := fN 0 24 h hw
       go_simp
      refine ⟨?_, ?_⟩
      ·intro done cv a wq hn hw hcl h hJ
       have e25 := fN 1 25 h hw
       go_simp
      refine ⟨?_, ?_⟩
      ·intro done cv a wq hn hw hcl h hJ
       have e26 := fN 2 26 h hw
       obtain ⟨r_, f_, n_, c_, z_, l_⟩ := keep1 (cbJ_bel hJ) RW3.out (by go_simp) FW3.out
       go_simp
      refine ⟨?_, ?_⟩
      ·intro done cv a wq hn hw hcl h hJ
       have e0 := fO 0 (.pointer (some ⟨g, 0, none⟩)) h
       exact mx_move (ch_ev e0)
      refine ⟨?_, ?_⟩
      ·intro done cv a wq hn hw hcl h hJ
       have e28 := fN 4 28 h hw
       go_simp
      refine ⟨?_, ?_⟩
      ·intro done cv a wq hn hw hcl h hJ
       have e29 := fN 5 29 h hw
       go_simp
      refine ⟨?_, ?_⟩
      ·intro done cv a wq hn hw hcl h hJ
       have e30 := fN 6 30 h hw
       obtain ⟨r_, f_, n_, c_, z_, l_⟩ := keep1 (cbJ_bel hJ) RW3.out (by go_simp) FW3.out
       go_simp
      refine ⟨?_, ?_⟩
      ·intro done cv a wq hn hw hcl h hJ
       have e3 := fO 3 (.pointer (some ⟨w.heap.size, 0, none⟩)) h
       go_simp
      refine ⟨?_, ?_⟩
      ·intro done cv a wq hn hw hcl h hJ
       have e32 := fN 8 32 h hw
       obtain ⟨r_, f_, n_, c_, z_, l_⟩ := keep1 (cbJ_bel hJ) RX3.out (by simp) FX3.out
       go_simp
      refine ⟨?_, ?_⟩
      ·intro done cv a wq hn hw hcl h hJ
       have e31 := fN 7 31 h hw; have e33 := fN 9 33 h hw
       have h_ := HAN.out
       have h1_ := HNI.out
       have h2_ : (i : Int) < (x.net.length : Int) := by omega
       have h3_ : (x.net.length : Int) ≤ (L.cn : Int) := by omega
       go_simp
      refine ⟨?_, ?_⟩
      ·intro done cv a wq hn hw hcl h hJ
       have e34 := fN 10 34 h hw
       have hk_ := HCK3.out.stays (by omega) (cbJ_bel hJ)
       obtain ⟨k0_, k1_, k2_, k3_, k4_⟩ := hk_
       rw [Nat.zero_add] at k0_ k1_ k2_ k3_ k4_
       go_simp
      refine ⟨?_, ?_⟩
      ·intro done cv a wq hn hw hcl h hJ
       have e27 := fN 3 27 h hw; have e35 := fN 11 35 h hw
       have n12 := hn
       have n13 := nW 13 12 hcl n12
       have n14 := nW 14 13 hcl n13
       have n15 := nW 15 13 hcl n13
       have n18 := nW 18 15 hcl n15
       have n17 := nW 17 14 hcl n14
       have hbq := cbJ_bel hJ
       refine wp_call (vals := #[.agg (devA x.d L.l), .agg (chkA y.from_ y.to_ y.n y.of_ B y.data.length e)]) (by rw [List.map_toArray, List.map_cons, List.map_cons, List.map_nil, ch_ev e27, ch_ev e35]) (enters_of Try.func58 (by kernel_rfl) rfl _ _) (KH.out _ hbq) ?_
       rintro e w' ⟨L2, rfl, hfr, hbel⟩
       exact ⟨_, rfl, _, rfl, cbJ_c (by simp [maskB, n13]) (by simp [maskB, n14]) (by simp [maskB, n15]) (by simp [maskB, n18]) (by simp [maskB, n17]) (by decide) (by decide) (by decide) (by decide) (by decide) (by decide) hJ (x := L2) hfr hbel⟩
      refine ⟨?_, ?_⟩
      ·intro done cv a wq hn hw hcl h hJ
       have e36 := fr_cv (i := 12) (t := 36) h (hw 12 (by decide)) rfl rfl
       have m12 := hw 12 (by decide)
       refine wp_val (v := cv 12) (mx_move (ch_ev e36)) ⟨_, rfl, cbJ_k (by decide) (by decide) (by decide) hJ (fun x q _ _ _ => ⟨fun _ => q (by simp [maskB, m12]), fun h => absurd h (by decide), fun h => absurd h (by decide), fun h => absurd h (by decide)⟩)⟩
      refine ⟨?_, ?_⟩
      ·intro done cv a wq hn hw hcl h hJ
       have e23 := fr_cv (i := 13) (t := 23) h (hw 13 (by decide)) rfl rfl
       have m13 := hw 13 (by decide)
       obtain ⟨x, b_, gb_, w2_, hj_⟩ := hJ
       have y := hj_.v1 (by simp [maskB, m13])
       rw [y] at e23
       refine wp_val (v := .agg ((fun L2 => devA d2 L2) x)) (by go_simp) ⟨_, rfl, cbJ_k (by decide) (by decide) (by decide) ⟨x, b_, gb_, w2_, hj_⟩ (fun x3 _ h8 _ _ => ⟨fun h => absurd h (by decide), fun _ => by have q9 := h8 (by simp [maskB, m13]); rw [y] at q9; simp at q9 ⊢; first | exact q9 | exact q9.symm | trivial, fun h => absurd h (by decide), fun h => absurd h (by decide)⟩)⟩
      refine ⟨?_, ?_⟩
      ·intro done cv a wq hn hw hcl h hJ
       have e23 := fr_cv (i := 13) (t := 23) h (hw 13 (by decide)) rfl rfl
       have m13 := hw 13 (by decide)
       obtain ⟨x, b_, gb_, w2_, hj_⟩ := hJ
       have y := hj_.v1 (by simp [maskB, m13])
       rw [y] at e23
       refine wp_val (v := iv e2) (by go_simp) ⟨_, rfl, cbJ_k (by decide) (by decide) (by decide) ⟨x, b_, gb_, w2_, hj_⟩ (fun x3 _ h8 _ _ => ⟨fun h => absurd h (by decide), fun h => absurd h (by decide), fun _ => rfl, fun h => absurd h (by decide)⟩)⟩
      refine ⟨?_, ?_⟩
      ·intro done cv a wq hn hw hcl h hJ
       have n16 := hn
       have n17 := nW 17 16 hcl n16
       refine wp_alloc (zr := devA Dev.zero DLoc.zero) (fun ev => by go_simp) ⟨_, rfl, cbJ_a (by go_simp) (by simp [maskB, n16]) (by simp [maskB, n17]) (by decide) (by decide) (by decide) (by decide) (by decide) (by decide) hJ⟩
      refine ⟨?_, ?_⟩
      ·intro done cv a wq hn hw hcl h hJ
       have e5 := fr_cv (i := 16) (t := 5) h (hw 16 (by decide)) rfl rfl; have e37 := fr_cv (i := 14) (t := 37) h (hw 14 (by decide)) rfl rfl
       have n17 := hn
       have m16 := hw 16 (by decide)
       have m14 := hw 14 (by decide)
       have m13 := hcl 14 _ rfl m14 13 (by decide)
       have m12 := hcl 13 _ rfl m13 12 (by decide)
       obtain ⟨x, gb_, y1, y2, r_, f_, hJ2⟩ := cbJ_s (v := undef) (by go_simp) (by simp [maskB, m12]) (by simp [maskB, n17]) (by simp [maskB, m16]) (by simp [maskB, m14]) (by decide) (by decide) (by decide) (by decide) (by decide) (by decide) hJ
       rw [y1] at e5
       rw [y2] at e37
       refine wp_srow e5 e37 (by go_simp) (by go_simp) r_ (by go_simp) f_ (by go_simp) ⟨undef, rfl, ?_⟩
       rw [splice_all _ _ (by go_simp)]
       exact hJ2
      refine ⟨?_, ?_⟩
      ·intro done cv a wq hn hw hcl h hJ
       have e38 := fr_cv (i := 15) (t := 38) h (hw 15 (by decide)) rfl rfl
       have m15 := hw 15 (by decide)
       obtain ⟨x, b_, gb_, w2_, hj_⟩ := hJ
       have y := hj_.v3 (by simp [maskB, m15])
       rw [y] at e38
       refine wp_asg (v := iv e2) (ch_ev e38) ⟨_, rfl, cbJ_k (by decide) (by decide) (by decide) ⟨x, b_, gb_, w2_, hj_⟩ (fun x3 _ _ _ _ => ⟨fun h => absurd h (by decide), fun h => absurd h (by decide), fun h => absurd h (by decide), fun _ => rfl⟩)⟩
      exact trivial
     intro dn cv w5 hall hJ
     obtain ⟨L2, b5, gb, w4, y12, g4, g5, g6, g7, g8, rb, fb, hgb1, hgb2, hbel, hb5, hfr, hkp, hsz4, hap⟩ := cbJ_end (hall 12 rfl (by decide)) (hall 13 rfl (by decide)) (hall 14 rfl (by decide)) (hall 15 rfl (by decide)) (hall 18 rfl (by decide)) (hall 16 rfl (by decide)) (hall 17 rfl (by decide)) hJ
     simp only [freeAll, putAll_some, putAll_none, putAll_nil, List.getD_cons_zero, List.getD_cons_succ, Bool.false_eq_true, if_true, if_false, reduceIte, Nat.zero_add, Nat.reduceAdd, List.setIfInBounds_toArray, List.set_cons_zero, List.set_cons_succ]
     rw [y12, g4, g5, g6, g7, g8]
     have hs4 := hbel.size
     obtain ⟨a0r, a0f, a0n, a0c, a0z, a0l⟩ := keep1 hbel RW3.out (by go_simp) FW3.out
     obtain ⟨a1r, a1f, a1n, a1c, a1z, a1l⟩ := keep1 hbel RX3.out (by simp) FX3.out
     have HX4 := hD (HX3.out.below hbel (by omega) (by omega))
     have HW4 : Hid (WorAt w5 base m top ds x L) := hD (HW3.out.same (fun k a b => hbel.block k (by omega)) (by omega))
     have HFR := hD hfr
     have HKP := hD hkp
     have hgg : ¬ gb = g := by omega
     have hgg2 : ¬ g = gb := by omega
     clear hJ hall y12 g4 g5 g6 g7 g8 hfr hbel KH RW3 FW3 RX3 FX3 hkp hap
     by_cases c2 : e2 ≠ 0
     ·have hz : res = (Wor.zero, e2) := HD.out.trans (if_pos c2)
      subst hz
      have q : (e2 != 0) = true := by simp [c2]
      have HC2 := hD c2
      clear c2
      go_wp2_with fail
      go_ret
      exact ⟨rfl, fun e => absurd e HC2.out, HX4.out, by omega⟩
     have c2 := Decidable.not_not.1 c2
     subst c2
     first
      |
       revert U01; intro U01
       have hz : res = (⟨x.rel, d2, x.net.eraseIdx i⟩, 0) := HD.out.trans (if_neg (by simp))
      | have hz : res = (⟨x.rel, d2, x.net⟩, 0) := HD.out.trans (if_neg (by simp))
    | have hz : res = (⟨x.rel, x.d, x.net.eraseIdx i⟩, 0) := HD.out
   subst hz
   first
    | revert U02; intro U02
    |
     obtain ⟨wz, hwz⟩ : ∃ wz, w3 = wz := ⟨_, rfl⟩
     subst hwz
     have z1 := a0r
     have z2 := a0f
     have z3 := a1r
     have z4 := a1f
     have HXZ := HX3
     have HGN : Hid (GRow kChk w3 m x.net ds (some ⟨gn, 0, none⟩) L.cn) := hD (by
      have h9 := HW3.out.net
      rw [HAN.out] at h9
      exact h9)
     have HDZ : Hid (∀ v : World, (∀ k, base ≤ k → k ≠ gn → k ≠ g → k < w3.heap.size → v.heap[k]? = w3.heap[k]?) → DevIn v x.d L.l) := hD (fun v hv => HW3.out.dev v (fun k h1 h2 => hv k h1 (by omega) (by omega) (by omega)))
     have HRZ : Hid (∀ v : World, (∀ k, base ≤ k → k ≠ gn → k ≠ g → k < w3.heap.size → v.heap[k]? = w3.heap[k]?) → Ims v L.ar x.rel) := hD (fun v hv => HW3.out.rel v (fun k h1 h2 => hv k h1 (by omega) (by omega) (by omega)))
     have hzlt : w.heap.size < w3.heap.size := by omega
     have hwrap : IntKind.i64.wrap (n + 1) = n + 1 := IntWalk.i64_in _ (by have := HNI.out; omega)
     have HWR := hD hwrap
     have RZ := hD z1
     have FZ := hD z2
     have RX5 := hD z3
     have FX5 := hD z4
     have HLE : Hid ((x.net.eraseIdx i).length = x.net.length - 1) := hD (List.length_eraseIdx_of_lt hi)
     have KD : Hid (Calls Try.prog 59 #[.slice (some ⟨gn, 0, none⟩) x.net.length L.cn, iv (i : Int), iv ((i : Int) + 1)] w3.drew (DelRet w3.drew m x.net.length L.cn gn ((kChk.cells x.net ds).take (i * 5) ++ (kChk.cells x.net ds).drop ((i + 1) * 5)))) := hD (delChunk_calls gn x.net.length L.cn i (kChk.cells x.net ds) w3.drew m HGN.out.row (cells_oneCell _ _) hi (by omega))
     have hgng : gn ≠ g := by omega
     have hgnw : gn ≠ w.heap.size := by omega
     clear z1 z2 z3 z4 hwrap
     refine wp_region_mix (by kernel_rfl) (some 49 :: some 50 :: some 51 :: some 52 :: some 53 :: some 54 :: some 55 :: some 56 :: some 57 :: some 58 :: some 59 :: some 60 :: some 61 :: none :: []) (none :: none :: none :: none :: none :: none :: none :: none :: none :: none :: some 0 :: none :: none :: some 1 :: []) (.pointer (some ⟨g, 0, none⟩) :: .pointer (some ⟨g, 0, none⟩) :: .pointer (some ⟨g, 0, none⟩) :: .pointer (some ⟨g, 38, none⟩) :: .slice (some ⟨gn, 0, none⟩) x.net.length L.cn :: .pointer (some ⟨w.heap.size, 1, none⟩) :: iv n :: .pointer (some ⟨w.heap.size, 1, none⟩) :: iv n :: .int .i64 (n + 1) :: undef :: .pointer (some ⟨g, 0, none⟩) :: .pointer (some ⟨g, 38, none⟩) :: undef :: []) 2 (dhJ w3 g gn m x L i ((kChk.cells x.net ds).take (i * 5) ++ (kChk.cells x.net ds).drop ((i + 1) * 5))) 62 rfl rfl (by decide +kernel) (by decide +kernel) (by decide +kernel) (by decide +kernel) rfl rfl (by decide +kernel) (by decide +kernel) (rfl) ?_ ?_
     ·refine ⟨?_, ?_⟩
      ·intro done cv k0 a wq hw h hJ hn
       have e0 := mO 0 (.pointer (some ⟨g, 0, none⟩)) h
       exact mx_move (ch_ev e0)
      refine ⟨?_, ?_⟩
      ·intro done cv k0 a wq hw h hJ hn
       have e0 := mO 0 (.pointer (some ⟨g, 0, none⟩)) h
       exact mx_move (ch_ev e0)
      refine ⟨?_, ?_⟩
      ·intro done cv k0 a wq hw h hJ hn
       have e50 := mN 1 50 h hw
       go_simp
      refine ⟨?_, ?_⟩
      ·intro done cv k0 a wq hw h hJ hn
       have e51 := mN 2 51 h hw
       go_simp
      refine ⟨?_, ?_⟩
      ·intro done cv k0 a wq hw h hJ hn
       have e52 := mN 3 52 h hw
       have hk := hn 13 _ 1 rfl rfl (by decide)
       obtain ⟨r_, f_, c_⟩ := dhJ_row hk (by omega) RZ.out FZ.out (by simp [worA]) hJ
       have h_ := HAN.out
       go_simp
      refine ⟨?_, ?_⟩
      ·intro done cv k0 a wq hw h hJ hn
       have e3 := mO 3 (.pointer (some ⟨w.heap.size, 0, none⟩)) h
       go_simp
      refine ⟨?_, ?_⟩
      ·intro done cv k0 a wq hw h hJ hn
       have e54 := mN 5 54 h hw
       have hk := hn 13 _ 1 rfl rfl (by decide)
       obtain ⟨r_, f_, c_⟩ := dhJ_row hk (by omega) RX5.out FX5.out (by simp) hJ
       go_simp
      refine ⟨?_, ?_⟩
      ·intro done cv k0 a wq hw h hJ hn
       have e3 := mO 3 (.pointer (some ⟨w.heap.size, 0, none⟩)) h
       go_simp
      refine ⟨?_, ?_⟩
      ·intro done cv k0 a wq hw h hJ hn
       have e56 := mN 7 56 h hw
       have hk := hn 13 _ 1 rfl rfl (by decide)
       obtain ⟨r_, f_, c_⟩ := dhJ_row hk (by omega) RX5.out FX5.out (by simp) hJ
       go_simp
      refine ⟨?_, ?_⟩
      ·intro done cv k0 a wq hw h hJ hn
       have e57 := mN 8 57 h hw
       have h_ := HWR.out
       go_simp
      refine ⟨?_, ?_⟩
      ·intro done cv a wq hw h hJ
       have e53 := mN 4 53 h hw; have e55 := mN 6 55 h hw; have e58 := mN 9 58 h hw
       obtain rfl : wq = w3.drew := hJ
       refine wp_call (vals := #[.slice (some ⟨gn, 0, none⟩) x.net.length L.cn, iv (i : Int), iv ((i : Int) + 1)]) (by rw [List.map_toArray, List.map_cons, List.map_cons, List.map_cons, List.map_nil, ch_ev e53, ch_ev e55, ch_ev e58, HNI.out]) (enters_of Try.func59 (by kernel_rfl) rfl _ _) KD.out ?_
       rintro e w' ⟨rfl, hown, hbel, hsz, hkk⟩
       exact ⟨_, rfl, _, rfl, by rw [HLE.out]; simp, hown, hsz, hkk, (Below.refl _ _).drew.trans hbel⟩
      refine ⟨?_, ?_⟩
      ·intro done cv k0 a wq hw h hJ hn
       have e49 := mN 0 49 h hw
       go_simp
      refine ⟨?_, ?_⟩
      ·intro done cv k0 a wq hw h hJ hn
       have e60 := mN 11 60 h hw
       go_simp
      refine ⟨?_, ?_⟩
      ·intro done cv a wq hw h hJ
       have e61 := mN 12 61 h hw; have e59 := mx_cv (i := 10) (t := 59) h (hw 10 (by decide)) rfl rfl
       obtain ⟨y1, hown, hsz, hkk, hbel⟩ := hJ
       rw [y1] at e59
       obtain ⟨e1_, e2_⟩ := rowOf_heap (hkk g (by omega))
       refine wp_ssc e61 e59 (cs := worA x L) (e1_.trans RZ.out) (by go_simp) (e2_.trans FZ.out) ⟨undef, rfl, wq, hown, hsz, hkk, hbel, ?_⟩
       rw [worA_set_net]
      exact trivial
     intro cv8 w8 hJ
     obtain ⟨w7, hown, hsz7, hkk, hbel7, rfl⟩ := hJ
     simp only [mixAll, putAll_some, putAll_none, putAll_nil, List.getElem?_cons_zero, List.getElem?_cons_succ, Nat.zero_add, Nat.reduceAdd, List.setIfInBounds_toArray, List.set_cons_zero, List.set_cons_succ]
     have e1 := rowOf_heap (hkk g (by omega))
     have hp7 : 0 < (rowOf w7 g).size := by rw [e1.1, RZ.out]; simp [worA]
     have hG7 := HGN.out.del hi hown hkk hsz7
     have hE7 := HW3.out.each.del (i := i)
     have hbd7 : ∀ y ∈ x.net.eraseIdx i, ChkB y := fun y hy => HW3.out.bd y (List.mem_of_mem_eraseIdx hy)
     have HG7 := hD hG7
     have HE7 := hD hE7
     have HB7 := hD hbd7
     have HKK := hD hkk
     have HX7 : Hid (Bex g base w w7) := hD ⟨HXZ.out.1.trans (hbel7.mono (Nat.zero_le _)), fun k h1 h2 => (hkk k (by omega)).trans (HXZ.out.2 k h1 h2)⟩
     have r8 : rowOf (w7.setRow g (worA { x with net := x.net.eraseIdx i } { L with an := some ⟨gn, 0, none⟩, cn := L.cn })) g = worA { x with net := x.net.eraseIdx i } { L with an := some ⟨gn, 0, none⟩, cn := L.cn } := by rw [rowOf_setRow _ _ _ _ hp7, if_pos rfl]
     clear hown hbel7 hG7 hE7 hbd7 hkk
   go_wp2_with fail
   first
    |
     revert U02; intro U02
     first
      |
       revert U01; intro U01
       have hp5 : 0 < (rowOf w5 g).size := by rw [a0r]; simp [worA]
       obtain ⟨wz, hwz⟩ : ∃ wz, w5.setRow g (worA { x with d := d2 } { L with l := L2 }) = wz := ⟨_, rfl⟩
       have z1 : rowOf wz g = worA { x with d := d2 } { L with l := L2 } := by rw [← hwz, rowOf_setRow _ _ _ _ hp5, if_pos rfl]
       have z2 : frOf wz g = (0, 0) := by rw [← hwz, frOf_setRow]; exact a0f
       have z3 : rowOf wz w.heap.size = #[iv 2, iv n] := by rw [← hwz, rowOf_setRow _ _ _ _ hp5, if_neg (by omega)]; exact a1r
       have z4 : frOf wz w.heap.size = (0, 0) := by rw [← hwz, frOf_setRow]; exact a1f
       have hzs : wz.heap.size = w5.heap.size := by rw [← hwz]; simp [World.setRow]
       have hzk : ∀ k, k ≠ g → wz.heap[k]? = w5.heap[k]? := fun k h => by rw [← hwz]; exact setRow_other _ _ _ _ h
       have HXZ : Hid (Bex g base w wz) := hD (by rw [← hwz]; exact HX4.out.row (.inl rfl) _)
       have HGN : Hid (GRow kChk wz m x.net ds (some ⟨gn, 0, none⟩) L.cn) := hD (by
        have h9 := HW4.out.netEx (v := wz) (fun k a b => hzk k (by omega))
        rw [HAN.out] at h9
        exact h9)
       have HDZ : Hid (∀ v : World, (∀ k, base ≤ k → k ≠ gn → k ≠ g → k < wz.heap.size → v.heap[k]? = wz.heap[k]?) → DevIn v d2 L2) := hD (fun v hv => HFR.out v (fun k h1 h2 => (hv k (by omega) (by omega) (by omega) (by omega)).trans ((hzk k (by omega)).trans (HKP.out k h1 h2))))
       have HRZ : Hid (∀ v : World, (∀ k, base ≤ k → k ≠ gn → k ≠ g → k < wz.heap.size → v.heap[k]? = wz.heap[k]?) → Ims v L.ar x.rel) := hD (fun v hv => HW4.out.rel v (fun k h1 h2 => (hv k h1 (by omega) (by omega) (by omega)).trans (hzk k (by omega))))
       have hzlt : w.heap.size < wz.heap.size := by omega
       try rw [hwz]
       clear hwz hzk hp5
       have hwrap : IntKind.i64.wrap (n + 1) = n + 1 := IntWalk.i64_in _ (by have := HNI.out; omega)
       have HWR := hD hwrap
       have RZ := hD z1
       have FZ := hD z2
       have RX5 := hD z3
       have FX5 := hD z4
       have HLE : Hid ((x.net.eraseIdx i).length = x.net.length - 1) := hD (List.length_eraseIdx_of_lt hi)
       have KD : Hid (Calls Try.prog 59 #[.slice (some ⟨gn, 0, none⟩) x.net.length L.cn, iv (i : Int), iv ((i : Int) + 1)] wz.drew (DelRet wz.drew m x.net.length L.cn gn ((kChk.cells x.net ds).take (i * 5) ++ (kChk.cells x.net ds).drop ((i + 1) * 5)))) := hD (delChunk_calls gn x.net.length L.cn i (kChk.cells x.net ds) wz.drew m HGN.out.row (cells_oneCell _ _) hi (by omega))
       have hgng : gn ≠ g := by omega
       have hgnw : gn ≠ w.heap.size := by omega
       clear z1 z2 z3 z4 hwrap
       refine wp_region_mix (by kernel_rfl) (some 49 :: some 50 :: some 51 :: some 52 :: some 53 :: some 54 :: some 55 :: some 56 :: some 57 :: some 58 :: some 59 :: some 60 :: some 61 :: none :: []) (none :: none :: none :: none :: none :: none :: none :: none :: none :: none :: some 0 :: none :: none :: some 1 :: []) (.pointer (some ⟨g, 0, none⟩) :: .pointer (some ⟨g, 0, none⟩) :: .pointer (some ⟨g, 0, none⟩) :: .pointer (some ⟨g, 38, none⟩) :: .slice (some ⟨gn, 0, none⟩) x.net.length L.cn :: .pointer (some ⟨w.heap.size, 1, none⟩) :: iv n :: .pointer (some ⟨w.heap.size, 1, none⟩) :: iv n :: .int .i64 (n + 1) :: undef :: .pointer (some ⟨g, 0, none⟩) :: .pointer (some ⟨g, 38, none⟩) :: undef :: []) 2 (dhJ wz g gn m { x with d := d2 } { L with l := L2 } i ((kChk.cells x.net ds).take (i * 5) ++ (kChk.cells x.net ds).drop ((i + 1) * 5))) 62 rfl rfl (by decide +kernel) (by decide +kernel) (by decide +kernel) (by decide +kernel) rfl rfl (by decide +kernel) (by decide +kernel) (rfl) ?_ ?_
       ·refine ⟨?_, ?_⟩
        ·intro done cv k0 a wq hw h hJ hn
         have e0 := mO 0 (.pointer (some ⟨g, 0, none⟩)) h
         exact mx_move (ch_ev e0)
        refine ⟨?_, ?_⟩
        ·intro done cv k0 a wq hw h hJ hn
         have e0 := mO 0 (.pointer (some ⟨g, 0, none⟩)) h
         exact mx_move (ch_ev e0)
        refine ⟨?_, ?_⟩
        ·intro done cv k0 a wq hw h hJ hn
         have e50 := mN 1 50 h hw
         go_simp
        refine ⟨?_, ?_⟩
        ·intro done cv k0 a wq hw h hJ hn
         have e51 := mN 2 51 h hw
         go_simp
        refine ⟨?_, ?_⟩
        ·intro done cv k0 a wq hw h hJ hn
         have e52 := mN 3 52 h hw
         have hk := hn 13 _ 1 rfl rfl (by decide)
         obtain ⟨r_, f_, c_⟩ := dhJ_row hk (by omega) RZ.out FZ.out (by simp [worA]) hJ
         have h_ := HAN.out
         go_simp
        refine ⟨?_, ?_⟩
        ·intro done cv k0 a wq hw h hJ hn
         have e3 := mO 3 (.pointer (some ⟨w.heap.size, 0, none⟩)) h
         go_simp
        refine ⟨?_, ?_⟩
        ·intro done cv k0 a wq hw h hJ hn
         have e54 := mN 5 54 h hw
         have hk := hn 13 _ 1 rfl rfl (by decide)
         obtain ⟨r_, f_, c_⟩ := dhJ_row hk (by omega) RX5.out FX5.out (by simp) hJ
         go_simp
        refine ⟨?_, ?_⟩
        ·intro done cv k0 a wq hw h hJ hn
         have e3 := mO 3 (.pointer (some ⟨w.heap.size, 0, none⟩)) h
         go_simp
        refine ⟨?_, ?_⟩
        ·intro done cv k0 a wq hw h hJ hn
         have e56 := mN 7 56 h hw
         have hk := hn 13 _ 1 rfl rfl (by decide)
         obtain ⟨r_, f_, c_⟩ := dhJ_row hk (by omega) RX5.out FX5.out (by simp) hJ
         go_simp
        refine ⟨?_, ?_⟩
        ·intro done cv k0 a wq hw h hJ hn
         have e57 := mN 8 57 h hw
         have h_ := HWR.out
         go_simp
        refine ⟨?_, ?_⟩
        ·intro done cv a wq hw h hJ
         have e53 := mN 4 53 h hw; have e55 := mN 6 55 h hw; have e58 := mN 9 58 h hw
         obtain rfl : wq = wz.drew := hJ
         refine wp_call (vals := #[.slice (some ⟨gn, 0, none⟩) x.net.length L.cn, iv (i : Int), iv ((i : Int) + 1)]) (by rw [List.map_toArray, List.map_cons, List.map_cons, List.map_cons, List.map_nil, ch_ev e53, ch_ev e55, ch_ev e58, HNI.out]) (enters_of Try.func59 (by kernel_rfl) rfl _ _) KD.out ?_
         rintro e w' ⟨rfl, hown, hbel, hsz, hkk⟩
         exact ⟨_, rfl, _, rfl, by rw [HLE.out]; simp, hown, hsz, hkk, (Below.refl _ _).drew.trans hbel⟩
        refine ⟨?_, ?_⟩
        ·intro done cv k0 a wq hw h hJ hn
         have e49 := mN 0 49 h hw
         go_simp
        refine ⟨?_, ?_⟩
        ·intro done cv k0 a wq hw h hJ hn
         have e60 := mN 11 60 h hw
         go_simp
        refine ⟨?_, ?_⟩
        ·intro done cv a wq hw h hJ
         have e61 := mN 12 61 h hw; have e59 := mx_cv (i := 10) (t := 59) h (hw 10 (by decide)) rfl rfl
         obtain ⟨y1, hown, hsz, hkk, hbel⟩ := hJ
         rw [y1] at e59
         obtain ⟨e1_, e2_⟩ := rowOf_heap (hkk g (by omega))
         refine wp_ssc e61 e59 (cs := worA { x with d := d2 } { L with l := L2 }) (e1_.trans RZ.out) (by go_simp) (e2_.trans FZ.out) ⟨undef, rfl, wq, hown, hsz, hkk, hbel, ?_⟩
         rw [worA_set_net]
        exact trivial
       intro cv8 w8 hJ
       obtain ⟨w7, hown, hsz7, hkk, hbel7, rfl⟩ := hJ
       simp only [mixAll, putAll_some, putAll_none, putAll_nil, List.getElem?_cons_zero, List.getElem?_cons_succ, Nat.zero_add, Nat.reduceAdd, List.setIfInBounds_toArray, List.set_cons_zero, List.set_cons_succ]
       have e1 := rowOf_heap (hkk g (by omega))
       have hp7 : 0 < (rowOf w7 g).size := by rw [e1.1, RZ.out]; simp [worA]
       have hG7 := HGN.out.del hi hown hkk hsz7
       have hE7 := HW4.out.each.del (i := i)
       have hbd7 : ∀ y ∈ x.net.eraseIdx i, ChkB y := fun y hy => HW4.out.bd y (List.mem_of_mem_eraseIdx hy)
       have HG7 := hD hG7
       have HE7 := hD hE7
       have HB7 := hD hbd7
       have HKK := hD hkk
       have HX7 : Hid (Bex g base w w7) := hD ⟨HXZ.out.1.trans (hbel7.mono (Nat.zero_le _)), fun k h1 h2 => (hkk k (by omega)).trans (HXZ.out.2 k h1 h2)⟩
       have r8 : rowOf (w7.setRow g (worA { x with d := d2 , net := x.net.eraseIdx i } { L with l := L2, an := some ⟨gn, 0, none⟩, cn := L.cn })) g = worA { x with d := d2 , net := x.net.eraseIdx i } { L with l := L2, an := some ⟨gn, 0, none⟩, cn := L.cn } := by rw [rowOf_setRow _ _ _ _ hp7, if_pos rfl]
       clear hown hbel7 hG7 hE7 hbd7 hkk
       go_wp2_with fail
      | have hp4 : 0 < (rowOf w5 g).size := by rw [a0r]; simp [worA]
    | skip
   go_ret
   first
    |
     revert U02; intro U02
     first
      |
       revert U01; intro U01
       refine ⟨rfl, fun _ => ⟨{ L with l := L2, an := some ⟨gn, 0, none⟩, cn := L.cn }, r8, ?_, ?_⟩, HX7.out.row (.inl rfl) _, ?_⟩
       ·rw [frOf_setRow, e1.2]; exact FZ.out
       ·intro v hv
        have hb7 : ∀ k, base ≤ k → k ≠ g → k < w7.heap.size → v.heap[k]? = w7.heap[k]? := fun k h1 h0 h2 => (hv k h1 h0 (by simp [World.setRow]; omega)).trans (setRow_other _ _ _ _ h0)
        have hbz : ∀ k, base ≤ k → k ≠ gn → k ≠ g → k < wz.heap.size → v.heap[k]? = wz.heap[k]? := fun k h1 h2 h0 h3 => (hb7 k h1 h0 (by omega)).trans (HKK.out k h2)
        have hgr := HG7.out.ex (v := v) (fun k e => by have e' : gn = k := (by simpa using e); exact hb7 k (by omega) (by omega) (by omega)) (HE7.out.imp fun k hk => by
         have hk' : m ≤ k ∧ k < top := hk
         exact hb7 k (by omega) (by omega) (by omega))
        exact ⟨HW4.out.kr, HW4.out.lr, HRZ.out v hbz, HDZ.out v hbz, hgr.row.le, by show (x.net.eraseIdx i).length ≤ _; rw [HLE.out]; omega, hgr.src.chs HB7.out⟩
      |
       refine ⟨rfl, fun _ => ⟨{ L with l := L2 }, ?_, ?_, ?_⟩, ?_, ?_⟩
       ·rw [rowOf_setRow _ _ _ _ hp4, if_pos rfl]
       ·rw [frOf_setRow]; exact a0f
       ·intro v hv
        have hb0 : ∀ k, base ≤ k → k ≠ g → k < w5.heap.size → v.heap[k]? = w5.heap[k]? := fun k h1 h0 h2 => (hv k h1 h0 (by simp [World.setRow]; omega)).trans (setRow_other _ _ _ _ h0)
        have hi4 := HW4.out.wex (v := v) (fun k h1 h2 => hb0 k h1 (by omega) (by omega))
        exact ⟨hi4.kr, hi4.lr, hi4.rel, HFR.out v (fun k h1 h2 => (hb0 k (by omega) (by omega) (by omega)).trans (HKP.out k h1 h2)), hi4.kn, hi4.ln, hi4.net⟩
       ·exact HX4.out.row (.inl rfl) _
    |
     refine ⟨rfl, fun _ => ⟨{ L with an := some ⟨gn, 0, none⟩, cn := L.cn }, r8, ?_, ?_⟩, HX7.out.row (.inl rfl) _, ?_⟩
     ·rw [frOf_setRow, e1.2]; exact FZ.out
     ·intro v hv
      have hb7 : ∀ k, base ≤ k → k ≠ g → k < w7.heap.size → v.heap[k]? = w7.heap[k]? := fun k h1 h0 h2 => (hv k h1 h0 (by simp [World.setRow]; omega)).trans (setRow_other _ _ _ _ h0)
      have hbz : ∀ k, base ≤ k → k ≠ gn → k ≠ g → k < w3.heap.size → v.heap[k]? = w3.heap[k]? := fun k h1 h2 h0 h3 => (hb7 k h1 h0 (by omega)).trans (HKK.out k h2)
      have hgr := HG7.out.ex (v := v) (fun k e => by have e' : gn = k := (by simpa using e); exact hb7 k (by omega) (by omega) (by omega)) (HE7.out.imp fun k hk => by
       have hk' : m ≤ k ∧ k < top := hk
       exact hb7 k (by omega) (by omega) (by omega))
      exact ⟨HW3.out.kr, HW3.out.lr, HRZ.out v hbz, HDZ.out v hbz, hgr.row.le, by show (x.net.eraseIdx i).length ≤ _; rw [HLE.out]; omega, hgr.src.chs HB7.out⟩
   ·simp [World.setRow]; omega
end Go.Proofs.Ytefkfglkpebbmad
