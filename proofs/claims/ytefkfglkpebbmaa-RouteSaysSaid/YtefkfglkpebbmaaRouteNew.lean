/- The part of route.Best that makes a new way, in whatever order it is reckoned. -/
import Derived.Test.YtefkfglkpebbmaaWays
import Derived.Test.YtefkfglkpebbmaaFree
namespace Go.Proofs.Ytefkfglkpebbmaa
open Go.RowKit
set_option linter.unusedVariables false

/-! Its operations, one by one. -/
theorem wp_cloneInts {a : Act} {w : World} {K : Act → World → Prop} {Q : Exit → Act → World → Prop} {t T : TypeId} {p : String} {af : Array Edge} {gd : Option (Nat × Bool)} {d s : Tmp} {v : Value} (hs : a.tmps[s]? = some v)
    (hc : Calls Try.prog 55 #[v] w fun e w' => ∃ r, e = .returned r ∧ K { tmps := a.tmps.setIfInBounds d r, defers := a.defers } w') :
    Oper.wp Try.prog ⟨some d, .call { callee := .value (.func 55), args := #[.tmp s], argTypes := #[T] }, t, p, af, gd⟩ a w K Q := by
  go_simp
  refine hc.mono ?_
  rintro e w' ⟨r, rfl, h⟩
  exact h
theorem wp_sl1 {a : Act} {w : World} {K : Act → World → Prop} {Q : Exit → Act → World → Prop} {t : TypeId} {p : String} {af : Array Edge} {gd : Option (Nat × Bool)} {d s : Tmp} {n : Int} (hs : a.tmps[s]? = some (iv n))
    (h : K { tmps := a.tmps.setIfInBounds d (.slice (some ⟨w.heap.size, 0, none⟩) 1 1), defers := a.defers } (w.alloc (.cells #[iv n] 3))) :
    Oper.wp Try.prog ⟨some d, .buildSlice 24 1 #[(0, .tmp s)], t, p, af, gd⟩ a w K Q := by
  have e : a.eval (.tmp s) = iv n := by simp [Act.eval, hs]
  unfold Oper.wp execOp
  simp only [e, List.map_toArray, List.map_cons, List.map_nil]
  go_simp
  exact h
theorem wp_way0 {a : Act} {w : World} {K : Act → World → Prop} {Q : Exit → Act → World → Prop} {t : TypeId} {p : String} {af : Array Edge} {gd : Option (Nat × Bool)} {d : Tmp}
    (h : K { tmps := a.tmps.setIfInBounds d (.pointer (some ⟨w.heap.size, 0, none⟩)), defers := a.defers } (w.alloc (.cells #[iv 0, .slice none 0 0] 93))) :
    Oper.wp Try.prog ⟨some d, .alloc 93, t, p, af, gd⟩ a w K Q := by
  go_simp
  exact h
theorem wp_wayb {a : Act} {w : World} {K : Act → World → Prop} {Q : Exit → Act → World → Prop} {t : TypeId} {p : String} {af : Array Edge} {gd : Option (Nat × Bool)} {d s1 s2 : Tmp} {n : Int} {A : Option Addr} {m c : Nat} (h1 : a.tmps[s1]? = some (iv n)) (h2 : a.tmps[s2]? = some (.slice A m c))
    (h : K { tmps := a.tmps.setIfInBounds d (.agg #[iv n, .slice A m c]), defers := a.defers } w) :
    Oper.wp Try.prog ⟨some d, .build 93 #[(0, .tmp s1), (1, .tmp s2)], t, p, af, gd⟩ a w K Q := by
  have e1 : a.eval (.tmp s1) = iv n := by simp [Act.eval, h1]
  have e2 : a.eval (.tmp s2) = .slice A m c := by simp [Act.eval, h2]
  unfold Oper.wp execOp
  simp only [e1, e2, List.map_toArray, List.map_cons, List.map_nil]
  go_simp
  exact h
theorem wp_ways {a : Act} {w : World} {K : Act → World → Prop} {Q : Exit → Act → World → Prop} {t : TypeId} {p : String} {af : Array Edge} {gd : Option (Nat × Bool)} {s1 s2 : Tmp} {n : Int} {A : Option Addr} {m c g : Nat} (h1 : a.tmps[s1]? = some (.pointer (some ⟨g, 0, none⟩))) (h2 : a.tmps[s2]? = some (.agg #[iv n, .slice A m c]))
    (hb : w.heap[g]? = some (.cells #[iv 0, .slice none 0 0] 93 (0, 0)))
    (h : ∀ w', w'.heap[g]? = some (.cells #[iv n, .slice A m c] 93 (0, 0)) → (∀ k, k ≠ g → w'.heap[k]? = w.heap[k]?) → w'.heap.size = w.heap.size → (∀ B w0, B ≤ g → Below B w0 w → Below B w0 w') → K a w') :
    Oper.wp Try.prog ⟨none, .store 93 (.tmp s1) (.tmp s2), t, p, af, gd⟩ a w K Q := by
  have e1 : a.eval (.tmp s1) = .pointer (some ⟨g, 0, none⟩) := by simp [Act.eval, h1]
  have e2 : a.eval (.tmp s2) = .agg #[iv n, .slice A m c] := by simp [Act.eval, h2]
  have c0 : w.cell? ⟨g, 0, none⟩ = some (iv 0) := by rw [cell_of_row _ _ _ _ _ _ hb]; rfl
  have c1 : w.cell? ⟨g, 1, none⟩ = some (.slice none 0 0) := by rw [cell_of_row _ _ _ _ _ _ hb]; rfl
  have f0 := frozen_of_row w g 0 _ _ hb
  have f1 := frozen_of_row w g 1 _ _ hb
  have key := h ((w.setCell ⟨g, 0, none⟩ (iv n)).setCell ⟨g, 1, none⟩ (.slice A m c)) (by
      rw [setCell_eq_setRow w g 0 _ _ (0, 0) _ hb, setCell_eq_setRow _ g 1 _ _ (0, 0) _ (setRow_heap w g _ _ _ (0, 0) hb)]
      exact setRow_heap _ g _ _ _ (0, 0) (setRow_heap w g _ _ _ (0, 0) hb))
    (fun k hk => by rw [heap_set_other _ _ _ _ (fun e => hk e.symm), heap_set_other _ _ _ _ (fun e => hk e.symm)]) (by simp)
    (fun B w0 hB hb => (hb.setCell (p := ⟨g, 0, none⟩) hB _).setCell (p := ⟨g, 1, none⟩) hB _)
  clear h hb
  unfold Oper.wp execOp
  simp only [e1, e2]
  go_simp
  exact key

/-- A new way lies in a block of its own. -/
def NewWay (w0 w1 : World) (gb : Nat) (A : Option Addr) (c : Nat) (u : Way) : Prop :=
  w0.heap.size ≤ gb ∧ (∃ T, w1.heap[gb]? = some (.cells #[iv u.cost, .slice A u.at_.length c] T (0, 0))) ∧ Nts w1 A u.at_ ∧ u.at_.length ≤ c ∧ Below w0.heap.size w0 w1 ∧ ∀ a, A.map (·.block) = some a → w0.heap.size ≤ a
/-- What holds when just those of d have been carried out: 13 the clone, 16 the slice of one, 17 the append, 18 the value, 19 its block, 20 it is laid there. -/
structure WayJ (w0 : World) (l : List Int) (x cost : Int) (d : Nat → Bool) (cv : Nat → Value) (w : World) : Prop where
  bel : Below w0.heap.size w0 w
  f13 : d 13 = true → d 17 = false → ∃ A c, cv 13 = .slice A l.length c ∧ Own w w0.heap.size 3 1 A l.length c (l.map iv)
  f16 : d 16 = true → d 17 = false → ∃ b, cv 16 = .slice (some ⟨b, 0, none⟩) 1 1 ∧ w0.heap.size ≤ b ∧ w.heap[b]? = some (.cells #[iv x] 3 (0, 0)) ∧ (d 13 = true → ∀ A n c, cv 13 = .slice A n c → A.map (·.block) ≠ some b)
  f17 : d 17 = true → ∃ A c, cv 17 = .slice A (l.length + 1) c ∧ Nts w A (l ++ [x]) ∧ l.length + 1 ≤ c ∧ ∀ k, A.map (·.block) = some k → w0.heap.size ≤ k
  f18 : d 18 = true → cv 18 = .agg #[iv cost, cv 17]
  f19 : d 19 = true → d 20 = false → ∃ g, cv 19 = .pointer (some ⟨g, 0, none⟩) ∧ w0.heap.size ≤ g ∧ w.heap[g]? = some (.cells #[iv 0, .slice none 0 0] 93 (0, 0)) ∧ (d 13 = true → d 17 = false → ∀ A n c, cv 13 = .slice A n c → A.map (·.block) ≠ some g) ∧ (d 17 = true → ∀ A n c, cv 17 = .slice A n c → A.map (·.block) ≠ some g)
  f20 : d 20 = true → ∃ g, cv 19 = .pointer (some ⟨g, 0, none⟩) ∧ w0.heap.size ≤ g ∧ w.heap[g]? = some (.cells #[iv cost, cv 17] 93 (0, 0))
def setB (d : Nat → Bool) (i : Nat) : Nat → Bool := fun j => if j = i then true else d j
def setV (cv : Nat → Value) (i : Nat) (v : Value) : Nat → Value := fun j => if j = i then v else cv j
theorem nts_heap {w w' : World} {A : Option Addr} {l : List Int} (h : Nts w A l) (hA : ∀ k, A.map (·.block) = some k → w'.heap[k]? = w.heap[k]?) : Nts w' A l := by
  intro i hi
  obtain ⟨b, o, rfl, hlt, hc⟩ := h i hi
  have hk := hA b rfl
  have hlt' : b < w'.heap.size := by
    rcases Nat.lt_or_ge b w'.heap.size with h | h
    · exact h
    · rw [Array.getElem?_eq_none h, Array.getElem?_eq_getElem hlt] at hk; cases hk
  refine ⟨b, o, rfl, hlt', ?_⟩
  unfold World.cell? at hc ⊢
  rw [hk]; exact hc
theorem nts_blk_lt {w : World} {A : Option Addr} {l : List Int} (h : Nts w A l) (hl : 0 < l.length) : ∀ k, A.map (·.block) = some k → k < w.heap.size := by
  obtain ⟨b, o, rfl, hlt, _⟩ := h 0 hl
  intro k hk
  simp at hk; omega
theorem src_blk1 {w : World} {b : Nat} {v : Value} {T : TypeId} {fr : Nat × Nat} (h : w.heap[b]? = some (.cells #[v] T fr)) : Src w (some ⟨b, 0, none⟩) [v] := by
  intro i hi
  have : i = 0 := by simpa using hi
  subst this
  exact ⟨b, 0, rfl, blk_lt h, by rw [cell_of_row _ _ _ _ _ _ h]; rfl⟩
theorem slice_inj {A B : Option Addr} {n m c d : Nat} (h : some (Value.slice A n c) = some (Value.slice B m d)) : A = B ∧ n = m ∧ c = d := by
  injection h with h; injection h with h1 h2 h3; exact ⟨h1, h2, h3⟩


theorem sl_inj {A B : Option Addr} {n m c d : Nat} (h : Value.slice A n c = .slice B m d) : A = B ∧ n = m ∧ c = d := by
  injection h with h1 h2 h3; exact ⟨h1, h2, h3⟩
section
variable {w0 w w' : World} {l : List Int} {x cost : Int} {d : Nat → Bool} {cv : Nat → Value}
theorem WayJ.clone (hI : WayJ w0 l x cost d cv w) (h17 : d 17 = false) (h18 : d 18 = false) (h20 : d 20 = false) {A' : Option Addr} {c' : Nat} (ho : Own w' w.heap.size 3 1 A' l.length c' (l.map iv)) (hb : Below w.heap.size w w') :
    WayJ w0 l x cost (fun j => if j = 13 then true else d j) (fun j => if j = 13 then .slice A' l.length c' else cv j) w' := by
  have hbs := hI.bel.size
  have hAb : ∀ k, A'.map (·.block) = some k → w.heap.size ≤ k := fun k hk => (ho.block k hk).1
  refine ⟨hI.bel.trans (hb.mono hbs), fun _ _ => ⟨A', c', rfl, ho.mono hbs⟩, fun h _ => ?_, fun h => ?_, fun h => ?_, fun h g => ?_, fun h => ?_⟩
  · obtain ⟨b, e1, e2, e3, e4⟩ := hI.f16 (by simpa using h) h17
    refine ⟨b, e1, e2, blk_below e3 hb, fun _ A n c e => ?_⟩
    obtain ⟨rfl, _, _⟩ := sl_inj (show Value.slice A' l.length c' = .slice A n c from e)
    intro hk
    have := hAb b hk
    have := blk_lt e3
    omega
  · have h' : d 17 = true := by simpa using h
    rw [h17] at h'; cases h'
  · have h' : d 18 = true := by simpa using h
    rw [h18] at h'; cases h'
  · obtain ⟨q, e1, e2, e3, e4, e5⟩ := hI.f19 (by simpa using h) (by simpa using g)
    refine ⟨q, e1, e2, blk_below e3 hb, fun _ _ A n c e => ?_, fun h' => ?_⟩
    · obtain ⟨rfl, _, _⟩ := sl_inj (show Value.slice A' l.length c' = .slice A n c from e)
      intro hk
      have := hAb q hk
      have := blk_lt e3
      omega
    · have h'' : d 17 = true := by simpa using h'
      rw [h17] at h''; cases h''
  · have h' : d 20 = true := by simpa using h
    rw [h20] at h'; cases h'
theorem WayJ.one (hI : WayJ w0 l x cost d cv w) (h17 : d 17 = false) (h18 : d 18 = false) (h20 : d 20 = false) :
    WayJ w0 l x cost (fun j => if j = 16 then true else d j) (fun j => if j = 16 then .slice (some ⟨w.heap.size, 0, none⟩) 1 1 else cv j) (w.alloc (.cells #[iv x] 3)) := by
  have hbs := hI.bel.size
  have hb : Below w.heap.size w (w.alloc (.cells #[iv x] 3)) := (Below.refl _ _).alloc (Nat.le_refl _) _
  refine ⟨hI.bel.trans (hb.mono hbs), fun h _ => ?_, fun _ _ => ⟨_, rfl, hbs, blk_top rfl, fun h A n c e => ?_⟩, fun h => ?_, fun h => ?_, fun h g => ?_, fun h => ?_⟩
  · obtain ⟨A, c, e1, e2⟩ := hI.f13 (by simpa using h) h17
    exact ⟨A, c, e1, e2.alloc _⟩
  · obtain ⟨A', c', e1, e2⟩ := hI.f13 (by simpa using h) h17
    obtain ⟨rfl, _, _⟩ := sl_inj (e1.symm.trans (show cv 13 = .slice A n c from e))
    intro hk
    have := (e2.block _ hk).2
    omega
  · have h' : d 17 = true := by simpa using h
    rw [h17] at h'; cases h'
  · have h' : d 18 = true := by simpa using h
    rw [h18] at h'; cases h'
  · obtain ⟨q, e1, e2, e3, e4, e5⟩ := hI.f19 (by simpa using h) (by simpa using g)
    refine ⟨q, e1, e2, blk_below e3 hb, fun h13 _ A n c e => e4 (by simpa using h13) h17 A n c e, fun h' => ?_⟩
    have h'' : d 17 = true := by simpa using h'
    rw [h17] at h''; cases h''
  · have h' : d 20 = true := by simpa using h
    rw [h20] at h'; cases h'
theorem WayJ.app (hI : WayJ w0 l x cost d cv w) (h17 : d 17 = false) (h18 : d 18 = false) (h20 : d 20 = false) (d13 : d 13 = true) {A A' : Option Addr} {c c' : Nat} (e1 : cv 13 = .slice A l.length c)
    (hown : Own w' w0.heap.size 3 1 A' (l.length + 1) c' (l.map iv ++ [iv x])) (hgr : w.grownBy w' (A.map (·.block))) (hb : Below w0.heap.size w w') (hor : A'.map (·.block) = A.map (·.block) ∨ A'.map (·.block) = some w.heap.size) :
    WayJ w0 l x cost (fun j => if j = 17 then true else d j) (fun j => if j = 17 then .slice A' (l.length + 1) c' else cv j) w' := by
  have hk : ∀ k, k < w.heap.size → A.map (·.block) ≠ some k → w'.heap[k]? = w.heap[k]? := fun k hk hn => hgr.block k hk (fun e => hn e.symm)
  refine ⟨hI.bel.trans hb, fun _ h => by simp at h, fun _ h => by simp at h, fun _ => ⟨A', c', rfl, ?_, hown.le, fun k hk => (hown.block k hk).1⟩, fun h => ?_, fun h g => ?_, fun h => ?_⟩
  · have := hown.src
    rw [show l.map iv ++ [iv x] = (l ++ [x]).map iv by simp] at this
    exact this.nts
  · have h' : d 18 = true := by simpa using h
    rw [h18] at h'; cases h'
  · obtain ⟨q, q1, q2, q3, q4, q5⟩ := hI.f19 (by simpa using h) (by simpa using g)
    have hq := q4 d13 h17 A _ _ e1
    refine ⟨q, q1, q2, (hk q (blk_lt q3) hq).trans q3, fun _ h => by simp at h, fun _ B n d e => ?_⟩
    obtain ⟨rfl, _, _⟩ := sl_inj (show Value.slice A' (l.length + 1) c' = .slice B n d from e)
    rcases hor with h | h
    · rw [h]; exact hq
    · rw [h]; intro e; injection e with e; have := blk_lt q3; omega
  · have h' : d 20 = true := by simpa using h
    rw [h20] at h'; cases h'
theorem WayJ.val (hI : WayJ w0 l x cost d cv w) (d17 : d 17 = true) (h20 : d 20 = false) :
    WayJ w0 l x cost (fun j => if j = 18 then true else d j) (fun j => if j = 18 then .agg #[iv cost, cv 17] else cv j) w := by
  obtain ⟨A, c, e1, e2, e3, e4⟩ := hI.f17 d17
  refine ⟨hI.bel, fun _ h => ?_, fun _ h => ?_, fun _ => ⟨A, c, e1, e2, e3, e4⟩, fun _ => rfl, fun h g => ?_, fun h => ?_⟩
  · have h' : d 17 = false := by simpa using h
    rw [d17] at h'; cases h'
  · have h' : d 17 = false := by simpa using h
    rw [d17] at h'; cases h'
  · obtain ⟨q, q1, q2, q3, q4, q5⟩ := hI.f19 (by simpa using h) (by simpa using g)
    refine ⟨q, q1, q2, q3, fun _ h => ?_, fun _ B n d e => q5 d17 B n d e⟩
    have h' : d 17 = false := by simpa using h
    rw [d17] at h'; cases h'
  · have h' : d 20 = true := by simpa using h
    rw [h20] at h'; cases h'
theorem WayJ.blk (hI : WayJ w0 l x cost d cv w) (h20 : d 20 = false) :
    WayJ w0 l x cost (fun j => if j = 19 then true else d j) (fun j => if j = 19 then .pointer (some ⟨w.heap.size, 0, none⟩) else cv j) (w.alloc (.cells #[iv 0, .slice none 0 0] 93)) := by
  have hbs := hI.bel.size
  have hb : Below w.heap.size w (w.alloc (.cells #[iv 0, .slice none 0 0] 93)) := (Below.refl _ _).alloc (Nat.le_refl _) _
  refine ⟨hI.bel.trans (hb.mono hbs), fun h g => ?_, fun h g => ?_, fun h => ?_, fun h => ?_, fun _ _ => ⟨_, rfl, hbs, blk_top rfl, fun h g A n c e => ?_, fun h A n c e => ?_⟩, fun h => ?_⟩
  · obtain ⟨A, c, e1, e2⟩ := hI.f13 (by simpa using h) (by simpa using g)
    exact ⟨A, c, e1, e2.alloc _⟩
  · obtain ⟨b, b1, b2, b3, b4⟩ := hI.f16 (by simpa using h) (by simpa using g)
    exact ⟨b, b1, b2, blk_below b3 hb, fun h A n c e => b4 (by simpa using h) A n c e⟩
  · obtain ⟨A, c, e1, e2, e3, e4⟩ := hI.f17 (by simpa using h)
    exact ⟨A, c, e1, e2.stays hb, e3, e4⟩
  · exact hI.f18 (by simpa using h)
  · obtain ⟨A', c', e1, e2⟩ := hI.f13 (by simpa using h) (by simpa using g)
    obtain ⟨rfl, _, _⟩ := sl_inj (e1.symm.trans (show cv 13 = .slice A n c from e))
    intro hk
    have := (e2.block _ hk).2
    omega
  · obtain ⟨A', c', e1, e2, e3, e4⟩ := hI.f17 (by simpa using h)
    obtain ⟨rfl, _, _⟩ := sl_inj (e1.symm.trans (show cv 17 = .slice A n c from e))
    intro hk
    have := nts_blk_lt e2 (by simp) _ hk
    omega
  · have h' : d 20 = true := by simpa using h
    rw [h20] at h'; cases h'
theorem WayJ.laid (hI : WayJ w0 l x cost d cv w) (d17 : d 17 = true) {q : Nat} (q1 : cv 19 = .pointer (some ⟨q, 0, none⟩)) (q2 : w0.heap.size ≤ q) (hne : ∀ A n c, cv 17 = .slice A n c → A.map (·.block) ≠ some q)
    (g1 : w'.heap[q]? = some (.cells #[iv cost, cv 17] 93 (0, 0))) (g2 : ∀ k, k ≠ q → w'.heap[k]? = w.heap[k]?) (g4 : ∀ B w0, B ≤ q → Below B w0 w → Below B w0 w') (u : Value) :
    WayJ w0 l x cost (fun j => if j = 20 then true else d j) (fun j => if j = 20 then u else cv j) w' := by
  obtain ⟨A, c, e1, e2, e3, e4⟩ := hI.f17 d17
  refine ⟨g4 _ _ q2 hI.bel, fun _ h => ?_, fun _ h => ?_, fun _ => ⟨A, c, e1, ?_, e3, e4⟩, fun h => hI.f18 (by simpa using h), fun _ h => by simp at h, fun _ => ⟨q, q1, q2, g1⟩⟩
  · have h' : d 17 = false := by simpa using h
    rw [d17] at h'; cases h'
  · have h' : d 17 = false := by simpa using h
    rw [d17] at h'; cases h'
  · exact nts_heap e2 (fun k hk => g2 k (fun e => hne A _ _ e1 (by rw [hk, e])))
/-- When all is done. -/
theorem WayJ.all (hI : WayJ w0 l x cost d cv w) (d17 : d 17 = true) (d20 : d 20 = true) : ∃ gb A c, cv 17 = .slice A (l.length + 1) c ∧ cv 19 = .pointer (some ⟨gb, 0, none⟩) ∧ NewWay w0 w gb A c ⟨cost, l ++ [x]⟩ := by
  obtain ⟨A, c, e1, e2, e3, e4⟩ := hI.f17 d17
  obtain ⟨g, q1, q2, q3⟩ := hI.f20 d20
  rw [e1] at q3
  exact ⟨g, A, c, e1, q1, q2, ⟨_, by simpa using q3⟩, e2, by simpa using e3, hI.bel, e4⟩
end
end Go.Proofs.Ytefkfglkpebbmaa
