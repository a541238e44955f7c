/- The text's table of best ways in memory. No conditions. -/
import Derived.Test.YtefkfglkpebbmaaRouteCheck
import Derived.Test.YtefkfglkpebbmaaRouteBetter
import Derived.Test.YtefkfglkpebbmaaCloneInts
import Derived.Test.YtefkfglkpebbmaaOwnStep
namespace Go.Proofs.Ytefkfglkpebbmaa
open Go.RowKit
set_option linter.unusedVariables false

/-- Thirty-one ways from block g's head on: of each what it costs, and its versions. -/
structure WaysAt (w : World) (g : Nat) (s : St) : Prop where
  blk : ∃ cs T, w.heap[g]? = some (.cells cs T (0, 0)) ∧ cs.size = 62
  at_ : ∀ v : Nat, v ≤ 30 → ∃ A c, w.cell? ⟨g, v * 2, none⟩ = some (iv (s v).cost) ∧ w.cell? ⟨g, v * 2 + 1, none⟩ = some (.slice A (s v).at_.length c) ∧ Nts w A (s v).at_ ∧ (s v).at_.length ≤ c ∧ A.map (·.block) ≠ some g
theorem WaysAt.lt {w : World} {g : Nat} {s : St} (h : WaysAt w g s) : g < w.heap.size := by
  obtain ⟨cs, T, h1, _⟩ := h.blk
  exact blk_lt h1
theorem WaysAt.stays {w w' : World} {g : Nat} {s : St} (h : WaysAt w g s) (hb : Below w.heap.size w w') : WaysAt w' g s := by
  have hl := h.lt
  obtain ⟨cs, T, h1, h2⟩ := h.blk
  refine ⟨⟨cs, T, blk_below h1 hb, h2⟩, fun v hv => ?_⟩
  obtain ⟨A, c, e1, e2, e3, e4, e5⟩ := h.at_ v hv
  exact ⟨A, c, (hb.cell (p := ⟨g, _, none⟩) hl).trans e1, (hb.cell (p := ⟨g, _, none⟩) hl).trans e2, e3.stays hb, e4, e5⟩
theorem WaysAt.frozen {w : World} {g : Nat} {s : St} (h : WaysAt w g s) (j : Nat) : w.frozen? ⟨g, j, none⟩ = false := by
  obtain ⟨cs, T, h1, _⟩ := h.blk
  exact frozen_of_row w g j cs T h1
theorem WaysAt.has {w : World} {g : Nat} {s : St} (h : WaysAt w g s) (j : Nat) (hj : j < 62) : (w.cell? ⟨g, j, none⟩).isSome = true := by
  obtain ⟨cs, T, h1, h2⟩ := h.blk
  rw [cell_of_row w g j cs T _ h1, Array.getElem?_eq_getElem (by omega)]; rfl
def zerosA : Array Value := ((List.replicate 31 [iv 0, Value.slice none 0 0]).flatten).toArray
theorem zeros_get (n : Nat) : ∀ v, v < n → (List.replicate n [iv 0, Value.slice none 0 0]).flatten[v * 2]? = some (iv 0) ∧ (List.replicate n [iv 0, Value.slice none 0 0]).flatten[v * 2 + 1]? = some (.slice none 0 0) := by
  induction n with
  | zero => intro v h; omega
  | succ n ih =>
    intro v h
    rw [List.replicate_succ, List.flatten_cons]
    rcases v with _ | v
    · exact ⟨rfl, rfl⟩
    · have := ih v (by omega)
      rw [show (v + 1) * 2 = v * 2 + 2 by omega]
      exact this
theorem ways_first (w : World) (T : TypeId) : WaysAt (w.alloc (.cells zerosA T)) w.heap.size (fun _ => Way.none) := by
  refine ⟨⟨zerosA, T, blk_top rfl, rfl⟩, fun v hv => ?_⟩
  obtain ⟨h1, h2⟩ := zeros_get 31 v (by omega)
  refine ⟨none, 0, ?_, ?_, Nts.nil _ _, Nat.le_refl _, by simp⟩
  · rw [cell_of_row _ _ _ _ _ _ (blk_top rfl)]
    show (List.toArray _)[v * 2]? = _
    rw [List.getElem?_toArray]
    exact h1
  · rw [cell_of_row _ _ _ _ _ _ (blk_top rfl)]
    show (List.toArray _)[v * 2 + 1]? = _
    rw [List.getElem?_toArray]
    exact h2
theorem heap_set_other (w : World) (p : Addr) (v : Value) (g : Nat) (h : p.block ≠ g) : (w.setCell p v).heap[g]? = w.heap[g]? := Below.heap_setCell _ _ _ _ (fun e => h e.symm)
theorem nts_far {w : World} {p : Addr} {u : Value} {A : Option Addr} {l : List Int} (h : Nts w A l) (hA : A.map (·.block) ≠ some p.block) : Nts (w.setCell p u) A l := by
  intro i hi
  obtain ⟨b, o, rfl, hlt, hc⟩ := h i hi
  refine ⟨b, o, rfl, by simpa using hlt, ?_⟩
  rw [World.cell?_setCell_other _ _ _ _ (fun e => hA (by simp [e]))]
  exact hc
theorem WaysAt.set {w : World} {g : Nat} {s : St} (h : WaysAt w g s) {t : Nat} (ht : t ≤ 30) {u : Way} {A : Option Addr} {c : Nat} (hu : Nts w A u.at_) (hc : u.at_.length ≤ c) (hA : A.map (·.block) ≠ some g) :
    WaysAt ((w.setCell ⟨g, t * 2, none⟩ (iv u.cost)).setCell ⟨g, t * 2 + 1, none⟩ (.slice A u.at_.length c)) g (s.set t u) := by
  have h0 := h.has (t * 2) (by omega)
  have h1 := h.has (t * 2 + 1) (by omega)
  refine ⟨?_, fun v hv => ?_⟩
  · obtain ⟨cs, T, e1, e2⟩ := h.blk
    rw [setCell_eq_setRow w g (t * 2) cs T (0, 0) _ e1, setCell_eq_setRow _ g (t * 2 + 1) _ T (0, 0) _ (setRow_heap w g cs _ T (0, 0) e1)]
    exact ⟨_, T, setRow_heap _ g _ _ T (0, 0) (setRow_heap w g cs _ T (0, 0) e1), by simp [e2]⟩
  · by_cases e : v = t
    · subst e
      refine ⟨A, c, ?_, ?_, ?_, ?_, hA⟩
      · rw [World.cell?_setCell_other _ _ _ _ (by simp), World.cell?_setCell_same' _ _ _ h0]; simp [St.set]
      · rw [World.cell?_setCell_same' _ _ _ (by rw [World.cell?_setCell_other _ _ _ _ (by simp)]; exact h1)]; simp [St.set]
      · simp only [St.set, if_true]
        exact nts_far (nts_far hu hA) hA
      · simp only [St.set, if_true]; exact hc
    · obtain ⟨B, d, e1, e2, e3, e4, e5⟩ := h.at_ v hv
      have hs : (s.set (t : Int) u) (v : Int) = s v := by unfold St.set; rw [if_neg (by omega)]
      rw [hs]
      refine ⟨B, d, ?_, ?_, nts_far (nts_far e3 e5) e5, e4, e5⟩
      · rw [World.cell?_setCell_other _ _ _ _ (by simp <;> omega), World.cell?_setCell_other _ _ _ _ (by simp <;> omega)]; exact e1
      · rw [World.cell?_setCell_other _ _ _ _ (by simp <;> omega), World.cell?_setCell_other _ _ _ _ (by simp <;> omega)]; exact e2
/-- The first way is laid. -/
theorem ways_second {w : World} {g : Nat} (h : WaysAt w g (fun _ => Way.none)) {f : Nat} (hf : f ≤ 30) (T : TypeId) :
    WaysAt (((w.setCell ⟨g, f * 2, none⟩ (iv 0)).setCell ⟨g, f * 2 + 1, none⟩ (.slice (some ⟨w.heap.size, 0, none⟩) 1 1)).alloc (.cells #[iv f] T)) g (St.first f) := by
  have hl := h.lt
  have e : ((w.setCell ⟨g, f * 2, none⟩ (iv 0)).setCell ⟨g, f * 2 + 1, none⟩ (.slice (some ⟨w.heap.size, 0, none⟩) 1 1)).alloc (.cells #[iv f] T) =
      ((w.alloc (.cells #[iv f] T)).setCell ⟨g, f * 2, none⟩ (iv 0)).setCell ⟨g, f * 2 + 1, none⟩ (.slice (some ⟨w.heap.size, 0, none⟩) 1 1) := by
    rw [World.setCell_alloc_past _ _ _ _ hl, World.setCell_alloc_past _ _ _ _ (by simpa using hl)]
  rw [e]
  have h1 := h.stays ((Below.refl _ _).alloc (Nat.le_refl _) (.cells #[iv f] T))
  have h2 := WaysAt.set h1 hf (u := ⟨0, [(f : Int)]⟩) (A := some ⟨w.heap.size, 0, none⟩) (c := 1) (nts_top rfl rfl) (by simp) (by simp; omega)
  exact h2
end Go.Proofs.Ytefkfglkpebbmaa
