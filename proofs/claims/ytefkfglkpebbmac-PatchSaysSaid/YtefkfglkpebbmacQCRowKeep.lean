/- Rows of steps where their blocks stay. No conditions. -/
import Derived.Test.YtefkfglkpebbmacQBase
import Derived.Test.YtefkfglkpebbmacQByteOps
namespace Go.Proofs.Ytefkfglkpebbmac
open Go.RowKit
set_option linter.unusedVariables false

/-- A row of steps where its blocks stay. -/
theorem CRow.keep {w w' : World} {base : Nat} {l : List Stp} {ds : List (Option Addr × Nat)} {A : Option Addr} {c : Nat} (h : CRow w base l ds A c) (hs : w.heap.size ≤ w'.heap.size)
    (hk : ∀ k, k < w.heap.size → (A.map (·.block) = some k ∨ ∃ (i : Nat) (e : Option Addr × Nat), ds[i]? = some e ∧ e.1.map (·.block) = some k) → w'.heap[k]? = w.heap[k]?) : CRow w' base l ds A c := by
  refine ⟨h.len, h.row.same (fun k e => hk k (h.row.block k e).2 (.inl e)), fun i o d h1 h2 => ⟨?_, (h.data i o d h1 h2).2⟩, fun i d h1 k e => ⟨(h.off i d h1 k e).1, Nat.lt_of_lt_of_le (h.off i d h1 k e).2 hs⟩⟩
  intro j hj
  obtain ⟨b, o2, e1, hlt, hc⟩ := (h.data i o d h1 h2).1 j hj
  have e := hk b hlt (.inr ⟨i, d, h2, by rw [e1]; rfl⟩)
  exact ⟨b, o2, e1, Nat.lt_of_lt_of_le hlt hs, (World.cell?_of_block e).trans hc⟩
theorem CRow.drewN {w : World} {base : Nat} {l : List Stp} {ds : List (Option Addr × Nat)} {A : Option Addr} {c : Nat} (h : CRow w base l ds A c) (n : Nat) : CRow (w.drewN n) base l ds A c := h.keep (Nat.le_refl _) (fun _ _ _ => rfl)
theorem CRow.setOther {w : World} {base : Nat} {l : List Stp} {ds : List (Option Addr × Nat)} {A : Option Addr} {c g : Nat} (h : CRow w base l ds A c) (hA : A.map (·.block) ≠ some g) (hd : ∀ (i : Nat) (e : Option Addr × Nat), ds[i]? = some e → e.1.map (·.block) ≠ some g) (v : Value) {j : Nat} : CRow (w.setCell ⟨g, j, none⟩ v) base l ds A c := by
  refine h.keep (by simp) (fun k _ hk => Below.heap_setCell _ _ _ _ (fun e => ?_))
  have e : k = g := e
  subst e
  rcases hk with hk | ⟨i, e, h1, h2⟩
  · exact hA hk
  · exact hd i e h1 h2
/-- A row of steps whose data lie from base on reads as those, wherever earlier blocks are turned. -/
theorem CRow.fresh {w : World} {base : Nat} {l : List Stp} {ds : List (Option Addr × Nat)} {A : Option Addr} {c : Nat} (h : CRow w base l ds A c) (hn : ∀ (i : Nat) (e : Option Addr × Nat), ds[i]? = some e → ∀ k, e.1.map (·.block) = some k → base ≤ k) (hb : ∀ o ∈ l, I64 o.at_ ∧ I64 o.len ∧ o.data.length ≤ 140737488351232) : Fresh base w (fun v => Sps v A l) := by
  intro v hv
  refine CRow.sps (w := v) (base := base) (ds := ds) (c := c) ⟨h.len, own_fresh h.row hv, fun i o d h1 h2 => ⟨fun j hj => ?_, (h.data i o d h1 h2).2⟩, fun i d h1 k e => ⟨(h.off i d h1 k e).1, ?_⟩⟩ hb
  · obtain ⟨b, o2, e1, hlt, hc⟩ := (h.data i o d h1 h2).1 j hj
    have e := hv b (hn i d h2 b (by rw [e1]; rfl)) hlt
    refine ⟨b, o2, e1, ?_, (World.cell?_of_block e).trans hc⟩
    rcases Nat.lt_or_ge b v.heap.size with h | h
    · exact h
    · rw [Array.getElem?_eq_none h, Array.getElem?_eq_getElem hlt] at e; cases e
  · have hlt := (h.off i d h1 k e).2
    have e2 := hv k (hn i d h1 k e) hlt
    rcases Nat.lt_or_ge k v.heap.size with h | h
    · exact h
    · rw [Array.getElem?_eq_none h, Array.getElem?_eq_getElem hlt] at e2; cases e2
end Go.Proofs.Ytefkfglkpebbmac
