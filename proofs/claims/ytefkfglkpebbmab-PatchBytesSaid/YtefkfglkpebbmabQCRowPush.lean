/- A row of steps with one more, where other blocks stay. No conditions. -/
import Derived.Test.YtefkfglkpebbmabQCRowKeep
import Derived.Test.YtefkfglkpebbmabQBase
import Derived.Test.YtefkfglkpebbmabQPatRet
import Derived.Test.YtefkfglkpebbmabQByteOps
import Derived.Test.YtefkfglkpebbmabQUnpack
import Derived.IntWalk
namespace Go.Proofs.Ytefkfglkpebbmab
open Go.RowKit
set_option linter.unusedVariables false

theorem grown_of {w w' : World} {base : Nat} {A : Option Addr} (hb : Below base w w') (hk : ∀ k, k < w.heap.size → A.map (·.block) ≠ some k → w'.heap[k]? = w.heap[k]?) : w.grownBy w' (A.map (·.block)) :=
  ⟨hb.os, hb.tape, hb.output, hb.size, fun k h1 h2 => hk k h1 (fun e => h2 e.symm)⟩
theorem CRow.push2 {w w' : World} {base B : Nat} {l : List Stp} {ds : List (Option Addr × Nat)} {A A' : Option Addr} {c c' : Nat} {o : Stp} {d : Option Addr × Nat} (h : CRow w base l ds A c)
    (h1 : Own w' base 31 3 A' (l.length + 1) c' (opCells l ds ++ opCell o d)) (hb : Below B w w') (hk : ∀ k, k < w.heap.size → A.map (·.block) ≠ some k → w'.heap[k]? = w.heap[k]?) (h3 : A'.map (·.block) = A.map (·.block) ∨ ∀ k, A'.map (·.block) = some k → w.heap.size ≤ k)
    (hd : Bts w d.1 o.data) (hd2 : o.data.length ≤ d.2) (hd3 : ∀ k, d.1.map (·.block) = some k → A.map (·.block) ≠ some k ∧ k < w.heap.size) :
    CRow w' base (l ++ [o]) (ds ++ [d]) A' c' := by
  have h2 := grown_of hb hk
  have hlen := h.len
  refine ⟨by simp [hlen], ?_, ?_, ?_⟩
  · rw [opCells_snoc _ _ _ _ hlen, List.length_append]; exact h1
  · intro i o' d' hi hd'
    rcases snoc_at hi with hi | ⟨rfl, rfl⟩
    · have hil : i < l.length := (List.getElem?_eq_some_iff.1 hi).1
      rw [List.getElem?_append_left (by omega)] at hd'
      obtain ⟨e1, e2⟩ := h.data i o' d' hi hd'
      exact ⟨bts_grown e1 h2 (fun k hk => (h.off i d' hd' k hk).1), e2⟩
    · rw [← hlen] at hd'
      simp at hd'
      subst hd'
      exact ⟨bts_grown hd h2 (fun k hk => (hd3 k hk).1), hd2⟩
  · intro i d' hd' k hk
    have key : A.map (·.block) ≠ some k ∧ k < w.heap.size := by
      rcases snoc_at hd' with hd' | ⟨rfl, rfl⟩
      · exact h.off i d' hd' k hk
      · exact hd3 k hk
    refine ⟨?_, Nat.lt_of_lt_of_le key.2 h2.size⟩
    rcases h3 with h3 | h3
    · rw [h3]; exact key.1
    · intro e; have := h3 k e; omega
end Go.Proofs.Ytefkfglkpebbmab
