/- Steps, and their lengths. No conditions. -/
import Derived.Test.YtefkfglkpebbmacQBase
import Derived.Test.YtefkfglkpebbmacQConcat23
import Derived.IntWalk
namespace Go.Proofs.Ytefkfglkpebbmac
open Go.RowKit
set_option linter.unusedVariables false
set_option linter.unusedSimpArgs false

/-- It returns steps and an error. -/
def OpRet2 (w : World) (l : List Stp) (n : Int) : Ending → World → Prop := fun en w' =>
  ∃ A c, en = .returned (.tuple #[.slice A l.length c, iv n]) ∧ Sps w' A l ∧ l.length ≤ c ∧ Below w.heap.size w w'
theorem data_le (old : List UInt8) : ∀ (l : List Stp), ∀ o ∈ l, o.data.length ≤ (applied old l).length
  | [], _, h => by cases h
  | x :: l, o, h => by
    rw [applied_cons, List.length_append]
    rcases List.mem_cons.1 h with rfl | h
    · simp [Stp.piece]; omega
    · have := data_le old l o h; omega
theorem snoc_of {α : Type} (l : List α) (h : l ≠ []) : ∃ m x, l = m ++ [x] := ⟨l.dropLast, l.getLast h, (List.dropLast_concat_getLast h).symm⟩
theorem addByte_len (l : List Stp) (x : UInt8) : (addByte l x).length ≤ l.length + 1 := by
  by_cases h : l = []
  · subst h; simp [addByte]
  · obtain ⟨m, o, rfl⟩ := snoc_of l h
    rw [addByte_snoc]; split <;> simp
theorem diffN_len (old b : List UInt8) : ∀ q, (diffN old b q).2.length ≤ q
  | 0 => by simp [diffN]
  | q + 1 => by
    have ih := diffN_len old b q
    show (diffStep old b (diffN old b q)).2.length ≤ q + 1
    generalize diffN old b q = p at *
    unfold diffStep
    split
    · split
      · simp only [List.length_append, List.length_cons, List.length_nil]; omega
      · have := addByte_len p.2 (b.getD p.1 0)
        show (addByte p.2 (b.getD p.1 0)).length ≤ q + 1
        omega
    · omega
end Go.Proofs.Ytefkfglkpebbmac
