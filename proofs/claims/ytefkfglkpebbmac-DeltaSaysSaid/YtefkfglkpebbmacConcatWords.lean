/- Plain words on the sources of a concatenation. -/
import Derived.Test.YtefkfglkpebbmacOwn
import Derived.Lib.AppendZerosOnto
namespace Go.Proofs.Ytefkfglkpebbmac
open Go.RowKit
set_option linter.unusedVariables false

/-- One of the slices that are put together: where it starts, its length and capacity, its cells. -/
structure SrcOf where
  A : Option Addr
  n : Nat
  c : Nat
  cells : List Value
def SrcOf.val (s : SrcOf) : Value := .slice s.A s.n s.c
def SrcOf.ok (s : SrcOf) (w : World) (size : Nat) : Prop := s.cells.length = s.n * size ∧ Src w s.A s.cells ∧ ∀ u ∈ s.cells, u.oneCell' = true
theorem SrcOf.ok.stays {s : SrcOf} {w w' : World} {size : Nat} (h : s.ok w size) (hb : Below w.heap.size w w') : s.ok w' size := ⟨h.1, h.2.1.stays hb, h.2.2⟩
def sumN (ss : List SrcOf) : Nat := (ss.map SrcOf.n).sum
theorem sumN_take (ss : List SrcOf) (k : Nat) (h : k < ss.length) : sumN (ss.take (k + 1)) = sumN (ss.take k) + ss[k].n := by
  unfold sumN
  rw [List.take_succ_eq_append_getElem h, List.map_append, List.sum_append]; rfl
theorem sumN_le (ss : List SrcOf) (k : Nat) : sumN (ss.take k) ≤ sumN ss := by
  have h : sumN ss = sumN (ss.take k) + sumN (ss.drop k) := by
    unfold sumN
    rw [← List.sum_append, ← List.map_append, List.take_append_drop]
  omega
end Go.Proofs.Ytefkfglkpebbmac
