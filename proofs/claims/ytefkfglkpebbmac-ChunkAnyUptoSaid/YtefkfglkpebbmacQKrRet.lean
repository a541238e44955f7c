/- What a call returns that copies rows of records. No conditions. -/
import Derived.Test.YtefkfglkpebbmacQGRow
namespace Go.Proofs.Ytefkfglkpebbmac
open Go.RowKit
set_option linter.unusedVariables false
/-- It returns a row of the call's own, data too. -/
def KrRet {α : Type} (K : Kd α) (w : World) (l : List α) : Ending → World → Prop := fun en w' =>
  ∃ A c ds, en = .returned (.slice A l.length c) ∧ GRow K w' w.heap.size l ds A c ∧ Each K l ds (fun k => w.heap.size ≤ k) ∧ Below w.heap.size w w'
end Go.Proofs.Ytefkfglkpebbmac
