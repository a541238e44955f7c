/- It returns a patch. No conditions. -/
import Derived.Test.YtefkfglkpebbmacQPatCheck
import Derived.Test.YtefkfglkpebbmacQPatRows
import Derived.Test.YtefkfglkpebbmacQBase
namespace Go.Proofs.Ytefkfglkpebbmac
open Go.RowKit
set_option linter.unusedVariables false
set_option linter.unusedSimpArgs false

/-- It returns a patch and a number. -/
def PaRet (w : World) (p : Pat) (n : Int) : Ending → World → Prop := fun en w' =>
  ∃ A c, en = .returned (.tuple #[.agg (patA p.from_ p.to_ p.old p.new_ p.size A p.ops.length c), iv n]) ∧ Fresh w.heap.size w' (fun v => PatIn v p A c) ∧ Below w.heap.size w w'
theorem patIn_zero (w : World) : PatIn w Pat.zero none 0 := ⟨Nat.le_refl _, by simp [Pat.zero], Sps.nil _ _, ⟨by decide, by decide⟩, ⟨by decide, by decide⟩, ⟨by decide, by decide⟩, ⟨by decide, by decide⟩, ⟨by decide, by decide⟩⟩
theorem patCheck_calls (A : Option Addr) (c : Nat) (f t o n sz : Int) (l : List Stp) (w : World) (hl : l.length ≤ 3518437208780) (hs : Sps w A l) :
    Calls Try.prog 29 #[.agg (patA f t o n sz A l.length c)] w (RetB w (iv (patCheck ⟨f, t, o, n, sz, l⟩))) := patCheckA_calls A c f t o n sz l w hl hs
end Go.Proofs.Ytefkfglkpebbmac
