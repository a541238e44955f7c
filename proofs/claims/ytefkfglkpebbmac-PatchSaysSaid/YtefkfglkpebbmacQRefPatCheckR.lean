/- The document's CheckPatch of an opaque row. No conditions. -/
import Derived.Test.YtefkfglkpebbmacQRefPatCheck
import Derived.Test.YtefkfglkpebbmacQPatRows
namespace Go.Proofs.Ytefkfglkpebbmac
open Go.RowKit
set_option linter.unusedVariables false

theorem refPatCheck_calls (A : Option Addr) (c : Nat) (f t o n sz : Int) (l : List Stp) (w : World) (hl : l.length ≤ 3518437208780) (hs : Sps w A l) :
    Calls Try.prog 30 #[.agg (patA f t o n sz A l.length c)] w (RetB w (iv (patCheck ⟨f, t, o, n, sz, l⟩))) := refPatCheckA_calls A c f t o n sz l w hl hs
end Go.Proofs.Ytefkfglkpebbmac
