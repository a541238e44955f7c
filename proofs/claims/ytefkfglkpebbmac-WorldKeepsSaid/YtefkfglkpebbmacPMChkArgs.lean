/- Walks of functions, and plain words. No conditions. -/
import Derived.Test.YtefkfglkpebbmacPE1
import Derived.Test.YtefkfglkpebbmacPA
set_option linter.unusedVariables false
set_option linter.unusedSimpArgs false
set_option maxRecDepth 100000
set_option maxHeartbeats 40000000
namespace Go.Proofs.Ytefkfglkpebbmac
open Go.RowKit
variable {Y:Prop}
section
open Go.RowKit Go.WideShapes Go.ChangeShapes Go.ChangeAt
theorem reads_chk{H:Type}{enc:TypeId×Value->H}{w:World}{sp:Nat->Bool}{held:Bool}:ReadBy enc Try.prog w sp held 49 rChk:=
 readBy_chk Try.underlying49 (by kernel_rfl) rfl rfl rfl rfl rfl (by kernel_rfl) (by kernel_rfl) (by kernel_rfl) (by kernel_rfl) (by kernel_rfl)
  Try.underlying3 Try.underlying3 Try.underlying3 Try.underlying3 Try.underlying22 Try.underlying5 (by kernel_rfl)
end
end Go.Proofs.Ytefkfglkpebbmac
