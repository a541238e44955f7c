/- Walks of functions, and plain words. No conditions. -/
import Derived.Test.YtefkfglkpebbmacPE1
import Derived.Test.YtefkfglkpebbmacPA
set_option linter.unusedVariables false
set_option linter.unusedSimpArgs false
set_option maxRecDepth 100000
set_option maxHeartbeats 40000000
namespace Go.Proofs.Ytefkfglkpebbmac
open Go.RowKit
variable {Y:Prop}
section
open Go.RowKit Go.WideShapes Go.ChangeShapes Go.ChangeAt
end
end Go.Proofs.Ytefkfglkpebbmac
