/- What world.happen gives. No conditions. -/
import Derived.Test.YtefkfglkpebbmacPXWorOwn
set_option linter.unusedVariables false
set_option linter.unusedSimpArgs false
set_option maxRecDepth 100000
set_option maxHeartbeats 40000000
namespace Go.Proofs.Ytefkfglkpebbmac
open Go.RowKit
variable {Y:Prop}
section
variable {g base:Nat} {w w' w2:World}
end
end Go.Proofs.Ytefkfglkpebbmac
