/- The walk of world.images. Printed by gen_worimg.py. No conditions. -/
import Derived.Test.YtefkfglkpebbmacP5
import Derived.Test.YtefkfglkpebbmacPXCloneRows
set_option linter.unusedVariables false
set_option linter.unusedSimpArgs false
set_option maxRecDepth 100000
set_option maxHeartbeats 40000000
namespace Go.Proofs.Ytefkfglkpebbmac
open Go.RowKit
variable {Y:Prop}
section
open Go.RowKit
end
end Go.Proofs.Ytefkfglkpebbmac
