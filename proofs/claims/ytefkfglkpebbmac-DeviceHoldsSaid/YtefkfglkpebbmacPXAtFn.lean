/- The walks of the laws' own function at, by itself. -/
import Derived.Test.YtefkfglkpebbmacPA
set_option linter.unusedVariables false
set_option linter.unusedSimpArgs false
set_option maxRecDepth 100000
set_option maxHeartbeats 40000000
namespace Go.Proofs.Ytefkfglkpebbmac
open Go.RowKit
variable {Y:Prop}
theorem at2_calls(k n:Int)(w:World)(hk1:-9223372036854775808<=k)(hk2:k<=9223372036854775807)(hn:1<=n)(hn2:n<=4503599627370496):
  Calls Try.prog 38 #[iv k,iv n] w (Ret w (iv (k%n))):=by
 exact x0o9
end Go.Proofs.Ytefkfglkpebbmac
