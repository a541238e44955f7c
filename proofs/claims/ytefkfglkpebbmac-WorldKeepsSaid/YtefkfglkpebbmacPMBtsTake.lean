/- Walks of functions, and plain words. No conditions. -/
import Derived.Test.YtefkfglkpebbmacPA
set_option linter.unusedVariables false
set_option linter.unusedSimpArgs false
set_option maxRecDepth 100000
set_option maxHeartbeats 40000000
namespace Go.Proofs.Ytefkfglkpebbmac
open Go.RowKit
variable {Y:Prop}
theorem bts_take{w:World}{A:OA}{l:LU}(h:Bts w A l)(n:Nat):Bts w A (l.take n):=by
 intro i hi;have h1:i<l.length:=by simp at hi;omega
 obtain⟨b,o,e,hl,hc⟩:=h i h1;exact⟨b,o,e,hl,by simpa using hc⟩
end Go.Proofs.Ytefkfglkpebbmac
