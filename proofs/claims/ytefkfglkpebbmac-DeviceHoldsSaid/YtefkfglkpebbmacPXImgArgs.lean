/- Images as arguments: what their cells read as. No conditions. -/
import Derived.Test.YtefkfglkpebbmacP1
set_option linter.unusedVariables false
set_option linter.unusedSimpArgs false
set_option maxRecDepth 100000
set_option maxHeartbeats 40000000
namespace Go.Proofs.Ytefkfglkpebbmac
open Go.RowKit
variable {Y:Prop}
section
open Go.RowKit Go.WideShapes Go.ChangeShapes Go.ChangeAt
section
variable {H:Type} {enc:TypeId×Value->H} {P:Program} {w:World} {sp:Nat->Bool} {held:Bool} {t e:TypeId}
theorem readBy_img(ht:P.underlying t=some (.slice e))(he:P.underlying e=some (.int .u8))(hs:P.cellsOf e=1):ReadBy enc P w sp held t rImg:=by
 intro fuel cs d ps h hb;obtain⟨xs,A,c,hx,h1,h2,h3⟩:=readBy_slice ht hs (by omega) (readBy_byte he) fuel cs d ps h hb;exact⟨xs,A,c,hx,h1,h2,h3.bts⟩
end
section
variable {H:Type} {enc:TypeId×Value->H} {w:World} {sp:Nat->Bool} {held:Bool}
theorem reads_img:ReadBy enc Try.prog w sp held 22 rImg:=
 readBy_img Try.underlying22 Try.underlying5 (by kernel_rfl)
end
end
end Go.Proofs.Ytefkfglkpebbmac
