/- Arguments that are chunks, or slices of such. No conditions. -/
import Derived.Test.YtefkfglkpebbmacPA
set_option linter.unusedVariables false
set_option linter.unusedSimpArgs false
set_option maxRecDepth 100000
set_option maxHeartbeats 40000000
namespace Go.Proofs.Ytefkfglkpebbmac
open Go.RowKit
variable {Y:Prop}
section
open Go.RowKit Go.WideShapes Go.ChangeShapes Go.ChangeAt
theorem reads_chk{H:Type}{enc:TypeId×Value->H}{w:World}{sp:Nat->Bool}{held:Bool}:ReadBy enc Try.prog w sp held 49 rChk:=
 readBy_chk Try.underlying49 (by kernel_rfl) rfl rfl rfl rfl rfl (by kernel_rfl) (by kernel_rfl) (by kernel_rfl) (by kernel_rfl) (by kernel_rfl)
  Try.underlying3 Try.underlying3 Try.underlying3 Try.underlying3 Try.underlying22 Try.underlying5 (by kernel_rfl)
theorem argChunk_of{H:Type}{enc:TypeId×Value->H}{w:World}{base:Nat}{v:Value}{d:DataW H}{p:List MemPlace}
  (ho:Value.okWide Try.prog w .any base 49 v) (h:DataW.Trod enc Try.prog w 0 (fun _=>true) true 49 v d p) (hb:Wt Try.prog 49 d):∃x,ArgChk w v x:=by
 obtain⟨x,cs,hv,A,c,rfl,hp⟩:=argAgg_of (.inl ⟨_,Try.underlying49⟩) reads_chk ho h hb;exact⟨x,A,c,hv,hp⟩
end
end Go.Proofs.Ytefkfglkpebbmac
