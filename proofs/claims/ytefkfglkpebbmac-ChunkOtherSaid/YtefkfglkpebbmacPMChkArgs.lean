/- Walks of functions, and plain words. No conditions. -/
import Derived.Test.YtefkfglkpebbmacPE1
import Derived.Test.YtefkfglkpebbmacPA
set_option linter.unusedVariables false
set_option linter.unusedSimpArgs false
set_option maxRecDepth 100000
set_option maxHeartbeats 40000000
namespace Go.Proofs.Ytefkfglkpebbmac
open Go.RowKit
variable {Y:Prop}
variable {w:World}
section
open Go.RowKit Go.WideShapes Go.ChangeShapes Go.ChangeAt
theorem reads_chk{H:Type}{enc:TypeId×Value->H}{sp:Nat->Bool}{held:Bool}:ReadBy enc Try.prog w sp held 49 rChk:=
 readBy_chk Try.underlying49 (by kernel_rfl) rfl rfl rfl rfl rfl (by kernel_rfl) (by kernel_rfl) (by kernel_rfl) (by kernel_rfl) (by kernel_rfl)
  Try.underlying3 Try.underlying3 Try.underlying3 Try.underlying3 Try.underlying22 Try.underlying5 (by kernel_rfl)
theorem argChunk_of{H:Type}{enc:TypeId×Value->H}{base:Nat}{v:Value}{d:DataW H}{p:List MemPlace}
  (ho:Value.okWide Try.prog w .any base 49 v) (h:DataW.Trod enc Try.prog w 0 (fun _=>true) true 49 v d p) (hb:Wt Try.prog 49 d):∃x,ArgChk w v x:=by
 obtain⟨x,cs,hv,A,c,rfl,hp⟩:=argAgg_of (.inl ⟨_,Try.underlying49⟩) reads_chk ho h hb;exact⟨x,A,c,hv,hp⟩
theorem argChunks_of{H:Type}{enc:TypeId×Value->H}{base:Nat}{v:Value}{d:DataW H}{p:List MemPlace}
  (ho:Value.okWide Try.prog w .any base 43 v) (h:DataW.Trod enc Try.prog w 0 (fun _=>true) true 43 v d p) (hb:Wt Try.prog 43 d):∃xs,ArgChks w v xs:=by
 obtain⟨xs,A,c,hv,h1,h2,h3⟩:=argSliceM_of (M:=2513169434843) Try.underlying43 (by kernel_rfl:Try.prog.cellsOf 49=5) (by omega) reads_chk ho h hb (fun n _ h=>by rw[(by kernel_rfl:Try.prog.bytesOf 49=56)]at h;omega);exact⟨xs,A,c,hv,h1,h2,h3⟩
end
end Go.Proofs.Ytefkfglkpebbmac
