/- Walks of functions, and plain words. No conditions. -/
import Derived.Test.YtefkfglkpebbmacPE1
import Derived.Test.YtefkfglkpebbmacPA
set_option linter.unusedVariables false
set_option linter.unusedSimpArgs false
set_option maxRecDepth 100000
set_option maxHeartbeats 40000000
namespace Go.Proofs.Ytefkfglkpebbmac
open Go.RowKit
variable {Y:Prop}
section
open Go.RowKit Go.WideShapes Go.ChangeShapes Go.ChangeAt
theorem argPatch_of{H:Type}{enc:TypeId×Value->H}{w:World}{base:Nat}{v:Value}{d:DataW H}{p:List MemPlace}
  (ho:Value.okWide Try.prog w .any base 35 v) (h:DataW.Trod enc Try.prog w 0 (fun _=>true) true 35 v d p) (hb:Wt Try.prog 35 d):∃x,ArgPat w v x:=by
 have hR:ReadBy enc Try.prog w (fun _=>true) true 35 rPat:=
  readBy_pat Try.underlying35 (by kernel_rfl) rfl rfl rfl rfl rfl rfl (by kernel_rfl) (by kernel_rfl) (by kernel_rfl) (by kernel_rfl) (by kernel_rfl) (by kernel_rfl)
   Try.underlying3 Try.underlying3 Try.underlying3 Try.underlying3 Try.underlying3 Try.underlying23 (by kernel_rfl) (by kernel_rfl) reads_op
 obtain⟨x,cs,hv,A,c,rfl,hp⟩:=argAgg_of (.inl ⟨_,Try.underlying35⟩) hR ho h hb;exact⟨x,A,c,hv,hp⟩
end
end Go.Proofs.Ytefkfglkpebbmac
