/- Arguments that are slices of ints. No conditions. -/
import Derived.Test.YtefkfglkpebbmacPE1
import Derived.Test.YtefkfglkpebbmacPA
set_option linter.unusedVariables false
set_option linter.unusedSimpArgs false
set_option maxRecDepth 100000
set_option maxHeartbeats 40000000
namespace Go.Proofs.Ytefkfglkpebbmac
open Go.RowKit
variable {Y:Prop}
section
open Go.RowKit Go.WideShapes Go.ChangeShapes Go.ChangeAt
theorem argInts_of{H:Type}{enc:TypeId×Value->H}{w:World}{base:Nat}{v:Value}{d:DataW H}{p:List MemPlace}
  (ho:Value.okWide Try.prog w .any base 42 v) (h:DataW.Trod enc Try.prog w 0 (fun _=>true) true 42 v d p) (hb:Wt Try.prog 42 d):∃xs,ArgInts w v xs:=by
 obtain⟨xs,A,c,hv,h1,h2,h3⟩:=argSlice_of Try.underlying42 (by kernel_rfl:Try.prog.cellsOf 3=1) (by omega) (readBy_int Try.underlying3) ho h hb;refine⟨xs,A,c,hv,h1,h2,fun i hi=>?_,fun x hx=>?_⟩
 ·obtain⟨b,o,hA,hlt,cs,hl,hc,hr⟩:=h3 i hi;have hr1:=hr.1;subst hr1;exact⟨b,o,hA,hlt,by simpa using hc 0 (by simp)⟩
 obtain⟨i,hi,rfl⟩:=List.getElem_of_mem hx;obtain⟨b,o,hA,hlt,cs,hl,hc,hr⟩:=h3 i hi;exact hr.2
end
end Go.Proofs.Ytefkfglkpebbmac
