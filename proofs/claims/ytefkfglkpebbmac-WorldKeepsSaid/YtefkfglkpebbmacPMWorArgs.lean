/- Walks of functions, and plain words. No conditions. -/
import Derived.Test.YtefkfglkpebbmacPMDevArgs
set_option linter.unusedVariables false
set_option linter.unusedSimpArgs false
set_option maxRecDepth 100000
set_option maxHeartbeats 40000000
namespace Go.Proofs.Ytefkfglkpebbmac
open Go.RowKit
variable {Y:Prop}
section
open Go.RowKit Go.WideShapes Go.ChangeShapes Go.ChangeAt
def rWor:CR Wor:=fun w cs x=>∃L,cs=(worA x L).toList∧WorIn w x L
section
variable {H:Type} {enc:TypeId×Value->H} {P:Program} {w:World} {sp:Nat->Bool} {held:Bool} {t e:TypeId}
theorem readBy_wor{f0 f1 f2:Field}{ti tc:TypeId}(ht:P.underlying t=some (.struct #[f0,f1,f2]))(hs:P.cellsOf t=39)
  (o0:f0.offset=0) (o1:f1.offset=1) (o2:f2.offset=38) (k0:P.cellsOf f0.type=1) (k1:P.cellsOf f1.type=37) (k2:P.cellsOf f2.type=1)
  (t0:P.underlying f0.type=some (.slice ti)) (hi:P.cellsOf ti=1) (hBi:P.bytesOf ti=24) (hI:ReadBy enc P w sp held ti rImg) (t1:ReadBy enc P w sp held f1.type rDev) (t2:P.underlying f2.type=some (.slice tc)) (hc:P.cellsOf tc=5) (hB:P.bytesOf tc=56) (hR:ReadBy enc P w sp held tc rChk):ReadBy enc P w sp held t rWor:=by
 intro fuel cs d ps h hb;obtain⟨hl,hf⟩:=field_of ht h hb;obtain⟨rel,A1,c1,h3,x1,x2,x3⟩:=hf 0 f0 rfl (readBy_sliceM (M:=5864062014634) t0 hi (by omega) hI (fun n _ h=>by rw[hBi]at h;omega));obtain⟨d,L,h1,y⟩:=hf 1 f1 rfl t1;obtain⟨net,A2,c2,h2,z1,z2,z3⟩:=hf 2 f2 rfl (readBy_sliceM (M:=2513169434843) t2 hc (by omega) hR (fun n _ h=>by rw[hB]at h;omega));rw[hs]at hl;rw[o0,k0]at h3;rw[o1,k1]at h1;rw[o2,k2]at h2;have e3:=part_of h3;have e1:=part_of h1;have e2:=part_of h2;have e4:cs.drop (38+1)=[]:=List.drop_eq_nil_of_le (by omega);refine⟨⟨rel,d,net⟩,⟨A1,c1,L,A2,c2⟩,?_,⟨x1,x2,x3,y,z1,z2,z3⟩⟩;have e:cs=cs.drop 0:=rfl;rw[e,e3];rw[show 0+1=1 from rfl,e1,show 1+37=38 from rfl,e2,e4];rfl
end
section
variable {H:Type} {enc:TypeId×Value->H} {w:World} {sp:Nat->Bool} {held:Bool}
theorem reads_wor:ReadBy enc Try.prog w sp held 88 rWor:=
 readBy_wor Try.underlying88 (by kernel_rfl) rfl rfl rfl (by kernel_rfl) (by kernel_rfl) (by kernel_rfl) Try.underlying86 (by kernel_rfl) (by kernel_rfl) reads_img reads_dev Try.underlying43 (by kernel_rfl) (by kernel_rfl) reads_chk
end
def ArgWor(W:World)(v:Value)(x:Wor):Prop:=∃L,v=.agg (worA x L)∧WorIn W x L
section
variable {H:Type} {enc:TypeId×Value->H} {w:World} {base:Nat} {v:Value} {d:DataW H} {p:List MemPlace}
theorem argWor_of(ho:Value.okWide Try.prog w .any base 88 v)(h:DataW.Trod enc Try.prog w 0 (fun _=>true) true 88 v d p)(hb:Wt Try.prog 88 d):∃x,ArgWor w v x:=by
 obtain⟨x,cs,hv,L,hp,h1⟩:=argAgg_of (.inl ⟨_,Try.underlying88⟩) reads_wor ho h hb;exact⟨x,L,by rw[hv,hp],h1⟩
end
end
end Go.Proofs.Ytefkfglkpebbmac
