/- Walks of functions, and plain words. No conditions. -/
import Derived.Test.YtefkfglkpebbmacP1
set_option linter.unusedVariables false
set_option linter.unusedSimpArgs false
set_option maxRecDepth 100000
set_option maxHeartbeats 40000000
namespace Go.Proofs.Ytefkfglkpebbmac
open Go.RowKit
variable {Y:Prop}
section
open Go.RowKit Go.WideShapes Go.ChangeShapes Go.ChangeAt
def rInf:CR Inf:=fun _ cs x=>cs=(infA x).toList
def rInfs:CR (Inf×Inf):=fun _ cs x=>cs=(infA x.1).toList++(infA x.2).toList
def rRec:CR Rec:=fun _ cs x=>cs=(recA x).toList
def rCop:CR Cop:=fun _ cs x=>cs=(copA x).toList
def rCops:CR (Cop×Cop):=fun _ cs x=>cs=(copA x.1).toList++(copA x.2).toList
section
variable {H:Type} {enc:TypeId×Value->H} {P:Program} {w:World} {sp:Nat->Bool} {held:Bool} {t e:TypeId}
theorem readBy_inf{f0 f1 f2:Field}(ht:P.underlying t=some (.struct #[f0,f1,f2]))(hs:P.cellsOf t=3)
  (o0:f0.offset=0) (o1:f1.offset=1) (o2:f2.offset=2) (k0:P.cellsOf f0.type=1) (k1:P.cellsOf f1.type=1) (k2:P.cellsOf f2.type=1)
  (t0:P.underlying f0.type=some (.int .i64)) (t1:P.underlying f1.type=some (.int .i64)) (t2:P.underlying f2.type=some (.int .i64)):ReadBy enc P w sp held t rInf:=by
 intro fuel cs d ps h hb;obtain⟨hl,hf⟩:=field_of ht h hb;obtain⟨a,ha⟩:=hf 0 f0 rfl (readBy_int t0);obtain⟨b,hb⟩:=hf 1 f1 rfl (readBy_int t1);obtain⟨c,hc⟩:=hf 2 f2 rfl (readBy_int t2);rw[hs]at hl
 match cs,hl with
 |[x,y,z],_=>
  rw[o0,k0]at ha;rw[o1,k1]at hb;rw[o2,k2]at hc;obtain⟨ha,ha'⟩:=ha;obtain⟨hb,hb'⟩:=hb;obtain⟨hc,hc'⟩:=hc;simp at ha hb hc;subst ha hb hc;exact⟨⟨a,b,c⟩,rfl⟩
theorem readBy_infs(ht:P.underlying t=some (.array 2 e))(hs:P.cellsOf t=6)(h1:P.cellsOf e=3)(hR:ReadBy enc P w sp held e rInf):ReadBy enc P w sp held t rInfs:=by
 intro fuel cs d ps h hb;obtain⟨hl,hf⟩:=place_of ht h hb;obtain⟨a,ha⟩:=hf 0 (by omega) hR;obtain⟨b,hb⟩:=hf 1 (by omega) hR;rw[hs]at hl;rw[h1]at ha hb;refine⟨(a,b),?_⟩;unfold rInf at ha hb
 show cs=_;rw[<-ha,<-hb];have e:(cs.drop (1*3)).take 3=cs.drop 3:=by rw[Nat.one_mul];exact List.take_of_length_le (by rw[List.length_drop];omega)
 rw[e,Nat.zero_mul,List.drop_zero,List.take_append_drop]
theorem readBy_rec{f0 f1 f2 f3 f4 f5:Field}(ht:P.underlying t=some (.struct #[f0,f1,f2,f3,f4,f5]))(hs:P.cellsOf t=11)
  (o0:f0.offset=0) (o1:f1.offset=1) (o2:f2.offset=2) (o3:f3.offset=3) (o4:f4.offset=4) (o5:f5.offset=5)
  (k0:P.cellsOf f0.type=1) (k1:P.cellsOf f1.type=1) (k2:P.cellsOf f2.type=1) (k3:P.cellsOf f3.type=1) (k4:P.cellsOf f4.type=1) (k5:P.cellsOf f5.type=6)
  (t0:P.underlying f0.type=some (.int .i64)) (t1:P.underlying f1.type=some (.int .i64)) (t2:P.underlying f2.type=some .bool) (t3:P.underlying f3.type=some (.int .i64)) (t4:P.underlying f4.type=some (.int .i64)) (t5:ReadBy enc P w sp held f5.type rInfs):ReadBy enc P w sp held t rRec:=by
 intro fuel cs d ps h hb;obtain⟨hl,hf⟩:=field_of ht h hb;obtain⟨a6,h6⟩:=hf 0 f0 rfl (readBy_int t0);obtain⟨a1,h1⟩:=hf 1 f1 rfl (readBy_int t1);obtain⟨a2,h2⟩:=hf 2 f2 rfl (readBy_bool t2);obtain⟨a3,h3⟩:=hf 3 f3 rfl (readBy_int t3);obtain⟨a4,h4⟩:=hf 4 f4 rfl (readBy_int t4);obtain⟨a5,h5⟩:=hf 5 f5 rfl t5;rw[hs]at hl;rw[o0,k0]at h6;rw[o1,k1]at h1;rw[o2,k2]at h2;rw[o3,k3]at h3;rw[o4,k4]at h4;rw[o5,k5]at h5
 match cs,hl with
 |[c0,c1,c2,c3,c4,c5,c6,c7,c8,c9,c10],_=>
  obtain⟨h6,_⟩:=h6;obtain⟨h1,_⟩:=h1;obtain⟨h3,_⟩:=h3;obtain⟨h4,_⟩:=h4;unfold rBool at h2;unfold rInfs infA at h5;simp at h6 h1 h2 h3 h4 h5;obtain⟨e5,e6,e7,e8,e9,e10⟩:=h5;subst h6 h1 h2 h3 h4 e5 e6 e7 e8 e9 e10;exact⟨⟨a6,a1,a2,a3,a4,a5.1,a5.2⟩,rfl⟩
theorem readBy_cop{f0 f1:Field}(ht:P.underlying t=some (.struct #[f0,f1]))(hs:P.cellsOf t=12)(o0:f0.offset=0)(o1:f1.offset=1)(k0:P.cellsOf f0.type=1)(k1:P.cellsOf f1.type=11)
  (t0:P.underlying f0.type=some .bool) (t1:ReadBy enc P w sp held f1.type rRec):ReadBy enc P w sp held t rCop:=by
 intro fuel cs d ps h hb;obtain⟨hl,hf⟩:=field_of ht h hb;obtain⟨a0,h2⟩:=hf 0 f0 rfl (readBy_bool t0);obtain⟨a1,h1⟩:=hf 1 f1 rfl t1;rw[hs]at hl;rw[o0,k0]at h2;rw[o1,k1]at h1;unfold rRec at h1
 match cs,hl with
 |c::r,hl=>
  unfold rBool at h2;have h0':c=.bool a0:=by simpa using h2
  have h1':r=(recA a1).toList:=by rw[<-h1];show r=(r.take 11);rw[List.take_of_length_le (by simp at hl;omega)]
  subst h0' h1';exact⟨⟨a0,a1⟩,rfl⟩
theorem readBy_cops(ht:P.underlying t=some (.array 2 e))(hs:P.cellsOf t=24)(h1:P.cellsOf e=12)(hR:ReadBy enc P w sp held e rCop):ReadBy enc P w sp held t rCops:=by
 intro fuel cs d ps h hb;obtain⟨hl,hf⟩:=place_of ht h hb;obtain⟨a,ha⟩:=hf 0 (by omega) hR;obtain⟨b,hb⟩:=hf 1 (by omega) hR;rw[hs]at hl;rw[h1]at ha hb;refine⟨(a,b),?_⟩;unfold rCop at ha hb
 show cs=_;rw[<-ha,<-hb];have e:(cs.drop (1*12)).take 12=cs.drop 12:=by rw[Nat.one_mul];exact List.take_of_length_le (by rw[List.length_drop];omega)
 rw[e,Nat.zero_mul,List.drop_zero,List.take_append_drop]
end
section
variable {H:Type} {enc:TypeId×Value->H} {w:World} {sp:Nat->Bool} {held:Bool}
theorem reads_infs:ReadBy enc Try.prog w sp held 64 rInfs:=
 readBy_infs Try.underlying64 (by kernel_rfl) (by kernel_rfl) (readBy_inf Try.underlying63 (by kernel_rfl) rfl rfl rfl (by kernel_rfl) (by kernel_rfl) (by kernel_rfl) Try.underlying3 Try.underlying3 Try.underlying3)
theorem reads_rec:ReadBy enc Try.prog w sp held 66 rRec:=
 readBy_rec Try.underlying66 (by kernel_rfl) rfl rfl rfl rfl rfl rfl (by kernel_rfl) (by kernel_rfl) (by kernel_rfl) (by kernel_rfl) (by kernel_rfl) (by kernel_rfl)
  Try.underlying3 Try.underlying3 Try.underlying4 Try.underlying3 Try.underlying3 reads_infs
theorem reads_cop:ReadBy enc Try.prog w sp held 68 rCop:=
 readBy_cop Try.underlying68 (by kernel_rfl) rfl rfl (by kernel_rfl) (by kernel_rfl) Try.underlying4 reads_rec
theorem reads_cops:ReadBy enc Try.prog w sp held 69 rCops:=
 readBy_cops Try.underlying69 (by kernel_rfl) (by kernel_rfl) reads_cop
end
section
variable {H:Type} {enc:TypeId×Value->H} {w:World} {base:Nat} {v:Value} {d:DataW H} {p:List MemPlace}
end
end
end Go.Proofs.Ytefkfglkpebbmac
