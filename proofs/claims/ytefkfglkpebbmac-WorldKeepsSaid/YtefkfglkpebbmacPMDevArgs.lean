/- Walks of functions, and plain words. No conditions. -/
import Derived.Test.YtefkfglkpebbmacP10
import Derived.Test.YtefkfglkpebbmacPMChkArgs
import Derived.Test.YtefkfglkpebbmacPMPatArgs
import Derived.Test.YtefkfglkpebbmacPMRecArgs
set_option linter.unusedVariables false
set_option linter.unusedSimpArgs false
set_option maxRecDepth 100000
set_option maxHeartbeats 40000000
namespace Go.Proofs.Ytefkfglkpebbmac
open Go.RowKit
variable {Y:Prop}
section
open Go.RowKit Go.WideShapes Go.ChangeShapes Go.ChangeAt
def rSlots:CR (List UInt8×List UInt8):=fun w cs x=>∃A c B e,cs=[.slice A x.1.length c,.slice B x.2.length e]∧(x.1.length<=c∧x.1.length<=140737488351232∧Bts w A x.1)∧x.2.length<=e∧x.2.length<=140737488351232∧Bts w B x.2
def rDev:CR Dev:=fun w cs d=>∃L,cs=(devA d L).toList∧DevIn w d L
theorem part_of{cs ys:List Value}{a n:Nat}(h:(cs.drop a).take n=ys):cs.drop a=ys++cs.drop (a+n):=by rw[<-h,<-List.drop_drop,List.take_append_drop]
section
variable {H:Type} {enc:TypeId×Value->H} {P:Program} {w:World} {sp:Nat->Bool} {held:Bool} {t e:TypeId}
theorem readBy_slots(ht:P.underlying t=some (.array 2 e))(hs:P.cellsOf t=2)(h1:P.cellsOf e=1)(hR:ReadBy enc P w sp held e rImg):ReadBy enc P w sp held t rSlots:=by
 intro fuel cs d ps h hb;obtain⟨hl,hf⟩:=place_of ht h hb;obtain⟨x,A,c,hx,g1,g2,g3⟩:=hf 0 (by omega) hR;obtain⟨y,B,e,hy,k1,k2,k3⟩:=hf 1 (by omega) hR;rw[hs]at hl;rw[h1]at hx hy
 match cs,hl with
 |[u,v],_=>
  simp at hx hy;subst hx hy;exact⟨(x,y),A,c,B,e,rfl,⟨g1,g2,g3⟩,k1,k2,k3⟩
theorem readBy_dev{f0 f1 f2 f3 f4 f5 f6 f7:Field}{tc:TypeId}(ht:P.underlying t=some (.struct #[f0,f1,f2,f3,f4,f5,f6,f7]))(hs:P.cellsOf t=37)
  (o0:f0.offset=0) (o1:f1.offset=2) (o2:f2.offset=26) (o3:f3.offset=27) (o4:f4.offset=28) (o5:f5.offset=29) (o6:f6.offset=30) (o7:f7.offset=36)
  (k0:P.cellsOf f0.type=2) (k1:P.cellsOf f1.type=24) (k2:P.cellsOf f2.type=1) (k3:P.cellsOf f3.type=1) (k4:P.cellsOf f4.type=1) (k5:P.cellsOf f5.type=1) (k6:P.cellsOf f6.type=6) (k7:P.cellsOf f7.type=1)
  (t0:ReadBy enc P w sp held f0.type rSlots) (t1:ReadBy enc P w sp held f1.type rCops) (t2:P.underlying f2.type=some .bool) (t3:P.underlying f3.type=some (.int .i64))
  (t4:P.underlying f4.type=some (.slice tc)) (hc:P.cellsOf tc=5) (hB:P.bytesOf tc=56) (hR:ReadBy enc P w sp held tc rChk) (t5:P.underlying f5.type=some .bool) (t6:ReadBy enc P w sp held f6.type rPat) (t7:P.underlying f7.type=some (.int .i64)):ReadBy enc P w sp held t rDev:=by
 intro fuel cs d ps h hb;obtain⟨hl,hf⟩:=field_of ht h hb;obtain⟨⟨s2,s1⟩,A2,c2,A1,c1,h8,⟨x1,x2,x3⟩,x4,x5,x6⟩:=hf 0 f0 rfl t0;obtain⟨⟨cp2,cp1⟩,h1⟩:=hf 1 f1 rfl t1;obtain⟨up,h2⟩:=hf 2 f2 rfl (readBy_bool t2);obtain⟨ru,h3,i1⟩:=hf 3 f3 rfl (readBy_int t3);obtain⟨got,A3,c3,h4,y1,y2,y3⟩:=hf 4 f4 rfl (readBy_sliceM (M:=2513169434843) t4 hc (by omega) hR (fun n _ h=>by rw[hB]at h;omega));obtain⟨bz,h5⟩:=hf 5 f5 rfl (readBy_bool t5);obtain⟨p,A4,c4,h6,z⟩:=hf 6 f6 rfl t6;obtain⟨dn,h7,i2⟩:=hf 7 f7 rfl (readBy_int t7);rw[hs]at hl;rw[o0,k0]at h8;rw[o1,k1]at h1;rw[o2,k2]at h2;rw[o3,k3]at h3;rw[o4,k4]at h4;rw[o5,k5]at h5;rw[o6,k6]at h6;rw[o7,k7]at h7;unfold rCops at h1;unfold rBool at h2 h5;have e9:=part_of h8;have e1:=part_of h1;have e2:=part_of h2;have e3:=part_of h3;have e4:=part_of h4;have e5:=part_of h5;have e6:=part_of h6;have e7:=part_of h7;have e8:cs.drop (36+1)=[]:=List.drop_eq_nil_of_le (by omega);refine⟨⟨s2,s1,cp2,cp1,up,ru,got,bz,p,dn⟩,⟨A2,c2,A1,c1,A3,c3,A4,c4⟩,?_,⟨x1,x2,x3,x4,x5,x6,y1,y2,y3,z,i1,i2⟩⟩;have e:cs=cs.drop 0:=rfl;rw[e,e9];rw[show 0+2=2 from rfl,e1,show 2+24=26 from rfl,e2,show 26+1=27 from rfl,e3,show 27+1=28 from rfl,e4,show 28+1=29 from rfl,e5,show 29+1=30 from rfl,e6,show 30+6=36 from rfl,e7,e8];rfl
end
section
variable {H:Type} {enc:TypeId×Value->H} {w:World} {sp:Nat->Bool} {held:Bool}
theorem reads_slots:ReadBy enc Try.prog w sp held 61 rSlots:=readBy_slots Try.underlying61 (by kernel_rfl) (by kernel_rfl) reads_img
theorem reads_pat:ReadBy enc Try.prog w sp held 35 rPat:=
 readBy_pat Try.underlying35 (by kernel_rfl) rfl rfl rfl rfl rfl rfl (by kernel_rfl) (by kernel_rfl) (by kernel_rfl) (by kernel_rfl) (by kernel_rfl) (by kernel_rfl)
  Try.underlying3 Try.underlying3 Try.underlying3 Try.underlying3 Try.underlying3 Try.underlying23 (by kernel_rfl) (by kernel_rfl) reads_op
theorem reads_dev:ReadBy enc Try.prog w sp held 71 rDev:=
 readBy_dev Try.underlying71 (by kernel_rfl) rfl rfl rfl rfl rfl rfl rfl rfl (by kernel_rfl) (by kernel_rfl) (by kernel_rfl) (by kernel_rfl) (by kernel_rfl) (by kernel_rfl) (by kernel_rfl) (by kernel_rfl)
  reads_slots reads_cops Try.underlying4 Try.underlying3 Try.underlying43 (by kernel_rfl) (by kernel_rfl) reads_chk Try.underlying4 reads_pat Try.underlying3
end
section
variable {H:Type} {enc:TypeId×Value->H} {w:World} {base:Nat} {v:Value} {d:DataW H} {p:List MemPlace}
end
end
end Go.Proofs.Ytefkfglkpebbmac
