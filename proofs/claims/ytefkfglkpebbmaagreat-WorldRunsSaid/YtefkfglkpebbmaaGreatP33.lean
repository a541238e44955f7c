/- Walks of functions, and plain words. No conditions. -/
import Derived.Test.YtefkfglkpebbmaaGreatP32
set_option linter.unusedVariables false
set_option linter.unusedSimpArgs false
set_option maxRecDepth 100000
set_option maxHeartbeats 40000000
namespace Go.Proofs.YtefkfglkpebbmaaGreat
open Go.RowKit
variable {Y:Prop}
section
open Go.RowKit Go.WideShapes Go.ChangeShapes Go.ChangeAt
section
variable {H:Type} {enc:TypeId×Value->H} {P:Program} {w:World} {sp:Nat->Bool} {held:Bool} {t e:TypeId}
theorem readBy_img(ht:P.underlying t=some (.slice e))(he:P.underlying e=some (.int .u8))(hs:P.cellsOf e=1):ReadBy enc P w sp held t rImg:=by
 intro fuel cs d ps h hb;obtain⟨xs,A,c,hx,h1,h2,h3⟩:=readBy_slice ht hs (by omega) (readBy_byte he) fuel cs d ps h hb;exact⟨xs,A,c,hx,h1,h2,h3.bts⟩
end
section
variable {H:Type} {enc:TypeId×Value->H} {w:World} {sp:Nat->Bool} {held:Bool}
theorem reads_img:ReadBy enc Tryz.prog w sp held 23 rImg:=
 readBy_img Tryz.underlying23 Tryz.underlying5 (by kernel_rfl)
end
end
section
open Go.RowKit Go.WideShapes Go.ChangeShapes Go.ChangeAt
section
variable {H:Type} {enc:TypeId×Value->H} {P:Program} {w:World} {sp:Nat->Bool} {held:Bool} {t e:TypeId}
theorem readBy_hap{f0 f1:Field}(ht:P.underlying t=some (.struct #[f0,f1]))(hs:P.cellsOf t=2)(o0:f0.offset=0)(o1:f1.offset=1)(k0:P.cellsOf f0.type=1)(k1:P.cellsOf f1.type=1)
  (t0:P.underlying f0.type=some (.int .i64)) (t1:P.underlying f1.type=some (.int .i64)):ReadBy enc P w sp held t rHap:=by
 intro fuel cs d ps h hb;obtain⟨hl,hf⟩:=field_of ht h hb;obtain⟨a,ha⟩:=hf 0 f0 rfl (readBy_int t0);obtain⟨b,hb⟩:=hf 1 f1 rfl (readBy_int t1);rw[hs]at hl
 match cs,hl with
 |[x,y],_=>
  rw[o0,k0]at ha;rw[o1,k1]at hb;obtain⟨ha,ha'⟩:=ha;obtain⟨hb,hb'⟩:=hb;simp at ha hb;subst ha hb;exact⟨(a,b),rfl,ha',hb'⟩
end
section
variable {H:Type} {enc:TypeId×Value->H} {w:World} {sp:Nat->Bool} {held:Bool}
theorem reads_hap:ReadBy enc Tryz.prog w sp held 50 rHap:=
 readBy_hap Tryz.underlying50 (by kernel_rfl) rfl rfl (by kernel_rfl) (by kernel_rfl) Tryz.underlying3 Tryz.underlying3
end
def ArgHaps(W:World)(v:Value)(l:List (Int×Int)):Prop:=∃A c,v=.slice A l.length c∧l.length<=c∧l.length<=140737488351232∧Hps W A l
section
variable {H:Type} {enc:TypeId×Value->H} {w:World} {base:Nat} {v:Value} {d:DataW H} {p:List MemPlace}
theorem argHaps_of(ho:Value.okWide Tryz.prog w .any base 41 v)(h:DataW.Trod enc Tryz.prog w 0 (fun _=>true) true 41 v d p)(hb:Wt Tryz.prog 41 d):∃xs,ArgHaps w v xs:=by
 obtain⟨xs,A,c,hv,h1,h2,h3⟩:=argSlice_of Tryz.underlying41 (by kernel_rfl:Tryz.prog.cellsOf 50=2) (by omega) reads_hap ho h hb;exact⟨xs,A,c,hv,h1,h2,h3⟩
end
end
section
open Go.RowKit Go.WideShapes Go.ChangeShapes Go.ChangeAt
def rInf:CR Inf:=fun _ cs x=>cs=(infA x).toList
def rInfs:CR (Inf×Inf):=fun _ cs x=>cs=(infA x.1).toList++(infA x.2).toList
def rRec:CR Rec:=fun _ cs x=>cs=(recA x).toList
def rCop:CR Cop:=fun _ cs x=>cs=(copA x).toList
def rCops:CR (Cop×Cop):=fun _ cs x=>cs=(copA x.1).toList++(copA x.2).toList
section
variable {H:Type} {enc:TypeId×Value->H} {P:Program} {w:World} {sp:Nat->Bool} {held:Bool} {t e:TypeId}
theorem readBy_inf{f0 f1 f2:Field}(ht:P.underlying t=some (.struct #[f0,f1,f2]))(hs:P.cellsOf t=3)
  (o0:f0.offset=0) (o1:f1.offset=1) (o2:f2.offset=2) (k0:P.cellsOf f0.type=1) (k1:P.cellsOf f1.type=1) (k2:P.cellsOf f2.type=1)
  (t0:P.underlying f0.type=some (.int .i64)) (t1:P.underlying f1.type=some (.int .i64)) (t2:P.underlying f2.type=some (.int .i64)):ReadBy enc P w sp held t rInf:=by
 intro fuel cs d ps h hb;obtain⟨hl,hf⟩:=field_of ht h hb;obtain⟨a,ha⟩:=hf 0 f0 rfl (readBy_int t0);obtain⟨b,hb⟩:=hf 1 f1 rfl (readBy_int t1);obtain⟨c,hc⟩:=hf 2 f2 rfl (readBy_int t2);rw[hs]at hl
 match cs,hl with
 |[x,y,z],_=>
  rw[o0,k0]at ha;rw[o1,k1]at hb;rw[o2,k2]at hc;obtain⟨ha,ha'⟩:=ha;obtain⟨hb,hb'⟩:=hb;obtain⟨hc,hc'⟩:=hc;simp at ha hb hc;subst ha hb hc;exact⟨⟨a,b,c⟩,rfl⟩
theorem readBy_infs(ht:P.underlying t=some (.array 2 e))(hs:P.cellsOf t=6)(h1:P.cellsOf e=3)(hR:ReadBy enc P w sp held e rInf):ReadBy enc P w sp held t rInfs:=by
 intro fuel cs d ps h hb;obtain⟨hl,hf⟩:=place_of ht h hb;obtain⟨a,ha⟩:=hf 0 (by omega) hR;obtain⟨b,hb⟩:=hf 1 (by omega) hR;rw[hs]at hl;rw[h1]at ha hb;refine⟨(a,b),?_⟩;unfold rInf at ha hb
 show cs=_;rw[<-ha,<-hb];have e:(cs.drop (1*3)).take 3=cs.drop 3:=by rw[Nat.one_mul];exact List.take_of_length_le (by rw[List.length_drop];omega)
 rw[e,Nat.zero_mul,List.drop_zero,List.take_append_drop]
theorem readBy_rec{f0 f1 f2 f3 f4 f5:Field}(ht:P.underlying t=some (.struct #[f0,f1,f2,f3,f4,f5]))(hs:P.cellsOf t=11)
  (o0:f0.offset=0) (o1:f1.offset=1) (o2:f2.offset=2) (o3:f3.offset=3) (o4:f4.offset=4) (o5:f5.offset=5)
  (k0:P.cellsOf f0.type=1) (k1:P.cellsOf f1.type=1) (k2:P.cellsOf f2.type=1) (k3:P.cellsOf f3.type=1) (k4:P.cellsOf f4.type=1) (k5:P.cellsOf f5.type=6)
  (t0:P.underlying f0.type=some (.int .i64)) (t1:P.underlying f1.type=some (.int .i64)) (t2:P.underlying f2.type=some .bool) (t3:P.underlying f3.type=some (.int .i64)) (t4:P.underlying f4.type=some (.int .i64)) (t5:ReadBy enc P w sp held f5.type rInfs):ReadBy enc P w sp held t rRec:=by
 intro fuel cs d ps h hb;obtain⟨hl,hf⟩:=field_of ht h hb;obtain⟨a6,h6⟩:=hf 0 f0 rfl (readBy_int t0);obtain⟨a1,h1⟩:=hf 1 f1 rfl (readBy_int t1);obtain⟨a2,h2⟩:=hf 2 f2 rfl (readBy_bool t2);obtain⟨a3,h3⟩:=hf 3 f3 rfl (readBy_int t3);obtain⟨a4,h4⟩:=hf 4 f4 rfl (readBy_int t4);obtain⟨a5,h5⟩:=hf 5 f5 rfl t5;rw[hs]at hl;rw[o0,k0]at h6;rw[o1,k1]at h1;rw[o2,k2]at h2;rw[o3,k3]at h3;rw[o4,k4]at h4;rw[o5,k5]at h5
 match cs,hl with
 |[c0,c1,c2,c3,c4,c5,c6,c7,c8,c9,c10],_=>
  obtain⟨h6,_⟩:=h6;obtain⟨h1,_⟩:=h1;obtain⟨h3,_⟩:=h3;obtain⟨h4,_⟩:=h4;unfold rBool at h2;unfold rInfs infA at h5;simp at h6 h1 h2 h3 h4 h5;obtain⟨e5,e6,e7,e8,e9,e10⟩:=h5;subst h6 h1 h2 h3 h4 e5 e6 e7 e8 e9 e10;exact⟨⟨a6,a1,a2,a3,a4,a5.1,a5.2⟩,rfl⟩
theorem readBy_cop{f0 f1:Field}(ht:P.underlying t=some (.struct #[f0,f1]))(hs:P.cellsOf t=12)(o0:f0.offset=0)(o1:f1.offset=1)(k0:P.cellsOf f0.type=1)(k1:P.cellsOf f1.type=11)
  (t0:P.underlying f0.type=some .bool) (t1:ReadBy enc P w sp held f1.type rRec):ReadBy enc P w sp held t rCop:=by
 intro fuel cs d ps h hb;obtain⟨hl,hf⟩:=field_of ht h hb;obtain⟨a0,h2⟩:=hf 0 f0 rfl (readBy_bool t0);obtain⟨a1,h1⟩:=hf 1 f1 rfl t1;rw[hs]at hl;rw[o0,k0]at h2;rw[o1,k1]at h1;unfold rRec at h1
 match cs,hl with
 |c::r,hl=>
  unfold rBool at h2;have h0':c=.bool a0:=by simpa using h2
  have h1':r=(recA a1).toList:=by rw[<-h1];show r=(r.take 11);rw[List.take_of_length_le (by simp at hl;omega)]
  subst h0' h1';exact⟨⟨a0,a1⟩,rfl⟩
theorem readBy_cops(ht:P.underlying t=some (.array 2 e))(hs:P.cellsOf t=24)(h1:P.cellsOf e=12)(hR:ReadBy enc P w sp held e rCop):ReadBy enc P w sp held t rCops:=by
 intro fuel cs d ps h hb;obtain⟨hl,hf⟩:=place_of ht h hb;obtain⟨a,ha⟩:=hf 0 (by omega) hR;obtain⟨b,hb⟩:=hf 1 (by omega) hR;rw[hs]at hl;rw[h1]at ha hb;refine⟨(a,b),?_⟩;unfold rCop at ha hb
 show cs=_;rw[<-ha,<-hb];have e:(cs.drop (1*12)).take 12=cs.drop 12:=by rw[Nat.one_mul];exact List.take_of_length_le (by rw[List.length_drop];omega)
 rw[e,Nat.zero_mul,List.drop_zero,List.take_append_drop]
end
section
variable {H:Type} {enc:TypeId×Value->H} {w:World} {sp:Nat->Bool} {held:Bool}
theorem reads_infs:ReadBy enc Tryz.prog w sp held 27 rInfs:=
 readBy_infs Tryz.underlying27 (by kernel_rfl) (by kernel_rfl) (readBy_inf Tryz.underlying26 (by kernel_rfl) rfl rfl rfl (by kernel_rfl) (by kernel_rfl) (by kernel_rfl) Tryz.underlying3 Tryz.underlying3 Tryz.underlying3)
theorem reads_rec:ReadBy enc Tryz.prog w sp held 29 rRec:=
 readBy_rec Tryz.underlying29 (by kernel_rfl) rfl rfl rfl rfl rfl rfl (by kernel_rfl) (by kernel_rfl) (by kernel_rfl) (by kernel_rfl) (by kernel_rfl) (by kernel_rfl)
  Tryz.underlying3 Tryz.underlying3 Tryz.underlying4 Tryz.underlying3 Tryz.underlying3 reads_infs
theorem reads_cop:ReadBy enc Tryz.prog w sp held 31 rCop:=
 readBy_cop Tryz.underlying31 (by kernel_rfl) rfl rfl (by kernel_rfl) (by kernel_rfl) Tryz.underlying4 reads_rec
theorem reads_cops:ReadBy enc Tryz.prog w sp held 32 rCops:=
 readBy_cops Tryz.underlying32 (by kernel_rfl) (by kernel_rfl) reads_cop
end
section
variable {H:Type} {enc:TypeId×Value->H} {w:World} {base:Nat} {v:Value} {d:DataW H} {p:List MemPlace}
end
end
section
open Go.RowKit Go.WideShapes Go.ChangeShapes Go.ChangeAt
def rSlots:CR (List UInt8×List UInt8):=fun w cs x=>∃A c B e,cs=[.slice A x.1.length c,.slice B x.2.length e]∧(x.1.length<=c∧x.1.length<=140737488351232∧Bts w A x.1)∧x.2.length<=e∧x.2.length<=140737488351232∧Bts w B x.2
def rDev:CR Dev:=fun w cs d=>∃L,cs=(devA d L).toList∧DevIn w d L
theorem part_of{cs ys:List Value}{a n:Nat}(h:(cs.drop a).take n=ys):cs.drop a=ys++cs.drop (a+n):=by rw[<-h,<-List.drop_drop,List.take_append_drop]
section
variable {H:Type} {enc:TypeId×Value->H} {P:Program} {w:World} {sp:Nat->Bool} {held:Bool} {t e:TypeId}
theorem readBy_slots(ht:P.underlying t=some (.array 2 e))(hs:P.cellsOf t=2)(h1:P.cellsOf e=1)(hR:ReadBy enc P w sp held e rImg):ReadBy enc P w sp held t rSlots:=by
 intro fuel cs d ps h hb;obtain⟨hl,hf⟩:=place_of ht h hb;obtain⟨x,A,c,hx,g1,g2,g3⟩:=hf 0 (by omega) hR;obtain⟨y,B,e,hy,k1,k2,k3⟩:=hf 1 (by omega) hR;rw[hs]at hl;rw[h1]at hx hy
 match cs,hl with
 |[u,v],_=>
  simp at hx hy;subst hx hy;exact⟨(x,y),A,c,B,e,rfl,⟨g1,g2,g3⟩,k1,k2,k3⟩
theorem readBy_dev{f0 f1 f2 f3 f4 f5 f6 f7:Field}{tc:TypeId}(ht:P.underlying t=some (.struct #[f0,f1,f2,f3,f4,f5,f6,f7]))(hs:P.cellsOf t=37)
  (o0:f0.offset=0) (o1:f1.offset=2) (o2:f2.offset=26) (o3:f3.offset=27) (o4:f4.offset=28) (o5:f5.offset=29) (o6:f6.offset=30) (o7:f7.offset=36)
  (k0:P.cellsOf f0.type=2) (k1:P.cellsOf f1.type=24) (k2:P.cellsOf f2.type=1) (k3:P.cellsOf f3.type=1) (k4:P.cellsOf f4.type=1) (k5:P.cellsOf f5.type=1) (k6:P.cellsOf f6.type=6) (k7:P.cellsOf f7.type=1)
  (t0:ReadBy enc P w sp held f0.type rSlots) (t1:ReadBy enc P w sp held f1.type rCops) (t2:P.underlying f2.type=some .bool) (t3:P.underlying f3.type=some (.int .i64))
  (t4:P.underlying f4.type=some (.slice tc)) (hc:P.cellsOf tc=5) (hB:P.bytesOf tc=56) (hR:ReadBy enc P w sp held tc rChk) (t5:P.underlying f5.type=some .bool) (t6:ReadBy enc P w sp held f6.type rPat) (t7:P.underlying f7.type=some (.int .i64)):ReadBy enc P w sp held t rDev:=by
 intro fuel cs d ps h hb;obtain⟨hl,hf⟩:=field_of ht h hb;obtain⟨⟨s2,s1⟩,A2,c2,A1,c1,h8,⟨x1,x2,x3⟩,x4,x5,x6⟩:=hf 0 f0 rfl t0;obtain⟨⟨cp2,cp1⟩,h1⟩:=hf 1 f1 rfl t1;obtain⟨up,h2⟩:=hf 2 f2 rfl (readBy_bool t2);obtain⟨ru,h3,i1⟩:=hf 3 f3 rfl (readBy_int t3);obtain⟨got,A3,c3,h4,y1,y2,y3⟩:=hf 4 f4 rfl (readBy_sliceM (M:=2513169434843) t4 hc (by omega) hR (fun n _ h=>by rw[hB]at h;omega));obtain⟨bz,h5⟩:=hf 5 f5 rfl (readBy_bool t5);obtain⟨p,A4,c4,h6,z⟩:=hf 6 f6 rfl t6;obtain⟨dn,h7,i2⟩:=hf 7 f7 rfl (readBy_int t7);rw[hs]at hl;rw[o0,k0]at h8;rw[o1,k1]at h1;rw[o2,k2]at h2;rw[o3,k3]at h3;rw[o4,k4]at h4;rw[o5,k5]at h5;rw[o6,k6]at h6;rw[o7,k7]at h7;unfold rCops at h1;unfold rBool at h2 h5;have e9:=part_of h8;have e1:=part_of h1;have e2:=part_of h2;have e3:=part_of h3;have e4:=part_of h4;have e5:=part_of h5;have e6:=part_of h6;have e7:=part_of h7;have e8:cs.drop (36+1)=[]:=List.drop_eq_nil_of_le (by omega);refine⟨⟨s2,s1,cp2,cp1,up,ru,got,bz,p,dn⟩,⟨A2,c2,A1,c1,A3,c3,A4,c4⟩,?_,⟨x1,x2,x3,x4,x5,x6,y1,y2,y3,z,i1,i2⟩⟩;have e:cs=cs.drop 0:=rfl;rw[e,e9];rw[show 0+2=2 from rfl,e1,show 2+24=26 from rfl,e2,show 26+1=27 from rfl,e3,show 27+1=28 from rfl,e4,show 28+1=29 from rfl,e5,show 29+1=30 from rfl,e6,show 30+6=36 from rfl,e7,e8];rfl
end
section
variable {H:Type} {enc:TypeId×Value->H} {w:World} {sp:Nat->Bool} {held:Bool}
theorem reads_slots:ReadBy enc Tryz.prog w sp held 24 rSlots:=readBy_slots Tryz.underlying24 (by kernel_rfl) (by kernel_rfl) reads_img
theorem reads_pat:ReadBy enc Tryz.prog w sp held 36 rPat:=
 readBy_pat Tryz.underlying36 (by kernel_rfl) rfl rfl rfl rfl rfl rfl (by kernel_rfl) (by kernel_rfl) (by kernel_rfl) (by kernel_rfl) (by kernel_rfl) (by kernel_rfl)
  Tryz.underlying3 Tryz.underlying3 Tryz.underlying3 Tryz.underlying3 Tryz.underlying3 Tryz.underlying34 (by kernel_rfl) (by kernel_rfl) reads_op
theorem reads_dev:ReadBy enc Tryz.prog w sp held 38 rDev:=
 readBy_dev Tryz.underlying38 (by kernel_rfl) rfl rfl rfl rfl rfl rfl rfl rfl (by kernel_rfl) (by kernel_rfl) (by kernel_rfl) (by kernel_rfl) (by kernel_rfl) (by kernel_rfl) (by kernel_rfl) (by kernel_rfl)
  reads_slots reads_cops Tryz.underlying4 Tryz.underlying3 Tryz.underlying33 (by kernel_rfl) (by kernel_rfl) reads_chk Tryz.underlying4 reads_pat Tryz.underlying3
end
section
variable {H:Type} {enc:TypeId×Value->H} {w:World} {base:Nat} {v:Value} {d:DataW H} {p:List MemPlace}
end
end
section
open Go.RowKit Go.WideShapes Go.ChangeShapes Go.ChangeAt
def rWor:CR Wor:=fun w cs x=>∃L,cs=(worA x L).toList∧WorIn w x L
section
variable {H:Type} {enc:TypeId×Value->H} {P:Program} {w:World} {sp:Nat->Bool} {held:Bool} {t e:TypeId}
theorem readBy_wor{f0 f1 f2:Field}{ti tc:TypeId}(ht:P.underlying t=some (.struct #[f0,f1,f2]))(hs:P.cellsOf t=39)
  (o0:f0.offset=0) (o1:f1.offset=1) (o2:f2.offset=38) (k0:P.cellsOf f0.type=1) (k1:P.cellsOf f1.type=37) (k2:P.cellsOf f2.type=1)
  (t0:P.underlying f0.type=some (.slice ti)) (hi:P.cellsOf ti=1) (hBi:P.bytesOf ti=24) (hI:ReadBy enc P w sp held ti rImg) (t1:ReadBy enc P w sp held f1.type rDev) (t2:P.underlying f2.type=some (.slice tc)) (hc:P.cellsOf tc=5) (hB:P.bytesOf tc=56) (hR:ReadBy enc P w sp held tc rChk):ReadBy enc P w sp held t rWor:=by
 intro fuel cs d ps h hb;obtain⟨hl,hf⟩:=field_of ht h hb;obtain⟨rel,A1,c1,h3,x1,x2,x3⟩:=hf 0 f0 rfl (readBy_sliceM (M:=5864062014634) t0 hi (by omega) hI (fun n _ h=>by rw[hBi]at h;omega));obtain⟨d,L,h1,y⟩:=hf 1 f1 rfl t1;obtain⟨net,A2,c2,h2,z1,z2,z3⟩:=hf 2 f2 rfl (readBy_sliceM (M:=2513169434843) t2 hc (by omega) hR (fun n _ h=>by rw[hB]at h;omega));rw[hs]at hl;rw[o0,k0]at h3;rw[o1,k1]at h1;rw[o2,k2]at h2;have e3:=part_of h3;have e1:=part_of h1;have e2:=part_of h2;have e4:cs.drop (38+1)=[]:=List.drop_eq_nil_of_le (by omega);refine⟨⟨rel,d,net⟩,⟨A1,c1,L,A2,c2⟩,?_,⟨x1,x2,x3,y,z1,z2,z3⟩⟩;have e:cs=cs.drop 0:=rfl;rw[e,e3];rw[show 0+1=1 from rfl,e1,show 1+37=38 from rfl,e2,e4];rfl
end
section
variable {H:Type} {enc:TypeId×Value->H} {w:World} {sp:Nat->Bool} {held:Bool}
theorem reads_wor:ReadBy enc Tryz.prog w sp held 40 rWor:=
 readBy_wor Tryz.underlying40 (by kernel_rfl) rfl rfl rfl (by kernel_rfl) (by kernel_rfl) (by kernel_rfl) Tryz.underlying22 (by kernel_rfl) (by kernel_rfl) reads_img reads_dev Tryz.underlying33 (by kernel_rfl) (by kernel_rfl) reads_chk
end
def ArgWor(W:World)(v:Value)(x:Wor):Prop:=∃L,v=.agg (worA x L)∧WorIn W x L
section
variable {H:Type} {enc:TypeId×Value->H} {w:World} {base:Nat} {v:Value} {d:DataW H} {p:List MemPlace}
theorem argWor_of(ho:Value.okWide Tryz.prog w .any base 40 v)(h:DataW.Trod enc Tryz.prog w 0 (fun _=>true) true 40 v d p)(hb:Wt Tryz.prog 40 d):∃x,ArgWor w v x:=by
 obtain⟨x,cs,hv,L,hp,h1⟩:=argAgg_of (.inl ⟨_,Tryz.underlying40⟩) reads_wor ho h hb;exact⟨x,L,by rw[hv,hp],h1⟩
end
end
end Go.Proofs.YtefkfglkpebbmaaGreat
