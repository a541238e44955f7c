/- Walks. No conditions. -/
import Derived.Test.YtefkfglkpebbmabGreatPE1
import Derived.Laws.StructEq
import Derived.Deep.LoopGhost
import Derived.Laws.CopyRow
import Derived.Lib.Overlaps
import Derived.StillTailTactics
set_option linter.all false
set_option maxRecDepth 100000
set_option maxHeartbeats 0
namespace Go.Proofs.YtefkfglkpebbmabGreat
open Go.RowKit
variable {Y:Prop}
variable {l:List Stp} {old size:Int} {o:Stp} {w:World}
theorem x017(h:Y:=by
 have:=HS.out;unfold ScAt at this;rw[List.drop_length]at this;rw[<-this];rfl):Y:=h
theorem x1gl(h:Y:=by
 go_wp2_with fail;go_ret;exact⟨ret_int (by rw[HR.out,HE.out]),(HB.out.alloc hsz _)⟩):Y:=h
theorem x5ag(h:Y:=by
 go_wp2_with fail;go_ret;exact⟨ret_int (by rw[HR.out,HF.out]),HB.out⟩):Y:=h
theorem x614(h:Y:=by
 by_cases g:data.length<=64
 ·exact absurd ⟨fun _=>⟨rfl,e1,g⟩,fun h=>absurd rfl h⟩ hf'
 omega):Y:=h
theorem x8li(h:Y:=by
 clear hm h1;go_enter Tryz.func138,Tryz.ntmps138;go_wp2_with fail;go_ret;exact⟨ret_int HR.out.symm,Below.refl _ _⟩):Y:=h
theorem dc_many(h:40<l.length∨old<0∨64<old∨size<0∨64<size):deltaCheck l old size=1:=by unfold deltaCheck;rw[if_pos h]
theorem dc_go(h:¬(40<l.length∨old<0∨64<old∨size<0∨64<size)):deltaCheck l old size=stepsCheck old l size:=by unfold deltaCheck;rw[if_neg h]
theorem sc_form(h:¬o.form):stepsCheck old (o::l) size=3:=by unfold stepsCheck;rw[if_pos h]
theorem sc_range(h:o.form)(g:¬o.in_ old):stepsCheck old (o::l) size=2:=by unfold stepsCheck;rw[if_neg (by simpa using h),if_pos g]
theorem sc_many(h:o.form)(g:o.in_ old)(k:size<o.n):stepsCheck old (o::l) size=1:=by unfold stepsCheck;rw[if_neg (by simpa using h),if_neg (by simpa using g),if_pos k]
theorem sc_on(h:o.form)(g:o.in_ old)(k:¬size<o.n):stepsCheck old (o::l) size=stepsCheck old l (size-o.n):=by
 conv=>lhs;unfold stepsCheck
 rw[if_neg (by simpa using h),if_neg (by simpa using g),if_neg k]
def ScAt(old:Int)(l:List Stp)(size:Int)(k:Nat)(s:Int):Prop:=stepsCheck old (l.drop k) s=stepsCheck old l size
theorem ScAt.here{s:Int}{k:Nat}(h:ScAt old l size k s)(hk:k<l.length):stepsCheck old (l[k]::l.drop (k+1)) s=stepsCheck old l size:=by
 unfold ScAt at h;rwa [List.drop_eq_getElem_cons hk]at h
theorem deltaCheck_calls(A:OA)(c:Nat)(l:List Stp)(old size:Int)(w:World)(hl:l.length<=3518437208780)(hr:Sps w A l):
  Calls Tryz.prog 138 #[.slice A l.length c,iv old,iv size] w (RetB w (iv (deltaCheck l old size))):=by
 by_cases hm:40<l.length∨old<0∨64<old∨size<0∨64<size
 ·have HR:=qH (dc_many hm);by_cases h1:40<l.length
  ·have h1':(40:Int)<(l.length:Int):=by omega
   exact x8li
  have h1':¬(40:Int)<(l.length:Int):=by omega
  by_cases h2:old<0
  ·exact x8li
  by_cases h2:64<old
  ·exact x8li
  by_cases h2:size<0
  ·exact x8li
  have h2:64<size:=by omega
  exact x8li
 have HR:=qH (dc_go hm);have h1:¬(40:Int)<(l.length:Int):=by omega
 have h1:¬old<0:=by omega
 have h1:¬64<old:=by omega
 have h1:¬size<0:=by omega
 have h2:¬64<size:=by omega
 have h3:l.length<=40:=by omega
 clear hm;go_enter Tryz.func138,Tryz.ntmps138;go_wp2_with fail;go_loopw [31,2] (fun i s wr=>∃(k:Nat) (z:Int),k<=l.length∧i=.int .i64 k∧s=.int .i64 z∧0<=z∧z<=64∧Hid (ScAt old l size k z)∧Hid (Below w.heap.size w wr)) (fun i _ _=>l.length-(intOf i).toNat)
 case atStart=>exact⟨0,size,Nat.zero_le _,rfl,rfl,by omega,by omega,qH (by unfold ScAt;rw[List.drop_zero]),qH (Below.refl _ _)⟩
 case round=>
  clear h1 h2;obtain⟨k,z,hk,rfl,rfl,hz2,hz1,HS,HB⟩:=hrel;by_cases hlt:k<l.length
  ·obtain⟨b,o,B,cc,rfl,hs,hc3,hc1,hc2,hd1,hd2,-,hi2,hi1⟩:=(hr.stays HB.out).at_ hlt;have HH:=qH (HS.out.here hlt);have hsz:=HB.out.size;clear HS;unfold I64 at hi2 hi1;obtain⟨i1,i01⟩:=hi2;obtain⟨i1,i2⟩:=hi1;generalize hx:l[k]=x at *
   clear hx;obtain⟨at_,len,data⟩:=x;dsimp only at *
   have hdl:0<=(data.length:Int):=by omega
   by_cases hf:(⟨at_,len,data⟩:Stp).form
   ·by_cases hin:(⟨at_,len,data⟩:Stp).in_ old
    ·have hn:(⟨at_,len,data⟩:Stp).n=len+data.length:=rfl;have hin':=hin;unfold Stp.in_ at hin';dsimp only at hin';obtain⟨j1,j2,j3⟩:=hin';have hf':=hf;unfold Stp.form at hf';dsimp only at hf';by_cases hzn:z<len+data.length
     ·have HE:=qH (HH.out.symm.trans (sc_many hf hin (by rw[hn];exact hzn)));clear hf hin hn HH;by_cases e1:len=0
      ·obtain⟨rfl,e2,e3⟩:=hf'.1 e1;subst e1;have e1:1<=data.length:=by rcases data with _|⟨y,d⟩;exact absurd rfl e2;simp
       have q1:((data.length:Int)==0)=false:=by simp;omega
       have q1:¬(64:Int)<(data.length:Int):=by omega
       clear hf' e2;exact x1gl
      have e2:=hf'.2 e1;subst e2;have q1:(len==0)=false:=by simp[e1]
      have q1:(len !=0)=true:=by simp[e1]
      clear hf' e1;simp only[List.length_nil,Int.ofNat_eq_natCast,Int.natCast_zero,Int.add_zero]at *
      exact x1gl
     have HE:=qH ((sc_on hf hin (by rw[hn];exact hzn)).symm.trans HH.out);clear hf hin HH;rw[hn]at HE;clear hn;by_cases e1:len=0
     ·obtain⟨rfl,e2,e3⟩:=hf'.1 e1;subst e1;have e1:1<=data.length:=by rcases data with _|⟨y,d⟩;exact absurd rfl e2;simp
      have q1:((data.length:Int)==0)=false:=by simp;omega
      have q1:¬(64:Int)<(data.length:Int):=by omega
      clear hf' e2;go_wp2_with fail;go_roundw
      case rel=>exact⟨k+1,z-(0+data.length),by omega,by go_num,by simp,by omega,by omega,HE,qH (HB.out.alloc hsz _)⟩
      case measure=>simp[intOf];omega
     have e2:=hf'.2 e1;subst e2;have q1:(len==0)=false:=by simp[e1]
     have q1:(len !=0)=true:=by simp[e1]
     clear hf' e1;have HE1:Hid (ScAt old l size (k+1) (z-len)):=by
      have:=HE.out;refine qH ?_;simpa[ScAt]using this
     clear HE;simp only[List.length_nil,Int.ofNat_eq_natCast,Int.natCast_zero,Int.add_zero]at *
     go_wp2_with fail;go_roundw
     case rel=>exact⟨k+1,z-len,by omega,by go_num,by simp,by omega,by omega,HE1,qH (HB.out.alloc hsz _)⟩
     case measure=>simp[intOf];omega
    ·have HE:=qH (HH.out.symm.trans (sc_range hf hin));have hf':=hf;unfold Stp.form at hf';dsimp only at hf';have hin':=hin;unfold Stp.in_ at hin';dsimp only at hin';clear hf hin HH;have e1:len≠0:=by
      intro e2;obtain⟨e1,_,_⟩:=hf'.1 e2;omega
     have e2:=hf'.2 e1;subst e2;have q1:(len==0)=false:=by simp[e1]
     have q1:(len !=0)=true:=by simp[e1]
     clear hf' e1;simp only[List.length_nil,Int.ofNat_eq_natCast,Int.natCast_zero,Int.add_zero]at *
     have HI:=qH hin';clear hin';by_cases r1:len<0
     ·exact x1gl
     by_cases r1:at_<0
     ·exact x1gl
     by_cases r1:old<len
     ·exact x1gl
     have r1:old-len<at_:=by have:=HI.out;omega
     exact x1gl
   have HE:=qH (HH.out.symm.trans (sc_form hf));have hf':=hf;unfold Stp.form at hf';dsimp only at hf';clear hf HH;by_cases e5:len=0
   ·subst e5;by_cases e1:at_=0
    ·subst e1;by_cases e1:data=[]
     ·subst e1;clear hf';simp only[List.length_nil,Int.ofNat_eq_natCast,Int.natCast_zero,Int.add_zero]at *
      exact x1gl
     have e2:1<=data.length:=by rcases data with _|⟨y,d⟩;exact absurd rfl e1;simp
     have e2:(64:Int)<(data.length:Int):=by
      exact x614
     have q1:((data.length:Int)==0)=false:=by simp;omega
     clear hf' e1;exact x1gl
    have q1:(at_ !=0)=true:=by simp[e1]
    clear hf' e1;exact x1gl
   have e1:data≠[]:=fun e=>hf' ⟨fun h=>absurd h e5,fun _=>e⟩;have e2:1<=data.length:=by rcases data with _|⟨y,d⟩;exact absurd rfl e1;simp
   have q1:(len==0)=false:=by simp[e5]
   have q1:(len !=0)=true:=by simp[e5]
   have q1:(0:Int)<(data.length:Int):=by omega
   clear hf' e5 e1;exact x1gl
  obtain rfl:k=l.length:=by omega
  have HE:Hid (stepsCheck old l size=if z=0 then 0 else 3):=by
   exact x017
  clear HS;by_cases e:z=0
  ·have HF:=qH (HE.out.trans (if_pos e));subst e;exact x5ag
  have HF:=qH (HE.out.trans (if_neg e));have q:(z !=0)=true:=by simp[e]
  clear e;exact x5ag
theorem x20z(h:Y:=by
 have hz:=qH (patCheck_bad (p:=⟨f,t,o,n,sz,l⟩) (by unfold Pat.range;dsimp only;omega));clear HC;go_enter Tryz.func115,Tryz.ntmps115;go_wp2_with fail;go_ret;exact⟨ret_int hz.out.symm,HB.out⟩):Y:=h
theorem x3ef(h:Y:=by
 go_wp2_with fail;refine HC.out.mono ?_;rintro e w1 ⟨rfl,hb1⟩;have HB1:=qH (HB.out.trans (hb1.mono HB.out.size));clear hb1;go_wp2_with fail;go_ret;exact⟨ret_int hz.out.symm,HB1.out⟩):Y:=h
theorem patCheck_bad{p:Pat}(h:¬p.range):patCheck p=2:=by unfold patCheck;rw[if_pos h]
theorem patCheck_in{p:Pat}(h:p.range):patCheck p=deltaCheck p.ops 64 p.size:=by unfold patCheck;rw[if_neg (by simpa using h)]
theorem patCheckA_calls(A:OA)(c:Nat)(f t o n sz:Int)(l:List Stp)(w:World)(hl:l.length<=3518437208780)(hs:Sps w A l):
  Calls Tryz.prog 115 #[.agg #[iv f,iv t,iv o,iv n,iv sz,.slice A l.length c]] w (RetB w (iv (patCheck ⟨f,t,o,n,sz,l⟩))):=by
 have hb:Below w.heap.size w (w.alloc (.cells #[iv f,iv t,iv o,iv n,iv sz,.slice A l.length c] 36)):=(Below.refl _ _).alloc (Nat.le_refl _) _;have HB:=qH hb;have HC:=qH (deltaCheck_calls A c l 64 sz _ hl (hs.stays hb));clear hb hs;by_cases h8:f<(1:Int)
 ·exact x20z
 by_cases h1:(30:Int)<f
 ·exact x20z
 by_cases h1:t<(1:Int)
 ·exact x20z
 by_cases h1:(30:Int)<t
 ·exact x20z
 by_cases h1:o<(0:Int)
 ·exact x20z
 by_cases h1:(65535:Int)<o
 ·exact x20z
 by_cases h1:n<(0:Int)
 ·exact x20z
 by_cases h1:(65535:Int)<n
 ·exact x20z
 have hz:=qH (patCheck_in (p:=⟨f,t,o,n,sz,l⟩) (by unfold Pat.range;dsimp only;omega));go_enter Tryz.func115,Tryz.ntmps115;exact x3ef
theorem x0oq(h:Y:=by
 exact absurd ⟨by simpa[Rec.at_]using n1,by simp,fun _=>n2,by simpa[Rec.at_]using h⟩ hn):Y:=h
theorem x2tz(h:Y:=by
 have HI:=qH hI;clear hI;go_wp2_with fail;all_goals first|(go_ret;exact⟨ret_int HF.out.symm,hB.alloc hB.size _⟩)|(exfalso;have h:=HI.out;unfold InfRange at h;simp only at h;omega)):Y:=h
theorem x3eu(h:Y:=by
 exact absurd ⟨by simpa[Rec.at_]using n1,fun _=>⟨by simpa[Rec.at_]using n2,by simpa[Rec.at_]using e1⟩,by simp,by simpa[Rec.at_]using h⟩ hn):Y:=h
theorem x4hb(h:Y:=by
 go_wp2_with fail;go_quiet (fail)
 go_wp2_with fail;go_ret;exact⟨ret_int HF.out.symm,Below.drewN' hB _⟩):Y:=h
theorem x61u(h:Y:=by
 have HZ:=qH hz;clear hz;go_wp2_with fail;all_goals first|(go_ret;exact⟨ret_int HF.out.symm,hB.alloc hB.size _⟩)|(exfalso;have h:=HZ.out;omega)):Y:=h
theorem x88h(h:Y:=by
 go_wp2_with fail;go_roundw
 case rel=>exact⟨2,by omega,rfl,hB.alloc hB.size _,blk_old HK.out,fun _=>HA.out,fun _=>HI.out⟩
 case measure=>simp[intOf]<;>omega):Y:=h
theorem x8bj(h:Y:=by
 go_wp2_with fail;go_roundw
 case rel=>exact⟨1,by omega,rfl,hB.alloc hB.size _,blk_old HK.out,fun _=>HI.out,by omega⟩
 case measure=>simp[intOf]<;>omega):Y:=h
theorem recCheck_range(g ac:Int)(tr:Bool)(ts fl va sa ca vb sb cb:Int)(w:World)(h:¬(1<=g∧g<=1000000∧0<=ac∧ac<=1∧0<=ts∧ts<=3∧1<=fl∧fl<=30)):
  Calls Tryz.prog 135 #[.agg #[iv g,iv ac,.bool tr,iv ts,iv fl,iv va,iv sa,iv ca,iv vb,iv sb,iv cb]] w (RetB w (iv 2)):=by
 have H:=qH h;clear h;go_enter Tryz.func135,Tryz.ntmps135;go_wp2_with fail;all_goals first|(go_ret;exact⟨rfl,(Below.refl _ _).alloc (Nat.le_refl _) _⟩)|(exfalso;have h:=H.out;omega)
theorem recCheck_rest(g ac:Int)(tr:Bool)(ts fl va sa ca vb sb cb:Int)(w:World)(h1:1<=g)(h2:g<=1000000)(h3:0<=ac)(h4:ac<=1)(h5:0<=ts)(h6:ts<=3)(h7:1<=fl)(h8:fl<=30):
  Calls Tryz.prog 135 #[.agg #[iv g,iv ac,.bool tr,iv ts,iv fl,iv va,iv sa,iv ca,iv vb,iv sb,iv cb]] w (RetB w (iv (recCheck ⟨g,ac,tr,ts,fl,⟨va,sa,ca⟩,⟨vb,sb,cb⟩⟩))):=by
 have i2:∀w,(Instr.index 27 (.agg #[iv va,iv sa,iv ca,iv vb,iv sb,iv cb]) (.int .i64 0)).run Tryz.prog w=.ok (.agg #[iv va,iv sa,iv ca]) w:=fun _=>by kernel_rfl
 have i1:∀w,(Instr.index 27 (.agg #[iv va,iv sa,iv ca,iv vb,iv sb,iv cb]) (.int .i64 1)).run Tryz.prog w=.ok (.agg #[iv vb,iv sb,iv cb]) w:=fun _=>by kernel_rfl
 go_enter Tryz.func135,Tryz.ntmps135;go_wp2_with fail;go_loopw [45] (fun i wr=>∃k:Nat,k<=2∧i=.int .i64 k∧Below w.heap.size w wr∧(wr.heap[w.heap.size]?=some (.cells #[iv g,iv ac,.bool tr,iv ts,iv fl,iv va,iv sa,iv ca,iv vb,iv sb,iv cb] 29))∧(0<k->infCheck ⟨va,sa,ca⟩=0)∧(1<k->infCheck ⟨vb,sb,cb⟩=0)) (fun i _=>(2-intOf i).toNat)
 case atStart=>exact⟨0,by omega,rfl,(Below.refl _ _).alloc (Nat.le_refl _) _,blk_top rfl,by omega,by omega⟩
 case round=>
  obtain⟨k,hk,rfl,hB,hblk,ha,hb⟩:=hrel;have hrg:RangeOk ⟨g,ac,tr,ts,fl,⟨va,sa,ca⟩,⟨vb,sb,cb⟩⟩:=⟨h1,h2,h3,h4,h5,h6,h7,h8⟩;have HR:=qH hrg;clear hrg;by_cases hlt:k<2
  ·rcases (show k=0∨k=1 by omega)with rfl|rfl
   ·have HK:=qH hblk;clear hblk ha hb;by_cases hI:InfRange ⟨va,sa,ca⟩
    ·obtain⟨j1,j2,j3,j4,j5,j6⟩:=hI;simp only at j1 j2 j3 j4 j5 j6;by_cases hv:va=0
     ·subst hv;by_cases hz:sa=0∧ca=0
      ·obtain⟨rfl,rfl⟩:=hz;have HI:Hid (infCheck ⟨0,0,0⟩=0):=infCheck_ok ⟨j1,j2,j3,j4,j5,j6⟩ (fun _=>⟨rfl,rfl⟩);clear j1 j2 j3 j4 j5 j6;exact x8bj
      have HF:=qH (recCheck_a HR.out (infCheck_form ⟨j1,j2,j3,j4,j5,j6⟩ rfl hz) (by omega));exact x61u
     have HI:Hid (infCheck ⟨va,sa,ca⟩=0):=infCheck_ok ⟨j1,j2,j3,j4,j5,j6⟩ (fun h=>absurd h hv);have hv1:(va==0)=false:=by rw[beq_eq_false_iff_ne];exact hv
     clear hv;exact x8bj
    have HF:=qH (recCheck_a HR.out (infCheck_bad hI) (by omega));exact x2tz
   ·have HK:=qH hblk;have HA:=qH (ha (by omega));clear hblk ha hb;by_cases hI:InfRange ⟨vb,sb,cb⟩
    ·obtain⟨j1,j2,j3,j4,j5,j6⟩:=hI;simp only at j1 j2 j3 j4 j5 j6;by_cases hv:vb=0
     ·subst hv;by_cases hz:sb=0∧cb=0
      ·obtain⟨rfl,rfl⟩:=hz;have HI:Hid (infCheck ⟨0,0,0⟩=0):=infCheck_ok ⟨j1,j2,j3,j4,j5,j6⟩ (fun _=>⟨rfl,rfl⟩);clear j1 j2 j3 j4 j5 j6;exact x88h
      have HF:=qH (recCheck_b HR.out HA.out (infCheck_form ⟨j1,j2,j3,j4,j5,j6⟩ rfl hz) (by omega));exact x61u
     have HI:Hid (infCheck ⟨vb,sb,cb⟩=0):=infCheck_ok ⟨j1,j2,j3,j4,j5,j6⟩ (fun h=>absurd h hv);have hv1:(vb==0)=false:=by rw[beq_eq_false_iff_ne];exact hv
     clear hv;exact x88h
    have HF:=qH (recCheck_b HR.out HA.out (infCheck_bad hI) (by omega));exact x2tz
  obtain rfl:k=2:=by omega
  have HA:=qH (ha (by omega));have HB1:=qH (hb (by omega));clear ha hb;have c1:∀j,wr.cell? ⟨w.heap.size,j,none⟩=(#[iv g,iv ac,.bool tr,iv ts,iv fl,iv va,iv sa,iv ca,iv vb,iv sb,iv cb]:Array Value)[j]?:=fun j=>cell_of_row _ _ _ _ _ _ hblk;have k1:=c1 1;have k2:=c1 2;have k3:=c1 3;have k4:=c1 4;have k5:=c1 5;have k6:=c1 8;simp at k1 k2 k3 k4 k5 k6;clear c1 hblk;by_cases hF:FormOk ⟨g,ac,tr,ts,fl,⟨va,sa,ca⟩,⟨vb,sb,cb⟩⟩
  ·have HF:=qH (recCheck_ok HR.out HA.out HB1.out hF);obtain⟨f1,f2,f3,f4⟩:=hF;rcases (show ac=0∨ac=1 by omega)with rfl|rfl
   ·simp[Rec.at_]at f1 f2 f3 f4
    cases tr
    ·have e1:(va==0)=false:=by rw[beq_eq_false_iff_ne];simpa using f1
     have e1:(ts !=0)=false:=by have:=f3 rfl;simp[this]
     have e1:fl<=va:=by simpa using f4
     clear f1 f2 f3 f4;exact x4hb
    have e1:(va==0)=false:=by rw[beq_eq_false_iff_ne];simpa using f1
    have e1:(vb==0)=false:=by rw[beq_eq_false_iff_ne];simpa using (f2 rfl).1
    have e1:fl<=vb:=by simpa using (f2 rfl).2
    have d1:decide (vb<fl)=false:=by simpa using e1
    have e1:fl<=va:=by simpa using f4
    clear f1 f2 f3 f4;exact x4hb
   simp[Rec.at_]at f1 f2 f3 f4
   cases tr
   ·have e1:(vb==0)=false:=by rw[beq_eq_false_iff_ne];simpa using f1
    have e1:(ts !=0)=false:=by have:=f3 rfl;simp[this]
    have e1:fl<=vb:=by simpa using f4
    clear f1 f2 f3 f4;exact x4hb
   have e1:(vb==0)=false:=by rw[beq_eq_false_iff_ne];simpa using f1
   have e1:(va==0)=false:=by rw[beq_eq_false_iff_ne];simpa using (f2 rfl).1
   have e1:fl<=va:=by simpa using (f2 rfl).2
   have d1:decide (va<fl)=false:=by simpa using e1
   have e1:fl<=vb:=by simpa using f4
   clear f1 f2 f3 f4;exact x4hb
  have HF:=qH (recCheck_form HR.out HA.out HB1.out hF);rcases (show ac=0∨ac=1 by omega)with rfl|rfl
  ·cases tr
   ·have hn:=hF;clear hF;by_cases n1:va=0
    ·have e1:(va==0)=true:=by rw[beq_iff_eq];exact n1
     clear n1;clear hn;exact x4hb
    have e1:(va==0)=false:=by rw[beq_eq_false_iff_ne];exact n1
    by_cases n2:ts=0
    ·have e1:(ts !=0)=false:=by simp[n2]
     have e1:va<fl:=by
      rcases Int.lt_or_le va fl with h|h
      ·exact h
      exact x0oq
     clear n1 n2;clear hn;exact x4hb
    have e1:(ts !=0)=true:=by simp[n2]
    clear n1 n2;clear hn;exact x4hb
   ·have hn:=hF;clear hF;by_cases n1:va=0
    ·have e1:(va==0)=true:=by rw[beq_iff_eq];exact n1
     clear n1;clear hn;exact x4hb
    have e1:(va==0)=false:=by rw[beq_eq_false_iff_ne];exact n1
    by_cases n2:vb=0
    ·have e1:(vb==0)=true:=by rw[beq_iff_eq];exact n2
     clear n1 n2;clear hn;exact x4hb
    have e1:(vb==0)=false:=by rw[beq_eq_false_iff_ne];exact n2
    by_cases n3:vb<fl
    ·clear n1 n2;clear hn;exact x4hb
    have e1:fl<=vb:=by omega
    have d1:decide (vb<fl)=false:=by simpa using e1
    have e1:va<fl:=by
     rcases Int.lt_or_le va fl with h|h
     ·exact h
     exact x3eu
    clear n1 n2 n3;clear hn;exact x4hb
  cases tr
  ·have hn:=hF;clear hF;by_cases n1:vb=0
   ·have e1:(vb==0)=true:=by rw[beq_iff_eq];exact n1
    clear n1;clear hn;exact x4hb
   have e1:(vb==0)=false:=by rw[beq_eq_false_iff_ne];exact n1
   by_cases n2:ts=0
   ·have e1:(ts !=0)=false:=by simp[n2]
    have e1:vb<fl:=by
     rcases Int.lt_or_le vb fl with h|h
     ·exact h
     exact x0oq
    clear n1 n2;clear hn;exact x4hb
   have e1:(ts !=0)=true:=by simp[n2]
   clear n1 n2;clear hn;exact x4hb
  have hn:=hF;clear hF;by_cases n1:vb=0
  ·have e1:(vb==0)=true:=by rw[beq_iff_eq];exact n1
   clear n1;clear hn;exact x4hb
  have e1:(vb==0)=false:=by rw[beq_eq_false_iff_ne];exact n1
  by_cases n2:va=0
  ·have e1:(va==0)=true:=by rw[beq_iff_eq];exact n2
   clear n1 n2;clear hn;exact x4hb
  have e1:(va==0)=false:=by rw[beq_eq_false_iff_ne];exact n2
  by_cases n3:va<fl
  ·clear n1 n2;clear hn;exact x4hb
  have e1:fl<=va:=by omega
  have d1:decide (va<fl)=false:=by simpa using e1
  have e1:vb<fl:=by
   rcases Int.lt_or_le vb fl with h|h
   ·exact h
   exact x3eu
  clear n1 n2 n3;clear hn;exact x4hb
theorem recCheck_calls(g ac:Int)(tr:Bool)(ts fl va sa ca vb sb cb:Int)(w:World):
  Calls Tryz.prog 135 #[.agg #[iv g,iv ac,.bool tr,iv ts,iv fl,iv va,iv sa,iv ca,iv vb,iv sb,iv cb]] w (RetB w (iv (recCheck ⟨g,ac,tr,ts,fl,⟨va,sa,ca⟩,⟨vb,sb,cb⟩⟩))):=by
 by_cases h:RangeOk ⟨g,ac,tr,ts,fl,⟨va,sa,ca⟩,⟨vb,sb,cb⟩⟩
 ·obtain⟨h1,h2,h3,h4,h5,h6,h7,h8⟩:=h;exact recCheck_rest g ac tr ts fl va sa ca vb sb cb w h1 h2 h3 h4 h5 h6 h7 h8
 rw[recCheck_bad h];exact recCheck_range g ac tr ts fl va sa ca vb sb cb w h
theorem cloneBytes_calls(A:OA)(n c:Nat)(cs:List Value)(w:World)(hl:cs.length=n*1)(hn0:n<=140737488355328)(hr:Src w A cs)(h1:∀u∈cs,u.oneCell'=true):
  Calls Tryz.prog 52 #[.slice A n c] w (SlRet w 5 1 n cs):=by
 rcases A with _|ad
 ·have h1:cs.length=0:=by
   exact x5fs
  obtain rfl:n=0:=by omega
  obtain rfl:cs=[]:=List.eq_nil_of_length_eq_zero h1;have hn:=fun (wx:World) (a:OA) (n c n' c':Nat)=>Lib.run_eql_slice_nil (P:=Tryz.prog) wx 23 5 a n c n' c' Tryz.underlying23;clear h1 hl;go_enter Tryz.func52,Tryz.ntmps52;exact x4d9
 have hn:=fun (wx:World) (a:OA) (n c n' c':Nat)=>Lib.run_eql_slice_nil (P:=Tryz.prog) wx 23 5 a n c n' c' Tryz.underlying23;have ho:Own (w.alloc (.cells #[] 5)) w.heap.size 5 1 (some ⟨w.heap.size,0,none⟩) 0 0 []:=own_zero w _ _;have hs:=hr.stays ((Below.refl w.heap.size w).alloc (Nat.le_refl _) (.cells #[] 5));have hb1:0+n<=140737488355328:=by omega
 have hb2:w.heap.size<=(w.alloc (.cells #[] 5)).heap.size:=by simp
 have HL:=qH hl;clear hl;go_enter Tryz.func52,Tryz.ntmps52;go_wp2_with (at_builtin;refine wpList_app _ rfl _ _ 23 rfl elBytesB w.heap.size (some ⟨w.heap.size,0,none⟩) 0 0 [] rfl ho (some ad) n c cs rfl hs HL.out h1 hb1 hb2 ?_;intro A' c' w1 hown hg hb hx);exact x6v2
theorem elChunksB:El Tryz.prog 33 61 5 2513169434916:=⟨Tryz.underlying33,by
 obtain⟨i,h⟩:=info_parts (P:=Tryz.prog) (e:=61) (z:=.agg #[.int .i64 0,.int .i64 0,.int .i64 0,.int .i64 0,.slice none 0 0]) (size:=5) (bytes:=56) (by kernel_rfl);exact⟨i,_,h.1,h.2.1,h.2.2.1,by omega,rfl⟩,by omega⟩
theorem elChunks:El Tryz.prog 33 61 5:=⟨Tryz.underlying33,by
 obtain⟨i,h⟩:=info_parts (P:=Tryz.prog) (e:=61) (z:=.agg #[.int .i64 0,.int .i64 0,.int .i64 0,.int .i64 0,.slice none 0 0]) (size:=5) (bytes:=56) (by kernel_rfl);exact⟨i,_,h.1,h.2.1,h.2.2.1,by omega,rfl⟩,by omega⟩
theorem cloneChunks_calls(A:OA)(n c:Nat)(cs:List Value)(w:World)(hl:cs.length=n*5)(hn0:n<=2513169434916)(hr:Src w A cs)(h1:∀u∈cs,u.oneCell'=true):
  Calls Tryz.prog 99 #[.slice A n c] w (SlRet w 61 5 n cs):=by
 rcases A with _|ad
 ·have h1:cs.length=0:=by
   exact x5fs
  obtain rfl:n=0:=by omega
  obtain rfl:cs=[]:=List.eq_nil_of_length_eq_zero h1;have hn:=fun (wx:World) (a:OA) (n c n' c':Nat)=>Lib.run_eql_slice_nil (P:=Tryz.prog) wx 33 61 a n c n' c' Tryz.underlying33;clear h1 hl;go_enter Tryz.func99,Tryz.ntmps99;exact x4d9
 have hn:=fun (wx:World) (a:OA) (n c n' c':Nat)=>Lib.run_eql_slice_nil (P:=Tryz.prog) wx 33 61 a n c n' c' Tryz.underlying33;have ho:Own (w.alloc (.cells #[] 61)) w.heap.size 61 5 (some ⟨w.heap.size,0,none⟩) 0 0 []:=own_zero w _ _;have hs:=hr.stays ((Below.refl w.heap.size w).alloc (Nat.le_refl _) (.cells #[] 61));have hb1:0+n<=2513169434916:=by omega
 have hb2:w.heap.size<=(w.alloc (.cells #[] 61)).heap.size:=by simp
 have HL:=qH hl;clear hl;go_enter Tryz.func99,Tryz.ntmps99;go_wp2_with (at_builtin;refine wpList_app _ rfl _ _ 33 rfl elChunksB w.heap.size (some ⟨w.heap.size,0,none⟩) 0 0 [] rfl ho (some ad) n c cs rfl hs HL.out h1 hb1 hb2 ?_;intro A' c' w1 hown hg hb hx);exact x6v2
theorem x1tl(h:Y:=by
 unfold Oper.wp execOp;simp only[ho,resolve,invoke,builtin,Sem.run_bind,Sem.run_pure,Result.andThen_ok,List.map_toArray,List.map_cons,List.map_nil,hd,hs,hr];exact h):Y:=h
def over(L:List Value)(o:Nat)(cs:List Value):List Value:=L.take o++cs++L.drop (o+cs.length)
theorem over_len(L:List Value)(o:Nat)(cs:List Value)(h:o+cs.length<=L.length):(over L o cs).length=L.length:=by simp[over];omega
theorem over_at(L:List Value)(o:Nat)(cs:List Value)(h:o+cs.length<=L.length)(j:Nat):(over L o cs)[j]?=if o<=j∧j<o+cs.length then cs[j-o]? else L[j]?:=by
 have hl:(L.take o).length=o:=by simp;omega
 unfold over;by_cases h1:j<o
 ·rw[List.append_assoc,List.getElem?_append_left (by omega),List.getElem?_take,if_pos h1,if_neg (by omega)]
 by_cases h1:j<o+cs.length
 ·rw[List.append_assoc,List.getElem?_append_right (by omega),List.getElem?_append_left (by omega),hl,if_pos ⟨by omega,h1⟩]
 rw[List.getElem?_append_right (by simp;omega),List.getElem?_drop,if_neg (by omega)];congr 1;simp;omega
theorem run_copy_rowN{P:Program}(w:World)(dT sT ty elem:TypeId)(g o dLen dCap:Nat)(a:Addr)(sLen sCap:Nat)(cur:List Value)(t:TypeId)(cs:List Value)(size:Nat)
  (hu:P.underlying dT=some (.slice elem)) (hs:(P.info? elem).map (·.size)=some size)
  (hg:w.heap[g]?=some (.cells cur.toArray t (0,0))) (hn:cs.length=Nat.min sLen dLen*size)
  (hsrc:∀j v,cs[j]?=some v->w.cell? (a.add j)=some v) (hfit:o+cs.length<=cur.length) (h1:∀v∈cs,v.oneCell'=true):
  (Builtin.copy_ #[dT,sT] ty #[.slice (some ⟨g,o,none⟩) dLen dCap,.slice (some a) sLen sCap]).run P w=
   .ok (goInt (Nat.min sLen dLen)) (w.setRow g (over cur o cs).toArray):=by
 have hl:=run_loadCells_list (P:=P) w a cs hsrc;have hst:=run_storeCells_at P g o t cs 0 cur.toArray w hg (by simpa using hfit) h1
 cases hq:P.info? elem with
 |none=>simp[hq]at hs
 |some i=>
  have hi:i.size=size:=by simpa[hq]using hs
  rw[hn]at hl;simp[Builtin.copy_,run_underlying hu,Builtin.lenOf,Builtin.firstCells,sizeOf,typeInfo,hq,hi,hl,hst,over]
theorem wp_copyN{P:Program}{o:Oper}{a:Act}{K:Act->World->Prop}{Q:Exit->Act->World->Prop}(d s:Operand)(t t':TypeId)
  (ho:o.op=.call {callee:=.builtin .copy,args:=#[d,s],argTypes:=#[t,t']}) (v u:Value) (hd:a.eval d=v) (hs:a.eval s=u) {v':Value} {w':World}
  (hr:(Builtin.copy_ #[t,t'] o.type #[v,u]).run P w=.ok v' w') (h:K (a.put o.dst v') w'):o.wp P a w K Q:=by
 exact x1tl
theorem ins_room(L ns:List Value)(k N:Nat)(hk:k<=N)(hL:N+ns.length<=L.length):
  (over (over L (k+ns.length) ((L.take N).drop k)) k ns).take (N+ns.length)=(L.take N).take k++ns++(L.take N).drop k:=by
 have h1:((L.take N).drop k).length=N-k:=by simp;omega
 have h1:=over_len L (k+ns.length) ((L.take N).drop k) (by omega)
 apply List.ext_getElem?
 intro j;rw[List.getElem?_take];by_cases hj:j<N+ns.length
 ·rw[if_pos hj,over_at _ _ _ (by omega)];by_cases a1:j<k
  ·rw[if_neg (by omega),over_at _ _ _ (by omega),if_neg (by omega),List.append_assoc,List.getElem?_append_left (by simp;omega),List.getElem?_take,if_pos a1,List.getElem?_take,if_pos (by omega)]
  by_cases a1:j<k+ns.length
  ·rw[if_pos ⟨by omega,a1⟩,List.append_assoc,List.getElem?_append_right (by simp;omega),List.getElem?_append_left (by simp;omega)];congr 1;simp;omega
  rw[if_neg (by omega),over_at _ _ _ (by omega),if_pos ⟨by omega,by omega⟩,List.getElem?_append_right (by simp;omega)];congr 1;simp;omega
 rw[if_neg hj]
 symm
 apply List.getElem?_eq_none
 simp;omega
theorem ins_grown(X Z ns:List Value)(k N m:Nat)(hk:k<=N)(hX:X.length=N)(hm:ns.length=m)(hZ:N+m<=k+Z.length):
  (over (over (X.take k++Z) k ns) (k+m) (X.drop k)).take (N+m)=X.take k++ns++X.drop k:=by
 have h3:(X.take k++Z).length=k+Z.length:=by simp;omega
 have h1:(X.drop k).length=N-k:=by simp;omega
 have h1:=over_len (X.take k++Z) k ns (by omega)
 apply List.ext_getElem?
 intro j;rw[List.getElem?_take];by_cases hj:j<N+m
 ·rw[if_pos hj,over_at _ _ _ (by omega)];by_cases a1:j<k
  ·rw[if_neg (by omega),over_at _ _ _ (by omega),if_neg (by omega),List.getElem?_append_left (by simp;omega),List.append_assoc,List.getElem?_append_left (by simp;omega)]
  by_cases a1:j<k+m
  ·rw[if_neg (by omega),over_at _ _ _ (by omega),if_pos ⟨by omega,by omega⟩,List.append_assoc,List.getElem?_append_right (by simp;omega),List.getElem?_append_left (by simp;omega)];congr 1;simp;omega
  rw[if_pos ⟨by omega,by omega⟩,List.getElem?_append_right (by simp;omega)];congr 1;simp;omega
 rw[if_neg hj]
 symm
 apply List.getElem?_eq_none
 simp;omega
section
variable (A:OA) (c:Nat) (l:LU) (w:World)
theorem sumOf_calls(hl:l.length<=140737488355328)(hr:Bts w A l):
  Calls Tryz.prog 49 #[.slice A l.length c] w (Ret w (iv (sumOn 1 l))):=by
 go_enter Tryz.func49,Tryz.ntmps49
 go_wp2
 go_loop [3,5,8] (fun s x i=>∃k:Nat,k<=l.length∧i=.int .i64 k∧s=.int .i64 (sumOn 1 (l.take k))) (fun _ _ i=>l.length-(intOf i).toNat)
 case atStart=>exact⟨0,Nat.zero_le _,rfl,rfl⟩
 case round=>
  obtain⟨k,hk,rfl,rfl⟩:=hrel;have hb:=sumOn_bd 1 (l.take k) (by omega);by_cases hlt:k<l.length
  ·obtain⟨b,o,rfl,hbs,hc⟩:=hr k hlt;have hx:=l[k].toNat_lt;have HS:Hid (sumOn 1 (l.take (k+1))=(sumOn 1 (l.take k)*31+(l[k].toNat:Int))%65521):=sumOn_take 1 l k hlt
   go_wp2
   go_round
   case rel=>exact⟨k+1,by omega,by go_num,by rw[HS.out]⟩
   case measure=>simp[intOf]<;>omega
  go_wp2
  go_ret;exact⟨ret_int (by rw[List.take_of_length_le (by omega)]),rfl⟩
end
theorem x5t4(h:Y:=by
 go_wp2_with fail;refine K1.out.mono ?_;rintro e w1 ⟨rfl,hb1⟩;go_wp2_with fail;go_ret2;exact⟨rfl,hba.trans (hb1.mono (by simp))⟩):Y:=h
theorem x9ll(h:Y:=by
 rw[HPB.out,HPRE.out,<-List.length_append,List.append_assoc,<-opsBytes_append,List.take_append_drop]):Y:=h
theorem bv_by(n:Int)(h:0<=n∧n<=255):bv (by_ n)=.int .u8 n:=by unfold bv;rw[by_small h]
theorem bv_by2(n:Int):bv (by_ n)=.int .u8 (n%256):=by unfold bv;rw[by_toNat]
theorem x018(h:Y:=by
 go_wp2_with fail;go_ret;exact⟨ret_int HR.out.symm,Below.refl _ _⟩):Y:=h
theorem refCheck_calls(A:OA)(c:Nat)(l:List Stp)(old size:Int)(w:World)(hl:l.length<=3518437208780)(hr:Sps w A l):
  Calls Tryz.prog 119 #[.slice A l.length c,iv old,iv size] w (RetB w (iv (deltaCheck l old size))):=by
 by_cases hm:40<l.length∨old<0∨64<old∨size<0∨64<size
 ·have HR:=qH (dc_many hm);by_cases h1:40<l.length
  ·have h1':(40:Int)<(l.length:Int):=by omega
   clear hm h1;go_enter Tryz.func119,Tryz.ntmps119;exact x018
  have h1':¬(40:Int)<(l.length:Int):=by omega
  by_cases h2:old<0∨64<old
  ·have I1:=qH (fun w=>refIn_f (a:=0) (b:=64) h2 w);clear hm h1 h2;go_enter Tryz.func119,Tryz.ntmps119;go_wp2_with fail;refine(I1.out _).mono ?_;rintro e1 w1 ⟨rfl,rfl⟩;exact x018
  have I1:=qH (fun w=>refIn_t (n:=old) (a:=0) (b:=64) (by omega) w);have I2:=qH (fun w=>refIn_f (n:=size) (a:=0) (b:=64) (by omega) w);clear hm h1 h2;go_enter Tryz.func119,Tryz.ntmps119;go_wp2_with fail;refine(I1.out _).mono ?_;rintro e1 w1 ⟨rfl,rfl⟩;go_wp2_with fail;refine(I2.out _).mono ?_;rintro e1 w1 ⟨rfl,rfl⟩;exact x018
 have HR:=qH (dc_go hm);have h1:¬(40:Int)<(l.length:Int):=by omega
 have I1:=qH (fun w=>refIn_t (n:=old) (a:=0) (b:=64) (by omega) w);have I2:=qH (fun w=>refIn_t (n:=size) (a:=0) (b:=64) (by omega) w);have h1:0<=old:=by omega
 have h1:old<=64:=by omega
 have h1:0<=size:=by omega
 have h1:size<=64:=by omega
 have h1:l.length<=40:=by omega
 clear hm;go_enter Tryz.func119,Tryz.ntmps119;go_wp2_with fail;refine(I1.out _).mono ?_;rintro e5 w3 ⟨rfl,rfl⟩;go_wp2_with fail;refine(I2.out _).mono ?_;rintro e5 w3 ⟨rfl,rfl⟩;go_wp2_with fail;go_loopw [26,7] (fun i s wr=>∃(k:Nat) (z:Int),k<=l.length∧i=.int .i64 k∧s=.int .i64 (size-z)∧0<=z∧z<=size∧Hid (ScAt old l size k z)∧Hid (Below w.heap.size w wr)) (fun i _ _=>l.length-(intOf i).toNat)
 case atStart=>exact⟨0,size,Nat.zero_le _,rfl,by simp,by omega,by omega,qH (by unfold ScAt;rw[List.drop_zero]),qH (Below.refl _ _)⟩
 case round=>
  obtain⟨k,z,hk,rfl,rfl,hz2,hz1,HS,HB⟩:=hrel;by_cases hlt:k<l.length
  ·obtain⟨b,o,B,cc,rfl,hs,hc3,hc1,hc2,hd1,hd2,-,hi2,hi1⟩:=(hr.stays HB.out).at_ hlt;have HH:=qH (HS.out.here hlt);have hsz:=HB.out.size;clear HS;unfold I64 at hi2 hi1;obtain⟨i1,i01⟩:=hi2;obtain⟨i1,i2⟩:=hi1;generalize hx:l[k]=x at *
   clear hx;obtain⟨at_,len,data⟩:=x;dsimp only at *
   have hdl:0<=(data.length:Int):=by omega
   by_cases hf:(⟨at_,len,data⟩:Stp).form
   ·by_cases hin:(⟨at_,len,data⟩:Stp).in_ old
    ·have hn:(⟨at_,len,data⟩:Stp).n=len+data.length:=rfl;have hin':=hin;unfold Stp.in_ at hin';dsimp only at hin';obtain⟨j1,j2,j3⟩:=hin';have hf':=hf;unfold Stp.form at hf';dsimp only at hf';have t1:¬len<0:=by omega
     have t2:¬at_<0:=by omega
     have t3:¬64<len:=by omega
     have t4:¬64<at_:=by omega
     have t5:¬old<at_+len:=by omega
     have w1:IntKind.i64.wrap (at_+len)=at_+len:=IntWalk.i64_in _ (by omega);by_cases hzn:z<len+data.length
     ·have HE:=qH (HH.out.symm.trans (sc_many hf hin (by rw[hn];exact hzn)));clear hf hin hn HH;by_cases e1:len=0
      ·obtain⟨rfl,e2,e3⟩:=hf'.1 e1;subst e1;have e1:1<=data.length:=by rcases data with _|⟨y,d⟩;exact absurd rfl e2;simp
       have I1:=qH (fun w=>refIn_t (n:=(data.length:Int)) (a:=1) (b:=64) (by omega) w);have w2:IntKind.i64.wrap ((size-z)+(data.length:Int))=(size-z)+(data.length:Int):=IntWalk.i64_in _ (by omega);have t6:size<(size-z)+(data.length:Int):=by omega
       clear hf' e2 w1 t1 t2 t3 t4 t5;go_wp2_with fail;refine(I1.out _).mono ?_;rintro e1 w1 ⟨rfl,rfl⟩;exact x1gl
      have e2:=hf'.2 e1;subst e2;have q1:(len==0)=false:=by simp[e1]
      have q1:(len !=0)=true:=by simp[e1]
      clear hf' e1;simp only[List.length_nil,Int.ofNat_eq_natCast,Int.natCast_zero,Int.add_zero]at *
      have w1:IntKind.i64.wrap ((size-z)+len)=(size-z)+len:=IntWalk.i64_in _ (by omega);have t1:size<(size-z)+len:=by omega
      exact x1gl
     have HE:=qH ((sc_on hf hin (by rw[hn];exact hzn)).symm.trans HH.out);clear hf hin HH;rw[hn]at HE;clear hn;by_cases e1:len=0
     ·obtain⟨rfl,e2,e3⟩:=hf'.1 e1;subst e1;have e1:1<=data.length:=by rcases data with _|⟨y,d⟩;exact absurd rfl e2;simp
      have I1:=qH (fun w=>refIn_t (n:=(data.length:Int)) (a:=1) (b:=64) (by omega) w);have w2:IntKind.i64.wrap ((size-z)+(data.length:Int))=(size-z)+(data.length:Int):=IntWalk.i64_in _ (by omega);have t6:¬size<(size-z)+(data.length:Int):=by omega
      clear hf' e2 w1 t1 t2 t3 t4 t5;go_wp2_with fail;refine(I1.out _).mono ?_;rintro e1 w1 ⟨rfl,rfl⟩;go_wp2_with fail;go_roundw
      case rel=>exact⟨k+1,z-(0+data.length),by omega,by go_num,by go_num,by omega,by omega,HE,qH (HB.out.alloc hsz _)⟩
      case measure=>simp[intOf];omega
     have e2:=hf'.2 e1;subst e2;have q1:(len==0)=false:=by simp[e1]
     have q1:(len !=0)=true:=by simp[e1]
     clear hf' e1;have HE1:Hid (ScAt old l size (k+1) (z-len)):=by
      have:=HE.out;refine qH ?_;simpa[ScAt]using this
     clear HE;simp only[List.length_nil,Int.ofNat_eq_natCast,Int.natCast_zero,Int.add_zero]at *
     have w1:IntKind.i64.wrap ((size-z)+len)=(size-z)+len:=IntWalk.i64_in _ (by omega);have t1:¬size<(size-z)+len:=by omega
     go_wp2_with fail;go_roundw
     case rel=>exact⟨k+1,z-len,by omega,by go_num,by go_num,by omega,by omega,HE1,qH (HB.out.alloc hsz _)⟩
     case measure=>simp[intOf];omega
    ·have HE:=qH (HH.out.symm.trans (sc_range hf hin));have hf':=hf;unfold Stp.form at hf';dsimp only at hf';have hin':=hin;unfold Stp.in_ at hin';dsimp only at hin';clear hf hin HH;have e1:len≠0:=by
      intro e2;obtain⟨e1,_,_⟩:=hf'.1 e2;omega
     have e2:=hf'.2 e1;subst e2;have q1:(len==0)=false:=by simp[e1]
     have q1:(len !=0)=true:=by simp[e1]
     clear hf' e1;simp only[List.length_nil,Int.ofNat_eq_natCast,Int.natCast_zero,Int.add_zero]at *
     have HI:=qH hin';clear hin';by_cases r1:len<0
     ·exact x1gl
     by_cases r1:at_<0
     ·exact x1gl
     by_cases r1:64<len
     ·exact x1gl
     by_cases r1:64<at_
     ·exact x1gl
     have w1:IntKind.i64.wrap (at_+len)=at_+len:=IntWalk.i64_in _ (by omega);have r1:old<at_+len:=by have:=HI.out;omega
     exact x1gl
   have HE:=qH (HH.out.symm.trans (sc_form hf));have hf':=hf;unfold Stp.form at hf';dsimp only at hf';clear hf HH;by_cases e3:len=0
   ·subst e3;by_cases e1:at_=0
    ·subst e1;have I1:Hid (∀w,Calls Tryz.prog 21 #[iv (data.length:Int),iv 1,iv 64] w (Ret w (.bool false))):=qH (fun w=>by
      by_cases e1:data=[]
      ·subst e1;exact refIn_f (Or.inl (by decide)) w
      refine refIn_f (Or.inr ?_) w;exact x614)
     clear hf';go_wp2_with fail;refine(I1.out _).mono ?_;rintro e1 w1 ⟨rfl,rfl⟩;exact x1gl
    have q1:(at_ !=0)=true:=by simp[e1]
    clear hf' e1;exact x1gl
   have e1:data≠[]:=fun e=>hf' ⟨fun h=>absurd h e3,fun _=>e⟩;have e2:1<=data.length:=by rcases data with _|⟨y,d⟩;exact absurd rfl e1;simp
   have q1:(len==0)=false:=by simp[e3]
   have q1:(len !=0)=true:=by simp[e3]
   have q1:((data.length:Int) !=0)=true:=by simp;omega
   clear hf' e3 e1;exact x1gl
  obtain rfl:k=l.length:=by omega
  have HE:Hid (stepsCheck old l size=if z=0 then 0 else 3):=by
   exact x017
  clear HS;by_cases e:z=0
  ·have HF:=qH (HE.out.trans (if_pos e));subst e;exact x5ag
  have HF:=qH (HE.out.trans (if_neg e));have q:size-z<size:=by omega
  clear e;exact x5ag
theorem x2eg(h:Y:=by
 exact⟨none,0,rfl,.const fun v=>patIn_zero v,below_row HB2.out (by omega) _⟩):Y:=h
theorem x40u(h:Y:=by
 go_wp2_with fail;go_ret;exact⟨ret_int hz.out.symm,HB.out⟩):Y:=h
theorem refPatCheckA_calls(A:OA)(c:Nat)(f t o n sz:Int)(l:List Stp)(w:World)(hl:l.length<=3518437208780)(hs:Sps w A l):
  Calls Tryz.prog 82 #[.agg #[iv f,iv t,iv o,iv n,iv sz,.slice A l.length c]] w (RetB w (iv (patCheck ⟨f,t,o,n,sz,l⟩))):=by
 have hb:Below w.heap.size w (w.alloc (.cells #[iv f,iv t,iv o,iv n,iv sz,.slice A l.length c] 36)):=(Below.refl _ _).alloc (Nat.le_refl _) _;have HB:=qH hb;have HC:=qH (refCheck_calls A c l 64 sz _ hl (hs.stays hb));clear hb hs;by_cases h4:¬((1:Int)<=f∧f<=30)
 ·have hz:=qH (patCheck_bad (p:=⟨f,t,o,n,sz,l⟩) (by unfold Pat.range;dsimp only;omega));have I1:=qH (fun w=>refIn_f (n:=f) (a:=1) (b:=30) (by omega) w);clear HC h4;go_enter Tryz.func82,Tryz.ntmps82;go_wp2_with fail;refine(I1.out _).mono ?_;rintro e1 w1 ⟨rfl,rfl⟩;exact x40u
 have h4:=Decidable.not_not.1 h4;have I4:=qH (fun w=>refIn_t (n:=f) (a:=1) (b:=30) h4 w);by_cases h1:¬((1:Int)<=t∧t<=30)
 ·have hz:=qH (patCheck_bad (p:=⟨f,t,o,n,sz,l⟩) (by unfold Pat.range;dsimp only;omega));have I1:=qH (fun w=>refIn_f (n:=t) (a:=1) (b:=30) (by omega) w);clear HC h1;go_enter Tryz.func82,Tryz.ntmps82;go_wp2_with fail;refine(I4.out _).mono ?_;rintro e2 w2 ⟨rfl,rfl⟩;go_wp2_with fail;refine(I1.out _).mono ?_;rintro e1 w1 ⟨rfl,rfl⟩;exact x40u
 have h1:=Decidable.not_not.1 h1;have I1:=qH (fun w=>refIn_t (n:=t) (a:=1) (b:=30) h1 w);by_cases h2:¬((0:Int)<=o∧o<=65535)
 ·have hz:=qH (patCheck_bad (p:=⟨f,t,o,n,sz,l⟩) (by unfold Pat.range;dsimp only;omega));have I2:=qH (fun w=>refIn_f (n:=o) (a:=0) (b:=65535) (by omega) w);clear HC h2;go_enter Tryz.func82,Tryz.ntmps82;go_wp2_with fail;refine(I4.out _).mono ?_;rintro e3 w3 ⟨rfl,rfl⟩;go_wp2_with fail;refine(I1.out _).mono ?_;rintro e1 w1 ⟨rfl,rfl⟩;go_wp2_with fail;refine(I2.out _).mono ?_;rintro e1 w1 ⟨rfl,rfl⟩;exact x40u
 have h2:=Decidable.not_not.1 h2;have I2:=qH (fun w=>refIn_t (n:=o) (a:=0) (b:=65535) h2 w);by_cases h3:¬((0:Int)<=n∧n<=65535)
 ·have hz:=qH (patCheck_bad (p:=⟨f,t,o,n,sz,l⟩) (by unfold Pat.range;dsimp only;omega));have I3:=qH (fun w=>refIn_f (n:=n) (a:=0) (b:=65535) (by omega) w);clear HC h3;go_enter Tryz.func82,Tryz.ntmps82;go_wp2_with fail;refine(I4.out _).mono ?_;rintro e4 w4 ⟨rfl,rfl⟩;go_wp2_with fail;refine(I1.out _).mono ?_;rintro e1 w1 ⟨rfl,rfl⟩;go_wp2_with fail;refine(I2.out _).mono ?_;rintro e1 w1 ⟨rfl,rfl⟩;go_wp2_with fail;refine(I3.out _).mono ?_;rintro e1 w1 ⟨rfl,rfl⟩;exact x40u
 have h3:=Decidable.not_not.1 h3;have I3:=qH (fun w=>refIn_t (n:=n) (a:=0) (b:=65535) h3 w);have hz:=qH (patCheck_in (p:=⟨f,t,o,n,sz,l⟩) (by unfold Pat.range;dsimp only;omega));clear h4 h1 h2 h3;go_enter Tryz.func82,Tryz.ntmps82;go_wp2_with fail;refine(I4.out _).mono ?_;rintro e4 w4 ⟨rfl,rfl⟩;go_wp2_with fail;refine(I1.out _).mono ?_;rintro e1 w1 ⟨rfl,rfl⟩;go_wp2_with fail;refine(I2.out _).mono ?_;rintro e1 w1 ⟨rfl,rfl⟩;go_wp2_with fail;refine(I3.out _).mono ?_;rintro e1 w1 ⟨rfl,rfl⟩;exact x3ef
section
variable (A:OA) (c:Nat) (l:LU) (w:World)
theorem refSumOn_calls(s:Int)(hs:0<=s)(hs':s<=65520)(hl:l.length<=140737488355328)(hr:Bts w A l):
  Calls Tryz.prog 69 #[iv s,.slice A l.length c] w (Ret w (iv (sumOn s l))):=by
 go_enter Tryz.func69,Tryz.ntmps69
 go_wp2
 go_loop [5,6,7] (fun p n i=>∃k:Nat,k<=l.length∧i=.int .i64 ((k:Int)-1)∧p=.int .i64 (pw (l.length-k))∧n=.int .i64 (sumOn 0 (l.drop k))) (fun _ _ i=>(intOf i+1).toNat)
 case atStart=>exact⟨l.length,Nat.le_refl _,rfl,by simp[pw],by simp[sumOn]⟩
 case round=>
  obtain⟨k,hk,rfl,rfl,rfl⟩:=hrel;have hb:=sumOn_bd 0 (l.drop k) (by omega);have hp:=pw_bd (l.length-k);by_cases hlt:0<k
  ·obtain⟨j,rfl⟩:∃j,k=j+1:=⟨k-1,by omega⟩;obtain⟨b,o,rfl,hbs,hc⟩:=hr j (by omega);have hx:=l[j].toNat_lt;have hj:((j:Int)+1-1).toNat=j:=by omega
   have HS:Hid (sumOn 0 (l.drop j)=(sumOn 0 (l.drop (j+1))+(l[j].toNat:Int)*pw (l.length-(j+1)))%65521):=sumOn_drop l j (by omega);have HP:Hid (pw (l.length-j)=pw (l.length-(j+1))*31%65521):=by
    have:=pw_succ (l.length-(j+1));rwa [show l.length-(j+1)+1=l.length-j by omega]at this
   have hm:0<=(l[j].toNat:Int)*pw (l.length-(j+1)):=Int.mul_nonneg (by omega) hp.1;have hm1:(l[j].toNat:Int)*pw (l.length-(j+1))<=256*65520:=Int.mul_le_mul (by omega) hp.2 hp.1 (by omega)
   go_wp2
   go_round
   case rel=>exact⟨j,by omega,rfl,by rw[HP.out],by rw[HS.out]⟩
   case measure=>simp[intOf]
  obtain rfl:k=0:=by omega
  have HF:=qH (sumOn_ref s l (by omega));have hm:0<=s*pw l.length:=Int.mul_nonneg hs (pw_bd _).1;have hm1:s*pw l.length<=65520*65520:=Int.mul_le_mul hs' (pw_bd _).2 (pw_bd _).1 (by omega);simp only[Nat.sub_zero,List.drop_zero]at hb hp⊢
  go_wp2
  go_ret;exact⟨ret_int (by rw[HF.out]),rfl⟩
theorem refSumOf_calls(hl:l.length<=140737488355328)(hr:Bts w A l):
  Calls Tryz.prog 25 #[.slice A l.length c] w (Ret w (iv (sumOn 1 l))):=by
 go_enter Tryz.func25,Tryz.ntmps25;go_wp2_with (go_at_call 69;refine(refSumOn_calls A c l _ 1 (by omega) (by omega) hl hr).mono ?_;rintro e w' ⟨rfl,rfl⟩);go_ret;exact⟨rfl,rfl⟩
end
def ByRet2(w:World)(l:LU)(n:Int):Ending->World->Prop:=fun en w'=>
 ∃A c,en=.returned (.tuple #[.slice A l.length c,iv n])∧Bts w' A l∧l.length<=c∧Below w.heap.size w w'
theorem Bts.drop{b o:Nat}{l:LU}(h:Bts w (some ⟨b,o,none⟩) l)(k:Nat):Bts w (some ⟨b,o+k,none⟩) (l.drop k):=by
 intro i hi;simp only[List.length_drop]at hi;obtain⟨b',o',hA,hlt,hc⟩:=h (k+i) (by omega);injection hA with hA;injection hA with e1 e2;subst e1 e2;refine⟨b,o+k,rfl,hlt,?_⟩;rw[Nat.add_assoc,hc];simp
theorem Bts.take{A:OA}{l:LU}(h:Bts w A l)(k:Nat):Bts w A (l.take k):=by
 intro i hi;simp only[List.length_take]at hi;obtain⟨b,o,hA,hlt,hc⟩:=h i (by omega);exact⟨b,o,hA,hlt,by rw[hc];simp⟩
theorem mid_bts{A:OA}(c:Nat){old:LU}{a n:Nat}(h:Bts w A old)(hc:old.length<=c)(hn:a+n<=old.length):Bts w (if c=a then A else Option.map (fun x=>x.add a) A) ((old.drop a).take n):=by
 by_cases e:n=0
 ·subst e;rw[List.take_zero];exact Bts.nil _ _
 obtain⟨b,o,rfl,hlt,_⟩:=h 0 (by omega);rw[if_neg (by omega)];have e1:Option.map (fun x:Addr=>x.add a) (some ⟨b,o,none⟩)=some ⟨b,o+a,none⟩:=by simp[Addr.add]
 rw[e1];exact(h.drop a).take n
theorem deltaApply_bad(A:OA)(c:Nat)(old:LU)(B:OA)(d:Nat)(l:List Stp)(size:Int)(w:World)(ho:old.length<=140737488351232)(hl:l.length<=3518437208780)(hr:Sps w B l)(h:deltaCheck l old.length size≠0):
  Calls Tryz.prog 116 #[.slice A old.length c,.slice B l.length d,iv size] w (RetB w (.tuple #[.slice none 0 0,iv (deltaCheck l old.length size)])):=by
 have hb:(deltaCheck l old.length size !=0)=true:=by simp[h]
 clear h;go_enter Tryz.func116,Tryz.ntmps116;go_wp2_with fail;refine(deltaCheck_calls B d l old.length size w hl hr).mono ?_;rintro e w1 ⟨rfl,hb1⟩;go_wp2_with fail;go_ret2;exact⟨rfl,hb1⟩
theorem deltaApply_ok(A:OA)(c:Nat)(old:LU)(B:OA)(d:Nat)(l:List Stp)(size:Int)(w:World)(hc:old.length<=c)(hA:Bts w A old)(hl:l.length<=3518437208780)(hr:Sps w B l)(h:deltaCheck l old.length size=0):
  Calls Tryz.prog 116 #[.slice A old.length c,.slice B l.length d,iv size] w (ByRet2 w (applied old l) 0):=by
 have hd:=deltaCheck_ok.1 h;have hc3:∀w,Calls Tryz.prog 138 #[.slice B l.length d,iv (old.length:Int),iv size] w (RetB w (iv (deltaCheck l old.length size)))->Calls Tryz.prog 138 #[.slice B l.length d,iv (old.length:Int),iv size] w (RetB w (iv 0)):=by
  intro w hw;rw[h]at hw;exact hw
 have hcc:=hc3 w (deltaCheck_calls B d l old.length size w hl hr);have HC:=qH hcc;have HD:=qH hd;have ho1:=hd.o1;have hm:=hd.many;clear hc3 hcc h hd;go_enter Tryz.func116,Tryz.ntmps116;go_wp2_with fail;refine HC.out.mono ?_;rintro e w1 ⟨rfl,hb1⟩;have HB1:=qH hb1;clear hb1;go_wp2_with fail;go_loopw [9,22] (fun v i wr=>∃(k:Nat) (C:OA) (cc:Nat),k<=l.length∧i=.int .i64 k∧v=.slice C (applied old (l.take k)).length cc∧(applied old (l.take k)).length<=cc∧Bts wr C (applied old (l.take k))∧Hid (Below w.heap.size w wr)) (fun _ i _=>l.length-(intOf i).toNat)
 case atStart=>exact⟨0,none,0,Nat.zero_le _,rfl,rfl,Nat.le_refl _,Bts.nil _ _,HB1⟩
 case round=>
  obtain⟨k,C,cc,hk,rfl,rfl,hcl,hC,HB⟩:=hrel;by_cases hlt:k<l.length
  ·obtain⟨b,o,D,dd,rfl,hs,hc3,hc1,hc2,hd1,hd2,hD,hi2,hi1⟩:=(hr.stays HB.out).at_ hlt;have hsz:=HB.out.size;have hx:l.take (k+1)=l.take k++[l[k]]:=List.take_succ_eq_append_getElem hlt;obtain⟨hform,hin⟩:=HD.out.each _ (List.getElem_mem hlt);have hlen:(applied old (l.take (k+1))).length<=64:=by
    have h1:=applied_len (old:=old) (l:=l.take (k+1)) (fun o ho=>(HD.out.each o (List.mem_of_mem_take ho)).2);have h1:=HD.out.take (k+1);have:=h1.2.2.2;have:=HD.out.s1;omega
   have happ:applied old (l.take (k+1))=applied old (l.take k)++l[k].piece old:=by rw[hx,applied_append,applied_one]
   have HX:=qH happ;rw[happ]at hlen;clear happ hx hform;generalize hx:l[k]=x at *
   clear hx;obtain⟨at_,len,data⟩:=x;unfold Stp.in_ at hin;dsimp only at *
   obtain⟨j1,j2,j3⟩:=hin;obtain⟨n,rfl⟩:=Int.eq_ofNat_of_zero_le j1;obtain⟨a,rfl⟩:=Int.eq_ofNat_of_zero_le j2;have j3:a+n<=old.length:=by omega
   clear j1 j2 hi2 hi1;generalize hp:applied old (l.take k)=pre at *
   clear hp;have hpl:pre.length<=64:=by rw[List.length_append]at hlen;omega
   have hdl:data.length<=64:=by rw[List.length_append]at hlen;simp only[Stp.piece,List.length_append]at hlen;omega
   clear hlen;have w1':IntKind.i64.wrap ((a:Int)+(n:Int))=(a:Int)+(n:Int):=IntWalk.i64_in _ (by omega);have w1:((a:Int)+(n:Int)).toNat=a+n:=by omega
   have w2:(0:Int)<=(a:Int):=by omega
   have w3:(a:Int)<=(a:Int)+(n:Int):=by omega
   have w3:(a:Int)+(n:Int)<=(c:Int):=by omega
   have w3:a+n-a=n:=by omega
   have hMM:∀w',Below wr.heap.size wr w'->Bts w' (if c=a then A else Option.map (fun x=>x.add a) A) ((old.drop a).take n):=fun w' hb=>(mid_bts c (hA.stays HB.out) hc j3).stays hb;have hml:((old.drop a).take n).length=n:=by simp;omega
   have HM:=qH hMM;have HML:=qH hml;have hDs:∀w',Below wr.heap.size wr w'->Bts w' D data:=fun w' hb=>hD.stays hb;have hCs:∀w',Below wr.heap.size wr w'->Bts w' C pre:=fun w' hb=>hC.stays hb;have HDs:=qH hDs;have HCs:=qH hCs;clear hMM hml hDs hCs hD hC;go_wp2_with fail;refine wp_region_still_tail 12 (by kernel_rfl) (by kernel_rfl) ?_
   change wpStill _ _ ((wr.alloc _).drew) _ _ _
   simp only[List.take_succ_cons,List.take_zero,List.drop_succ_cons,List.drop_zero];repeat still_step
   refine wpStill_nil ?_;generalize (if c=a then A else Option.map (fun x=>x.add a) A)=M at *
   have hb1:Below wr.heap.size wr ((wr.alloc (.cells #[.int .i64 a,.int .i64 n,.slice D data.length dd] 145)).drew):=((Below.refl _ _).alloc (Nat.le_refl _) _).drew
   change wpList _ _ _ _ _ ((wr.alloc (.cells #[.int .i64 a,.int .i64 n,.slice D data.length dd] 145)).drew)
   have HB1:=qH hb1;have hs1:wr.heap.size<((wr.alloc (.cells #[.int .i64 a,.int .i64 n,.slice D data.length dd] 145)).drew).heap.size:=by simp
   clear hb1;generalize (wr.alloc (.cells #[.int .i64 a,.int .i64 n,.slice D data.length dd] 145)).drew=w1 at *
   have HT:Hid (applied old (l.take (k+1))=pre++(old.drop a).take n++data):=by
    refine qH ?_;rw[HX.out];simp[Stp.piece]
   clear HX;go_wp2_with fail;have hcat:=concat3_calls (w:=w1.alloc (.cells #[.slice C pre.length cc,.slice M n (c-a),.slice D data.length dd] 23)) (g:=w1.heap.size) (A:=C) (B:=M) (C:=D) (a:=pre) (b:=(old.drop a).take n) (l:=data) (c:=cc) (d:=c-a) (k:=dd) (t:=23) (fr:=(0,0))
    (by rw[HML.out];exact blk_top rfl) (by rw[HML.out];omega) (HCs.out _ (HB1.out.alloc HB1.out.size _)) (HM.out _ (HB1.out.alloc HB1.out.size _)) (HDs.out _ (HB1.out.alloc HB1.out.size _))
   refine hcat.mono ?_;rintro e w1 ⟨C',c',rfl,hown,hb1⟩;have HO:=qH hown;have HB1:Hid (Below w.heap.size w w1):=qH ((HB.out.trans (HB1.out.mono hsz)).trans ((((Below.refl _ _).alloc (Nat.le_refl _) _).mono (by omega)).trans (hb1.mono (by simp;omega))));clear hcat hown hb1;go_wp2_with fail;go_roundw
   case rel=>
    refine⟨k+1,C',c',by omega,by go_num,by rw[HT.out];simp,?_,?_,HB1⟩
    ·rw[HT.out];exact HO.out.le
    rw[HT.out];exact HO.out.src.bts
   case measure=>simp[intOf];omega
  obtain rfl:k=l.length:=by omega
  rw[List.take_length]at hcl hC;go_wp2_with fail;exact bodyPost_ret (results_tmp2 rfl _ _ _) rfl ⟨C,cc,by simp,hC,hcl,HB.out⟩
def axOf(old:LU)(l:List Stp)(size:Int):List UInt8×Int:=if deltaCheck l old.length size≠0 then ([],deltaCheck l old.length size)else (applied old l,0)
theorem byRet2_nil{n:Int}{e:Ending}{w':World}(h:RetB w (.tuple #[.slice none 0 0,iv n]) e w'):ByRet2 w [] n e w':=
 ⟨none,0,h.1,Bts.nil _ _,Nat.le_refl _,h.2⟩
theorem applyAny_calls(A:OA)(c:Nat)(old:LU)(B:OA)(d:Nat)(l:List Stp)(size:Int)(w:World)(hc:old.length<=c)(ho:old.length<=140737488351232)(hA:Bts w A old)(hl:l.length<=3518437208780)(hr:Sps w B l):
  Calls Tryz.prog 116 #[.slice A old.length c,.slice B l.length d,iv size] w (ByRet2 w (axOf old l size).1 (axOf old l size).2):=by
 unfold axOf;by_cases h:deltaCheck l old.length size=0
 ·rw[if_neg (by simpa using h)];exact deltaApply_ok A c old B d l size w hc hA hl hr h
 rw[if_pos h];exact(deltaApply_bad A c old B d l size w ho hl hr h).mono fun _ _=>byRet2_nil
