/- Walks of functions, and plain words. No conditions. -/
import Derived.Test.YtefkfglkpebbmadGreatPE1
import Derived.Laws.IdiomStrings
import Derived.Laws.BytesArg
import Derived.Deep.DeepCutAuto
set_option linter.unusedVariables false
set_option linter.unusedSimpArgs false
set_option maxRecDepth 100000
set_option maxHeartbeats 40000000
namespace Go.Proofs.YtefkfglkpebbmadGreat
open Go.RowKit
variable {Y:Prop}
theorem x018(h:Y:=by
 go_wp2_with fail;go_ret;exact⟨ret_int HR.out.symm,Below.refl _ _⟩):Y:=h
theorem refCheck_calls(A:OA)(c:Nat)(l:List Stp)(old size:Int)(w:World)(hl:l.length<=3518437208780)(hr:Sps w A l):
  Calls Tryz.prog 84 #[.slice A l.length c,iv old,iv size] w (RetB w (iv (deltaCheck l old size))):=by
 by_cases hm:40<l.length∨old<0∨64<old∨size<0∨64<size
 ·have HR:=qH (dc_many hm);by_cases h1:40<l.length
  ·have h1':(40:Int)<(l.length:Int):=by omega
   clear hm h1;go_enter Tryz.func84,Tryz.ntmps84;exact x018
  have h1':¬(40:Int)<(l.length:Int):=by omega
  by_cases h2:old<0∨64<old
  ·have I1:=qH (fun w=>refIn_f (a:=0) (b:=64) h2 w);clear hm h1 h2;go_enter Tryz.func84,Tryz.ntmps84;go_wp2_with fail;refine(I1.out _).mono ?_;rintro e1 w1 ⟨rfl,rfl⟩;exact x018
  have I1:=qH (fun w=>refIn_t (n:=old) (a:=0) (b:=64) (by omega) w);have I2:=qH (fun w=>refIn_f (n:=size) (a:=0) (b:=64) (by omega) w);clear hm h1 h2;go_enter Tryz.func84,Tryz.ntmps84;go_wp2_with fail;refine(I1.out _).mono ?_;rintro e1 w1 ⟨rfl,rfl⟩;go_wp2_with fail;refine(I2.out _).mono ?_;rintro e1 w1 ⟨rfl,rfl⟩;exact x018
 have HR:=qH (dc_go hm);have h1:¬(40:Int)<(l.length:Int):=by omega
 have I1:=qH (fun w=>refIn_t (n:=old) (a:=0) (b:=64) (by omega) w);have I2:=qH (fun w=>refIn_t (n:=size) (a:=0) (b:=64) (by omega) w);have h1:0<=old:=by omega
 have h1:old<=64:=by omega
 have h1:0<=size:=by omega
 have h1:size<=64:=by omega
 have h1:l.length<=40:=by omega
 clear hm;go_enter Tryz.func84,Tryz.ntmps84;go_wp2_with fail;refine(I1.out _).mono ?_;rintro e5 w3 ⟨rfl,rfl⟩;go_wp2_with fail;refine(I2.out _).mono ?_;rintro e5 w3 ⟨rfl,rfl⟩;go_wp2_with fail;go_loopw [26,7] (fun i s wr=>∃(k:Nat) (z:Int),k<=l.length∧i=.int .i64 k∧s=.int .i64 (size-z)∧0<=z∧z<=size∧Hid (ScAt old l size k z)∧Hid (Below w.heap.size w wr)) (fun i _ _=>l.length-(intOf i).toNat)
 case atStart=>exact⟨0,size,Nat.zero_le _,rfl,by simp,by omega,by omega,qH (by unfold ScAt;rw[List.drop_zero]),qH (Below.refl _ _)⟩
 case round=>
  obtain⟨k,z,hk,rfl,rfl,hz2,hz1,HS,HB⟩:=hrel;by_cases hlt:k<l.length
  ·obtain⟨b,o,B,cc,rfl,hs,hc3,hc1,hc2,hd1,hd2,-,hi2,hi1⟩:=(hr.stays HB.out).at_ hlt;have HH:=qH (HS.out.here hlt);have hsz:=HB.out.size;clear HS;unfold I64 at hi2 hi1;obtain⟨i1,i01⟩:=hi2;obtain⟨i1,i2⟩:=hi1;generalize hx:l[k]=x at *
   clear hx;obtain⟨at_,len,data⟩:=x;dsimp only at *
   have hdl:0<=(data.length:Int):=by omega
   by_cases hf:(⟨at_,len,data⟩:Stp).form
   ·by_cases hin:(⟨at_,len,data⟩:Stp).in_ old
    ·have hn:(⟨at_,len,data⟩:Stp).n=len+data.length:=rfl;have hin':=hin;unfold Stp.in_ at hin';dsimp only at hin';obtain⟨j1,j2,j3⟩:=hin';have hf':=hf;unfold Stp.form at hf';dsimp only at hf';have t1:¬len<0:=by omega
     have t2:¬at_<0:=by omega
     have t3:¬64<len:=by omega
     have t4:¬64<at_:=by omega
     have t5:¬old<at_+len:=by omega
     have w1:IntKind.i64.wrap (at_+len)=at_+len:=IntWalk.i64_in _ (by omega);by_cases hzn:z<len+data.length
     ·have HE:=qH (HH.out.symm.trans (sc_many hf hin (by rw[hn];exact hzn)));clear hf hin hn HH;by_cases e1:len=0
      ·obtain⟨rfl,e2,e3⟩:=hf'.1 e1;subst e1;have e1:1<=data.length:=by rcases data with _|⟨y,d⟩;exact absurd rfl e2;simp
       have I1:=qH (fun w=>refIn_t (n:=(data.length:Int)) (a:=1) (b:=64) (by omega) w);have w2:IntKind.i64.wrap ((size-z)+(data.length:Int))=(size-z)+(data.length:Int):=IntWalk.i64_in _ (by omega);have t6:size<(size-z)+(data.length:Int):=by omega
       clear hf' e2 w1 t1 t2 t3 t4 t5;go_wp2_with fail;refine(I1.out _).mono ?_;rintro e1 w1 ⟨rfl,rfl⟩;exact x1gl
      have e2:=hf'.2 e1;subst e2;have q1:(len==0)=false:=by simp[e1]
      have q1:(len !=0)=true:=by simp[e1]
      clear hf' e1;simp only[List.length_nil,Int.ofNat_eq_natCast,Int.natCast_zero,Int.add_zero]at *
      have w1:IntKind.i64.wrap ((size-z)+len)=(size-z)+len:=IntWalk.i64_in _ (by omega);have t1:size<(size-z)+len:=by omega
      exact x1gl
     have HE:=qH ((sc_on hf hin (by rw[hn];exact hzn)).symm.trans HH.out);clear hf hin HH;rw[hn]at HE;clear hn;by_cases e1:len=0
     ·obtain⟨rfl,e2,e3⟩:=hf'.1 e1;subst e1;have e1:1<=data.length:=by rcases data with _|⟨y,d⟩;exact absurd rfl e2;simp
      have I1:=qH (fun w=>refIn_t (n:=(data.length:Int)) (a:=1) (b:=64) (by omega) w);have w2:IntKind.i64.wrap ((size-z)+(data.length:Int))=(size-z)+(data.length:Int):=IntWalk.i64_in _ (by omega);have t6:¬size<(size-z)+(data.length:Int):=by omega
      clear hf' e2 w1 t1 t2 t3 t4 t5;go_wp2_with fail;refine(I1.out _).mono ?_;rintro e1 w1 ⟨rfl,rfl⟩;go_wp2_with fail;go_roundw
      case rel=>exact⟨k+1,z-(0+data.length),by omega,by go_num,by go_num,by omega,by omega,HE,qH (HB.out.alloc hsz _)⟩
      case measure=>simp[intOf];omega
     have e2:=hf'.2 e1;subst e2;have q1:(len==0)=false:=by simp[e1]
     have q1:(len !=0)=true:=by simp[e1]
     clear hf' e1;have HE1:Hid (ScAt old l size (k+1) (z-len)):=by
      have:=HE.out;refine qH ?_;simpa[ScAt]using this
     clear HE;simp only[List.length_nil,Int.ofNat_eq_natCast,Int.natCast_zero,Int.add_zero]at *
     have w1:IntKind.i64.wrap ((size-z)+len)=(size-z)+len:=IntWalk.i64_in _ (by omega);have t1:¬size<(size-z)+len:=by omega
     go_wp2_with fail;go_roundw
     case rel=>exact⟨k+1,z-len,by omega,by go_num,by go_num,by omega,by omega,HE1,qH (HB.out.alloc hsz _)⟩
     case measure=>simp[intOf];omega
    ·have HE:=qH (HH.out.symm.trans (sc_range hf hin));have hf':=hf;unfold Stp.form at hf';dsimp only at hf';have hin':=hin;unfold Stp.in_ at hin';dsimp only at hin';clear hf hin HH;have e1:len≠0:=by
      intro e2;obtain⟨e1,_,_⟩:=hf'.1 e2;omega
     have e2:=hf'.2 e1;subst e2;have q1:(len==0)=false:=by simp[e1]
     have q1:(len !=0)=true:=by simp[e1]
     clear hf' e1;simp only[List.length_nil,Int.ofNat_eq_natCast,Int.natCast_zero,Int.add_zero]at *
     have HI:=qH hin';clear hin';by_cases r1:len<0
     ·exact x1gl
     by_cases r1:at_<0
     ·exact x1gl
     by_cases r1:64<len
     ·exact x1gl
     by_cases r1:64<at_
     ·exact x1gl
     have w1:IntKind.i64.wrap (at_+len)=at_+len:=IntWalk.i64_in _ (by omega);have r1:old<at_+len:=by have:=HI.out;omega
     exact x1gl
   have HE:=qH (HH.out.symm.trans (sc_form hf));have hf':=hf;unfold Stp.form at hf';dsimp only at hf';clear hf HH;by_cases e3:len=0
   ·subst e3;by_cases e1:at_=0
    ·subst e1;have I1:Hid (∀w,Calls Tryz.prog 44 #[iv (data.length:Int),iv 1,iv 64] w (Ret w (.bool false))):=qH (fun w=>by
      by_cases e1:data=[]
      ·subst e1;exact refIn_f (Or.inl (by decide)) w
      refine refIn_f (Or.inr ?_) w;exact x614)
     clear hf';go_wp2_with fail;refine(I1.out _).mono ?_;rintro e1 w1 ⟨rfl,rfl⟩;exact x1gl
    have q1:(at_ !=0)=true:=by simp[e1]
    clear hf' e1;exact x1gl
   have e1:data≠[]:=fun e=>hf' ⟨fun h=>absurd h e3,fun _=>e⟩;have e2:1<=data.length:=by rcases data with _|⟨y,d⟩;exact absurd rfl e1;simp
   have q1:(len==0)=false:=by simp[e3]
   have q1:(len !=0)=true:=by simp[e3]
   have q1:((data.length:Int) !=0)=true:=by simp;omega
   clear hf' e3 e1;exact x1gl
  obtain rfl:k=l.length:=by omega
  have HE:Hid (stepsCheck old l size=if z=0 then 0 else 3):=by
   exact x017
  clear HS;by_cases e:z=0
  ·have HF:=qH (HE.out.trans (if_pos e));subst e;exact x5ag
  have HF:=qH (HE.out.trans (if_neg e));have q:size-z<size:=by omega
  clear e;exact x5ag
theorem x40u(h:Y:=by
 go_wp2_with fail;go_ret;exact⟨ret_int hz.out.symm,HB.out⟩):Y:=h
theorem refPatCheckA_calls(A:OA)(c:Nat)(f t o n sz:Int)(l:List Stp)(w:World)(hl:l.length<=3518437208780)(hs:Sps w A l):
  Calls Tryz.prog 59 #[.agg #[iv f,iv t,iv o,iv n,iv sz,.slice A l.length c]] w (RetB w (iv (patCheck ⟨f,t,o,n,sz,l⟩))):=by
 have hb:Below w.heap.size w (w.alloc (.cells #[iv f,iv t,iv o,iv n,iv sz,.slice A l.length c] 36)):=(Below.refl _ _).alloc (Nat.le_refl _) _;have HB:=qH hb;have HC:=qH (refCheck_calls A c l 64 sz _ hl (hs.stays hb));clear hb hs;by_cases h4:¬((1:Int)<=f∧f<=30)
 ·have hz:=qH (patCheck_bad (p:=⟨f,t,o,n,sz,l⟩) (by unfold Pat.range;dsimp only;omega));have I1:=qH (fun w=>refIn_f (n:=f) (a:=1) (b:=30) (by omega) w);clear HC h4;go_enter Tryz.func59,Tryz.ntmps59;go_wp2_with fail;refine(I1.out _).mono ?_;rintro e1 w1 ⟨rfl,rfl⟩;exact x40u
 have h4:=Decidable.not_not.1 h4;have I4:=qH (fun w=>refIn_t (n:=f) (a:=1) (b:=30) h4 w);by_cases h1:¬((1:Int)<=t∧t<=30)
 ·have hz:=qH (patCheck_bad (p:=⟨f,t,o,n,sz,l⟩) (by unfold Pat.range;dsimp only;omega));have I1:=qH (fun w=>refIn_f (n:=t) (a:=1) (b:=30) (by omega) w);clear HC h1;go_enter Tryz.func59,Tryz.ntmps59;go_wp2_with fail;refine(I4.out _).mono ?_;rintro e2 w2 ⟨rfl,rfl⟩;go_wp2_with fail;refine(I1.out _).mono ?_;rintro e1 w1 ⟨rfl,rfl⟩;exact x40u
 have h1:=Decidable.not_not.1 h1;have I1:=qH (fun w=>refIn_t (n:=t) (a:=1) (b:=30) h1 w);by_cases h2:¬((0:Int)<=o∧o<=65535)
 ·have hz:=qH (patCheck_bad (p:=⟨f,t,o,n,sz,l⟩) (by unfold Pat.range;dsimp only;omega));have I2:=qH (fun w=>refIn_f (n:=o) (a:=0) (b:=65535) (by omega) w);clear HC h2;go_enter Tryz.func59,Tryz.ntmps59;go_wp2_with fail;refine(I4.out _).mono ?_;rintro e3 w3 ⟨rfl,rfl⟩;go_wp2_with fail;refine(I1.out _).mono ?_;rintro e1 w1 ⟨rfl,rfl⟩;go_wp2_with fail;refine(I2.out _).mono ?_;rintro e1 w1 ⟨rfl,rfl⟩;exact x40u
 have h2:=Decidable.not_not.1 h2;have I2:=qH (fun w=>refIn_t (n:=o) (a:=0) (b:=65535) h2 w);by_cases h3:¬((0:Int)<=n∧n<=65535)
 ·have hz:=qH (patCheck_bad (p:=⟨f,t,o,n,sz,l⟩) (by unfold Pat.range;dsimp only;omega));have I3:=qH (fun w=>refIn_f (n:=n) (a:=0) (b:=65535) (by omega) w);clear HC h3;go_enter Tryz.func59,Tryz.ntmps59;go_wp2_with fail;refine(I4.out _).mono ?_;rintro e4 w4 ⟨rfl,rfl⟩;go_wp2_with fail;refine(I1.out _).mono ?_;rintro e1 w1 ⟨rfl,rfl⟩;go_wp2_with fail;refine(I2.out _).mono ?_;rintro e1 w1 ⟨rfl,rfl⟩;go_wp2_with fail;refine(I3.out _).mono ?_;rintro e1 w1 ⟨rfl,rfl⟩;exact x40u
 have h3:=Decidable.not_not.1 h3;have I3:=qH (fun w=>refIn_t (n:=n) (a:=0) (b:=65535) h3 w);have hz:=qH (patCheck_in (p:=⟨f,t,o,n,sz,l⟩) (by unfold Pat.range;dsimp only;omega));clear h4 h1 h2 h3;go_enter Tryz.func59,Tryz.ntmps59;go_wp2_with fail;refine(I4.out _).mono ?_;rintro e4 w4 ⟨rfl,rfl⟩;go_wp2_with fail;refine(I1.out _).mono ?_;rintro e1 w1 ⟨rfl,rfl⟩;go_wp2_with fail;refine(I2.out _).mono ?_;rintro e1 w1 ⟨rfl,rfl⟩;go_wp2_with fail;refine(I3.out _).mono ?_;rintro e1 w1 ⟨rfl,rfl⟩;exact x3ef
section
variable (A:OA) (c:Nat) (l:LU) (w:World)
theorem refSumOn_calls(s:Int)(hs:0<=s)(hs':s<=65520)(hl:l.length<=140737488355328)(hr:Bts w A l):
  Calls Tryz.prog 85 #[iv s,.slice A l.length c] w (Ret w (iv (sumOn s l))):=by
 go_enter Tryz.func85,Tryz.ntmps85
 go_wp2
 go_loop [5,6,7] (fun p n i=>∃k:Nat,k<=l.length∧i=.int .i64 ((k:Int)-1)∧p=.int .i64 (pw (l.length-k))∧n=.int .i64 (sumOn 0 (l.drop k))) (fun _ _ i=>(intOf i+1).toNat)
 case atStart=>exact⟨l.length,Nat.le_refl _,rfl,by simp[pw],by simp[sumOn]⟩
 case round=>
  obtain⟨k,hk,rfl,rfl,rfl⟩:=hrel;have hb:=sumOn_bd 0 (l.drop k) (by omega);have hp:=pw_bd (l.length-k);by_cases hlt:0<k
  ·obtain⟨j,rfl⟩:∃j,k=j+1:=⟨k-1,by omega⟩;obtain⟨b,o,rfl,hbs,hc⟩:=hr j (by omega);have hx:=l[j].toNat_lt;have hj:((j:Int)+1-1).toNat=j:=by omega
   have HS:Hid (sumOn 0 (l.drop j)=(sumOn 0 (l.drop (j+1))+(l[j].toNat:Int)*pw (l.length-(j+1)))%65521):=sumOn_drop l j (by omega);have HP:Hid (pw (l.length-j)=pw (l.length-(j+1))*31%65521):=by
    have:=pw_succ (l.length-(j+1));rwa [show l.length-(j+1)+1=l.length-j by omega]at this
   have hm:0<=(l[j].toNat:Int)*pw (l.length-(j+1)):=Int.mul_nonneg (by omega) hp.1;have hm1:(l[j].toNat:Int)*pw (l.length-(j+1))<=256*65520:=Int.mul_le_mul (by omega) hp.2 hp.1 (by omega)
   go_wp2
   go_round
   case rel=>exact⟨j,by omega,rfl,by rw[HP.out],by rw[HS.out]⟩
   case measure=>simp[intOf]
  obtain rfl:k=0:=by omega
  have HF:=qH (sumOn_ref s l (by omega));have hm:0<=s*pw l.length:=Int.mul_nonneg hs (pw_bd _).1;have hm1:s*pw l.length<=65520*65520:=Int.mul_le_mul hs' (pw_bd _).2 (pw_bd _).1 (by omega);simp only[Nat.sub_zero,List.drop_zero]at hb hp⊢
  go_wp2
  go_ret;exact⟨ret_int (by rw[HF.out]),rfl⟩
theorem refSumOf_calls(hl:l.length<=140737488355328)(hr:Bts w A l):
  Calls Tryz.prog 60 #[.slice A l.length c] w (Ret w (iv (sumOn 1 l))):=by
 go_enter Tryz.func60,Tryz.ntmps60;go_wp2_with (go_at_call 85;refine(refSumOn_calls A c l _ 1 (by omega) (by omega) hl hr).mono ?_;rintro e w' ⟨rfl,rfl⟩);go_ret;exact⟨rfl,rfl⟩
end
theorem refApplied_bad(A:OA)(c:Nat)(old:LU)(B:OA)(d:Nat)(l:List Stp)(size:Int)(w:World)(ho:old.length<=140737488351232)(hl:l.length<=3518437208780)(hr:Sps w B l)(h:deltaCheck l old.length size≠0):
  Calls Tryz.prog 61 #[.slice A old.length c,.slice B l.length d,iv size] w (RetB w (.tuple #[.slice none 0 0,iv (deltaCheck l old.length size)])):=by
 have hb:(deltaCheck l old.length size !=0)=true:=by simp[h]
 clear h;go_enter Tryz.func61,Tryz.ntmps61;go_wp2_with fail;refine(refCheck_calls B d l old.length size w hl hr).mono ?_;rintro e w1 ⟨rfl,hb1⟩;go_wp2_with fail;go_ret2;exact⟨rfl,hb1⟩
theorem refApplied_ok(A:OA)(c:Nat)(old:LU)(B:OA)(d:Nat)(l:List Stp)(size:Int)(w:World)(hc:old.length<=c)(hA:Bts w A old)(hl:l.length<=3518437208780)(hr:Sps w B l)(h:deltaCheck l old.length size=0):
  Calls Tryz.prog 61 #[.slice A old.length c,.slice B l.length d,iv size] w (ByRet2 w (applied old l) 0):=by
 have hd:=deltaCheck_ok.1 h;have hcc:=refCheck_calls B d l old.length size w hl hr;rw[h]at hcc;have HC:=qH hcc;have HD:=qH hd;have HOLD:=qH hA;have HSP:=qH hr;have ho1:=hd.o1;have hm:=hd.many;clear hcc h hd hA hr;go_enter Tryz.func61,Tryz.ntmps61;go_wp2_with fail;refine HC.out.mono ?_;rintro e w1 ⟨rfl,hb1⟩;have HB1:=qH hb1;have HO1:Hid (Own w1 w.heap.size 5 1 none 0 0 (([]:List UInt8).map bv)):=qH (Own.nil_ _ _ _ _);clear hb1 HC;go_wp2_with fail;generalize hbase:w.heap.size=base at *
 have HBE:=qH hbase;clear hbase;go_loopw [9,23] (fun v i wr=>∃(k:Nat) (C:OA) (cc:Nat) (pre:LU),k<=l.length∧i=.int .i64 k∧v=.slice C pre.length cc∧Hid (pre=applied old (l.take k))∧Hid (Own wr base 5 1 C pre.length cc (pre.map bv))∧Hid (Below base w wr)) (fun _ i _=>l.length-(intOf i).toNat)
 case atStart=>exact⟨0,none,0,[],Nat.zero_le _,rfl,rfl,qH rfl,HO1,HB1⟩
 case round=>
  clear HO1 HB1;rename World=>wo;obtain⟨k,C,cc,pre,hk,rfl,rfl,HPRE,HO,HB⟩:=hrel;by_cases hlt:k<l.length
  ·have hxo:=HD.out.each l[k] (List.getElem_mem hlt);have hsum:(applied old (l.take (k+1))).length<=64:=by
    have h1:=(HD.out.take (k+1)).2.2.2;have h2:=applied_len (old:=old) (l:=l.take (k+1)) (fun o ho=>(HD.out.each o (List.mem_of_mem_take ho)).2);have h3:=HD.out.s1;omega
   obtain⟨sb,so,D,dc,rfl,hsb,p6,p1,p2,p3,p4,p5,-,-⟩:=(HSP.out.stays (HBE.out▸HB.out)).at_ hlt;have hnext:applied old (l.take (k+1))=pre++l[k].piece old:=by rw[List.take_succ_eq_append_getElem hlt,applied_append,applied_one,<-HPRE.out]
   rw[hnext]at hsum;obtain⟨x,hx⟩:∃x,l[k]=x:=⟨_,rfl⟩;rw[hx]at hxo hnext hsum p6 p1 p2 p3 p4 p5;clear hx;obtain⟨at_,len,data⟩:=x;obtain⟨hform,hin⟩:=hxo;unfold Stp.in_ at hin;dsimp only at *
   obtain⟨j1,j2,j3⟩:=hin;obtain⟨a,rfl⟩:=Int.eq_ofNat_of_zero_le j2;obtain⟨n,rfl⟩:=Int.eq_ofNat_of_zero_le j1;have hpiece:(⟨(a:Int),(n:Int),data⟩:Stp).piece old=(old.drop a).take n++data:=rfl;rw[hpiece]at hnext hsum;have hone:pre++data++(old.drop a).take n=pre++((old.drop a).take n++data):=by
    by_cases e:n=0
    ·subst e;simp
    have:=hform.2 (by simp;omega);simp at this;rw[this];simp
   rw[<-hone]at hnext hsum;have hnl:((old.drop a).take n).length=n:=by simp;omega
   have hsum1:pre.length+data.length+n<=64:=by rw[List.length_append,List.length_append,hnl]at hsum;exact hsum
   have HNX:=qH hnext;clear hnext hsum hform hone hpiece;have dl:decide ((k:Int)<(l.length:Int))=true:=decide_eq_true (by omega);have hsw:base<=wo.heap.size:=Nat.le_trans (Nat.le_of_eq HBE.out.symm) HB.out.size;have hba:Below wo.heap.size wo (wo.alloc (.cells #[iv (a:Int),iv (n:Int),.slice D data.length dc] 122)):=(Below.refl _ _).alloc (Nat.le_refl _) _;have hoa:=HO.out.alloc (.cells #[iv (a:Int),iv (n:Int),.slice D data.length dc] 122);have hs1:=(p5.stays hba).src;have hl1:(data.map bv).length=data.length*1:=by simp
   have hob:pre.length+data.length<=137438953472:=by omega
   have hle:base<=(wo.alloc (.cells #[iv (a:Int),iv (n:Int),.slice D data.length dc] 122)).heap.size:=by simp;omega
   have hgC:∀q,C.map (·.block)=some q->q<wo.heap.size:=fun q e=>(HO.out.block q e).2;have hg1:(wo.alloc (.cells #[iv (a:Int),iv (n:Int),.slice D data.length dc] 122)).heap[wo.heap.size]?=some (.cells #[iv (a:Int),iv (n:Int),.slice D data.length dc] 122 (0,0)):=blk_top rfl;go_wp2_with (at_builtin;go_must (refine wpList_app (wo.alloc (.cells #[iv (a:Int),iv (n:Int),.slice D data.length dc] 122)) rfl _ _ 23 rfl elBytes base C pre.length cc (pre.map bv) rfl hoa D data.length dc (data.map bv) rfl hs1 hl1 (bv_one _) hob hle ?_;intro C1 c1 w2 hown hgr hbel hor);(have hg2:=(hgr.block wo.heap.size (by simp) (fun e=>by have:=hgC _ e.symm;omega)).trans hg1);(have q1:w2.cell? ⟨wo.heap.size,1,none⟩=some (iv (n:Int)):=by rw[cell_of_row _ _ _ _ _ _ hg2];rfl));have HG1:=qH hg2;have HB1:Hid (Below base w w2):=qH ((HB.out.trans (hba.mono hsw)).trans hbel);have HO2:Hid (Own w2 base 5 1 C1 (pre++data).length c1 ((pre++data).map bv)):=qH (by simpa using hown);have HC1:Hid (∀q,C1.map (·.block)=some q->q≠wo.heap.size):=qH (fun q e=>by
    rcases hor with h|h
    ·rw[h]at e;have:=hgC q e;omega
    rw[h]at e;injection e with e;simp at e;omega)
   clear hown hgr hbel hor hs1 hl1 hob hle hgC hg1 hg2 hoa hba p6 p1 p2 p3 p4 p5;generalize hg:wo.heap.size=g at *
   have HGO:Hid (wo.heap.size=g):=qH hg;clear hg;have e1:(pre++data).length=pre.length+data.length:=by simp
   go_loopw [9,33] (fun v i wr=>∃(j:Nat) (C:OA) (cc:Nat) (o1:LU),j<=n∧i=.int .i64 (j:Int)∧v=.slice C o1.length cc∧Hid (o1=pre++data++(old.drop a).take j)∧Hid (o1.length=pre.length+data.length+j)∧Hid (Own wr base 5 1 C o1.length cc (o1.map bv))∧Hid (∀q,C.map (·.block)=some q->q≠g)∧Hid (wr.heap[g]?=some (.cells #[iv (a:Int),iv (n:Int),.slice D data.length dc] 122 (0,0)))∧Hid (Below base w wr)) (fun _ i _=>n-(intOf i).toNat)
   case atStart=>exact⟨0,C1,c1,pre++data,Nat.zero_le _,rfl,by rw[e1],qH (by simp),qH (by simp),HO2,HC1,HG1,HB1⟩
   case round=>
    clear HO2 HC1 HG1 HB1 q1;rename World=>wi;obtain⟨j,C2,c2,o1,hj,rfl,rfl,HO1,HO1L,HOW,HCG,HG,HB1⟩:=hrel;have ho1l:o1.length<=64:=by have:=HO1L.out;omega
    by_cases hjn:j<n
    ·have haj:a+j<old.length:=by omega
     obtain⟨ab,ao,rfl,hab,hxc⟩:=(HOLD.out.stays (HBE.out▸HB1.out)) (a+j) haj;have HO1':Hid (o1++[old[a+j]]=pre++data++(old.drop a).take (j+1)):=qH (by
      have hjl:j<(old.drop a).length:=by simp;omega
      rw[List.take_succ_eq_append_getElem hjl,HO1.out];simp)
     have q1:wi.cell? ⟨g,0,none⟩=some (iv (a:Int)):=by rw[cell_of_row _ _ _ _ _ _ HG.out];rfl
     have dl:decide ((j:Int)<(n:Int))=true:=decide_eq_true (by omega);have hw1:IntKind.i64.wrap ((a:Int)+(j:Int))=(a:Int)+(j:Int):=IntWalk.i64_in _ (by omega);have hw2:IntKind.i64.wrap ((j:Int)+1)=(j:Int)+1:=IntWalk.i64_in _ (by omega);have hsi:base<=wi.heap.size:=Nat.le_trans (Nat.le_of_eq HBE.out.symm) HB1.out.size;have hoa:=HOW.out.alloc (.cells #[bv old[a+j]] 5);have hs1:Src (wi.alloc (.cells #[bv old[a+j]] 5)) (some ⟨wi.heap.size,0,none⟩) [bv old[a+j]]:=src_blk (blk_top rfl);have hob:o1.length+1<=137438953472:=by omega
     have hle:base<=(wi.alloc (.cells #[bv old[a+j]] 5)).heap.size:=by simp;omega
     go_wp2_with (at_builtin;go_must (refine wpList_app (wi.alloc (.cells #[bv old[a+j]] 5)) rfl _ _ 23 rfl elBytes base C2 o1.length c2 (o1.map bv) rfl hoa (some ⟨wi.heap.size,0,none⟩) 1 1 [bv old[a+j]] rfl hs1 rfl (by simp[Value.oneCell']) hob hle ?_;intro C3 c3 w3 hown hgr hbel hor));have hgl:g<wi.heap.size:=blk_lt HG.out;have HG1:Hid (w3.heap[g]?=some (.cells #[iv (a:Int),iv (n:Int),.slice D data.length dc] 122 (0,0))):=qH ((hgr.block g (by simp;omega) (fun e=>HCG.out g e.symm rfl)).trans ((Below.heap_alloc wi _ g hgl).trans HG.out));have HB2:Hid (Below base w w3):=qH ((HB1.out.alloc hsi _).trans hbel);have HO2:Hid (Own w3 base 5 1 C3 (o1++[old[a+j]]).length c3 ((o1++[old[a+j]]).map bv)):=qH (by simpa using hown);have HC1:Hid (∀q,C3.map (·.block)=some q->q≠g):=qH (fun q e=>by
      rcases hor with h|h
      ·rw[h]at e;exact HCG.out q e
      rw[h]at e;injection e with e;simp at e;omega)
     have HL1:Hid (o1.length+1=(o1++[old[a+j]]).length):=qH (by simp);clear hown hgr hbel hor hs1 hob hle hoa q1 hxc;go_roundw
     case rel=>exact⟨j+1,C3,c3,o1++[old[a+j]],by omega,by go_num,by rw[HL1.out],HO1',qH (by rw[<-HL1.out,HO1L.out];omega),HO2,HC1,HG1,HB2⟩
     case measure=>simp[intOf];omega
    obtain rfl:j=n:=by omega
    have dl:decide ((j:Int)<(j:Int))=false:=by simp
    have hwk:IntKind.i64.wrap ((k:Int)+1)=(k:Int)+1:=IntWalk.i64_in _ (by omega);go_wp2_with fail;go_roundw
    case rel=>exact⟨k+1,C2,c2,o1,by omega,by go_num,rfl,qH (by rw[HNX.out,HO1.out]),HOW,HB1⟩
    case measure=>simp[intOf];omega
  obtain rfl:k=l.length:=by omega
  have dl:decide ((l.length:Int)<(l.length:Int))=false:=by simp
  have hpre:pre=applied old l:=by rw[HPRE.out,List.take_length]
  have HP:=qH hpre;clear hpre HPRE;go_wp2_with fail;go_ret2;exact⟨C,cc,by rw[<-HP.out];rfl,by rw[<-HP.out];exact HO.out.src.bts,by rw[<-HP.out];exact HO.out.le,HBE.out▸HB.out⟩
theorem refApplyAny_calls(A:OA)(c:Nat)(old:LU)(B:OA)(d:Nat)(l:List Stp)(size:Int)(w:World)(hc:old.length<=c)(ho:old.length<=140737488351232)(hA:Bts w A old)(hl:l.length<=3518437208780)(hr:Sps w B l):
  Calls Tryz.prog 61 #[.slice A old.length c,.slice B l.length d,iv size] w (ByRet2 w (axOf old l size).1 (axOf old l size).2):=by
 unfold axOf;by_cases h:deltaCheck l old.length size=0
 ·rw[if_neg (by simpa using h)];exact refApplied_ok A c old B d l size w hc hA hl hr h
 rw[if_pos h];exact(refApplied_bad A c old B d l size w ho hl hr h).mono fun _ _=>byRet2_nil
theorem conv_str(A:OA)(c:Nat)(l:LU)(w:World)(hc:l.length<=c)(h:Bts w A l):(convert 23 9 (.slice A l.length c)).run Tryz.prog w=.ok (.string ⟨l.toArray⟩) w:=by
 by_cases e:l=[]
 ·subst e
  cases A with
  |none=>exact run_convert_bytes_nil (P:=Tryz.prog) w 23 5 Tryz.underlying23 Tryz.underlying5 0 c 9 Tryz.underlying9
  |some a=>exact run_convert_bytes_back (P:=Tryz.prog) w 23 9 5 a c [] Tryz.underlying23 Tryz.underlying5 Tryz.underlying9 (fun j hj=>by simp at hj)
 obtain⟨b,o,rfl,-,-⟩:=h 0 (by rcases l with _|⟨x,l⟩;exact absurd rfl e;simp);refine run_convert_bytes_back (P:=Tryz.prog) w 23 9 5 ⟨b,o,none⟩ c l Tryz.underlying23 Tryz.underlying5 Tryz.underlying9 (fun j hj=>?_);obtain⟨b',o',e,-,hc⟩:=h j hj;injection e with e;injection e with e1 e2;subst e1 e2;rw[show (⟨b,o,none⟩:Addr).add j=⟨b,o+j,none⟩ by simp[Addr.add]];exact hc
theorem bytesEqual_calls(A B:OA)(c d:Nat)(l m:LU)(w:World)(hc:l.length<=c)(hd:m.length<=d)(ha:Bts w A l)(hb:Bts w B m):
  Calls Tryz.prog 9 #[.slice A l.length c,.slice B m.length d] w (Ret w (.bool (decide (l=m)))):=by
 have k1:=conv_str A c l w hc ha;have k1:=conv_str B d m w hd hb;go_enter Tryz.func9,Tryz.ntmps9;go_wp2_with fail;go_ret;exact⟨ret_bool (by by_cases e:l=m<;>simp[e]),rfl⟩
theorem refSame_calls(A B:OA)(c d:Nat)(l m:List Stp)(w:World)(hl:l.length<=3518437208780)(hm:m.length<=3518437208780)(ha:Sps w A l)(hb:Sps w B m):
  Calls Tryz.prog 72 #[.slice A l.length c,.slice B m.length d] w (RetB w (.bool (decide (l=m)))):=by
 by_cases hne:l.length=m.length
 ·have hdl:((l.length:Int) !=(m.length:Int))=false:=by simp[hne]
  have HE:=qH hne;have hm1:l.length<=m.length:=by omega
  have hm1:m.length<=l.length:=by omega
  clear hne;have HA:=qH ha;have HB2:=qH hb;clear ha hb;go_enter Tryz.func72,Tryz.ntmps72;go_wp2_with fail;go_loopw [14] (fun i wr=>∃k:Nat,k<=l.length∧i=.int .i64 k∧Hid (l.take k=m.take k)∧Hid (Below w.heap.size w wr)) (fun i _=>l.length-(intOf i).toNat)
  case atStart=>exact⟨0,Nat.zero_le _,rfl,qH rfl,qH (Below.refl _ _)⟩
  case round=>
   obtain⟨k,hk,rfl,HT,HB⟩:=hrel;by_cases hlt:k<l.length
   ·obtain⟨b1,o1,B1,c1,rfl,hs1,p6,p1,p2,p3,p4,p5,-,-⟩:=(HA.out.stays HB.out).at_ hlt;have hsz:=HB.out.size;have hbx:Below wr.heap.size wr (wr.alloc (.cells #[iv l[k].at_,iv l[k].len,.slice B1 l[k].data.length c1] 122)):=(Below.refl _ _).alloc (Nat.le_refl _) _;obtain⟨b1,o1,B2,c2,rfl,hs2,r6,r1,r2,r3,r4,r5,-,-⟩:=((HB2.out.stays HB.out).stays hbx).at_ (i:=k) (by omega);obtain⟨b2,o1,B3,c3,e1,hs3,-⟩:=(HB2.out.stays HB.out).at_ (i:=k) (by omega);injection e1 with e1;injection e1 with e4 e5;subst e4 e5;have HBX:=qH (HB.out.trans (hbx.mono hsz));have HX:Hid (l[k]=m[k]'(by omega)->l.take (k+1)=m.take (k+1)):=qH fun e=>take_eq_succ HT.out hlt (by omega) e;have HN:Hid (l[k]≠m[k]'(by omega)->l≠m):=qH fun e=>ne_of_at hlt (by omega) e;have p5x:=p5.stays hbx;generalize l[k]=x at *
    generalize m[k]'(by omega)=y at *
    obtain⟨xa,xl,xd⟩:=x;obtain⟨ya,yl,yd⟩:=y;dsimp only at *
    clear p5 hbx HA HB2;have hkm:k<m.length:=by omega
    have hsx:wr.heap.size<=(wr.alloc (.cells #[iv xa,iv xl,.slice B1 xd.length c1] 122)).heap.size:=by simp
    obtain⟨v1,hv1⟩:∃v,(xa !=ya)=v:=⟨_,rfl⟩;obtain⟨v2,hv2⟩:∃v,(xl !=yl)=v:=⟨_,rfl⟩;obtain⟨v3,hv3⟩:∃v,decide (xd=yd)=v:=⟨_,rfl⟩;have HV:Hid ((v1 || v2 || !v3)=decide ((⟨xa,xl,xd⟩:Stp)≠⟨ya,yl,yd⟩)):=qH (by
     rw[<-hv1,<-hv2,<-hv3];by_cases h1:xa=ya<;>by_cases h2:xl=yl<;>by_cases h3:xd=yd<;>simp[h1,h2,h3])
    go_upto_region 6 with fail
    have q3:(wr.alloc (.cells #[iv xa,iv xl,.slice B1 xd.length c1] 122)).cell? ⟨wr.heap.size,0,none⟩=some (iv xa):=by go_simp
    have q1:(wr.alloc (.cells #[iv xa,iv xl,.slice B1 xd.length c1] 122)).cell? ⟨wr.heap.size,1,none⟩=some (iv xl):=by go_simp
    have q2:(wr.alloc (.cells #[iv xa,iv xl,.slice B1 xd.length c1] 122)).cell? ⟨wr.heap.size,2,none⟩=some (.slice B1 xd.length c1):=by go_simp
    have hs3:wr.heap.size<(wr.alloc (.cells #[iv xa,iv xl,.slice B1 xd.length c1] 122)).heap.size:=by simp
    have hb1:b1<(wr.alloc (.cells #[iv xa,iv xl,.slice B1 xd.length c1] 122)).heap.size:=by simp;omega
    obtain⟨W1,hw1⟩:∃W1,(wr.alloc (.cells #[iv xa,iv xl,.slice B1 xd.length c1] 122))=W1:=⟨_,rfl⟩;rw[hw1]at HBX p5x r5 r6 r1 r2 q3 q1 q2 hs3 hb1⊢;clear hw1 hs2 hs1 p6 p1 p2;go_cut [47] (fun v wx=>v=.bool (v1 || v2 || !v3)∧Hid (Below W1.heap.size W1 wx))
    case first=>
     have HQ:=qH (fun n=>bytesEqual_calls B1 B2 c1 c2 xd yd (W1.drewN n) p3 r3 (p5x.drewN n) (r5.drewN n));rw[hv3]at HQ;have hk1:(k:Int)<(m.length:Int):=by omega
     clear hs3 hb1 HX HN HV p5x r5 hv3 p3 p4 r3 r4
     cases v1<;>cases v2<;>cases v3<;>(
      go_quiet ((go_at_call 9;exact Calls.quiet_of_same ((HQ.out _).mono fun _ _ h=>⟨h.1,h.2.symm⟩)))
      go_wp2_with fail;go_meet
      case rel=>exact⟨rfl,qH (below_drewN _ _)⟩)
    case rest=>
    obtain⟨rfl,hcb⟩:=hcut;have HB1:=qH (HBX.out.trans (hcb.out.mono HBX.out.size));clear q3 q1 q2 r6 r1 r2 HBX hcb hs3 hb1 hv1 hv2 hv3 p5x r5;by_cases hx:(⟨xa,xl,xd⟩:Stp)=⟨ya,yl,yd⟩
    ·have hv:(v1 || v2 || !v3)=false:=HV.out.trans (decide_eq_false (fun h=>h hx));have HX1:=qH (HX.out hx);rw[hv];clear hx HV HN HX;go_wp2_with fail;go_roundw
     case rel=>exact⟨k+1,by omega,by go_num,HX1,HB1⟩
     case measure=>simp[intOf];omega
    have hv:(v1 || v2 || !v3)=true:=HV.out.trans (decide_eq_true hx);have HN1:=qH (HN.out hx);rw[hv];clear hx HV HN HX;go_wp2_with fail;go_ret;exact⟨ret_bool (decide_eq_false HN1.out).symm,HB1.out⟩
   obtain rfl:k=l.length:=by omega
   have HL:Hid (l=m):=qH (by
    have:=HT.out;rwa [List.take_length,HE.out,List.take_length]at this)
   go_wp2_with fail;go_ret;exact⟨ret_bool (decide_eq_true HL.out).symm,HB.out⟩
 have hdl:((l.length:Int) !=(m.length:Int))=true:=by simp;omega
 have HE:Hid (l≠m):=qH fun e=>hne (by rw[e]);clear hne ha hb;go_enter Tryz.func72,Tryz.ntmps72;go_wp2_with fail;go_ret;exact⟨ret_bool (decide_eq_false HE.out).symm,Below.refl _ _⟩
theorem refPatSameA_calls(A B:OA)(c d:Nat)(f t o n sz f2 t2 o2 n2 sz2:Int)(l m:List Stp)(w:World)(hl:l.length<=3518437208780)(hm:m.length<=3518437208780)(hs:Sps w A l)(hr:Sps w B m):
  Calls Tryz.prog 48 #[.agg #[iv f,iv t,iv o,iv n,iv sz,.slice A l.length c],.agg #[iv f2,iv t2,iv o2,iv n2,iv sz2,.slice B m.length d]] w (RetB w (.bool (decide ((⟨f,t,o,n,sz,l⟩:Pat)=⟨f2,t2,o2,n2,sz2,m⟩)))):=by
 have hb:Below w.heap.size w ((w.alloc (.cells #[iv f,iv t,iv o,iv n,iv sz,.slice A l.length c] 36)).alloc (.cells #[iv f2,iv t2,iv o2,iv n2,iv sz2,.slice B m.length d] 36)):=((Below.refl _ _).alloc (Nat.le_refl _) _).alloc (by simp) _;obtain⟨r,hR⟩:∃r,decide ((⟨f,t,o,n,sz,l⟩:Pat)=⟨f2,t2,o2,n2,sz2,m⟩)=r:=⟨_,rfl⟩;rw[hR];have HR:=qH hR;clear hR;have HB:=qH hb;have HC:=qH (refSame_calls A B c d l m _ hl hm (hs.stays hb) (hr.stays hb));clear hb hs hr;by_cases h5:¬f=f2
 ·have hz:false=r:=(decide_eq_false (fun e=>by injection e;contradiction)).symm.trans HR.out;have HZ:=qH hz;have q:(f==f2)=false:=by simp[h5]
  clear HC hz h5;go_enter Tryz.func48,Tryz.ntmps48;exact x6wb
 have h5:=Decidable.not_not.1 h5;subst h5;have q5:(f==f)=true:=by simp
 by_cases h1:¬t=t2
 ·have hz:false=r:=(decide_eq_false (fun e=>by injection e;contradiction)).symm.trans HR.out;have HZ:=qH hz;have q:(t==t2)=false:=by simp[h1]
  clear HC hz h1;go_enter Tryz.func48,Tryz.ntmps48;exact x6wb
 have h1:=Decidable.not_not.1 h1;subst h1;have q1:(t==t)=true:=by simp
 by_cases h1:¬o=o2
 ·have hz:false=r:=(decide_eq_false (fun e=>by injection e;contradiction)).symm.trans HR.out;have HZ:=qH hz;have q:(o==o2)=false:=by simp[h1]
  clear HC hz h1;go_enter Tryz.func48,Tryz.ntmps48;exact x6wb
 have h1:=Decidable.not_not.1 h1;subst h1;have q1:(o==o)=true:=by simp
 by_cases h1:¬n=n2
 ·have hz:false=r:=(decide_eq_false (fun e=>by injection e;contradiction)).symm.trans HR.out;have HZ:=qH hz;have q:(n==n2)=false:=by simp[h1]
  clear HC hz h1;go_enter Tryz.func48,Tryz.ntmps48;exact x6wb
 have h1:=Decidable.not_not.1 h1;subst h1;have q1:(n==n)=true:=by simp
 by_cases h1:¬sz=sz2
 ·have hz:false=r:=(decide_eq_false (fun e=>by injection e;contradiction)).symm.trans HR.out;have HZ:=qH hz;have q:(sz==sz2)=false:=by simp[h1]
  clear HC hz h1;go_enter Tryz.func48,Tryz.ntmps48;exact x6wb
 have h1:=Decidable.not_not.1 h1;subst h1;have q1:(sz==sz)=true:=by simp
 have hz:decide (l=m)=r:=by
  exact x0f0
 have HZ:=qH hz;clear hz;go_enter Tryz.func48,Tryz.ntmps48;exact x483
theorem elRowsB:El Tryz.prog 22 23 1 5864062014805:=⟨Tryz.underlying22,by
 obtain⟨i,h⟩:=info_parts (P:=Tryz.prog) (e:=23) (z:=.slice none 0 0) (size:=1) (bytes:=24) (by kernel_rfl);exact⟨i,_,h.1,h.2.1,h.2.2.1,by omega,rfl⟩,by omega⟩
theorem cloneRows_calls(A:OA)(n c:Nat)(cs:List Value)(w:World)(hl:cs.length=n*1)(hn0:n<=5864062014805)(hr:Src w A cs)(h1:∀u∈cs,u.oneCell'=true):
  Calls Tryz.prog 74 #[.slice A n c] w (SlRet w 23 1 n cs):=by
 rcases A with _|ad
 ·have h1:cs.length=0:=by
   exact x5fs
  obtain rfl:n=0:=by omega
  obtain rfl:cs=[]:=List.eq_nil_of_length_eq_zero h1;have hn:=fun (wx:World) (a:OA) (n c n' c':Nat)=>Lib.run_eql_slice_nil (P:=Tryz.prog) wx 22 23 a n c n' c' Tryz.underlying22;clear h1 hl;go_enter Tryz.func74,Tryz.ntmps74;exact x4d9
 have hn:=fun (wx:World) (a:OA) (n c n' c':Nat)=>Lib.run_eql_slice_nil (P:=Tryz.prog) wx 22 23 a n c n' c' Tryz.underlying22;have ho:Own (w.alloc (.cells #[] 23)) w.heap.size 23 1 (some ⟨w.heap.size,0,none⟩) 0 0 []:=own_zero w _ _;have hs:=hr.stays ((Below.refl w.heap.size w).alloc (Nat.le_refl _) (.cells #[] 23));have hb1:0+n<=5864062014805:=by omega
 have hb2:w.heap.size<=(w.alloc (.cells #[] 23)).heap.size:=by simp
 have HL:=qH hl;clear hl;go_enter Tryz.func74,Tryz.ntmps74;go_wp2_with (at_builtin;refine wpList_app _ rfl _ _ 22 rfl elRowsB w.heap.size (some ⟨w.heap.size,0,none⟩) 0 0 [] rfl ho (some ad) n c cs rfl hs HL.out h1 hb1 hb2 ?_;intro A' c' w1 hown hg hb hx);exact x6v2
theorem elChunksB:El Tryz.prog 33 56 5 2513169434916:=⟨Tryz.underlying33,by
 obtain⟨i,h⟩:=info_parts (P:=Tryz.prog) (e:=56) (z:=.agg #[.int .i64 0,.int .i64 0,.int .i64 0,.int .i64 0,.slice none 0 0]) (size:=5) (bytes:=56) (by kernel_rfl);exact⟨i,_,h.1,h.2.1,h.2.2.1,by omega,rfl⟩,by omega⟩
section
open Go.RowKit
end
section
open Go.RowKit
end
section
open Go.RowKit
end
theorem cloneOps_calls(A:OA)(n c:Nat)(cs:List Value)(w:World)(hl:cs.length=n*3)(hn0:n<=3518437208883)(hr:Src w A cs)(h1:∀u∈cs,u.oneCell'=true):
  Calls Tryz.prog 105 #[.slice A n c] w (SlRet w 122 3 n cs):=by
 rcases A with _|ad
 ·have h1:cs.length=0:=by
   exact x5fs
  obtain rfl:n=0:=by omega
  obtain rfl:cs=[]:=List.eq_nil_of_length_eq_zero h1;have hn:=fun (wx:World) (a:OA) (n c n' c':Nat)=>Lib.run_eql_slice_nil (P:=Tryz.prog) wx 34 122 a n c n' c' Tryz.underlying34;clear h1 hl;go_enter Tryz.func105,Tryz.ntmps105;exact x4d9
 have hn:=fun (wx:World) (a:OA) (n c n' c':Nat)=>Lib.run_eql_slice_nil (P:=Tryz.prog) wx 34 122 a n c n' c' Tryz.underlying34;have ho:Own (w.alloc (.cells #[] 122)) w.heap.size 122 3 (some ⟨w.heap.size,0,none⟩) 0 0 []:=own_zero w _ _;have hs:=hr.stays ((Below.refl w.heap.size w).alloc (Nat.le_refl _) (.cells #[] 122));have hb1:0+n<=3518437208883:=by omega
 have hb2:w.heap.size<=(w.alloc (.cells #[] 122)).heap.size:=by simp
 have HL:=qH hl;clear hl;go_enter Tryz.func105,Tryz.ntmps105;go_wp2_with (at_builtin;refine wpList_app _ rfl _ _ 34 rfl elOpsB w.heap.size (some ⟨w.heap.size,0,none⟩) 0 0 [] rfl ho (some ad) n c cs rfl hs HL.out h1 hb1 hb2 ?_;intro A' c' w1 hown hg hb hx);exact x6v2
theorem cloneChunks_calls(A:OA)(n c:Nat)(cs:List Value)(w:World)(hl:cs.length=n*5)(hn0:n<=2513169434916)(hr:Src w A cs)(h1:∀u∈cs,u.oneCell'=true):
  Calls Tryz.prog 91 #[.slice A n c] w (SlRet w 56 5 n cs):=by
 rcases A with _|ad
 ·have h1:cs.length=0:=by
   exact x5fs
  obtain rfl:n=0:=by omega
  obtain rfl:cs=[]:=List.eq_nil_of_length_eq_zero h1;have hn:=fun (wx:World) (a:OA) (n c n' c':Nat)=>Lib.run_eql_slice_nil (P:=Tryz.prog) wx 33 56 a n c n' c' Tryz.underlying33;clear h1 hl;go_enter Tryz.func91,Tryz.ntmps91;exact x4d9
 have hn:=fun (wx:World) (a:OA) (n c n' c':Nat)=>Lib.run_eql_slice_nil (P:=Tryz.prog) wx 33 56 a n c n' c' Tryz.underlying33;have ho:Own (w.alloc (.cells #[] 56)) w.heap.size 56 5 (some ⟨w.heap.size,0,none⟩) 0 0 []:=own_zero w _ _;have hs:=hr.stays ((Below.refl w.heap.size w).alloc (Nat.le_refl _) (.cells #[] 56));have hb1:0+n<=2513169434916:=by omega
 have hb2:w.heap.size<=(w.alloc (.cells #[] 56)).heap.size:=by simp
 have HL:=qH hl;clear hl;go_enter Tryz.func91,Tryz.ntmps91;go_wp2_with (at_builtin;refine wpList_app _ rfl _ _ 33 rfl elChunksB w.heap.size (some ⟨w.heap.size,0,none⟩) 0 0 [] rfl ho (some ad) n c cs rfl hs HL.out h1 hb1 hb2 ?_;intro A' c' w1 hown hg hb hx);exact x6v2
theorem elErrs:El Tryz.prog 68 41 1:=⟨Tryz.underlying68,by
 obtain⟨i,h⟩:=info_parts (P:=Tryz.prog) (e:=41) (z:=.int .i64 0) (size:=1) (bytes:=8) (by kernel_rfl);exact⟨i,_,h.1,h.2.1,h.2.2.1,by omega,rfl⟩,by omega⟩
end Go.Proofs.YtefkfglkpebbmadGreat
