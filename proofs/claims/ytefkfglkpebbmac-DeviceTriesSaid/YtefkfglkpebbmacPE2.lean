/- Walks of functions, and plain words. No conditions. -/
import Derived.Test.YtefkfglkpebbmacPE1
import Derived.RangeFuncNested
import Derived.RangeFuncBound
import Derived.RangeFuncCalls
import Derived.RangeFuncLeaves
import Derived.RangeFuncBox
import Derived.Shelf.Abstract
import Derived.Shelf.RegionOpen
import Derived.OwnWalkIn
import Derived.TacticsInMore
import Derived.LoopNIn
import Derived.LoopIn
set_option linter.unusedVariables false
set_option linter.unusedSimpArgs false
set_option maxRecDepth 100000
set_option maxHeartbeats 40000000
namespace Go.Proofs.Ytefkfglkpebbmac
open Go.RowKit
variable {Y:Prop}
variable {w:World} {base c k go gp d q:Nat} {A B:OA} {b plain old:LU} {out:List Stp} {ds:List (Option Addr×Nat)} {x y:Stp}
theorem x018(h:Y:=by
 go_wp2_with fail;go_ret;exact⟨ret_int HR.out.symm,Below.refl _ _⟩):Y:=h
theorem refCheck_calls(A:OA)(c:Nat)(l:List Stp)(old size:Int)(w:World)(hl:l.length<=3518437208780)(hr:Sps w A l):
  Calls Try.prog 20 #[.slice A l.length c,iv old,iv size] w (RetB w (iv (deltaCheck l old size))):=by
 by_cases hm:40<l.length∨old<0∨64<old∨size<0∨64<size
 ·have HR:=qH (dc_many hm);by_cases h1:40<l.length
  ·have h1':(40:Int)<(l.length:Int):=by omega
   clear hm h1;go_enter Try.func20,Try.ntmps20;exact x018
  have h1':¬(40:Int)<(l.length:Int):=by omega
  by_cases h2:old<0∨64<old
  ·have I1:=qH (fun w=>refIn_f (a:=0) (b:=64) h2 w);clear hm h1 h2;go_enter Try.func20,Try.ntmps20;go_wp2_with fail;refine(I1.out _).mono ?_;rintro e1 w1 ⟨rfl,rfl⟩;exact x018
  have I1:=qH (fun w=>refIn_t (n:=old) (a:=0) (b:=64) (by omega) w);have I2:=qH (fun w=>refIn_f (n:=size) (a:=0) (b:=64) (by omega) w);clear hm h1 h2;go_enter Try.func20,Try.ntmps20;go_wp2_with fail;refine(I1.out _).mono ?_;rintro e1 w1 ⟨rfl,rfl⟩;go_wp2_with fail;refine(I2.out _).mono ?_;rintro e1 w1 ⟨rfl,rfl⟩;exact x018
 have HR:=qH (dc_go hm);have h1:¬(40:Int)<(l.length:Int):=by omega
 have I1:=qH (fun w=>refIn_t (n:=old) (a:=0) (b:=64) (by omega) w);have I2:=qH (fun w=>refIn_t (n:=size) (a:=0) (b:=64) (by omega) w);have h1:0<=old:=by omega
 have h1:old<=64:=by omega
 have h1:0<=size:=by omega
 have h1:size<=64:=by omega
 have h1:l.length<=40:=by omega
 clear hm;go_enter Try.func20,Try.ntmps20;go_wp2_with fail;refine(I1.out _).mono ?_;rintro e5 w3 ⟨rfl,rfl⟩;go_wp2_with fail;refine(I2.out _).mono ?_;rintro e5 w3 ⟨rfl,rfl⟩;go_wp2_with fail;go_loopw [26,7] (fun i s wr=>∃(k:Nat) (z:Int),k<=l.length∧i=.int .i64 k∧s=.int .i64 (size-z)∧0<=z∧z<=size∧Hid (ScAt old l size k z)∧Hid (Below w.heap.size w wr)) (fun i _ _=>l.length-(intOf i).toNat)
 case atStart=>exact⟨0,size,Nat.zero_le _,rfl,by simp,by omega,by omega,qH (by unfold ScAt;rw[List.drop_zero]),qH (Below.refl _ _)⟩
 case round=>
  obtain⟨k,z,hk,rfl,rfl,hz2,hz1,HS,HB⟩:=hrel;by_cases hlt:k<l.length
  ·obtain⟨b,o,B,cc,rfl,hs,hc3,hc1,hc2,hd1,hd2,-,hi2,hi1⟩:=(hr.stays HB.out).at_ hlt;have HH:=qH (HS.out.here hlt);have hsz:=HB.out.size;clear HS;unfold I64 at hi2 hi1;obtain⟨i1,i01⟩:=hi2;obtain⟨i1,i2⟩:=hi1;generalize hx:l[k]=x at *
   clear hx;obtain⟨at_,len,data⟩:=x;dsimp only at *
   have hdl:0<=(data.length:Int):=by omega
   by_cases hf:(⟨at_,len,data⟩:Stp).form
   ·by_cases hin:(⟨at_,len,data⟩:Stp).in_ old
    ·have hn:(⟨at_,len,data⟩:Stp).n=len+data.length:=rfl;have hin':=hin;unfold Stp.in_ at hin';dsimp only at hin';obtain⟨j1,j2,j3⟩:=hin';have hf':=hf;unfold Stp.form at hf';dsimp only at hf';have t1:¬len<0:=by omega
     have t2:¬at_<0:=by omega
     have t3:¬64<len:=by omega
     have t4:¬64<at_:=by omega
     have t5:¬old<at_+len:=by omega
     have w1:IntKind.i64.wrap (at_+len)=at_+len:=IntWalk.i64_in _ (by omega);by_cases hzn:z<len+data.length
     ·have HE:=qH (HH.out.symm.trans (sc_many hf hin (by rw[hn];exact hzn)));clear hf hin hn HH;by_cases e1:len=0
      ·obtain⟨rfl,e2,e3⟩:=hf'.1 e1;subst e1;have e1:1<=data.length:=by rcases data with _|⟨y,d⟩;exact absurd rfl e2;simp
       have I1:=qH (fun w=>refIn_t (n:=(data.length:Int)) (a:=1) (b:=64) (by omega) w);have w2:IntKind.i64.wrap ((size-z)+(data.length:Int))=(size-z)+(data.length:Int):=IntWalk.i64_in _ (by omega);have t6:size<(size-z)+(data.length:Int):=by omega
       clear hf' e2 w1 t1 t2 t3 t4 t5;go_wp2_with fail;refine(I1.out _).mono ?_;rintro e1 w1 ⟨rfl,rfl⟩;exact x1gl
      have e2:=hf'.2 e1;subst e2;have q1:(len==0)=false:=by simp[e1]
      have q1:(len !=0)=true:=by simp[e1]
      clear hf' e1;simp only[List.length_nil,Int.ofNat_eq_natCast,Int.natCast_zero,Int.add_zero]at *
      have w1:IntKind.i64.wrap ((size-z)+len)=(size-z)+len:=IntWalk.i64_in _ (by omega);have t1:size<(size-z)+len:=by omega
      exact x1gl
     have HE:=qH ((sc_on hf hin (by rw[hn];exact hzn)).symm.trans HH.out);clear hf hin HH;rw[hn]at HE;clear hn;by_cases e1:len=0
     ·obtain⟨rfl,e2,e3⟩:=hf'.1 e1;subst e1;have e1:1<=data.length:=by rcases data with _|⟨y,d⟩;exact absurd rfl e2;simp
      have I1:=qH (fun w=>refIn_t (n:=(data.length:Int)) (a:=1) (b:=64) (by omega) w);have w2:IntKind.i64.wrap ((size-z)+(data.length:Int))=(size-z)+(data.length:Int):=IntWalk.i64_in _ (by omega);have t6:¬size<(size-z)+(data.length:Int):=by omega
      clear hf' e2 w1 t1 t2 t3 t4 t5;go_wp2_with fail;refine(I1.out _).mono ?_;rintro e1 w1 ⟨rfl,rfl⟩;go_wp2_with fail;go_roundw
      case rel=>exact⟨k+1,z-(0+data.length),by omega,by go_num,by go_num,by omega,by omega,HE,qH (HB.out.alloc hsz _)⟩
      case measure=>simp[intOf];omega
     have e2:=hf'.2 e1;subst e2;have q1:(len==0)=false:=by simp[e1]
     have q1:(len !=0)=true:=by simp[e1]
     clear hf' e1;have HE1:Hid (ScAt old l size (k+1) (z-len)):=by
      have:=HE.out;refine qH ?_;simpa[ScAt]using this
     clear HE;simp only[List.length_nil,Int.ofNat_eq_natCast,Int.natCast_zero,Int.add_zero]at *
     have w1:IntKind.i64.wrap ((size-z)+len)=(size-z)+len:=IntWalk.i64_in _ (by omega);have t1:¬size<(size-z)+len:=by omega
     go_wp2_with fail;go_roundw
     case rel=>exact⟨k+1,z-len,by omega,by go_num,by go_num,by omega,by omega,HE1,qH (HB.out.alloc hsz _)⟩
     case measure=>simp[intOf];omega
    ·have HE:=qH (HH.out.symm.trans (sc_range hf hin));have hf':=hf;unfold Stp.form at hf';dsimp only at hf';have hin':=hin;unfold Stp.in_ at hin';dsimp only at hin';clear hf hin HH;have e1:len≠0:=by
      intro e2;obtain⟨e1,_,_⟩:=hf'.1 e2;omega
     have e2:=hf'.2 e1;subst e2;have q1:(len==0)=false:=by simp[e1]
     have q1:(len !=0)=true:=by simp[e1]
     clear hf' e1;simp only[List.length_nil,Int.ofNat_eq_natCast,Int.natCast_zero,Int.add_zero]at *
     have HI:=qH hin';clear hin';by_cases r1:len<0
     ·exact x1gl
     by_cases r1:at_<0
     ·exact x1gl
     by_cases r1:64<len
     ·exact x1gl
     by_cases r1:64<at_
     ·exact x1gl
     have w1:IntKind.i64.wrap (at_+len)=at_+len:=IntWalk.i64_in _ (by omega);have r1:old<at_+len:=by have:=HI.out;omega
     exact x1gl
   have HE:=qH (HH.out.symm.trans (sc_form hf));have hf':=hf;unfold Stp.form at hf';dsimp only at hf';clear hf HH;by_cases e3:len=0
   ·subst e3;by_cases e1:at_=0
    ·subst e1;have I1:Hid (∀w,Calls Try.prog 91 #[iv (data.length:Int),iv 1,iv 64] w (Ret w (.bool false))):=qH (fun w=>by
      by_cases e1:data=[]
      ·subst e1;exact refIn_f (Or.inl (by decide)) w
      refine refIn_f (Or.inr ?_) w;exact x614)
     clear hf';go_wp2_with fail;refine(I1.out _).mono ?_;rintro e1 w1 ⟨rfl,rfl⟩;exact x1gl
    have q1:(at_ !=0)=true:=by simp[e1]
    clear hf' e1;exact x1gl
   have e1:data≠[]:=fun e=>hf' ⟨fun h=>absurd h e3,fun _=>e⟩;have e2:1<=data.length:=by rcases data with _|⟨y,d⟩;exact absurd rfl e1;simp
   have q1:(len==0)=false:=by simp[e3]
   have q1:(len !=0)=true:=by simp[e3]
   have q1:((data.length:Int) !=0)=true:=by simp;omega
   clear hf' e3 e1;exact x1gl
  obtain rfl:k=l.length:=by omega
  have HE:Hid (stepsCheck old l size=if z=0 then 0 else 3):=by
   exact x017
  clear HS;by_cases e:z=0
  ·have HF:=qH (HE.out.trans (if_pos e));subst e;exact x5ag
  have HF:=qH (HE.out.trans (if_neg e));have q:size-z<size:=by omega
  clear e;exact x5ag
theorem x40u(h:Y:=by
 go_wp2_with fail;go_ret;exact⟨ret_int hz.out.symm,HB.out⟩):Y:=h
theorem refPatCheckA_calls(A:OA)(c:Nat)(f t o n sz:Int)(l:List Stp)(w:World)(hl:l.length<=3518437208780)(hs:Sps w A l):
  Calls Try.prog 30 #[.agg #[iv f,iv t,iv o,iv n,iv sz,.slice A l.length c]] w (RetB w (iv (patCheck ⟨f,t,o,n,sz,l⟩))):=by
 have hb:Below w.heap.size w (w.alloc (.cells #[iv f,iv t,iv o,iv n,iv sz,.slice A l.length c] 35)):=(Below.refl _ _).alloc (Nat.le_refl _) _;have HB:=qH hb;have HC:=qH (refCheck_calls A c l 64 sz _ hl (hs.stays hb));clear hb hs;by_cases h4:¬((1:Int)<=f∧f<=30)
 ·have hz:=qH (patCheck_bad (p:=⟨f,t,o,n,sz,l⟩) (by unfold Pat.range;dsimp only;omega));have I1:=qH (fun w=>refIn_f (n:=f) (a:=1) (b:=30) (by omega) w);clear HC h4;go_enter Try.func30,Try.ntmps30;go_wp2_with fail;refine(I1.out _).mono ?_;rintro e1 w1 ⟨rfl,rfl⟩;exact x40u
 have h4:=Decidable.not_not.1 h4;have I4:=qH (fun w=>refIn_t (n:=f) (a:=1) (b:=30) h4 w);by_cases h1:¬((1:Int)<=t∧t<=30)
 ·have hz:=qH (patCheck_bad (p:=⟨f,t,o,n,sz,l⟩) (by unfold Pat.range;dsimp only;omega));have I1:=qH (fun w=>refIn_f (n:=t) (a:=1) (b:=30) (by omega) w);clear HC h1;go_enter Try.func30,Try.ntmps30;go_wp2_with fail;refine(I4.out _).mono ?_;rintro e2 w2 ⟨rfl,rfl⟩;go_wp2_with fail;refine(I1.out _).mono ?_;rintro e1 w1 ⟨rfl,rfl⟩;exact x40u
 have h1:=Decidable.not_not.1 h1;have I1:=qH (fun w=>refIn_t (n:=t) (a:=1) (b:=30) h1 w);by_cases h2:¬((0:Int)<=o∧o<=65535)
 ·have hz:=qH (patCheck_bad (p:=⟨f,t,o,n,sz,l⟩) (by unfold Pat.range;dsimp only;omega));have I2:=qH (fun w=>refIn_f (n:=o) (a:=0) (b:=65535) (by omega) w);clear HC h2;go_enter Try.func30,Try.ntmps30;go_wp2_with fail;refine(I4.out _).mono ?_;rintro e3 w3 ⟨rfl,rfl⟩;go_wp2_with fail;refine(I1.out _).mono ?_;rintro e1 w1 ⟨rfl,rfl⟩;go_wp2_with fail;refine(I2.out _).mono ?_;rintro e1 w1 ⟨rfl,rfl⟩;exact x40u
 have h2:=Decidable.not_not.1 h2;have I2:=qH (fun w=>refIn_t (n:=o) (a:=0) (b:=65535) h2 w);by_cases h3:¬((0:Int)<=n∧n<=65535)
 ·have hz:=qH (patCheck_bad (p:=⟨f,t,o,n,sz,l⟩) (by unfold Pat.range;dsimp only;omega));have I3:=qH (fun w=>refIn_f (n:=n) (a:=0) (b:=65535) (by omega) w);clear HC h3;go_enter Try.func30,Try.ntmps30;go_wp2_with fail;refine(I4.out _).mono ?_;rintro e4 w4 ⟨rfl,rfl⟩;go_wp2_with fail;refine(I1.out _).mono ?_;rintro e1 w1 ⟨rfl,rfl⟩;go_wp2_with fail;refine(I2.out _).mono ?_;rintro e1 w1 ⟨rfl,rfl⟩;go_wp2_with fail;refine(I3.out _).mono ?_;rintro e1 w1 ⟨rfl,rfl⟩;exact x40u
 have h3:=Decidable.not_not.1 h3;have I3:=qH (fun w=>refIn_t (n:=n) (a:=0) (b:=65535) h3 w);have hz:=qH (patCheck_in (p:=⟨f,t,o,n,sz,l⟩) (by unfold Pat.range;dsimp only;omega));clear h4 h1 h2 h3;go_enter Try.func30,Try.ntmps30;go_wp2_with fail;refine(I4.out _).mono ?_;rintro e4 w4 ⟨rfl,rfl⟩;go_wp2_with fail;refine(I1.out _).mono ?_;rintro e1 w1 ⟨rfl,rfl⟩;go_wp2_with fail;refine(I2.out _).mono ?_;rintro e1 w1 ⟨rfl,rfl⟩;go_wp2_with fail;refine(I3.out _).mono ?_;rintro e1 w1 ⟨rfl,rfl⟩;exact x3ef
theorem x1bo(h:Y:=by
 intro A' c' w' hown hgr hbel hor;exact⟨_,rfl,bxJ_app hown hgr hbel hor hle⟩):Y:=h
theorem x21e(h:Y:=by
 go_wp2_with fail;go_quiet (fail)
 go_wp2_with fail;go_roundw
 case rel=>exact⟨m+1,_,by go_num,by omega,by omega,rfl⟩
 case measure=>simp[intOf];omega):Y:=h
theorem x859(h:Y:=by
 obtain rfl:wq=wx.drew:=hJ;exact wp_sb1 e1 ⟨_,rfl,rfl,by simp⟩):Y:=h
theorem x87r(h:Y:=by
 obtain rfl:k1=0:=by omega
 obtain rfl:wq=wx.drew:=hJ;have hx:=HXC.out;go_simp):Y:=h
theorem x9sq(h:Y:=by
 rcases hor with h|h
 ·exact .inl h
 exact .inr (fun k hk=>by rw[h]at hk;injection hk with hk;simp at hk;omega)):Y:=h
def bxJ(w0:World)(base:Nat)(A:OA)(n c:Nat)(xs ns:List Value)(ib ia:Nat)(F:World->Prop):Nat->(Nat->Value)->World->Prop
 |0,_,w=>w=w0.drew
 |1,cv,w=>w=w0.drew.alloc (.cells ns.toArray 5)∧cv ib=.slice (some ⟨w0.heap.size,0,none⟩) ns.length ns.length
 |2,cv,w=>∃A' c',cv ia=.slice A' (n+ns.length) c'∧Own w base 5 1 A' (n+ns.length) c' (xs++ns)∧Below base w0 w∧(∀k,k<w0.heap.size->A.map (·.block)≠some k->w.heap[k]?=w0.heap[k]?)∧(A'.map (·.block)=A.map (·.block)∨∀k,A'.map (·.block)=some k->w0.heap.size<=k)
 |_,_,w=>F w
theorem bxJ_box{w0:World}{g:Nat}{n:Nat}{xs ns:List Value}{ib ia:Nat}{F:World->Prop}{cv:Nat->Value}{T:TypeId}{v:Value}(hk:k<=1)(hJ:bxJ w0 base A n c xs ns ib ia F k cv w)(h:Box w0 g T v):Box w g T v:=by
 match k,hk,hJ with
 |0,_,hJ=>obtain rfl:w=w0.drew:=hJ;exact h
 |1,_,⟨hJ,_⟩=>subst hJ;exact h.drew.alloc _
theorem bxJ_app{w0 w':World}{A':OA}{n c':Nat}{xs ns:List Value}{ib ia:Nat}{F:World->Prop}{cv:Nat->Value}(hown:Own w' base 5 1 A' (n+ns.length) c' (xs++ns))(hgr:(w0.drew.alloc (.cells ns.toArray 5)).grownBy w' (A.map (·.block)))(hbel:Below base (w0.drew.alloc (.cells ns.toArray 5)) w')
  (hor:A'.map (·.block)=A.map (·.block)∨A'.map (·.block)=some (w0.drew.alloc (.cells ns.toArray 5)).heap.size) (hle:base<=w0.heap.size):
  bxJ w0 base A n c xs ns ib ia F 2 (fun j=>if j=ia then .slice A' (n+ns.length) c' else cv j) w':=by
 have hb1:Below base w0 (w0.drew.alloc (.cells ns.toArray 5)):=((Below.refl _ _).drew).alloc hle _;refine⟨A',c',by simp,hown,hb1.trans hbel,fun k hk hn=>(hgr.block k (by simp;omega) (fun e=>hn e.symm)).trans ((Below.heap_alloc w0.drew _ k hk)),?_⟩;exact x9sq
theorem alike_stop(hk:k<b.length):1<=alike (b.drop k)∧alike (b.drop k)<=127∧k+alike (b.drop k)<=b.length∧(∀m,m<alike (b.drop k)->b[k+m]?=some b[k])∧
  (alike (b.drop k)=127∨(alike (b.drop k)<127∧k+alike (b.drop k)=b.length)∨(alike (b.drop k)<127∧∃h:k+alike (b.drop k)<b.length,b[k+alike (b.drop k)]≠b[k])):=by
 have e:b.drop k=b[k]::b.drop (k+1):=List.drop_eq_getElem_cons hk;have hle:=alike_le (b.drop k);rw[List.length_drop]at hle;have ea:alike (b.drop k)=cntEq b[k] (b.drop (k+1)) 126+1:=by rw[e];rfl
 have hat:=cntEq_at b[k] (b.drop (k+1)) 126;have hst:=cntEq_stop b[k] (b.drop (k+1)) 126;refine⟨by omega,hle.1,by omega,fun m hm=>?_,?_⟩
 ·rcases m with _|m
  ·simp[hk]
  ·have:=(hat m (by omega)).2;rw[List.getElem?_drop]at this;rw[show k+(m+1)=k+1+m by omega];exact this
 by_cases h1:alike (b.drop k)=127
 ·exact .inl h1
 by_cases h1:k+alike (b.drop k)=b.length
 ·exact .inr (.inl ⟨by omega,h1⟩)
 refine .inr (.inr ⟨by omega,by omega,fun e2=>?_⟩);have:=hst (by omega);rw[List.getElem?_drop,show k+1+cntEq b[k] (b.drop (k+1)) 126=k+alike (b.drop k) by omega,List.getElem?_eq_getElem (by omega),e2]at this;exact this rfl
theorem data_le(old:LU):∀(l:List Stp),∀o∈l,o.data.length<=(applied old l).length
 |[],_,h=>by cases h
 |x::l,o,h=>by
  rw[applied_cons,List.length_append];rcases List.mem_cons.1 h with rfl|h
  ·simp[Stp.piece];omega
  have:=data_le old l o h;omega
theorem snoc_of{α:Type}(l:List α)(h:l≠[]):∃m x,l=m++[x]:=⟨l.dropLast,l.getLast h,(List.dropLast_concat_getLast h).symm⟩
theorem addByte_len(l:List Stp)(x:UInt8):(addByte l x).length<=l.length+1:=by
 by_cases h:l=[]
 ·subst h;simp[addByte]
 obtain⟨m,o,rfl⟩:=snoc_of l h;rw[addByte_snoc];split<;>simp
theorem diffN_len(old b:LU):∀q,(diffN old b q).2.length<=q
 |0=>by simp[diffN]
 |q+1=>by
  have ih:=diffN_len old b q
  show (diffStep old b (diffN old b q)).2.length<=q+1;generalize diffN old b q=p at *
  unfold diffStep;split
  ·split
   ·simp only[List.length_append,List.length_cons,List.length_nil];omega
   ·have:=addByte_len p.2 (b.getD p.1 0)
    show (addByte p.2 (b.getD p.1 0)).length<=q+1;omega
  omega
theorem bts_win{b o:Nat}{l:LU}(h:Bts w (some ⟨b,o,none⟩) l)(k n:Nat):Bts w (some ⟨b,o+k,none⟩) (win l k n):=by
 intro i hi;have hl:i<n∧k+i<l.length:=by unfold win at hi;simp only[List.length_take,List.length_drop]at hi;omega
 obtain⟨b',o',e,hlt,hc⟩:=h (k+i) hl.2;injection e with e;injection e with e1 e2;subst e1 e2;refine⟨b,o+k,rfl,hlt,?_⟩;rw[Nat.add_assoc,hc];simp[win]
theorem refLongest_calls(A B:OA)(c d:Nat)(old b:LU)(w:World)(k:Nat)(hml:ML w)(hc:old.length<=c)(hd:b.length<=d)(hl:old.length<=64)(hm:b.length<=64)(hk:k<=b.length)(ha:Bts w A old)(hb:Bts w B b):
  Calls Try.prog 89 #[.slice A old.length c,.slice B b.length d,iv k] w (RetN w (.tuple #[iv (longest old b k).1,iv (longest old b k).2])):=by
 obtain⟨m0,hm3⟩:∃m0:Nat,min (old.length:Int) ((b.length:Int)-(k:Int))=m0:=⟨(min (old.length:Int) ((b.length:Int)-(k:Int))).toNat,by omega⟩;have hbd:=longTo_le old b k old.length (Nat.le_refl _);have hL1:(longest old b k).2<=m0:=by unfold longest;omega
 have HL1:=qH hL1;have HA:=qH ha;have HB:=qH hb;have HML:=qH hml;have hm1:m0<=old.length:=by omega
 have hm1:k+m0<=b.length:=by omega
 clear ha hb hml hL1 hbd;go_enter Try.func89,Try.ntmps89;go_wp2_with fail;go_loopw [8] (fun x wr=>∃(m nd:Nat),x=.int .i64 (m:Int)∧(longest old b k).2<=m∧m<=m0∧w.drewN nd=wr) (fun x _=>(intOf x).toNat)
 case atStart=>exact⟨m0,0,int_eq (by omega),HL1.out,Nat.le_refl _,rfl⟩
 case round=>
  obtain⟨m,nd,rfl,h1,h2,rfl⟩:=hrel;by_cases h2:0<m
  ·have d2:(0:Int)<(m:Int):=by omega
   have hA1:A≠none:=fun e=>by
    obtain⟨bb,bo,e1,_⟩:=HA.out 0 (by omega);rw[e]at e1;cases e1
   obtain⟨aa,rfl⟩:=Option.ne_none_iff_exists'.1 hA1;obtain⟨bb,bo,rfl,_⟩:=HB.out 0 (by omega);have hwl:=win_len b k m (by omega);have hck:¬d=k:=by omega
   have hix:=index_calls aa ⟨bb,bo+k,none⟩ c (d-k) old (win b k m) (w.drewN nd) (HML.out.drewN nd) hc (by omega) (by omega) (HA.out.drewN nd) ((bts_win HB.out k m).drewN nd);rw[hwl]at hix;have HIX:=qH hix;clear hix hA1 hwl;have j1:(k:Int)+m<=(d:Int):=by omega
   have j1:(k:Int)<=(k:Int)+m:=by omega
   go_wp2_with fail;refine HIX.out.mono ?_;rintro e w1 ⟨rfl,n1,rfl⟩;rcases Lib.index_spec old (win b k m)with ⟨e1,_⟩|⟨i,e1,_,_,_⟩
   ·have hlt:=index_lt (by omega) (by omega) e1;rw[e1];clear e1 HIX h1;go_wp2_with fail;go_roundw
    case rel=>exact⟨m-1,nd+n1,int_eq (by omega),by omega,by omega,by rw[<-World.drewN_drewN]⟩
    case measure=>simp[intOf];omega
   have his:=index_is (by omega) (by omega) e1 h1;rw[e1];have HIS:=qH his;clear his e1 HIX h1;have d1:(0:Int)<=(i:Int):=by omega
   go_wp2_with fail;go_ret2;exact⟨ret2 (by rw[HIS.out];rfl) (by rw[HIS.out];rfl),nd+n1,by rw[<-World.drewN_drewN]⟩
  obtain rfl:m=0:=by omega
  have hz:=longest_zero (old:=old) (b:=b) (k:=k) (by omega);have HZ:=qH hz;clear hz h1;go_wp2_with fail;go_ret2;exact⟨ret2 (by rw[HZ.out];rfl) (by rw[HZ.out];rfl),nd,rfl⟩
theorem x7dz(h:Y:=by
 go_enter Try.func16,Try.ntmps16;go_wp2_with fail;go_ret2;exact⟨rfl,Below.refl _ _⟩):Y:=h
def pend(plain:LU):List Stp:=if plain=[] then [] else [⟨0,0,plain⟩]
theorem pend_nil:pend []=[]:=rfl
theorem pend_one(h:plain≠[]):pend plain=[⟨0,0,plain⟩]:=by unfold pend;rw[if_neg h]
def lastLong(out:List Stp):Prop:=∀m o,out=m++[o]->0<o.len
theorem addByte_pend(x:UInt8)(h:lastLong out):addByte (out++pend plain) x=out++pend (plain++[x]):=by
 rw[pend_one (plain:=plain++[x]) (by simp)];by_cases e:plain=[]
 ·subst e;rw[pend_nil,List.append_nil];by_cases h1:out=[]
  ·subst h1;rfl
  obtain⟨m,o,rfl⟩:=snoc_of out h1;rw[addByte_snoc,if_pos (h m o rfl)];simp
 rw[pend_one e,addByte_snoc,if_neg (by simp)]
structure DfAt(w:World)(base go gp:Nat)(out:List Stp)(ds:List (Option Addr×Nat))(plain:LU)(A:OA)(c:Nat)(B:OA)(d:Nat):Prop where
 co:Box w go 23 (.slice A out.length c)
 cp:Box w gp 22 (.slice B plain.length d)
 oo:CRow w base out ds A c
 op:Own w base 5 1 B plain.length d (plain.map bv)
 ne:∀k,A.map (·.block)=some k->B.map (·.block)≠some k
 nd:∀(i:Nat) (e:Option Addr×Nat),ds[i]?=some e->∀k,e.1.map (·.block)=some k->base<=k∧B.map (·.block)≠some k
 lo:go<base
 lp:gp<base
 no:go<gp
 le:base<=w.heap.size
theorem DfAt.drewN(h:DfAt w base go gp out ds plain A c B d)(n:Nat):DfAt (w.drewN n) base go gp out ds plain A c B d:=
 ⟨h.co.drewN n,h.cp.drewN n,h.oo.drewN n,h.op.drewN n,h.ne,h.nd,h.lo,h.lp,h.no,h.le⟩
theorem DfAt.push{w2:World}{plain':LU}{A':OA}{c':Nat}{B':OA}{d':Nat}{o:Stp}{e:Option Addr×Nat}{ob:Obj}
  (h:DfAt w base go gp out ds plain A c B d) (hown:Own w2 base 117 3 A' (out.length+1) c' (opCells out ds++opCell o e)) (hgr:(w.alloc ob).grownBy w2 (A.map (·.block))) (hbel:Below base (w.alloc ob) w2)
  (hor:A'.map (·.block)=A.map (·.block)∨A'.map (·.block)=some (w.alloc ob).heap.size) (hd:Bts w e.1 o.data) (hd2:o.data.length<=e.2) (he:∀k,e.1.map (·.block)=some k->base<=k∧k<w.heap.size∧A.map (·.block)≠some k∧(B'.map (·.block)≠some k))
  (hpl:(plain'=plain∧B'=B∧d'=d)∨(plain'=[]∧B'=none∧d'=0)):
  ∃ds',CRow w2 base (out++[o]) ds' A' c'∧Own w2 base 5 1 B' plain'.length d' (plain'.map bv)∧(∀k,A'.map (·.block)=some k->B'.map (·.block)≠some k)∧(∀(i:Nat) (x:Option Addr×Nat),ds'[i]?=some x->∀k,x.1.map (·.block)=some k->base<=k∧B'.map (·.block)≠some k)∧base<=w2.heap.size∧
   Box w2 go 23 (.slice A out.length c)∧Box w2 gp 22 (.slice B plain.length d)∧Below base w w2:=by
 have hba:Below w.heap.size w (w.alloc ob):=(Below.refl _ _).alloc (Nat.le_refl _) _;have hrow:=(h.oo.below hba).push hown hgr hor (hd.stays hba) hd2 (fun k hk=>⟨(he k hk).2.2.1,by simp;have:=(he k hk).2.1;omega⟩);have hbw:Below base w w2:=(hba.mono h.le).trans hbel;refine⟨_,hrow,?_,?_,?_,Nat.le_trans h.le hbw.size,(h.co.alloc ob).keep hbel h.lo,(h.cp.alloc ob).keep hbel h.lp,hbw⟩
 ·rcases hpl with ⟨rfl,rfl,rfl⟩|⟨rfl,rfl,rfl⟩
  ·refine(h.op.alloc ob).kept hgr ?_
   cases hk:B'.map (·.block)with
   |none=>exact .inl rfl
   |some k=>exact .inr fun e2=>h.ne k e2.symm hk
  ·exact Own.nil_ _ _ _ _
 ·intro k hk;rcases hpl with ⟨rfl,rfl,rfl⟩|⟨rfl,rfl,rfl⟩
  ·rcases hor with hor|hor
   ·rw[hor]at hk;exact h.ne k hk
   ·rw[hor]at hk;injection hk with hk;intro e1;have:=(h.op.block k e1).2;simp at hk;omega
  simp
 intro i x hx k hk;rcases snoc_at hx with hx|⟨rfl,rfl⟩
 ·rcases hpl with ⟨rfl,rfl,rfl⟩|⟨rfl,rfl,rfl⟩
  ·exact h.nd i x hx k hk
  ·exact⟨(h.nd i x hx k hk).1,by simp⟩
 exact⟨(he k hk).1,(he k hk).2.2.2⟩
def DflRet(w:World)(base go gp:Nat)(l:List Stp):Ending->World->Prop:=fun e w'=>e=.returned (.tuple #[])∧∃ds' A' c',DfAt w' base go gp l ds' [] A' c' none 0∧Below go w w'
theorem dflush_calls(h:DfAt w base go gp out ds plain A c B d)(hl:plain.length<=64)(ho:out.length<=1000):
  Calls Try.prog 88 #[.pointer (some ⟨gp,0,none⟩),.pointer (some ⟨go,0,none⟩)] w (DflRet w base go gp (out++pend plain)):=by
 have H:=qH h;have c1:=h.co.cell;have c2:=h.cp.cell;have f1:=h.co.free;have f2:=h.cp.free;have hgo:go<w.heap.size:=h.co.lt;have hgp:gp<w.heap.size:=h.cp.lt;have h1:=h.lo;have h2:=h.lp;have h3:=h.no;clear h;by_cases hp:plain=[]
 ·subst hp;rw[pend_nil,List.append_nil];simp only[List.length_nil,Int.ofNat_eq_natCast,Int.natCast_zero]at *
  go_enter Try.func88,Try.ntmps88;go_wp2_with fail;refine bodyPost_end (results_none rfl _ _ _) rfl ⟨rfl,ds,A,c,⟨H.out.co.other (by show gp≠go;omega) _,H.out.cp.set _,H.out.oo.setOther (j:=0) ?_ ?_ _,Own.nil_ _ _ _ _,fun k hk e=>(by cases e),fun i e he k hk=>⟨(H.out.nd i e he k hk).1,by simp⟩,h1,h2,h3,by simpa using H.out.le⟩,(Below.refl _ _).setCell (p:=⟨gp,0,none⟩) (by show go<=gp;omega) _⟩
  ·exact own_far H.out.oo.row h2
  exact fun i e he e2=>by have:=(H.out.nd i e he gp e2).1;omega
 rw[pend_one hp];have hp1:1<=plain.length:=List.length_pos_iff.2 hp;have hp2:(0:Int)<(plain.length:Int):=by omega
 clear hp;have hoa:=H.out.oo.row.alloc (.cells #[.int .i64 0,.int .i64 0,.slice B plain.length d] 117);have hs1:Src (w.alloc (.cells #[.int .i64 0,.int .i64 0,.slice B plain.length d] 117)) (some ⟨w.heap.size,0,none⟩) [.int .i64 0,.int .i64 0,.slice B plain.length d]:=src_blk (blk_top rfl);have hob:out.length+1<=137438953472:=by omega
 have hle:base<=(w.alloc (.cells #[.int .i64 0,.int .i64 0,.slice B plain.length d] 117)).heap.size:=by have:=H.out.le;simp;omega
 go_enter Try.func88,Try.ntmps88;go_wp2_with (at_builtin;go_must (refine wpList_app (w.alloc (.cells #[.int .i64 0,.int .i64 0,.slice B plain.length d] 117)) rfl _ _ 23 rfl elOps base A out.length c (opCells out ds) rfl hoa (some ⟨w.heap.size,0,none⟩) 1 1 [.int .i64 0,.int .i64 0,.slice B plain.length d] rfl hs1 rfl (by simp[Value.oneCell']) hob hle ?_;intro A' c' w2 hown hgr hbel hor);(obtain⟨ds',r1,r2,r3,r4,r5,r6,r7,r8⟩:=H.out.push (o:=⟨0,0,plain⟩) (e:=(B,d)) (plain':=[]) (B':=none) (d':=0) hown hgr hbel hor H.out.op.src.bts H.out.op.le (fun k hk=>⟨(H.out.op.block k hk).1,(H.out.op.block k hk).2,fun e=>H.out.ne k e hk,by simp⟩) (.inr ⟨rfl,rfl,rfl⟩));(have R1:=qH r1);(have R4:=qH r4);(have R5:=qH r5);(have R6:=qH r6);(have R7:=qH r7);(have R8:=qH r8);(have q1:=r6.cell);(have q2:=r6.free);(have q3:=r7.cell);(have q4:=r7.free);(have q5:=r6.lt);(have q6:=r7.lt);(have q7:¬gp=go:=by omega);(clear hown hgr hbel hor r1 r2 r3 r4 r5 r6 r7 r8 hoa hs1 hob hle c1 c2 f1 f2));have s1:CRow (w2.setCell ⟨go,0,none⟩ (.slice A' (out.length+1) c')) base (out++[⟨0,0,plain⟩]) ds' A' c':=R1.out.setOther (j:=0) (own_far R1.out.row h1) (fun i e he e2=>by have:=(R4.out i e he go e2).1;omega) _;have s2:=s1.setOther (j:=0) (own_far s1.row h2) (fun i e he e2=>by have:=(R4.out i e he gp e2).1;omega) (.slice none 0 0);have e1:(out++[(⟨0,0,plain⟩:Stp)]).length=out.length+1:=by simp
 exact bodyPost_end (results_none rfl _ _ _) rfl ⟨rfl,ds',A',c',⟨by rw[e1];exact(R6.out.set _).other (by show gp≠go;omega) _,(R7.out.other (by show go≠gp;omega) _).set _,s2,Own.nil_ _ _ _ _,fun k hk e=>(by cases e),fun i e he k hk=>⟨(R4.out i e he k hk).1,by simp⟩,h1,h2,h3,by simpa using R5.out⟩,((R8.out.mono (Nat.le_of_lt h1)).setCell (p:=⟨go,0,none⟩) (Nat.le_refl _) _).setCell (p:=⟨gp,0,none⟩) (by show go<=gp;omega) _⟩
theorem lastLong_nil:lastLong []:=fun m o e=>by simp at e
theorem lastLong_snoc(l:List Stp){o:Stp}(h:0<o.len):lastLong (l++[o]):=fun m p e=>by
 have:=List.append_inj' e rfl;obtain⟨_,e1⟩:=this;injection e1 with e1;rw[<-e1];exact h
theorem diffN_succ(old b:LU)(q:Nat):diffN old b (q+1)=diffStep old b (diffN old b q):=rfl
structure DfPt(old b:LU)(q k:Nat)(out:List Stp)(plain:LU):Prop where
 at_:(diffN old b q).1=k
 got:(diffN old b q).2=out++pend plain
 long:lastLong out
theorem DfPt.plainLe(h:DfPt old b q k out plain):plain.length<=b.length:=by
 have hg:=(diffN_inv old b q).gives;rw[h.got]at hg;by_cases e:plain=[]
 ·rw[e];exact Nat.zero_le _
 have:=data_le old (out++pend plain) ⟨0,0,plain⟩ (by rw[pend_one e];simp);rw[hg]at this;simp at this;omega
theorem DfPt.outLe(h:DfPt old b q k out plain):out.length<=q:=by
 have:=diffN_len old b q;rw[h.got,List.length_append]at this;omega
theorem DfPt.long_step(h:DfPt old b q k out plain)(hk:k<b.length)(h4:4<=(longest old b k).2):
  DfPt old b (q+1) (k+(longest old b k).2) (out++pend plain++[⟨(longest old b k).1,(longest old b k).2,[]⟩]) []:=by
 have e:=diffStep_long (old:=old) (b:=b) (p:=diffN old b q) (by rw[h.at_];exact hk) (by rw[h.at_];exact h4);refine⟨by rw[diffN_succ,e,h.at_],by rw[diffN_succ,e,h.at_,h.got,pend_nil,List.append_nil],lastLong_snoc _ (by simp;omega)⟩
theorem DfPt.byte_step(h:DfPt old b q k out plain)(hk:k<b.length)(h4:¬4<=(longest old b k).2):
  DfPt old b (q+1) (k+1) out (plain++[b[k]]):=by
 have e:=diffStep_byte (old:=old) (b:=b) (p:=diffN old b q) (by rw[h.at_];exact hk) (by rw[h.at_];exact h4);refine⟨by rw[diffN_succ,e,h.at_],?_,h.long⟩;rw[diffN_succ,e,h.at_,h.got,addByte_pend _ h.long];rw[List.getD_eq_getElem?_getD,List.getElem?_eq_getElem hk];rfl
theorem DfPt.stop(h:DfPt old b q k out plain)(hk:¬k<b.length):out++pend plain=diffed old b:=by
 rw[<-h.got];exact diffN_end old b q (by rw[h.at_];exact hk)
theorem DfPt.qle(h:DfPt old b q k out plain)(hk:k<b.length):q<=k:=by
 have:=diffN_mono old b q (by rw[h.at_];exact hk);rw[h.at_]at this;exact this
theorem refDiffed_many(A B:OA)(c d:Nat)(old b:LU)(w:World)(h:64<old.length∨64<b.length)(ho:old.length<=140737488351232)(hl:b.length<=140737488351232):
  Calls Try.prog 16 #[.slice A old.length c,.slice B b.length d] w (RetB w (.tuple #[.slice none 0 0,iv 1])):=by
 by_cases h1:(64:Int)<(old.length:Int)
 ·exact x7dz
 have h2:(64:Int)<(b.length:Int):=by omega
 clear h;exact x7dz
theorem refDiffed3_calls(Ao B0:OA)(c0 d0:Nat)(old b:LU)(w:World)(hml:ML w)(hc0:old.length<=c0)(hd0:b.length<=d0)(ho:old.length<=64)(hb:b.length<=64)(hA:Bts w Ao old)(hB:Bts w B0 b):
  Calls Try.prog 16 #[.slice Ao old.length c0,.slice B0 b.length d0] w (OpRet3 w (diffed old b) 0):=by
 have h1:¬(64:Int)<(old.length:Int):=by omega
 have h2:¬(64:Int)<(b.length:Int):=by omega
 have HOL:=qH hA;have HBT:=qH hB;have HML:=qH hml;clear hA hB hml;go_enter Try.func16,Try.ntmps16;go_wp2_with fail;have hpk:DfAt ((w.alloc (.cells #[.slice none 0 0] 23)).alloc (.cells #[.slice none 0 0] 22)) (w.heap.size+2) w.heap.size (w.heap.size+1) [] [] [] none 0 none 0:=
  ⟨blk_old (blk_top rfl),blk_top (by simp),CRow.nil _ _,Own.nil_ _ _ _ _,(fun k hk e=>by cases e),(fun i e h=>by simp at h),by omega,by omega,by omega,by simp⟩
 have HPK:=qH hpk;have HB2:Hid (Below w.heap.size w ((w.alloc (.cells #[.slice none 0 0] 23)).alloc (.cells #[.slice none 0 0] 22))):=qH (((Below.refl _ _).alloc (Nat.le_refl _) _).alloc (by simp) _);clear hpk;generalize (w.alloc (.cells #[.slice none 0 0] 23)).alloc (.cells #[.slice none 0 0] 22)=w0 at *
 generalize hgo:w.heap.size=go at *
 have hog:go<go+1:=by omega
 generalize hgp:go+1=gp at *
 have hlo:go<go+2:=by omega
 have hlp:gp<go+2:=by omega
 generalize hba:go+2=base at *
 have HGO:=qH hgo;clear hgo hgp hba;go_loopw [9] (fun i wr=>∃(q k:Nat) (out:List Stp) (ds:List (Option Addr×Nat)) (plain:LU) (A B:OA) (c d:Nat),i=.int .i64 (k:Int)∧k<=b.length∧Hid (DfPt old b q k out plain)∧Hid (DfAt wr base go gp out ds plain A c B d)∧Hid (Below go w wr)) (fun i _=>b.length-(intOf i).toNat)
 case atStart=>exact⟨0,0,[],[],[],none,none,0,0,rfl,Nat.zero_le _,qH ⟨rfl,rfl,lastLong_nil⟩,HPK,HB2⟩
 case round=>
  clear HPK HB2;rename World=>wo;obtain⟨q,k,out,ds,plain,A,B,c,d,rfl,hk,HT,HP,HB⟩:=hrel;have hpl:=HT.out.plainLe;by_cases hlt:k<b.length
  ·have hq:=HT.out.qle hlt;have hol:=HT.out.outLe;have hloc:=refLongest_calls Ao B0 c0 d0 old b wo k (HML.out.stays (HGO.out▸HB.out)) hc0 hd0 ho hb hk (HOL.out.stays (HGO.out▸HB.out)) (HBT.out.stays (HGO.out▸HB.out));have hin:=longest_in old b k;have HLOC:=qH hloc;have HIN:=qH hin;obtain⟨m,hm⟩:∃m,(longest old b k).1=m:=⟨_,rfl⟩;obtain⟨n,hn⟩:∃n,(longest old b k).2=n:=⟨_,rfl⟩;rw[hm,hn]at HLOC HIN;obtain⟨in1,in2⟩:=HIN.out;have HMN:=qH (And.intro hm hn);clear hloc hin hm hn HIN;have dl:decide ((k:Int)<(b.length:Int))=true:=decide_eq_true (by omega);have HPX:Hid (∀nd,DfAt (wo.drewN nd) base go gp out ds plain A c B d∧Below go w (wo.drewN nd)):=qH (fun nd=>⟨HP.out.drewN nd,Below.drewN' HB.out nd⟩);go_wp2_with fail;refine HLOC.out.mono ?_;rintro e wy ⟨rfl,nd,rfl⟩;obtain⟨hpx,hbx⟩:=HPX.out nd;clear HLOC;by_cases h3:4<=n
   ·have d1:decide ((3:Int)<(n:Int))=true:=decide_eq_true (by omega);have hst:=HT.out.long_step hlt (by rw[HMN.out.2];exact h3);rw[HMN.out.1,HMN.out.2]at hst;obtain⟨o1,hO1⟩:∃o1,out++pend plain=o1:=⟨_,rfl⟩;rw[hO1]at hst;have HST:=qH hst;have HO1:=qH hO1;have hkn:IntKind.i64.wrap ((k:Int)+(n:Int))=(k:Int)+(n:Int):=IntWalk.i64_in _ (by omega);clear hst hO1;go_wp2_with fail;refine(dflush_calls hpx (by omega) (by omega)).mono ?_;rintro e w1 ⟨rfl,ds1,A1,c1,hp1,hb1⟩;rw[HO1.out]at hp1;have HP1:=qH hp1;have HB1:Hid (Below go w w1):=qH (hbx.trans hb1);have q3:=hp1.co.cell;have q4:=hp1.co.free;have hoa:=hp1.oo.row.alloc (.cells #[.int .i64 (m:Int),.int .i64 (n:Int),.slice none 0 0] 117);have hs1:Src (w1.alloc (.cells #[.int .i64 (m:Int),.int .i64 (n:Int),.slice none 0 0] 117)) (some ⟨w1.heap.size,0,none⟩) [.int .i64 (m:Int),.int .i64 (n:Int),.slice none 0 0]:=src_blk (blk_top rfl);have hob:o1.length+1<=137438953472:=by have:=HST.out.outLe;simp at this⊢;omega
    have hle:base<=(w1.alloc (.cells #[.int .i64 (m:Int),.int .i64 (n:Int),.slice none 0 0] 117)).heap.size:=by have:=hp1.le;simp;omega
    clear hp1 hb1 hpx hbx HPX HP;go_wp2_with (at_builtin;go_must (refine wpList_app (w1.alloc (.cells #[.int .i64 (m:Int),.int .i64 (n:Int),.slice none 0 0] 117)) rfl _ _ 23 rfl elOps base A1 o1.length c1 (opCells o1 ds1) rfl hoa (some ⟨w1.heap.size,0,none⟩) 1 1 [.int .i64 (m:Int),.int .i64 (n:Int),.slice none 0 0] rfl hs1 rfl (by simp[Value.oneCell']) hob hle ?_;intro A' c' w2 hown hgr hbel hor);(obtain⟨ds',r1,r2,r3,r4,r5,r6,r7,r8⟩:=HP1.out.push (o:=⟨m,n,[]⟩) (e:=(none,0)) (plain':=[]) (B':=none) (d':=0) hown hgr hbel hor (Bts.nil _ _) (Nat.le_refl _) (fun k hk=>(by cases hk)) (.inr ⟨rfl,rfl,rfl⟩));(have R1:=qH r1);(have R4:=qH r4);(have R5:=qH r5);(have R6:=qH r6);(have R7:=qH r7);(have R8:=qH r8);(have q1:=r6.cell);(have q2:=r6.free);(have q5:=r6.lt);(clear hown hgr hbel hor r1 r2 r3 r4 r5 r6 r7 r8 hoa hs1 hob hle q3 q4));have e1:(o1++[(⟨m,n,[]⟩:Stp)]).length=o1.length+1:=by rw[List.length_append];rfl
    have hfin:DfAt (w2.setCell ⟨go,0,none⟩ (.slice A' (o1.length+1) c')) base go gp (o1++[⟨m,n,[]⟩]) ds' [] A' c' none 0:=
     ⟨by rw[e1];exact R6.out.set _,R7.out.other (by show go≠gp;omega) _,R1.out.setOther (j:=0) (own_far R1.out.row hlo) (fun i e he e2=>by have:=(R4.out i e he go e2).1;omega) _,Own.nil_ _ _ _ _,fun k hk e=>(by cases e),fun i e he k hk=>⟨(R4.out i e he k hk).1,by simp⟩,hlo,hlp,hog,by simpa using R5.out⟩
    have HFIN:=qH hfin;have HBF:Hid (Below go w (w2.setCell ⟨go,0,none⟩ (.slice A' (o1.length+1) c'))):=qH ((HB1.out.trans (R8.out.mono (Nat.le_of_lt hlo))).setCell (p:=⟨go,0,none⟩) (Nat.le_refl _) _);clear hfin e1;go_roundw
    case rel=>exact⟨q+1,k+n,_,ds',[],A',none,c',0,by go_num,by omega,HST,HFIN,HBF⟩
    case measure=>simp[intOf];omega
   have d1:decide ((3:Int)<(n:Int))=false:=decide_eq_false (by omega);have hst:=HT.out.byte_step hlt (by rw[HMN.out.2];exact h3);have HST:=qH hst;clear hst;obtain⟨ab,ao,rfl,hab,hxc⟩:=(HBT.out.stays (HGO.out▸hbx)) k hlt;have HXC:=qH hxc;have HBOX:=qH hpx.cp;have HCO:=qH hpx.co;have HCP:=qH hpx.cp;have HOA:=qH hpx.oo;have HOW:=qH hpx.op;have HNE:=qH hpx.ne;have HND:=qH hpx.nd;have HNB:=qH (And.intro (own_far hpx.op hlo) (own_far hpx.op hlp));have hle:=hpx.le;have HBX:=qH hbx;clear hxc hpx hbx HPX HP;go_wp2_with fail;generalize hwx:wo.drewN nd=wx at *
   refine wp_region_mix (by kernel_rfl) (some 45::some 46::some 47::some 48::some 49::some 50::some 51::none::[]) (none::none::none::none::none::some 0::some 1::some 2::[]) (.slice B plain.length d::.slice (some ⟨ab,ao,none⟩) b.length d0::.int .i64 (k:Int)::.pointer (some ⟨ab,ao+k,none⟩)::bv b[k]::undef::undef::undef::[]) 3 (bxJ wx base B plain.length d (plain.map bv) [bv b[k]] 5 6 (fun w=>∃A2 c2 wq,w=wq.setCell ⟨gp,0,none⟩ (.slice A2 (plain.length+1) c2)∧Own wq base 5 1 A2 (plain.length+1) c2 (plain.map bv++[bv b[k]])∧Below base wx wq∧(∀q,q<wx.heap.size->B.map (·.block)≠some q->wq.heap[q]?=wx.heap[q]?)∧(A2.map (·.block)=B.map (·.block)∨∀q,A2.map (·.block)=some q->wx.heap.size<=q))) 57 rfl rfl (by decide+kernel) (by decide+kernel) (by decide+kernel) (by decide+kernel) rfl rfl (by decide+kernel) (by decide+kernel) (rfl) ?_ ?_
   ·refine⟨?_,?_,?_,?_,?_,?_,?_,?_,trivial⟩
    ·intro done cv k1 a wq hw h hJ hn;have e1:=mx_old (t:=7) (v:=.pointer (some ⟨gp,0,none⟩)) h rfl rfl;have hk:=hn 6 _ 1 rfl rfl (by decide);have c1:=bxJ_box hk hJ HBOX.out;have c2:=c1.cell;go_simp
    ·intro done cv k2 a wq hw h hJ hn;have e1:=mx_old (t:=1) (v:=.slice (some ⟨ab,ao,none⟩) b.length d0) h rfl rfl;exact mx_move (ch_ev e1)
    ·intro done cv k1 a wq hw h hJ hn;have e1:=mx_old (t:=9) (v:=.int .i64 (k:Int)) h rfl rfl;exact mx_move (ch_ev e1)
    ·intro done cv k2 a wq hw h hJ hn;have e1:=mx_new (i:=1) (t:=46) h (hw 1 (by decide)) rfl rfl rfl;have e47:=mx_new (i:=2) (t:=47) h (hw 2 (by decide)) rfl rfl rfl;go_simp
    ·intro done cv k1 a wq hw h hJ hn;have e1:=mx_new (i:=3) (t:=48) h (hw 3 (by decide)) rfl rfl rfl;have hk:=hn 5 _ 0 rfl rfl (by decide);exact x87r
    ·intro done cv a wq hw h hJ;have e1:=mx_new (i:=4) (t:=49) h (hw 4 (by decide)) rfl rfl rfl;exact x859
    ·intro done cv a wq hw h hJ;have e1:=mx_new (i:=0) (t:=45) h (hw 0 (by decide)) rfl rfl rfl;have e50:=mx_cv (i:=5) (t:=50) h (hw 5 (by decide)) rfl rfl;obtain⟨rfl,y1⟩:=hJ;rw[y1]at e50;refine wp_app _ (.tmp 45) (.tmp 50) 22 rfl elBytes base B plain.length d (plain.map bv) (ch_ev e1) (HOW.out.drew.alloc _) (some ⟨wx.heap.size,0,none⟩) 1 1 [bv b[k]] (ch_ev e50) (src_blk (blk_top (by simp))) rfl (by simp[Value.oneCell']) (by omega) (by simp;omega) ?_;exact x1bo
    ·intro done cv a wq hw h hJ;have e1:=mx_old (t:=7) (v:=.pointer (some ⟨gp,0,none⟩)) h rfl rfl;have e51:=mx_cv (i:=6) (t:=51) h (hw 6 (by decide)) rfl rfl;obtain⟨A1,c1,y1,k3,k1,k2,k4⟩:=hJ;rw[y1]at e51;have b1:Box wq go _ _:=(k2 go HCO.out.lt HNB.out.1).trans HCO.out;have b2:Box wq gp _ _:=(k2 gp HCP.out.lt HNB.out.2).trans HCP.out;exact wp_ssl e1 e51 b2.cell b2.free ⟨undef,rfl,A1,c1,wq,rfl,k3,k1,k2,k4⟩
   rintro cv w1 ⟨A1,c2,wq,rfl,k3,k1,k2,k4⟩;have hsz:=k1.size;have b1:Box wq go 23 (.slice A out.length c):=(k2 go HCO.out.lt HNB.out.1).trans HCO.out;have b2:Box wq gp 22 (.slice B plain.length d):=(k2 gp HCP.out.lt HNB.out.2).trans HCP.out;have s1:CRow wq base out ds A c:=HOA.out.keep hsz (fun q hq h=>k2 q hq (by
    rcases h with h|⟨i,e,h1,h2⟩
    ·exact HNE.out q h
    exact(HND.out i e h1 q h2).2))
   have s2:=s1.setOther (j:=0) (own_far s1.row hlp) (fun i e he e2=>by have:=(HND.out i e he gp e2).1;omega) (.slice A1 (plain.length+1) c2);have e1:(plain++[b[k]]).length=plain.length+1:=by simp
   have far:∀q,q<wx.heap.size->B.map (·.block)≠some q->A1.map (·.block)≠some q:=fun q hq hn e=>by
    rcases k4 with h|h
    ·rw[h]at e;exact hn e
    have:=h q e;omega
   have hfin:DfAt (wq.setCell ⟨gp,0,none⟩ (.slice A1 (plain.length+1) c2)) base go gp out ds (plain++[b[k]]) A c A1 c2:=
    ⟨b1.other (by show gp≠go;omega) _,by rw[e1];exact b2.set _,s2,by rw[e1,List.map_append];exact k3.setCell_other (own_far k3 hlp) _,fun q hq=>far q (HOA.out.row.block q hq).2 (HNE.out q hq),fun i e he q hq=>⟨(HND.out i e he q hq).1,far q (HOA.out.off i e he q hq).2 (HND.out i e he q hq).2⟩,hlo,hlp,hog,by simp;omega⟩
   have HFIN:=qH hfin;have HBF:Hid (Below go w (wq.setCell ⟨gp,0,none⟩ (.slice A1 (plain.length+1) c2))):=qH ((HBX.out.trans (k1.mono (Nat.le_of_lt hlo))).setCell (p:=⟨gp,0,none⟩) (by show go<=gp;omega) _);have hkn:IntKind.i64.wrap ((k:Int)+1)=(k:Int)+1:=IntWalk.i64_in _ (by omega);clear hfin e1 far s1 s2 b1 b2 k1 k2 k3 k4;generalize wq.setCell ⟨gp,0,none⟩ (.slice A1 (plain.length+1) c2)=w4 at *
   simp only[mixAll,putAll_some,putAll_none,putAll_nil,List.getElem?_cons_zero,List.getElem?_cons_succ,Nat.zero_add,Nat.reduceAdd,List.setIfInBounds_toArray,List.set_cons_zero,List.set_cons_succ];go_wp2_with fail;go_roundw
   case rel=>exact⟨q+1,k+1,out,ds,plain++[b[k]],A,A1,c,c2,by go_num,by omega,HST,HFIN,HBF⟩
   case measure=>simp[intOf];omega
  obtain rfl:k=b.length:=by omega
  have hst:=HT.out.stop hlt;have hol:out.length<=(diffed old b).length:=by rw[<-hst];simp
  have hok:=diffed_ok old b ho hb;have hbd:∀o∈diffed old b,I64 o.at_∧I64 o.len∧o.data.length<=140737488351232:=fun o h=>by
   have h3:=hok.each o h;have h4:=data_le old (diffed old b) o h;rw[diffed_makes]at h4;have h5:=h3.2;unfold Stp.in_ at h5;exact⟨⟨by omega,by omega⟩,⟨by omega,by omega⟩,by omega⟩
  have hmany:=hok.many;have HST:=qH hst;have HBD:=qH hbd;have dl:decide ((b.length:Int)<(b.length:Int))=false:=by simp
  clear hst hbd hok;go_wp2_with fail;refine(dflush_calls HP.out (by omega) (by omega)).mono ?_;rintro e w1 ⟨rfl,ds1,A1,c1,hp1,hb1⟩;rw[HST.out]at hp1;have HP1:=qH hp1;have HB1:Hid (Below go w w1):=qH (HB.out.trans hb1);have q1:=hp1.co.cell;clear hp1 hb1;go_wp2_with fail;go_ret2;have hfr:=HP1.out.oo.fresh (fun i e h k hk=>(HP1.out.nd i e h k hk).1) HBD.out;exact⟨A1,c1,rfl,hfr.mono (by rw[HGO.out];omega),HP1.out.oo.row.le,HGO.out▸HB1.out⟩
section
variable (A:OA) (c:Nat) (l:LU) (w:World)
theorem refSumOn_calls(s:Int)(hs:0<=s)(hs':s<=65520)(hl:l.length<=140737488355328)(hr:Bts w A l):
  Calls Try.prog 140 #[iv s,.slice A l.length c] w (Ret w (iv (sumOn s l))):=by
 go_enter Try.func140,Try.ntmps140
 go_wp2
 go_loop [5,6,7] (fun p n i=>∃k:Nat,k<=l.length∧i=.int .i64 ((k:Int)-1)∧p=.int .i64 (pw (l.length-k))∧n=.int .i64 (sumOn 0 (l.drop k))) (fun _ _ i=>(intOf i+1).toNat)
 case atStart=>exact⟨l.length,Nat.le_refl _,rfl,by simp[pw],by simp[sumOn]⟩
 case round=>
  obtain⟨k,hk,rfl,rfl,rfl⟩:=hrel;have hb:=sumOn_bd 0 (l.drop k) (by omega);have hp:=pw_bd (l.length-k);by_cases hlt:0<k
  ·obtain⟨j,rfl⟩:∃j,k=j+1:=⟨k-1,by omega⟩;obtain⟨b,o,rfl,hbs,hc⟩:=hr j (by omega);have hx:=l[j].toNat_lt;have hj:((j:Int)+1-1).toNat=j:=by omega
   have HS:Hid (sumOn 0 (l.drop j)=(sumOn 0 (l.drop (j+1))+(l[j].toNat:Int)*pw (l.length-(j+1)))%65521):=sumOn_drop l j (by omega);have HP:Hid (pw (l.length-j)=pw (l.length-(j+1))*31%65521):=by
    have:=pw_succ (l.length-(j+1));rwa [show l.length-(j+1)+1=l.length-j by omega]at this
   have hm:0<=(l[j].toNat:Int)*pw (l.length-(j+1)):=Int.mul_nonneg (by omega) hp.1;have hm1:(l[j].toNat:Int)*pw (l.length-(j+1))<=256*65520:=Int.mul_le_mul (by omega) hp.2 hp.1 (by omega)
   go_wp2
   go_round
   case rel=>exact⟨j,by omega,rfl,by rw[HP.out],by rw[HS.out]⟩
   case measure=>simp[intOf]
  obtain rfl:k=0:=by omega
  have HF:=qH (sumOn_ref s l (by omega));have hm:0<=s*pw l.length:=Int.mul_nonneg hs (pw_bd _).1;have hm1:s*pw l.length<=65520*65520:=Int.mul_le_mul hs' (pw_bd _).2 (pw_bd _).1 (by omega);simp only[Nat.sub_zero,List.drop_zero]at hb hp⊢
  go_wp2
  go_ret;exact⟨ret_int (by rw[HF.out]),rfl⟩
theorem refSumOf_calls(hl:l.length<=140737488355328)(hr:Bts w A l):
  Calls Try.prog 96 #[.slice A l.length c] w (Ret w (iv (sumOn 1 l))):=by
 go_enter Try.func96,Try.ntmps96;go_wp2_with (go_at_call 140;refine(refSumOn_calls A c l _ 1 (by omega) (by omega) hl hr).mono ?_;rintro e w' ⟨rfl,rfl⟩);go_ret;exact⟨rfl,rfl⟩
end
section
open Go.RowKit Go.Shelf
attribute [local go_sem] Oper.semAt_some
def partV(b o len k:Nat):Value:=.slice (some ⟨b,o+16*k,none⟩) (min 16 (len-16*k)) (min 16 (len-16*k))
theorem run_min16(n:Nat)(w:World):(Builtin.min_ #[3,3] 3 #[.int .i64 16,.int .i64 (n:Int)]).run Try.prog w=.ok (.int .i64 ((min 16 n:Nat):Int)) w:=by
 by_cases h:(n:Int)<(16:Int)
 ·have e:min 16 n=n:=by omega
  rw[e];go_simp<;>omega
 have e:min 16 n=16:=by omega
 rw[e];go_simp<;>omega
theorem chunk1_in(n:Nat)(hn:1<=n)(l Bs Bn n₀ b o len cap:Nat)(hlc:len<=cap)(hlm:len<=1048576)(hs:Bs<n₀)(hnn:Bn<n₀)(J Jx:List Nat->World->Prop)(hJd:∀s W,J s W->J s W.drew)
  (hY:∀pre x W,J pre W->pre.length<(len+15) / 16->YieldAt Fence.wide (n-1) Try.prog l #[partV b o len x] W fun e W'=>
    (e=.returned (.bool true)∧J (pre++[x]) W'∧Below n₀ W W')∨(e=.returned (.bool false)∧Jx (pre++[x]) W'))
  (W:World) (hBs:W.cell? ⟨Bs,0,none⟩=some (.slice (some ⟨b,o,none⟩) len cap)) (hBn:W.cell? ⟨Bn,0,none⟩=some (.int .i64 16)) (h0:J [] W):
  CallsIn Fence.wide n Try.prog 146 #[.func (.yield l) #[] #[],.pointer (some ⟨Bs,0,none⟩),.pointer (some ⟨Bn,0,none⟩)] W fun e W'=>(∃v,e=.returned v)∧
   ((∃ys,ys=List.range ((len+15) / 16)∧J ys W')∨(∃pre,True∧Jx pre W')):=by
 refine callsIn_of_wp Try.func146 rfl trivial ?_ rfl;simp only[Try.ntmps146,List.size_toArray,List.length_cons,List.length_nil,Nat.reduceAdd,Nat.reduceSub,Array.replicate_succ,Array.replicate_zero,List.push_toArray,List.append_toArray,List.nil_append,List.cons_append]
 gi_wp2
 gi_loopw [4] (fun i wr=>∃k:Nat,k<=(len+15) / 16∧i=.int .i64 ((16*k:Nat):Int)∧J (List.range k) wr∧Below n₀ W wr)
  (fun i _=>len+16-(intOf i).toNat)
 case atStart=>exact⟨0,Nat.zero_le _,rfl,h0,Below.refl _ _⟩
 case round=>
  obtain⟨k,hk,rfl,hJs,hnx⟩:=hrel;have hc1:=(hnx.cell (p:=⟨Bs,0,none⟩) hs).trans hBs;have hc1:=(hnx.cell (p:=⟨Bn,0,none⟩) hnn).trans hBn;by_cases hlt:16*k<len
  ·obtain⟨fn,tmps,assign,body,hy,hR⟩:=hY _ k wr.drew (hJd _ _ hJs) (by simp;omega);have hmin:=run_min16 (len-16*k);have hp:partV b o len k=.slice (some ⟨b,o+16*k,none⟩) (min 16 (len-16*k)) (min 16 (len-16*k)):=rfl;rw[hp]at hy;obtain⟨en,hen⟩:∃en,min 16 (len-16*k)=en:=⟨_,rfl⟩;rw[hen]at hmin hy;obtain⟨i,hi⟩:∃i,16*k=i:=⟨_,rfl⟩;rw[hi]at hmin hy hlt hen⊢;have he1:1<=en:=by omega
   have he1:i+en<=len:=by omega
   have he1:en<=16:=by omega
   have hw1:IntKind.i64.wrap ((i:Int)+(en:Int))=((i+en:Nat):Int):=by rw[show (i:Int)+(en:Int)=((i+en:Nat):Int) by omega];exact IntWalk.i64_in _ (by omega)
   have dl:decide ((i:Int)<(len:Int))=true:=decide_eq_true (by omega);clear hen hp
   gi_wp2
   gi_region
   gi_wp2
   refine hR.mono ?_;rintro e W1 (⟨rfl,hJ1,hk1⟩|⟨rfl,hJx1⟩)
   ·have hc1:=(hk1.cell (p:=⟨Bn,0,none⟩) hnn).trans hc1;have hw1:IntKind.i64.wrap ((i:Int)+16)=((i+16:Nat):Int):=by rw[show (i:Int)+16=((i+16:Nat):Int) by omega];exact IntWalk.i64_in _ (by omega)
    gi_wp2
    go_roundw
    case rel=>exact⟨k+1,by omega,by rw[show 16*(k+1)=i+16 by omega];simp,by rw[List.range_succ];exact hJ1,hnx.trans ((Below.refl n₀ wr).drew.trans hk1)⟩
    case measure=>simp[intOf];omega
   gi_wp2
   refine bodyPost_ret (results_none rfl _ _ _) rfl ?_;exact⟨⟨_,rfl⟩,.inr ⟨_,trivial,hJx1⟩⟩
  obtain rfl:k=(len+15) / 16:=by omega
  have dl:decide (((16*((len+15) / 16):Nat):Int)<(len:Int))=false:=decide_eq_false (by omega)
  gi_wp2
  go_end0
  exact⟨⟨_,rfl⟩,.inl ⟨_,rfl,hJs⟩⟩
theorem grownBy_drew0(w:World):w.grownBy w.drew none:=⟨rfl,rfl,rfl,Nat.le_refl _,fun _ _ _=>rfl⟩
theorem chunk_stops(n:Nat)(hn:1<=n)(Bs Bn n₀ b o len cap:Nat)(hlc:len<=cap)(hlm:len<=1048576)(hs:Bs<n₀)(hnn:Bn<n₀)(w:World)(h0:n₀<=w.heap.size)
  (hBs:w.cell? ⟨Bs,0,none⟩=some (.slice (some ⟨b,o,none⟩) len cap)) (hBn:w.cell? ⟨Bn,0,none⟩=some (.int .i64 16)):
  SeqStopsK Fence.wide n Try.prog 146 #[.pointer (some ⟨Bs,0,none⟩),.pointer (some ⟨Bn,0,none⟩)] (fun x:Nat=>#[partV b o len x]) (Below n₀) (fun ys=>ys=List.range ((len+15) / 16)) (fun _=>True) ((len+15) / 16) w:=fun l J Jx W hW hJ _ hY hJ0=>by
 refine(chunk1_in n hn l Bs Bn n₀ b o len cap hlc hlm hs hnn J Jx (fun s W' h=>hJ s W' _ none h (grownBy_drew0 W') (fun r e=>by cases e)) hY W ((hW.cell (p:=⟨Bs,0,none⟩) (by show Bs<_;omega)).trans hBs) ((hW.cell (p:=⟨Bn,0,none⟩) (by show Bn<_;omega)).trans hBn) hJ0).mono ?_;rintro e W' h;exact h
theorem chunk_in(n:Nat)(A:OA)(len cap:Nat)(w:World):
  CallsIn Fence.wide n Try.prog 110 #[.slice A len cap,.int .i64 16] w fun e w'=>e=.returned (.func (.func 146) #[] #[.pointer (some ⟨w.heap.size,0,none⟩),.pointer (some ⟨w.heap.size+1,0,none⟩)])∧w'=(w.alloc (.cells #[.slice A len cap] 22)).alloc (.cells #[.int .i64 16] 3):=by
 refine callsIn_of_wp Try.func110 rfl trivial ?_ rfl;simp only[Try.ntmps110,List.size_toArray,List.length_cons,List.length_nil,Nat.reduceAdd,Nat.reduceSub,Array.replicate_succ,Array.replicate_zero,List.push_toArray,List.append_toArray,List.nil_append,List.cons_append]
 gi_wp2
 go_ret;exact⟨rfl,rfl⟩
theorem info_bytes:(Try.prog.info? 22).map (fun i=>(i.zero,i.size,i.bytes))=some (some (.slice none 0 0),1,24):=by kernel_rfl
theorem appendSeq_in(n:Nat)(hn:3<=n)(gf:Nat)(lb:Array Value)(eg:∀args w,(callFunc gf args).run Try.prog w=.ok (.enter gf args) w)(A:Nat->Option Addr)(a b:Nat->Nat)(m:Nat)(hm:m<=1048576)(w:World)
  (hst:SeqStopsK Fence.wide (n-1) Try.prog gf lb (fun x:Nat=>#[Value.slice (A x) (a x) (b x)]) (Below w.heap.size) (fun ys=>ys=List.range m) (fun _=>True) m w):
  CallsIn Fence.wide n Try.prog 145 #[.slice none 0 0,.func (.func gf) #[] lb] w fun e W'=>∃v,e=.returned v∧W'.ownsRow w.heap.size 22 1 v m ((List.range m).map (fun x:Nat=>Value.slice (A x) (a x) (b x)))∧Below w.heap.size w W':=by
 have h1:1<=n:=by omega
 obtain⟨i1,hi,hz3,hz1,hz2⟩:=info_parts (info_bytes);refine callsIn_of_wp_marks Try.func145 rfl trivial ?_ rfl;simp only[Try.ntmps145,List.size_toArray,List.length_cons,List.length_nil,Nat.reduceAdd,Nat.reduceSub,Array.replicate_succ,Array.replicate_zero,List.push_toArray,List.append_toArray,List.nil_append,List.cons_append]
 gi_wp2
 have bO:=Boxed.new w 86 (.slice none 0 0);have hB1:Below w.heap.size w (w.alloc (.cells #[.slice none 0 0] 86)):=(Below.refl _ w).alloc (Nat.le_refl _) _;refine wpIn_rangeFunc_ownG rfl h1 (gf:=gf) (lb:=lb) rfl trivial eg hst belowK_t (belowK_b (by simp)) hB1 (fun _=>rfl)
  (fun (pre:List Nat) W=>(∃v,Boxed W w.heap.size 86 v∧W.ownsRow w.heap.size 22 1 v pre.length (pre.map (fun x:Nat=>Value.slice (A x) (a x) (b x)))∧True)∧Below w.heap.size w W)
  (fun _ _ _=>False)
  (OwnFrom.and (Own.from (holdsRow_own w.heap.size w.heap.size 86 22 1 (fun pre:List Nat=>pre.length) (fun pre=>pre.map (fun x:Nat=>Value.slice (A x) (a x) (b x))) (fun pre v=>True)) _) (ownFrom_below (Nat.le_refl _) (by simp)))
  (fun _ _ _ _ _ hs _ _=>hs)
  ⟨⟨_,bO,World.ownsRow_nil _ _ _ _,trivial⟩,hB1⟩
  (fun x=>{tmps:=#[.slice none 0 0,.func (.func gf) #[] lb,.pointer (some ⟨w.heap.size,0,none⟩),undef,.slice none 0 0,Value.slice (A x) (a x) (b x),.func (.func gf) #[] lb,Value.slice (A x) (a x) (b x),undef,undef,undef,undef,undef],defers:=[]}) ?assign ?body ?done ?stop
 case assign=>
  intro l x W K hK
  gi_wp2
  exact hK
 case body=>
  rintro l pre x W ⟨⟨v,hv,hrow,_⟩,hB⟩ hlt;have hc:=hv.cell
  gi_wp2_with (gi_at_builtin;refine wpListIn_append_own _ rfl _ _ 86 rfl w.heap.size 22 i1 (.slice none 0 0) 1 24 Try.underlying86 hi hz3 hz1 hz2 rfl (by decide) _ _ _ rfl (hrow.alloc _) ⟨W.heap.size,0,none⟩ 1 1 [Value.slice (A x) (a x) (b x)] rfl rfl (cell_one_new _ _ _) (by simp[Value.oneCell']) (by simp[maxLen];omega) (by omega) (by have:=hB.size;simp;omega) ?_;intro v' w1 hown' hgrow _;obtain⟨g',cap',rfl⟩:=ownsRow_succ hown';obtain⟨hv1,hv2,hr2,hk2,hb2⟩:=hv.appended (by decide) hrow hB.size (Nat.le_refl _) hown' hgrow;have hc1:=hv1.cell;have hf1:=hv1.frozen)
  exact⟨hk2.from _,hb2,⟨_,hv2,by simpa using hr2,trivial⟩,hB.trans hb2⟩
 case done=>
  rintro D ys W hD rfl ⟨⟨v,hv,hrow,_⟩,hB⟩ hK;have hc:=hv.cell
  gi_wp2
  refine⟨by simp,.inl ⟨_,_,rfl,run_takeDeferred hK,?_⟩⟩;exact⟨_,results_tmp rfl _ _ _,v,rfl,by simpa using ownsRow_putObj hrow _ hK rfl,hB.trans (belowK_b (w:=w) (Nat.le_refl _) W D _ _ (by simp at hD;omega) hK rfl rfl)⟩
 case stop=>
  rintro D c pre W _ _ h _;exact h.elim
theorem collectChunk_calls(Bs Bn b o len cap:Nat)(hlc:len<=cap)(hlm:len<=1048576)(w:World)(hs:Bs<w.heap.size)(hnn:Bn<w.heap.size)
  (hBs:w.cell? ⟨Bs,0,none⟩=some (.slice (some ⟨b,o,none⟩) len cap)) (hBn:w.cell? ⟨Bn,0,none⟩=some (.int .i64 16)):
  Calls Try.prog 109 #[.func (.func 146) #[] #[.pointer (some ⟨Bs,0,none⟩),.pointer (some ⟨Bn,0,none⟩)]] w
   (fun e w'=>∃v,e=.returned v∧w'.ownsRow w.heap.size 22 1 v ((len+15) / 16) ((List.range ((len+15) / 16)).map (partV b o len))∧Below w.heap.size w w'):=by
 refine(callsIn_wide (n:=9)).1 ?_;refine callsIn_of_wp Try.func109 rfl trivial ?_ rfl;simp only[Try.ntmps109,List.size_toArray,List.length_cons,List.length_nil,Nat.reduceAdd,Nat.reduceSub,Array.replicate_succ,Array.replicate_zero,List.push_toArray,List.append_toArray,List.nil_append,List.cons_append]
 gi_wp2
 refine⟨trivial,?_⟩;refine(appendSeq_in 8 (by decide) 146 _ (enters_of Try.func146 (by kernel_rfl) rfl) (fun k=>some ⟨b,o+16*k,none⟩) (fun k=>min 16 (len-16*k)) (fun k=>min 16 (len-16*k)) ((len+15) / 16) (by omega) w (chunk_stops 7 (by decide) Bs Bn w.heap.size b o len cap hlc hlm hs hnn w (Nat.le_refl _) hBs hBn)).mono ?_;rintro e w' ⟨v,rfl,hrow,hb⟩
 gi_wp2
 go_ret;exact⟨v,rfl,hrow,hb⟩
theorem chunk_calls(A:OA)(len cap:Nat)(w:World):
  Calls Try.prog 110 #[.slice A len cap,.int .i64 16] w (fun e w'=>e=.returned (.func (.func 146) #[] #[.pointer (some ⟨w.heap.size,0,none⟩),.pointer (some ⟨w.heap.size+1,0,none⟩)])∧w'=(w.alloc (.cells #[.slice A len cap] 22)).alloc (.cells #[.int .i64 16] 3)):=
 (callsIn_wide (n:=1)).1 (chunk_in 1 A len cap w)
end
theorem x5t4(h:Y:=by
 go_wp2_with fail;refine K1.out.mono ?_;rintro e w1 ⟨rfl,hb1⟩;go_wp2_with fail;go_ret2;exact⟨rfl,hba.trans (hb1.mono (by simp))⟩):Y:=h
theorem x9ll(h:Y:=by
 rw[HPB.out,HPRE.out,<-List.length_append,List.append_assoc,<-opsBytes_append,List.take_append_drop]):Y:=h
theorem bv_by(n:Int)(h:0<=n∧n<=255):bv (by_ n)=.int .u8 n:=by unfold bv;rw[by_small h]
theorem bv_by2(n:Int):bv (by_ n)=.int .u8 (n%256):=by unfold bv;rw[by_toNat]
theorem cloneBytes_calls(A:OA)(n c:Nat)(cs:List Value)(w:World)(hl:cs.length=n*1)(hn0:n<=140737488355328)(hr:Src w A cs)(h1:∀u∈cs,u.oneCell'=true):
  Calls Try.prog 100 #[.slice A n c] w (SlRet w 5 1 n cs):=by
 rcases A with _|ad
 ·have h1:cs.length=0:=by
   exact x5fs
  obtain rfl:n=0:=by omega
  obtain rfl:cs=[]:=List.eq_nil_of_length_eq_zero h1;have hn:=fun (wx:World) (a:OA) (n c n' c':Nat)=>Lib.run_eql_slice_nil (P:=Try.prog) wx 22 5 a n c n' c' Try.underlying22;clear h1 hl;go_enter Try.func100,Try.ntmps100;exact x4d9
 have hn:=fun (wx:World) (a:OA) (n c n' c':Nat)=>Lib.run_eql_slice_nil (P:=Try.prog) wx 22 5 a n c n' c' Try.underlying22;have ho:Own (w.alloc (.cells #[] 5)) w.heap.size 5 1 (some ⟨w.heap.size,0,none⟩) 0 0 []:=own_zero w _ _;have hs:=hr.stays ((Below.refl w.heap.size w).alloc (Nat.le_refl _) (.cells #[] 5));have hb1:0+n<=140737488355328:=by omega
 have hb2:w.heap.size<=(w.alloc (.cells #[] 5)).heap.size:=by simp
 have HL:=qH hl;clear hl;go_enter Try.func100,Try.ntmps100;go_wp2_with (at_builtin;refine wpList_app _ rfl _ _ 22 rfl elBytesB w.heap.size (some ⟨w.heap.size,0,none⟩) 0 0 [] rfl ho (some ad) n c cs rfl hs HL.out h1 hb1 hb2 ?_;intro A' c' w1 hown hg hb hx);exact x6v2
theorem x62b(h:Y:=by
 go_wp2_with fail;go_quiet (fail)
 go_wp2_with fail;go_ret;exact⟨rfl,nd+nq,by rw[<-World.drewN_drewN]⟩):Y:=h
theorem refAlike_calls(A:OA)(c:Nat)(l:LU)(w:World)(h0:0<l.length)(hc:l.length<=c)(hl:l.length<=4194304)(hB:Bts w A l):
  Calls Try.prog 147 #[.slice A l.length c] w (RetN w (iv (alike l:Nat))):=by
 obtain⟨a1,a2,a3,a4,a5⟩:=alike_stop h0;simp only[List.drop_zero,Nat.zero_add]at a1 a2 a3 a4 a5;replace a5:alike l=127∨(alike l<127∧alike l=l.length)∨(alike l<127∧∃h:alike l<l.length,l[alike l]≠l[0]):=by
  rcases a5 with h|h|⟨h0,h1,h2⟩
  ·exact .inl h
  ·exact .inr (.inl h)
  exact .inr (.inr ⟨h0,by simpa using h1,by simpa using h2⟩)
 have HA1:=qH a4;have HBO:=qH hB;clear hB a4;obtain⟨ab,ao,rfl,hsb,hx1⟩:=HBO.out 0 h0;simp only[Nat.add_zero]at hx1;have HAL:Hid (alike l=alike l):=qH rfl;generalize hal:alike l=al at *
 clear hal HAL;go_enter Try.func147,Try.ntmps147;go_wp2_with fail;go_loopw [3] (fun n wr=>∃(m nd:Nat),n=.int .i64 (m:Int)∧1<=m∧m<=al∧w.drewN nd=wr) (fun n _=>al-(intOf n).toNat)
 case atStart=>exact⟨1,0,rfl,by omega,a1,rfl⟩
 case round=>
  obtain⟨m,nd,rfl,hm1,hm2,rfl⟩:=hrel;have hw1:IntKind.i64.wrap ((m:Int)+1)=(m:Int)+1:=IntWalk.i64_in _ (by omega);by_cases hml:m<al
  ·have hx2:=HA1.out m hml;have hkm:m<l.length:=by omega
   rw[List.getElem?_eq_getElem hkm]at hx2;obtain⟨b1,o1,e1,hs1,hc1⟩:=HBO.out m hkm;injection e1 with e1;injection e1 with e3 e4;subst e3 e4;have hx3:l[m]=l[0]:=by injection hx2
   rw[hx3]at hc1;have d1:decide ((m:Int)<127)=true:=decide_eq_true (by omega);have d2:decide ((m:Int)<(l.length:Int))=true:=decide_eq_true (by omega);have d3:((l[0].toNat:Int)==(l[0].toNat:Int))=true:=by simp
   clear hx2 hx3;exact x21e
  obtain rfl:m=al:=by omega
  rcases a5 with h|⟨h0,h⟩|⟨h0,h1,h2⟩
  ·by_cases d2':m<l.length
   ·have d1:decide ((m:Int)<127)=false:=decide_eq_false (by omega);have d2:decide ((m:Int)<(l.length:Int))=true:=decide_eq_true (by omega);clear h hm2 hml;exact x62b
   ·have d2:decide ((m:Int)<(l.length:Int))=false:=decide_eq_false (by omega);clear h hm2 hml;exact x62b
  ·have d2:decide ((m:Int)<(l.length:Int))=false:=decide_eq_false (by omega);have d1:decide ((m:Int)<127)=true:=decide_eq_true (by omega);have hx:¬m<l.length:=by omega
   clear h h0 hm2 hml;exact x62b
  have d1:decide ((m:Int)<127)=true:=decide_eq_true (by omega);have d2:decide ((m:Int)<(l.length:Int))=true:=decide_eq_true (by omega);have d3:((l[m].toNat:Int)==(l[0].toNat:Int))=false:=by simp;exact fun e=>h2 (UInt8.toNat_inj.1 (by omega))
  have hc1:w.cell? ⟨ab,ao+m,none⟩=some (bv l[m]):=by
   obtain⟨b1,o1,e1,hs1,hc2⟩:=HBO.out m h1;injection e1 with e1;injection e1 with e3 e4;subst e3 e4;exact hc2
  clear h2 hm2 hml;exact x62b
theorem elChunksB:El Try.prog 43 49 5 2513169434916:=⟨Try.underlying43,by
 obtain⟨i,h⟩:=info_parts (P:=Try.prog) (e:=49) (z:=.agg #[.int .i64 0,.int .i64 0,.int .i64 0,.int .i64 0,.slice none 0 0]) (size:=5) (bytes:=56) (by kernel_rfl);exact⟨i,_,h.1,h.2.1,h.2.2.1,by omega,rfl⟩,by omega⟩
theorem elChunks:El Try.prog 43 49 5:=⟨Try.underlying43,by
 obtain⟨i,h⟩:=info_parts (P:=Try.prog) (e:=49) (z:=.agg #[.int .i64 0,.int .i64 0,.int .i64 0,.int .i64 0,.slice none 0 0]) (size:=5) (bytes:=56) (by kernel_rfl);exact⟨i,_,h.1,h.2.1,h.2.2.1,by omega,rfl⟩,by omega⟩
theorem x4e8(h:Y:=by
 go_wp2_with fail;go_ret;exact⟨ret_bool (by rw[decide_eq_false (fun e=>HX.out (by rw[e]))]),Below.refl _ _⟩):Y:=h
theorem x4yl(h:Y:=by
 have h:=HT.out;rw[List.take_of_length_le (by omega),List.take_of_length_le (by omega)]at h;rw[decide_eq_true h]):Y:=h
theorem x519(h:Y:=by
 by_cases hxy:x=y
 ·have hd:decide (x=y)=true:=by simp[hxy]
  have HY:=qH (HX.out hxy);clear hxy HX HN;go_wp2_with fail;go_roundw
  case rel=>exact⟨k+1,by omega,by go_num,HY,HB1⟩
  case measure=>simp[intOf]<;>omega
 have hd:decide (x=y)=false:=by simp[hxy]
 have HY:=qH (HN.out hxy);clear hxy HX HN;go_wp2_with fail;go_ret;exact⟨ret_bool (by rw[decide_eq_false HY.out]),HB1.out⟩):Y:=h
theorem x61t(h:Y:=by
 go_wp2_with fail;go_ret;exact⟨ret_bool HZ.out,HB1.out⟩):Y:=h
theorem equalBytes_calls(A B:OA)(c d:Nat)(l m:LU)(w:World)(hl:l.length<=140737488351232)(hm:m.length<=140737488351232)(ha:Bts w A l)(hb:Bts w B m):
  Calls Try.prog 94 #[.slice A l.length c,.slice B m.length d] w (RetN w (.bool (decide (l=m)))):=by
 by_cases hne:l.length=m.length
 ·have hdl:((l.length:Int) !=(m.length:Int))=false:=by simp[hne]
  have HE:=qH hne;have hm1:l.length<=m.length:=by omega
  have hm1:m.length<=l.length:=by omega
  clear hne;go_enter Try.func94,Try.ntmps94
  go_wp2
  go_loopw [5,13] (fun u i wr=>∃k n:Nat,k<=l.length∧i=.int .i64 k∧l.take k=m.take k∧w.drewN n=wr) (fun _ i _=>l.length-(intOf i).toNat)
  case atStart=>exact⟨0,0,Nat.zero_le _,rfl,rfl,rfl⟩
  case round=>
   obtain⟨k,n,hk,rfl,ht,rfl⟩:=hrel;have HT:=qH ht;clear ht;by_cases hlt:k<l.length
   ·obtain⟨b1,o1,rfl,hs1,hc1⟩:=ha k hlt;obtain⟨b1,o1,rfl,hs1,hc1⟩:=hb k (by omega);by_cases he:l[k]=m[k]'(by omega)
    ·have hd:((l[k].toNat:Int) !=((m[k]'(by omega)).toNat:Int))=false:=by simp[he]
     have HX:=qH he;clear he;go_wp2_with fail;go_quiet (fail)
     go_wp2_with fail;go_roundw
     case rel=>exact⟨k+1,_,by omega,by go_num,take_eq_succ HT.out hlt (by omega) HX.out,rfl⟩
     case measure=>simp[intOf]<;>omega
    have hd:((l[k].toNat:Int) !=((m[k]'(by omega)).toNat:Int))=true:=by simp;exact fun e=>he (UInt8.toNat_inj.1 (by omega))
    have HX:=qH he;clear he;go_wp2_with fail;go_quiet (fail)
    go_wp2_with fail;go_ret;exact⟨ret_bool (by rw[decide_eq_false (ne_of_at hlt (by omega) HX.out)]),_,(World.drewN_drewN _ _ _).symm⟩
   go_wp2_with fail;go_ret;refine⟨ret_bool ?_,_,rfl⟩;exact x4yl
 have hdl:((l.length:Int) !=(m.length:Int))=true:=by simp;omega
 have HX:=qH hne;clear hne;go_enter Try.func94,Try.ntmps94
 go_wp2
 go_ret;exact⟨ret_bool (by rw[decide_eq_false (fun e=>HX.out (by rw[e]))]),0,rfl⟩
theorem x2od(h:Y:=by
 go_enter Try.func93,Try.ntmps93;go_wp2_with fail;go_ret;exact⟨ret_bool HE.out.symm,((Below.refl _ _).alloc (Nat.le_refl _) _).alloc (by simp) _⟩):Y:=h
theorem stp_ne_at(h:x.at_≠y.at_):x≠y:=by rintro rfl;exact h rfl
theorem stp_ne_len(h:x.len≠y.len):x≠y:=by rintro rfl;exact h rfl
theorem stp_eq(h1:x.at_=y.at_)(h2:x.len=y.len):decide (x.data=y.data)=decide (x=y):=by
 obtain⟨a,l,d⟩:=x;obtain⟨b,m,e⟩:=y;simp only at h1 h2;subst h1 h2;simp
theorem same1_calls(x y:Stp)(B D:OA)(c d:Nat)(w:World)(hx:x.data.length<=140737488351232)(hy:y.data.length<=140737488351232)(hB:Bts w B x.data)(hD:Bts w D y.data):
  Calls Try.prog 93 #[.agg #[iv x.at_,iv x.len,.slice B x.data.length c],.agg #[iv y.at_,iv y.len,.slice D y.data.length d]] w (RetB w (.bool (decide (x=y)))):=by
 by_cases h1:x.at_=y.at_
 ·by_cases h2:x.len=y.len
  ·have q1:(x.at_==y.at_)=true:=by simp[h1]
   have q1:(x.len==y.len)=true:=by simp[h2]
   have HE:=qH (stp_eq h1 h2);have bl:=((Below.refl w.heap.size w).alloc (Nat.le_refl _) (.cells #[iv x.at_,iv x.len,.slice B x.data.length c] 117)).alloc (by simp) (.cells #[iv y.at_,iv y.len,.slice D y.data.length d] 117);have HC:=qH (equalBytes_calls B D c d x.data y.data _ hx hy (hB.stays bl) (hD.stays bl));have HB:=qH bl;clear h1 h2 hB hD bl;go_enter Try.func93,Try.ntmps93;go_wp2_with fail;refine HC.out.mono ?_;rintro e w1 ⟨rfl,n,rfl⟩;go_wp2_with fail;go_ret;exact⟨ret_bool HE.out,Below.drewN' HB.out n⟩
  ·have q1:(x.at_==y.at_)=true:=by simp[h1]
   have q1:(x.len==y.len)=false:=by simp[h2]
   have HE:=qH (decide_eq_false (stp_ne_len h2));clear h1 h2;exact x2od
 have q1:(x.at_==y.at_)=false:=by simp[h1]
 have HE:=qH (decide_eq_false (stp_ne_at h1));clear h1;exact x2od
theorem eqfOps_calls(A B:OA)(c d:Nat)(l m:List Stp)(w:World)(hl:l.length<=3518437208780)(hm:m.length<=3518437208780)(ha:Sps w A l)(hb:Sps w B m):
  Calls Try.prog 92 #[.slice A l.length c,.slice B m.length d,.func (Fn.func 93) #[] #[]] w (RetB w (.bool (decide (l=m)))):=by
 by_cases hne:l.length=m.length
 ·have hdl:((l.length:Int) !=(m.length:Int))=false:=by simp[hne]
  have HE:=qH hne;have hm1:l.length<=m.length:=by omega
  have hm1:m.length<=l.length:=by omega
  clear hne;go_enter Try.func92,Try.ntmps92;go_wp2_with fail;go_loopw [17] (fun i wr=>∃k:Nat,k<=l.length∧i=.int .i64 k∧Hid (l.take k=m.take k)∧Hid (Below w.heap.size w wr)) (fun i _=>l.length-(intOf i).toNat)
  case atStart=>exact⟨0,Nat.zero_le _,rfl,qH rfl,qH (Below.refl _ _)⟩
  case round=>
   obtain⟨k,hk,rfl,HT,HB⟩:=hrel;by_cases hlt:k<l.length
   ·obtain⟨b1,o1,B1,c1,rfl,hs1,p6,p1,p2,p3,p4,p5,-,-⟩:=(ha.stays HB.out).at_ hlt;obtain⟨b1,o1,B2,c2,rfl,hs1,r6,r1,r2,r3,r4,r5,-,-⟩:=(hb.stays HB.out).at_ (i:=k) (by omega);have hsz:=HB.out.size;have HX:Hid (∀e:l[k]=m[k]'(by omega),l.take (k+1)=m.take (k+1)):=qH fun e=>take_eq_succ HT.out hlt (by omega) e;have HN:Hid (∀e:l[k]≠m[k]'(by omega),l≠m):=qH fun e=>ne_of_at hlt (by omega) e;generalize l[k]=x at *
    generalize m[k]'(by omega)=y at *
    have hsb:=fun w2 (h:Below wr.heap.size wr w2)=>same1_calls x y B1 B2 c1 c2 w2 p4 r4 (p5.stays h) (r5.stays h);have HC:=qH hsb;clear hsb p5 r5;go_wp2_with fail;have bl:=((Below.refl wr.heap.size wr).alloc (Nat.le_refl _) (.cells #[iv x.at_,iv x.len,.slice B1 x.data.length c1] 117)).alloc (by simp) (.cells #[iv y.at_,iv y.len,.slice B2 y.data.length c2] 117);refine(HC.out _ bl).mono ?_;rintro e w1 ⟨rfl,hb1⟩;have HB1:Hid (Below w.heap.size w w1):=qH ((HB.out.trans (bl.mono hsz)).trans (hb1.mono (by simp;omega)));clear bl hb1;exact x519
   go_wp2_with fail;go_ret;refine⟨ret_bool ?_,HB.out⟩;exact x4yl
 have hdl:((l.length:Int) !=(m.length:Int))=true:=by simp;omega
 have HX:=qH hne;clear hne;go_enter Try.func92,Try.ntmps92;exact x4e8
theorem equalOps_calls(A B:OA)(c d:Nat)(l m:List Stp)(w:World)(hl:l.length<=3518437208780)(hm:m.length<=3518437208780)(ha:Sps w A l)(hb:Sps w B m):
  Calls Try.prog 21 #[.slice A l.length c,.slice B m.length d] w (RetB w (.bool (decide (l=m)))):=by
 go_enter Try.func21,Try.ntmps21;go_wp2_with fail;refine(eqfOps_calls A B c d l m w hl hm ha hb).mono ?_;rintro e w1 ⟨rfl,hb1⟩;go_wp2_with fail;go_ret;exact⟨rfl,hb1⟩
end Go.Proofs.Ytefkfglkpebbmac
