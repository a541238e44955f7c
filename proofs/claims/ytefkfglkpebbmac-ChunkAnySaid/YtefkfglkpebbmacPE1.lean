/- Walks of functions, and plain words. No conditions. -/
import Derived.Test.YtefkfglkpebbmacP0
import Derived.StillTailTactics
import Derived.Laws.IdiomStrings
import Derived.Laws.BytesArg
set_option linter.unusedVariables false
set_option linter.unusedSimpArgs false
set_option maxRecDepth 100000
set_option maxHeartbeats 40000000
namespace Go.Proofs.Ytefkfglkpebbmac
open Go.RowKit
variable {Y:Prop}
variable {w w':World} {A:OA} {l:List Stp} {i k c base g n:Nat} {t e:TypeId} {old size:Int} {o x y:Stp} {p:Pat} {P:World->Prop} {xs:List Value} {ds:List (Option Addr×Nat)} {v:Value}
section
open Go.RowKit Go.WideShapes Go.ChangeShapes Go.ChangeAt
theorem x3rf(h:Y:=by
 rintro e w1 ⟨rfl,hb1⟩;go_wp2_with fail;go_ret;exact⟨rfl,hb1⟩):Y:=h
theorem x4jq(h:Y:=by
 go_wp2_with fail;go_ret;exact⟨ret_bool HZ.out,HB.out⟩):Y:=h
theorem x6ww(h:Y:=by
 by_cases hxy:x=y
 ·have hd:decide (x=y)=true:=by simp[hxy]
  have HY:=qH (HX.out hxy);clear hxy HX HN;go_wp2_with fail;go_roundw
  case rel=>exact⟨k+1,by omega,by go_num,HY,HB1⟩
  case measure=>simp[intOf]<;>omega
 have hd:decide (x=y)=false:=by simp[hxy]
 have HY:=qH (HN.out hxy);clear hxy HX HN;go_wp2_with fail;go_ret;exact⟨ret_bool (by rw[decide_eq_false HY.out]),HB1.out⟩):Y:=h
theorem x99v(h:Y:=by
 go_wp2_with fail;go_ret;refine⟨ret_bool ?_,HB.out⟩;have h:=HT.out;rw[List.take_of_length_le (by omega),List.take_of_length_le (by omega)]at h;rw[decide_eq_true h]):Y:=h
def I64(n:Int):Prop:= -9223372036854775808<=n∧n<=9223372036854775807
def rOp:CR Stp:=fun w cs o=>∃B c,cs=[iv o.at_,iv o.len,.slice B o.data.length c]∧o.data.length<=c∧o.data.length<=140737488351232∧Bts w B o.data∧I64 o.at_∧I64 o.len
theorem stays_op:Stays rOp:=by
 rintro w w' cs o ⟨B,c,rfl,h1,h2,h3,h4,h5⟩ hb;exact⟨B,c,rfl,h1,h2,h3.stays hb,h4,h5⟩
abbrev Sps (w:World) (A:OA) (l:List Stp):Prop:=Elems 3 rOp w A l
theorem Sps.stays(h:Sps w A l)(hb:Below w.heap.size w w'):Sps w' A l:=Elems.stays stays_op h hb
theorem Sps.nil(w:World)(A:OA):Sps w A []:=fun i hi=>absurd hi (by simp)
theorem Sps.at_(h:Sps w A l)(hi:i<l.length):∃b o B c,A=some ⟨b,o,none⟩∧b<w.heap.size∧
  w.cell? ⟨b,o+i*3,none⟩=some (iv l[i].at_)∧w.cell? ⟨b,o+i*3+1,none⟩=some (iv l[i].len)∧w.cell? ⟨b,o+i*3+2,none⟩=some (.slice B l[i].data.length c)∧
  l[i].data.length<=c∧l[i].data.length<=140737488351232∧Bts w B l[i].data∧I64 l[i].at_∧I64 l[i].len:=by
 obtain⟨b,o,rfl,hlt,cs,hl,hc,B,c,rfl,h1,h2,h3,h4,h5⟩:=h i hi;exact⟨b,o,B,c,rfl,hlt,hc 0 (by simp),hc 1 (by simp),hc 2 (by simp),h1,h2,h3,h4,h5⟩
section
variable {H:Type} {enc:TypeId×Value->H} {P:Program} {w:World} {sp:Nat->Bool} {held:Bool}
theorem bts_rSlice{cs:List Value}{l:LU}(h:rSlice 1 rByte w cs l):∃B c,cs=[.slice B l.length c]∧l.length<=c∧l.length<=140737488351232∧Bts w B l:=by
 obtain⟨A,c,rfl,h1,h2,h3⟩:=h;exact⟨A,c,rfl,h1,h2,h3.bts⟩
theorem readBy_op{f0 f1 f2:Field}(ht:P.underlying t=some (.struct #[f0,f1,f2]))(hs:P.cellsOf t=3)
  (o0:f0.offset=0) (o1:f1.offset=1) (o2:f2.offset=2) (k0:P.cellsOf f0.type=1) (k1:P.cellsOf f1.type=1) (k2:P.cellsOf f2.type=1)
  (t0:P.underlying f0.type=some (.int .i64)) (t1:P.underlying f1.type=some (.int .i64)) (t2:P.underlying f2.type=some (.slice e)) (he:P.underlying e=some (.int .u8)) (hes:P.cellsOf e=1):ReadBy enc P w sp held t rOp:=by
 intro fuel cs d ps h hb;obtain⟨hl,hf⟩:=field_of ht h hb;obtain⟨a,ha⟩:=hf 0 f0 rfl (readBy_int t0);obtain⟨b,hb⟩:=hf 1 f1 rfl (readBy_int t1);obtain⟨c,hc⟩:=hf 2 f2 rfl (readBy_slice t2 hes (by omega) (readBy_byte he));rw[hs]at hl
 match cs,hl with
 |[x,y,z],_=>
  rw[o0,k0]at ha;rw[o1,k1]at hb;rw[o2,k2]at hc;obtain⟨ha,ha'⟩:=ha;obtain⟨hb,hb'⟩:=hb;obtain⟨B,n,hz,h1,h2,h3⟩:=bts_rSlice hc;simp at ha hb hz;subst ha hb hz;exact⟨⟨a,b,c⟩,B,n,rfl,h1,h2,h3,ha',hb'⟩
end
theorem reads_op{H:Type}{enc:TypeId×Value->H}{sp:Nat->Bool}{held:Bool}:ReadBy enc Try.prog w sp held 117 rOp:=
 readBy_op Try.underlying117 (by kernel_rfl) rfl rfl rfl (by kernel_rfl) (by kernel_rfl) (by kernel_rfl) Try.underlying3 Try.underlying3 Try.underlying22 Try.underlying5 (by kernel_rfl)
end
theorem x017(h:Y:=by
 have:=HS.out;unfold ScAt at this;rw[List.drop_length]at this;rw[<-this];rfl):Y:=h
theorem x1gl(h:Y:=by
 go_wp2_with fail;go_ret;exact⟨ret_int (by rw[HR.out,HE.out]),(HB.out.alloc hsz _)⟩):Y:=h
theorem x5ag(h:Y:=by
 go_wp2_with fail;go_ret;exact⟨ret_int (by rw[HR.out,HF.out]),HB.out⟩):Y:=h
theorem x614(h:Y:=by
 by_cases g:data.length<=64
 ·exact absurd ⟨fun _=>⟨rfl,e1,g⟩,fun h=>absurd rfl h⟩ hf'
 omega):Y:=h
theorem x8o7(h:Y:=by
 clear hm h1;go_enter Try.func19,Try.ntmps19;go_wp2_with fail;go_ret;exact⟨ret_int HR.out.symm,Below.refl _ _⟩):Y:=h
theorem dc_many(h:40<l.length∨old<0∨64<old∨size<0∨64<size):deltaCheck l old size=1:=by unfold deltaCheck;rw[if_pos h]
theorem dc_go(h:¬(40<l.length∨old<0∨64<old∨size<0∨64<size)):deltaCheck l old size=stepsCheck old l size:=by unfold deltaCheck;rw[if_neg h]
theorem sc_form(h:¬o.form):stepsCheck old (o::l) size=3:=by unfold stepsCheck;rw[if_pos h]
theorem sc_range(h:o.form)(g:¬o.in_ old):stepsCheck old (o::l) size=2:=by unfold stepsCheck;rw[if_neg (by simpa using h),if_pos g]
theorem sc_many(h:o.form)(g:o.in_ old)(k:size<o.n):stepsCheck old (o::l) size=1:=by unfold stepsCheck;rw[if_neg (by simpa using h),if_neg (by simpa using g),if_pos k]
theorem sc_on(h:o.form)(g:o.in_ old)(k:¬size<o.n):stepsCheck old (o::l) size=stepsCheck old l (size-o.n):=by
 conv=>lhs;unfold stepsCheck
 rw[if_neg (by simpa using h),if_neg (by simpa using g),if_neg k]
def ScAt(old:Int)(l:List Stp)(size:Int)(k:Nat)(s:Int):Prop:=stepsCheck old (l.drop k) s=stepsCheck old l size
theorem ScAt.here{s:Int}(h:ScAt old l size k s)(hk:k<l.length):stepsCheck old (l[k]::l.drop (k+1)) s=stepsCheck old l size:=by
 unfold ScAt at h;rwa [List.drop_eq_getElem_cons hk]at h
theorem deltaCheck_calls(A:OA)(c:Nat)(l:List Stp)(old size:Int)(w:World)(hl:l.length<=3518437208780)(hr:Sps w A l):
  Calls Try.prog 19 #[.slice A l.length c,iv old,iv size] w (RetB w (iv (deltaCheck l old size))):=by
 by_cases hm:40<l.length∨old<0∨64<old∨size<0∨64<size
 ·have HR:=qH (dc_many hm);by_cases h1:40<l.length
  ·have h1':(40:Int)<(l.length:Int):=by omega
   exact x8o7
  have h1':¬(40:Int)<(l.length:Int):=by omega
  by_cases h2:old<0
  ·exact x8o7
  by_cases h2:64<old
  ·exact x8o7
  by_cases h2:size<0
  ·exact x8o7
  have h2:64<size:=by omega
  exact x8o7
 have HR:=qH (dc_go hm);have h1:¬(40:Int)<(l.length:Int):=by omega
 have h1:¬old<0:=by omega
 have h1:¬64<old:=by omega
 have h1:¬size<0:=by omega
 have h2:¬64<size:=by omega
 have h3:l.length<=40:=by omega
 clear hm;go_enter Try.func19,Try.ntmps19;go_wp2_with fail;go_loopw [31,2] (fun i s wr=>∃(k:Nat) (z:Int),k<=l.length∧i=.int .i64 k∧s=.int .i64 z∧0<=z∧z<=64∧Hid (ScAt old l size k z)∧Hid (Below w.heap.size w wr)) (fun i _ _=>l.length-(intOf i).toNat)
 case atStart=>exact⟨0,size,Nat.zero_le _,rfl,rfl,by omega,by omega,qH (by unfold ScAt;rw[List.drop_zero]),qH (Below.refl _ _)⟩
 case round=>
  clear h1 h2;obtain⟨k,z,hk,rfl,rfl,hz2,hz1,HS,HB⟩:=hrel;by_cases hlt:k<l.length
  ·obtain⟨b,o,B,cc,rfl,hs,hc3,hc1,hc2,hd1,hd2,-,hi2,hi1⟩:=(hr.stays HB.out).at_ hlt;have HH:=qH (HS.out.here hlt);have hsz:=HB.out.size;clear HS;unfold I64 at hi2 hi1;obtain⟨i1,i01⟩:=hi2;obtain⟨i1,i2⟩:=hi1;generalize hx:l[k]=x at *
   clear hx;obtain⟨at_,len,data⟩:=x;dsimp only at *
   have hdl:0<=(data.length:Int):=by omega
   by_cases hf:(⟨at_,len,data⟩:Stp).form
   ·by_cases hin:(⟨at_,len,data⟩:Stp).in_ old
    ·have hn:(⟨at_,len,data⟩:Stp).n=len+data.length:=rfl;have hin':=hin;unfold Stp.in_ at hin';dsimp only at hin';obtain⟨j1,j2,j3⟩:=hin';have hf':=hf;unfold Stp.form at hf';dsimp only at hf';by_cases hzn:z<len+data.length
     ·have HE:=qH (HH.out.symm.trans (sc_many hf hin (by rw[hn];exact hzn)));clear hf hin hn HH;by_cases e1:len=0
      ·obtain⟨rfl,e2,e3⟩:=hf'.1 e1;subst e1;have e1:1<=data.length:=by rcases data with _|⟨y,d⟩;exact absurd rfl e2;simp
       have q1:((data.length:Int)==0)=false:=by simp;omega
       have q1:¬(64:Int)<(data.length:Int):=by omega
       clear hf' e2;exact x1gl
      have e2:=hf'.2 e1;subst e2;have q1:(len==0)=false:=by simp[e1]
      have q1:(len !=0)=true:=by simp[e1]
      clear hf' e1;simp only[List.length_nil,Int.ofNat_eq_natCast,Int.natCast_zero,Int.add_zero]at *
      exact x1gl
     have HE:=qH ((sc_on hf hin (by rw[hn];exact hzn)).symm.trans HH.out);clear hf hin HH;rw[hn]at HE;clear hn;by_cases e1:len=0
     ·obtain⟨rfl,e2,e3⟩:=hf'.1 e1;subst e1;have e1:1<=data.length:=by rcases data with _|⟨y,d⟩;exact absurd rfl e2;simp
      have q1:((data.length:Int)==0)=false:=by simp;omega
      have q1:¬(64:Int)<(data.length:Int):=by omega
      clear hf' e2;go_wp2_with fail;go_roundw
      case rel=>exact⟨k+1,z-(0+data.length),by omega,by go_num,by simp,by omega,by omega,HE,qH (HB.out.alloc hsz _)⟩
      case measure=>simp[intOf];omega
     have e2:=hf'.2 e1;subst e2;have q1:(len==0)=false:=by simp[e1]
     have q1:(len !=0)=true:=by simp[e1]
     clear hf' e1;have HE1:Hid (ScAt old l size (k+1) (z-len)):=by
      have:=HE.out;refine qH ?_;simpa[ScAt]using this
     clear HE;simp only[List.length_nil,Int.ofNat_eq_natCast,Int.natCast_zero,Int.add_zero]at *
     go_wp2_with fail;go_roundw
     case rel=>exact⟨k+1,z-len,by omega,by go_num,by simp,by omega,by omega,HE1,qH (HB.out.alloc hsz _)⟩
     case measure=>simp[intOf];omega
    ·have HE:=qH (HH.out.symm.trans (sc_range hf hin));have hf':=hf;unfold Stp.form at hf';dsimp only at hf';have hin':=hin;unfold Stp.in_ at hin';dsimp only at hin';clear hf hin HH;have e1:len≠0:=by
      intro e2;obtain⟨e1,_,_⟩:=hf'.1 e2;omega
     have e2:=hf'.2 e1;subst e2;have q1:(len==0)=false:=by simp[e1]
     have q1:(len !=0)=true:=by simp[e1]
     clear hf' e1;simp only[List.length_nil,Int.ofNat_eq_natCast,Int.natCast_zero,Int.add_zero]at *
     have HI:=qH hin';clear hin';by_cases r1:len<0
     ·exact x1gl
     by_cases r1:at_<0
     ·exact x1gl
     by_cases r1:old<len
     ·exact x1gl
     have r1:old-len<at_:=by have:=HI.out;omega
     exact x1gl
   have HE:=qH (HH.out.symm.trans (sc_form hf));have hf':=hf;unfold Stp.form at hf';dsimp only at hf';clear hf HH;by_cases e5:len=0
   ·subst e5;by_cases e1:at_=0
    ·subst e1;by_cases e1:data=[]
     ·subst e1;clear hf';simp only[List.length_nil,Int.ofNat_eq_natCast,Int.natCast_zero,Int.add_zero]at *
      exact x1gl
     have e2:1<=data.length:=by rcases data with _|⟨y,d⟩;exact absurd rfl e1;simp
     have e2:(64:Int)<(data.length:Int):=by
      exact x614
     have q1:((data.length:Int)==0)=false:=by simp;omega
     clear hf' e1;exact x1gl
    have q1:(at_ !=0)=true:=by simp[e1]
    clear hf' e1;exact x1gl
   have e1:data≠[]:=fun e=>hf' ⟨fun h=>absurd h e5,fun _=>e⟩;have e2:1<=data.length:=by rcases data with _|⟨y,d⟩;exact absurd rfl e1;simp
   have q1:(len==0)=false:=by simp[e5]
   have q1:(len !=0)=true:=by simp[e5]
   have q1:(0:Int)<(data.length:Int):=by omega
   clear hf' e5 e1;exact x1gl
  obtain rfl:k=l.length:=by omega
  have HE:Hid (stepsCheck old l size=if z=0 then 0 else 3):=by
   exact x017
  clear HS;by_cases e:z=0
  ·have HF:=qH (HE.out.trans (if_pos e));subst e;exact x5ag
  have HF:=qH (HE.out.trans (if_neg e));have q:(z !=0)=true:=by simp[e]
  clear e;exact x5ag
theorem x3ef(h:Y:=by
 go_wp2_with fail;refine HC.out.mono ?_;rintro e w1 ⟨rfl,hb1⟩;have HB1:=qH (HB.out.trans (hb1.mono HB.out.size));clear hb1;go_wp2_with fail;go_ret;exact⟨ret_int hz.out.symm,HB1.out⟩):Y:=h
theorem x6xp(h:Y:=by
 have hz:=qH (patCheck_bad (p:=⟨f,t,o,n,sz,l⟩) (by unfold Pat.range;dsimp only;omega));clear HC;go_enter Try.func29,Try.ntmps29;go_wp2_with fail;go_ret;exact⟨ret_int hz.out.symm,HB.out⟩):Y:=h
theorem patCheck_bad(h:¬p.range):patCheck p=2:=by unfold patCheck;rw[if_pos h]
theorem patCheck_in(h:p.range):patCheck p=deltaCheck p.ops 64 p.size:=by unfold patCheck;rw[if_neg (by simpa using h)]
theorem patCheckA_calls(A:OA)(c:Nat)(f t o n sz:Int)(l:List Stp)(w:World)(hl:l.length<=3518437208780)(hs:Sps w A l):
  Calls Try.prog 29 #[.agg #[iv f,iv t,iv o,iv n,iv sz,.slice A l.length c]] w (RetB w (iv (patCheck ⟨f,t,o,n,sz,l⟩))):=by
 have hb:Below w.heap.size w (w.alloc (.cells #[iv f,iv t,iv o,iv n,iv sz,.slice A l.length c] 35)):=(Below.refl _ _).alloc (Nat.le_refl _) _;have HB:=qH hb;have HC:=qH (deltaCheck_calls A c l 64 sz _ hl (hs.stays hb));clear hb hs;by_cases h8:f<(1:Int)
 ·exact x6xp
 by_cases h1:(30:Int)<f
 ·exact x6xp
 by_cases h1:t<(1:Int)
 ·exact x6xp
 by_cases h1:(30:Int)<t
 ·exact x6xp
 by_cases h1:o<(0:Int)
 ·exact x6xp
 by_cases h1:(65535:Int)<o
 ·exact x6xp
 by_cases h1:n<(0:Int)
 ·exact x6xp
 by_cases h1:(65535:Int)<n
 ·exact x6xp
 have hz:=qH (patCheck_in (p:=⟨f,t,o,n,sz,l⟩) (by unfold Pat.range;dsimp only;omega));go_enter Try.func29,Try.ntmps29;exact x3ef
section
open Go.RowKit Go.WideShapes Go.ChangeShapes Go.ChangeAt
abbrev patC (p:Pat) (A:OA) (c:Nat):List Value:=[iv p.from_,iv p.to_,iv p.old,iv p.new_,iv p.size,.slice A p.ops.length c]
structure PatIn(w:World)(p:Pat)(A:OA)(c:Nat):Prop where
 cap:p.ops.length<=c
 len:p.ops.length<=3518437208780
 ops:Sps w A p.ops
 i0:I64 p.from_
 i1:I64 p.to_
 i2:I64 p.old
 i3:I64 p.new_
 i4:I64 p.size
theorem PatIn.stays(h:PatIn w p A c)(hb:Below w.heap.size w w'):PatIn w' p A c:=
 ⟨h.cap,h.len,h.ops.stays hb,h.i0,h.i1,h.i2,h.i3,h.i4⟩
def rPat:CR Pat:=fun w cs p=>∃A c,cs=patC p A c∧PatIn w p A c
abbrev chkC (x:Chk) (A:OA) (c:Nat):List Value:=[iv x.from_,iv x.to_,iv x.n,iv x.of_,.slice A x.data.length c]
structure ChkIn(w:World)(x:Chk)(A:OA)(c:Nat):Prop where
 cap:x.data.length<=c
 len:x.data.length<=140737488351232
 data:Bts w A x.data
 i0:I64 x.from_
 i1:I64 x.to_
 i2:I64 x.n
 i3:I64 x.of_
theorem ChkIn.stays{x:Chk}(h:ChkIn w x A c)(hb:Below w.heap.size w w'):ChkIn w' x A c:=
 ⟨h.cap,h.len,h.data.stays hb,h.i0,h.i1,h.i2,h.i3⟩
def rChk:CR Chk:=fun w cs x=>∃A c,cs=chkC x A c∧ChkIn w x A c
theorem stays_chk:Stays rChk:=by
 rintro w w' cs p ⟨A,c,rfl,h⟩ hb;exact⟨A,c,rfl,h.stays hb⟩
abbrev Chs (w:World) (A:OA) (l:List Chk):Prop:=Elems 5 rChk w A l
theorem Chs.stays{l:List Chk}(h:Chs w A l)(hb:Below w.heap.size w w'):Chs w' A l:=Elems.stays stays_chk h hb
theorem Chs.nil(w:World)(A:OA):Chs w A []:=fun i hi=>absurd hi (by simp)
theorem Chs.at_{l:List Chk}(h:Chs w A l)(hi:i<l.length):∃b o B c,A=some ⟨b,o,none⟩∧b<w.heap.size∧
  w.cell? ⟨b,o+i*5,none⟩=some (iv l[i].from_)∧w.cell? ⟨b,o+i*5+1,none⟩=some (iv l[i].to_)∧w.cell? ⟨b,o+i*5+2,none⟩=some (iv l[i].n)∧w.cell? ⟨b,o+i*5+3,none⟩=some (iv l[i].of_)∧
  w.cell? ⟨b,o+i*5+4,none⟩=some (.slice B l[i].data.length c)∧ChkIn w l[i] B c:=by
 obtain⟨b,o,rfl,hlt,cs,hl,hc,B,c,rfl,h1⟩:=h i hi;exact⟨b,o,B,c,rfl,hlt,hc 0 (by simp),hc 1 (by simp),hc 2 (by simp),hc 3 (by simp),hc 4 (by simp),h1⟩
section
variable {H:Type} {enc:TypeId×Value->H} {P:Program} {w:World} {sp:Nat->Bool} {held:Bool}
theorem readBy_pat{f0 f1 f2 f3 f4 f5:Field}(ht:P.underlying t=some (.struct #[f0,f1,f2,f3,f4,f5]))(hs:P.cellsOf t=6)
  (o0:f0.offset=0) (o1:f1.offset=1) (o2:f2.offset=2) (o3:f3.offset=3) (o4:f4.offset=4) (o5:f5.offset=5)
  (k0:P.cellsOf f0.type=1) (k1:P.cellsOf f1.type=1) (k2:P.cellsOf f2.type=1) (k3:P.cellsOf f3.type=1) (k4:P.cellsOf f4.type=1) (k5:P.cellsOf f5.type=1)
  (t0:P.underlying f0.type=some (.int .i64)) (t1:P.underlying f1.type=some (.int .i64)) (t2:P.underlying f2.type=some (.int .i64)) (t3:P.underlying f3.type=some (.int .i64)) (t4:P.underlying f4.type=some (.int .i64))
  (t5:P.underlying f5.type=some (.slice e)) (he:P.cellsOf e=3) (hB:P.bytesOf e=40) (hR:ReadBy enc P w sp held e rOp):ReadBy enc P w sp held t rPat:=by
 intro fuel cs d ps h hb;obtain⟨hl,hf⟩:=field_of ht h hb;obtain⟨a6,h6⟩:=hf 0 f0 rfl (readBy_int t0);obtain⟨a1,h1⟩:=hf 1 f1 rfl (readBy_int t1);obtain⟨a2,h2⟩:=hf 2 f2 rfl (readBy_int t2);obtain⟨a3,h3⟩:=hf 3 f3 rfl (readBy_int t3);obtain⟨a4,h4⟩:=hf 4 f4 rfl (readBy_int t4);obtain⟨a5,h5⟩:=hf 5 f5 rfl (readBy_sliceM (M:=3518437208780) t5 he (by omega) hR (fun n _ h=>by rw[hB]at h;omega));rw[hs]at hl;rw[o0,k0]at h6;rw[o1,k1]at h1;rw[o2,k2]at h2;rw[o3,k3]at h3;rw[o4,k4]at h4;rw[o5,k5]at h5
 match cs,hl with
 |[c0,c1,c2,c3,c4,c5],_=>
  obtain⟨h6,g0⟩:=h6;obtain⟨h1,g1⟩:=h1;obtain⟨h2,g2⟩:=h2;obtain⟨h3,g3⟩:=h3;obtain⟨h4,g4⟩:=h4;obtain⟨A,c,h5,g5,g6,g7⟩:=h5;simp at h6 h1 h2 h3 h4 h5;subst h6 h1 h2 h3 h4 h5;exact⟨⟨a6,a1,a2,a3,a4,a5⟩,A,c,rfl,g5,g6,g7,g0,g1,g2,g3,g4⟩
theorem readBy_chk{f0 f1 f2 f3 f4:Field}(ht:P.underlying t=some (.struct #[f0,f1,f2,f3,f4]))(hs:P.cellsOf t=5)
  (o0:f0.offset=0) (o1:f1.offset=1) (o2:f2.offset=2) (o3:f3.offset=3) (o4:f4.offset=4)
  (k0:P.cellsOf f0.type=1) (k1:P.cellsOf f1.type=1) (k2:P.cellsOf f2.type=1) (k3:P.cellsOf f3.type=1) (k4:P.cellsOf f4.type=1)
  (t0:P.underlying f0.type=some (.int .i64)) (t1:P.underlying f1.type=some (.int .i64)) (t2:P.underlying f2.type=some (.int .i64)) (t3:P.underlying f3.type=some (.int .i64))
  (t4:P.underlying f4.type=some (.slice e)) (te:P.underlying e=some (.int .u8)) (he:P.cellsOf e=1):ReadBy enc P w sp held t rChk:=by
 intro fuel cs d ps h hb;obtain⟨hl,hf⟩:=field_of ht h hb;obtain⟨a5,h5⟩:=hf 0 f0 rfl (readBy_int t0);obtain⟨a1,h1⟩:=hf 1 f1 rfl (readBy_int t1);obtain⟨a2,h2⟩:=hf 2 f2 rfl (readBy_int t2);obtain⟨a3,h3⟩:=hf 3 f3 rfl (readBy_int t3);obtain⟨a4,h4⟩:=hf 4 f4 rfl (readBy_slice t4 he (by omega) (readBy_byte te));rw[hs]at hl;rw[o0,k0]at h5;rw[o1,k1]at h1;rw[o2,k2]at h2;rw[o3,k3]at h3;rw[o4,k4]at h4
 match cs,hl with
 |[c0,c1,c2,c3,c4],_=>
  obtain⟨h5,g0⟩:=h5;obtain⟨h1,g1⟩:=h1;obtain⟨h2,g2⟩:=h2;obtain⟨h3,g3⟩:=h3;obtain⟨A,c,q4,g5,g6,g7⟩:=bts_rSlice h4;simp at h5 h1 h2 h3 q4;subst h5 h1 h2 h3 q4;exact⟨⟨a5,a1,a2,a3,a4⟩,A,c,rfl,g5,g6,g7,g0,g1,g2,g3⟩
end
def ArgPat(W:World)(v:Value)(p:Pat):Prop:=∃A c,v=.agg (patC p A c).toArray∧PatIn W p A c
def ArgChk(W:World)(v:Value)(x:Chk):Prop:=∃A c,v=.agg (chkC x A c).toArray∧ChkIn W x A c
def ArgChks(W:World)(v:Value)(l:List Chk):Prop:=∃A c,v=.slice A l.length c∧l.length<=c∧l.length<=2513169434843∧Chs W A l
def ArgInts(W:World)(v:Value)(l:List Int):Prop:=∃A c,v=.slice A l.length c∧l.length<=c∧l.length<=140737488351232∧Nts W A l∧∀x∈l,I64 x
end
def opCell(o:Stp)(d:Option Addr×Nat):List Value:=[iv o.at_,iv o.len,.slice d.1 o.data.length d.2]
def opCells:List Stp->List (Option Addr×Nat)->List Value
 |o::l,d::ds=>opCell o d++opCells l ds
 |_,_=>[]
theorem opCells_len:∀(l:List Stp) (ds:List (Option Addr×Nat)),ds.length=l.length->(opCells l ds).length=l.length*3
 |[],[],_=>rfl
 |[],_::_,h=>by simp at h
 |_::_,[],h=>by simp at h
 |o::l,d::ds,h=>by
  have:=opCells_len l ds (by simpa using h);simp[opCells,opCell,this];omega
theorem opCells_snoc:∀(l:List Stp) (ds:List (Option Addr×Nat)) (o:Stp) (d:Option Addr×Nat),ds.length=l.length->opCells (l++[o]) (ds++[d])=opCells l ds++opCell o d
 |[],[],o,d,_=>by simp[opCells]
 |[],_::_,_,_,h=>by simp at h
 |_::_,[],_,_,h=>by simp at h
 |x::l,y::ds,o,d,h=>by
  have:=opCells_snoc l ds o d (by simpa using h);simp[opCells,this]
theorem opCells_at:∀(l:List Stp) (ds:List (Option Addr×Nat)),ds.length=l.length->∀(i j:Nat) (o:Stp) (d:Option Addr×Nat),l[i]?=some o->ds[i]?=some d->j<3->(opCells l ds)[i*3+j]?=(opCell o d)[j]?
 |[],[],_,i,j,o,d,h,_,_=>by simp at h
 |[],_::_,h,_,_,_,_,_,_,_=>by simp at h
 |_::_,[],h,_,_,_,_,_,_,_=>by simp at h
 |x::l,y::ds,h,i,j,o,d,hi,hd,hj=>by
  match i with
  |0=>
   have e1:x=o:=by simpa using hi
   have e2:y=d:=by simpa using hd
   subst e1 e2;rw[opCells,Nat.zero_mul,Nat.zero_add,List.getElem?_append_left (by simpa[opCell]using hj)]
  |i+1=>
   have:=opCells_at l ds (by simpa using h) i j o d (by simpa using hi) (by simpa using hd) hj;rw[opCells,List.getElem?_append_right (by simp[opCell];omega),<-this];congr 1;simp[opCell];omega
theorem snoc_at{α:Type}{l:List α}{x y:α}(h:(l++[x])[i]?=some y):l[i]?=some y∨(i=l.length∧y=x):=by
 rcases Nat.lt_trichotomy i l.length with hi|hi|hi
 ·rw[List.getElem?_append_left hi]at h;exact .inl h
 ·subst hi;simp at h;exact .inr ⟨rfl,h.symm⟩
 rw[List.getElem?_eq_none (by simp;omega)]at h;cases h
def Fresh(base:Nat)(w:World)(P:World->Prop):Prop:=∀v:World,(∀k,base<=k->k<w.heap.size->v.heap[k]?=w.heap[k]?)->P v
theorem Fresh.now(h:Fresh base w P):P w:=h w fun _ _ _=>rfl
theorem Fresh.below{B:Nat}(h:Fresh base w P)(hb:Below B w w')(hB:w.heap.size<=B):Fresh base w' P:=
 fun v hv=>h v fun k h1 h2=>(hv k h1 (Nat.lt_of_lt_of_le h2 hb.size)).trans (hb.block k (by omega))
theorem Fresh.mono{base':Nat}(h:Fresh base w P)(hb:base'<=base):Fresh base' w P:=fun v hv=>h v fun k h1 h2=>hv k (by omega) h2
theorem Fresh.imp{Q:World->Prop}(h:Fresh base w P)(hq:∀v,P v->Q v):Fresh base w Q:=fun v hv=>hq v (h v hv)
theorem Fresh.row(h:Fresh base w P)(hg:g<base)(cs:Array Value):Fresh base (w.setRow g cs) P:=
 fun v hv=>h v fun k h1 h2=>(hv k h1 (by simpa[World.setRow]using h2)).trans (setRow_other w g k cs (by omega))
theorem Fresh.drewN(h:Fresh base w P)(n:Nat):Fresh base (w.drewN n) P:=h
theorem Fresh.const(h:∀v,P v):Fresh base w P:=fun v _=>h v
theorem own_fresh{v:World}{e size:Nat}(h:Own w base e size A n c xs)(hv:∀k,base<=k->k<w.heap.size->v.heap[k]?=w.heap[k]?):Own v base e size A n c xs:=by
 obtain⟨h1,h2⟩:=h;refine⟨h1,?_⟩;rcases h2 with h2|⟨g,cap,cur,hv',hg,hh,r⟩
 ·exact Or.inl h2
 exact Or.inr ⟨g,cap,cur,hv',hg,(hv g hg (blk_lt hh)).trans hh,r⟩
def OpRet3(w:World)(l:List Stp)(n:Int):Ending->World->Prop:=fun en w'=>
 ∃A c,en=.returned (.tuple #[.slice A l.length c,iv n])∧Fresh w.heap.size w' (fun v=>Sps v A l)∧l.length<=c∧Below w.heap.size w w'
theorem data_le(old:LU):∀(l:List Stp),∀o∈l,o.data.length<=(applied old l).length
 |[],_,h=>by cases h
 |x::l,o,h=>by
  rw[applied_cons,List.length_append];rcases List.mem_cons.1 h with rfl|h
  ·simp[Stp.piece];omega
  have:=data_le old l o h;omega
theorem snoc_of{α:Type}(l:List α)(h:l≠[]):∃m x,l=m++[x]:=⟨l.dropLast,l.getLast h,(List.dropLast_concat_getLast h).symm⟩
theorem addByte_len(l:List Stp)(x:UInt8):(addByte l x).length<=l.length+1:=by
 by_cases h:l=[]
 ·subst h;simp[addByte]
 obtain⟨m,o,rfl⟩:=snoc_of l h;rw[addByte_snoc];split<;>simp
theorem diffN_len(old b:LU):∀q,(diffN old b q).2.length<=q
 |0=>by simp[diffN]
 |q+1=>by
  have ih:=diffN_len old b q
  show (diffStep old b (diffN old b q)).2.length<=q+1;generalize diffN old b q=p at *
  unfold diffStep;split
  ·split
   ·simp only[List.length_append,List.length_cons,List.length_nil];omega
   ·have:=addByte_len p.2 (b.getD p.1 0)
    show (addByte p.2 (b.getD p.1 0)).length<=q+1;omega
  omega
theorem cloneBytes_calls(A:OA)(n c:Nat)(cs:List Value)(w:World)(hl:cs.length=n*1)(hn0:n<=140737488355328)(hr:Src w A cs)(h1:∀u∈cs,u.oneCell'=true):
  Calls Try.prog 100 #[.slice A n c] w (SlRet w 5 1 n cs):=by
 rcases A with _|ad
 ·have h1:cs.length=0:=by
   exact x5fs
  obtain rfl:n=0:=by omega
  obtain rfl:cs=[]:=List.eq_nil_of_length_eq_zero h1;have hn:=fun (wx:World) (a:OA) (n c n' c':Nat)=>Lib.run_eql_slice_nil (P:=Try.prog) wx 22 5 a n c n' c' Try.underlying22;clear h1 hl;go_enter Try.func100,Try.ntmps100
  go_wp2
  go_ret;exact⟨none,0,rfl,Own.nil_ _ _ _ _,Below.refl _ _⟩
 have hn:=fun (wx:World) (a:OA) (n c n' c':Nat)=>Lib.run_eql_slice_nil (P:=Try.prog) wx 22 5 a n c n' c' Try.underlying22;have ho:Own (w.alloc (.cells #[] 5)) w.heap.size 5 1 (some ⟨w.heap.size,0,none⟩) 0 0 []:=own_zero w _ _;have hs:=hr.stays ((Below.refl w.heap.size w).alloc (Nat.le_refl _) (.cells #[] 5));have hb1:0+n<=140737488355328:=by omega
 have hb2:w.heap.size<=(w.alloc (.cells #[] 5)).heap.size:=by simp
 have HL:=qH hl;clear hl;go_enter Try.func100,Try.ntmps100;go_wp2_with (at_builtin;refine wpList_app _ rfl _ _ 22 rfl elBytesB w.heap.size (some ⟨w.heap.size,0,none⟩) 0 0 [] rfl ho (some ad) n c cs rfl hs HL.out h1 hb1 hb2 ?_;intro A' c' w1 hown hg hb hx);exact x6v2
theorem x2jf(h:Y:=by
 rcases snoc_at hd' with hd'|⟨rfl,rfl⟩
 ·exact h.off i d' hd' k hk
 exact hd3 k hk):Y:=h
theorem x5hd(h:Y:=by
 intro i o' d' hi hd';rcases snoc_at hi with hi|⟨rfl,rfl⟩
 ·have hil:i<l.length:=(List.getElem?_eq_some_iff.1 hi).1;rw[List.getElem?_append_left (by omega)]at hd';obtain⟨e1,e2⟩:=h.data i o' d' hi hd';exact⟨bts_grown e1 h2 (fun k hk=>(h.off i d' hd' k hk).1),e2⟩
 rw[<-hlen]at hd';simp at hd';subst hd';exact⟨bts_grown hd h2 (fun k hk=>(hd3 k hk).1),hd2⟩):Y:=h
structure CRow(w:World)(base:Nat)(l:List Stp)(ds:List (Option Addr×Nat))(A:OA)(c:Nat):Prop where
 len:ds.length=l.length
 row:Own w base 117 3 A l.length c (opCells l ds)
 data:∀(i:Nat) (o:Stp) (d:Option Addr×Nat),l[i]?=some o->ds[i]?=some d->Bts w d.1 o.data∧o.data.length<=d.2
 off:∀(i:Nat) (d:Option Addr×Nat),ds[i]?=some d->∀k,d.1.map (·.block)=some k->A.map (·.block)≠some k∧k<w.heap.size
theorem CRow.nil(w:World)(base:Nat):CRow w base [] [] none 0:=⟨rfl,Own.nil_ _ _ _ _,fun i o d h=>by simp at h,fun i d h=>by simp at h⟩
theorem CRow.below(h:CRow w base l ds A c)(hb:Below w.heap.size w w'):CRow w' base l ds A c:=
 ⟨h.len,h.row.below hb,fun i o d h1 h2=>⟨(h.data i o d h1 h2).1.stays hb,(h.data i o d h1 h2).2⟩,fun i d h1 k hk=>⟨(h.off i d h1 k hk).1,Nat.lt_of_lt_of_le (h.off i d h1 k hk).2 hb.size⟩⟩
theorem bts_grown{row:Option Nat}{l:LU}(h:Bts w A l)(hg:w.grownBy w' row)(hA:∀k,A.map (·.block)=some k->row≠some k):Bts w' A l:=by
 intro i hi;obtain⟨b,o,rfl,hlt,hc⟩:=h i hi;refine⟨b,o,rfl,Nat.lt_of_lt_of_le hlt hg.size,?_⟩;rw[World.cell?_of_block (hg.block b hlt (fun e=>hA b rfl e.symm))];exact hc
theorem bts_set{p:Addr}{l:LU}(h:Bts w A l)(hA:∀k,A.map (·.block)=some k->p.block≠k):Bts (w.setCell p v) A l:=by
 intro i hi;obtain⟨b,o,rfl,hlt,hc⟩:=h i hi;refine⟨b,o,rfl,by simpa using hlt,?_⟩;rw[World.cell?_setCell_other _ _ _ _ (fun e=>hA b rfl (by rw[e]))];exact hc
theorem CRow.push{A':OA}{c':Nat}{d:Option Addr×Nat}(h:CRow w base l ds A c)
  (h1:Own w' base 117 3 A' (l.length+1) c' (opCells l ds++opCell o d)) (h2:w.grownBy w' (A.map (·.block))) (h3:A'.map (·.block)=A.map (·.block)∨A'.map (·.block)=some w.heap.size)
  (hd:Bts w d.1 o.data) (hd2:o.data.length<=d.2) (hd3:∀k,d.1.map (·.block)=some k->A.map (·.block)≠some k∧k<w.heap.size):
  CRow w' base (l++[o]) (ds++[d]) A' c':=by
 have hlen:=h.len;refine⟨by simp[hlen],?_,?_,?_⟩
 ·rw[opCells_snoc _ _ _ _ hlen,List.length_append];exact h1
 ·exact x5hd
 intro i d' hd' k hk;have key:A.map (·.block)≠some k∧k<w.heap.size:=by
  exact x2jf
 refine⟨?_,Nat.lt_of_lt_of_le key.2 h2.size⟩;rcases h3 with h3|h3
 ·rw[h3];exact key.1
 rw[h3];intro e;injection e with e;omega
theorem CRow.sps(h:CRow w base l ds A c)(hb:∀o∈l,I64 o.at_∧I64 o.len∧o.data.length<=140737488351232):Sps w A l:=by
 intro i hi;have hd:i<ds.length:=by rw[h.len];exact hi
 have hl:l[i]?=some l[i]:=List.getElem?_eq_getElem hi;have hds:ds[i]?=some ds[i]:=List.getElem?_eq_getElem hd;have hs:=h.row.src;have hcl:=opCells_len l ds h.len;obtain⟨b,o,rfl,hlt,_⟩:=hs (i*3) (by omega);obtain⟨hd1,hd2⟩:=h.data i _ _ hl hds;obtain⟨b1,b2,b3⟩:=hb _ (List.getElem_mem hi);refine⟨b,o,rfl,hlt,opCell l[i] ds[i],rfl,fun j hj=>?_,ds[i].1,ds[i].2,rfl,hd2,b3,hd1,b1,b2⟩;have hj1:j<3:=by simpa[opCell]using hj
 obtain⟨b',o',e,_,hc⟩:=hs (i*3+j) (by omega);injection e with e;injection e with e1 e2;subst e1 e2;rw[show o+i*3+j=o+(i*3+j) by omega,hc];have:=opCells_at l ds h.len i j _ _ hl hds hj1;rw[List.getElem?_eq_getElem (by omega),List.getElem?_eq_getElem hj]at this;exact this
theorem x17v(h:Y:=by
 refine⟨b,o1,e1,?_,(World.cell?_of_block e).trans hc⟩;rcases Nat.lt_or_ge b v.heap.size with h|h
 ·exact h
 rw[Array.getElem?_eq_none h,Array.getElem?_eq_getElem hlt]at e;cases e):Y:=h
theorem x7td(h:Y:=by
 rcases Nat.lt_or_ge k v.heap.size with h|h
 ·exact h
 rw[Array.getElem?_eq_none h,Array.getElem?_eq_getElem hlt]at e1;cases e1):Y:=h
theorem x8f0(h:Y:=by
 exact⟨b,o1,e1,Nat.lt_of_lt_of_le hlt hs,(World.cell?_of_block e).trans hc⟩):Y:=h
theorem CRow.keep(h:CRow w base l ds A c)(hs:w.heap.size<=w'.heap.size)
  (hk:∀k,k<w.heap.size->(A.map (·.block)=some k∨∃(i:Nat) (e:Option Addr×Nat),ds[i]?=some e∧e.1.map (·.block)=some k)->w'.heap[k]?=w.heap[k]?):CRow w' base l ds A c:=by
 refine⟨h.len,h.row.same (fun k e=>hk k (h.row.block k e).2 (.inl e)),fun i o d h1 h2=>⟨?_,(h.data i o d h1 h2).2⟩,fun i d h1 k e=>⟨(h.off i d h1 k e).1,Nat.lt_of_lt_of_le (h.off i d h1 k e).2 hs⟩⟩;intro j hj;obtain⟨b,o1,e1,hlt,hc⟩:=(h.data i o d h1 h2).1 j hj;have e:=hk b hlt (.inr ⟨i,d,h2,by rw[e1];rfl⟩);exact x8f0
theorem CRow.drewN(h:CRow w base l ds A c)(n:Nat):CRow (w.drewN n) base l ds A c:=h.keep (Nat.le_refl _) (fun _ _ _=>rfl)
theorem CRow.setOther(h:CRow w base l ds A c)(hA:A.map (·.block)≠some g)(hd:∀(i:Nat) (e:Option Addr×Nat),ds[i]?=some e->e.1.map (·.block)≠some g)(v:Value){j:Nat}:CRow (w.setCell ⟨g,j,none⟩ v) base l ds A c:=by
 refine h.keep (by simp) (fun k _ hk=>Below.heap_setCell _ _ _ _ (fun e=>?_));have e:k=g:=e;subst e;rcases hk with hk|⟨i,e,h1,h2⟩
 ·exact hA hk
 exact hd i e h1 h2
theorem CRow.fresh(h:CRow w base l ds A c)(hn:∀(i:Nat) (e:Option Addr×Nat),ds[i]?=some e->∀k,e.1.map (·.block)=some k->base<=k)(hb:∀o∈l,I64 o.at_∧I64 o.len∧o.data.length<=140737488351232):Fresh base w (fun v=>Sps v A l):=by
 intro v hv;refine CRow.sps (w:=v) (base:=base) (ds:=ds) (c:=c) ⟨h.len,own_fresh h.row hv,fun i o d h1 h2=>⟨fun j hj=>?_,(h.data i o d h1 h2).2⟩,fun i d h1 k e=>⟨(h.off i d h1 k e).1,?_⟩⟩ hb
 ·obtain⟨b,o1,e1,hlt,hc⟩:=(h.data i o d h1 h2).1 j hj;have e:=hv b (hn i d h2 b (by rw[e1];rfl)) hlt;exact x17v
 have hlt:=(h.off i d h1 k e).2;have e1:=hv k (hn i d h1 k e) hlt;exact x7td
theorem x2h2(h:Y:=by
 rw[HPB.out,HPRE.out,<-List.length_append,List.append_assoc,<-opsBytes_append,List.take_append_drop]):Y:=h
theorem x7gj(h:Y:=by
 go_wp2_with fail;refine K1.out.mono ?_;rintro e w1 ⟨rfl,hb1⟩;go_wp2_with fail;go_ret2;exact⟨rfl,hba.trans (hb1.mono (by simp))⟩):Y:=h
theorem wp_asg{P:Program}{a:Act}{K:Act->World->Prop}{Q:Exit->Act->World->Prop}{x:Operand}{d:Option Tmp}{p:String}{af:Array Edge}{g:Option (Nat×Bool)}(e:a.eval x=v)(h:K (a.put d v) w):Oper.wp P ⟨d,.assign x,t,p,af,g⟩ a w K Q:=by
 unfold Oper.wp;rw[mx_assign e];exact h
section
open Go.RowKit
end
section
open Go.RowKit
end
section
open Go.RowKit
end
theorem equalBytes_calls(A B:OA)(c d:Nat)(l m:LU)(w:World)(hl:l.length<=140737488351232)(hm:m.length<=140737488351232)(ha:Bts w A l)(hb:Bts w B m):
  Calls Try.prog 94 #[.slice A l.length c,.slice B m.length d] w (RetN w (.bool (decide (l=m)))):=by
 by_cases hne:l.length=m.length
 ·have hdl:((l.length:Int) !=(m.length:Int))=false:=by simp[hne]
  have HE:=qH hne;have hm1:l.length<=m.length:=by omega
  have hm1:m.length<=l.length:=by omega
  clear hne;go_enter Try.func94,Try.ntmps94
  go_wp2
  go_loopw [5,13] (fun u i wr=>∃k n:Nat,k<=l.length∧i=.int .i64 k∧l.take k=m.take k∧w.drewN n=wr) (fun _ i _=>l.length-(intOf i).toNat)
  case atStart=>exact⟨0,0,Nat.zero_le _,rfl,rfl,rfl⟩
  case round=>
   obtain⟨k,n,hk,rfl,ht,rfl⟩:=hrel;have HT:=qH ht;clear ht;by_cases hlt:k<l.length
   ·obtain⟨b1,o1,rfl,hs1,hc1⟩:=ha k hlt;obtain⟨b1,o1,rfl,hs1,hc1⟩:=hb k (by omega);by_cases he:l[k]=m[k]'(by omega)
    ·have hd:((l[k].toNat:Int) !=((m[k]'(by omega)).toNat:Int))=false:=by simp[he]
     have HX:=qH he;clear he;go_wp2_with fail;go_quiet (fail)
     go_wp2_with fail;go_roundw
     case rel=>exact⟨k+1,_,by omega,by go_num,take_eq_succ HT.out hlt (by omega) HX.out,rfl⟩
     case measure=>simp[intOf]<;>omega
    have hd:((l[k].toNat:Int) !=((m[k]'(by omega)).toNat:Int))=true:=by simp;exact fun e=>he (UInt8.toNat_inj.1 (by omega))
    have HX:=qH he;clear he;go_wp2_with fail;go_quiet (fail)
    go_wp2_with fail;go_ret;exact⟨ret_bool (by rw[decide_eq_false (ne_of_at hlt (by omega) HX.out)]),_,(World.drewN_drewN _ _ _).symm⟩
   go_wp2_with fail;go_ret;refine⟨ret_bool ?_,_,rfl⟩;have h:=HT.out;rw[List.take_of_length_le (by omega),List.take_of_length_le (by omega)]at h;rw[decide_eq_true h]
 have hdl:((l.length:Int) !=(m.length:Int))=true:=by simp;omega
 have HX:=qH hne;clear hne;go_enter Try.func94,Try.ntmps94
 go_wp2
 go_ret;exact⟨ret_bool (by rw[decide_eq_false (fun e=>HX.out (by rw[e]))]),0,rfl⟩
theorem x0f0(h:Y:=by
 rw[<-HR.out];by_cases e:l=m
 ·subst e;simp
 rw[decide_eq_false e,decide_eq_false (fun h=>e (by injection h))]):Y:=h
theorem x2od(h:Y:=by
 go_enter Try.func93,Try.ntmps93;go_wp2_with fail;go_ret;exact⟨ret_bool HE.out.symm,((Below.refl _ _).alloc (Nat.le_refl _) _).alloc (by simp) _⟩):Y:=h
theorem x483(h:Y:=by
 go_wp2_with fail;refine HC.out.mono ?_;rintro e w1 ⟨rfl,hb1⟩;have HB1:=qH (HB.out.trans (hb1.mono HB.out.size));clear hb1;go_wp2_with fail;go_ret;exact⟨ret_bool HZ.out,HB1.out⟩):Y:=h
theorem stp_ne_at(h:x.at_≠y.at_):x≠y:=by rintro rfl;exact h rfl
theorem stp_ne_len(h:x.len≠y.len):x≠y:=by rintro rfl;exact h rfl
theorem stp_eq(h1:x.at_=y.at_)(h2:x.len=y.len):decide (x.data=y.data)=decide (x=y):=by
 obtain⟨a,l,d⟩:=x;obtain⟨b,m,e⟩:=y;simp only at h1 h2;subst h1 h2;simp
theorem same1_calls(x y:Stp)(B D:OA)(c d:Nat)(w:World)(hx:x.data.length<=140737488351232)(hy:y.data.length<=140737488351232)(hB:Bts w B x.data)(hD:Bts w D y.data):
  Calls Try.prog 93 #[.agg #[iv x.at_,iv x.len,.slice B x.data.length c],.agg #[iv y.at_,iv y.len,.slice D y.data.length d]] w (RetB w (.bool (decide (x=y)))):=by
 by_cases h1:x.at_=y.at_
 ·by_cases h2:x.len=y.len
  ·have q1:(x.at_==y.at_)=true:=by simp[h1]
   have q1:(x.len==y.len)=true:=by simp[h2]
   have HE:=qH (stp_eq h1 h2);have bl:=((Below.refl w.heap.size w).alloc (Nat.le_refl _) (.cells #[iv x.at_,iv x.len,.slice B x.data.length c] 117)).alloc (by simp) (.cells #[iv y.at_,iv y.len,.slice D y.data.length d] 117);have HC:=qH (equalBytes_calls B D c d x.data y.data _ hx hy (hB.stays bl) (hD.stays bl));have HB:=qH bl;clear h1 h2 hB hD bl;go_enter Try.func93,Try.ntmps93;go_wp2_with fail;refine HC.out.mono ?_;rintro e w1 ⟨rfl,n,rfl⟩;go_wp2_with fail;go_ret;exact⟨ret_bool HE.out,Below.drewN' HB.out n⟩
  ·have q1:(x.at_==y.at_)=true:=by simp[h1]
   have q1:(x.len==y.len)=false:=by simp[h2]
   have HE:=qH (decide_eq_false (stp_ne_len h2));clear h1 h2;exact x2od
 have q1:(x.at_==y.at_)=false:=by simp[h1]
 have HE:=qH (decide_eq_false (stp_ne_at h1));clear h1;exact x2od
theorem eqfOps_calls(A B:OA)(c d:Nat)(l m:List Stp)(w:World)(hl:l.length<=3518437208780)(hm:m.length<=3518437208780)(ha:Sps w A l)(hb:Sps w B m):
  Calls Try.prog 92 #[.slice A l.length c,.slice B m.length d,.func (Fn.func 93) #[] #[]] w (RetB w (.bool (decide (l=m)))):=by
 by_cases hne:l.length=m.length
 ·have hdl:((l.length:Int) !=(m.length:Int))=false:=by simp[hne]
  have HE:=qH hne;have hm1:l.length<=m.length:=by omega
  have hm1:m.length<=l.length:=by omega
  clear hne;go_enter Try.func92,Try.ntmps92;go_wp2_with fail;go_loopw [17] (fun i wr=>∃k:Nat,k<=l.length∧i=.int .i64 k∧Hid (l.take k=m.take k)∧Hid (Below w.heap.size w wr)) (fun i _=>l.length-(intOf i).toNat)
  case atStart=>exact⟨0,Nat.zero_le _,rfl,qH rfl,qH (Below.refl _ _)⟩
  case round=>
   obtain⟨k,hk,rfl,HT,HB⟩:=hrel;by_cases hlt:k<l.length
   ·obtain⟨b1,o1,B1,c1,rfl,hs1,p6,p1,p2,p3,p4,p5,-,-⟩:=(ha.stays HB.out).at_ hlt;obtain⟨b1,o1,B2,c2,rfl,hs1,r6,r1,r2,r3,r4,r5,-,-⟩:=(hb.stays HB.out).at_ (i:=k) (by omega);have hsz:=HB.out.size;have HX:Hid (∀e:l[k]=m[k]'(by omega),l.take (k+1)=m.take (k+1)):=qH fun e=>take_eq_succ HT.out hlt (by omega) e;have HN:Hid (∀e:l[k]≠m[k]'(by omega),l≠m):=qH fun e=>ne_of_at hlt (by omega) e;generalize l[k]=x at *
    generalize m[k]'(by omega)=y at *
    have hsb:=fun w2 (h:Below wr.heap.size wr w2)=>same1_calls x y B1 B2 c1 c2 w2 p4 r4 (p5.stays h) (r5.stays h);have HC:=qH hsb;clear hsb p5 r5;go_wp2_with fail;have bl:=((Below.refl wr.heap.size wr).alloc (Nat.le_refl _) (.cells #[iv x.at_,iv x.len,.slice B1 x.data.length c1] 117)).alloc (by simp) (.cells #[iv y.at_,iv y.len,.slice B2 y.data.length c2] 117);refine(HC.out _ bl).mono ?_;rintro e w1 ⟨rfl,hb1⟩;have HB1:Hid (Below w.heap.size w w1):=qH ((HB.out.trans (bl.mono hsz)).trans (hb1.mono (by simp;omega)));clear bl hb1;exact x6ww
   exact x99v
 have hdl:((l.length:Int) !=(m.length:Int))=true:=by simp;omega
 have HX:=qH hne;clear hne;go_enter Try.func92,Try.ntmps92;go_wp2_with fail;go_ret;exact⟨ret_bool (by rw[decide_eq_false (fun e=>HX.out (by rw[e]))]),Below.refl _ _⟩
theorem equalOps_calls(A B:OA)(c d:Nat)(l m:List Stp)(w:World)(hl:l.length<=3518437208780)(hm:m.length<=3518437208780)(ha:Sps w A l)(hb:Sps w B m):
  Calls Try.prog 21 #[.slice A l.length c,.slice B m.length d] w (RetB w (.bool (decide (l=m)))):=by
 go_enter Try.func21,Try.ntmps21;go_wp2_with fail;refine(eqfOps_calls A B c d l m w hl hm ha hb).mono ?_;exact x3rf
theorem patSameA_calls(A B:OA)(c d:Nat)(f t o n sz f2 t2 o2 n2 sz2:Int)(l m:List Stp)(w:World)(hl:l.length<=3518437208780)(hm:m.length<=3518437208780)(hs:Sps w A l)(hr:Sps w B m):
  Calls Try.prog 31 #[.agg #[iv f,iv t,iv o,iv n,iv sz,.slice A l.length c],.agg #[iv f2,iv t2,iv o2,iv n2,iv sz2,.slice B m.length d]] w (RetB w (.bool (decide ((⟨f,t,o,n,sz,l⟩:Pat)=⟨f2,t2,o2,n2,sz2,m⟩)))):=by
 have hb:Below w.heap.size w ((w.alloc (.cells #[iv f,iv t,iv o,iv n,iv sz,.slice A l.length c] 35)).alloc (.cells #[iv f2,iv t2,iv o2,iv n2,iv sz2,.slice B m.length d] 35)):=((Below.refl _ _).alloc (Nat.le_refl _) _).alloc (by simp) _;obtain⟨r,hR⟩:∃r,decide ((⟨f,t,o,n,sz,l⟩:Pat)=⟨f2,t2,o2,n2,sz2,m⟩)=r:=⟨_,rfl⟩;rw[hR];have HR:=qH hR;clear hR;have HB:=qH hb;have HC:=qH (equalOps_calls A B c d l m _ hl hm (hs.stays hb) (hr.stays hb));clear hb hs hr;by_cases h5:¬f=f2
 ·have hz:false=r:=(decide_eq_false (fun e=>by injection e;contradiction)).symm.trans HR.out;have HZ:=qH hz;have q:(f==f2)=false:=by simp[h5]
  clear HC hz h5;go_enter Try.func31,Try.ntmps31;exact x4jq
 have h5:=Decidable.not_not.1 h5;subst h5;have q5:(f==f)=true:=by simp
 by_cases h1:¬t=t2
 ·have hz:false=r:=(decide_eq_false (fun e=>by injection e;contradiction)).symm.trans HR.out;have HZ:=qH hz;have q:(t==t2)=false:=by simp[h1]
  clear HC hz h1;go_enter Try.func31,Try.ntmps31;exact x4jq
 have h1:=Decidable.not_not.1 h1;subst h1;have q1:(t==t)=true:=by simp
 by_cases h1:¬o=o2
 ·have hz:false=r:=(decide_eq_false (fun e=>by injection e;contradiction)).symm.trans HR.out;have HZ:=qH hz;have q:(o==o2)=false:=by simp[h1]
  clear HC hz h1;go_enter Try.func31,Try.ntmps31;exact x4jq
 have h1:=Decidable.not_not.1 h1;subst h1;have q1:(o==o)=true:=by simp
 by_cases h1:¬n=n2
 ·have hz:false=r:=(decide_eq_false (fun e=>by injection e;contradiction)).symm.trans HR.out;have HZ:=qH hz;have q:(n==n2)=false:=by simp[h1]
  clear HC hz h1;go_enter Try.func31,Try.ntmps31;exact x4jq
 have h1:=Decidable.not_not.1 h1;subst h1;have q1:(n==n)=true:=by simp
 by_cases h1:¬sz=sz2
 ·have hz:false=r:=(decide_eq_false (fun e=>by injection e;contradiction)).symm.trans HR.out;have HZ:=qH hz;have q:(sz==sz2)=false:=by simp[h1]
  clear HC hz h1;go_enter Try.func31,Try.ntmps31;exact x4jq
 have h1:=Decidable.not_not.1 h1;subst h1;have q1:(sz==sz)=true:=by simp
 have hz:decide (l=m)=r:=by
  exact x0f0
 have HZ:=qH hz;clear hz;go_enter Try.func31,Try.ntmps31;exact x483
theorem conv_str(A:OA)(c:Nat)(l:LU)(w:World)(hc:l.length<=c)(h:Bts w A l):(convert 22 9 (.slice A l.length c)).run Try.prog w=.ok (.string ⟨l.toArray⟩) w:=by
 by_cases e:l=[]
 ·subst e
  cases A with
  |none=>exact run_convert_bytes_nil (P:=Try.prog) w 22 5 Try.underlying22 Try.underlying5 0 c 9 Try.underlying9
  |some a=>exact run_convert_bytes_back (P:=Try.prog) w 22 9 5 a c [] Try.underlying22 Try.underlying5 Try.underlying9 (fun j hj=>by simp at hj)
 obtain⟨b,o,rfl,-,-⟩:=h 0 (by rcases l with _|⟨x,l⟩;exact absurd rfl e;simp);refine run_convert_bytes_back (P:=Try.prog) w 22 9 5 ⟨b,o,none⟩ c l Try.underlying22 Try.underlying5 Try.underlying9 (fun j hj=>?_);obtain⟨b',o',e,-,hc⟩:=h j hj;injection e with e;injection e with e1 e2;subst e1 e2;rw[show (⟨b,o,none⟩:Addr).add j=⟨b,o+j,none⟩ by simp[Addr.add]];exact hc
theorem bytesEqual_calls(A B:OA)(c d:Nat)(l m:LU)(w:World)(hc:l.length<=c)(hd:m.length<=d)(ha:Bts w A l)(hb:Bts w B m):
  Calls Try.prog 23 #[.slice A l.length c,.slice B m.length d] w (Ret w (.bool (decide (l=m)))):=by
 have k1:=conv_str A c l w hc ha;have k1:=conv_str B d m w hd hb;go_enter Try.func23,Try.ntmps23;go_wp2_with fail;go_ret;exact⟨ret_bool (by by_cases e:l=m<;>simp[e]),rfl⟩
section
open Go.RowKit
end
theorem x6t3(h:Y:=by
 go_enter Try.func91,Try.ntmps91;go_wp2_with fail;go_ret;exact⟨rfl,rfl⟩):Y:=h
theorem refIn_t{n a b:Int}(h:a<=n∧n<=b)(w:World):Calls Try.prog 91 #[iv n,iv a,iv b] w (Ret w (.bool true)):=by
 obtain⟨h1,h2⟩:=h;exact x6t3
theorem refIn_f{n a b:Int}(h:n<a∨b<n)(w:World):Calls Try.prog 91 #[iv n,iv a,iv b] w (Ret w (.bool false)):=by
 by_cases h1:a<=n
 ·have h1:¬n<=b:=by omega
  clear h;exact x6t3
 clear h;exact x6t3
theorem x018(h:Y:=by
 go_wp2_with fail;go_ret;exact⟨ret_int HR.out.symm,Below.refl _ _⟩):Y:=h
theorem refCheck_calls(A:OA)(c:Nat)(l:List Stp)(old size:Int)(w:World)(hl:l.length<=3518437208780)(hr:Sps w A l):
  Calls Try.prog 20 #[.slice A l.length c,iv old,iv size] w (RetB w (iv (deltaCheck l old size))):=by
 by_cases hm:40<l.length∨old<0∨64<old∨size<0∨64<size
 ·have HR:=qH (dc_many hm);by_cases h1:40<l.length
  ·have h1':(40:Int)<(l.length:Int):=by omega
   clear hm h1;go_enter Try.func20,Try.ntmps20;exact x018
  have h1':¬(40:Int)<(l.length:Int):=by omega
  by_cases h2:old<0∨64<old
  ·have I1:=qH (fun w=>refIn_f (a:=0) (b:=64) h2 w);clear hm h1 h2;go_enter Try.func20,Try.ntmps20;go_wp2_with fail;refine(I1.out _).mono ?_;rintro e1 w1 ⟨rfl,rfl⟩;exact x018
  have I1:=qH (fun w=>refIn_t (n:=old) (a:=0) (b:=64) (by omega) w);have I2:=qH (fun w=>refIn_f (n:=size) (a:=0) (b:=64) (by omega) w);clear hm h1 h2;go_enter Try.func20,Try.ntmps20;go_wp2_with fail;refine(I1.out _).mono ?_;rintro e1 w1 ⟨rfl,rfl⟩;go_wp2_with fail;refine(I2.out _).mono ?_;rintro e1 w1 ⟨rfl,rfl⟩;exact x018
 have HR:=qH (dc_go hm);have h1:¬(40:Int)<(l.length:Int):=by omega
 have I1:=qH (fun w=>refIn_t (n:=old) (a:=0) (b:=64) (by omega) w);have I2:=qH (fun w=>refIn_t (n:=size) (a:=0) (b:=64) (by omega) w);have h1:0<=old:=by omega
 have h1:old<=64:=by omega
 have h1:0<=size:=by omega
 have h1:size<=64:=by omega
 have h1:l.length<=40:=by omega
 clear hm;go_enter Try.func20,Try.ntmps20;go_wp2_with fail;refine(I1.out _).mono ?_;rintro e5 w3 ⟨rfl,rfl⟩;go_wp2_with fail;refine(I2.out _).mono ?_;rintro e5 w3 ⟨rfl,rfl⟩;go_wp2_with fail;go_loopw [26,7] (fun i s wr=>∃(k:Nat) (z:Int),k<=l.length∧i=.int .i64 k∧s=.int .i64 (size-z)∧0<=z∧z<=size∧Hid (ScAt old l size k z)∧Hid (Below w.heap.size w wr)) (fun i _ _=>l.length-(intOf i).toNat)
 case atStart=>exact⟨0,size,Nat.zero_le _,rfl,by simp,by omega,by omega,qH (by unfold ScAt;rw[List.drop_zero]),qH (Below.refl _ _)⟩
 case round=>
  obtain⟨k,z,hk,rfl,rfl,hz2,hz1,HS,HB⟩:=hrel;by_cases hlt:k<l.length
  ·obtain⟨b,o,B,cc,rfl,hs,hc3,hc1,hc2,hd1,hd2,-,hi2,hi1⟩:=(hr.stays HB.out).at_ hlt;have HH:=qH (HS.out.here hlt);have hsz:=HB.out.size;clear HS;unfold I64 at hi2 hi1;obtain⟨i1,i01⟩:=hi2;obtain⟨i1,i2⟩:=hi1;generalize hx:l[k]=x at *
   clear hx;obtain⟨at_,len,data⟩:=x;dsimp only at *
   have hdl:0<=(data.length:Int):=by omega
   by_cases hf:(⟨at_,len,data⟩:Stp).form
   ·by_cases hin:(⟨at_,len,data⟩:Stp).in_ old
    ·have hn:(⟨at_,len,data⟩:Stp).n=len+data.length:=rfl;have hin':=hin;unfold Stp.in_ at hin';dsimp only at hin';obtain⟨j1,j2,j3⟩:=hin';have hf':=hf;unfold Stp.form at hf';dsimp only at hf';have t1:¬len<0:=by omega
     have t2:¬at_<0:=by omega
     have t3:¬64<len:=by omega
     have t4:¬64<at_:=by omega
     have t5:¬old<at_+len:=by omega
     have w1:IntKind.i64.wrap (at_+len)=at_+len:=IntWalk.i64_in _ (by omega);by_cases hzn:z<len+data.length
     ·have HE:=qH (HH.out.symm.trans (sc_many hf hin (by rw[hn];exact hzn)));clear hf hin hn HH;by_cases e1:len=0
      ·obtain⟨rfl,e2,e3⟩:=hf'.1 e1;subst e1;have e1:1<=data.length:=by rcases data with _|⟨y,d⟩;exact absurd rfl e2;simp
       have I1:=qH (fun w=>refIn_t (n:=(data.length:Int)) (a:=1) (b:=64) (by omega) w);have w2:IntKind.i64.wrap ((size-z)+(data.length:Int))=(size-z)+(data.length:Int):=IntWalk.i64_in _ (by omega);have t6:size<(size-z)+(data.length:Int):=by omega
       clear hf' e2 w1 t1 t2 t3 t4 t5;go_wp2_with fail;refine(I1.out _).mono ?_;rintro e1 w1 ⟨rfl,rfl⟩;exact x1gl
      have e2:=hf'.2 e1;subst e2;have q1:(len==0)=false:=by simp[e1]
      have q1:(len !=0)=true:=by simp[e1]
      clear hf' e1;simp only[List.length_nil,Int.ofNat_eq_natCast,Int.natCast_zero,Int.add_zero]at *
      have w1:IntKind.i64.wrap ((size-z)+len)=(size-z)+len:=IntWalk.i64_in _ (by omega);have t1:size<(size-z)+len:=by omega
      exact x1gl
     have HE:=qH ((sc_on hf hin (by rw[hn];exact hzn)).symm.trans HH.out);clear hf hin HH;rw[hn]at HE;clear hn;by_cases e1:len=0
     ·obtain⟨rfl,e2,e3⟩:=hf'.1 e1;subst e1;have e1:1<=data.length:=by rcases data with _|⟨y,d⟩;exact absurd rfl e2;simp
      have I1:=qH (fun w=>refIn_t (n:=(data.length:Int)) (a:=1) (b:=64) (by omega) w);have w2:IntKind.i64.wrap ((size-z)+(data.length:Int))=(size-z)+(data.length:Int):=IntWalk.i64_in _ (by omega);have t6:¬size<(size-z)+(data.length:Int):=by omega
      clear hf' e2 w1 t1 t2 t3 t4 t5;go_wp2_with fail;refine(I1.out _).mono ?_;rintro e1 w1 ⟨rfl,rfl⟩;go_wp2_with fail;go_roundw
      case rel=>exact⟨k+1,z-(0+data.length),by omega,by go_num,by go_num,by omega,by omega,HE,qH (HB.out.alloc hsz _)⟩
      case measure=>simp[intOf];omega
     have e2:=hf'.2 e1;subst e2;have q1:(len==0)=false:=by simp[e1]
     have q1:(len !=0)=true:=by simp[e1]
     clear hf' e1;have HE1:Hid (ScAt old l size (k+1) (z-len)):=by
      have:=HE.out;refine qH ?_;simpa[ScAt]using this
     clear HE;simp only[List.length_nil,Int.ofNat_eq_natCast,Int.natCast_zero,Int.add_zero]at *
     have w1:IntKind.i64.wrap ((size-z)+len)=(size-z)+len:=IntWalk.i64_in _ (by omega);have t1:¬size<(size-z)+len:=by omega
     go_wp2_with fail;go_roundw
     case rel=>exact⟨k+1,z-len,by omega,by go_num,by go_num,by omega,by omega,HE1,qH (HB.out.alloc hsz _)⟩
     case measure=>simp[intOf];omega
    ·have HE:=qH (HH.out.symm.trans (sc_range hf hin));have hf':=hf;unfold Stp.form at hf';dsimp only at hf';have hin':=hin;unfold Stp.in_ at hin';dsimp only at hin';clear hf hin HH;have e1:len≠0:=by
      intro e2;obtain⟨e1,_,_⟩:=hf'.1 e2;omega
     have e2:=hf'.2 e1;subst e2;have q1:(len==0)=false:=by simp[e1]
     have q1:(len !=0)=true:=by simp[e1]
     clear hf' e1;simp only[List.length_nil,Int.ofNat_eq_natCast,Int.natCast_zero,Int.add_zero]at *
     have HI:=qH hin';clear hin';by_cases r1:len<0
     ·exact x1gl
     by_cases r1:at_<0
     ·exact x1gl
     by_cases r1:64<len
     ·exact x1gl
     by_cases r1:64<at_
     ·exact x1gl
     have w1:IntKind.i64.wrap (at_+len)=at_+len:=IntWalk.i64_in _ (by omega);have r1:old<at_+len:=by have:=HI.out;omega
     exact x1gl
   have HE:=qH (HH.out.symm.trans (sc_form hf));have hf':=hf;unfold Stp.form at hf';dsimp only at hf';clear hf HH;by_cases e3:len=0
   ·subst e3;by_cases e1:at_=0
    ·subst e1;have I1:Hid (∀w,Calls Try.prog 91 #[iv (data.length:Int),iv 1,iv 64] w (Ret w (.bool false))):=qH (fun w=>by
      by_cases e1:data=[]
      ·subst e1;exact refIn_f (Or.inl (by decide)) w
      refine refIn_f (Or.inr ?_) w;exact x614)
     clear hf';go_wp2_with fail;refine(I1.out _).mono ?_;rintro e1 w1 ⟨rfl,rfl⟩;exact x1gl
    have q1:(at_ !=0)=true:=by simp[e1]
    clear hf' e1;exact x1gl
   have e1:data≠[]:=fun e=>hf' ⟨fun h=>absurd h e3,fun _=>e⟩;have e2:1<=data.length:=by rcases data with _|⟨y,d⟩;exact absurd rfl e1;simp
   have q1:(len==0)=false:=by simp[e3]
   have q1:(len !=0)=true:=by simp[e3]
   have q1:((data.length:Int) !=0)=true:=by simp;omega
   clear hf' e3 e1;exact x1gl
  obtain rfl:k=l.length:=by omega
  have HE:Hid (stepsCheck old l size=if z=0 then 0 else 3):=by
   exact x017
  clear HS;by_cases e:z=0
  ·have HF:=qH (HE.out.trans (if_pos e));subst e;exact x5ag
  have HF:=qH (HE.out.trans (if_neg e));have q:size-z<size:=by omega
  clear e;exact x5ag
theorem x2eg(h:Y:=by
 exact⟨none,0,rfl,.const fun v=>patIn_zero v,below_row HB2.out (by omega) _⟩):Y:=h
theorem x40u(h:Y:=by
 go_wp2_with fail;go_ret;exact⟨ret_int hz.out.symm,HB.out⟩):Y:=h
theorem refPatCheckA_calls(A:OA)(c:Nat)(f t o n sz:Int)(l:List Stp)(w:World)(hl:l.length<=3518437208780)(hs:Sps w A l):
  Calls Try.prog 30 #[.agg #[iv f,iv t,iv o,iv n,iv sz,.slice A l.length c]] w (RetB w (iv (patCheck ⟨f,t,o,n,sz,l⟩))):=by
 have hb:Below w.heap.size w (w.alloc (.cells #[iv f,iv t,iv o,iv n,iv sz,.slice A l.length c] 35)):=(Below.refl _ _).alloc (Nat.le_refl _) _;have HB:=qH hb;have HC:=qH (refCheck_calls A c l 64 sz _ hl (hs.stays hb));clear hb hs;by_cases h4:¬((1:Int)<=f∧f<=30)
 ·have hz:=qH (patCheck_bad (p:=⟨f,t,o,n,sz,l⟩) (by unfold Pat.range;dsimp only;omega));have I1:=qH (fun w=>refIn_f (n:=f) (a:=1) (b:=30) (by omega) w);clear HC h4;go_enter Try.func30,Try.ntmps30;go_wp2_with fail;refine(I1.out _).mono ?_;rintro e1 w1 ⟨rfl,rfl⟩;exact x40u
 have h4:=Decidable.not_not.1 h4;have I4:=qH (fun w=>refIn_t (n:=f) (a:=1) (b:=30) h4 w);by_cases h1:¬((1:Int)<=t∧t<=30)
 ·have hz:=qH (patCheck_bad (p:=⟨f,t,o,n,sz,l⟩) (by unfold Pat.range;dsimp only;omega));have I1:=qH (fun w=>refIn_f (n:=t) (a:=1) (b:=30) (by omega) w);clear HC h1;go_enter Try.func30,Try.ntmps30;go_wp2_with fail;refine(I4.out _).mono ?_;rintro e2 w2 ⟨rfl,rfl⟩;go_wp2_with fail;refine(I1.out _).mono ?_;rintro e1 w1 ⟨rfl,rfl⟩;exact x40u
 have h1:=Decidable.not_not.1 h1;have I1:=qH (fun w=>refIn_t (n:=t) (a:=1) (b:=30) h1 w);by_cases h2:¬((0:Int)<=o∧o<=65535)
 ·have hz:=qH (patCheck_bad (p:=⟨f,t,o,n,sz,l⟩) (by unfold Pat.range;dsimp only;omega));have I2:=qH (fun w=>refIn_f (n:=o) (a:=0) (b:=65535) (by omega) w);clear HC h2;go_enter Try.func30,Try.ntmps30;go_wp2_with fail;refine(I4.out _).mono ?_;rintro e3 w3 ⟨rfl,rfl⟩;go_wp2_with fail;refine(I1.out _).mono ?_;rintro e1 w1 ⟨rfl,rfl⟩;go_wp2_with fail;refine(I2.out _).mono ?_;rintro e1 w1 ⟨rfl,rfl⟩;exact x40u
 have h2:=Decidable.not_not.1 h2;have I2:=qH (fun w=>refIn_t (n:=o) (a:=0) (b:=65535) h2 w);by_cases h3:¬((0:Int)<=n∧n<=65535)
 ·have hz:=qH (patCheck_bad (p:=⟨f,t,o,n,sz,l⟩) (by unfold Pat.range;dsimp only;omega));have I3:=qH (fun w=>refIn_f (n:=n) (a:=0) (b:=65535) (by omega) w);clear HC h3;go_enter Try.func30,Try.ntmps30;go_wp2_with fail;refine(I4.out _).mono ?_;rintro e4 w4 ⟨rfl,rfl⟩;go_wp2_with fail;refine(I1.out _).mono ?_;rintro e1 w1 ⟨rfl,rfl⟩;go_wp2_with fail;refine(I2.out _).mono ?_;rintro e1 w1 ⟨rfl,rfl⟩;go_wp2_with fail;refine(I3.out _).mono ?_;rintro e1 w1 ⟨rfl,rfl⟩;exact x40u
 have h3:=Decidable.not_not.1 h3;have I3:=qH (fun w=>refIn_t (n:=n) (a:=0) (b:=65535) h3 w);have hz:=qH (patCheck_in (p:=⟨f,t,o,n,sz,l⟩) (by unfold Pat.range;dsimp only;omega));clear h4 h1 h2 h3;go_enter Try.func30,Try.ntmps30;go_wp2_with fail;refine(I4.out _).mono ?_;rintro e4 w4 ⟨rfl,rfl⟩;go_wp2_with fail;refine(I1.out _).mono ?_;rintro e1 w1 ⟨rfl,rfl⟩;go_wp2_with fail;refine(I2.out _).mono ?_;rintro e1 w1 ⟨rfl,rfl⟩;go_wp2_with fail;refine(I3.out _).mono ?_;rintro e1 w1 ⟨rfl,rfl⟩;exact x3ef
theorem x1bo(h:Y:=by
 intro A' c' w' hown hgr hbel hor;exact⟨_,rfl,bxJ_app hown hgr hbel hor hle⟩):Y:=h
theorem x21e(h:Y:=by
 go_wp2_with fail;go_quiet (fail)
 go_wp2_with fail;go_roundw
 case rel=>exact⟨m+1,_,by go_num,by omega,by omega,rfl⟩
 case measure=>simp[intOf];omega):Y:=h
theorem x859(h:Y:=by
 obtain rfl:wq=wx.drew:=hJ;exact wp_sb1 e1 ⟨_,rfl,rfl,by simp⟩):Y:=h
theorem x87r(h:Y:=by
 obtain rfl:k1=0:=by omega
 obtain rfl:wq=wx.drew:=hJ;have hx:=HXC.out;go_simp):Y:=h
def bxJ(w0:World)(base:Nat)(A:OA)(n c:Nat)(xs ns:List Value)(ib ia:Nat)(F:World->Prop):Nat->(Nat->Value)->World->Prop
 |0,_,w=>w=w0.drew
 |1,cv,w=>w=w0.drew.alloc (.cells ns.toArray 5)∧cv ib=.slice (some ⟨w0.heap.size,0,none⟩) ns.length ns.length
 |2,cv,w=>∃A' c',cv ia=.slice A' (n+ns.length) c'∧Own w base 5 1 A' (n+ns.length) c' (xs++ns)∧Below base w0 w∧(∀k,k<w0.heap.size->A.map (·.block)≠some k->w.heap[k]?=w0.heap[k]?)∧(A'.map (·.block)=A.map (·.block)∨∀k,A'.map (·.block)=some k->w0.heap.size<=k)
 |_,_,w=>F w
theorem bxJ_box{w0:World}{ns:List Value}{ib ia:Nat}{F:World->Prop}{cv:Nat->Value}{T:TypeId}(hk:k<=1)(hJ:bxJ w0 base A n c xs ns ib ia F k cv w)(h:Box w0 g T v):Box w g T v:=by
 match k,hk,hJ with
 |0,_,hJ=>obtain rfl:w=w0.drew:=hJ;exact h
 |1,_,⟨hJ,_⟩=>subst hJ;exact h.drew.alloc _
theorem bxJ_app{w0:World}{A':OA}{c':Nat}{ns:List Value}{ib ia:Nat}{F:World->Prop}{cv:Nat->Value}(hown:Own w' base 5 1 A' (n+ns.length) c' (xs++ns))(hgr:(w0.drew.alloc (.cells ns.toArray 5)).grownBy w' (A.map (·.block)))(hbel:Below base (w0.drew.alloc (.cells ns.toArray 5)) w')
  (hor:A'.map (·.block)=A.map (·.block)∨A'.map (·.block)=some (w0.drew.alloc (.cells ns.toArray 5)).heap.size) (hle:base<=w0.heap.size):
  bxJ w0 base A n c xs ns ib ia F 2 (fun j=>if j=ia then .slice A' (n+ns.length) c' else cv j) w':=by
 have hb1:Below base w0 (w0.drew.alloc (.cells ns.toArray 5)):=((Below.refl _ _).drew).alloc hle _;exact x5lc
theorem alike_stop{b:LU}(hk:k<b.length):1<=alike (b.drop k)∧alike (b.drop k)<=127∧k+alike (b.drop k)<=b.length∧(∀m,m<alike (b.drop k)->b[k+m]?=some b[k])∧
  (alike (b.drop k)=127∨(alike (b.drop k)<127∧k+alike (b.drop k)=b.length)∨(alike (b.drop k)<127∧∃h:k+alike (b.drop k)<b.length,b[k+alike (b.drop k)]≠b[k])):=by
 have e:b.drop k=b[k]::b.drop (k+1):=List.drop_eq_getElem_cons hk;have hle:=alike_le (b.drop k);rw[List.length_drop]at hle;have ea:alike (b.drop k)=cntEq b[k] (b.drop (k+1)) 126+1:=by rw[e];rfl
 have hat:=cntEq_at b[k] (b.drop (k+1)) 126;have hst:=cntEq_stop b[k] (b.drop (k+1)) 126;refine⟨by omega,hle.1,by omega,fun m hm=>?_,?_⟩
 ·rcases m with _|m
  ·simp[hk]
  ·have:=(hat m (by omega)).2;rw[List.getElem?_drop]at this;rw[show k+(m+1)=k+1+m by omega];exact this
 by_cases h1:alike (b.drop k)=127
 ·exact .inl h1
 by_cases h1:k+alike (b.drop k)=b.length
 ·exact .inr (.inl ⟨by omega,h1⟩)
 refine .inr (.inr ⟨by omega,by omega,fun e2=>?_⟩);have:=hst (by omega);rw[List.getElem?_drop,show k+1+cntEq b[k] (b.drop (k+1)) 126=k+alike (b.drop k) by omega,List.getElem?_eq_getElem (by omega),e2]at this;exact this rfl
theorem bts_win{b o:Nat}{l:LU}(h:Bts w (some ⟨b,o,none⟩) l)(k n:Nat):Bts w (some ⟨b,o+k,none⟩) (win l k n):=by
 intro i hi;have hl:i<n∧k+i<l.length:=by unfold win at hi;simp only[List.length_take,List.length_drop]at hi;omega
 obtain⟨b',o',e,hlt,hc⟩:=h (k+i) hl.2;injection e with e;injection e with e1 e2;subst e1 e2;refine⟨b,o+k,rfl,hlt,?_⟩;rw[Nat.add_assoc,hc];simp[win]
theorem refLongest_calls(A B:OA)(c d:Nat)(old b:LU)(w:World)(k:Nat)(hml:ML w)(hc:old.length<=c)(hd:b.length<=d)(hl:old.length<=64)(hm:b.length<=64)(hk:k<=b.length)(ha:Bts w A old)(hb:Bts w B b):
  Calls Try.prog 89 #[.slice A old.length c,.slice B b.length d,iv k] w (RetN w (.tuple #[iv (longest old b k).1,iv (longest old b k).2])):=by
 obtain⟨m0,hm3⟩:∃m0:Nat,min (old.length:Int) ((b.length:Int)-(k:Int))=m0:=⟨(min (old.length:Int) ((b.length:Int)-(k:Int))).toNat,by omega⟩;have hbd:=longTo_le old b k old.length (Nat.le_refl _);have hL1:(longest old b k).2<=m0:=by unfold longest;omega
 have HL1:=qH hL1;have HA:=qH ha;have HB:=qH hb;have HML:=qH hml;have hm1:m0<=old.length:=by omega
 have hm1:k+m0<=b.length:=by omega
 clear ha hb hml hL1 hbd;go_enter Try.func89,Try.ntmps89;go_wp2_with fail;go_loopw [8] (fun x wr=>∃(m nd:Nat),x=.int .i64 (m:Int)∧(longest old b k).2<=m∧m<=m0∧w.drewN nd=wr) (fun x _=>(intOf x).toNat)
 case atStart=>exact⟨m0,0,int_eq (by omega),HL1.out,Nat.le_refl _,rfl⟩
 case round=>
  obtain⟨m,nd,rfl,h1,h2,rfl⟩:=hrel;by_cases h2:0<m
  ·have d2:(0:Int)<(m:Int):=by omega
   have hA1:A≠none:=fun e=>by
    obtain⟨bb,bo,e1,_⟩:=HA.out 0 (by omega);rw[e]at e1;cases e1
   obtain⟨aa,rfl⟩:=Option.ne_none_iff_exists'.1 hA1;obtain⟨bb,bo,rfl,_⟩:=HB.out 0 (by omega);have hwl:=win_len b k m (by omega);have hck:¬d=k:=by omega
   have hix:=index_calls aa ⟨bb,bo+k,none⟩ c (d-k) old (win b k m) (w.drewN nd) (HML.out.drewN nd) hc (by omega) (by omega) (HA.out.drewN nd) ((bts_win HB.out k m).drewN nd);rw[hwl]at hix;have HIX:=qH hix;clear hix hA1 hwl;have j1:(k:Int)+m<=(d:Int):=by omega
   have j1:(k:Int)<=(k:Int)+m:=by omega
   go_wp2_with fail;refine HIX.out.mono ?_;rintro e w1 ⟨rfl,n1,rfl⟩;rcases Lib.index_spec old (win b k m)with ⟨e1,_⟩|⟨i,e1,_,_,_⟩
   ·have hlt:=index_lt (by omega) (by omega) e1;rw[e1];clear e1 HIX h1;go_wp2_with fail;go_roundw
    case rel=>exact⟨m-1,nd+n1,int_eq (by omega),by omega,by omega,by rw[<-World.drewN_drewN]⟩
    case measure=>simp[intOf];omega
   have his:=index_is (by omega) (by omega) e1 h1;rw[e1];have HIS:=qH his;clear his e1 HIX h1;have d1:(0:Int)<=(i:Int):=by omega
   go_wp2_with fail;go_ret2;exact⟨ret2 (by rw[HIS.out];rfl) (by rw[HIS.out];rfl),nd+n1,by rw[<-World.drewN_drewN]⟩
  obtain rfl:m=0:=by omega
  have hz:=longest_zero (old:=old) (b:=b) (k:=k) (by omega);have HZ:=qH hz;clear hz h1;go_wp2_with fail;go_ret2;exact⟨ret2 (by rw[HZ.out];rfl) (by rw[HZ.out];rfl),nd,rfl⟩
end Go.Proofs.Ytefkfglkpebbmac
