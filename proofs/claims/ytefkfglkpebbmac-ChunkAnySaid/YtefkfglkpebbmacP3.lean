/- Walks of functions, and plain words. No conditions. -/
import Derived.Test.YtefkfglkpebbmacPE2
import Derived.Test.YtefkfglkpebbmacP2
set_option linter.unusedVariables false
set_option linter.unusedSimpArgs false
set_option maxRecDepth 100000
set_option maxHeartbeats 40000000
namespace Go.Proofs.Ytefkfglkpebbmac
open Go.RowKit
variable {Y:Prop}
variable {x:Chk} {l:List Chk} {w w':World} {B A A':OA} {c c':Nat}
theorem refMade_many(A B:OA)(c d:Nat)(fr to_:Int)(old b:LU)(w:World)(h:64<old.length∨64<b.length)(ho:old.length<=140737488351232)(hl:b.length<=140737488351232):
  Calls Try.prog 26 #[iv fr,iv to_,.slice A old.length c,.slice B b.length d] w (PaRet w Pat.zero 1):=by
 have K:=qH (fun w=>refDiffed_many A B c d old b w h ho hl);clear h;go_enter Try.func26,Try.ntmps26;go_wp2_with fail;refine(K.out _).mono ?_;rintro e w1 ⟨rfl,hb1⟩;have a1:=kp (w.heap.size) (patA 0 0 0 0 0 none 0 0) hb1;have HB:=qH (((Below.refl _ _).alloc (Nat.le_refl w.heap.size) _).trans (hb1.mono (by simp)));clear hb1;go_wp2_with fail;refine bodyPost_ret (rC (patA 0 0 0 0 0 none 0 0)) rfl ⟨none,0,rfl,.const fun v=>patIn_zero v,below_row HB.out (by omega) _⟩
theorem refMade_fit(A B:OA)(c d:Nat)(fr to_:Int)(old b:LU)(w:World)(hml:ML w)(hc:old.length<=c)(hd:b.length<=d)(hf:I64 fr)(ht:I64 to_)(ho:old.length<=64)(hl:b.length<=64)(hA:Bts w A old)(hB:Bts w B b):
  Calls Try.prog 26 #[iv fr,iv to_,.slice A old.length c,.slice B b.length d] w (PaRet w (patMake (sumOn 1) fr to_ old b).1 (patMake (sumOn 1) fr to_ old b).2):=by
 have K1:=qH (fun w hm h1 h2=>refDiffed3_calls A B c d old b w hm hc hd ho hl h1 h2);have K2:=qH (fun w h=>refSumOf_calls A c old w (by omega) h);have K3:=qH (fun w h=>refSumOf_calls B d b w (by omega) h);have hs1:=sumOn_bd 1 old (by omega);have hs2:=sumOn_bd 1 b (by omega);have hdl:(diffed old b).length<=40:=(diffed_ok old b ho hl).many;have HM:Hid ((patMake (sumOn 1) fr to_ old b)=if patCheck ⟨fr,to_,sumOn 1 old,sumOn 1 b,b.length,diffed old b⟩≠0 then (Pat.zero,patCheck ⟨fr,to_,sumOn 1 old,sumOn 1 b,b.length,diffed old b⟩)else (⟨fr,to_,sumOn 1 old,sumOn 1 b,b.length,diffed old b⟩,0)):=qH (by
  unfold patMake;rw[if_neg (by omega)])
 generalize sumOn 1 old=s1 at *
 generalize sumOn 1 b=s2 at *
 generalize diffed old b=l at *
 have HA:=qH hA;have HB:=qH hB;have HML:=qH hml;have HI:Hid (I64 fr∧I64 to_):=qH ⟨hf,ht⟩;clear hA hB hf ht hml;generalize patMake (sumOn 1) fr to_ old b=r at *
 go_enter Try.func26,Try.ntmps26;go_wp2_with fail;have hba:=(bW w).alloc nl (.cells (patA 0 0 0 0 0 none 0 0) 35);refine(K1.out _ (HML.out.stays hba) (HA.out.stays hba) (HB.out.stays hba)).mono ?_;rintro e w1 ⟨A1,c1,rfl,hsp,hc1,hb1⟩;have a1:=kp (w.heap.size) (patA 0 0 0 0 0 none 0 0) hb1;have HB1:=qH (hba.trans (hb1.mono (by simp)));have HSP:=qH hsp;clear hb1 hba hsp;go_wp2_with fail;refine(K2.out _ (HA.out.stays HB1.out)).mono ?_;rintro e w2 ⟨rfl,rfl⟩;go_wp2_with fail;refine(K3.out _ (HB.out.stays HB1.out)).mono ?_;rintro e w3 ⟨rfl,rfl⟩;go_wp2_with fail;have hba:=(bW w1).alloc nl (.cells (patA fr to_ s1 s2 b.length A1 l.length c1) 35);have HS1:=qH (HSP.out.below hba nl);refine(refPatCheck_calls A1 c1 fr to_ s1 s2 b.length l _ (by omega) HS1.out.now).mono ?_;rintro e w4 ⟨rfl,hb1⟩;have b2:=kp (w.heap.size) (patA 0 0 0 0 0 none 0 0) hb1;have b1:=kp (w1.heap.size) (patA fr to_ s1 s2 b.length A1 l.length c1) hb1;have HB2:Hid (Below w.heap.size w w4):=qH ((HB1.out.alloc HB1.out.size _).trans (hb1.mono (by have:=HB1.out.size;simp;omega)));have HS2:=qH (HS1.out.below hb1 nl);have HPI:Hid (Fresh (w.heap.size+1) w4 (fun v=>PatIn v ⟨fr,to_,s1,s2,b.length,l⟩ A1 c1)):=qH (Fresh.imp (by simpa using HS2.out) fun v hv=>⟨hc1,by dsimp only;omega,hv,HI.out.1,HI.out.2,⟨by dsimp only;omega,by dsimp only;omega⟩,⟨by dsimp only;omega,by dsimp only;omega⟩,⟨by dsimp only;omega,by dsimp only;omega⟩⟩);clear hb1 hba;by_cases hz:patCheck ⟨fr,to_,s1,s2,b.length,l⟩=0
 ·have hr:r=(⟨fr,to_,s1,s2,b.length,l⟩,0):=by rw[HM.out,if_neg (by simpa using hz)]
  have HR:=qH hr;clear hr;go_wp2_with fail;refine bodyPost_ret (rC (patA fr to_ s1 s2 b.length A1 l.length c1)) rfl ?_;rw[HR.out];exact⟨A1,c1,rfl,(HPI.out.row (by omega) _).mono (by omega),below_row HB2.out (by omega) _⟩
 have hr:r=(Pat.zero,patCheck ⟨fr,to_,s1,s2,b.length,l⟩):=by rw[HM.out,if_pos hz]
 have hq:(patCheck ⟨fr,to_,s1,s2,b.length,l⟩ !=0)=true:=by simp[hz]
 have HR:=qH hr;clear hr hz;generalize patCheck ⟨fr,to_,s1,s2,b.length,l⟩=e1 at *
 go_wp2_with fail;refine bodyPost_ret (rC (patA 0 0 0 0 0 none 0 0)) rfl ?_;rw[HR.out];exact x2eg
theorem refMade_calls(A B:OA)(c d:Nat)(fr to_:Int)(old b:LU)(w:World)(hml:ML w)(hc:old.length<=c)(hd:b.length<=d)(hf:I64 fr)(ht:I64 to_)(ho:old.length<=140737488351232)(hl:b.length<=140737488351232)(hA:Bts w A old)(hB:Bts w B b):
  Calls Try.prog 26 #[iv fr,iv to_,.slice A old.length c,.slice B b.length d] w (PaRet w (patMake (sumOn 1) fr to_ old b).1 (patMake (sumOn 1) fr to_ old b).2):=by
 by_cases h:64<old.length∨64<b.length
 ·have e:patMake (sumOn 1) fr to_ old b=(Pat.zero,1):=by unfold patMake;rw[if_pos h]
  rw[e];exact refMade_many A B c d fr to_ old b w h ho hl
 exact refMade_fit A B c d fr to_ old b w hml hc hd hf ht (by omega) (by omega) hA hB
theorem x7ta(h:Y:=by
 refine qH (HB.out.trans (Below.trans ?_ (hb1.mono (by first|omega|(simp<;>omega)))));repeat (first|exact Below.refl _ _|refine bA ?_ _)):Y:=h
theorem x8mq(h:Y:=by
 have hdl:((l.length:Int) !=(m.length:Int))=true:=by simp;omega
 have HX:=qH hne;clear hne;go_enter Try.func105,Try.ntmps105;go_wp2_with fail;go_ret;exact⟨ret_bool (by rw[decide_eq_false (fun e=>HX.out (by rw[e]))]),Below.refl _ _⟩):Y:=h
theorem x9o6(h:Y:=by
 repeat (first|exact Below.refl _ _|refine bA ?_ _)):Y:=h
def chkA(f t n o:Int)(A:OA)(k c:Nat):Array Value:=#[iv f,iv t,iv n,iv o,.slice A k c]
@[go_sem] theorem chkA_size(f t n o:Int)(A:OA)(k c:Nat):(chkA f t n o A k c).size=5:=by simp[chkA]
@[go_sem] theorem chkA_one(f t n o:Int)(A:OA)(k c:Nat):allOne (chkA f t n o A k c)=true:=by simp[chkA,allOne,Value.oneCell']
@[go_sem] theorem chkA_get0(f t n o:Int)(A:OA)(k c:Nat):(chkA f t n o A k c)[0]?=some (iv f):=by simp[chkA]
@[go_sem] theorem chkA_at0(f t n o:Int)(A:OA)(k c:Nat)(h:0<(chkA f t n o A k c).size):(chkA f t n o A k c)[0]'h=iv f:=by simp[chkA]
@[go_sem] theorem chkA_get1(f t n o:Int)(A:OA)(k c:Nat):(chkA f t n o A k c)[1]?=some (iv t):=by simp[chkA]
@[go_sem] theorem chkA_at1(f t n o:Int)(A:OA)(k c:Nat)(h:1<(chkA f t n o A k c).size):(chkA f t n o A k c)[1]'h=iv t:=by simp[chkA]
@[go_sem] theorem chkA_get2(f t n o:Int)(A:OA)(k c:Nat):(chkA f t n o A k c)[2]?=some (iv n):=by simp[chkA]
@[go_sem] theorem chkA_at2(f t n o:Int)(A:OA)(k c:Nat)(h:2<(chkA f t n o A k c).size):(chkA f t n o A k c)[2]'h=iv n:=by simp[chkA]
@[go_sem] theorem chkA_get3(f t n o:Int)(A:OA)(k c:Nat):(chkA f t n o A k c)[3]?=some (iv o):=by simp[chkA]
@[go_sem] theorem chkA_at3(f t n o:Int)(A:OA)(k c:Nat)(h:3<(chkA f t n o A k c).size):(chkA f t n o A k c)[3]'h=iv o:=by simp[chkA]
@[go_sem] theorem chkA_get4(f t n o:Int)(A:OA)(k c:Nat):(chkA f t n o A k c)[4]?=some (.slice A k c):=by simp[chkA]
@[go_sem] theorem chkA_at4(f t n o:Int)(A:OA)(k c:Nat)(h:4<(chkA f t n o A k c).size):(chkA f t n o A k c)[4]'h=.slice A k c:=by simp[chkA]
@[go_sem] theorem chkA_all(f t n o:Int)(A:OA)(k c:Nat):(chkA f t n o A k c).extract 0 5=chkA f t n o A k c:=by simp[chkA]
@[go_sem] theorem chk_lit(f t n o:Int)(A:OA)(k c:Nat):Value.agg #[iv f,iv t,iv n,iv o,.slice A k c]=Value.agg (chkA f t n o A k c):=by simp[chkA]
@[go_sem] theorem chkA_set4(f t n o:Int)(A:OA)(k c:Nat)(B:OA)(m d:Nat):(chkA f t n o A k c).setIfInBounds 4 (.slice B m d)=chkA f t n o B m d:=by simp[chkA]
@[go_sem] theorem aggSzChk:aggSz Try.prog 49=5:=by kernel_rfl
@[go_sem] theorem chkA_set0(f t n o:Int)(A:OA)(k c:Nat)(x:Int):(chkA f t n o A k c).setIfInBounds 0 (iv x)=chkA x t n o A k c:=by simp[chkA]
@[go_sem] theorem chkA_set1(f t n o:Int)(A:OA)(k c:Nat)(x:Int):(chkA f t n o A k c).setIfInBounds 1 (iv x)=chkA f x n o A k c:=by simp[chkA]
@[go_sem] theorem chkA_set2(f t n o:Int)(A:OA)(k c:Nat)(x:Int):(chkA f t n o A k c).setIfInBounds 2 (iv x)=chkA f t x o A k c:=by simp[chkA]
@[go_sem] theorem chkA_set3(f t n o:Int)(A:OA)(k c:Nat)(x:Int):(chkA f t n o A k c).setIfInBounds 3 (iv x)=chkA f t n x A k c:=by simp[chkA]
@[go_sem] theorem chkA_ne(f t n o:Int)(A:OA)(k c:Nat):(chkA f t n o A k c=#[])=False:=by simp[chkA]
theorem chkC_eq(x:Chk)(A:OA)(c:Nat):(chkC x A c).toArray=chkA x.from_ x.to_ x.n x.of_ A x.data.length c:=by simp[chkA]
theorem chkA_list(x:Chk)(A:OA)(c:Nat):(chkA x.from_ x.to_ x.n x.of_ A x.data.length c).toList=chkC x A c:=by simp[chkA]
theorem x1bu(h:Y:=by
 go_enter Try.func47,Try.ntmps47;go_wp2_with fail;go_ret;exact⟨ret_int hz.out.symm,hA⟩):Y:=h
theorem x37v(h:Y:=by
 go_enter Try.func102,Try.ntmps102;go_wp2_with fail;go_ret;exact⟨ret_bool HZ.out.symm,HB.out⟩):Y:=h
theorem x9ec(h:Y:=by
 have hz:=qH (chkCheck_bad (x:=⟨f,t,n,o,l⟩) (by unfold Chk.range;dsimp only;omega));go_enter Try.func47,Try.ntmps47;go_wp2_with fail;go_ret;exact⟨ret_int hz.out.symm,hA⟩):Y:=h
theorem chkCheck_bad(h:¬x.range):chkCheck x=2:=by unfold chkCheck;rw[if_pos h]
theorem chkCheck_form(h:x.range)(g:¬x.full):chkCheck x=3:=by unfold chkCheck;rw[if_neg (by simpa using h),if_pos g]
theorem chkCheck_fine(h:x.range)(g:x.full):chkCheck x=0:=chkCheck_ok.2 ⟨h,g⟩
theorem full_len{f t n o:Int}{l:LU}:Chk.full ⟨f,t,n,o,l⟩↔l.length≠0∧l.length<=16∧(n<o-1->l.length=16):=by
 unfold Chk.full;dsimp only;rw[<-List.length_pos_iff];constructor<;>(intro h;refine⟨by omega,h.2.1,h.2.2⟩)
theorem chkCheck_calls(A:OA)(c:Nat)(f t n o:Int)(l:LU)(w:World)(hn:I64 n)(ho:I64 o):
  Calls Try.prog 47 #[.agg (chkA f t n o A l.length c)] w (RetB w (iv (chkCheck ⟨f,t,n,o,l⟩))):=by
 obtain⟨hn1,hn2⟩:=hn;obtain⟨ho1,ho2⟩:=ho;have hb:Below w.heap.size w (w.alloc (.cells (chkA f t n o A l.length c) 49)):=bL _;have HB:=qH hb;clear hb;by_cases h8:f<(1:Int)
 ·exact x9ec
 by_cases h1:(30:Int)<f
 ·exact x9ec
 by_cases h1:t<(1:Int)
 ·exact x9ec
 by_cases h1:(30:Int)<t
 ·exact x9ec
 by_cases h1:o<(1:Int)
 ·exact x9ec
 by_cases h1:(52:Int)<o
 ·exact x9ec
 by_cases h1:n<(0:Int)
 ·exact x9ec
 by_cases h1:o<=n
 ·exact x9ec
 have hr:Chk.range ⟨f,t,n,o,l⟩:=by unfold Chk.range;dsimp only;omega
 have HR:=qH hr;clear hr;have hw:IntKind.i64.wrap (o-1)=o-1:=IntWalk.i64_in _ (by omega);by_cases g4:l.length=0
 ·have hz:=qH (chkCheck_form HR.out (fun e=>(full_len.1 e).1 g4));have q:((l.length:Int)==0)=true:=by simp[g4]
  clear g4;exact x1bu
 have q2:((l.length:Int)==0)=false:=beq_eq_false_iff_ne.2 (by omega);by_cases g1:(16:Int)<(l.length:Int)
 ·have hz:=qH (chkCheck_form HR.out (fun e=>by have:=(full_len.1 e).2.1;omega));clear g4;exact x1bu
 by_cases g1:n<o-1
 ·by_cases g2:l.length=16
  ·have q1:((l.length:Int) !=16)=false:=by simp[g2]
   have hz:=qH (chkCheck_fine HR.out (full_len.2 ⟨by omega,by omega,fun _=>g2⟩));clear g4 g2;exact x1bu
  ·have q1:((l.length:Int) !=16)=true:=bne_iff_ne.2 (by omega);have hz:=qH (chkCheck_form HR.out (fun e=>g2 ((full_len.1 e).2.2 g1)));clear g4 g2;exact x1bu
 have hz:=qH (chkCheck_fine HR.out (full_len.2 ⟨by omega,by omega,fun h=>absurd h g1⟩));clear g4;exact x1bu
theorem kin_calls(A B:OA)(c d k m:Nat)(f t n o f2 t2 n2 o2:Int)(l r:LU)(w:World):
  Calls Try.prog 102 #[.agg (chkA f t n o A k c),.agg (chkA f2 t2 n2 o2 B m d)] w (RetB w (.bool (decide (kin ⟨f,t,n,o,l⟩ ⟨f2,t2,n2,o2,r⟩)))):=by
 have hb:Below w.heap.size w ((w.alloc (.cells (chkA f t n o A k c) 49)).alloc (.cells (chkA f2 t2 n2 o2 B m d) 49)):=(bL _).alloc (by simp) _;have HB:=qH hb;clear hb;by_cases h3:¬f=f2
 ·have hz:decide (kin ⟨f,t,n,o,l⟩ ⟨f2,t2,n2,o2,r⟩)=false:=decide_eq_false (by unfold kin;dsimp only;omega);have HZ:=qH hz;have q:(f==f2)=false:=by simp[h3]
  clear hz h3;exact x37v
 have h3:=Decidable.not_not.1 h3;subst h3;have q3:(f==f)=true:=by simp
 by_cases h1:¬t=t2
 ·have hz:decide (kin ⟨f,t,n,o,l⟩ ⟨f,t2,n2,o2,r⟩)=false:=decide_eq_false (by unfold kin;dsimp only;omega);have HZ:=qH hz;have q:(t==t2)=false:=by simp[h1]
  clear hz h1;exact x37v
 have h1:=Decidable.not_not.1 h1;subst h1;have q1:(t==t)=true:=by simp
 by_cases h1:¬o=o2
 ·have hz:decide (kin ⟨f,t,n,o,l⟩ ⟨f,t,n2,o2,r⟩)=false:=decide_eq_false (by unfold kin;dsimp only;omega);have HZ:=qH hz;have q:(o==o2)=false:=by simp[h1]
  clear hz h1;exact x37v
 have h1:=Decidable.not_not.1 h1;subst h1;have q1:(o==o)=true:=by simp
 have hz:decide (kin ⟨f,t,n,o,l⟩ ⟨f,t,n2,o,r⟩)=true:=decide_eq_true ⟨rfl,rfl,rfl⟩;have HZ:=qH hz;clear hz;exact x37v
theorem x00g(h:Y:=by
 have HE1:Hid ((-1:Int)=r):=qH (by
  rw[<-HE.out,List.drop_of_length_le (by omega)];rfl)
 clear HE;go_wp2_with fail;go_ret;exact⟨by rw[<-HE1.out];rfl,HB.out⟩):Y:=h
theorem x09a(h:Y:=by
 go_wp2_with fail;go_ret;exact⟨ret_int HZ.out.symm,HB1.out⟩):Y:=h
theorem x1oc(h:Y:=by
 have e1:=cO 3 (iv (k:Int)) h;exact ch_move (ch_ev e1)):Y:=h
theorem x2zx(h:Y:=by
 have:=HCC.out x B cx w' (HB.out.trans (hb.mono HB.out.size));rwa [hq]at this):Y:=h
theorem x8vr(h:Y:=by
 have HZ:=qH hz;clear hz;go_wp2_with fail;go_ret;exact⟨ret_int HZ.out.symm,HB.out⟩):Y:=h
theorem listGo_bad{p:Option Chk}(h:chkCheck x≠0):listGo p (x::l)=chkCheck x:=by unfold listGo;rw[if_pos h]
theorem listGo_form{p:Option Chk}(h:chkCheck x=0)(g:¬follows p x):listGo p (x::l)=3:=by unfold listGo;rw[if_neg (by simpa using h),if_pos g]
theorem listGo_next{p:Option Chk}(h:chkCheck x=0)(g:follows p x):listGo p (x::l)=listGo (some x) l:=by
 conv=>lhs;unfold listGo
 rw[if_neg (by simpa using h),if_neg (by simpa using g)]
theorem chkCheckX_calls(A:OA)(c:Nat)(x:Chk)(w:World)(h:I64 x.n∧I64 x.of_):
  Calls Try.prog 47 #[.agg (chkA x.from_ x.to_ x.n x.of_ A x.data.length c)] w (RetB w (iv (chkCheck x))):=chkCheck_calls A c x.from_ x.to_ x.n x.of_ x.data w h.1 h.2
theorem kinY_calls(A B:OA)(c d:Nat)(x y:Chk)(w:World):
  Calls Try.prog 102 #[.agg (chkA x.from_ x.to_ x.n x.of_ A x.data.length c),.agg (chkA y.from_ y.to_ y.n y.of_ B y.data.length d)] w (RetB w (.bool (decide (kin x y)))):=
 kin_calls A B c d x.data.length y.data.length x.from_ x.to_ x.n x.of_ y.from_ y.to_ y.n y.of_ x.data y.data w
def ChkAt(w:World)(b o:Nat)(x:Chk)(B:OA)(c:Nat):Prop:=
 w.cell? ⟨b,o,none⟩=some (iv x.from_)∧w.cell? ⟨b,o+1,none⟩=some (iv x.to_)∧w.cell? ⟨b,o+2,none⟩=some (iv x.n)∧w.cell? ⟨b,o+3,none⟩=some (iv x.of_)∧w.cell? ⟨b,o+4,none⟩=some (.slice B x.data.length c)
theorem ChkAt.stays{b o:Nat}(h:ChkAt w b o x B c)(hlt:b<w.heap.size)(hb:Below w.heap.size w w'):ChkAt w' b o x B c:=
 ⟨(hb.cell (p:=⟨b,o,none⟩) hlt).trans h.1,(hb.cell (p:=⟨b,o+1,none⟩) hlt).trans h.2.1,(hb.cell (p:=⟨b,o+2,none⟩) hlt).trans h.2.2.1,(hb.cell (p:=⟨b,o+3,none⟩) hlt).trans h.2.2.2.1,(hb.cell (p:=⟨b,o+4,none⟩) hlt).trans h.2.2.2.2⟩
theorem Chs.chk(h:Chs w A l){i:Nat}(hi:i<l.length):∃b o B c,A=some ⟨b,o,none⟩∧b<w.heap.size∧ChkAt w b (o+i*5) l[i] B c∧ChkIn w l[i] B c:=by
 obtain⟨b,o,B,c,h1,h2,h3,h4,h5,h6,h7,h8⟩:=h.at_ hi;exact⟨b,o,B,c,h1,h2,⟨h3,h4,h5,h6,h7⟩,h8⟩
theorem chkList_calls(A:OA)(c:Nat)(l:List Chk)(w:World)(hl:l.length<=2513169434843)(hs:Chs w A l):
  Calls Try.prog 40 #[.slice A l.length c] w (RetB w (iv (chkList l))):=by
 have HS:=qH hs;clear hs;obtain⟨r,hr⟩:=eX (chkList l);rw[hr];have HR:Hid (listGo none l=r):=qH hr;clear hr;go_enter Try.func40,Try.ntmps40;go_wp2_with fail;go_loopw [8] (fun i wr=>∃k:Nat,k<=l.length∧i=iv k∧Hid (listGo ((l.take k).getLast?) (l.drop k)=r)∧Hid (Below w.heap.size w wr)) (fun i _=>l.length-(intOf i).toNat)
 case atStart=>exact⟨0,Nat.zero_le _,rfl,qH HR.out,qH (Below.refl _ _)⟩
 case round=>
  rename World=>wr;obtain⟨k,hk,rfl,HE,HB⟩:=hrel;have hsz:=HB.out.size;by_cases hlt:k<l.length
  ·obtain⟨b,o,B,cx,rfl,hb,hat,hin⟩:=HS.out.chk hlt;have hdr:l.drop k=l[k]::l.drop (k+1):=List.drop_eq_getElem_cons hlt;have hlast:(l.take (k+1)).getLast?=some l[k]:=by rw[List.take_succ_eq_append_getElem hlt,List.getLast?_concat]
   have hpre:∀(h0:0<k),∃q D d,(l.take k).getLast?=some q∧ChkAt w b (o+(k-1)*5) q D d:=fun h0=>by
    obtain⟨b',o',D,d,e,_,h1,_⟩:=HS.out.chk (i:=k-1) (by omega);injection e with e;injection e with e1 e2;subst e1 e2;refine⟨l[k-1],D,d,?_,h1⟩;rw[List.getLast?_take,if_neg (by omega),List.getElem?_eq_getElem (by omega)];rfl
   obtain⟨x,hx⟩:=eX (l[k]);rw[hx]at hdr hlast hat hin;rw[hdr]at HE;obtain⟨p,hp⟩:=eX ((l.take k).getLast?);rw[hp]at HE hpre;have HLAST:=qH hlast;have hat1:=hat.stays hb HB.out;obtain⟨c5,c1,c2,c3,c4⟩:=hat1;have HAT:=qH hat;have HP1:Hid (k=0->p=none):=qH (fun e=>by rw[<-hp,e];simp);have HPR:=qH hpre;have HK:=qH (fun w=>chkCheckX_calls B cx x w ⟨hin.i2,hin.i3⟩);have hblt:b<wr.heap.size:=by omega
   have dl:decide ((k:Int)<(l.length:Int))=true:=decide_eq_true (by omega);have hwk:IntKind.i64.wrap ((k:Int)+1)=(k:Int)+1:=IntWalk.i64_in _ (by omega);clear hdr hlast hx hp hpre hat hin;by_cases hck:chkCheck x≠0
   ·have hz:r=chkCheck x:=by rw[<-HE.out,listGo_bad hck]
    have q:(chkCheck x !=0)=true:=by simp[hck]
    have HZ:=qH hz;clear hck hz;go_wp2_with fail;refine(HK.out _).mono ?_;rintro e w1 ⟨rfl,hb1⟩;have HB1:Hid (Below w.heap.size w w1):=by
     exact x7ta
    clear hb1;exact x09a
   have hck:=Decidable.not_not.1 hck;have HCK:=qH hck;rw[hck]at HK;clear hck;go_wp2_with fail;refine(HK.out _).mono ?_;rintro e w1 ⟨rfl,hb1⟩;have a1:=kp (wr.heap.size) (chkA x.from_ x.to_ x.n x.of_ B x.data.length cx) hb1;have HB1:Hid (Below w.heap.size w w1):=by
    exact x7ta
   have hs1:=HB1.out.size;clear hb1 c5 c1 c2 c3 c4;have HD:Hid (∀wq,Below w1.drew.heap.size w1.drew wq->Below w1.heap.size w1 wq):=qH (fun wq h=>(bW w1).drew.trans h);have R1:rowOf w1.drew wr.heap.size=chkA x.from_ x.to_ x.n x.of_ B x.data.length cx:=by go_simp
   have F1:frOf w1.drew wr.heap.size=(0,0):=by go_simp
   go_wp2_with fail;by_cases hk1:k=0
   ·have hz:listGo (some x) (l.drop (k+1))=r:=by rw[<-HE.out,listGo_next HCK.out (by rw[HP1.out hk1];intro q e;cases e)]
    have HZ:=qH hz;have HKP:=qH hk1;clear hz hk1;refine wp_region_chain (by kernel_rfl) (some 18::some 19::some 20::some 21::some 22::some 23::some 24::some 25::some 26::some 27::some 28::some 29::some 30::some 31::some 32::some 33::some 34::some 35::some 36::some 37::some 38::some 39::some 40::[]) (iv (k:Int)::.bool false::.bool false::undef::undef::undef::undef::undef::undef::undef::undef::undef::undef::undef::undef::undef::undef::undef::undef::undef::undef::undef::.bool false::[]) 42 rfl rfl (by decide+kernel) (by decide+kernel) (by decide+kernel) rfl ?_ ?_
    ·refine⟨.inl ⟨rfl,?_⟩,.inl ⟨rfl,?_⟩,.inl ⟨rfl,?_⟩,.inr ⟨rfl,rfl⟩,.inr ⟨rfl,rfl⟩,.inr ⟨rfl,rfl⟩,.inr ⟨rfl,rfl⟩,.inr ⟨rfl,rfl⟩,.inr ⟨rfl,rfl⟩,.inr ⟨rfl,rfl⟩,.inr ⟨rfl,rfl⟩,.inr ⟨rfl,rfl⟩,.inr ⟨rfl,rfl⟩,.inr ⟨rfl,rfl⟩,.inr ⟨rfl,rfl⟩,.inr ⟨rfl,rfl⟩,.inr ⟨rfl,rfl⟩,.inr ⟨rfl,rfl⟩,.inr ⟨rfl,rfl⟩,.inr ⟨rfl,rfl⟩,.inr ⟨rfl,rfl⟩,.inr ⟨rfl,rfl⟩,.inl ⟨rfl,?_⟩,trivial⟩;all_goals intro done a wq hw h
     ·exact x1oc
     ·have e1:=cN 0 18 h hw;have hp:=HKP.out;refine ch_pure ?_;go_simp
     ·have e1:=cN 1 19 h hw;exact ch_move (ch_ev e1)
     ·have e1:=cN 2 20 h hw;exact ch_pick_f e1 rfl
    intro w1 hb1;simp only[putAll_some,putAll_none,putAll_nil,List.setIfInBounds_toArray,List.set_cons_zero,List.set_cons_succ];have HB1:=bT HB1 hb1;clear hb1 R1 F1 a1;go_wp2_with fail;go_roundw
    case rel=>exact⟨k+1,by omega,by go_num,qH (by rw[HLAST.out];exact HZ.out),HB1⟩
    case measure=>simp[intOf];omega
   obtain⟨q,D,dq,hpq,hq⟩:=HPR.out (by omega);have HQ:Hid (∀wq,Below w1.heap.size w1 wq->ChkAt wq b (o+(k-1)*5) q D dq):=qH (fun wq h=>hq.stays hb (HB1.out.trans (h.mono hs1)));have HKP:Hid (0<k):=qH (by omega);have HI4:Hid (¬(k:Int)<1):=qH (by omega);have hkp:0<k:=by omega
   clear hk1;have HW:Hid (IntKind.i64.wrap ((k:Int)-1)=(k:Int)-1):=qH (IntWalk.i64_in _ (by omega));have HI1:Hid (((k:Int)-1).toNat=k-1):=qH (by omega);have HI2:Hid (¬(k:Int)-1<0):=qH (by omega);have HI3:Hid (¬(l.length:Int)<=(k:Int)-1):=qH (by omega);have HF:Hid (follows p x↔kin q x∧q.n<x.n):=qH (by rw[hpq];exact⟨fun h=>h q rfl,fun h z e=>by injection e with e;subst e;exact h⟩);clear hpq hq;by_cases hkn:kin q x
   ·have HKN:Hid (decide (kin q x)=true):=qH (decide_eq_true hkn);by_cases hge:x.n<=q.n
    first|case' inl=>have T10:Hid True:=qH trivial|case' pos=>have T10:Hid True:=qH trivial|case' refine_1=>have T10:Hid True:=qH trivial
    iterate 2
     ·first
       |
        revert T10;intro T10;have hz:r=3:=by rw[<-HE.out,listGo_form HCK.out (by rw[HF.out];omega)]
       |have hz:listGo (some x) (l.drop (k+1))=r:=by rw[<-HE.out,listGo_next HCK.out (by rw[HF.out];exact⟨hkn,by omega⟩)]
      have HZ:=qH hz
      first
       |
        revert T10;intro T10;have HGE:Hid (decide (x.n<=q.n)=true):=qH (decide_eq_true hge)
       |have HGE:Hid (decide (x.n<=q.n)=false):=qH (decide_eq_false hge)
      clear hz hkn hge
      first
       |
        revert T10;intro T10;refine wp_region_chain (by kernel_rfl) (some 18::some 19::some 20::some 21::some 22::some 23::some 24::some 25::some 26::some 27::some 28::some 29::some 30::some 31::some 32::some 33::some 34::some 35::some 36::some 37::some 38::some 39::some 40::[]) (iv (k:Int)::.bool true::.bool true::.slice (some ⟨b,o,none⟩) l.length c::iv (k:Int)::iv ((k:Int)-1)::.pointer (some ⟨b,o+(k-1)*5,none⟩)::.agg (chkA q.from_ q.to_ q.n q.of_ D q.data.length dq)::.agg (chkA x.from_ x.to_ x.n x.of_ B x.data.length cx)::.bool true::.bool false::.bool false::.slice (some ⟨b,o,none⟩) l.length c::iv (k:Int)::iv ((k:Int)-1)::.pointer (some ⟨b,o+(k-1)*5,none⟩)::.pointer (some ⟨b,o+(k-1)*5+2,none⟩)::iv q.n::.pointer (some ⟨wr.heap.size,2,none⟩)::iv x.n::.bool true::.bool true::.bool true::[]) 42 rfl rfl (by decide+kernel) (by decide+kernel) (by decide+kernel) rfl ?_ ?_
       |refine wp_region_chain (by kernel_rfl) (some 18::some 19::some 20::some 21::some 22::some 23::some 24::some 25::some 26::some 27::some 28::some 29::some 30::some 31::some 32::some 33::some 34::some 35::some 36::some 37::some 38::some 39::some 40::[]) (iv (k:Int)::.bool true::.bool true::.slice (some ⟨b,o,none⟩) l.length c::iv (k:Int)::iv ((k:Int)-1)::.pointer (some ⟨b,o+(k-1)*5,none⟩)::.agg (chkA q.from_ q.to_ q.n q.of_ D q.data.length dq)::.agg (chkA x.from_ x.to_ x.n x.of_ B x.data.length cx)::.bool true::.bool false::.bool false::.slice (some ⟨b,o,none⟩) l.length c::iv (k:Int)::iv ((k:Int)-1)::.pointer (some ⟨b,o+(k-1)*5,none⟩)::.pointer (some ⟨b,o+(k-1)*5+2,none⟩)::iv q.n::.pointer (some ⟨wr.heap.size,2,none⟩)::iv x.n::.bool false::.bool false::.bool false::[]) 42 rfl rfl (by decide+kernel) (by decide+kernel) (by decide+kernel) rfl ?_ ?_
      ·refine⟨.inl ⟨rfl,?_⟩,.inl ⟨rfl,?_⟩,.inl ⟨rfl,?_⟩,.inl ⟨rfl,?_⟩,.inl ⟨rfl,?_⟩,.inl ⟨rfl,?_⟩,.inl ⟨rfl,?_⟩,.inl ⟨rfl,?_⟩,.inl ⟨rfl,?_⟩,.inl ⟨rfl,?_⟩,.inl ⟨rfl,?_⟩,.inl ⟨rfl,?_⟩,.inl ⟨rfl,?_⟩,.inl ⟨rfl,?_⟩,.inl ⟨rfl,?_⟩,.inl ⟨rfl,?_⟩,.inl ⟨rfl,?_⟩,.inl ⟨rfl,?_⟩,.inl ⟨rfl,?_⟩,.inl ⟨rfl,?_⟩,.inl ⟨rfl,?_⟩,.inl ⟨rfl,?_⟩,.inl ⟨rfl,?_⟩,trivial⟩;all_goals intro done a wq hw h
       ·have e3:=cO 3 (iv (k:Int)) h;exact ch_move (ch_ev e3)
       ·have e18:=cN 0 18 h hw;have hp:=HKP.out;refine ch_pure ?_;go_simp
       ·have e19:=cN 1 19 h hw;exact ch_move (ch_ev e19)
       ·have e0:=cO 0 (.slice (some ⟨b,o,none⟩) l.length c) h;exact ch_move (ch_ev e0)
       ·have e3:=cO 3 (iv (k:Int)) h;exact ch_move (ch_ev e3)
       ·have e22:=cN 4 22 h hw;have hw:=HW.out;refine ch_pure ?_;go_simp
       ·have e21:=cN 3 21 h hw;have e23:=cN 5 23 h hw;have h1:=HI1.out;have h2:=HI2.out;have h3:=HI3.out;have h4:=HI4.out;refine ch_pure ?_;go_simp
       ·have e24:=cN 6 24 h hw;obtain⟨c5,c1,c2,c3,c4⟩:=HQ.out wq (HD.out wq h.bel);refine ch_pure ?_;go_simp
       ·have e4:=cO 4 (.pointer (some ⟨wr.heap.size,0,none⟩)) h;have y_:=keep1 h.bel R1 (by go_simp) F1;refine ch_pure ?_;go_simp
       ·have e25:=cN 7 25 h hw;have e26:=cN 8 26 h hw;exact ch_call (vals:=#[.agg (chkA q.from_ q.to_ q.n q.of_ D q.data.length dq),.agg (chkA x.from_ x.to_ x.n x.of_ B x.data.length cx)]) (by go_simp) (by go_simp) (by have:=kinY_calls D B dq cx q x wq;rwa [HKN.out]at this)
       ·have e27:=cN 9 27 h hw;refine ch_pure ?_;go_simp
       ·have e28:=cN 10 28 h hw;exact ch_move (ch_ev e28)
       ·have e0:=cO 0 (.slice (some ⟨b,o,none⟩) l.length c) h;exact ch_move (ch_ev e0)
       ·have e3:=cO 3 (iv (k:Int)) h;exact ch_move (ch_ev e3)
       ·have e31:=cN 13 31 h hw;have hw:=HW.out;refine ch_pure ?_;go_simp
       ·have e30:=cN 12 30 h hw;have e32:=cN 14 32 h hw;have h1:=HI1.out;have h2:=HI2.out;have h3:=HI3.out;have h4:=HI4.out;refine ch_pure ?_;go_simp
       ·have e33:=cN 15 33 h hw;refine ch_pure ?_;go_simp
       ·have e34:=cN 16 34 h hw;obtain⟨c5,c1,c2,c3,c4⟩:=HQ.out wq (HD.out wq h.bel);refine ch_pure ?_;go_simp
       ·have e4:=cO 4 (.pointer (some ⟨wr.heap.size,0,none⟩)) h;refine ch_pure ?_;go_simp
       ·have e36:=cN 18 36 h hw;have y_:=keep1 h.bel R1 (by go_simp) F1;refine ch_pure ?_;go_simp
       ·have e35:=cN 17 35 h hw;have e37:=cN 19 37 h hw;have hg:=HGE.out;refine ch_pure ?_;go_simp
       ·have e29:=cN 11 29 h hw;have e38:=cN 20 38 h hw;exact ch_pick_f e29 (ch_ev e38)
       ·have e20:=cN 2 20 h hw;have e39:=cN 21 39 h hw;exact ch_pick_t e20 (ch_ev e39)
      intro w2 hb2;simp only[putAll_some,putAll_none,putAll_nil,List.setIfInBounds_toArray,List.set_cons_zero,List.set_cons_succ];have HB2:=bT HB1 hb2;clear hb2 R1 F1 a1;go_wp2_with fail
      first
       |
        revert T10;intro T10;go_ret;exact⟨ret_int HZ.out.symm,HB2.out⟩
       |
        go_roundw
        case rel=>exact⟨k+1,by omega,by go_num,qH (by rw[HLAST.out];exact HZ.out),HB2⟩
        case measure=>simp[intOf];omega
   have HKN:Hid (decide (kin q x)=false):=qH (decide_eq_false hkn);have hz:r=3:=by rw[<-HE.out,listGo_form HCK.out (by rw[HF.out];exact fun h=>hkn h.1)]
   have HZ:=qH hz;clear hz hkn;refine wp_region_chain (by kernel_rfl) (some 18::some 19::some 20::some 21::some 22::some 23::some 24::some 25::some 26::some 27::some 28::some 29::some 30::some 31::some 32::some 33::some 34::some 35::some 36::some 37::some 38::some 39::some 40::[]) (iv (k:Int)::.bool true::.bool true::.slice (some ⟨b,o,none⟩) l.length c::iv (k:Int)::iv ((k:Int)-1)::.pointer (some ⟨b,o+(k-1)*5,none⟩)::.agg (chkA q.from_ q.to_ q.n q.of_ D q.data.length dq)::.agg (chkA x.from_ x.to_ x.n x.of_ B x.data.length cx)::.bool false::.bool true::.bool true::undef::undef::undef::undef::undef::undef::undef::undef::undef::.bool true::.bool true::[]) 42 rfl rfl (by decide+kernel) (by decide+kernel) (by decide+kernel) rfl ?_ ?_
   ·refine⟨.inl ⟨rfl,?_⟩,.inl ⟨rfl,?_⟩,.inl ⟨rfl,?_⟩,.inl ⟨rfl,?_⟩,.inl ⟨rfl,?_⟩,.inl ⟨rfl,?_⟩,.inl ⟨rfl,?_⟩,.inl ⟨rfl,?_⟩,.inl ⟨rfl,?_⟩,.inl ⟨rfl,?_⟩,.inl ⟨rfl,?_⟩,.inl ⟨rfl,?_⟩,.inr ⟨rfl,rfl⟩,.inr ⟨rfl,rfl⟩,.inr ⟨rfl,rfl⟩,.inr ⟨rfl,rfl⟩,.inr ⟨rfl,rfl⟩,.inr ⟨rfl,rfl⟩,.inr ⟨rfl,rfl⟩,.inr ⟨rfl,rfl⟩,.inr ⟨rfl,rfl⟩,.inl ⟨rfl,?_⟩,.inl ⟨rfl,?_⟩,trivial⟩;all_goals intro done a wq hw h
    ·exact x1oc
    ·have e1:=cN 0 18 h hw;have hp:=HKP.out;refine ch_pure ?_;go_simp
    ·have e1:=cN 1 19 h hw;exact ch_move (ch_ev e1)
    ·have e1:=cO 0 (.slice (some ⟨b,o,none⟩) l.length c) h;exact ch_move (ch_ev e1)
    ·exact x1oc
    ·have e1:=cN 4 22 h hw;have hw:=HW.out;refine ch_pure ?_;go_simp
    ·have e1:=cN 3 21 h hw;have e23:=cN 5 23 h hw;have h1:=HI1.out;have h2:=HI2.out;have h3:=HI3.out;have h4:=HI4.out;refine ch_pure ?_;go_simp
    ·have e1:=cN 6 24 h hw;obtain⟨c5,c1,c2,c3,c4⟩:=HQ.out wq (HD.out wq h.bel);refine ch_pure ?_;go_simp
    ·have e1:=cO 4 (.pointer (some ⟨wr.heap.size,0,none⟩)) h;have y_:=keep1 h.bel R1 (by go_simp) F1;refine ch_pure ?_;go_simp
    ·have e1:=cN 7 25 h hw;have e26:=cN 8 26 h hw;exact ch_call (vals:=#[.agg (chkA q.from_ q.to_ q.n q.of_ D q.data.length dq),.agg (chkA x.from_ x.to_ x.n x.of_ B x.data.length cx)]) (by go_simp) (by go_simp) (by have:=kinY_calls D B dq cx q x wq;rwa [HKN.out]at this)
    ·have e1:=cN 9 27 h hw;refine ch_pure ?_;go_simp
    ·have e1:=cN 10 28 h hw;exact ch_move (ch_ev e1)
    ·have e1:=cN 11 29 h hw;exact ch_pick_t e1 rfl
    ·have e1:=cN 2 20 h hw;have e39:=cN 21 39 h hw;exact ch_pick_t e1 (ch_ev e39)
   intro w1 hb1;simp only[putAll_some,putAll_none,putAll_nil,List.setIfInBounds_toArray,List.set_cons_zero,List.set_cons_succ];have HB1:=bT HB1 hb1;clear hb1 R1 F1 a1;exact x09a
  obtain rfl:k=l.length:=by omega
  have dl:decide ((l.length:Int)<(l.length:Int))=false:=by simp
  have hz:r=0:=by rw[<-HE.out,List.drop_length];unfold listGo;rfl
  exact x8vr
theorem grown_of{base:Nat}(hb:Below base w w')(hk:∀k,k<w.heap.size->A.map (·.block)≠some k->w'.heap[k]?=w.heap[k]?):w.grownBy w' (A.map (·.block)):=
 ⟨hb.os,hb.tape,hb.output,hb.size,fun k h1 h2=>hk k h1 (fun e=>h2 e.symm)⟩
theorem CRow.push2{base B:Nat}{l:List Stp}{ds:List (Option Addr×Nat)}{o:Stp}{d:Option Addr×Nat}(h:CRow w base l ds A c)
  (h1:Own w' base 117 3 A' (l.length+1) c' (opCells l ds++opCell o d)) (hb:Below B w w') (hk:∀k,k<w.heap.size->A.map (·.block)≠some k->w'.heap[k]?=w.heap[k]?) (h3:A'.map (·.block)=A.map (·.block)∨∀k,A'.map (·.block)=some k->w.heap.size<=k)
  (hd:Bts w d.1 o.data) (hd2:o.data.length<=d.2) (hd3:∀k,d.1.map (·.block)=some k->A.map (·.block)≠some k∧k<w.heap.size):
  CRow w' base (l++[o]) (ds++[d]) A' c':=by
 have h2:=grown_of hb hk;have hlen:=h.len;refine⟨by simp[hlen],?_,?_,?_⟩
 ·rw[opCells_snoc _ _ _ _ hlen,List.length_append];exact h1
 ·exact x5hd
 intro i d' hd' k hk;have key:A.map (·.block)≠some k∧k<w.heap.size:=by
  exact x2jf
 refine⟨?_,Nat.lt_of_lt_of_le key.2 h2.size⟩;rcases h3 with h3|h3
 ·rw[h3];exact key.1
 intro e;have:=h3 k e;omega
structure Kd(α:Type) where
 ty:TypeId
 size:Nat
 slot:Nat
 cell:α->Option Addr×Nat->List Value
 dat:α->List UInt8
 len:∀x e,(cell x e).length=size
 lt:slot<size
 set:∀x e e',(cell x e).set slot (.slice e'.1 (dat x).length e'.2)=cell x e'
 get:∀x e,(cell x e)[slot]?=some (.slice e.1 (dat x).length e.2)
 one:∀x e,∀u∈cell x e,u.oneCell'=true
section
variable {α:Type} (K:Kd α)
def Kd.cells:List α->List (Option Addr×Nat)->List Value
 |o::l,d::ds=>K.cell o d++Kd.cells l ds
 |_,_=>[]
variable {K}
theorem cells_len:∀(l:List α) (ds:List (Option Addr×Nat)),ds.length=l.length->(K.cells l ds).length=l.length*K.size
 |[],[],_=>by simp[Kd.cells]
 |[],_::_,h=>by simp at h
 |_::_,[],h=>by simp at h
 |o::l,d::ds,h=>by
  have:=cells_len l ds (by simpa using h);rw[Kd.cells,List.length_append,K.len,this,List.length_cons,Nat.succ_mul];omega
theorem cells_append:∀(l m:List α) (ds es:List (Option Addr×Nat)),ds.length=l.length->K.cells (l++m) (ds++es)=K.cells l ds++K.cells m es
 |[],m,[],es,_=>by simp[Kd.cells]
 |[],_,_::_,_,h=>by simp at h
 |_::_,_,[],_,h=>by simp at h
 |x::l,m,y::ds,es,h=>by
  have:=cells_append l m ds es (by simpa using h);simp[Kd.cells,this]
theorem cells_one(x:α)(e:Option Addr×Nat):K.cells [x] [e]=K.cell x e:=by simp[Kd.cells]
theorem cells_oneCell:∀(l:List α) (ds:List (Option Addr×Nat)),∀u∈K.cells l ds,u.oneCell'=true
 |[],_,u,h=>by simp[Kd.cells]at h
 |_::_,[],u,h=>by simp[Kd.cells]at h
 |o::l,d::ds,u,h=>by
  rw[Kd.cells]at h;rcases List.mem_append.1 h with h|h
  ·exact K.one o d u h
  exact cells_oneCell l ds u h
theorem cells_at:∀(l:List α) (ds:List (Option Addr×Nat)),ds.length=l.length->∀(i j:Nat) (o:α) (d:Option Addr×Nat),l[i]?=some o->ds[i]?=some d->j<K.size->(K.cells l ds)[i*K.size+j]?=(K.cell o d)[j]?
 |[],[],_,i,j,o,d,h,_,_=>by simp at h
 |[],_::_,h,_,_,_,_,_,_,_=>by simp at h
 |_::_,[],h,_,_,_,_,_,_,_=>by simp at h
 |x::l,y::ds,h,i,j,o,d,hi,hd,hj=>by
  match i with
  |0=>
   have e1:x=o:=by simpa using hi
   have e2:y=d:=by simpa using hd
   subst e1 e2;rw[Kd.cells,Nat.zero_mul,Nat.zero_add,List.getElem?_append_left (by rw[K.len];exact hj)]
  |i+1=>
   have:=cells_at l ds (by simpa using h) i j o d (by simpa using hi) (by simpa using hd) hj;rw[Kd.cells,List.getElem?_append_right (by rw[K.len,Nat.succ_mul];omega),<-this,K.len];congr 1;rw[Nat.succ_mul];omega
theorem cells_take(l:List α)(ds:List (Option Addr×Nat))(h:ds.length=l.length)(i:Nat)(hi:i<=l.length):K.cells (l.take i) (ds.take i)=(K.cells l ds).take (i*K.size)∧K.cells (l.drop i) (ds.drop i)=(K.cells l ds).drop (i*K.size):=by
 have e:=cells_append (K:=K) (l.take i) (l.drop i) (ds.take i) (ds.drop i) (by simp;omega);rw[List.take_append_drop,List.take_append_drop]at e;have hl:=cells_len (K:=K) (l.take i) (ds.take i) (by simp;omega);rw[List.length_take,Nat.min_eq_left hi]at hl;refine⟨?_,?_⟩
 ·rw[e,List.take_left' hl]
 rw[e,List.drop_left' hl]
theorem cells_set:∀(l:List α) (ds:List (Option Addr×Nat)),ds.length=l.length->∀(i:Nat) (o:α) (e:Option Addr×Nat),l[i]?=some o->(K.cells l ds).set (i*K.size+K.slot) (.slice e.1 (K.dat o).length e.2)=K.cells l (ds.set i e)
 |[],_,_,i,o,e,h=>by simp at h
 |_::_,[],h,_,_,_,_=>by simp at h
 |x::l,y::ds,h,i,o,e,hi=>by
  have hlt:=K.lt
  match i with
  |0=>
   have e1:x=o:=by simpa using hi
   subst e1;rw[Kd.cells,Nat.zero_mul,Nat.zero_add,List.set_append_left _ _ (by rw[K.len];exact hlt),K.set,List.set_cons_zero,Kd.cells]
  |i+1=>
   have:=cells_set l ds (by simpa using h) i o e (by simpa using hi);rw[Kd.cells,List.set_append_right _ _ (by rw[K.len,Nat.succ_mul];omega),K.len,List.set_cons_succ,Kd.cells,<-this];congr 2;rw[Nat.succ_mul];omega
end
structure GSrc{α:Type}(K:Kd α)(w:World)(A:OA)(l:List α)(ds:List (Option Addr×Nat)):Prop where
 len:ds.length=l.length
 row:Src w A (K.cells l ds)
 data:∀(i:Nat) (o:α) (d:Option Addr×Nat),l[i]?=some o->ds[i]?=some d->Bts w d.1 (K.dat o)∧(K.dat o).length<=d.2
def Each{α:Type}(K:Kd α)(l:List α)(ds:List (Option Addr×Nat))(P:Nat->Prop):Prop:=
 ∀(i:Nat) (o:α) (d:Option Addr×Nat),l[i]?=some o->ds[i]?=some d->K.dat o≠[]->∀k,d.1.map (·.block)=some k->P k
structure GRow{α:Type}(K:Kd α)(w:World)(base:Nat)(l:List α)(ds:List (Option Addr×Nat))(A:OA)(c:Nat):Prop where
 len:ds.length=l.length
 row:Own w base K.ty K.size A l.length c (K.cells l ds)
 data:∀(i:Nat) (o:α) (d:Option Addr×Nat),l[i]?=some o->ds[i]?=some d->Bts w d.1 (K.dat o)∧(K.dat o).length<=d.2
 off:Each K l ds (fun k=>A.map (·.block)≠some k)
theorem bts_keep{x:LU}(h:Bts w B x)(hs:w.heap.size<=w'.heap.size)(hk:x≠[]->∀k,k<w.heap.size->B.map (·.block)=some k->w'.heap[k]?=w.heap[k]?):Bts w' B x:=by
 intro j hj;obtain⟨b,o1,e1,hlt,hc⟩:=h j hj;have e:=hk (fun e=>by rw[e]at hj;simp at hj) b hlt (by rw[e1];rfl);exact x8f0
theorem bts_block{x:LU}(h:Bts w B x)(hx:x≠[]):∀k,B.map (·.block)=some k->k<w.heap.size:=by
 obtain⟨b,o1,e1,hlt,hc⟩:=h 0 (List.length_pos_iff.2 hx);intro k hk;rw[e1]at hk;have e:b=k:=by simpa using hk
 omega
section
variable {α:Type} {K:Kd α} {w w':World} {base:Nat} {l:List α} {ds:List (Option Addr×Nat)} {A:OA} {c:Nat} {P Q:Nat->Prop}
theorem Each.imp(h:Each K l ds P)(hq:∀k,P k->Q k):Each K l ds Q:=fun i o d e1 e2 hx k hk=>hq k (h i o d e1 e2 hx k hk)
theorem Each.nil:Each K ([]:List α) ds P:=fun i o d h=>by simp at h
theorem GSrc.each(h:GSrc K w A l ds):Each K l ds (fun k=>k<w.heap.size):=fun i o d e1 e2 hx=>bts_block (h.data i o d e1 e2).1 hx
theorem GRow.src(h:GRow K w base l ds A c):GSrc K w A l ds:=⟨h.len,h.row.src,h.data⟩
theorem GSrc.stays(h:GSrc K w A l ds)(hb:Below w.heap.size w w'):GSrc K w' A l ds:=
 ⟨h.len,h.row.stays hb,fun i o d h1 h2=>⟨(h.data i o d h1 h2).1.stays hb,(h.data i o d h1 h2).2⟩⟩
theorem GRow.nil(w:World)(base:Nat):GRow K w base ([]:List α) [] none 0:=⟨rfl,by simpa[Kd.cells]using Own.nil_ _ _ _ _,fun i o d h=>by simp at h,Each.nil⟩
theorem GRow.below(h:GRow K w base l ds A c)(hb:Below w.heap.size w w'):GRow K w' base l ds A c:=
 ⟨h.len,h.row.below hb,fun i o d h1 h2=>⟨(h.data i o d h1 h2).1.stays hb,(h.data i o d h1 h2).2⟩,h.off⟩
theorem GRow.mono{base':Nat}(h:GRow K w base l ds A c)(hb:base'<=base):GRow K w base' l ds A c:=⟨h.len,h.row.mono hb,h.data,h.off⟩
theorem GRow.keep(h:GRow K w base l ds A c)(hs:w.heap.size<=w'.heap.size)(hA:∀k,k<w.heap.size->A.map (·.block)=some k->w'.heap[k]?=w.heap[k]?)(hd:Each K l ds (fun k=>k<w.heap.size->w'.heap[k]?=w.heap[k]?)):GRow K w' base l ds A c:=
 ⟨h.len,h.row.same (fun k e=>hA k (h.row.block k e).2 e),fun i o d h1 h2=>⟨bts_keep (h.data i o d h1 h2).1 hs fun hx k h3 e=>hd i o d h1 h2 hx k e h3,(h.data i o d h1 h2).2⟩,h.off⟩
theorem GRow.setOther{g j:Nat}(h:GRow K w base l ds A c)(hA:A.map (·.block)≠some g)(hd:Each K l ds (fun k=>k≠g))(v:Value):GRow K (w.setCell ⟨g,j,none⟩ v) base l ds A c:=
 h.keep (by simp) (fun k _ hk=>Below.heap_setCell _ _ _ _ (fun e=>hA (by rw[hk,show k=g from e]))) (hd.imp fun k hk _=>Below.heap_setCell _ _ _ _ hk)
theorem GRow.remake{B:Nat}{l':List α}{ds':List (Option Addr×Nat)}(h:GRow K w base l ds A c)(hl:ds'.length=l'.length)(h1:Own w' base K.ty K.size A' l'.length c' (K.cells l' ds'))(hb:Below B w w')
  (hk:∀k,k<w.heap.size->A.map (·.block)≠some k->w'.heap[k]?=w.heap[k]?) (h3:A'.map (·.block)=A.map (·.block)∨∀k,A'.map (·.block)=some k->w.heap.size<=k)
  (hd:∀(i:Nat) (o:α) (d:Option Addr×Nat),l'[i]?=some o->ds'[i]?=some d->(∃j:Nat,l[j]?=some o∧ds[j]?=some d)∨(Bts w d.1 (K.dat o)∧(K.dat o).length<=d.2∧(K.dat o≠[]->∀k,d.1.map (·.block)=some k->A.map (·.block)≠some k))):
  GRow K w' base l' ds' A' c':=by
 have key:∀(i:Nat) (o:α) (d:Option Addr×Nat),l'[i]?=some o->ds'[i]?=some d->Bts w d.1 (K.dat o)∧(K.dat o).length<=d.2∧(K.dat o≠[]->∀k,d.1.map (·.block)=some k->A.map (·.block)≠some k):=by
  intro i o d e1 e2;rcases hd i o d e1 e2 with ⟨j,e3,e4⟩|h
  ·exact⟨(h.data j o d e3 e4).1,(h.data j o d e3 e4).2,h.off j o d e3 e4⟩
  exact h
 refine⟨hl,h1,fun i o d e1 e2=>?_,fun i o d e1 e2 hx k hk2=>?_⟩
 ·obtain⟨k1,k2,k3⟩:=key i o d e1 e2;exact⟨bts_keep k1 hb.size fun hx k h4 e=>hk k h4 (k3 hx k e),k2⟩
 obtain⟨k1,k2,k3⟩:=key i o d e1 e2;have k2:=k3 hx k hk2;have k1:=bts_block k1 hx k hk2;rcases h3 with h3|h3
 ·rw[h3];exact k2
 intro e;have:=h3 k e;omega
theorem GRow.push{B:Nat}{o:α}{d:Option Addr×Nat}(h:GRow K w base l ds A c)
  (h1:Own w' base K.ty K.size A' (l.length+1) c' (K.cells l ds++K.cell o d)) (hb:Below B w w') (hk:∀k,k<w.heap.size->A.map (·.block)≠some k->w'.heap[k]?=w.heap[k]?) (h3:A'.map (·.block)=A.map (·.block)∨∀k,A'.map (·.block)=some k->w.heap.size<=k)
  (hd:Bts w d.1 (K.dat o)) (hd2:(K.dat o).length<=d.2) (hd3:K.dat o≠[]->∀k,d.1.map (·.block)=some k->A.map (·.block)≠some k):
  GRow K w' base (l++[o]) (ds++[d]) A' c':=by
 have hlen:=h.len;refine h.remake (by simp[hlen]) ?_ hb hk h3 fun i o' d' hi hd'=>?_
 ·rw[cells_append _ _ _ _ hlen,cells_one,List.length_append];exact h1
 rcases snoc_at hi with hi|⟨rfl,rfl⟩
 ·have hil:i<l.length:=(List.getElem?_eq_some_iff.1 hi).1;rw[List.getElem?_append_left (by omega)]at hd';exact .inl ⟨i,hi,hd'⟩
 rw[<-hlen]at hd';simp at hd';subst hd';exact .inr ⟨hd,hd2,hd3⟩
theorem Each.push{o:α}{d:Option Addr×Nat}(h:Each K l ds P)(hl:ds.length=l.length)(hd:K.dat o≠[]->∀k,d.1.map (·.block)=some k->P k):Each K (l++[o]) (ds++[d]) P:=by
 intro i o' d' hi hd' hx k hk;rcases snoc_at hi with hi|⟨rfl,rfl⟩
 ·have hil:i<l.length:=(List.getElem?_eq_some_iff.1 hi).1;rw[List.getElem?_append_left (by omega)]at hd';exact h i o' d' hi hd' hx k hk
 rw[<-hl]at hd';simp at hd';subst hd';exact hd hx k hk
theorem GRow.setData{g i:Nat}{o:α}{e:Option Addr×Nat}(h:GRow K w base l ds (some ⟨g,0,none⟩) c)(hi:l[i]?=some o)(hd:Bts w e.1 (K.dat o))(hd2:(K.dat o).length<=e.2)(hd3:K.dat o≠[]->∀k,e.1.map (·.block)=some k->g≠k):
  GRow K (w.setCell ⟨g,i*K.size+K.slot,none⟩ (.slice e.1 (K.dat o).length e.2)) base l (ds.set i e) (some ⟨g,0,none⟩) c:=by
 have hr:=h.row.stored (i*K.size+K.slot) (.slice e.1 (K.dat o).length e.2);rw[cells_set l ds h.len i o e hi]at hr;refine⟨by rw[List.length_set];exact h.len,hr,fun j o' d' e1 e2=>?_,fun j o' d' e1 e2 hx k hk=>?_⟩
 ·rw[List.getElem?_set]at e2;by_cases hji:i=j
  ·subst hji;rw[hi]at e1;injection e1 with e1;subst e1;by_cases hl:i<ds.length
   ·rw[if_pos rfl,if_pos hl]at e2;injection e2 with e2;subst e2;exact⟨bts_keep hd (by simp) fun hx k _ hk=>Below.heap_setCell _ _ _ _ (fun e3=>hd3 hx k hk e3.symm),hd2⟩
   rw[if_pos rfl,if_neg hl]at e2;cases e2
  rw[if_neg hji]at e2;obtain⟨k1,k2⟩:=h.data j o' d' e1 e2;exact⟨bts_keep k1 (by simp) fun hx k _ hk=>Below.heap_setCell _ _ _ _ (fun e3=>h.off j o' d' e1 e2 hx k hk (by rw[show k=g from e3];rfl)),k2⟩
 rw[List.getElem?_set]at e2;by_cases hji:i=j
 ·by_cases hl:i<ds.length
  ·rw[if_pos hji,if_pos hl]at e2;injection e2 with e2;subst e2 hji;rw[hi]at e1;injection e1 with e1;subst e1;exact fun e3=>hd3 hx k hk (by injection e3)
  ·rw[if_pos hji,if_neg hl]at e2;cases e2
 rw[if_neg hji]at e2;exact h.off j o' d' e1 e2 hx k hk
end
def kChk:Kd Chk where
 ty:=49
 size:=5
 slot:=4
 cell:=fun x e=>chkC x e.1 e.2
 dat:=Chk.data
 len:=fun _ _=>rfl
 lt:=by decide
 set:=fun _ _ _=>rfl
 get:=fun _ _=>rfl
 one:=fun x e u hu=>by simp at hu;rcases hu with rfl|rfl|rfl|rfl|rfl<;>rfl
section
variable {α:Type} {K:Kd α} {w:World} {A:OA} {l:List α} {ds:List (Option Addr×Nat)} {R:CR α}
theorem gsrc_of(hR:∀cs x,R w cs x->∃e:Option Addr×Nat,cs=K.cell x e∧Bts w e.1 (K.dat x)∧(K.dat x).length<=e.2)(h:Elems K.size R w A l):∃ds,GSrc K w A l ds:=by
 have each:∀i:Fin l.length,∃e:Option Addr×Nat,∃b o,A=some ⟨b,o,none⟩∧b<w.heap.size∧(∀j,(hj:j<(K.cell l[i.1] e).length)->w.cell? ⟨b,o+i.1*K.size+j,none⟩=some (K.cell l[i.1] e)[j])∧Bts w e.1 (K.dat l[i.1])∧(K.dat l[i.1]).length<=e.2:=by
  intro i;obtain⟨b,o,h1,h2,cs,h3,h4,h5⟩:=h i.1 i.2;obtain⟨e,rfl,h3,h5⟩:=hR _ _ h5;exact⟨e,b,o,h1,h2,h4,h3,h5⟩
 let f:Fin l.length->Option Addr×Nat:=fun i=>Classical.choose (each i)
 have hf:∀i:Fin l.length,∃b o,A=some ⟨b,o,none⟩∧b<w.heap.size∧(∀j,(hj:j<(K.cell l[i.1] (f i)).length)->w.cell? ⟨b,o+i.1*K.size+j,none⟩=some (K.cell l[i.1] (f i))[j])∧Bts w (f i).1 (K.dat l[i.1])∧(K.dat l[i.1]).length<=(f i).2:=fun i=>Classical.choose_spec (each i);have hl:(List.ofFn f).length=l.length:=by simp
 refine⟨List.ofFn f,hl,fun p hp=>?_,fun i o d h1 h2=>?_⟩
 ·rw[cells_len _ _ hl]at hp;have hs:0<K.size:=by have:=K.lt;omega
  have hi:p / K.size<l.length:=Nat.div_lt_of_lt_mul (by rw[Nat.mul_comm];exact hp);have hj:p%K.size<K.size:=Nat.mod_lt _ hs;have hpe:p / K.size*K.size+p%K.size=p:=by rw[Nat.mul_comm];exact Nat.div_add_mod _ _
  obtain⟨b,o,hA,hb,hc,_⟩:=hf ⟨p / K.size,hi⟩;refine⟨b,o,hA,hb,?_⟩;have e1:=cells_at (K:=K) l (List.ofFn f) hl (p / K.size) (p%K.size) l[p / K.size] (f ⟨p / K.size,hi⟩) (List.getElem?_eq_getElem hi) (by simp[hi]) hj;rw[hpe]at e1;have e2:=hc (p%K.size) (by rw[K.len];exact hj);dsimp only at e2;rw[show o+p / K.size*K.size+p%K.size=o+p by omega]at e2;rw[e2,<-List.getElem?_eq_getElem,<-e1,List.getElem?_eq_getElem (by rw[cells_len _ _ hl];exact hp)]
 have hi:=(List.getElem?_eq_some_iff.1 h1).1;obtain⟨_,_,_,_,_,h3,h4⟩:=hf ⟨i,hi⟩;have e1:l[i]=o:=by rw[List.getElem?_eq_getElem hi]at h1;injection h1
 have e2:f ⟨i,hi⟩=d:=by simpa[hi]using h2
 dsimp only at h3 h4;rw[e1,e2]at h3 h4;exact⟨h3,h4⟩
theorem elems_of(h:GSrc K w A l ds)(hR:∀x∈l,∀e:Option Addr×Nat,Bts w e.1 (K.dat x)->(K.dat x).length<=e.2->R w (K.cell x e) x):Elems K.size R w A l:=by
 intro i hi;have hs:0<K.size:=by have:=K.lt;omega
 have hd:i<ds.length:=by rw[h.len];exact hi
 have hl:l[i]?=some l[i]:=List.getElem?_eq_getElem hi;have hds:ds[i]?=some ds[i]:=List.getElem?_eq_getElem hd;have hcl:=cells_len (K:=K) l ds h.len;have hib:i*K.size+K.size<=l.length*K.size:=by rw[<-Nat.succ_mul];exact Nat.mul_le_mul_right _ hi
 obtain⟨b,o,hA,hlt,_⟩:=h.row (i*K.size) (by omega);obtain⟨hd1,hd2⟩:=h.data i _ _ hl hds;refine⟨b,o,hA,hlt,K.cell l[i] ds[i],K.len _ _,fun j hj=>?_,hR _ (List.getElem_mem hi) _ hd1 hd2⟩;rw[K.len]at hj;obtain⟨b',o',e,_,hc⟩:=h.row (i*K.size+j) (by omega);rw[hA]at e;injection e with e;injection e with e1 e2;subst e1 e2;have:=cells_at (K:=K) l ds h.len i j _ _ hl hds hj;rw[List.getElem?_eq_getElem (by omega),List.getElem?_eq_getElem (by rw[K.len];exact hj)]at this;rw[show o+i*K.size+j=o+(i*K.size+j) by omega,hc];exact this
end
def ChkB(x:Chk):Prop:=x.data.length<=140737488351232∧I64 x.from_∧I64 x.to_∧I64 x.n∧I64 x.of_
theorem Chs.gsrc(h:Chs w A l):∃ds,GSrc kChk w A l ds:=
 gsrc_of (K:=kChk) (R:=rChk) (fun cs x ⟨B,c,h1,h2⟩=>⟨(B,c),h1,h2.data,h2.cap⟩) h
theorem GSrc.chs{ds:List (Option Addr×Nat)}(h:GSrc kChk w A l ds)(hb:∀x∈l,ChkB x):Chs w A l:=
 elems_of (K:=kChk) (R:=rChk) h fun x hx e h1 h2=>⟨e.1,e.2,rfl,h2,(hb x hx).1,h1,(hb x hx).2.1,(hb x hx).2.2.1,(hb x hx).2.2.2.1,(hb x hx).2.2.2.2⟩
theorem Chs.bound(h:Chs w A l):∀x∈l,ChkB x:=by
 intro x hx;obtain⟨i,hi,rfl⟩:=List.mem_iff_getElem.1 hx;obtain⟨b,o,_,_,cs,_,_,B,c,_,h1⟩:=h i hi;exact⟨h1.len,h1.i0,h1.i1,h1.i2,h1.i3⟩
def KrRet{α:Type}(K:Kd α)(w:World)(l:List α):Ending->World->Prop:=fun en w'=>
 ∃A c ds,en=.returned (.slice A l.length c)∧GRow K w' w.heap.size l ds A c∧Each K l ds (fun k=>w.heap.size<=k)∧Below w.heap.size w w'
theorem chkCopy_calls(A:OA)(c:Nat)(l:List Chk)(w:World)(hl:l.length<=2513169434843)(hs:Chs w A l):
  Calls Try.prog 101 #[.slice A l.length c] w (KrRet kChk w l):=by
 obtain⟨ds1,hg⟩:=hs.gsrc;have hbd:=hs.bound;have HBD:=qH hbd;have HG:=qH hg;have K1:=qH (cloneChunks_calls A l.length c (kChk.cells l ds1) w (cells_len _ _ hg.len) (by omega) hg.row (cells_oneCell _ _));clear hs hg hbd;go_enter Try.func101,Try.ntmps101;go_wp2_with fail;refine K1.out.mono ?_;rintro e w1 ⟨A1,c1,rfl,hown,hb1⟩;have hrow:GRow kChk w1 w.heap.size l ds1 A1 c1:=⟨HG.out.len,hown,(HG.out.stays hb1).data,fun i o d h1 h2 hx k hk e=>by
  have:=HG.out.each i o d h1 h2 hx k hk;have:=(hown.block k e).1;omega⟩
 have HR1:=qH hrow;have HB1:Hid (Below w.heap.size w w1):=qH hb1;clear hown hb1 hrow K1;go_wp2_with fail;go_loopw [9] (fun i wr=>∃(k:Nat) (ds:List (Option Addr×Nat)),k<=l.length∧i=iv k∧Hid (GRow kChk wr w.heap.size l ds A1 c1)∧Hid (∀(j:Nat) (o:Chk) (d:Option Addr×Nat),j<k->l[j]?=some o->ds[j]?=some d->kChk.dat o≠[]->∀q,d.1.map (·.block)=some q->w.heap.size<=q)∧Hid (Below w.heap.size w wr)) (fun i _=>l.length-(intOf i).toNat)
 case atStart=>exact⟨0,ds1,Nat.zero_le _,rfl,HR1,qH (fun j o d h=>by omega),HB1⟩
 case round=>
  clear HR1 HB1;rename World=>wr;obtain⟨k,ds,hk,rfl,HR,HN,HB⟩:=hrel;have hsz:=HB.out.size;by_cases hlt:k<l.length
  ·obtain⟨g,rfl,hg1,hg2⟩:=HR.out.row.form (by omega);have hlk:l[k]?=some l[k]:=List.getElem?_eq_getElem hlt;have hdk:ds[k]?=some (ds[k]'(by have:=HR.out.len;omega)):=List.getElem?_eq_getElem _;obtain⟨x,hx⟩:=eX (l[k]);obtain⟨e,he⟩:=eX (ds[k]'(by have:=HR.out.len;omega));rw[hx]at hlk;rw[he]at hdk;have hcell:∀j,j<5->wr.cell? ⟨g,k*5+j,none⟩=(kChk.cell x e)[j]?:=fun j hj=>by
    rw[HR.out.row.cellAt _ (show k*5+j<l.length*5 by omega)];exact cells_at (K:=kChk) l ds HR.out.len k j x e hlk hdk hj
   have q5:wr.cell? ⟨g,k*5,none⟩=some (iv x.from_):=hcell 0 (by decide);have q1:wr.cell? ⟨g,k*5+1,none⟩=some (iv x.to_):=hcell 1 (by decide);have q2:wr.cell? ⟨g,k*5+2,none⟩=some (iv x.n):=hcell 2 (by decide);have q3:wr.cell? ⟨g,k*5+3,none⟩=some (iv x.of_):=hcell 3 (by decide);have q4:wr.cell? ⟨g,k*5+4,none⟩=some (.slice e.1 x.data.length e.2):=hcell 4 (by decide);obtain⟨hd1,hd2⟩:=HR.out.data k x e hlk hdk;have hxl:x.data.length<=140737488351232:=(HBD.out x (List.mem_of_getElem? hlk)).1;have HD1:Hid (Bts wr e.1 x.data):=qH hd1;have HLK:=qH hlk;have HDK:=qH hdk;have K1:=qH (fun w h=>cloneBytes_calls e.1 x.data.length e.2 (x.data.map bv) w (by simp) (by omega) h (bv_one _));have hfr:wr.frozen? ⟨g,k*5+4,none⟩=false:=HR.out.row.frozenAt _;have dl:decide ((k:Int)<(l.length:Int))=true:=decide_eq_true (by omega);have hwk:IntKind.i64.wrap ((k:Int)+1)=(k:Int)+1:=IntWalk.i64_in _ (by omega);have hcap:(l.length:Int)<=(c1:Int):=by have:=HR.out.row.le;omega
   clear hcell hx he hlk hdk hd1 hd2;go_wp2_with fail;have hba:=(bW wr).alloc nl (.cells (chkA x.from_ x.to_ x.n x.of_ e.1 x.data.length e.2) 49);refine(K1.out _ (HD1.out.stays hba).src).mono ?_;rintro en w1 ⟨B,d,rfl,hob,hb1⟩;have hb2:=hba.trans (hb1.mono (by simp));have HR1:=qH (HR.out.below hb2);have hq1:w1.cell? ⟨g,k*5+4,none⟩=some (.slice e.1 x.data.length e.2):=(hb2.cell (p:=⟨g,k*5+4,none⟩) hg2).trans q4;have hf1:w1.frozen? ⟨g,k*5+4,none⟩=false:=(hb2.frozen (p:=⟨g,k*5+4,none⟩) hg2).trans hfr;have HBB:Hid (Below w.heap.size w (w1.setCell ⟨g,k*5+4,none⟩ (.slice B x.data.length d))):=qH ((HB.out.trans (hb2.mono hsz)).setCell (p:=⟨g,k*5+4,none⟩) hg1 _);have hgw:∀q,B.map (·.block)=some q->wr.heap.size+1<=q:=fun q h=>by have:=(hob.block q h).1;simpa using this
   have HR1:Hid (GRow kChk (w1.setCell ⟨g,k*5+4,none⟩ (.slice B x.data.length d)) w.heap.size l (ds.set k (B,d)) (some ⟨g,0,none⟩) c1):=qH (HR1.out.setData (e:=(B,d)) HLK.out hob.src.bts (by show x.data.length<=d;simpa using hob.le) (fun _ q h e2=>by have:=hgw q h;omega));have HN1:Hid (∀(j:Nat) (o:Chk) (d':Option Addr×Nat),j<k+1->l[j]?=some o->(ds.set k (B,d))[j]?=some d'->kChk.dat o≠[]->∀q,d'.1.map (·.block)=some q->w.heap.size<=q):=qH (fun j o d' hj h1 h2 hx q hq=>by
    rw[List.getElem?_set]at h2;by_cases hjk:k=j
    ·by_cases hdl:k<ds.length
     ·rw[if_pos hjk,if_pos hdl]at h2;injection h2 with h2;subst h2;have:=hgw q hq;omega
     ·rw[if_pos hjk,if_neg hdl]at h2;cases h2
    rw[if_neg hjk]at h2;exact HN.out j o d' (by omega) h1 h2 hx q hq)
   have a1:=kp (wr.heap.size) (chkA x.from_ x.to_ x.n x.of_ e.1 x.data.length e.2) hb1;clear hob hb1 hb2 hba q5 q1 q2 q3 q4 hfr hgw a1;go_wp2_with fail;go_roundw
   case rel=>exact⟨k+1,ds.set k (B,d),by omega,by go_num,HR1,HN1,HBB⟩
   case measure=>simp[intOf];omega
  obtain rfl:k=l.length:=by omega
  have dl:decide ((l.length:Int)<(l.length:Int))=false:=by simp
  go_wp2_with fail;go_ret;exact⟨A1,c1,ds,rfl,HR.out,fun i o d h1 h2 hx q hq=>HN.out i o d (List.getElem?_eq_some_iff.1 h1).1 h1 h2 hx q hq,HB.out⟩
def ChkRet2(w:World)(l:List Chk)(n:Int):Ending->World->Prop:=fun en w'=>
 ∃A c ds,en=.returned (.tuple #[.slice A l.length c,iv n])∧GRow kChk w' w.heap.size l ds A c∧Each kChk l ds (fun k=>w.heap.size<=k)∧Below w.heap.size w w'
theorem mid_slice{ab ao:Nat}{l:LU}{z1 z2:Int}(i y:Nat)(h1:z1=(i:Int))(h2:z2=(i:Int)+(y:Int))(hc:l.length<=c)(hy:i+y<=l.length)(hB:Bts w (some ⟨ab,ao,none⟩) l):∃o' c',y<=c'∧Bts w (some ⟨ab,o',none⟩) ((l.drop i).take y)∧
  ∀W,(Instr.slice 22 (.slice (some ⟨ab,ao,none⟩) l.length c) (some (iv z1)) (some (iv z2)) none).run Try.prog W=.ok (.slice (some ⟨ab,o',none⟩) y c') W:=by
 subst h1 h2;have q1:(i:Int)+(y:Int)<=(c:Int):=by omega
 have q1:(i:Int)<=(i:Int)+(y:Int):=by omega
 have q1:i+y-i=y:=by omega
 by_cases e:c=i
 ·have hy1:y=0:=by omega
  subst hy1;refine⟨ao,c-i,by omega,by simpa using Bts.nil _ _,fun W=>?_⟩;go_simp
 refine⟨ao+i,c-i,by omega,mid_take (mid_at hB i) y,fun W=>?_⟩;go_simp;omega
end Go.Proofs.Ytefkfglkpebbmac
