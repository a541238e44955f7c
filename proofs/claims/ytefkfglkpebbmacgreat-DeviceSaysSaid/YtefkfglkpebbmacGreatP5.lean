/- Walks of functions, and plain words. No conditions. -/
import Derived.Test.YtefkfglkpebbmacGreatPE4
import Derived.Test.YtefkfglkpebbmacGreatP4
import Derived.ChangeKeysEq
import Derived.Laws.OwnMore
import Derived.BigRegion
set_option linter.unusedVariables false
set_option linter.unusedSimpArgs false
set_option maxRecDepth 100000
set_option maxHeartbeats 40000000
namespace Go.Proofs.YtefkfglkpebbmacGreat
open Go.RowKit
variable {Y:Prop}
variable {x:Chk}
theorem x4ql(h:Y:=by
 go_enter Tryz.func75,Tryz.ntmps75;go_wp2_with fail;go_ret;exact⟨ret_bool HZ.out.symm,HB.out⟩):Y:=h
theorem x73o(h:Y:=by
 go_wp2_with fail;go_ret;exact⟨ret_int hz.out.symm,hA⟩):Y:=h
theorem chkCheck_bad(h:¬x.range):chkCheck x=2:=by unfold chkCheck;rw[if_pos h]
theorem chkCheck_form(h:x.range)(g:¬x.full):chkCheck x=3:=by unfold chkCheck;rw[if_neg (by simpa using h),if_pos g]
theorem chkCheck_fine(h:x.range)(g:x.full):chkCheck x=0:=chkCheck_ok.2 ⟨h,g⟩
theorem full_len{f t n o:Int}{l:LU}:Chk.full ⟨f,t,n,o,l⟩↔l.length≠0∧l.length<=16∧(n<o-1->l.length=16):=by
 unfold Chk.full;dsimp only;rw[<-List.length_pos_iff];constructor<;>(intro h;refine⟨by omega,h.2.1,h.2.2⟩)
theorem chkCheck_calls(A:OA)(c:Nat)(f t n o:Int)(l:LU)(w:World)(hn:I64 n)(ho:I64 o):
  Calls Tryz.prog 74 #[.agg (chkA f t n o A l.length c)] w (RetB w (iv (chkCheck ⟨f,t,n,o,l⟩))):=by
 obtain⟨hn1,hn2⟩:=hn;obtain⟨ho1,ho2⟩:=ho;have hb:Below w.heap.size w (w.alloc (.cells (chkA f t n o A l.length c) 39)):=bL _;have HB:=qH hb;clear hb;by_cases h8:f<(1:Int)
 ·have hz:=qH (chkCheck_bad (x:=⟨f,t,n,o,l⟩) (by unfold Chk.range;dsimp only;omega));go_enter Tryz.func74,Tryz.ntmps74;exact x73o
 by_cases h1:(30:Int)<f
 ·have hz:=qH (chkCheck_bad (x:=⟨f,t,n,o,l⟩) (by unfold Chk.range;dsimp only;omega));go_enter Tryz.func74,Tryz.ntmps74;exact x73o
 by_cases h1:t<(1:Int)
 ·have hz:=qH (chkCheck_bad (x:=⟨f,t,n,o,l⟩) (by unfold Chk.range;dsimp only;omega));go_enter Tryz.func74,Tryz.ntmps74;exact x73o
 by_cases h1:(30:Int)<t
 ·have hz:=qH (chkCheck_bad (x:=⟨f,t,n,o,l⟩) (by unfold Chk.range;dsimp only;omega));go_enter Tryz.func74,Tryz.ntmps74;exact x73o
 by_cases h1:o<(1:Int)
 ·have hz:=qH (chkCheck_bad (x:=⟨f,t,n,o,l⟩) (by unfold Chk.range;dsimp only;omega));go_enter Tryz.func74,Tryz.ntmps74;exact x73o
 by_cases h1:(52:Int)<o
 ·have hz:=qH (chkCheck_bad (x:=⟨f,t,n,o,l⟩) (by unfold Chk.range;dsimp only;omega));go_enter Tryz.func74,Tryz.ntmps74;exact x73o
 by_cases h1:n<(0:Int)
 ·have hz:=qH (chkCheck_bad (x:=⟨f,t,n,o,l⟩) (by unfold Chk.range;dsimp only;omega));go_enter Tryz.func74,Tryz.ntmps74;exact x73o
 by_cases h1:o<=n
 ·have hz:=qH (chkCheck_bad (x:=⟨f,t,n,o,l⟩) (by unfold Chk.range;dsimp only;omega));go_enter Tryz.func74,Tryz.ntmps74;exact x73o
 have hr:Chk.range ⟨f,t,n,o,l⟩:=by unfold Chk.range;dsimp only;omega
 have HR:=qH hr;clear hr;have hw:IntKind.i64.wrap (o-1)=o-1:=IntWalk.i64_in _ (by omega);by_cases g4:l.length=0
 ·have hz:=qH (chkCheck_form HR.out (fun e=>(full_len.1 e).1 g4));have q:((l.length:Int)==0)=true:=by simp[g4]
  clear g4;go_enter Tryz.func74,Tryz.ntmps74;exact x73o
 have q2:((l.length:Int)==0)=false:=beq_eq_false_iff_ne.2 (by omega);by_cases g1:(16:Int)<(l.length:Int)
 ·have hz:=qH (chkCheck_form HR.out (fun e=>by have:=(full_len.1 e).2.1;omega));clear g4;go_enter Tryz.func74,Tryz.ntmps74;exact x73o
 by_cases g1:n<o-1
 ·by_cases g2:l.length=16
  ·have q1:((l.length:Int) !=16)=false:=by simp[g2]
   have hz:=qH (chkCheck_fine HR.out (full_len.2 ⟨by omega,by omega,fun _=>g2⟩));clear g4 g2;go_enter Tryz.func74,Tryz.ntmps74;exact x73o
  ·have q1:((l.length:Int) !=16)=true:=bne_iff_ne.2 (by omega);have hz:=qH (chkCheck_form HR.out (fun e=>g2 ((full_len.1 e).2.2 g1)));clear g4 g2;go_enter Tryz.func74,Tryz.ntmps74;exact x73o
 have hz:=qH (chkCheck_fine HR.out (full_len.2 ⟨by omega,by omega,fun h=>absurd h g1⟩));clear g4;go_enter Tryz.func74,Tryz.ntmps74;exact x73o
theorem kin_calls(A B:OA)(c d k m:Nat)(f t n o f2 t2 n2 o2:Int)(l r:LU)(w:World):
  Calls Tryz.prog 75 #[.agg (chkA f t n o A k c),.agg (chkA f2 t2 n2 o2 B m d)] w (RetB w (.bool (decide (kin ⟨f,t,n,o,l⟩ ⟨f2,t2,n2,o2,r⟩)))):=by
 have hb:Below w.heap.size w ((w.alloc (.cells (chkA f t n o A k c) 39)).alloc (.cells (chkA f2 t2 n2 o2 B m d) 39)):=(bL _).alloc (by simp) _;have HB:=qH hb;clear hb;by_cases h3:¬f=f2
 ·have hz:decide (kin ⟨f,t,n,o,l⟩ ⟨f2,t2,n2,o2,r⟩)=false:=decide_eq_false (by unfold kin;dsimp only;omega);have HZ:=qH hz;have q:(f==f2)=false:=by simp[h3]
  clear hz h3;exact x4ql
 have h3:=Decidable.not_not.1 h3;subst h3;have q3:(f==f)=true:=by simp
 by_cases h1:¬t=t2
 ·have hz:decide (kin ⟨f,t,n,o,l⟩ ⟨f,t2,n2,o2,r⟩)=false:=decide_eq_false (by unfold kin;dsimp only;omega);have HZ:=qH hz;have q:(t==t2)=false:=by simp[h1]
  clear hz h1;exact x4ql
 have h1:=Decidable.not_not.1 h1;subst h1;have q1:(t==t)=true:=by simp
 by_cases h1:¬o=o2
 ·have hz:decide (kin ⟨f,t,n,o,l⟩ ⟨f,t,n2,o2,r⟩)=false:=decide_eq_false (by unfold kin;dsimp only;omega);have HZ:=qH hz;have q:(o==o2)=false:=by simp[h1]
  clear hz h1;exact x4ql
 have h1:=Decidable.not_not.1 h1;subst h1;have q1:(o==o)=true:=by simp
 have hz:decide (kin ⟨f,t,n,o,l⟩ ⟨f,t,n2,o,r⟩)=true:=decide_eq_true ⟨rfl,rfl,rfl⟩;have HZ:=qH hz;clear hz;exact x4ql
theorem x014(h:Y:=by
 have HB1:=bT HB hb;clear hb;go_wp2_with fail;go_ret;exact⟨ret_bool HZ.out,HB1.out⟩):Y:=h
theorem chk_eq_iff{y:Chk}:x=y↔kin x y∧x.n=y.n∧x.data=y.data:=by
 obtain⟨f,t,n,o,l⟩:=x;obtain⟨f1,t1,n1,o1,l1⟩:=y;unfold kin;simp only[Chk.mk.injEq];constructor
 ·rintro⟨h1,h2,h3,h4,h5⟩;exact⟨⟨h1,h2,h4⟩,h3,h5⟩
 rintro⟨⟨h1,h2,h4⟩,h3,h5⟩;exact⟨h1,h2,h3,h4,h5⟩
theorem kinX_calls(A B:OA)(c d:Nat)(x y:Chk)(w:World):
  Calls Tryz.prog 75 #[.agg (chkA x.from_ x.to_ x.n x.of_ A x.data.length c),.agg (chkA y.from_ y.to_ y.n y.of_ B y.data.length d)] w (RetB w (.bool (decide (kin x y)))):=
 kin_calls A B c d x.data.length y.data.length x.from_ x.to_ x.n x.of_ y.from_ y.to_ y.n y.of_ x.data y.data w
theorem chkSame1_calls(x y:Chk)(B D:OA)(c d:Nat)(w:World)(hx:ChkIn w x B c)(hy:ChkIn w y D d):
  Calls Tryz.prog 79 #[.agg (chkA x.from_ x.to_ x.n x.of_ B x.data.length c),.agg (chkA y.from_ y.to_ y.n y.of_ D y.data.length d)] w (RetB w (.bool (decide (x=y)))):=by
 have bl:=((bW w).alloc nl (.cells (chkA x.from_ x.to_ x.n x.of_ B x.data.length c) 39)).alloc (by simp) (.cells (chkA y.from_ y.to_ y.n y.of_ D y.data.length d) 39);have hl:=hx.len;have hl1:=hy.len;have HB:=qH bl;have HK:=qH (fun w=>kinX_calls B D c d x y w);obtain⟨r,hr⟩:=eX (decide (x=y));rw[hr];have hr1:decide (kin x y∧x.n=y.n∧x.data=y.data)=r:=by
  rw[<-hr];exact decide_eq_decide.2 chk_eq_iff.symm
 have HR:=qH hr1;have HC:=qH (fun w h1 h2=>equalBytes_calls B D c d x.data y.data w hl hl1 h1 h2);have HX:=qH hx;have HY:=qH hy;clear hx hy bl hr hr1;by_cases hk:kin x y
 ·have dk:decide (kin x y)=true:=decide_eq_true hk;have HKK:=qH hk;clear hk;by_cases hn:x.n=y.n
  ·have hz:decide (x.data=y.data)=r:=by
    rw[<-HR.out];by_cases e:x.data=y.data
    ·rw[decide_eq_true e,decide_eq_true ⟨HKK.out,hn,e⟩]
    rw[decide_eq_false e,decide_eq_false (fun h=>e h.2.2)]
   have HZ:=qH hz;have q:(x.n==y.n)=true:=by simp[hn]
   clear hn hz;go_enter Tryz.func79,Tryz.ntmps79;go_wp2_with fail;refine(HK.out _).mono ?_;rintro e w1 ⟨rfl,hb⟩;have a2:=kp (w.heap.size) (chkA x.from_ x.to_ x.n x.of_ B x.data.length c) hb;have a1:=kp (w.heap.size+1) (chkA y.from_ y.to_ y.n y.of_ D y.data.length d) hb;have HB1:=bT HB hb;clear hb;go_wp2_with fail;refine(HC.out _ (HX.out.data.stays HB1.out) (HY.out.data.stays HB1.out)).mono ?_;rintro e w2 ⟨rfl,n,rfl⟩;go_wp2_with fail;go_ret;exact⟨ret_bool HZ.out,Below.drewN' HB1.out n⟩
  have hz:false=r:=by rw[<-HR.out,decide_eq_false (fun h=>hn h.2.1)]
  have HZ:=qH hz;have q:(x.n==y.n)=false:=by simp[hn]
  clear hn hz;go_enter Tryz.func79,Tryz.ntmps79;go_wp2_with fail;refine(HK.out _).mono ?_;rintro e w1 ⟨rfl,hb⟩;have a2:=kp (w.heap.size) (chkA x.from_ x.to_ x.n x.of_ B x.data.length c) hb;have a1:=kp (w.heap.size+1) (chkA y.from_ y.to_ y.n y.of_ D y.data.length d) hb;exact x014
 have dk:decide (kin x y)=false:=decide_eq_false hk;have hz:false=r:=by rw[<-HR.out,decide_eq_false (fun h=>hk h.1)]
 have HZ:=qH hz;clear hk hz;go_enter Tryz.func79,Tryz.ntmps79;go_wp2_with fail;refine(HK.out _).mono ?_;rintro e w1 ⟨rfl,hb⟩;exact x014
theorem chkSame_eqf(A B:OA)(c d:Nat)(l m:List Chk)(w:World)(hl:l.length<=2513169434843)(hm:m.length<=2513169434843)(ha:Chs w A l)(hb:Chs w B m):
  Calls Tryz.prog 78 #[.slice A l.length c,.slice B m.length d,.func (Fn.func 79) #[] #[]] w (RetB w (.bool (decide (l=m)))):=by
 by_cases hne:l.length=m.length
 ·have hdl:((l.length:Int) !=(m.length:Int))=false:=by simp[hne]
  have HE:=qH hne;have hm1:l.length<=m.length:=by omega
  have hm2:m.length<=l.length:=by omega
  clear hne;go_enter Tryz.func78,Tryz.ntmps78;go_wp2_with fail;go_loopw [17] (fun i wr=>∃k:Nat,k<=l.length∧i=iv k∧Hid (l.take k=m.take k)∧Hid (Below w.heap.size w wr)) (fun i _=>l.length-(intOf i).toNat)
  case atStart=>exact⟨0,Nat.zero_le _,rfl,qH rfl,qH (Below.refl _ _)⟩
  case round=>
   obtain⟨k,hk,rfl,HT,HB⟩:=hrel;by_cases hlt:k<l.length
   ·obtain⟨b1,o1,B1,c1,rfl,hs1,p6,p1,p2,p3,p4,p5⟩:=(ha.stays HB.out).at_ hlt;obtain⟨b2,o2,B2,c2,rfl,hs2,r6,r1,r2,r3,r4,r5⟩:=(hb.stays HB.out).at_ (i:=k) (by omega);have hsz:=HB.out.size;have HX:Hid (∀e:l[k]=m[k]'(by omega),l.take (k+1)=m.take (k+1)):=qH fun e=>take_eq_succ HT.out hlt (by omega) e;have HN:Hid (∀e:l[k]≠m[k]'(by omega),l≠m):=qH fun e=>ne_of_at hlt (by omega) e;generalize l[k]=x at *
    generalize m[k]'(by omega)=y at *
    have hsb:=fun w2 (h:Below wr.heap.size wr w2)=>chkSame1_calls x y B1 B2 c1 c2 w2 (p5.stays h) (r5.stays h);have HC:=qH hsb;clear hsb p5 r5;go_wp2_with fail;refine(HC.out _ ?_).mono ?_
    ·exact x0rc
    rintro e w1 ⟨rfl,hb1⟩;have HB1:Hid (Below w.heap.size w w1):=by
     exact x7ta
    clear hb1;exact x6ww
   exact x99v
 exact x14j
theorem chkSame_calls(A B:OA)(c d:Nat)(l m:List Chk)(w:World)(hl:l.length<=2513169434843)(hm:m.length<=2513169434843)(ha:Chs w A l)(hb:Chs w B m):
  Calls Tryz.prog 40 #[.slice A l.length c,.slice B m.length d] w (RetB w (.bool (decide (l=m)))):=by
 go_enter Tryz.func40,Tryz.ntmps40;go_wp2_with fail;refine(chkSame_eqf A B c d l m w hl hm ha hb).mono ?_;exact x3rf
theorem x228(h:Y:=by
 go_wp2_with fail;go_ret;exact⟨ret_bool HR.out.symm,HB2.out⟩):Y:=h
theorem x4ns(h:Y:=by
 rcases d with ⟨a1,a2,a3,a4,a5,a6,a7,a8,a9,a10⟩;rcases g with ⟨b1,b2,b3,b4,b5,b6,b7,b8,b9,b10⟩;rw[Bool.eq_iff_iff];simp only[decide_eq_true_eq,Bool.and_eq_true,Dev.mk.injEq,beq_iff_eq];constructor
 ·rintro⟨h1,h2,h3,h4,h5,h6,h7,h8,h9,h10⟩;simp only[h1,h2,h3,h4,h5,h6,h7,h8,h9,h10,and_self]
 intro h;simp only[h,and_self]):Y:=h
theorem x8nf(h:Y:=by
 go_wp2_with fail;go_ret;exact⟨ret_bool HR.out.symm,HB4.out⟩):Y:=h
theorem x92b(h:Y:=by
 go_wp2_with fail;go_ret;exact⟨ret_bool HR.out.symm,HB3.out⟩):Y:=h
theorem eqIn_inf(d:Nat)(x y z x' y' z':Int)(w:World):(Op.equalIn (d+2) 25 (.agg #[iv x,iv y,iv z]) (.agg #[iv x',iv y',iv z'])).run Tryz.prog w=.ok (decide (x=x'∧y=y'∧z=z')) w:=by
 go_simp;split
 ·split
  ·split<;>simp_all
  ·simp_all
 simp_all
theorem cellsOfInf:Tryz.prog.cellsOf 25=3:=by kernel_rfl
theorem cellsOfCop:Tryz.prog.cellsOf 30=12:=by kernel_rfl
theorem run_eqItems2{P:Program}{d n:Nat}{e:TypeId}{xs ys:Array Value}{w:World}{a b a' b':Value}{r r':Bool}
  (p1:(part e xs 0).run P w=.ok a w) (p2:(part e ys 0).run P w=.ok a' w) (p3:(part e xs n).run P w=.ok b w) (p4:(part e ys n).run P w=.ok b' w)
  (h1:(Op.equalIn d e a a').run P w=.ok r w) (h2:(Op.equalIn d e b b').run P w=.ok r' w):(Op.eqItems d e n xs ys (List.range 2)).run P w=.ok (r&&r') w:=by
 rw[show List.range 2=[0,1] from rfl];simp only[Op.eqItems,Sem.run_bind,Nat.zero_mul,Nat.one_mul,p1,p2,Result.andThen_ok,h1]
 cases r
 ·simp
 simp only[Bool.not_true,Bool.false_eq_true,if_false,Sem.run_bind,p3,p4,h2,Result.andThen_ok,Bool.true_and]
 cases r'<;>simp
theorem eqIn_infs(d:Nat)(x y z x' y' z' u v t u' v' t':Int)(w:World):(Op.equalIn (d+3) 26 (.agg #[iv x,iv y,iv z,iv u,iv v,iv t]) (.agg #[iv x',iv y',iv z',iv u',iv v',iv t'])).run Tryz.prog w=
  .ok (decide (x=x'∧y=y'∧z=z')&&decide (u=u'∧v=v'∧t=t')) w:=by
 obtain⟨i,hi,hz,hs,hb⟩:=info_parts (P:=Tryz.prog) (e:=25) (z:=.agg #[iv 0,iv 0,iv 0]) (size:=3) (bytes:=24) (by kernel_rfl);rw[run_equalIn_array (P:=Tryz.prog) (w:=w) (d+2) _ _ Tryz.underlying26 hi,cellsOfInf];exact run_eqItems2 (by kernel_rfl) (by kernel_rfl) (by kernel_rfl) (by kernel_rfl) (eqIn_inf d x y z x' y' z' w) (eqIn_inf d u v t u' v' t' w)
theorem rec_dec(r s:Rec):decide (r=s)=(decide (r.gen=s.gen)&&(decide (r.active=s.active)&&(decide (r.trying=s.trying)&&(decide (r.tries=s.tries)&&(decide (r.floor=s.floor)&&(decide (r.a.ver=s.a.ver∧r.a.size=s.a.size∧r.a.sum=s.a.sum)&&decide (r.b.ver=s.b.ver∧r.b.size=s.b.size∧r.b.sum=s.b.sum))))))):=by
 obtain⟨g,a,t,n,f,⟨x,y,z⟩,⟨u,v,w⟩⟩:=r;obtain⟨g',a',t',n',f',⟨x',y',z'⟩,⟨u',v',w'⟩⟩:=s;rw[Bool.eq_iff_iff];simp
theorem eqIn_rec(d:Nat)(r s:Rec)(w:World):(Op.equalIn (d+4) 28 (.agg (recA r)) (.agg (recA s))).run Tryz.prog w=.ok (decide (r=s)) w:=by
 have e:=fun w=>eqIn_infs d r.a.ver r.a.size r.a.sum s.a.ver s.a.size s.a.sum r.b.ver r.b.size r.b.sum s.b.ver s.b.size s.b.sum w;rw[rec_dec];generalize decide (r.a.ver=s.a.ver∧r.a.size=s.a.size∧r.a.sum=s.a.sum)=B1 at e⊢;generalize decide (r.b.ver=s.b.ver∧r.b.size=s.b.size∧r.b.sum=s.b.sum)=B2 at e⊢;unfold recA;go_simp;by_cases h1:r.gen=s.gen
 ·by_cases h2:r.active=s.active
  ·by_cases h3:r.trying=s.trying
   ·by_cases h4:r.tries=s.tries
    ·by_cases h5:r.floor=s.floor
     ·cases B1<;>cases B2<;>simp[h1,h2,h3,h4,h5]
     ·simp[h1,h2,h3,h4,h5]
    ·simp[h1,h2,h3,h4]
   ·simp[h1,h2,h3]
  ·simp[h1,h2]
 simp[h1]
theorem guard_rec:Tryz.prog.eqGuardType Tryz.prog.depth 28=false:=by kernel_rfl
theorem eql_rec(r s:Rec)(w:World):(binOp .eql 28 (.agg (recA r)) (.agg (recA s))).run Tryz.prog w=.ok (.bool (decide (r=s))) w:=by
 rw[run_eql_struct,eqIn_rec 9996];rfl
theorem neq_rec(r s:Rec)(w:World):(binOp .neq 28 (.agg (recA r)) (.agg (recA s))).run Tryz.prog w=.ok (.bool (!decide (r=s))) w:=by
 rw[run_neq_struct,eqIn_rec 9996];rfl
theorem neq_rec0(r:Rec)(w:World):(binOp .neq 28 (.agg (recA r)) (.agg #[iv 0,iv 0,.bool false,iv 0,iv 0,iv 0,iv 0,iv 0,iv 0,iv 0,iv 0])).run Tryz.prog w=.ok (.bool (!decide (r=Rec.zero))) w:=neq_rec r Rec.zero w
theorem eql_rec0(r:Rec)(w:World):(binOp .eql 28 (.agg (recA r)) (.agg #[iv 0,iv 0,.bool false,iv 0,iv 0,iv 0,iv 0,iv 0,iv 0,iv 0,iv 0])).run Tryz.prog w=.ok (.bool (decide (r=Rec.zero))) w:=eql_rec r Rec.zero w
theorem cop_dec(c d:Cop):decide (c=d)=(decide (c.ok=d.ok)&&decide (c.r=d.r)):=by
 obtain⟨o,r⟩:=c;obtain⟨o',r'⟩:=d;rw[Bool.eq_iff_iff];simp
theorem eqIn_cop(d:Nat)(a b:Cop)(w:World):(Op.equalIn (d+5) 30 (.agg (copA a)) (.agg (copA b))).run Tryz.prog w=.ok (decide (a=b)) w:=by
 have e:∀w,(Op.equalIn (d+4) 28 (.agg #[iv a.r.gen,iv a.r.active,.bool a.r.trying,iv a.r.tries,iv a.r.floor,iv a.r.a.ver,iv a.r.a.size,iv a.r.a.sum,iv a.r.b.ver,iv a.r.b.size,iv a.r.b.sum])
  (.agg #[iv b.r.gen,iv b.r.active,.bool b.r.trying,iv b.r.tries,iv b.r.floor,iv b.r.a.ver,iv b.r.a.size,iv b.r.a.sum,iv b.r.b.ver,iv b.r.b.size,iv b.r.b.sum])).run Tryz.prog w=.ok (decide (a.r=b.r)) w:=fun w=>eqIn_rec d a.r b.r w
 rw[cop_dec];generalize decide (a.r=b.r)=B1 at e⊢;unfold copA;go_simp;by_cases h1:a.ok=b.ok<;>cases B1<;>simp[h1]
theorem eql_cop(r s:Cop)(w:World):(binOp .eql 30 (.agg (copA r)) (.agg (copA s))).run Tryz.prog w=.ok (.bool (decide (r=s))) w:=by
 rw[run_eql_struct,eqIn_cop 9995];rfl
theorem eqIn_cops(d:Nat)(a b x y:Cop)(w:World):(Op.equalIn (d+6) 31 (.agg (copsA a b)) (.agg (copsA x y))).run Tryz.prog w=.ok (decide (a=x)&&decide (b=y)) w:=by
 obtain⟨i,hi,hz,hs,hb⟩:=info_parts (P:=Tryz.prog) (e:=30) (z:=.agg (copA Cop.zero)) (size:=12) (bytes:=96) (by kernel_rfl);rw[run_equalIn_array (P:=Tryz.prog) (w:=w) (d+5) _ _ Tryz.underlying31 hi,cellsOfCop];exact run_eqItems2 (by kernel_rfl) (by kernel_rfl) (by kernel_rfl) (by kernel_rfl) (eqIn_cop d a x w) (eqIn_cop d b y w)
theorem eql_cops(a b x y:Cop)(w:World):(binOp .eql 31 (.agg (copsA a b)) (.agg (copsA x y))).run Tryz.prog w=.ok (.bool (decide (a=x)&&decide (b=y))) w:=by
 rw[run_eql_struct,eqIn_cops 9994];rfl
theorem neq_cops(a b x y:Cop)(w:World):(binOp .neq 31 (.agg (copsA a b)) (.agg (copsA x y))).run Tryz.prog w=.ok (.bool (!(decide (a=x)&&decide (b=y)))) w:=by
 rw[run_neq_struct,eqIn_cops 9994];rfl
theorem guard_cop:Tryz.prog.eqGuardType Tryz.prog.depth 30=false:=by kernel_rfl
theorem guard_cops:Tryz.prog.eqGuardType Tryz.prog.depth 31=false:=by kernel_rfl
theorem big_cop:bigBuild Tryz.prog 30 2:=by
 obtain⟨i,hi,_⟩:=info_parts (P:=Tryz.prog) (e:=30) (z:=.agg (copA Cop.zero)) (size:=12) (bytes:=96) (by kernel_rfl);exact⟨i,hi,by omega⟩
theorem big_inf:bigBuild Tryz.prog 25 3:=by
 obtain⟨i,hi,_⟩:=info_parts (P:=Tryz.prog) (e:=25) (z:=.agg (infA Inf.zero)) (size:=3) (bytes:=24) (by kernel_rfl);exact⟨i,hi,by omega⟩
theorem build_cop(b:Bool)(r:Rec)(w:World):runBuild Tryz.prog 30 #[(0,.bool b),(1,.agg (recA r))] w=.ok (.agg (copA ⟨b,r⟩)) w:=by kernel_rfl
theorem build_inf(a b c:Int)(w:World):runBuild Tryz.prog 25 #[(0,iv a),(1,iv b),(2,iv c)] w=.ok (.agg (infA ⟨a,b,c⟩)) w:=by kernel_rfl
attribute [go_sem] build_cop build_inf big_cop big_inf
attribute [go_sem] guard_rec guard_cop guard_cops
attribute [go_sem ↓] eql_cops neq_cops eql_rec neq_rec neq_rec0 eql_rec0 eql_cop
theorem devSame_self(d:Dev)(L L':DLoc)(w:World)(h:DevIn w d L)(h':DevIn w d L'):Calls Tryz.prog 8 #[.agg (devA d L),.agg (devA d L')] w (RetB w (.bool true)):=by
 have H:=qH h;have H':=qH h';have HBA:Hid (Below w.heap.size w ((w.alloc (.cells (devA d L) 37)).alloc (.cells (devA d L') 37))):=qH ((bL _).alloc (by simp) _);have K4:=qH (fun w ha hb=>equalBytes_calls L.a0 L'.a0 L.c0 L'.c0 d.s0 d.s0 w h.l0 h.l0 ha hb);have K1:=qH (fun w ha hb=>equalBytes_calls L.a1 L'.a1 L.c1 L'.c1 d.s1 d.s1 w h.l1 h.l1 ha hb);have K2:=qH (fun w ha hb=>chkSame_calls L.ag L'.ag L.cg L'.cg d.got d.got w h.lg h.lg ha hb);have K3:=qH (fun w ha hb=>patSameA_calls L.aj L'.aj L.cj L'.cj d.job.from_ d.job.to_ d.job.old d.job.new_ d.job.size d.job.from_ d.job.to_ d.job.old d.job.new_ d.job.size d.job.ops d.job.ops w h.job.len h.job.len ha hb);rw[decide_eq_true rfl]at K4 K1 K2 K3;clear h h';go_enter Tryz.func8,Tryz.ntmps8;go_wp2_with fail;refine(K4.out _ (H.out.b0.stays HBA.out) (H'.out.b0.stays HBA.out)).mono ?_;rintro e w1 ⟨rfl,n1,hw⟩;have hb:Below ((w.alloc (.cells (devA d L) 37)).alloc (.cells (devA d L') 37)).heap.size ((w.alloc (.cells (devA d L) 37)).alloc (.cells (devA d L') 37)) w1:=by rw[<-hw];exact below_drewN _ n1
 have a2:=kp (w.heap.size) (devA d L) hb;have a1:=kp (w.heap.size+1) (devA d L') hb;have HB1:=bT HBA hb;clear hb hw;go_wp2_with fail;refine(K1.out _ (H.out.b1.stays HB1.out) (H'.out.b1.stays HB1.out)).mono ?_;rintro e w2 ⟨rfl,n2,hw⟩;have hb:Below w1.heap.size w1 w2:=by rw[<-hw];exact below_drewN _ n2
 have a2:=kr a2 hb;have a1:=kr a1 hb;have HB2:=bT HB1 hb;clear hb hw;go_wp2_with fail;refine(K2.out _ (H.out.got.stays HB2.out) (H'.out.got.stays HB2.out)).mono ?_;rintro e w3 ⟨rfl,hb⟩;have a2:=kr a2 hb;have a1:=kr a1 hb;have HB3:=bT HB2 hb;clear hb;go_wp2_with fail;refine(K3.out _ (H.out.job.ops.stays HB3.out) (H'.out.job.ops.stays HB3.out)).mono ?_;rintro e w4 ⟨rfl,hb⟩;have a2:=kr a2 hb;have a1:=kr a1 hb;have HB4:=bT HB3 hb;clear hb;go_wp2_with fail;go_ret;exact⟨rfl,HB4.out⟩
theorem bts_zeros{w:World}{g n:Nat}{t:TypeId}{fr:Nat×Nat}(h:w.heap[g]?=some (.cells (Array.replicate n (.int .u8 0)) t fr)):Bts w (some ⟨g,0,none⟩) (List.replicate n 0):=by
 intro j hj;refine⟨g,0,rfl,blk_lt h,?_⟩;rw[cell_of_row _ _ _ _ _ _ h];have hj':j<n:=by simpa using hj
 simp[hj',bv]
theorem made_zeros(n:Nat):madeCells #[Value.int .u8 0] n=Array.replicate n (.int .u8 0):=by
 apply Array.ext'
 rw[toList_madeCells_one];simp
theorem room_calls(A:OA)(c:Nat)(b:LU)(w:World)(hb:b.length<=64)(hB:Bts w A b):
  Calls Tryz.prog 21 #[.slice A b.length c] w (BtRet w (room b)):=by
 obtain⟨m,hm⟩:∃m:Nat,64-b.length=m:=⟨_,rfl⟩;have hm1:(64:Int)-(b.length:Int)=(m:Int):=by omega
 have hwr:IntKind.i64.wrap ((64:Int)-(b.length:Int))=(m:Int):=by rw[hm1];exact IntWalk.i64_in _ (by omega)
 have hmk:∀w:World,(Instr.makeSlice 22 (iv (m:Int)) (iv (m:Int))).run Tryz.prog w=.ok (.slice (some ⟨w.heap.size,0,none⟩) m m) (w.alloc (.cells (Array.replicate m (.int .u8 0)) 5)):=fun w=>by
  have:=run_make_row' (P:=Tryz.prog) 22 5 (.int .u8 0) 1 Tryz.underlying22 (by kernel_rfl) rfl .i64 .i64 m (by omega) (by omega) w;rw[made_zeros]at this;exact this
 have HM:Hid (room b=b++List.replicate m 0):=qH (by unfold room;rw[hm]);have HMB:Hid (b.length+m<=64):=qH (by omega);have hba:=((bW w).alloc nl (.cells (Array.replicate m (.int .u8 0)) 5)).alloc (by simp) (.cells #[.slice A b.length c,.slice (some ⟨w.heap.size,0,none⟩) m m] 22);have K:=qH (concat2_calls (w:=(w.alloc (.cells (Array.replicate m (.int .u8 0)) 5)).alloc (.cells #[.slice A b.length c,.slice (some ⟨w.heap.size,0,none⟩) m m] 22)) (g:=w.heap.size+1) (A:=A) (B:=some ⟨w.heap.size,0,none⟩) (a:=b) (b:=List.replicate m 0) (c:=c) (d:=m)
  (t:=22) (fr:=(0,0)) (by rw[List.length_replicate];exact blk_top (by simp)) (by rw[List.length_replicate];omega) (hB.stays hba) ((bts_zeros (n:=m) (w:=w.alloc (.cells (Array.replicate m (.int .u8 0)) 5)) (blk_top rfl)).stays (bL _)))
 have HBA:=qH hba;rw[HM.out];clear hm hm1 hb hB hba;go_enter Tryz.func21,Tryz.ntmps21;go_wp2_with fail;refine K.out.mono ?_;rintro e w1 ⟨A1,c1,rfl,hown,hb1⟩;have HO:=qH hown;have HB1:=bT HBA hb1;clear hown hb1;go_wp2_with fail;go_ret;exact⟨A1,c1,by simp,HO.out.mono (by simp;omega),HB1.out⟩
theorem x27r(h:Y:=by
 clear hz;go_wp2_with fail;go_ret;exact⟨ret_int HO.out.symm,hB.alloc hB.size _⟩):Y:=h
theorem x6lz(h:Y:=by
 go_wp2_with fail;go_ret;exact⟨ret_int HE.out.symm,hB⟩):Y:=h
theorem x7h7(h:Y:=by
 clear hz hrow1 hb1;go_wp2_with fail;go_ret;exact⟨ret_int HO.out.symm,hB1⟩):Y:=h
theorem recCheckA_calls(r:Rec)(w:World):Calls Tryz.prog 87 #[.agg (recA r)] w (RetB w (iv (recCheck r))):=
 recCheck_calls r.gen r.active r.trying r.tries r.floor r.a.ver r.a.size r.a.sum r.b.ver r.b.size r.b.sum w
theorem copies_calls(c d:Cop)(w:World):Calls Tryz.prog 72 #[.agg (copsA c d)] w (RetB w (iv (copCheck c d))):=by
 have i2:∀w,(Instr.index 31 (.agg (copsA c d)) (iv 0)).run Tryz.prog w=.ok (.agg (copA c)) w:=fun _=>by kernel_rfl
 have i1:∀w,(Instr.index 31 (.agg (copsA c d)) (iv 1)).run Tryz.prog w=.ok (.agg (copA d)) w:=fun _=>by kernel_rfl
 go_enter Tryz.func72,Tryz.ntmps72;go_wp2_with fail;go_loopw [7] (fun i wr=>∃k:Nat,k<=2∧i=iv k∧Below w.heap.size w wr∧rowOf wr w.heap.size=copsA c d∧(0<k->copOne c=0)∧(1<k->copOne d=0)) (fun i _=>(2-intOf i).toNat)
 case atStart=>exact⟨0,by omega,rfl,bL _,by rw[rowOf_alloc,if_pos rfl],by omega,by omega⟩
 case round=>
  obtain⟨k,hk,rfl,hB,hrow,ha,hb⟩:=hrel;have HR:=qH hrow;clear hrow;by_cases hlt:k<2
  ·rcases (show k=0∨k=1 by omega)with rfl|rfl
   ·clear ha hb
    cases hok:c.ok
    ·by_cases hz:c.r=Rec.zero
     ·have HO:=qH (copOne_lost0 hok hz);have hd:decide (c.r=Rec.zero)=true:=decide_eq_true hz;have HK:=qH hok;have hok':(c.ok==true)=false:=by simp[hok]
      clear hz;go_wp2_with fail;go_roundw
      case rel=>exact⟨1,by omega,rfl,hB.alloc hB.size _,by rw[rowOf_alloc,if_neg (by have:=row_lt (w:=wr) (g:=w.heap.size) (by rw[HR.out];simp[copsA]);omega),HR.out],fun _=>HO.out,by omega⟩
      case measure=>simp[intOf]<;>omega
     ·have HO:=qH (copCheck_1 (d:=d) (copOne_lost3 hok hz) (by omega));have hd:decide (c.r=Rec.zero)=false:=decide_eq_false hz;exact x27r
    have HO1:=qH (copOne_ok hok);go_wp2_with fail;refine(recCheckA_calls c.r _).mono ?_;rintro e w1 ⟨rfl,hb1⟩;have hB1:=(hB.alloc hB.size (.cells (copA c) 30)).trans (hb1.mono (by simp;exact Nat.le_succ_of_le hB.size));have hrow1:rowOf w1 w.heap.size=copsA c d:=by rw[rowOf_below (by simp;have:=row_lt (w:=wr) (g:=w.heap.size) (by rw[HR.out];simp[copsA]);omega) hb1,rowOf_alloc,if_neg (by have:=row_lt (w:=wr) (g:=w.heap.size) (by rw[HR.out];simp[copsA]);omega),HR.out]
    by_cases hz:recCheck c.r=0
    ·have HO:=qH (HO1.out.trans hz);have hz':(recCheck c.r !=0)=false:=by simp[hz]
     have HW:=qH hrow1;clear hz hrow1 hb1;go_wp2_with fail;go_roundw
     case rel=>exact⟨1,by omega,rfl,hB1,HW.out,fun _=>HO.out,by omega⟩
     case measure=>simp[intOf]<;>omega
    have HO:=qH (copCheck_1 (d:=d) HO1.out hz);have hz':(recCheck c.r !=0)=true:=by simp[hz]
    exact x7h7
   ·have HA:=qH (ha (by omega));clear ha hb
    cases hok:d.ok
    ·by_cases hz:d.r=Rec.zero
     ·have HO:=qH (copOne_lost0 hok hz);have hd:decide (d.r=Rec.zero)=true:=decide_eq_true hz;have HK:=qH hok;have hok':(d.ok==true)=false:=by simp[hok]
      clear hz;go_wp2_with fail;go_roundw
      case rel=>exact⟨2,by omega,rfl,hB.alloc hB.size _,by rw[rowOf_alloc,if_neg (by have:=row_lt (w:=wr) (g:=w.heap.size) (by rw[HR.out];simp[copsA]);omega),HR.out],fun _=>HA.out,fun _=>HO.out⟩
      case measure=>simp[intOf]<;>omega
     ·have HO:=qH (copCheck_2 HA.out (copOne_lost3 hok hz) (by omega));have hd:decide (d.r=Rec.zero)=false:=decide_eq_false hz;exact x27r
    have HO1:=qH (copOne_ok hok);go_wp2_with fail;refine(recCheckA_calls d.r _).mono ?_;rintro e w1 ⟨rfl,hb1⟩;have hB1:=(hB.alloc hB.size (.cells (copA d) 30)).trans (hb1.mono (by simp;exact Nat.le_succ_of_le hB.size));have hrow1:rowOf w1 w.heap.size=copsA c d:=by rw[rowOf_below (by simp;have:=row_lt (w:=wr) (g:=w.heap.size) (by rw[HR.out];simp[copsA]);omega) hb1,rowOf_alloc,if_neg (by have:=row_lt (w:=wr) (g:=w.heap.size) (by rw[HR.out];simp[copsA]);omega),HR.out]
    by_cases hz:recCheck d.r=0
    ·have HO:=qH (HO1.out.trans hz);have hz':(recCheck d.r !=0)=false:=by simp[hz]
     have HW:=qH hrow1;clear hz hrow1 hb1;go_wp2_with fail;go_roundw
     case rel=>exact⟨2,by omega,rfl,hB1,HW.out,fun _=>HA.out,fun _=>HO.out⟩
     case measure=>simp[intOf]<;>omega
    have HO:=qH (copCheck_2 HA.out HO1.out hz);have hz':(recCheck d.r !=0)=true:=by simp[hz]
    exact x7h7
  obtain rfl:k=2:=by omega
  have hp:0<(rowOf wr w.heap.size).size:=by rw[HR.out];simp[copsA]
  have c1:=cell_row hp 0;have c2:=cell_row hp 12;rw[HR.out]at c1 c2;rw[copsA_get0]at c1;rw[copsA_get12]at c2;have HF:=qH (copCheck_3 (ha (by omega)) (hb (by omega)));clear ha hb hp
  cases hc:c.ok
  ·cases hd:d.ok
   ·have HE:Hid (copCheck c d=7):=by rw[hc,hd]at HF;exact HF
    exact x6lz
   ·have HE:Hid (copCheck c d=0):=by rw[hc,hd]at HF;exact HF
    exact x6lz
  have HE:Hid (copCheck c d=0):=by rw[hc]at HF;exact HF
  exact x6lz
theorem x08y(h:Y:=by
 have HE:=qH hE;clear hE;go_wp2_with fail;refine bodyPost_ret (results_ctt rfl rfl (cs:=recA d.r) (by go_simp) (by go_simp) (by go_simp)) rfl ⟨by rw[HE.out];rfl,?_⟩;exact below_row HB.out (Nat.le_succ _) _):Y:=h
theorem x0ap(h:Y:=by
 repeat (first|exact hA|refine bR ?_ _|refine bC ?_ _|refine bA ?_ _)):Y:=h
theorem x1qb(h:Y:=by
 have HE:=qH hE;clear hE;go_wp2_with fail;refine bodyPost_ret (results_ctt rfl rfl (cs:=recA c.r) (by go_simp) (by go_simp) (by go_simp)) rfl ⟨by rw[HE.out];rfl,?_⟩;exact below_row HB.out (Nat.le_succ _) _):Y:=h
theorem read_bad(c d:Cop)(w:World)(h:copCheck c d≠0):Calls Tryz.prog 34 #[.agg (copsA c d)] w (RetB w (.tuple #[.agg (recA Rec.zero),iv 0,iv (copCheck c d)])):=by
 have hb:(copCheck c d !=0)=true:=by simp[h]
 clear h;go_enter Tryz.func34,Tryz.ntmps34;go_wp2_with fail;refine(copies_calls c d _).mono ?_;rintro e w1 ⟨rfl,hb1⟩;obtain⟨kr,kf,kn,kc,kz⟩:=keepB hb1 (n:=w.heap.size+1+1) (by simp);have HB:=qH (((bL _).alloc (by simp) _).trans (hb1.mono (B':=w.heap.size) (by simp;omega)));clear hb1;go_wp2_with fail;refine bodyPost_ret (results_ctt rfl rfl (cs:=recA Rec.zero) (by go_simp) (by go_simp) (by go_simp)) rfl ⟨rfl,below_row HB.out (by omega) _⟩
theorem read_ok(c d:Cop)(w:World)(h:copCheck c d=0):Calls Tryz.prog 34 #[.agg (copsA c d)] w (RetB w (.tuple #[.agg (recA (recRead c d).1),iv (recRead c d).2,iv 0])):=by
 have hb:(copCheck c d !=0)=false:=by simp[h]
 clear h;go_enter Tryz.func34,Tryz.ntmps34;go_wp2_with fail;refine(copies_calls c d _).mono ?_;rintro e w1 ⟨rfl,hb1⟩;obtain⟨kr,kf,kn,kc,kz⟩:=keepB hb1 (n:=w.heap.size+1+1) (by simp);have HB:=qH (((bL _).alloc (by simp) _).trans (hb1.mono (B':=w.heap.size) (by simp;omega)));clear hb1
 cases hc:c.ok
 ·have hE:recRead c d=(d.r,1):=by unfold recRead newer;rw[hc];rfl
  exact x08y
 cases hd:d.ok
 ·have hE:recRead c d=(c.r,0):=by unfold recRead newer;rw[hc,hd];rfl
  exact x1qb
 by_cases hg:c.r.gen<d.r.gen
 ·have hE:recRead c d=(d.r,1):=by unfold recRead newer;rw[hc,hd,decide_eq_true hg];rfl
  exact x08y
 have hE:recRead c d=(c.r,0):=by unfold recRead newer;rw[hc,hd,decide_eq_false hg];rfl
 exact x1qb
attribute [go_sem] setRow_setRow
theorem write_bad(c d:Cop)(r:Rec)(torn:Bool)(w:World)(h:copCheck c d≠0):Calls Tryz.prog 46 #[.agg (copsA c d),.agg (recA r),.bool torn] w (RetB w (.tuple #[.agg (copsA Cop.zero Cop.zero),iv (copCheck c d)])):=by
 have hb:(copCheck c d !=0)=true:=by simp[h]
 go_enter Tryz.func46,Tryz.ntmps46;go_wp2_with fail;refine(read_bad c d _ h).mono ?_;rintro e w1 ⟨rfl,hb1⟩;have r4:=keep1 (g:=w.heap.size) (cs:=copsA c d) hb1 (by go_simp) (by go_simp) (by go_simp);have r1:=keep1 (g:=w.heap.size+1) (cs:=recA r) hb1 (by go_simp) (by go_simp) (by go_simp);have r1:=keep1 (g:=w.heap.size+1+1) (cs:=copsA Cop.zero Cop.zero) hb1 (by go_simp) (by go_simp) (by go_simp);have r1:=keep1 (g:=w.heap.size+1+1+1) (cs:=copsA Cop.zero Cop.zero) hb1 (by go_simp) (by go_simp) (by go_simp);have HB:=qH (((((bL _).alloc (by simp) _).alloc (by simp;omega) _).alloc (by simp;omega) _).trans (hb1.mono (B':=w.heap.size) (by simp;omega)));clear hb1 h;go_wp2_with fail;refine bodyPost_ret (rC (copsA Cop.zero Cop.zero)) rfl ⟨rfl,bZ HB⟩
theorem write_ok(c d:Cop)(r:Rec)(torn:Bool)(w:World)(h:copCheck c d=0):Calls Tryz.prog 46 #[.agg (copsA c d),.agg (recA r),.bool torn] w
  (RetB w (.tuple #[.agg (copsA (recWrite c d r torn).1.1 (recWrite c d r torn).1.2),iv (recWrite c d r torn).2])):=by
 have hrg:=recCheck_range0 (recRead_ok h);have hk:(recRead c d).2=0∨(recRead c d).2=1:=by unfold recRead;split<;>simp
 have hw:recWrite c d r torn=if recCheck {r with gen:=(recRead c d).1.gen+1}=0 then (recPut c d r torn,0)else ((Cop.zero,Cop.zero),recCheck {r with gen:=(recRead c d).1.gen+1}):=by unfold recWrite;rw[if_pos h]
 have hp:recPut c d r torn=if (recRead c d).2=0 then (c,if torn=true then Cop.zero else ⟨true,{r with gen:=(recRead c d).1.gen+1}⟩)else (if torn=true then Cop.zero else ⟨true,{r with gen:=(recRead c d).1.gen+1}⟩,d):=rfl
 have hread:=read_ok c d;have hread:=fun w=>hread w h;generalize recRead c d=q at *
 obtain⟨was,k⟩:=q;simp only at hk hw hp hread hrg;have HW:=qH hw;have HP:=qH hp;have HRd:=qH hread;have hg1:=hrg.1;have hg1:=hrg.2.1;clear hw hp hread hrg h;go_enter Tryz.func46,Tryz.ntmps46;go_wp2_with fail;refine(HRd.out _).mono ?_;rintro e w1 ⟨rfl,hb1⟩;have r4:=keep1 (g:=w.heap.size) (cs:=copsA c d) hb1 (by go_simp) (by go_simp) (by go_simp);have r1:=keep1 (g:=w.heap.size+1) (cs:=recA r) hb1 (by go_simp) (by go_simp) (by go_simp);have r2:=keep1 (g:=w.heap.size+1+1) (cs:=copsA Cop.zero Cop.zero) hb1 (by go_simp) (by go_simp) (by go_simp);have r3:=keep1 (g:=w.heap.size+1+1+1) (cs:=copsA Cop.zero Cop.zero) hb1 (by go_simp) (by go_simp) (by go_simp);have HB:=qH (((((bL _).alloc (by simp) _).alloc (by simp;omega) _).alloc (by simp;omega) _).trans (hb1.mono (B':=w.heap.size) (by simp;omega)));clear hb1;go_wp2_with fail;refine(recCheckA_calls {r with gen:=was.gen+1} _).mono ?_;rintro e w1 ⟨rfl,hb1⟩;have r5:=keep1 (g:=w.heap.size) (cs:=copsA c d) hb1 (by go_simp) (by go_simp) (by go_simp);have r5:=keep1 (g:=w.heap.size+1) (cs:=recA {r with gen:=was.gen+1}) hb1 (by go_simp) (by go_simp) (by go_simp);have r5:=keep1 (g:=w.heap.size+1+1) (cs:=copsA Cop.zero Cop.zero) hb1 (by go_simp) (by go_simp) (by go_simp);have r5:=keep1 (g:=w.heap.size+1+1+1) (cs:=copsA Cop.zero Cop.zero) hb1 (by go_simp) (by go_simp) (by go_simp);have hs:=HB.out.size;have HB1:Hid (Below w.heap.size w w1):=((HB.out.setCell (p:=⟨w.heap.size+1,0,none⟩) (by simp) (iv (was.gen+1))).alloc (by simp;omega) (.cells (recA was) 28)).trans (hb1.mono (by simp;omega));have hs1:=HB1.out.size;clear hb1 r4 r1 r2 r3 hs;by_cases hz:recCheck {r with gen:=was.gen+1}=0
 ·have hz':(recCheck {r with gen:=was.gen+1} !=0)=false:=by simp[hz]
  have HE:=qH (HW.out.trans (if_pos hz));clear hz HW;rcases hk with rfl|rfl
  ·have HP1:=qH (HP.out.trans (if_pos rfl))
   cases torn
   ·go_wp2_with fail;refine bodyPost_ret (results_ct rfl rfl (cs:=copsA c ⟨true,{r with gen:=was.gen+1}⟩) (by go_simp) (by go_simp) (by first|(go_simp;done)|(go_simp;kernel_rfl))) rfl ⟨by rw[HE.out,HP1.out];rfl,?_⟩;exact x0ap
   go_wp2_with fail;refine bodyPost_ret (results_ct rfl rfl (cs:=copsA c Cop.zero) (by go_simp) (by go_simp) (by first|(go_simp;done)|(go_simp;kernel_rfl))) rfl ⟨by rw[HE.out,HP1.out];rfl,?_⟩;exact x0ap
  have HP1:=qH (HP.out.trans (if_neg (by decide)))
  cases torn
  ·go_wp2_with fail;refine bodyPost_ret (results_ct rfl rfl (cs:=copsA ⟨true,{r with gen:=was.gen+1}⟩ d) (by go_simp) (by go_simp) (by first|(go_simp;done)|(go_simp;kernel_rfl))) rfl ⟨by rw[HE.out,HP1.out];rfl,?_⟩;exact x0ap
  go_wp2_with fail;refine bodyPost_ret (results_ct rfl rfl (cs:=copsA Cop.zero d) (by go_simp) (by go_simp) (by first|(go_simp;done)|(go_simp;kernel_rfl))) rfl ⟨by rw[HE.out,HP1.out];rfl,?_⟩;exact x0ap
 have hz':(recCheck {r with gen:=was.gen+1} !=0)=true:=by simp[hz]
 have HE:=qH (HW.out.trans (if_neg hz));clear hz HW HP hk;go_wp2_with fail;refine bodyPost_ret (results_ct rfl rfl (cs:=copsA Cop.zero Cop.zero) (by go_simp) (by go_simp) (by first|(go_simp;done)|(go_simp;kernel_rfl))) rfl ⟨by rw[HE.out];rfl,?_⟩;exact x0ap
theorem write_calls(c d:Cop)(r:Rec)(torn:Bool)(w:World):Calls Tryz.prog 46 #[.agg (copsA c d),.agg (recA r),.bool torn] w
  (RetB w (.tuple #[.agg (copsA (recWrite c d r torn).1.1 (recWrite c d r torn).1.2),iv (recWrite c d r torn).2])):=by
 by_cases h:copCheck c d=0
 ·exact write_ok c d r torn w h
 have e:recWrite c d r torn=((Cop.zero,Cop.zero),copCheck c d):=by unfold recWrite;rw[if_neg h]
 rw[e];exact write_bad c d r torn w h
theorem x4b3(h:Y:=by
 repeat (first|exact hA|refine bR ?_ _|refine bC ?_ _|refine bA ?_ _|refine Below.drew ?_)):Y:=h
theorem start_calls(r:Rec)(w:World):Calls Tryz.prog 50 #[.agg (recA r)] w (RetB w (.tuple #[iv (recStart r).1,.agg (recA (recStart r).2.1),iv (recStart r).2.2])):=by
 go_enter Tryz.func50,Tryz.ntmps50;go_wp2_with fail;refine(recCheckA_calls r _).mono ?_;rintro e w1 ⟨rfl,hb1⟩;have r2:=keep1 (g:=w.heap.size) (cs:=recA r) hb1 (by go_simp) (by go_simp) (by go_simp);have r1:=keep1 (g:=w.heap.size+1) (cs:=recA Rec.zero) hb1 (by go_simp) (by go_simp) (by go_simp);have HB:=qH (((bL _).alloc (by simp) _).trans (hb1.mono (B':=w.heap.size) (by simp;omega)));have hs:=HB.out.size;clear hb1;by_cases hz:recCheck r=0
 ·have hz':(recCheck r !=0)=false:=by simp[hz]
  have hrg:=recCheck_range0 hz;have hg1:=hrg.2.2.1;have hg1:=hrg.2.2.2.1;have hg1:=hrg.2.2.2.2.1;have hg1:=hrg.2.2.2.2.2.1
  cases ht:r.trying
  ·have hE:recStart r=(r.active,r,0):=by unfold recStart;rw[if_pos hz,if_neg (by simp[ht])]
   have HE:=qH hE;clear hE hrg hz;go_wp2_with fail;go_region
   all_goals (
    go_wp2_with fail;refine bodyPost_ret (results_tct rfl rfl (cs:=recA r) (by go_simp) (by go_simp) (by go_simp)) rfl ⟨by rw[HE.out];rfl,?_⟩;exact x4b3)
  by_cases h1:r.tries=0
  ·have hE:recStart r=(r.active,{r with trying:=false},0):=by unfold recStart;rw[if_pos hz,if_pos ht,if_pos h1]
   have h0':(r.tries==0)=true:=by simp[h1]
   have HE:=qH hE;clear hE hrg hz h1;go_wp2_with fail;go_region
   all_goals (
    go_wp2_with fail;refine bodyPost_ret (results_tct rfl rfl (cs:=recA {r with trying:=false}) (by go_simp) (by go_simp) (by go_simp)) rfl ⟨by rw[HE.out];rfl,?_⟩;exact x4b3)
  have hE:recStart r=(1-r.active,{r with tries:=r.tries-1},0):=by unfold recStart;rw[if_pos hz,if_pos ht,if_neg h1]
  have h0':(r.tries==0)=false:=by simp[h1]
  have HE:=qH hE;clear hE hrg hz h1;go_wp2_with fail;go_region
  all_goals (
   go_wp2_with fail;refine bodyPost_ret (results_tct rfl rfl (cs:=recA {r with tries:=r.tries-1}) (by go_simp) (by go_simp) (by go_simp)) rfl ⟨by rw[HE.out];rfl,?_⟩;exact x4b3)
 have hz':(recCheck r !=0)=true:=by simp[hz]
 have hE:recStart r=(0,Rec.zero,recCheck r):=by unfold recStart;rw[if_neg hz]
 have HE:=qH hE;clear hE hz;go_wp2_with fail;all_goals (
  go_wp2_with fail;refine bodyPost_ret (results_tct rfl rfl (cs:=recA Rec.zero) (by go_simp) (by go_simp) (by go_simp)) rfl ⟨by rw[HE.out];rfl,?_⟩;exact x4b3)
theorem x0tr(h:Y:=by
 obtain⟨i,hi,_⟩:=info_parts (P:=Tryz.prog) (e:=28) (z:=.agg (recA Rec.zero)) (size:=11) (bytes:=88) (by kernel_rfl);exact⟨i,hi,h⟩):Y:=h
theorem confirm_calls(r:Rec)(w:World):Calls Tryz.prog 48 #[.agg (recA r)] w (RetB w (.tuple #[.agg (recA (recConfirm r).1),iv (recConfirm r).2])):=by
 go_enter Tryz.func48,Tryz.ntmps48;go_wp2_with fail;refine(recCheckA_calls r _).mono ?_;rintro e w1 ⟨rfl,hb1⟩;have r2:=keep1 (g:=w.heap.size) (cs:=recA r) hb1 (by go_simp) (by go_simp) (by go_simp);have r1:=keep1 (g:=w.heap.size+1) (cs:=recA Rec.zero) hb1 (by go_simp) (by go_simp) (by go_simp);have HB:=qH (((bL _).alloc (by simp) _).trans (hb1.mono (B':=w.heap.size) (by simp;omega)));have hs:=HB.out.size;clear hb1;by_cases hz:recCheck r=0
 ·have hz':(recCheck r !=0)=false:=by simp[hz]
  have hrg:=recCheck_range0 hz;have hg1:=hrg.2.2.1;have hg1:=hrg.2.2.2.1;have hg1:=hrg.2.2.2.2.1;have hg1:=hrg.2.2.2.2.2.1;have hg1:=hrg.2.2.2.2.2.2.1;have hg1:=hrg.2.2.2.2.2.2.2
  cases ht:r.trying
  ·have hE:recConfirm r=(Rec.zero,5):=by unfold recConfirm;rw[if_pos hz,if_neg (by simp[ht])]
   have HE:=qH hE;clear hE hrg hz;go_wp2_with fail;refine bodyPost_ret (rC (recA Rec.zero)) rfl ⟨by rw[HE.out];rfl,?_⟩;exact x4b3
  have hE:recConfirm r=(recDone r,0):=by unfold recConfirm;rw[if_pos hz,if_pos ht]
  have hk:r.active=0∨r.active=1:=by omega
  clear hrg hz;rcases hk with hk|hk
  ·have HE:=qH (hE.trans (show _=((⟨r.gen,1,false,0,max r.floor r.b.ver,r.a,r.b⟩:Rec),(0:Int)) by unfold recDone Rec.at_;simp[hk]));clear hE;go_wp2_with fail;go_region
   all_goals go_wp2_with fail
   all_goals (
    refine bodyPost_ret (results_ct rfl rfl (cs:=recA ⟨r.gen,1,false,0,max r.floor r.b.ver,r.a,r.b⟩) (by first|(go_simp;done)|(go_simp;refine congrArg (fun z=>recA ⟨_,_,_,_,z,_,_⟩) ?_<;>omega)) (by go_simp) (by go_simp)) rfl ⟨by rw[HE.out];rfl,?_⟩;exact x4b3)
  have HE:=qH (hE.trans (show _=((⟨r.gen,0,false,0,max r.floor r.a.ver,r.a,r.b⟩:Rec),(0:Int)) by unfold recDone Rec.at_;simp[hk]));clear hE;go_wp2_with fail;go_region
  all_goals go_wp2_with fail
  all_goals (
   refine bodyPost_ret (results_ct rfl rfl (cs:=recA ⟨r.gen,0,false,0,max r.floor r.a.ver,r.a,r.b⟩) (by first|(go_simp;done)|(go_simp;refine congrArg (fun z=>recA ⟨_,_,_,_,z,_,_⟩) ?_<;>omega)) (by go_simp) (by go_simp)) rfl ⟨by rw[HE.out];rfl,?_⟩;exact x4b3)
 have hz':(recCheck r !=0)=true:=by simp[hz]
 have hE:recConfirm r=(Rec.zero,recCheck r):=by unfold recConfirm;rw[if_neg hz]
 have HE:=qH hE;clear hE hz;go_wp2_with fail;refine bodyPost_ret (rC (recA Rec.zero)) rfl ⟨by rw[HE.out];rfl,?_⟩;exact x4b3
theorem big_recN(n:Nat)(h:0<n):bigBuild Tryz.prog 28 n:=by
 exact x0tr
@[go_sem] theorem big_rec2N:bigBuild Tryz.prog 28 2:=big_recN 2 (by decide)
@[go_sem] theorem build_rec2N(g f:Int)(w:World):runBuild Tryz.prog 28 #[(0,iv g),(4,iv f)] w=.ok (.agg (recA ⟨g,0,false,0,f,Inf.zero,Inf.zero⟩)) w:=by kernel_rfl
@[go_sem] theorem build_devN(a b:OA)(c e:Nat)(x y:LU)(u:Bool)(w:World):runBuild Tryz.prog 37 #[(2,.bool u),(0,.agg (slotsA a x.length c b y.length e))] w=.ok (.agg (devA ⟨x,y,Cop.zero,Cop.zero,u,0,[],false,Pat.zero,0⟩ ⟨a,c,b,e,none,0,none,0⟩)) w:=by kernel_rfl
theorem devNew_calls(A:OA)(c:Nat)(b:LU)(w:World)(hl:b.length<=140737488351232)(hB:Bts w A b):Calls Tryz.prog 4 #[.slice A b.length c] w (DvRet w (devNew b).1 (devNew b).2):=by
 have hba:Below w.heap.size w (w.alloc (.cells (devA Dev.zero DLoc.zero) 37)):=bL _;have HBA:=qH hba;have HB:=qH hB;by_cases h1:64<b.length
 ·have hz:devNew b=(Dev.zero,1):=by unfold devNew;rw[if_pos h1]
  rw[hz];have q:(64:Int)<(b.length:Int):=by omega
  clear hB hba hz;go_enter Tryz.func4,Tryz.ntmps4;go_wp2_with fail;refine bodyPost_ret (rC (devA Dev.zero DLoc.zero)) rfl ⟨DLoc.zero,rfl,.const fun v=>DevIn.zero v,bZ HBA⟩
 have hz:devNew b=(newDev b,0):=by unfold devNew;rw[if_neg h1]
 rw[hz];have q:¬(64:Int)<(b.length:Int):=by omega
 have KS:=qH (fun w h=>sumOf_calls A c b w (by omega) h);have hb1:b.length<=64:=by omega
 have KR:=qH (fun w h=>room_calls A c b w hb1 h);have KN:=qH (fun w=>room_calls none 0 [] w (by simp) (bts_nil w none));have HRL:Hid ((room b).length=64∧(room []).length=64):=qH ⟨room_len hb1,room_len (by simp)⟩;obtain⟨s,hs⟩:=eX (sumOn 1 b);rw[hs]at KS;obtain⟨rb,hrb⟩:=eX (room b);obtain⟨rn,hrn⟩:=eX (room []);rw[hrb]at KR HRL;rw[hrn]at KN HRL;have hnd:newDev b=⟨rb,rn,⟨true,⟨1,0,false,0,1,⟨1,b.length,s⟩,Inf.zero⟩⟩,Cop.zero,true,0,[],false,Pat.zero,0⟩:=by unfold newDev;rw[hrb,hrn,hs]
 rw[hnd];clear hz hnd hs hrb hrn hb1 hB hba h1;go_enter Tryz.func4,Tryz.ntmps4;go_wp2_with fail;refine(KS.out _ (HB.out.stays ?_)).mono ?_
 ·exact x0rc
 rintro e w1 ⟨rfl,rfl⟩;go_wp2_with fail;refine(KR.out _ (HB.out.stays ?_)).mono ?_
 ·exact x0rc
 rintro e w2 ⟨A1,c1,rfl,ho1,hb⟩;have a2:=kp (w.heap.size) (devA Dev.zero DLoc.zero) hb;have a1:=kp (w.heap.size+1) (recA ⟨1,0,false,0,1,⟨1,(b.length:Int),s⟩,Inf.zero⟩) hb;have hsz1:w.heap.size+2<=w2.heap.size:=by have:=hb.size;simp at this;omega
 have HB1:Hid (Below w.heap.size w w2):=qH (by
  refine Below.trans ?_ (hb.mono (by first|omega|(simp<;>omega)));exact x0rc)
 have HO1:Hid (Own w2 (w.heap.size+2) 5 1 A1 rb.length c1 (rb.map bv)):=qH (by simpa using ho1);clear hb ho1;go_wp2_with fail;refine(KN.out _).mono ?_;rintro e w3 ⟨A2,c2,rfl,ho1,hb⟩;have a2:=kr a2 hb;have a1:=kr a1 hb;have hsz2:w2.heap.size<=w3.heap.size:=hb.size;have HB2:=bT HB1 hb;have HF:Hid (Fresh (w.heap.size+2) w3 (fun v=>Bts v A1 rb∧Bts v A2 rn)):=qH (fun v hv=>⟨(HO1.out.below hb).fresh v hv,(ho1.mono (base':=w.heap.size+2) (by omega)).fresh v hv⟩);have HC:Hid (rb.length<=c1∧rn.length<=c2):=qH ⟨HO1.out.le,ho1.le⟩;clear hb ho1;go_wp2_with fail;refine bodyPost_ret (rC (devA ⟨rb,rn,⟨true,⟨1,0,false,0,1,⟨1,b.length,s⟩,Inf.zero⟩⟩,Cop.zero,true,0,[],false,Pat.zero,0⟩ ⟨A1,c1,A2,c2,none,0,none,0⟩)) rfl ⟨⟨A1,c1,A2,c2,none,0,none,0⟩,rfl,?_,?_⟩
 ·refine Fresh.imp (P:=fun v=>Bts v A1 rb∧Bts v A2 rn) (Fresh.mono (base:=w.heap.size+2) ?_ (by omega)) (fun v hv=>⟨HC.out.1,by show rb.length<=_;rw[HRL.out.1];decide,hv.1,HC.out.2,by show rn.length<=_;rw[HRL.out.2];decide,hv.2,nl,Nat.zero_le _,Chs.nil _ _,pat_in_zero v,⟨by show -9223372036854775808<=(0:Int);omega,by show (0:Int)<=9223372036854775807;omega⟩,⟨by show -9223372036854775808<=(0:Int);omega,by show (0:Int)<=9223372036854775807;omega⟩⟩);repeat (first|exact HF.out|refine Fresh.row ?_ (by omega) _|refine Fresh.cell ?_ (by first|(show _<_;omega)|(simp<;>omega)) _|refine Fresh.alloc ?_ _)
 exact bZ HB2
end Go.Proofs.YtefkfglkpebbmacGreat
