/- Walks of functions, and plain words. No conditions. -/
import Derived.Test.YtefkfglkpebbmacP2
set_option linter.unusedVariables false
set_option linter.unusedSimpArgs false
set_option maxRecDepth 100000
set_option maxHeartbeats 40000000
namespace Go.Proofs.Ytefkfglkpebbmac
open Go.RowKit
variable {Y:Prop}
theorem x1b6(h:Y:=by
 intro i hi;have h1:i<l.length:=by simp at hi;omega
 obtain⟨b,o,e,hl,cs,h2,h4,h5⟩:=h i h1;exact⟨b,o,e,hl,cs,h2,h4,by simpa using h5⟩):Y:=h
theorem x1dv(h:Y:=by
 have q:(e' !=0)=true:=by simp[he]
 clear he HRES;go_wp2_with fail;refine(KG.out _).mono ?_;rintro e w3 ⟨rfl,hb⟩;have HB3:=bT HB2 hb;clear hb;go_wp2_with fail;go_ret;exact⟨rfl,HB3.out⟩):Y:=h
theorem chk_eq_iff{x y:Chk}:x=y↔kin x y∧x.n=y.n∧x.data=y.data:=by
 obtain⟨f,t,n,o,l⟩:=x;obtain⟨f1,t1,n1,o1,l1⟩:=y;unfold kin;simp only[Chk.mk.injEq];constructor
 ·rintro⟨h1,h2,h3,h4,h5⟩;exact⟨⟨h1,h2,h4⟩,h3,h5⟩
 rintro⟨⟨h1,h2,h4⟩,h3,h5⟩;exact⟨h1,h2,h3,h4,h5⟩
theorem kinX_calls(A B:OA)(c d:Nat)(x y:Chk)(w:World):
  Calls Try.prog 102 #[.agg (chkA x.from_ x.to_ x.n x.of_ A x.data.length c),.agg (chkA y.from_ y.to_ y.n y.of_ B y.data.length d)] w (RetB w (.bool (decide (kin x y)))):=
 kin_calls A B c d x.data.length y.data.length x.from_ x.to_ x.n x.of_ y.from_ y.to_ y.n y.of_ x.data y.data w
theorem chkSame1_calls(x y:Chk)(B D:OA)(c d:Nat)(w:World)(hx:ChkIn w x B c)(hy:ChkIn w y D d):
  Calls Try.prog 106 #[.agg (chkA x.from_ x.to_ x.n x.of_ B x.data.length c),.agg (chkA y.from_ y.to_ y.n y.of_ D y.data.length d)] w (RetB w (.bool (decide (x=y)))):=by
 have bl:=((bW w).alloc nl (.cells (chkA x.from_ x.to_ x.n x.of_ B x.data.length c) 49)).alloc (by simp) (.cells (chkA y.from_ y.to_ y.n y.of_ D y.data.length d) 49);have hl:=hx.len;have hl1:=hy.len;have HB:=qH bl;have HK:=qH (fun w=>kinX_calls B D c d x y w);obtain⟨r,hr⟩:=eX (decide (x=y));rw[hr];have hr1:decide (kin x y∧x.n=y.n∧x.data=y.data)=r:=by
  rw[<-hr];exact decide_eq_decide.2 chk_eq_iff.symm
 have HR:=qH hr1;have HC:=qH (fun w h1 h2=>equalBytes_calls B D c d x.data y.data w hl hl1 h1 h2);have HX:=qH hx;have HY:=qH hy;clear hx hy bl hr hr1;by_cases hk:kin x y
 ·have dk:decide (kin x y)=true:=decide_eq_true hk;have HKK:=qH hk;clear hk;by_cases hn:x.n=y.n
  ·have hz:decide (x.data=y.data)=r:=by
    rw[<-HR.out];by_cases e:x.data=y.data
    ·rw[decide_eq_true e,decide_eq_true ⟨HKK.out,hn,e⟩]
    rw[decide_eq_false e,decide_eq_false (fun h=>e h.2.2)]
   have HZ:=qH hz;have q:(x.n==y.n)=true:=by simp[hn]
   clear hn hz;go_enter Try.func106,Try.ntmps106;go_wp2_with fail;refine(HK.out _).mono ?_;rintro e w1 ⟨rfl,hb⟩;have a2:=kp (w.heap.size) (chkA x.from_ x.to_ x.n x.of_ B x.data.length c) hb;have a1:=kp (w.heap.size+1) (chkA y.from_ y.to_ y.n y.of_ D y.data.length d) hb;have HB1:=bT HB hb;clear hb;go_wp2_with fail;refine(HC.out _ (HX.out.data.stays HB1.out) (HY.out.data.stays HB1.out)).mono ?_;rintro e w2 ⟨rfl,n,rfl⟩;go_wp2_with fail;go_ret;exact⟨ret_bool HZ.out,Below.drewN' HB1.out n⟩
  have hz:false=r:=by rw[<-HR.out,decide_eq_false (fun h=>hn h.2.1)]
  have HZ:=qH hz;have q:(x.n==y.n)=false:=by simp[hn]
  clear hn hz;go_enter Try.func106,Try.ntmps106;go_wp2_with fail;refine(HK.out _).mono ?_;rintro e w1 ⟨rfl,hb⟩;have a2:=kp (w.heap.size) (chkA x.from_ x.to_ x.n x.of_ B x.data.length c) hb;have a1:=kp (w.heap.size+1) (chkA y.from_ y.to_ y.n y.of_ D y.data.length d) hb;have HB1:=bT HB hb;clear hb;exact x61t
 have dk:decide (kin x y)=false:=decide_eq_false hk;have hz:false=r:=by rw[<-HR.out,decide_eq_false (fun h=>hk h.1)]
 have HZ:=qH hz;clear hk hz;go_enter Try.func106,Try.ntmps106;go_wp2_with fail;refine(HK.out _).mono ?_;rintro e w1 ⟨rfl,hb⟩;have HB1:=bT HB hb;clear hb;exact x61t
theorem chkSame_eqf(A B:OA)(c d:Nat)(l m:List Chk)(w:World)(hl:l.length<=2513169434843)(hm:m.length<=2513169434843)(ha:Chs w A l)(hb:Chs w B m):
  Calls Try.prog 105 #[.slice A l.length c,.slice B m.length d,.func (Fn.func 106) #[] #[]] w (RetB w (.bool (decide (l=m)))):=by
 by_cases hne:l.length=m.length
 ·have hdl:((l.length:Int) !=(m.length:Int))=false:=by simp[hne]
  have HE:=qH hne;have hm1:l.length<=m.length:=by omega
  have hm2:m.length<=l.length:=by omega
  clear hne;go_enter Try.func105,Try.ntmps105;go_wp2_with fail;go_loopw [17] (fun i wr=>∃k:Nat,k<=l.length∧i=iv k∧Hid (l.take k=m.take k)∧Hid (Below w.heap.size w wr)) (fun i _=>l.length-(intOf i).toNat)
  case atStart=>exact⟨0,Nat.zero_le _,rfl,qH rfl,qH (Below.refl _ _)⟩
  case round=>
   obtain⟨k,hk,rfl,HT,HB⟩:=hrel;by_cases hlt:k<l.length
   ·obtain⟨b1,o1,B1,c1,rfl,hs1,p6,p1,p2,p3,p4,p5⟩:=(ha.stays HB.out).at_ hlt;obtain⟨b2,o2,B2,c2,rfl,hs2,r6,r1,r2,r3,r4,r5⟩:=(hb.stays HB.out).at_ (i:=k) (by omega);have hsz:=HB.out.size;have HX:Hid (∀e:l[k]=m[k]'(by omega),l.take (k+1)=m.take (k+1)):=qH fun e=>take_eq_succ HT.out hlt (by omega) e;have HN:Hid (∀e:l[k]≠m[k]'(by omega),l≠m):=qH fun e=>ne_of_at hlt (by omega) e;generalize l[k]=x at *
    generalize m[k]'(by omega)=y at *
    have hsb:=fun w2 (h:Below wr.heap.size wr w2)=>chkSame1_calls x y B1 B2 c1 c2 w2 (p5.stays h) (r5.stays h);have HC:=qH hsb;clear hsb p5 r5;exact x4ai
   go_wp2_with fail;go_ret;refine⟨ret_bool ?_,HB.out⟩;exact x9ap
 have hdl:((l.length:Int) !=(m.length:Int))=true:=by simp;omega
 have HX:=qH hne;clear hne;go_enter Try.func105,Try.ntmps105;exact x4e8
theorem chkSame_calls(A B:OA)(c d:Nat)(l m:List Chk)(w:World)(hl:l.length<=2513169434843)(hm:m.length<=2513169434843)(ha:Chs w A l)(hb:Chs w B m):
  Calls Try.prog 39 #[.slice A l.length c,.slice B m.length d] w (RetB w (.bool (decide (l=m)))):=by
 go_enter Try.func39,Try.ntmps39;go_wp2_with fail;refine(chkSame_eqf A B c d l m w hl hm ha hb).mono ?_;exact x3rf
end Go.Proofs.Ytefkfglkpebbmac
