/- The walk of the document's SameChunks. Printed by gen_chksame.py. No conditions. -/
import Derived.Test.YtefkfglkpebbmacP3
set_option linter.unusedVariables false
set_option linter.unusedSimpArgs false
set_option maxRecDepth 100000
set_option maxHeartbeats 40000000
namespace Go.Proofs.Ytefkfglkpebbmac
open Go.RowKit
variable {Y:Prop}
theorem refChkSame1_calls(x y:Chk)(B D:OA)(c d:Nat)(w:World)(hx:ChkIn w x B c)(hy:ChkIn w y D d):
  Calls Try.prog 115 #[.agg (chkA x.from_ x.to_ x.n x.of_ B x.data.length c),.agg (chkA y.from_ y.to_ y.n y.of_ D y.data.length d)] w (RetB w (.bool (decide (x=y)))):=by
 have bl:=((bW w).alloc nl (.cells (chkA x.from_ x.to_ x.n x.of_ B x.data.length c) 49)).alloc (by simp) (.cells (chkA y.from_ y.to_ y.n y.of_ D y.data.length d) 49);have HB:=qH bl;have HC:=qH (bytesEqual_calls B D c d x.data y.data _ hx.cap hy.cap (hx.data.stays bl) (hy.data.stays bl));clear hx hy bl;obtain⟨r,hr⟩:=eX (decide (x=y));rw[hr];have HR:=qH hr;clear hr;obtain⟨f,t,n,o,l⟩:=x;obtain⟨f1,t1,n1,o1,l1⟩:=y;dsimp only at *
 by_cases h4:¬f=f1
 ·have hz:false=r:=(decide_eq_false (fun e=>by injection e;contradiction)).symm.trans HR.out;have HZ:=qH hz;have q:(f==f1)=false:=by simp[h4]
  clear HC hz h4;go_enter Try.func115,Try.ntmps115;exact x4jq
 have h4:=Decidable.not_not.1 h4;subst h4;have q4:(f==f)=true:=by simp
 by_cases h1:¬t=t1
 ·have hz:false=r:=(decide_eq_false (fun e=>by injection e;contradiction)).symm.trans HR.out;have HZ:=qH hz;have q:(t==t1)=false:=by simp[h1]
  clear HC hz h1;go_enter Try.func115,Try.ntmps115;exact x4jq
 have h1:=Decidable.not_not.1 h1;subst h1;have q1:(t==t)=true:=by simp
 by_cases h2:¬n=n1
 ·have hz:false=r:=(decide_eq_false (fun e=>by injection e;contradiction)).symm.trans HR.out;have HZ:=qH hz;have q:(n==n1)=false:=by simp[h2]
  clear HC hz h2;go_enter Try.func115,Try.ntmps115;exact x4jq
 have h2:=Decidable.not_not.1 h2;subst h2;have q2:(n==n)=true:=by simp
 by_cases h3:¬o=o1
 ·have hz:false=r:=(decide_eq_false (fun e=>by injection e;contradiction)).symm.trans HR.out;have HZ:=qH hz;have q:(o==o1)=false:=by simp[h3]
  clear HC hz h3;go_enter Try.func115,Try.ntmps115;exact x4jq
 have h3:=Decidable.not_not.1 h3;subst h3;have q3:(o==o)=true:=by simp
 have hz:decide (l=l1)=r:=by
  rw[<-HR.out];by_cases e:l=l1
  ·subst e;simp
  rw[decide_eq_false e,decide_eq_false (fun h=>e (by injection h))]
 have HZ:=qH hz;clear hz;go_enter Try.func115,Try.ntmps115;go_wp2_with fail;refine HC.out.mono ?_;rintro e w1 ⟨rfl,rfl⟩;exact x4jq
theorem refChkSame_eqf(A B:OA)(c d:Nat)(l m:List Chk)(w:World)(hl:l.length<=2513169434843)(hm:m.length<=2513169434843)(ha:Chs w A l)(hb:Chs w B m):
  Calls Try.prog 105 #[.slice A l.length c,.slice B m.length d,.func (Fn.func 115) #[] #[]] w (RetB w (.bool (decide (l=m)))):=by
 by_cases hne:l.length=m.length
 ·have hdl:((l.length:Int) !=(m.length:Int))=false:=by simp[hne]
  have HE:=qH hne;have hm1:l.length<=m.length:=by omega
  have hm2:m.length<=l.length:=by omega
  clear hne;go_enter Try.func105,Try.ntmps105;go_wp2_with fail;go_loopw [17] (fun i wr=>∃k:Nat,k<=l.length∧i=iv k∧Hid (l.take k=m.take k)∧Hid (Below w.heap.size w wr)) (fun i _=>l.length-(intOf i).toNat)
  case atStart=>exact⟨0,Nat.zero_le _,rfl,qH rfl,qH (Below.refl _ _)⟩
  case round=>
   obtain⟨k,hk,rfl,HT,HB⟩:=hrel;by_cases hlt:k<l.length
   ·obtain⟨b1,o1,B1,c1,rfl,hs1,p6,p1,p2,p3,p4,p5⟩:=(ha.stays HB.out).at_ hlt;obtain⟨b2,o2,B2,c2,rfl,hs2,r6,r1,r2,r3,r4,r5⟩:=(hb.stays HB.out).at_ (i:=k) (by omega);have hsz:=HB.out.size;have HX:Hid (∀e:l[k]=m[k]'(by omega),l.take (k+1)=m.take (k+1)):=qH fun e=>take_eq_succ HT.out hlt (by omega) e;have HN:Hid (∀e:l[k]≠m[k]'(by omega),l≠m):=qH fun e=>ne_of_at hlt (by omega) e;generalize l[k]=x at *
    generalize m[k]'(by omega)=y at *
    have hsb:=fun w2 (h:Below wr.heap.size wr w2)=>refChkSame1_calls x y B1 B2 c1 c2 w2 (p5.stays h) (r5.stays h);have HC:=qH hsb;clear hsb p5 r5;go_wp2_with fail;refine(HC.out _ ?_).mono ?_
    ·exact x9o6
    rintro e w1 ⟨rfl,hb1⟩;have HB1:Hid (Below w.heap.size w w1):=by
     exact x7ta
    clear hb1;exact x6ww
   exact x99v
 exact x8mq
theorem refChkSame_calls(A B:OA)(c d:Nat)(l m:List Chk)(w:World)(hl:l.length<=2513169434843)(hm:m.length<=2513169434843)(ha:Chs w A l)(hb:Chs w B m):
  Calls Try.prog 50 #[.slice A l.length c,.slice B m.length d] w (RetB w (.bool (decide (l=m)))):=by
 go_enter Try.func50,Try.ntmps50;go_wp2_with fail;refine(refChkSame_eqf A B c d l m w hl hm ha hb).mono ?_;exact x3rf
end Go.Proofs.Ytefkfglkpebbmac
