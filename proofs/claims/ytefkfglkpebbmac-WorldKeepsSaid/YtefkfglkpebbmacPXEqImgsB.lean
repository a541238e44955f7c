/- slices.EqualFunc over images, with bytes.Equal. Printed by gen_eqimgs.py. No conditions. -/
import Derived.Test.YtefkfglkpebbmacP2
import Derived.Test.YtefkfglkpebbmacPMImAt
set_option linter.unusedVariables false
set_option linter.unusedSimpArgs false
set_option maxRecDepth 100000
set_option maxHeartbeats 40000000
namespace Go.Proofs.Ytefkfglkpebbmac
open Go.RowKit
variable {Y:Prop}
theorem eqImgB_one(A B:OA)(c d:Nat)(l m:LU)(w:World)(hc:l.length<=c)(hd:m.length<=d)(ha:Bts w A l)(hb:Bts w B m):Calls Try.prog 23 #[.slice A l.length c,.slice B m.length d] w (RetB w (.bool (decide (l=m)))):=(bytesEqual_calls A B c d l m w hc hd ha hb).mono (fun e w' h=>h.to)
theorem eqImgsB_calls(A B:OA)(c d:Nat)(l m:List (List UInt8))(w:World)(hl:l.length<=5864062014634)(hm:m.length<=5864062014634)(ha:Ims w A l)(hb:Ims w B m):
  Calls Try.prog 85 #[.slice A l.length c,.slice B m.length d,.func (Fn.func 23) #[] #[]] w (RetB w (.bool (decide (l=m)))):=by
 by_cases hne:l.length=m.length
 ·have hdl:((l.length:Int) !=(m.length:Int))=false:=by simp[hne]
  have HE:=qH hne;have hm1:l.length<=m.length:=by omega
  have hm2:m.length<=l.length:=by omega
  clear hne;go_enter Try.func85,Try.ntmps85;go_wp2_with fail;go_loopw [17] (fun i wr=>∃k:Nat,k<=l.length∧i=iv k∧Hid (l.take k=m.take k)∧Hid (Below w.heap.size w wr)) (fun i _=>l.length-(intOf i).toNat)
  case atStart=>exact⟨0,Nat.zero_le _,rfl,qH rfl,qH (Below.refl _ _)⟩
  case round=>
   obtain⟨k,hk,rfl,HT,HB⟩:=hrel;by_cases hlt:k<l.length
   ·obtain⟨b1,o1,B1,c1,rfl,hs1,p1,q1,p2⟩:=(ha.stays HB.out).at_ hlt;obtain⟨b2,o2,B2,c2,rfl,hs2,r1,q2,r2⟩:=(hb.stays HB.out).at_ (n:=k) (by omega);have q3:=ha.bound l[k] (List.getElem_mem hlt);have q4:=hb.bound (m[k]'(by omega)) (List.getElem_mem _);have hsz:=HB.out.size;have HX:Hid (∀e:l[k]=m[k]'(by omega),l.take (k+1)=m.take (k+1)):=qH fun e=>take_eq_succ HT.out hlt (by omega) e;have HN:Hid (∀e:l[k]≠m[k]'(by omega),l≠m):=qH fun e=>ne_of_at hlt (by omega) e;generalize l[k]=x at *
    generalize m[k]'(by omega)=y at *
    have hsb:=fun w2 (h:Below wr.heap.size wr w2)=>eqImgB_one B1 B2 c1 c2 x y w2 q1 q2 (p2.stays h) (r2.stays h);have HC:=qH hsb;clear hsb p2 r2 q3 q4;exact x4ai
   go_wp2_with fail;go_ret;refine⟨ret_bool ?_,HB.out⟩;exact x9ap
 have hdl:((l.length:Int) !=(m.length:Int))=true:=by simp;omega
 have HX:=qH hne;clear hne;go_enter Try.func85,Try.ntmps85;exact x4e8
end Go.Proofs.Ytefkfglkpebbmac
