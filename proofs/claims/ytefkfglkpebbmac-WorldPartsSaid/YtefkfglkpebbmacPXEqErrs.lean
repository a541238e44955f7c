/- The walks of the library's slices.Equal, over errnos. -/
import Derived.Test.YtefkfglkpebbmacPA
set_option linter.unusedVariables false
set_option linter.unusedSimpArgs false
set_option maxRecDepth 100000
set_option maxHeartbeats 40000000
namespace Go.Proofs.Ytefkfglkpebbmac
open Go.RowKit
variable {Y:Prop}
theorem equalErrs_calls(A B:OA)(c d:Nat)(l m:List Int)(w:World)(hl:l.length<=140737488351232)(hm:m.length<=140737488351232)(ha:Nts w A l)(hb:Nts w B m):
  Calls Try.prog 74 #[.slice A l.length c,.slice B m.length d] w (RetN w (.bool (decide (l=m)))):=by
 by_cases hne:l.length=m.length
 ·have hdl:((l.length:Int) !=(m.length:Int))=false:=by simp[hne]
  have HE:=qH hne;have hm1:l.length<=m.length:=by omega
  have hm1:m.length<=l.length:=by omega
  clear hne;go_enter Try.func74,Try.ntmps74
  go_wp2
  go_loopw [5,13] (fun u i wr=>∃k n:Nat,k<=l.length∧i=.int .i64 k∧l.take k=m.take k∧w.drewN n=wr) (fun _ i _=>l.length-(intOf i).toNat)
  case atStart=>exact⟨0,0,Nat.zero_le _,rfl,rfl,rfl⟩
  case round=>
   obtain⟨k,n,hk,rfl,ht,rfl⟩:=hrel;have HT:=qH ht;clear ht;by_cases hlt:k<l.length
   ·obtain⟨b1,o1,rfl,hs1,hc1⟩:=ha k hlt;obtain⟨b1,o1,rfl,hs1,hc1⟩:=hb k (by omega);by_cases he:l[k]=m[k]'(by omega)
    ·have hd:(l[k] !=m[k]'(by omega))=false:=by simp[he]
     exact x14e
    have hd:(l[k] !=m[k]'(by omega))=true:=by simp;exact he
    exact x9vk
   go_wp2_with fail;go_ret;refine⟨ret_bool ?_,_,rfl⟩;exact x9ap
 have hdl:((l.length:Int) !=(m.length:Int))=true:=by simp;omega
 have HX:=qH hne;clear hne;go_enter Try.func74,Try.ntmps74;exact x1gd
end Go.Proofs.Ytefkfglkpebbmac
