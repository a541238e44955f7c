/- The walks of the laws' own function at, by itself. -/
import Derived.Test.YtefkfglkpebbmacPA
set_option linter.unusedVariables false
set_option linter.unusedSimpArgs false
set_option maxRecDepth 100000
set_option maxHeartbeats 40000000
namespace Go.Proofs.Ytefkfglkpebbmac
open Go.RowKit
variable {Y:Prop}
theorem x96x(h:Y:=by
 go_enter Try.func38,Try.ntmps38
 go_wp2
 go_ret;exact⟨ret_int HT.out,rfl⟩):Y:=h
theorem at2_calls(k n:Int)(w:World)(hk1:-9223372036854775808<=k)(hk2:k<=9223372036854775807)(hn:1<=n)(hn2:n<=4503599627370496):
  Calls Try.prog 38 #[iv k,iv n] w (Ret w (iv (k%n))):=by
 have hb:=Int.emod_nonneg k (show n≠0 by omega);have hb1:=Int.emod_lt_of_pos k (show 0<n by omega);have ht:k.tmod n=k%n∨(k.tmod n<0∧k.tmod n+n=k%n):=by
  rw[Int.tmod_eq_emod];split<;>omega
 have hz:(n==0)=false:=by simp;omega
 by_cases h3:0<=k
 ·go_enter Try.func38,Try.ntmps38;clear ht;have h1:¬(k%n<0):=by omega
  go_wp2
  go_ret;exact⟨rfl,rfl⟩
 have hlo:-n<k.tmod n∧k.tmod n<=0:=by
  rw[Int.tmod_eq_emod]at ht⊢;split<;>omega
 rcases ht with ht|⟨ht,ht2⟩
 ·have h1:¬k.tmod n<0:=by omega
  have HT:=qH ht;clear ht;exact x96x
 have HT:=qH ht2;clear ht2;have h1:=hlo.1;exact x96x
end Go.Proofs.Ytefkfglkpebbmac
