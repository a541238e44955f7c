/- Walks of functions, and plain words. No conditions. -/
import Derived.Test.YtefkfglkpebbmacPA
set_option linter.unusedVariables false
set_option linter.unusedSimpArgs false
set_option maxRecDepth 100000
set_option maxHeartbeats 40000000
namespace Go.Proofs.Ytefkfglkpebbmac
open Go.RowKit
variable {Y:Prop}
theorem x548(h:Y:=by
 go_enter Try.func68,Try.ntmps68
 go_wp2
 go_ret;exact⟨by rw[HI.out];first|rfl|exact congrArg (fun n=>Ending.returned (Value.slice A n c)) (show (min (l.length:Int) 64).toNat=_ by omega),rfl⟩):Y:=h
theorem at_calls(k n:Int)(w:World)(hk1:-9223372036854775808<=k)(hk2:k<=9223372036854775807)(hn:1<=n)(hn2:n<=4503599627370496):
  Calls Try.prog 38 #[iv k,iv n] w (Ret w (iv (k%n))):=by
 exact x0o9
def img(l:LU):List UInt8:=l.take 64
theorem img_len(l:LU):(img l).length<=64:=List.length_take_le _ _
theorem img_bts{w:World}{A:OA}{l:LU}(h:Bts w A l):Bts w A (img l):=by
 intro i hi;obtain⟨b,o,hA,hs,hc⟩:=h i (by unfold img at hi;simp only[List.length_take]at hi;omega);exact⟨b,o,hA,hs,by rw[hc];simp[img]⟩
theorem lawImage_calls(A:OA)(c:Nat)(l:LU)(w:World)(hc:l.length<=c)(hl:l.length<=140737488351232):
  Calls Try.prog 68 #[.slice A l.length c] w (Ret w (.slice A (img l).length c)):=by
 by_cases h:l.length<=64
 ·have h1:¬(64:Int)<(l.length:Int):=by omega
  have HI:Hid ((img l).length=l.length):=by unfold img Hid;rw[List.length_take];omega
  exact x548
 have h1:(64:Int)<(l.length:Int):=by omega
 have HI:Hid ((img l).length=64):=by unfold img Hid;rw[List.length_take];omega
 exact x548
end Go.Proofs.Ytefkfglkpebbmac
