/- bytes.Equal, with its answer at hand. No conditions. -/
import Derived.Test.YtefkfglkpebbmacQBytesEqual
namespace Go.Proofs.Ytefkfglkpebbmac
open Go.RowKit
set_option linter.unusedVariables false

theorem eqB_calls {A B : Option Addr} {n m c d : Nat} {l k : List UInt8} {w : World} {r : Bool} (hn : n = l.length) (hm : m = k.length) (hc : n ≤ c) (hd : m ≤ d) (ha : Bts w A l) (hb : Bts w B k) (hr : decide (l = k) = r) :
    Calls Try.prog 23 #[.slice A n c, .slice B m d] w (Ret w (.bool r)) := by
  subst hn hm hr; exact bytesEqual_calls A B c d l k w hc hd ha hb
end Go.Proofs.Ytefkfglkpebbmac
