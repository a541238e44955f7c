/- The document's Applied, whatever it is given. No conditions. -/
import Derived.Test.YtefkfglkpebbmacQRefApplied
import Derived.Test.YtefkfglkpebbmacQApplyAny
namespace Go.Proofs.Ytefkfglkpebbmac
open Go.RowKit
set_option linter.unusedVariables false

theorem refApplyAny_calls (A : Option Addr) (c : Nat) (old : List UInt8) (B : Option Addr) (d : Nat) (l : List Stp) (size : Int) (w : World) (hc : old.length ≤ c) (ho : old.length ≤ 140737488351232) (hA : Bts w A old) (hl : l.length ≤ 3518437208780) (hr : Sps w B l) :
    Calls Try.prog 17 #[.slice A old.length c, .slice B l.length d, iv size] w (ByRet2 w (axOf old l size).1 (axOf old l size).2) := by
  unfold axOf
  by_cases h : deltaCheck l old.length size = 0
  · rw [if_neg (by simpa using h)]; exact refApplied_ok A c old B d l size w hc hA hl hr h
  · rw [if_pos h]; exact (refApplied_bad A c old B d l size w ho hl hr h).mono fun _ _ => byRet2_nil
end Go.Proofs.Ytefkfglkpebbmac
