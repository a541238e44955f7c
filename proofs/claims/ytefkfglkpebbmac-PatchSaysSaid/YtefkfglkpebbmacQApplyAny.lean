/- delta.Apply, whatever the steps are. No conditions. -/
import Derived.Test.YtefkfglkpebbmacQDeltaApply
namespace Go.Proofs.Ytefkfglkpebbmac
open Go.RowKit
set_option linter.unusedVariables false

def axOf (old : List UInt8) (l : List Stp) (size : Int) : List UInt8 × Int := if deltaCheck l old.length size ≠ 0 then ([], deltaCheck l old.length size) else (applied old l, 0)
theorem byRet2_nil {w : World} {n : Int} {e : Ending} {w' : World} (h : RetB w (.tuple #[.slice none 0 0, iv n]) e w') : ByRet2 w [] n e w' :=
  ⟨none, 0, h.1, Bts.nil _ _, Nat.le_refl _, h.2⟩
theorem applyAny_calls (A : Option Addr) (c : Nat) (old : List UInt8) (B : Option Addr) (d : Nat) (l : List Stp) (size : Int) (w : World) (hc : old.length ≤ c) (ho : old.length ≤ 140737488351232) (hA : Bts w A old) (hl : l.length ≤ 3518437208780) (hr : Sps w B l) :
    Calls Try.prog 15 #[.slice A old.length c, .slice B l.length d, iv size] w (ByRet2 w (axOf old l size).1 (axOf old l size).2) := by
  unfold axOf
  by_cases h : deltaCheck l old.length size = 0
  · rw [if_neg (by simpa using h)]; exact deltaApply_ok A c old B d l size w hc hA hl hr h
  · rw [if_pos h]; exact (deltaApply_bad A c old B d l size w ho hl hr h).mono fun _ _ => byRet2_nil
end Go.Proofs.Ytefkfglkpebbmac
