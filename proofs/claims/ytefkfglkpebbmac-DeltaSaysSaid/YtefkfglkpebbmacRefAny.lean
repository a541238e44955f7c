/- Diff and Apply and the document's, whatever they are given. Condition of the document's Diffed: the library's own variable holds some number. -/
import Derived.Test.YtefkfglkpebbmacRefDiffed
import Derived.Test.YtefkfglkpebbmacDiff
import Derived.Test.YtefkfglkpebbmacRefApplyAny
import Derived.Test.YtefkfglkpebbmacApplyAny
namespace Go.Proofs.Ytefkfglkpebbmac
open Go.RowKit
set_option linter.unusedVariables false

def dxOf (old b : List UInt8) : List Stp × Int := if 64 < old.length ∨ 64 < b.length then ([], 1) else (diffed old b, 0)
theorem opRet2_nil {w : World} {n : Int} {e : Ending} {w' : World} (h : RetB w (.tuple #[.slice none 0 0, iv n]) e w') : OpRet2 w [] n e w' :=
  ⟨none, 0, h.1, Sps.nil _ _, Nat.le_refl _, h.2⟩
theorem dx_len (old b : List UInt8) : (dxOf old b).1.length ≤ 40 := by
  unfold dxOf
  split
  · simp
  · exact (diffed_ok old b (by omega) (by omega)).many
theorem diffAny_calls (A B : Option Addr) (c d : Nat) (old b : List UInt8) (w : World) (ho : old.length ≤ 140737488351232) (hb : b.length ≤ 140737488351232) (hA : Bts w A old) (hB : Bts w B b) :
    Calls Try.prog 14 #[.slice A old.length c, .slice B b.length d] w (OpRet2 w (dxOf old b).1 (dxOf old b).2) := by
  unfold dxOf
  by_cases h : 64 < old.length ∨ 64 < b.length
  · rw [if_pos h]; exact (diff_many A B c d old b w h ho hb).mono fun _ _ => opRet2_nil
  · rw [if_neg h]; exact diff_calls A B c d old b w (by omega) (by omega) hA hB
theorem refDiffAny_calls (A B : Option Addr) (c d : Nat) (old b : List UInt8) (w : World) (hml : ML w) (hc : old.length ≤ c) (hd : b.length ≤ d) (ho : old.length ≤ 140737488351232) (hb : b.length ≤ 140737488351232) (hA : Bts w A old) (hB : Bts w B b) :
    Calls Try.prog 16 #[.slice A old.length c, .slice B b.length d] w (OpRet2 w (dxOf old b).1 (dxOf old b).2) := by
  unfold dxOf
  by_cases h : 64 < old.length ∨ 64 < b.length
  · rw [if_pos h]; exact (refDiffed_many A B c d old b w h ho hb).mono fun _ _ => opRet2_nil
  · rw [if_neg h]; exact refDiffed_calls A B c d old b w hml hc hd (by omega) (by omega) hA hB
end Go.Proofs.Ytefkfglkpebbmac
