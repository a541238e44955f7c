/- The walk of patch.Check. Printed by gen_patcheck.py. No conditions. -/
import Derived.Test.YtefkfglkpebbmacQDeltaCheck
import Derived.Test.YtefkfglkpebbmacQBase
namespace Go.Proofs.Ytefkfglkpebbmac
open Go.RowKit
set_option linter.unusedVariables false
set_option linter.unusedSimpArgs false

theorem patCheck_bad {p : Pat} (h : ¬ p.range) : patCheck p = 2 := by unfold patCheck; rw [if_pos h]
theorem patCheck_in {p : Pat} (h : p.range) : patCheck p = deltaCheck p.ops 64 p.size := by unfold patCheck; rw [if_neg (by simpa using h)]
set_option maxRecDepth 100000 in
set_option maxHeartbeats 8000000 in
theorem patCheckA_calls (A : Option Addr) (c : Nat) (f t o n sz : Int) (l : List Stp) (w : World) (hl : l.length ≤ 3518437208780) (hs : Sps w A l) :
    Calls Try.prog 29 #[.agg #[iv f, iv t, iv o, iv n, iv sz, .slice A l.length c]] w (RetB w (iv (patCheck ⟨f, t, o, n, sz, l⟩))) := by
  have hb : Below w.heap.size w (w.alloc (.cells #[iv f, iv t, iv o, iv n, iv sz, .slice A l.length c] 35)) := (Below.refl _ _).alloc (Nat.le_refl _) _
  have HB := Lib.hid hb
  have HC := Lib.hid (deltaCheck_calls A c l 64 sz _ hl (hs.stays hb))
  clear hb hs
  by_cases h0 : f < (1 : Int)
  · have hz := Lib.hid (patCheck_bad (p := ⟨f, t, o, n, sz, l⟩) (by unfold Pat.range; dsimp only; omega))
    clear HC
    go_enter Try.func29, Try.ntmps29
    go_wp2_with fail
    go_ret
    exact ⟨ret_int hz.out.symm, HB.out⟩
  by_cases h1 : (30 : Int) < f
  · have hz := Lib.hid (patCheck_bad (p := ⟨f, t, o, n, sz, l⟩) (by unfold Pat.range; dsimp only; omega))
    clear HC
    go_enter Try.func29, Try.ntmps29
    go_wp2_with fail
    go_ret
    exact ⟨ret_int hz.out.symm, HB.out⟩
  by_cases h2 : t < (1 : Int)
  · have hz := Lib.hid (patCheck_bad (p := ⟨f, t, o, n, sz, l⟩) (by unfold Pat.range; dsimp only; omega))
    clear HC
    go_enter Try.func29, Try.ntmps29
    go_wp2_with fail
    go_ret
    exact ⟨ret_int hz.out.symm, HB.out⟩
  by_cases h3 : (30 : Int) < t
  · have hz := Lib.hid (patCheck_bad (p := ⟨f, t, o, n, sz, l⟩) (by unfold Pat.range; dsimp only; omega))
    clear HC
    go_enter Try.func29, Try.ntmps29
    go_wp2_with fail
    go_ret
    exact ⟨ret_int hz.out.symm, HB.out⟩
  by_cases h4 : o < (0 : Int)
  · have hz := Lib.hid (patCheck_bad (p := ⟨f, t, o, n, sz, l⟩) (by unfold Pat.range; dsimp only; omega))
    clear HC
    go_enter Try.func29, Try.ntmps29
    go_wp2_with fail
    go_ret
    exact ⟨ret_int hz.out.symm, HB.out⟩
  by_cases h5 : (65535 : Int) < o
  · have hz := Lib.hid (patCheck_bad (p := ⟨f, t, o, n, sz, l⟩) (by unfold Pat.range; dsimp only; omega))
    clear HC
    go_enter Try.func29, Try.ntmps29
    go_wp2_with fail
    go_ret
    exact ⟨ret_int hz.out.symm, HB.out⟩
  by_cases h6 : n < (0 : Int)
  · have hz := Lib.hid (patCheck_bad (p := ⟨f, t, o, n, sz, l⟩) (by unfold Pat.range; dsimp only; omega))
    clear HC
    go_enter Try.func29, Try.ntmps29
    go_wp2_with fail
    go_ret
    exact ⟨ret_int hz.out.symm, HB.out⟩
  by_cases h7 : (65535 : Int) < n
  · have hz := Lib.hid (patCheck_bad (p := ⟨f, t, o, n, sz, l⟩) (by unfold Pat.range; dsimp only; omega))
    clear HC
    go_enter Try.func29, Try.ntmps29
    go_wp2_with fail
    go_ret
    exact ⟨ret_int hz.out.symm, HB.out⟩
  have hz := Lib.hid (patCheck_in (p := ⟨f, t, o, n, sz, l⟩) (by unfold Pat.range; dsimp only; omega))
  go_enter Try.func29, Try.ntmps29
  go_wp2_with fail
  refine HC.out.mono ?_
  rintro e w1 ⟨rfl, hb1⟩
  have HB1 := Lib.hid (HB.out.trans (hb1.mono HB.out.size))
  clear hb1
  go_wp2_with fail
  go_ret
  exact ⟨ret_int hz.out.symm, HB1.out⟩
end Go.Proofs.Ytefkfglkpebbmac
