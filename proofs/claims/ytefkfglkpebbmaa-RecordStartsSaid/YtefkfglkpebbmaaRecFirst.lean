/- The law's first record. No conditions. -/
import Derived.Test.YtefkfglkpebbmaaRecRefW
namespace Go.Proofs.Ytefkfglkpebbmaa
open Go.RowKit
set_option linter.unusedVariables false

def firstRec : Rec := ⟨1, 0, false, 0, 1, ⟨1, 3, 9⟩, Inf.zero⟩
set_option maxRecDepth 100000 in
theorem first_calls (w : World) : Calls Try.prog 53 #[] w (RetB w (.agg (recA firstRec))) := by
  go_enter Try.func53, Try.ntmps53
  go_wp2_with fail
  refine bodyPost_ret (results_c rfl rfl (cs := recA firstRec) (by go_simp; rfl) (by go_simp) (by go_simp)) rfl ⟨rfl, ?_⟩
  repeat (first | exact Below.refl _ _ | refine below_row ?_ (by omega) _ | refine Below.alloc ?_ (by simp <;> omega) _)
end Go.Proofs.Ytefkfglkpebbmaa
