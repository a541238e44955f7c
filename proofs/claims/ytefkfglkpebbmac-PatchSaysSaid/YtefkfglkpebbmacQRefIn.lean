/- The walk of the document's in. No conditions. -/
import Derived.Test.YtefkfglkpebbmacQBase
namespace Go.Proofs.Ytefkfglkpebbmac
open Go.RowKit
set_option linter.unusedVariables false
set_option linter.unusedSimpArgs false

theorem refIn_t {n a b : Int} (h : a ≤ n ∧ n ≤ b) (w : World) : Calls Try.prog 91 #[iv n, iv a, iv b] w (Ret w (.bool true)) := by
  obtain ⟨h1, h2⟩ := h
  go_enter Try.func91, Try.ntmps91
  go_wp2_with fail
  go_ret
  exact ⟨rfl, rfl⟩
theorem refIn_f {n a b : Int} (h : n < a ∨ b < n) (w : World) : Calls Try.prog 91 #[iv n, iv a, iv b] w (Ret w (.bool false)) := by
  by_cases h1 : a ≤ n
  · have h2 : ¬ n ≤ b := by omega
    clear h
    go_enter Try.func91, Try.ntmps91
    go_wp2_with fail
    go_ret
    exact ⟨rfl, rfl⟩
  · clear h
    go_enter Try.func91, Try.ntmps91
    go_wp2_with fail
    go_ret
    exact ⟨rfl, rfl⟩
end Go.Proofs.Ytefkfglkpebbmac
