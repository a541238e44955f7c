/- What an append asks of Edges. -/
import Derived.Test.YtefkfglkpebbmaaOwn
namespace Go.Proofs.Ytefkfglkpebbmaa
open Go.RowKit
set_option linter.unusedVariables false
theorem elEdges : El Try.prog 66 74 3 := ⟨Try.underlying66, by
  obtain ⟨i, h⟩ := info_parts (P := Try.prog) (e := 74) (z := .agg #[.int .i64 0, .int .i64 0, .int .i64 0]) (size := 3) (bytes := 24) (by kernel_rfl)
  exact ⟨i, _, h.1, h.2.1, h.2.2.1, by omega, rfl⟩, by omega⟩
end Go.Proofs.Ytefkfglkpebbmaa
