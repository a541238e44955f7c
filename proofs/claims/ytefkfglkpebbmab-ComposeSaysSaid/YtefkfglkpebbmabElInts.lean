/- What an append asks of Ints. -/
import Derived.Test.YtefkfglkpebbmabOwn
namespace Go.Proofs.Ytefkfglkpebbmab
open Go.RowKit
set_option linter.unusedVariables false
theorem elInts : El Try.prog 68 3 1 := ⟨Try.underlying68, by
  obtain ⟨i, h⟩ := info_parts (P := Try.prog) (e := 3) (z := .int .i64 0) (size := 1) (bytes := 8) (by kernel_rfl)
  exact ⟨i, _, h.1, h.2.1, h.2.2.1, by omega, rfl⟩, by omega⟩
end Go.Proofs.Ytefkfglkpebbmab
