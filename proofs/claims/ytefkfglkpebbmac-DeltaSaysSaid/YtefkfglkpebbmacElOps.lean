/- What an append asks of Ops. -/
import Derived.Test.YtefkfglkpebbmacOwn
namespace Go.Proofs.Ytefkfglkpebbmac
open Go.RowKit
set_option linter.unusedVariables false
theorem elOpsB : El Try.prog 23 117 3 3518437208883 := ⟨Try.underlying23, by
  obtain ⟨i, h⟩ := info_parts (P := Try.prog) (e := 117) (z := .agg #[.int .i64 0, .int .i64 0, .slice none 0 0]) (size := 3) (bytes := 40) (by kernel_rfl)
  exact ⟨i, _, h.1, h.2.1, h.2.2.1, by omega, rfl⟩, by omega⟩
theorem elOps : El Try.prog 23 117 3 := ⟨Try.underlying23, by
  obtain ⟨i, h⟩ := info_parts (P := Try.prog) (e := 117) (z := .agg #[.int .i64 0, .int .i64 0, .slice none 0 0]) (size := 3) (bytes := 40) (by kernel_rfl)
  exact ⟨i, _, h.1, h.2.1, h.2.2.1, by omega, rfl⟩, by omega⟩
end Go.Proofs.Ytefkfglkpebbmac
