/- What an append asks of Bytes. -/
import Derived.Test.YtefkfglkpebbmacOwn
namespace Go.Proofs.Ytefkfglkpebbmac
open Go.RowKit
set_option linter.unusedVariables false
theorem elBytesB : El Try.prog 22 5 1 140737488355328 := ⟨Try.underlying22, by
  obtain ⟨i, h⟩ := info_parts (P := Try.prog) (e := 5) (z := .int .u8 0) (size := 1) (bytes := 1) (by kernel_rfl)
  exact ⟨i, _, h.1, h.2.1, h.2.2.1, by omega, rfl⟩, by omega⟩
theorem elBytes : El Try.prog 22 5 1 := ⟨Try.underlying22, by
  obtain ⟨i, h⟩ := info_parts (P := Try.prog) (e := 5) (z := .int .u8 0) (size := 1) (bytes := 1) (by kernel_rfl)
  exact ⟨i, _, h.1, h.2.1, h.2.2.1, by omega, rfl⟩, by omega⟩
end Go.Proofs.Ytefkfglkpebbmac
