/- A piece of a slice of bytes. No conditions. -/
import Derived.Test.YtefkfglkpebbmabQUnpack
namespace Go.Proofs.Ytefkfglkpebbmab
open Go.RowKit
set_option linter.unusedVariables false

/-- A piece of a slice: some place, so many bytes. -/
theorem mid_slice {w : World} {ab ao : Nat} {l : List UInt8} {c : Nat} {z1 z2 : Int} (i y : Nat) (h1 : z1 = (i : Int)) (h2 : z2 = (i : Int) + (y : Int)) (hc : l.length ≤ c) (hy : i + y ≤ l.length) (hB : Bts w (some ⟨ab, ao, none⟩) l) : ∃ o' c', y ≤ c' ∧ Bts w (some ⟨ab, o', none⟩) ((l.drop i).take y) ∧
    ∀ W, (Instr.slice 22 (.slice (some ⟨ab, ao, none⟩) l.length c) (some (.int .i64 z1)) (some (.int .i64 z2)) none).run Try.prog W = .ok (.slice (some ⟨ab, o', none⟩) y c') W := by
  subst h1 h2
  have q1 : (i : Int) + (y : Int) ≤ (c : Int) := by omega
  have q2 : (i : Int) ≤ (i : Int) + (y : Int) := by omega
  have q3 : i + y - i = y := by omega
  by_cases e : c = i
  · have hy0 : y = 0 := by omega
    subst hy0
    refine ⟨ao, c - i, by omega, by simpa using Bts.nil _ _, fun W => ?_⟩
    go_simp
  · refine ⟨ao + i, c - i, by omega, mid_take (mid_at hB i) y, fun W => ?_⟩
    go_simp
    omega
end Go.Proofs.Ytefkfglkpebbmab
