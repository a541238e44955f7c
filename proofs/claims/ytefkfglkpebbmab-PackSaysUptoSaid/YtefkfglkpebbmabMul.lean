/- math/bits.Mul: the library's contract, laid at this program by the kit's tool; then in the words of these texts. No conditions. -/
import Derived.Shelf.Bits.Mul64
import Derived.Test.YtefkfglkpebbmabBase
namespace Go.Proofs.Ytefkfglkpebbmab
open Go.Shelf Go.RowKit
set_option linter.unusedVariables false

def lays212_ren : Go.Shelf.Ren := ⟨fun | 212 => 70 | 263 => 75 | 264 => 76 | n => n, fun | 46 => 75 | 51 => 83 | 146 => 84 | 53 => 87 | 148 => 88 | n => n, fun | n => n⟩
theorem lays212 : Go.Proofs.Lays.n212 Try.prog lays212_ren := {
  mixed := by kernel_rfl
  f212 := Try.func70.trans (congrArg some (by kernel_rfl))
  f263 := Try.func75.trans (congrArg some (by kernel_rfl))
  f264 := Try.func76.trans (congrArg some (by kernel_rfl))
  t46 := Try.underlying75
  a46 := Try.isAgg75
  z46 := Try.sizeOf75
  v46 := Try.zeroValue75
  t51 := Try.underlying83
  a51 := Try.isAgg83
  z51 := Try.sizeOf83
  v51 := Try.zeroValue83
  t53 := Try.underlying87
  a53 := Try.isAgg87
  z53 := Try.sizeOf87
  v53 := Try.zeroValue87
  t146 := Try.underlying84
  a146 := Try.isAgg84
  z146 := Try.sizeOf84
  v146 := Try.zeroValue84
  t148 := Try.underlying88
  a148 := Try.isAgg88
  z148 := Try.sizeOf88
  v148 := Try.zeroValue88 }
theorem mul_calls (x y : Nat) (w : World) (hx : x ≤ 1) (hy : y ≤ 1073741824) :
    Calls Try.prog 70 #[.int .u64 x, .int .u64 y] w (Ret w (.tuple #[.int .u64 0, .int .u64 ((x * y : Nat) : Int)])) := by
  have hxy : x * y ≤ 1073741824 := by
    have := Nat.mul_le_mul_right y hx; omega
  refine (Any.bits_Mul lays212 x y (by omega) (by omega) w).mono ?_
  rintro e w' ⟨rfl, rfl⟩
  have e1 : x * y / 18446744073709551616 = 0 := by omega
  have e2 : x * y % 18446744073709551616 = x * y := by omega
  rw [e1, e2]
  exact ⟨rfl, rfl⟩
theorem mul1_calls (y : Nat) (w : World) (hy : y ≤ 1073741824) :
    Calls Try.prog 70 #[.int .u64 1, .int .u64 y] w (Ret w (.tuple #[.int .u64 0, .int .u64 (y : Int)])) := by
  have h := mul_calls 1 y w (Nat.le_refl _) hy
  rw [Nat.one_mul] at h
  exact h
end Go.Proofs.Ytefkfglkpebbmab
