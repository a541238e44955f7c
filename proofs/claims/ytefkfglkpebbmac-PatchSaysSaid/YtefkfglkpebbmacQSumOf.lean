/- The walk of sum.Of. No conditions. -/
import Derived.Test.YtefkfglkpebbmacQBase
namespace Go.Proofs.Ytefkfglkpebbmac
open Go.RowKit
set_option linter.unusedVariables false

section
variable (A : Option Addr) (c : Nat) (l : List UInt8) (w : World)
theorem sumOf_calls (hl : l.length ≤ 140737488355328) (hr : Bts w A l) :
    Calls Try.prog 95 #[.slice A l.length c] w (Ret w (iv (sumOn 1 l))) := by
  go_enter Try.func95, Try.ntmps95
  go_wp2
  go_loop [3, 5, 8] (fun s x i => ∃ k : Nat, k ≤ l.length ∧ i = .int .i64 k ∧ s = .int .i64 (sumOn 1 (l.take k))) (fun _ _ i => l.length - (intOf i).toNat)
  case atStart => exact ⟨0, Nat.zero_le _, rfl, rfl⟩
  case round =>
    obtain ⟨k, hk, rfl, rfl⟩ := hrel
    have hb := sumOn_bd 1 (l.take k) (by omega)
    by_cases hlt : k < l.length
    · obtain ⟨b, o, rfl, hbs, hc⟩ := hr k hlt
      have hx := l[k].toNat_lt
      have HS : Hid (sumOn 1 (l.take (k + 1)) = (sumOn 1 (l.take k) * 31 + (l[k].toNat : Int)) % 65521) := sumOn_take 1 l k hlt
      go_wp2
      go_round
      case rel => exact ⟨k + 1, by omega, by go_num, by rw [HS.out]⟩
      case measure => simp [intOf] <;> omega
    · go_wp2
      go_ret
      exact ⟨ret_int (by rw [List.take_of_length_le (by omega)]), rfl⟩
end
end Go.Proofs.Ytefkfglkpebbmac
