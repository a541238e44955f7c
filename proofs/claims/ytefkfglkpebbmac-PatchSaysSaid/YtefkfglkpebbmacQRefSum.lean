/- The walks of the document's SumOn and SumOf. No conditions. -/
import Derived.Test.YtefkfglkpebbmacQBase
namespace Go.Proofs.Ytefkfglkpebbmac
open Go.RowKit
set_option linter.unusedVariables false

section
variable (A : Option Addr) (c : Nat) (l : List UInt8) (w : World)
theorem refSumOn_calls (s : Int) (hs : 0 ≤ s) (hs' : s ≤ 65520) (hl : l.length ≤ 140737488355328) (hr : Bts w A l) :
    Calls Try.prog 140 #[iv s, .slice A l.length c] w (Ret w (iv (sumOn s l))) := by
  go_enter Try.func140, Try.ntmps140
  go_wp2
  go_loop [5, 6, 7] (fun p n i => ∃ k : Nat, k ≤ l.length ∧ i = .int .i64 ((k : Int) - 1) ∧ p = .int .i64 (pw (l.length - k)) ∧ n = .int .i64 (sumOn 0 (l.drop k))) (fun _ _ i => (intOf i + 1).toNat)
  case atStart => exact ⟨l.length, Nat.le_refl _, rfl, by simp [pw], by simp [sumOn]⟩
  case round =>
    obtain ⟨k, hk, rfl, rfl, rfl⟩ := hrel
    have hb := sumOn_bd 0 (l.drop k) (by omega)
    have hp := pw_bd (l.length - k)
    by_cases hlt : 0 < k
    · obtain ⟨j, rfl⟩ : ∃ j, k = j + 1 := ⟨k - 1, by omega⟩
      obtain ⟨b, o, rfl, hbs, hc⟩ := hr j (by omega)
      have hx := l[j].toNat_lt
      have hj : ((j : Int) + 1 - 1).toNat = j := by omega
      have HS : Hid (sumOn 0 (l.drop j) = (sumOn 0 (l.drop (j + 1)) + (l[j].toNat : Int) * pw (l.length - (j + 1))) % 65521) := sumOn_drop l j (by omega)
      have HP : Hid (pw (l.length - j) = pw (l.length - (j + 1)) * 31 % 65521) := by
        have := pw_succ (l.length - (j + 1))
        rwa [show l.length - (j + 1) + 1 = l.length - j by omega] at this
      have hm : 0 ≤ (l[j].toNat : Int) * pw (l.length - (j + 1)) := Int.mul_nonneg (by omega) hp.1
      have hm2 : (l[j].toNat : Int) * pw (l.length - (j + 1)) ≤ 256 * 65520 := Int.mul_le_mul (by omega) hp.2 hp.1 (by omega)
      go_wp2
      go_round
      case rel => exact ⟨j, by omega, rfl, by rw [HP.out], by rw [HS.out]⟩
      case measure => simp [intOf]
    · obtain rfl : k = 0 := by omega
      have HF := Lib.hid (sumOn_ref s l (by omega))
      have hm : 0 ≤ s * pw l.length := Int.mul_nonneg hs (pw_bd _).1
      have hm2 : s * pw l.length ≤ 65520 * 65520 := Int.mul_le_mul hs' (pw_bd _).2 (pw_bd _).1 (by omega)
      simp only [Nat.sub_zero, List.drop_zero] at hb hp ⊢
      go_wp2
      go_ret
      exact ⟨ret_int (by rw [HF.out]), rfl⟩
theorem refSumOf_calls (hl : l.length ≤ 140737488355328) (hr : Bts w A l) :
    Calls Try.prog 96 #[.slice A l.length c] w (Ret w (iv (sumOn 1 l))) := by
  go_enter Try.func96, Try.ntmps96
  go_wp2_with (go_at_call 140; refine (refSumOn_calls A c l _ 1 (by omega) (by omega) hl hr).mono ?_; rintro e w' ⟨rfl, rfl⟩)
  go_ret
  exact ⟨rfl, rfl⟩
end
end Go.Proofs.Ytefkfglkpebbmac
