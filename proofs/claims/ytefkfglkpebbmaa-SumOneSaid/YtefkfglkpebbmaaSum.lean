/- The walks of package sum, of the reference's sums, and of the law's closed fact on them. -/
import Derived.Test.YtefkfglkpebbmaaBase
import Derived.Test.YtefkfglkpebbmaaSumMath
namespace Go.Proofs.Ytefkfglkpebbmaa
open Go.RowKit
set_option linter.unusedVariables false

section
variable (A : Option Addr) (c : Nat) (l : List UInt8) (w : World)
theorem sumOf_calls (hl : l.length ≤ 281474976702464) (hr : Bts w A l) :
    Calls Try.prog 17 #[.slice A l.length c] w (Ret w (iv (sumOn 1 l))) := by
  go_enter Try.func17, Try.ntmps17
  go_wp2
  go_loop [3, 5, 8] (fun s x i => ∃ k : Nat, k ≤ l.length ∧ i = .int .i64 k ∧ s = .int .i64 (sumOn 1 (l.take k))) (fun _ _ i => l.length - (intOf i).toNat)
  case atStart => exact ⟨0, Nat.zero_le _, rfl, rfl⟩
  case round =>
    obtain ⟨k, hk, rfl, rfl⟩ := hrel
    have hb := sumOn_bd 1 (l.take k) (by omega)
    by_cases hlt : k < l.length
    · obtain ⟨b, o, rfl, hbs, hc⟩ := hr k hlt
      have hx := l[k].toNat_lt
      have HS : Hid (sumOn 1 (l.take (k + 1)) = (sumOn 1 (l.take k) * 31 + (l[k].toNat : Int)) % 65521) := sumOn_take 1 l k hlt
      go_wp2
      go_round
      case rel => exact ⟨k + 1, by omega, by go_num, by rw [HS.out]⟩
      case measure => simp [intOf] <;> omega
    · go_wp2
      go_ret
      exact ⟨ret_int (by rw [List.take_of_length_le (by omega)]), rfl⟩

theorem sumOn_bad (s : Int) (hs : ¬ (0 ≤ s ∧ s ≤ 65520)) :
    Calls Try.prog 15 #[iv s, .slice A l.length c] w (Ret w (.tuple #[iv 0, iv 2])) := by
  by_cases h0 : s < 0
  · go_enter Try.func15, Try.ntmps15
    go_wp2
    go_ret2
    exact ⟨rfl, rfl⟩
  · have h1 : 65521 ≤ s := by omega
    go_enter Try.func15, Try.ntmps15
    go_wp2
    go_ret2
    exact ⟨rfl, rfl⟩

theorem sumOn_calls (s : Int) (hs : 0 ≤ s) (hs' : s ≤ 65520) (hl : l.length ≤ 281474976702464) (hr : Bts w A l) :
    Calls Try.prog 15 #[iv s, .slice A l.length c] w (Ret w (.tuple #[iv (sumOn s l), iv 0])) := by
  have h0 : ¬ s < 0 := by omega
  have h1 : ¬ 65521 ≤ s := by omega
  go_enter Try.func15, Try.ntmps15
  go_wp2
  go_loop [0, 7, 16] (fun t x i => ∃ k : Nat, k ≤ l.length ∧ i = .int .i64 k ∧ t = .int .i64 (sumOn s (l.take k))) (fun _ _ i => l.length - (intOf i).toNat)
  case atStart => exact ⟨0, Nat.zero_le _, rfl, rfl⟩
  case round =>
    obtain ⟨k, hk, rfl, rfl⟩ := hrel
    have hb := sumOn_bd s (l.take k) (by omega)
    by_cases hlt : k < l.length
    · obtain ⟨b, o, rfl, hbs, hc⟩ := hr k hlt
      have hx := l[k].toNat_lt
      have HS : Hid (sumOn s (l.take (k + 1)) = (sumOn s (l.take k) * 31 + (l[k].toNat : Int)) % 65521) := sumOn_take s l k hlt
      go_wp2
      go_round
      case rel => exact ⟨k + 1, by omega, by go_num, by rw [HS.out]⟩
      case measure => simp [intOf] <;> omega
    · go_wp2
      go_ret2
      exact ⟨ret2 (int_eq (by rw [List.take_of_length_le (by omega)])) rfl, rfl⟩

theorem refSumOn_calls (s : Int) (hs : 0 ≤ s) (hs' : s ≤ 65520) (hl : l.length ≤ 281474976702464) (hr : Bts w A l) :
    Calls Try.prog 19 #[iv s, .slice A l.length c] w (Ret w (iv (sumOn s l))) := by
  go_enter Try.func19, Try.ntmps19
  go_wp2
  go_loop [5, 6, 7] (fun p n i => ∃ k : Nat, k ≤ l.length ∧ i = .int .i64 ((k : Int) - 1) ∧ p = .int .i64 (pw (l.length - k)) ∧ n = .int .i64 (sumOn 0 (l.drop k))) (fun _ _ i => (intOf i + 1).toNat)
  case atStart => exact ⟨l.length, Nat.le_refl _, rfl, by simp [pw], by simp [sumOn]⟩
  case round =>
    obtain ⟨k, hk, rfl, rfl, rfl⟩ := hrel
    have hb := sumOn_bd 0 (l.drop k) (by omega)
    have hp := pw_bd (l.length - k)
    by_cases hlt : 0 < k
    · obtain ⟨j, rfl⟩ : ∃ j, k = j + 1 := ⟨k - 1, by omega⟩
      obtain ⟨b, o, rfl, hbs, hc⟩ := hr j (by omega)
      have hx := l[j].toNat_lt
      have hj : ((j : Int) + 1 - 1).toNat = j := by omega
      have HS : Hid (sumOn 0 (l.drop j) = (sumOn 0 (l.drop (j + 1)) + (l[j].toNat : Int) * pw (l.length - (j + 1))) % 65521) := sumOn_drop l j (by omega)
      have HP : Hid (pw (l.length - j) = pw (l.length - (j + 1)) * 31 % 65521) := by
        have := pw_succ (l.length - (j + 1))
        rwa [show l.length - (j + 1) + 1 = l.length - j by omega] at this
      have hm : 0 ≤ (l[j].toNat : Int) * pw (l.length - (j + 1)) := Int.mul_nonneg (by omega) hp.1
      have hm2 : (l[j].toNat : Int) * pw (l.length - (j + 1)) ≤ 256 * 65520 := Int.mul_le_mul (by omega) hp.2 hp.1 (by omega)
      go_wp2
      go_round
      case rel => exact ⟨j, by omega, rfl, by rw [HP.out], by rw [HS.out]⟩
      case measure => simp [intOf]
    · obtain rfl : k = 0 := by omega
      have HF := Lib.hid (sumOn_ref s l (by omega))
      have hm : 0 ≤ s * pw l.length := Int.mul_nonneg hs (pw_bd _).1
      have hm2 : s * pw l.length ≤ 65520 * 65520 := Int.mul_le_mul hs' (pw_bd _).2 (pw_bd _).1 (by omega)
      simp only [Nat.sub_zero, List.drop_zero] at hb hp ⊢
      go_wp2
      go_ret
      exact ⟨ret_int (by rw [HF.out]), rfl⟩

theorem refSumOf_calls (hl : l.length ≤ 281474976702464) (hr : Bts w A l) :
    Calls Try.prog 18 #[.slice A l.length c] w (Ret w (iv (sumOn 1 l))) := by
  go_enter Try.func18, Try.ntmps18
  go_wp2_with (go_at_call 19; refine (refSumOn_calls A c l _ 1 (by omega) (by omega) hl hr).mono ?_; rintro e w' ⟨rfl, rfl⟩)
  go_ret
  exact ⟨rfl, rfl⟩
end

theorem added_calls (w : World) : Calls Try.prog 16 #[] w (RetB w (.bool true)) := by
  have e1 : sumOn 1 [2, 3] = 1026 := by decide
  have e2 : sumOn 1 [] = 1 := by decide
  have h1 := fun A c w => sumOn_calls A c [2, 3] w 1 (by omega) (by omega) (by decide)
  have h2 := fun A c w => sumOf_calls A c [2, 3] w (by decide)
  have h3 := fun w => sumOf_calls none 0 [] w (by decide) (Bts.nil _ _)
  rw [e1] at h1 h2
  rw [e2] at h3
  have H1 := Lib.hid h1
  have H2 := Lib.hid h2
  have H3 := Lib.hid h3
  clear h1 h2 h3 e1 e2
  go_enter Try.func16, Try.ntmps16
  go_wp2_with fail
  refine (H1.out _ _ _ (bts_top rfl rfl)).mono ?_
  rintro e w1 ⟨rfl, rfl⟩
  go_wp2_with fail
  refine (sumOn_bad _ _ [] _ 65521 (by omega)).mono ?_
  rintro e w1 ⟨rfl, rfl⟩
  go_wp2_with fail
  refine (H2.out _ _ _ (bts_top (by simp) rfl)).mono ?_
  rintro e w1 ⟨rfl, rfl⟩
  go_wp2_with fail
  refine (H3.out _).mono ?_
  rintro e w1 ⟨rfl, rfl⟩
  go_wp2_with fail
  go_ret
  exact ⟨rfl, ((Below.refl _ _).alloc (Nat.le_refl _) _).alloc (by simp) _⟩

end Go.Proofs.Ytefkfglkpebbmaa
