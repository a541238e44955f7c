/- The walks of the laws' own small functions: at, image. -/
import Derived.Test.YtefkfglkpebbmaaBase
namespace Go.Proofs.Ytefkfglkpebbmaa
open Go.RowKit
set_option linter.unusedVariables false

theorem at_calls (k n : Int) (w : World) (hk1 : -9223372036854775808 ≤ k) (hk2 : k ≤ 9223372036854775807) (hn : 1 ≤ n) (hn2 : n ≤ 4503599627370496) :
    Calls Try.prog 21 #[iv k, iv n] w (Ret w (iv (k % n))) := by
  have hb := Int.emod_nonneg k (show n ≠ 0 by omega)
  have hb2 := Int.emod_lt_of_pos k (show 0 < n by omega)
  have ht : k.tmod n = k % n ∨ (k.tmod n < 0 ∧ k.tmod n + n = k % n) := by
    rw [Int.tmod_eq_emod]
    split <;> omega
  have hz : (n == 0) = false := by simp; omega
  by_cases h0 : 0 ≤ k
  · go_enter Try.func21, Try.ntmps21
    clear ht
    have h1 : ¬ (k % n < 0) := by omega
    go_wp2
    go_ret
    exact ⟨rfl, rfl⟩
  · have hlo : -n < k.tmod n ∧ k.tmod n ≤ 0 := by
      rw [Int.tmod_eq_emod] at ht ⊢
      split <;> omega
    rcases ht with ht | ⟨ht, ht2⟩
    · have h1 : ¬ k.tmod n < 0 := by omega
      have HT := Lib.hid ht
      clear ht
      go_enter Try.func21, Try.ntmps21
      go_wp2
      go_ret
      exact ⟨ret_int HT.out, rfl⟩
    · have HT := Lib.hid ht2
      clear ht2
      have h2 := hlo.1
      go_enter Try.func21, Try.ntmps21
      go_wp2
      go_ret
      exact ⟨ret_int HT.out, rfl⟩

def img (l : List UInt8) : List UInt8 := l.take 64
theorem img_len (l : List UInt8) : (img l).length ≤ 64 := List.length_take_le _ _
theorem img_bts {w : World} {A : Option Addr} {l : List UInt8} (h : Bts w A l) : Bts w A (img l) := by
  intro i hi
  obtain ⟨b, o, hA, hs, hc⟩ := h i (by unfold img at hi; simp only [List.length_take] at hi; omega)
  exact ⟨b, o, hA, hs, by rw [hc]; simp [img]⟩
theorem lawImage_calls (A : Option Addr) (c : Nat) (l : List UInt8) (w : World) (hc : l.length ≤ c) (hl : l.length ≤ 140737488351232) :
    Calls Try.prog 20 #[.slice A l.length c] w (Ret w (.slice A (img l).length c)) := by
  by_cases h : l.length ≤ 64
  · have h1 : ¬ (64 : Int) < (l.length : Int) := by omega
    have HI : Hid ((img l).length = l.length) := by unfold img Hid; rw [List.length_take]; omega
    go_enter Try.func20, Try.ntmps20
    go_wp2
    go_ret
    exact ⟨by rw [HI.out]; first | rfl | exact congrArg (fun n => Ending.returned (Value.slice A n c)) (show (min (l.length : Int) 64).toNat = _ by omega), rfl⟩
  · have h1 : (64 : Int) < (l.length : Int) := by omega
    have HI : Hid ((img l).length = 64) := by unfold img Hid; rw [List.length_take]; omega
    go_enter Try.func20, Try.ntmps20
    go_wp2
    go_ret
    exact ⟨by rw [HI.out]; first | rfl | exact congrArg (fun n => Ending.returned (Value.slice A n c)) (show (min (l.length : Int) 64).toNat = _ by omega), rfl⟩
end Go.Proofs.Ytefkfglkpebbmaa
