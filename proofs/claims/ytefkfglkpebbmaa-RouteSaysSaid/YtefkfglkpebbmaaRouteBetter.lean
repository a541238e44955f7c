/- The walk of route.better. -/
import Derived.Test.YtefkfglkpebbmaaCmpInts
namespace Go.Proofs.Ytefkfglkpebbmaa
open Go.RowKit
set_option linter.unusedVariables false

set_option maxHeartbeats 1000000 in
theorem better_calls (A B : Option Addr) (c d : Nat) (a b : Way) (w : World) (hl : a.at_.length ≤ 140737488351232) (hm : b.at_.length ≤ 140737488351232) (ha : Nts w A a.at_) (hb : Nts w B b.at_) :
    Calls Try.prog 56 #[.agg #[iv a.cost, .slice A a.at_.length c], .agg #[iv b.cost, .slice B b.at_.length d]] w (RetB w (.bool (better a b))) := by
  by_cases h0 : b.at_ = []
  · have HR := Lib.hid (better_none a h0)
    have h1 : ((b.at_.length : Int) == 0) = true := by simp [h0]
    clear h0
    go_enter Try.func56, Try.ntmps56
    go_wp2_with fail
    go_ret
    exact ⟨ret_bool HR.out.symm, ((Below.refl _ _).alloc (Nat.le_refl _) _).alloc (by simp) _⟩
  have h1 : ((b.at_.length : Int) == 0) = false := by simp [h0]
  by_cases hc : a.cost = b.cost
  · have h2 : (a.cost != b.cost) = false := by simp [hc]
    by_cases hn : a.at_.length = b.at_.length
    · have h3 : ((a.at_.length : Int) != (b.at_.length : Int)) = false := by simp [hn]
      have HR : Hid (better a b = decide (cmpL a.at_ b.at_ < 0)) := by
        unfold Hid better; rw [if_neg (by simp [h0, hc]), if_neg (by simp [hn]), cmpL_lt]
      have ha' := ha.stays (((Below.refl _ _).alloc (Nat.le_refl _) (.cells #[iv a.cost, .slice A a.at_.length c] 93)).alloc (by simp) (.cells #[iv b.cost, .slice B b.at_.length d] 93))
      have hb' := hb.stays (((Below.refl _ _).alloc (Nat.le_refl _) (.cells #[iv a.cost, .slice A a.at_.length c] 93)).alloc (by simp) (.cells #[iv b.cost, .slice B b.at_.length d] 93))
      have HC := Lib.hid (cmpInts_calls A B c d a.at_ b.at_ _ hl hm ha' hb')
      clear h0 hc hn ha hb ha' hb'
      go_enter Try.func56, Try.ntmps56
      go_wp2_with fail
      refine HC.out.mono ?_
      rintro e w1 ⟨rfl, rfl⟩
      go_wp2_with fail
      go_ret
      exact ⟨ret_bool HR.out.symm, ((Below.refl _ _).alloc (Nat.le_refl _) _).alloc (by simp) _⟩
    · have h3 : ((a.at_.length : Int) != (b.at_.length : Int)) = true := by simp; omega
      have HR : Hid (better a b = decide ((a.at_.length : Int) < (b.at_.length : Int))) := by
        unfold Hid better; rw [if_neg (by simp [h0, hc]), if_pos hn]; simp
      clear h0 hc hn
      go_enter Try.func56, Try.ntmps56
      go_wp2_with fail
      go_ret
      exact ⟨ret_bool (by rw [HR.out]; simp), ((Below.refl _ _).alloc (Nat.le_refl _) _).alloc (by simp) _⟩
  · have h2 : (a.cost != b.cost) = true := by simp [hc]
    have HR : Hid (better a b = decide (a.cost < b.cost)) := by
      unfold Hid better; rw [if_pos (Or.inr hc)]; simp [h0]
    clear h0 hc
    go_enter Try.func56, Try.ntmps56
    go_wp2_with fail
    go_ret
    exact ⟨ret_bool (by rw [HR.out]), ((Below.refl _ _).alloc (Nat.le_refl _) _).alloc (by simp) _⟩
end Go.Proofs.Ytefkfglkpebbmaa
