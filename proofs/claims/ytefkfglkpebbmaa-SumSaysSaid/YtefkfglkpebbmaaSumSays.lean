/- The walk of the law SumSays. -/
import Derived.Test.YtefkfglkpebbmaaSum
import Derived.Test.YtefkfglkpebbmaaArgs
namespace Go.Proofs.Ytefkfglkpebbmaa
open Go.RowKit
set_option linter.unusedVariables false

theorem SumSays_walk (W : World) (v0 v1 : Value) (s : Int) (l : List UInt8) (g0 : ArgInt v0 s) (g1 : ArgBytes W v1 l) :
    Calls Try.prog 4 #[v0, v1] W (RetB W (.bool true)) := by
  obtain ⟨rfl, hs⟩ := g0
  obtain ⟨A, c, rfl, hc, hl, hr⟩ := g1
  by_cases h : 0 ≤ s ∧ s ≤ 65520
  · have h0 : ¬ s < 0 := by omega
    have h1 : ¬ 65521 ≤ s := by omega
    go_enter Try.func4, Try.ntmps4
    go_wp2_with fail
    refine (sumOn_calls A c l _ s h.1 h.2 (by omega) hr).mono ?_
    rintro e w1 ⟨rfl, rfl⟩
    go_wp2_with fail
    refine (added_calls _).mono ?_
    rintro e w1 ⟨rfl, hb⟩
    have hr1 := hr.stays hb
    go_wp2_with fail
    refine (sumOf_calls A c l _ (by omega) hr1).mono ?_
    rintro e w2 ⟨rfl, rfl⟩
    go_wp2_with fail
    refine (refSumOf_calls A c l _ (by omega) hr1).mono ?_
    rintro e w2 ⟨rfl, rfl⟩
    go_wp2_with fail
    refine (refSumOn_calls A c l _ s h.1 h.2 (by omega) hr1).mono ?_
    rintro e w2 ⟨rfl, rfl⟩
    go_wp2_with fail
    go_ret
    exact ⟨rfl, hb⟩
  · go_enter Try.func4, Try.ntmps4
    go_wp2_with fail
    refine (sumOn_bad A c l _ s h).mono ?_
    rintro e w1 ⟨rfl, rfl⟩
    go_wp2_with fail
    refine (added_calls _).mono ?_
    rintro e w1 ⟨rfl, hb⟩
    have hr1 := hr.stays hb
    go_wp2_with fail
    refine (sumOf_calls A c l _ (by omega) hr1).mono ?_
    rintro e w2 ⟨rfl, rfl⟩
    go_wp2_with fail
    refine (refSumOf_calls A c l _ (by omega) hr1).mono ?_
    rintro e w2 ⟨rfl, rfl⟩
    by_cases h0 : s < 0
    · go_wp2_with fail
      go_ret
      exact ⟨rfl, hb⟩
    · have h1 : 65521 ≤ s := by omega
      go_wp2_with fail
      go_ret
      exact ⟨rfl, hb⟩
end Go.Proofs.Ytefkfglkpebbmaa
