/- The walk of the law Names. -/
import Derived.Test.YtefkfglkpebbmaaEqInts
namespace Go.Proofs.Ytefkfglkpebbmaa
open Go.RowKit
set_option linter.unusedVariables false

def errsL : List Int := [0, 1, 2, 3, 4, 5, 6, 7]
theorem errsL_at : ∀ k : Nat, (h : k < 8) → errsL[k]'h = (k : Int) := by decide
theorem Names_walk (W : World) : Calls Try.prog 3 #[] W (RetB W (.bool true)) := by
  have h0 : Nts (W.alloc (.cells (errsL.map iv).toArray 22)) (some ⟨W.heap.size, 0, none⟩) errsL := nts_top rfl rfl
  have h0' : Nts (W.alloc (.cells #[.int .i64 0, .int .i64 1, .int .i64 2, .int .i64 3, .int .i64 4, .int .i64 5, .int .i64 6, .int .i64 7] 22)) (some ⟨W.heap.size, 0, none⟩) errsL := h0
  have H0 := Lib.hid h0'
  clear h0 h0'
  go_enter Try.func3, Try.ntmps3
  go_wp2_with fail
  go_loop [0, 2, 3, 9] (fun r u v i => ∃ k : Nat, k ≤ 8 ∧ r = .bool false ∧ i = .int .i64 k) (fun _ _ _ i => 8 - (intOf i).toNat)
  case atStart => exact ⟨0, Nat.zero_le _, rfl, rfl⟩
  case round =>
    obtain ⟨k, hk, rfl, rfl⟩ := hrel
    by_cases hlt : k < 8
    · obtain ⟨b, o, hA, hs, hc⟩ := H0.out k hlt
      injection hA with hA
      injection hA with hb ho
      subst hb ho
      rw [errsL_at k hlt, Nat.zero_add] at hc
      clear hs
      go_wp2_with fail
      go_round
      case rel => exact ⟨k + 1, by omega, by simp⟩
      case measure => simp [intOf] <;> omega
    · obtain rfl : k = 8 := by omega
      go_wp2_with fail
      refine (equalInts_calls _ _ _ _ [64, 8, 8, 40, 400, 16, 52, 4, 30, 3, 1000000, 120, 60, 1000, 200] [64, 8, 8, 40, 400, 16, 52, 4, 30, 3, 1000000, 120, 60, 1000, 200] _ (by decide) (by decide) ?_ ?_).mono ?_
      · refine nts_blk (cs := #[.int .i64 64, .int .i64 8, .int .i64 8, .int .i64 40, .int .i64 400, .int .i64 16, .int .i64 52, .int .i64 4, .int .i64 30, .int .i64 3, .int .i64 1000000, .int .i64 120, .int .i64 60, .int .i64 1000, .int .i64 200]) (t := 3) ?_ rfl
        repeat (first | (refine blk_top ?_; (simp; done)) | refine blk_old ?_)
      · refine nts_blk (cs := #[.int .i64 64, .int .i64 8, .int .i64 8, .int .i64 40, .int .i64 400, .int .i64 16, .int .i64 52, .int .i64 4, .int .i64 30, .int .i64 3, .int .i64 1000000, .int .i64 120, .int .i64 60, .int .i64 1000, .int .i64 200]) (t := 3) ?_ rfl
        repeat (first | (refine blk_top ?_; (simp; done)) | refine blk_old ?_)
      rintro e w1 ⟨rfl, n, rfl⟩
      rw [decide_eq_true rfl]
      go_wp2_with fail
      refine (equalInts_calls _ _ _ _ [1, 2, 3, 4, 5, 6, 7, 8, 9, 10, 11, 12] [1, 2, 3, 4, 5, 6, 7, 8, 9, 10, 11, 12] _ (by decide) (by decide) ?_ ?_).mono ?_
      · refine nts_blk (cs := #[.int .i64 1, .int .i64 2, .int .i64 3, .int .i64 4, .int .i64 5, .int .i64 6, .int .i64 7, .int .i64 8, .int .i64 9, .int .i64 10, .int .i64 11, .int .i64 12]) (t := 3) ?_ rfl
        repeat (first | (refine blk_top ?_; (simp; done)) | refine blk_drewN ?_ | refine blk_old ?_)
      · refine nts_blk (cs := #[.int .i64 1, .int .i64 2, .int .i64 3, .int .i64 4, .int .i64 5, .int .i64 6, .int .i64 7, .int .i64 8, .int .i64 9, .int .i64 10, .int .i64 11, .int .i64 12]) (t := 3) ?_ rfl
        repeat (first | (refine blk_top ?_; (simp; done)) | refine blk_drewN ?_ | refine blk_old ?_)
      rintro e w1 ⟨rfl, m, rfl⟩
      rw [decide_eq_true rfl]
      go_wp2_with fail
      go_ret
      refine ⟨rfl, ?_⟩
      repeat (first | exact Below.refl _ _ | refine Below.drewN' ?_ _ | refine Below.alloc ?_ (by simp; try omega) _)
end Go.Proofs.Ytefkfglkpebbmaa
