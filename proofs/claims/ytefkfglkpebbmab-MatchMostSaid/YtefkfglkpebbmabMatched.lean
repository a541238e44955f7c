/- The walk of the laws' closed fact on matches. -/
import Derived.Test.YtefkfglkpebbmabMatch
namespace Go.Proofs.Ytefkfglkpebbmab
open Go.RowKit
set_option linter.unusedVariables false

set_option maxRecDepth 100000 in
theorem matched_calls (w : World) : Calls Try.prog 32 #[] w (RetB w (.bool true)) := by
  have e1 : longest [120, 97, 98, 99, 97, 98] [122, 97, 98, 100] 1 = (1, 2) := by decide
  have e2 : longest [120] [121] 0 = (0, 0) := by decide
  have h1 := fun A B c d w => longest_calls A B c d [120, 97, 98, 99, 97, 98] [122, 97, 98, 100] w 1 (by decide) (by decide) (by decide)
  have h2 := fun A B c d w => longest_calls A B c d [120] [121] w 0 (by decide) (by decide) (by decide)
  rw [e1] at h1
  rw [e2] at h2
  have H1 := Lib.hid h1
  have H2 := Lib.hid h2
  clear h1 h2 e1 e2
  have kc := convert_const (P := Try.prog) 22 5 Try.underlying22 Try.underlying5
  go_enter Try.func32, Try.ntmps32
  go_wp2_with fail
  refine (H1.out _ _ _ _ _ ?_ ?_).mono ?_
  · refine bts_ex ⟨?_, ?_, ?_, ?_, ?_⟩
    rotate_left 3
    · repeat (first | (refine blk_top ?_; (simp; done)) | refine blk_drewN ?_ | refine blk_old ?_)
    · rfl
  · refine bts_ex ⟨?_, ?_, ?_, ?_, ?_⟩
    rotate_left 3
    · repeat (first | (refine blk_top ?_; (simp; done)) | refine blk_drewN ?_ | refine blk_old ?_)
    · rfl
  rintro e w1 ⟨rfl, n, rfl⟩
  go_wp2_with fail
  refine (H2.out _ _ _ _ _ ?_ ?_).mono ?_
  · refine bts_ex ⟨?_, ?_, ?_, ?_, ?_⟩
    rotate_left 3
    · repeat (first | (refine blk_top ?_; (simp; done)) | refine blk_drewN ?_ | refine blk_old ?_)
    · rfl
  · refine bts_ex ⟨?_, ?_, ?_, ?_, ?_⟩
    rotate_left 3
    · repeat (first | (refine blk_top ?_; (simp; done)) | refine blk_drewN ?_ | refine blk_old ?_)
    · rfl
  rintro e w1 ⟨rfl, m, rfl⟩
  go_wp2_with fail
  refine (longest_who _ _ _ _ [] [] _ 1 (by decide) (by decide) (by decide)).mono ?_
  rintro e w1 ⟨rfl, rfl⟩
  go_wp2_with fail
  go_ret
  refine ⟨rfl, ?_⟩
  repeat (first | exact Below.refl _ _ | refine Below.drewN' ?_ _ | refine Below.alloc ?_ (by simp; try omega) _)
end Go.Proofs.Ytefkfglkpebbmab
