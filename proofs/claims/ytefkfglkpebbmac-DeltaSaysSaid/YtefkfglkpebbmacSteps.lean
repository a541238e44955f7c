/- The laws' steps for closed facts. No conditions. -/
import Derived.Test.YtefkfglkpebbmacDiffOwn
namespace Go.Proofs.Ytefkfglkpebbmac
open Go.RowKit
set_option linter.unusedVariables false

def stepsL : List Stp := [⟨0, 0, [120]⟩, ⟨4, 4, []⟩, ⟨0, 4, []⟩]
/-- It returns steps. -/
def OpsRet (w : World) (l : List Stp) : Ending → World → Prop := fun en w' =>
  ∃ A c, en = .returned (.slice A l.length c) ∧ Sps w' A l ∧ l.length ≤ c ∧ Below w.heap.size w w'
set_option maxRecDepth 100000 in
theorem steps_calls (w : World) : Calls Try.prog 90 #[] w (OpsRet w stepsL) := by
  have kc := convert_const (P := Try.prog) 22 5 Try.underlying22 Try.underlying5
  go_enter Try.func90, Try.ntmps90
  go_wp2_with fail
  have hb : Below w.heap.size w ((w.alloc (.cells #[.int .u8 120] 5 (1, 2))).alloc (.cells #[.int .i64 0, .int .i64 0, .slice (some ⟨w.heap.size, 0, none⟩) 1 1, .int .i64 4, .int .i64 4, .slice none 0 0, .int .i64 0, .int .i64 4, .slice none 0 0] 117)) :=
    ((Below.refl _ _).alloc (Nat.le_refl _) _).alloc (by simp) _
  refine bodyPost_ret (results_tmp rfl _ _ _) rfl ⟨_, _, rfl, ?_, Nat.le_refl _, hb⟩
  refine sps_blk (blk_top (by simp)) [(some ⟨w.heap.size, 0, none⟩, 1), (none, 0), (none, 0)] rfl rfl ?_
  intro i o d ho hd
  match i with
  | 0 =>
    simp [stepsL] at ho hd
    subst ho hd
    exact ⟨bts_ex ⟨_, _, _, blk_old (blk_top rfl), rfl⟩, by simp, by simp, by simp [I64], by simp [I64]⟩
  | 1 =>
    simp [stepsL] at ho hd
    subst ho hd
    exact ⟨Bts.nil _ _, by simp, by simp, by simp [I64], by simp [I64]⟩
  | 2 =>
    simp [stepsL] at ho hd
    subst ho hd
    exact ⟨Bts.nil _ _, by simp, by simp, by simp [I64], by simp [I64]⟩
  | i + 3 => simp [stepsL] at ho
end Go.Proofs.Ytefkfglkpebbmac
