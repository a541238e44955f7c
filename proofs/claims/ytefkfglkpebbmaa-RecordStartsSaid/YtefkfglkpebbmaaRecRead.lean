/- The walk of record.Read. -/
import Derived.Test.YtefkfglkpebbmaaRecCopies
import Derived.Test.YtefkfglkpebbmaaRecDefs
namespace Go.Proofs.Ytefkfglkpebbmaa
open Go.RowKit
set_option linter.unusedVariables false

set_option maxRecDepth 100000 in
set_option maxHeartbeats 1000000 in
theorem read_bad (c d : Cop) (w : World) (h : copCheck c d ≠ 0) : Calls Try.prog 26 #[.agg (copsA c d)] w (RetB w (.tuple #[.agg (recA Rec.zero), iv 0, iv (copCheck c d)])) := by
  have hb : (copCheck c d != 0) = true := by simp [h]
  clear h
  go_enter Try.func26, Try.ntmps26
  go_wp2_with fail
  refine (copies_calls c d _).mono ?_
  rintro e w1 ⟨rfl, hb1⟩
  obtain ⟨kr, kf, kn, kc, kz⟩ := keepB hb1 (n := w.heap.size + 1 + 1) (by simp)
  have HB := Lib.hid ((((Below.refl _ _).alloc (Nat.le_refl _) _).alloc (by simp) _).trans (hb1.mono (B' := w.heap.size) (by simp; omega)))
  clear hb1
  go_wp2_with fail
  refine bodyPost_ret (results_ctt rfl rfl (cs := recA Rec.zero) (by go_simp) (by go_simp) (by go_simp)) rfl ⟨rfl, below_row HB.out (by omega) _⟩

set_option maxRecDepth 100000 in
set_option maxHeartbeats 1000000 in
theorem read_ok (c d : Cop) (w : World) (h : copCheck c d = 0) : Calls Try.prog 26 #[.agg (copsA c d)] w (RetB w (.tuple #[.agg (recA (recRead c d).1), iv (recRead c d).2, iv 0])) := by
  have hb : (copCheck c d != 0) = false := by simp [h]
  clear h
  go_enter Try.func26, Try.ntmps26
  go_wp2_with fail
  refine (copies_calls c d _).mono ?_
  rintro e w1 ⟨rfl, hb1⟩
  obtain ⟨kr, kf, kn, kc, kz⟩ := keepB hb1 (n := w.heap.size + 1 + 1) (by simp)
  have HB := Lib.hid ((((Below.refl _ _).alloc (Nat.le_refl _) _).alloc (by simp) _).trans (hb1.mono (B' := w.heap.size) (by simp; omega)))
  clear hb1
  cases hc : c.ok
  · have hE : recRead c d = (d.r, 1) := by unfold recRead newer; rw [hc]; rfl
    have HE := Lib.hid hE
    clear hE
    go_wp2_with fail
    refine bodyPost_ret (results_ctt rfl rfl (cs := recA d.r) (by go_simp) (by go_simp) (by go_simp)) rfl ⟨by rw [HE.out]; rfl, ?_⟩
    exact below_row HB.out (Nat.le_succ _) _
  · cases hd : d.ok
    · have hE : recRead c d = (c.r, 0) := by unfold recRead newer; rw [hc, hd]; rfl
      have HE := Lib.hid hE
      clear hE
      go_wp2_with fail
      refine bodyPost_ret (results_ctt rfl rfl (cs := recA c.r) (by go_simp) (by go_simp) (by go_simp)) rfl ⟨by rw [HE.out]; rfl, ?_⟩
      exact below_row HB.out (Nat.le_succ _) _
    · by_cases hg : c.r.gen < d.r.gen
      · have hE : recRead c d = (d.r, 1) := by unfold recRead newer; rw [hc, hd, decide_eq_true hg]; rfl
        have HE := Lib.hid hE
        clear hE
        go_wp2_with fail
        refine bodyPost_ret (results_ctt rfl rfl (cs := recA d.r) (by go_simp) (by go_simp) (by go_simp)) rfl ⟨by rw [HE.out]; rfl, ?_⟩
        exact below_row HB.out (Nat.le_succ _) _
      · have hE : recRead c d = (c.r, 0) := by unfold recRead newer; rw [hc, hd, decide_eq_false hg]; rfl
        have HE := Lib.hid hE
        clear hE
        go_wp2_with fail
        refine bodyPost_ret (results_ctt rfl rfl (cs := recA c.r) (by go_simp) (by go_simp) (by go_simp)) rfl ⟨by rw [HE.out]; rfl, ?_⟩
        exact below_row HB.out (Nat.le_succ _) _
end Go.Proofs.Ytefkfglkpebbmaa
