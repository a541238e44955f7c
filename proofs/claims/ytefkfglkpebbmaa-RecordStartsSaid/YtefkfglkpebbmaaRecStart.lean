/- The walk of record.Start. -/
import Derived.Test.YtefkfglkpebbmaaRecWrite
import Derived.BigRegion
namespace Go.Proofs.Ytefkfglkpebbmaa
open Go.RowKit
set_option linter.unusedVariables false

set_option maxRecDepth 100000 in
set_option maxHeartbeats 1000000 in
theorem start_calls (r : Rec) (w : World) : Calls Try.prog 28 #[.agg (recA r)] w (RetB w (.tuple #[iv (recStart r).1, .agg (recA (recStart r).2.1), iv (recStart r).2.2])) := by
  go_enter Try.func28, Try.ntmps28
  go_wp2_with fail
  refine (recCheckA_calls r _).mono ?_
  rintro e w1 ⟨rfl, hb1⟩
  obtain ⟨r0, f0, n0, c0, z0, l0⟩ := keep1 (g := w.heap.size) (cs := recA r) hb1 (by go_simp) (by go_simp) (by go_simp)
  obtain ⟨r1, f1, n1, c1, z1, l1⟩ := keep1 (g := w.heap.size + 1) (cs := recA Rec.zero) hb1 (by go_simp) (by go_simp) (by go_simp)
  have HB := Lib.hid ((((Below.refl _ _).alloc (Nat.le_refl _) _).alloc (by simp) _).trans (hb1.mono (B' := w.heap.size) (by simp; omega)))
  have hs := HB.out.size
  clear hb1
  by_cases hz : recCheck r = 0
  · have hz' : (recCheck r != 0) = false := by simp [hz]
    have hrg := recCheck_range0 hz
    have hg1 := hrg.2.2.1
    have hg2 := hrg.2.2.2.1
    have hg3 := hrg.2.2.2.2.1
    have hg4 := hrg.2.2.2.2.2.1
    cases ht : r.trying
    · have hE : recStart r = (r.active, r, 0) := by unfold recStart; rw [if_pos hz, if_neg (by simp [ht])]
      have HE := Lib.hid hE
      clear hE hrg hz
      go_wp2_with fail
      go_region
      all_goals (
        go_wp2_with fail
        refine bodyPost_ret (results_tct rfl rfl (cs := recA r) (by go_simp) (by go_simp) (by go_simp)) rfl ⟨by rw [HE.out]; rfl, ?_⟩
        repeat (first | exact HB.out | refine below_row ?_ (by omega) _ | refine Below.setCell ?_ (by simp <;> omega) _ | refine Below.alloc ?_ (by simp <;> omega) _ | refine Below.drew ?_))
    · by_cases h0 : r.tries = 0
      · have hE : recStart r = (r.active, { r with trying := false }, 0) := by unfold recStart; rw [if_pos hz, if_pos ht, if_pos h0]
        have h0' : (r.tries == 0) = true := by simp [h0]
        have HE := Lib.hid hE
        clear hE hrg hz h0
        go_wp2_with fail
        go_region
        all_goals (
          go_wp2_with fail
          refine bodyPost_ret (results_tct rfl rfl (cs := recA { r with trying := false }) (by go_simp) (by go_simp) (by go_simp)) rfl ⟨by rw [HE.out]; rfl, ?_⟩
          repeat (first | exact HB.out | refine below_row ?_ (by omega) _ | refine Below.setCell ?_ (by simp <;> omega) _ | refine Below.alloc ?_ (by simp <;> omega) _ | refine Below.drew ?_))
      · have hE : recStart r = (1 - r.active, { r with tries := r.tries - 1 }, 0) := by unfold recStart; rw [if_pos hz, if_pos ht, if_neg h0]
        have h0' : (r.tries == 0) = false := by simp [h0]
        have HE := Lib.hid hE
        clear hE hrg hz h0
        go_wp2_with fail
        go_region
        all_goals (
          go_wp2_with fail
          refine bodyPost_ret (results_tct rfl rfl (cs := recA { r with tries := r.tries - 1 }) (by go_simp) (by go_simp) (by go_simp)) rfl ⟨by rw [HE.out]; rfl, ?_⟩
          repeat (first | exact HB.out | refine below_row ?_ (by omega) _ | refine Below.setCell ?_ (by simp <;> omega) _ | refine Below.alloc ?_ (by simp <;> omega) _ | refine Below.drew ?_))
  · have hz' : (recCheck r != 0) = true := by simp [hz]
    have hE : recStart r = (0, Rec.zero, recCheck r) := by unfold recStart; rw [if_neg hz]
    have HE := Lib.hid hE
    clear hE hz
    go_wp2_with fail
    all_goals (
      go_wp2_with fail
      refine bodyPost_ret (results_tct rfl rfl (cs := recA Rec.zero) (by go_simp) (by go_simp) (by go_simp)) rfl ⟨by rw [HE.out]; rfl, ?_⟩
      repeat (first | exact HB.out | refine below_row ?_ (by omega) _ | refine Below.setCell ?_ (by simp <;> omega) _ | refine Below.alloc ?_ (by simp <;> omega) _ | refine Below.drew ?_))
end Go.Proofs.Ytefkfglkpebbmaa
