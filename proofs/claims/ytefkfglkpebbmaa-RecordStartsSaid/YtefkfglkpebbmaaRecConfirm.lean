/- The walk of record.Confirm. -/
import Derived.Test.YtefkfglkpebbmaaRecStart
namespace Go.Proofs.Ytefkfglkpebbmaa
open Go.RowKit
set_option linter.unusedVariables false

set_option maxRecDepth 100000 in
set_option maxHeartbeats 8000000 in
theorem confirm_calls (r : Rec) (w : World) : Calls Try.prog 29 #[.agg (recA r)] w (RetB w (.tuple #[.agg (recA (recConfirm r).1), iv (recConfirm r).2])) := by
  go_enter Try.func29, Try.ntmps29
  go_wp2_with fail
  refine (recCheckA_calls r _).mono ?_
  rintro e w1 ⟨rfl, hb1⟩
  obtain ⟨r0, f0, n0, c0, z0, l0⟩ := keep1 (g := w.heap.size) (cs := recA r) hb1 (by go_simp) (by go_simp) (by go_simp)
  obtain ⟨r1, f1, n1, c1, z1, l1⟩ := keep1 (g := w.heap.size + 1) (cs := recA Rec.zero) hb1 (by go_simp) (by go_simp) (by go_simp)
  have HB := Lib.hid ((((Below.refl _ _).alloc (Nat.le_refl _) _).alloc (by simp) _).trans (hb1.mono (B' := w.heap.size) (by simp; omega)))
  have hs := HB.out.size
  clear hb1
  by_cases hz : recCheck r = 0
  · have hz' : (recCheck r != 0) = false := by simp [hz]
    have hrg := recCheck_range0 hz
    have hg1 := hrg.2.2.1
    have hg2 := hrg.2.2.2.1
    have hg3 := hrg.2.2.2.2.1
    have hg4 := hrg.2.2.2.2.2.1
    have hg5 := hrg.2.2.2.2.2.2.1
    have hg6 := hrg.2.2.2.2.2.2.2
    cases ht : r.trying
    · have hE : recConfirm r = (Rec.zero, 5) := by unfold recConfirm; rw [if_pos hz, if_neg (by simp [ht])]
      have HE := Lib.hid hE
      clear hE hrg hz
      go_wp2_with fail
      refine bodyPost_ret (results_ct rfl rfl (cs := recA Rec.zero) (by go_simp) (by go_simp) (by go_simp)) rfl ⟨by rw [HE.out]; rfl, ?_⟩
      repeat (first | exact HB.out | refine below_row ?_ (by omega) _ | refine Below.setCell ?_ (by simp <;> omega) _ | refine Below.alloc ?_ (by simp <;> omega) _ | refine Below.drew ?_)
    · have hE : recConfirm r = (recDone r, 0) := by unfold recConfirm; rw [if_pos hz, if_pos ht]
      have hk : r.active = 0 ∨ r.active = 1 := by omega
      clear hrg hz
      rcases hk with hk | hk
      · have HE := Lib.hid (hE.trans (show _ = ((⟨r.gen, 1, false, 0, max r.floor r.b.ver, r.a, r.b⟩ : Rec), (0 : Int)) by unfold recDone Rec.at_; simp [hk]))
        clear hE
        go_wp2_with fail
        go_region
        all_goals go_wp2_with fail
        all_goals (
          refine bodyPost_ret (results_ct rfl rfl (cs := recA ⟨r.gen, 1, false, 0, max r.floor r.b.ver, r.a, r.b⟩) (by first | (go_simp; done) | (go_simp; refine congrArg (fun z => recA ⟨_, _, _, _, z, _, _⟩) ?_ <;> omega)) (by go_simp) (by go_simp)) rfl ⟨by rw [HE.out]; rfl, ?_⟩
          repeat (first | exact HB.out | refine below_row ?_ (by omega) _ | refine Below.setCell ?_ (by simp <;> omega) _ | refine Below.alloc ?_ (by simp <;> omega) _ | refine Below.drew ?_))
      · have HE := Lib.hid (hE.trans (show _ = ((⟨r.gen, 0, false, 0, max r.floor r.a.ver, r.a, r.b⟩ : Rec), (0 : Int)) by unfold recDone Rec.at_; simp [hk]))
        clear hE
        go_wp2_with fail
        go_region
        all_goals go_wp2_with fail
        all_goals (
          refine bodyPost_ret (results_ct rfl rfl (cs := recA ⟨r.gen, 0, false, 0, max r.floor r.a.ver, r.a, r.b⟩) (by first | (go_simp; done) | (go_simp; refine congrArg (fun z => recA ⟨_, _, _, _, z, _, _⟩) ?_ <;> omega)) (by go_simp) (by go_simp)) rfl ⟨by rw [HE.out]; rfl, ?_⟩
          repeat (first | exact HB.out | refine below_row ?_ (by omega) _ | refine Below.setCell ?_ (by simp <;> omega) _ | refine Below.alloc ?_ (by simp <;> omega) _ | refine Below.drew ?_))
  · have hz' : (recCheck r != 0) = true := by simp [hz]
    have hE : recConfirm r = (Rec.zero, recCheck r) := by unfold recConfirm; rw [if_neg hz]
    have HE := Lib.hid hE
    clear hE hz
    go_wp2_with fail
    refine bodyPost_ret (results_ct rfl rfl (cs := recA Rec.zero) (by go_simp) (by go_simp) (by go_simp)) rfl ⟨by rw [HE.out]; rfl, ?_⟩
    repeat (first | exact HB.out | refine below_row ?_ (by omega) _ | refine Below.setCell ?_ (by simp <;> omega) _ | refine Below.alloc ?_ (by simp <;> omega) _ | refine Below.drew ?_)
end Go.Proofs.Ytefkfglkpebbmaa
