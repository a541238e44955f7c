/- The document's answer on records: Newest, Started, Confirmed. -/
import Derived.Test.YtefkfglkpebbmaaRecRefC
namespace Go.Proofs.Ytefkfglkpebbmaa
open Go.RowKit
set_option linter.unusedVariables false

def genOf (c : Cop) : Int := if c.ok = true then c.r.gen else 0
def refNewest (c d : Cop) : Rec × Int := if genOf c < genOf d then (d.r, 1) else (c.r, 0)
theorem refNewest_ok {c d : Cop} (h : copCheck c d = 0) : refNewest c d = recRead c d := by
  obtain ⟨h1, h2, h3⟩ := copCheck_ok h
  unfold refNewest recRead newer genOf
  cases hc : c.ok
  · cases hd : d.ok
    · exact absurd ⟨hc, hd⟩ h3
    · rw [copOne_ok hd] at h2
      have := (recCheck_range0 h2).1
      simp; omega
  · cases hd : d.ok
    · rw [copOne_ok hc] at h1
      have := (recCheck_range0 h1).1
      simp; omega
    · simp

set_option maxRecDepth 100000 in
set_option maxHeartbeats 8000000 in
theorem gen0_calls (c d : Cop) (g : Nat) (w : World) (hr : rowOf w g = copsA c d) : Calls Try.prog 54 #[.int .i64 0, .pointer (some ⟨g, 0, none⟩)] w (Ret w (iv (genOf c))) := by
  have hp : 0 < (rowOf w g).size := by rw [hr, copsA_size]; decide
  have hc : ∀ j, w.cell? ⟨g, j, none⟩ = (copsA c d)[j]? := fun j => by rw [cell_row hp, hr]
  have hl := row_lt hp
  clear hp
  go_enter Try.func54, Try.ntmps54
  cases hok : c.ok
  · have HE : Hid (genOf c = 0) := Lib.hid (by unfold genOf; rw [hok]; rfl)
    go_wp2_with fail
    go_ret
    exact ⟨ret_int HE.out.symm, rfl⟩
  · have HE : Hid (genOf c = c.r.gen) := Lib.hid (by unfold genOf; rw [hok]; rfl)
    go_wp2_with fail
    go_ret
    exact ⟨ret_int HE.out.symm, rfl⟩
set_option maxRecDepth 100000 in
set_option maxHeartbeats 8000000 in
theorem gen1_calls (c d : Cop) (g : Nat) (w : World) (hr : rowOf w g = copsA c d) : Calls Try.prog 54 #[.int .i64 1, .pointer (some ⟨g, 0, none⟩)] w (Ret w (iv (genOf d))) := by
  have hp : 0 < (rowOf w g).size := by rw [hr, copsA_size]; decide
  have hc : ∀ j, w.cell? ⟨g, j, none⟩ = (copsA c d)[j]? := fun j => by rw [cell_row hp, hr]
  have hl := row_lt hp
  clear hp
  go_enter Try.func54, Try.ntmps54
  cases hok : d.ok
  · have HE : Hid (genOf d = 0) := Lib.hid (by unfold genOf; rw [hok]; rfl)
    go_wp2_with fail
    go_ret
    exact ⟨ret_int HE.out.symm, rfl⟩
  · have HE : Hid (genOf d = d.r.gen) := Lib.hid (by unfold genOf; rw [hok]; rfl)
    go_wp2_with fail
    go_ret
    exact ⟨ret_int HE.out.symm, rfl⟩

set_option maxRecDepth 100000 in
set_option maxHeartbeats 8000000 in
theorem newest_calls (c d : Cop) (w : World) : Calls Try.prog 35 #[.agg (copsA c d)] w (RetB w (.tuple #[.agg (recA (refNewest c d).1), iv (refNewest c d).2])) := by
  go_enter Try.func35, Try.ntmps35
  go_wp2_with fail
  refine (gen1_calls c d _ _ (by go_simp)).mono ?_
  rintro e w1 ⟨rfl, rfl⟩
  go_wp2_with fail
  refine (gen0_calls c d _ _ (by go_simp)).mono ?_
  rintro e w2 ⟨rfl, rfl⟩
  by_cases h : genOf c < genOf d
  · have HE : Hid (refNewest c d = (d.r, 1)) := Lib.hid (if_pos h)
    have hB := ((Below.refl w.heap.size w).alloc (Nat.le_refl _) (.cells (copsA c d) 47)).alloc (by simp) (.cells (recA d.r) 44)
    have HB := Lib.hid hB
    clear hB
    go_wp2_with fail
    refine bodyPost_ret (results_ct rfl rfl (cs := recA d.r) (by go_simp) (by go_simp) (by go_simp)) rfl ⟨by rw [HE.out]; rfl, HB.out⟩
  · have HE : Hid (refNewest c d = (c.r, 0)) := Lib.hid (if_neg h)
    have hB := ((Below.refl w.heap.size w).alloc (Nat.le_refl _) (.cells (copsA c d) 47)).alloc (by simp) (.cells (recA c.r) 44)
    have HB := Lib.hid hB
    clear hB
    go_wp2_with fail
    refine bodyPost_ret (results_ct rfl rfl (cs := recA c.r) (by go_simp) (by go_simp) (by go_simp)) rfl ⟨by rw [HE.out]; rfl, HB.out⟩

/-- Started, of a right record. -/
def refStart (r : Rec) : Int × Rec :=
  if r.trying = true ∧ 0 < r.tries then (1 - r.active, { r with tries := r.tries - 1 }) else (r.active, { r with trying := false })
theorem refStart_ok {r : Rec} (h : recCheck r = 0) : recStart r = ((refStart r).1, (refStart r).2, 0) := by
  have hr := (recCheck_range0 h).2.2.2.2.1
  unfold recStart refStart
  rw [if_pos h]
  cases ht : r.trying
  · simp
    cases r; simp_all
  · by_cases h0 : r.tries = 0
    · simp [h0]
    · simp [h0, show 0 < r.tries by omega]

set_option maxRecDepth 100000 in
set_option maxHeartbeats 8000000 in
theorem started_calls (r : Rec) (w : World) (ha : 0 ≤ r.active ∧ r.active ≤ 1) (ht : 0 ≤ r.tries ∧ r.tries ≤ 3) : Calls Try.prog 37 #[.agg (recA r)] w (RetB w (.tuple #[iv (refStart r).1, .agg (recA (refStart r).2)])) := by
  obtain ⟨ha1, ha2⟩ := ha
  obtain ⟨ht1, ht2⟩ := ht
  go_enter Try.func37, Try.ntmps37
  have HB := Lib.hid (((Below.refl w.heap.size w).alloc (Nat.le_refl _) (.cells (recA r) 44)).alloc (by simp) (.cells (recA Rec.zero) 44))
  cases hy : r.trying
  · have HE : Hid (refStart r = (r.active, { r with trying := false })) := Lib.hid (by unfold refStart; rw [if_neg (by simp [hy])])
    go_wp2_with fail
    go_region
    all_goals go_wp2_with fail
    all_goals (
      refine bodyPost_ret (results_tc rfl rfl (cs := recA { r with trying := false }) (by go_simp) (by go_simp) (by go_simp)) rfl ⟨by rw [HE.out]; rfl, ?_⟩
      repeat (first | exact Below.refl _ _ | refine below_row ?_ (by omega) _ | refine Below.setCell ?_ (by simp <;> omega) _ | refine Below.alloc ?_ (by simp <;> omega) _ | refine Below.drew ?_))
  · by_cases h0 : 0 < r.tries
    · have HE : Hid (refStart r = (1 - r.active, { r with tries := r.tries - 1 })) := Lib.hid (by unfold refStart; rw [if_pos ⟨hy, h0⟩])
      go_wp2_with fail
      go_region
      all_goals go_wp2_with fail
      all_goals (
        refine bodyPost_ret (results_tc rfl rfl (cs := recA { r with tries := r.tries - 1 }) (by go_simp) (by go_simp) (by go_simp)) rfl ⟨by rw [HE.out]; rfl, ?_⟩
        repeat (first | exact Below.refl _ _ | refine below_row ?_ (by omega) _ | refine Below.setCell ?_ (by simp <;> omega) _ | refine Below.alloc ?_ (by simp <;> omega) _ | refine Below.drew ?_))
    · have HE : Hid (refStart r = (r.active, { r with trying := false })) := Lib.hid (by unfold refStart; rw [if_neg (by simp [h0])])
      go_wp2_with fail
      go_region
      all_goals go_wp2_with fail
      all_goals (
        refine bodyPost_ret (results_tc rfl rfl (cs := recA { r with trying := false }) (by go_simp) (by go_simp) (by go_simp)) rfl ⟨by rw [HE.out]; rfl, ?_⟩
        repeat (first | exact Below.refl _ _ | refine below_row ?_ (by omega) _ | refine Below.setCell ?_ (by simp <;> omega) _ | refine Below.alloc ?_ (by simp <;> omega) _ | refine Below.drew ?_))
end Go.Proofs.Ytefkfglkpebbmaa
