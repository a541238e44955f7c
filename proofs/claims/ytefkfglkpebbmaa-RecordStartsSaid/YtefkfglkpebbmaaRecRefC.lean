/- The document's answer on records: CheckCopies. -/
import Derived.Test.YtefkfglkpebbmaaRecRef
namespace Go.Proofs.Ytefkfglkpebbmaa
open Go.RowKit
set_option linter.unusedVariables false

/-- How many of the first k copies are whole. -/
def wholes (c d : Cop) (k : Nat) : Int := (if 0 < k ∧ c.ok = true then 1 else 0) + (if 1 < k ∧ d.ok = true then 1 else 0)
theorem wholes_bound (c d : Cop) (k : Nat) : 0 ≤ wholes c d k ∧ wholes c d k ≤ 2 := by unfold wholes; split <;> split <;> omega
theorem wholes_0 (c d : Cop) : wholes c d 0 = 0 := by simp [wholes]
theorem wholes_1t (c d : Cop) (h : c.ok = true) : wholes c d 1 = wholes c d 0 + 1 := by simp [wholes, h]
theorem wholes_1f (c d : Cop) (h : c.ok = false) : wholes c d 1 = wholes c d 0 := by simp [wholes, h]
theorem wholes_2t (c d : Cop) (h : d.ok = true) : wholes c d 2 = wholes c d 1 + 1 := by simp [wholes, h]
theorem wholes_2f (c d : Cop) (h : d.ok = false) : wholes c d 2 = wholes c d 1 := by simp [wholes, h]
theorem wholes_z (c d : Cop) : wholes c d 2 = 0 ↔ (c.ok = false ∧ d.ok = false) := by cases hc : c.ok <;> cases hd : d.ok <;> simp [wholes, hc, hd]

set_option maxRecDepth 100000 in
set_option maxHeartbeats 8000000 in
theorem refCopies_calls (c d : Cop) (w : World) : Calls Try.prog 31 #[.agg (copsA c d)] w (RetB w (iv (copCheck c d))) := by
  have i0 : ∀ w, (Instr.index 47 (.agg (copsA c d)) (.int .i64 0)).run Try.prog w = .ok (.agg (copA c)) w := fun _ => by kernel_rfl
  have i1 : ∀ w, (Instr.index 47 (.agg (copsA c d)) (.int .i64 1)).run Try.prog w = .ok (.agg (copA d)) w := fun _ => by kernel_rfl
  go_enter Try.func31, Try.ntmps31
  go_wp2_with fail
  go_loopw [8, 3] (fun i n wr => ∃ k : Nat, k ≤ 2 ∧ i = .int .i64 k ∧ n = .int .i64 (wholes c d k) ∧ Below w.heap.size w wr ∧ rowOf wr w.heap.size = copsA c d ∧ (0 < k → copOne c = 0) ∧ (1 < k → copOne d = 0)) (fun i _ _ => (2 - intOf i).toNat)
  case atStart => exact ⟨0, by omega, rfl, by rw [wholes_0], (Below.refl _ _).alloc (Nat.le_refl _) _, by rw [rowOf_alloc, if_pos rfl], by omega, by omega⟩
  case round =>
    obtain ⟨k, hk, rfl, rfl, hB, hrow, ha, hb⟩ := hrel
    have HB := Lib.hid hB
    have HR := Lib.hid hrow
    have hp : 0 < (rowOf wr w.heap.size).size := by rw [hrow, copsA_size]; decide
    have hlw := row_lt hp
    have hs := hB.size
    have hfr : True := trivial
    clear hrow hB
    obtain ⟨m, hm⟩ : ∃ m, wholes c d k = m := ⟨_, rfl⟩
    have hm1 : 0 ≤ m := by rw [← hm]; exact (wholes_bound c d k).1
    have hm2 : m ≤ 2 := by rw [← hm]; exact (wholes_bound c d k).2
    have HM := Lib.hid hm
    rw [hm]
    clear hm
    by_cases hlt : k < 2
    · rcases (show k = 0 ∨ k = 1 by omega) with rfl | rfl
      · have _u := ha
        clear _u ha hb hp
        go_wp2_with fail
        refine (refRecCheck_calls c.r _).mono ?_
        rintro e w1 ⟨rfl, hb1⟩
        have hB1 := (HB.out.alloc HB.out.size (.cells (copA c) 46)).trans (hb1.mono (by simp; omega))
        have hrow1 : rowOf w1 w.heap.size = copsA c d := by rw [rowOf_below (by simp; omega) hb1, rowOf_alloc, if_neg (by omega), HR.out]
        obtain ⟨r0, f0, n0, c0, z0, l0⟩ := keep1 (g := wr.heap.size) (cs := copA c) hb1 (by go_simp) (by go_simp) (by go_simp)
        have HB1 := Lib.hid hB1
        have HR1 := Lib.hid hrow1
        clear hb1 hB1 hrow1
        cases hok : c.ok
        · by_cases hz : c.r = Rec.zero
          · have HO := Lib.hid (copOne_lost0 hok hz)
            have hd : decide (c.r = Rec.zero) = true := decide_eq_true hz
            clear hz
            go_wp2_with fail
            go_roundw
            case rel => exact ⟨1, by omega, rfl, by rw [wholes_1f c d hok, HM.out], HB1.out, HR1.out, fun _ => HO.out, by omega⟩
            case measure => simp [intOf] <;> omega
          · have HE := Lib.hid (copCheck_1 (d := d) (copOne_lost3 hok hz) (by omega))
            have hd : decide (c.r = Rec.zero) = false := decide_eq_false hz
            clear hz
            go_wp2_with fail
            go_ret
            exact ⟨ret_int HE.out.symm, HB1.out⟩
        · have HO1 := Lib.hid (copOne_ok hok)
          by_cases hz : recCheck c.r = 0
          · have HO := Lib.hid (HO1.out.trans hz)
            have hz' : (recCheck c.r != 0) = false := by simp [hz]
            clear hz
            go_wp2_with fail
            go_roundw
            case rel => exact ⟨1, by omega, rfl, by rw [wholes_1t c d hok, HM.out], HB1.out, HR1.out, fun _ => HO.out, by omega⟩
            case measure => simp [intOf] <;> omega
          · have HE := Lib.hid (copCheck_1 (d := d) HO1.out hz)
            have hz' : (recCheck c.r != 0) = true := by simp [hz]
            clear hz
            go_wp2_with fail
            go_ret
            exact ⟨ret_int HE.out.symm, HB1.out⟩
      · have HA := Lib.hid (ha (by omega))
        clear ha hb hp
        go_wp2_with fail
        refine (refRecCheck_calls d.r _).mono ?_
        rintro e w1 ⟨rfl, hb1⟩
        have hB1 := (HB.out.alloc HB.out.size (.cells (copA d) 46)).trans (hb1.mono (by simp; omega))
        have hrow1 : rowOf w1 w.heap.size = copsA c d := by rw [rowOf_below (by simp; omega) hb1, rowOf_alloc, if_neg (by omega), HR.out]
        obtain ⟨r0, f0, n0, c0, z0, l0⟩ := keep1 (g := wr.heap.size) (cs := copA d) hb1 (by go_simp) (by go_simp) (by go_simp)
        have HB1 := Lib.hid hB1
        have HR1 := Lib.hid hrow1
        clear hb1 hB1 hrow1
        cases hok : d.ok
        · by_cases hz : d.r = Rec.zero
          · have HO := Lib.hid (copOne_lost0 hok hz)
            have hd : decide (d.r = Rec.zero) = true := decide_eq_true hz
            clear hz
            go_wp2_with fail
            go_roundw
            case rel => exact ⟨2, by omega, rfl, by rw [wholes_2f c d hok, HM.out], HB1.out, HR1.out, fun _ => HA.out, fun _ => HO.out⟩
            case measure => simp [intOf] <;> omega
          · have HE := Lib.hid (copCheck_2 HA.out (copOne_lost3 hok hz) (by omega))
            have hd : decide (d.r = Rec.zero) = false := decide_eq_false hz
            clear hz
            go_wp2_with fail
            go_ret
            exact ⟨ret_int HE.out.symm, HB1.out⟩
        · have HO1 := Lib.hid (copOne_ok hok)
          by_cases hz : recCheck d.r = 0
          · have HO := Lib.hid (HO1.out.trans hz)
            have hz' : (recCheck d.r != 0) = false := by simp [hz]
            clear hz
            go_wp2_with fail
            go_roundw
            case rel => exact ⟨2, by omega, rfl, by rw [wholes_2t c d hok, HM.out], HB1.out, HR1.out, fun _ => HA.out, fun _ => HO.out⟩
            case measure => simp [intOf] <;> omega
          · have HE := Lib.hid (copCheck_2 HA.out HO1.out hz)
            have hz' : (recCheck d.r != 0) = true := by simp [hz]
            clear hz
            go_wp2_with fail
            go_ret
            exact ⟨ret_int HE.out.symm, HB1.out⟩
    · obtain rfl : k = 2 := by omega
      have HF := Lib.hid (copCheck_3 (ha (by omega)) (hb (by omega)))
      clear ha hb hp
      by_cases h0 : m = 0
      · have HE := Lib.hid (HF.out.trans (if_pos ((wholes_z c d).1 (HM.out.trans h0))))
        have h0' : (m == 0) = true := by simp [h0]
        clear h0
        go_wp2_with fail
        go_ret
        exact ⟨ret_int HE.out.symm, HB.out⟩
      · have HE := Lib.hid (HF.out.trans (if_neg (fun q => h0 (HM.out.symm.trans ((wholes_z c d).2 q)))))
        have h0' : (m == 0) = false := by simp [h0]
        clear h0
        go_wp2_with fail
        go_ret
        exact ⟨ret_int HE.out.symm, HB.out⟩
end Go.Proofs.Ytefkfglkpebbmaa
