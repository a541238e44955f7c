/- The walks of record.Copies and record.Read. -/
import Derived.Test.YtefkfglkpebbmaaRecCheck
import Derived.Test.YtefkfglkpebbmaaRecEq
namespace Go.Proofs.Ytefkfglkpebbmaa
open Go.RowKit
set_option linter.unusedVariables false

theorem recCheckA_calls (r : Rec) (w : World) : Calls Try.prog 33 #[.agg (recA r)] w (RetB w (iv (recCheck r))) :=
  recCheck_calls r.gen r.active r.trying r.tries r.floor r.a.ver r.a.size r.a.sum r.b.ver r.b.size r.b.sum w

set_option maxRecDepth 100000 in
set_option maxHeartbeats 1000000 in
theorem copies_calls (c d : Cop) (w : World) : Calls Try.prog 34 #[.agg (copsA c d)] w (RetB w (iv (copCheck c d))) := by
  have i0 : ∀ w, (Instr.index 47 (.agg (copsA c d)) (.int .i64 0)).run Try.prog w = .ok (.agg (copA c)) w := fun _ => by kernel_rfl
  have i1 : ∀ w, (Instr.index 47 (.agg (copsA c d)) (.int .i64 1)).run Try.prog w = .ok (.agg (copA d)) w := fun _ => by kernel_rfl
  go_enter Try.func34, Try.ntmps34
  go_wp2_with fail
  go_loopw [7] (fun i wr => ∃ k : Nat, k ≤ 2 ∧ i = .int .i64 k ∧ Below w.heap.size w wr ∧ rowOf wr w.heap.size = copsA c d ∧ (0 < k → copOne c = 0) ∧ (1 < k → copOne d = 0)) (fun i _ => (2 - intOf i).toNat)
  case atStart => exact ⟨0, by omega, rfl, (Below.refl _ _).alloc (Nat.le_refl _) _, by rw [rowOf_alloc, if_pos rfl], by omega, by omega⟩
  case round =>
    obtain ⟨k, hk, rfl, hB, hrow, ha, hb⟩ := hrel
    have HR := Lib.hid hrow
    clear hrow
    by_cases hlt : k < 2
    · rcases (show k = 0 ∨ k = 1 by omega) with rfl | rfl
      · clear ha hb
        cases hok : c.ok
        · by_cases hz : c.r = Rec.zero
          · have HO := Lib.hid (copOne_lost0 hok hz)
            have hd : decide (c.r = Rec.zero) = true := decide_eq_true hz
            have HK := Lib.hid hok
            have hok' : (c.ok == true) = false := by simp [hok]
            clear hz
            go_wp2_with fail
            go_roundw
            case rel => exact ⟨1, by omega, rfl, hB.alloc hB.size _, by rw [rowOf_alloc, if_neg (by have := row_lt (w := wr) (g := w.heap.size) (by rw [HR.out]; simp [copsA]); omega), HR.out], fun _ => HO.out, by omega⟩
            case measure => simp [intOf] <;> omega
          · have HO := Lib.hid (copCheck_1 (d := d) (copOne_lost3 hok hz) (by omega))
            have hd : decide (c.r = Rec.zero) = false := decide_eq_false hz
            clear hz
            go_wp2_with fail
            go_ret
            exact ⟨ret_int HO.out.symm, hB.alloc hB.size _⟩
        · have HO1 := Lib.hid (copOne_ok hok)
          go_wp2_with fail
          refine (recCheckA_calls c.r _).mono ?_
          rintro e w1 ⟨rfl, hb1⟩
          have hB1 := (hB.alloc hB.size (.cells (copA c) 46)).trans (hb1.mono (by simp; exact Nat.le_succ_of_le hB.size))
          have hrow1 : rowOf w1 w.heap.size = copsA c d := by rw [rowOf_below (by simp; have := row_lt (w := wr) (g := w.heap.size) (by rw [HR.out]; simp [copsA]); omega) hb1, rowOf_alloc, if_neg (by have := row_lt (w := wr) (g := w.heap.size) (by rw [HR.out]; simp [copsA]); omega), HR.out]
          by_cases hz : recCheck c.r = 0
          · have HO := Lib.hid (HO1.out.trans hz)
            have hz' : (recCheck c.r != 0) = false := by simp [hz]
            have HW := Lib.hid hrow1
            clear hz hrow1 hb1
            go_wp2_with fail
            go_roundw
            case rel => exact ⟨1, by omega, rfl, hB1, HW.out, fun _ => HO.out, by omega⟩
            case measure => simp [intOf] <;> omega
          · have HO := Lib.hid (copCheck_1 (d := d) HO1.out hz)
            have hz' : (recCheck c.r != 0) = true := by simp [hz]
            clear hz hrow1 hb1
            go_wp2_with fail
            go_ret
            exact ⟨ret_int HO.out.symm, hB1⟩
      · have HA := Lib.hid (ha (by omega))
        clear ha hb
        cases hok : d.ok
        · by_cases hz : d.r = Rec.zero
          · have HO := Lib.hid (copOne_lost0 hok hz)
            have hd : decide (d.r = Rec.zero) = true := decide_eq_true hz
            have HK := Lib.hid hok
            have hok' : (d.ok == true) = false := by simp [hok]
            clear hz
            go_wp2_with fail
            go_roundw
            case rel => exact ⟨2, by omega, rfl, hB.alloc hB.size _, by rw [rowOf_alloc, if_neg (by have := row_lt (w := wr) (g := w.heap.size) (by rw [HR.out]; simp [copsA]); omega), HR.out], fun _ => HA.out, fun _ => HO.out⟩
            case measure => simp [intOf] <;> omega
          · have HO := Lib.hid (copCheck_2 HA.out (copOne_lost3 hok hz) (by omega))
            have hd : decide (d.r = Rec.zero) = false := decide_eq_false hz
            clear hz
            go_wp2_with fail
            go_ret
            exact ⟨ret_int HO.out.symm, hB.alloc hB.size _⟩
        · have HO1 := Lib.hid (copOne_ok hok)
          go_wp2_with fail
          refine (recCheckA_calls d.r _).mono ?_
          rintro e w1 ⟨rfl, hb1⟩
          have hB1 := (hB.alloc hB.size (.cells (copA d) 46)).trans (hb1.mono (by simp; exact Nat.le_succ_of_le hB.size))
          have hrow1 : rowOf w1 w.heap.size = copsA c d := by rw [rowOf_below (by simp; have := row_lt (w := wr) (g := w.heap.size) (by rw [HR.out]; simp [copsA]); omega) hb1, rowOf_alloc, if_neg (by have := row_lt (w := wr) (g := w.heap.size) (by rw [HR.out]; simp [copsA]); omega), HR.out]
          by_cases hz : recCheck d.r = 0
          · have HO := Lib.hid (HO1.out.trans hz)
            have hz' : (recCheck d.r != 0) = false := by simp [hz]
            have HW := Lib.hid hrow1
            clear hz hrow1 hb1
            go_wp2_with fail
            go_roundw
            case rel => exact ⟨2, by omega, rfl, hB1, HW.out, fun _ => HA.out, fun _ => HO.out⟩
            case measure => simp [intOf] <;> omega
          · have HO := Lib.hid (copCheck_2 HA.out HO1.out hz)
            have hz' : (recCheck d.r != 0) = true := by simp [hz]
            clear hz hrow1 hb1
            go_wp2_with fail
            go_ret
            exact ⟨ret_int HO.out.symm, hB1⟩
    · obtain rfl : k = 2 := by omega
      have hp : 0 < (rowOf wr w.heap.size).size := by rw [HR.out]; simp [copsA]
      have c1 := cell_row hp 0
      have c2 := cell_row hp 12
      rw [HR.out] at c1 c2
      rw [copsA_get0] at c1
      rw [copsA_get12] at c2
      have HF := Lib.hid (copCheck_3 (ha (by omega)) (hb (by omega)))
      clear ha hb hp
      cases hc : c.ok
      · cases hd : d.ok
        · have HE : Hid (copCheck c d = 7) := by rw [hc, hd] at HF; exact HF
          go_wp2_with fail
          go_ret
          exact ⟨ret_int HE.out.symm, hB⟩
        · have HE : Hid (copCheck c d = 0) := by rw [hc, hd] at HF; exact HF
          go_wp2_with fail
          go_ret
          exact ⟨ret_int HE.out.symm, hB⟩
      · have HE : Hid (copCheck c d = 0) := by rw [hc] at HF; exact HF
        go_wp2_with fail
        go_ret
        exact ⟨ret_int HE.out.symm, hB⟩
end Go.Proofs.Ytefkfglkpebbmaa
