/- The walk of the document's CheckOps. No conditions. -/
import Derived.Test.YtefkfglkpebbmacQDeltaCheck
import Derived.Test.YtefkfglkpebbmacQRefIn
import Derived.IntWalk
namespace Go.Proofs.Ytefkfglkpebbmac
open Go.RowKit
set_option linter.unusedVariables false
set_option linter.unusedSimpArgs false

set_option maxRecDepth 100000 in
set_option maxHeartbeats 8000000 in
theorem refCheck_calls (A : Option Addr) (c : Nat) (l : List Stp) (old size : Int) (w : World) (hl : l.length ≤ 3518437208780) (hr : Sps w A l) :
    Calls Try.prog 20 #[.slice A l.length c, iv old, iv size] w (RetB w (iv (deltaCheck l old size))) := by
  by_cases hm : 40 < l.length ∨ old < 0 ∨ 64 < old ∨ size < 0 ∨ 64 < size
  · have HR := Lib.hid (dc_many hm)
    by_cases h1 : 40 < l.length
    · have h1' : (40 : Int) < (l.length : Int) := by omega
      clear hm h1
      go_enter Try.func20, Try.ntmps20
      go_wp2_with fail
      go_ret
      exact ⟨ret_int HR.out.symm, Below.refl _ _⟩
    have h1' : ¬ (40 : Int) < (l.length : Int) := by omega
    by_cases h2 : old < 0 ∨ 64 < old
    · have I1 := Lib.hid (fun w => refIn_f (a := 0) (b := 64) h2 w)
      clear hm h1 h2
      go_enter Try.func20, Try.ntmps20
      go_wp2_with fail
      refine (I1.out _).mono ?_
      rintro e9 w9 ⟨rfl, rfl⟩
      go_wp2_with fail
      go_ret
      exact ⟨ret_int HR.out.symm, Below.refl _ _⟩
    have I1 := Lib.hid (fun w => refIn_t (n := old) (a := 0) (b := 64) (by omega) w)
    have I2 := Lib.hid (fun w => refIn_f (n := size) (a := 0) (b := 64) (by omega) w)
    clear hm h1 h2
    go_enter Try.func20, Try.ntmps20
    go_wp2_with fail
    refine (I1.out _).mono ?_
    rintro e9 w9 ⟨rfl, rfl⟩
    go_wp2_with fail
    refine (I2.out _).mono ?_
    rintro e9 w9 ⟨rfl, rfl⟩
    go_wp2_with fail
    go_ret
    exact ⟨ret_int HR.out.symm, Below.refl _ _⟩
  · have HR := Lib.hid (dc_go hm)
    have h1 : ¬ (40 : Int) < (l.length : Int) := by omega
    have I1 := Lib.hid (fun w => refIn_t (n := old) (a := 0) (b := 64) (by omega) w)
    have I2 := Lib.hid (fun w => refIn_t (n := size) (a := 0) (b := 64) (by omega) w)
    have h2 : 0 ≤ old := by omega
    have h3 : old ≤ 64 := by omega
    have h4 : 0 ≤ size := by omega
    have h5 : size ≤ 64 := by omega
    have h6 : l.length ≤ 40 := by omega
    clear hm
    go_enter Try.func20, Try.ntmps20
    go_wp2_with fail
    refine (I1.out _).mono ?_
    rintro e9 w9 ⟨rfl, rfl⟩
    go_wp2_with fail
    refine (I2.out _).mono ?_
    rintro e9 w9 ⟨rfl, rfl⟩
    go_wp2_with fail
    go_loopw [26, 7] (fun i s wr => ∃ (k : Nat) (z : Int), k ≤ l.length ∧ i = .int .i64 k ∧ s = .int .i64 (size - z) ∧ 0 ≤ z ∧ z ≤ size ∧ Hid (ScAt old l size k z) ∧ Hid (Below w.heap.size w wr)) (fun i _ _ => l.length - (intOf i).toNat)
    case atStart => exact ⟨0, size, Nat.zero_le _, rfl, by simp, by omega, by omega, Lib.hid (by unfold ScAt; rw [List.drop_zero]), Lib.hid (Below.refl _ _)⟩
    case round =>
      obtain ⟨k, z, hk, rfl, rfl, hz0, hz1, HS, HB⟩ := hrel
      by_cases hlt : k < l.length
      · obtain ⟨b, o, B, cc, rfl, hs, hc0, hc1, hc2, hd1, hd2, -, hi0, hi1⟩ := (hr.stays HB.out).at_ hlt
        have HH := Lib.hid (HS.out.here hlt)
        have hsz := HB.out.size
        clear HS
        unfold I64 at hi0 hi1
        obtain ⟨i00, i01⟩ := hi0
        obtain ⟨i10, i11⟩ := hi1
        generalize hx : l[k] = x at *
        clear hx
        obtain ⟨at_, len, data⟩ := x
        dsimp only at *
        have hdl : 0 ≤ (data.length : Int) := by omega
        by_cases hf : (⟨at_, len, data⟩ : Stp).form
        · by_cases hin : (⟨at_, len, data⟩ : Stp).in_ old
          · have hn : (⟨at_, len, data⟩ : Stp).n = len + data.length := rfl
            have hin' := hin
            unfold Stp.in_ at hin'
            dsimp only at hin'
            obtain ⟨j1, j2, j3⟩ := hin'
            have hf' := hf
            unfold Stp.form at hf'
            dsimp only at hf'
            have t1 : ¬ len < 0 := by omega
            have t2 : ¬ at_ < 0 := by omega
            have t3 : ¬ 64 < len := by omega
            have t4 : ¬ 64 < at_ := by omega
            have t5 : ¬ old < at_ + len := by omega
            have w1 : IntKind.i64.wrap (at_ + len) = at_ + len := IntWalk.i64_in _ (by omega)
            by_cases hzn : z < len + data.length
            · have HE := Lib.hid (HH.out.symm.trans (sc_many hf hin (by rw [hn]; exact hzn)))
              clear hf hin hn HH
              by_cases e0 : len = 0
              · obtain ⟨rfl, e2, e3⟩ := hf'.1 e0
                subst e0
                have e4 : 1 ≤ data.length := by rcases data with _ | ⟨y, d⟩; exact absurd rfl e2; simp
                have I3 := Lib.hid (fun w => refIn_t (n := (data.length : Int)) (a := 1) (b := 64) (by omega) w)
                have w2 : IntKind.i64.wrap ((size - z) + (data.length : Int)) = (size - z) + (data.length : Int) := IntWalk.i64_in _ (by omega)
                have t6 : size < (size - z) + (data.length : Int) := by omega
                clear hf' e2 w1 t1 t2 t3 t4 t5
                go_wp2_with fail
                refine (I3.out _).mono ?_
                rintro e9 w9 ⟨rfl, rfl⟩
                go_wp2_with fail
                go_ret
                exact ⟨ret_int (by rw [HR.out, HE.out]), (HB.out.alloc hsz _)⟩
              · have e2 := hf'.2 e0
                subst e2
                have q1 : (len == 0) = false := by simp [e0]
                have q2 : (len != 0) = true := by simp [e0]
                clear hf' e0
                simp only [List.length_nil, Int.ofNat_eq_natCast, Int.natCast_zero, Int.add_zero] at *
                have w2 : IntKind.i64.wrap ((size - z) + len) = (size - z) + len := IntWalk.i64_in _ (by omega)
                have t6 : size < (size - z) + len := by omega
                go_wp2_with fail
                go_ret
                exact ⟨ret_int (by rw [HR.out, HE.out]), (HB.out.alloc hsz _)⟩
            · have HE := Lib.hid ((sc_on hf hin (by rw [hn]; exact hzn)).symm.trans HH.out)
              clear hf hin HH
              rw [hn] at HE
              clear hn
              by_cases e0 : len = 0
              · obtain ⟨rfl, e2, e3⟩ := hf'.1 e0
                subst e0
                have e4 : 1 ≤ data.length := by rcases data with _ | ⟨y, d⟩; exact absurd rfl e2; simp
                have I3 := Lib.hid (fun w => refIn_t (n := (data.length : Int)) (a := 1) (b := 64) (by omega) w)
                have w2 : IntKind.i64.wrap ((size - z) + (data.length : Int)) = (size - z) + (data.length : Int) := IntWalk.i64_in _ (by omega)
                have t6 : ¬ size < (size - z) + (data.length : Int) := by omega
                clear hf' e2 w1 t1 t2 t3 t4 t5
                go_wp2_with fail
                refine (I3.out _).mono ?_
                rintro e9 w9 ⟨rfl, rfl⟩
                go_wp2_with fail
                go_roundw
                case rel => exact ⟨k + 1, z - (0 + data.length), by omega, by go_num, by go_num, by omega, by omega, HE, Lib.hid (HB.out.alloc hsz _)⟩
                case measure => simp [intOf]; omega
              · have e2 := hf'.2 e0
                subst e2
                have q1 : (len == 0) = false := by simp [e0]
                have q2 : (len != 0) = true := by simp [e0]
                clear hf' e0
                have HE2 : Hid (ScAt old l size (k + 1) (z - len)) := by
                  have := HE.out
                  refine Lib.hid ?_
                  simpa [ScAt] using this
                clear HE
                simp only [List.length_nil, Int.ofNat_eq_natCast, Int.natCast_zero, Int.add_zero] at *
                have w2 : IntKind.i64.wrap ((size - z) + len) = (size - z) + len := IntWalk.i64_in _ (by omega)
                have t6 : ¬ size < (size - z) + len := by omega
                go_wp2_with fail
                go_roundw
                case rel => exact ⟨k + 1, z - len, by omega, by go_num, by go_num, by omega, by omega, HE2, Lib.hid (HB.out.alloc hsz _)⟩
                case measure => simp [intOf]; omega
          · have HE := Lib.hid (HH.out.symm.trans (sc_range hf hin))
            have hf' := hf
            unfold Stp.form at hf'
            dsimp only at hf'
            have hin' := hin
            unfold Stp.in_ at hin'
            dsimp only at hin'
            clear hf hin HH
            have e0 : len ≠ 0 := by
              intro e0
              obtain ⟨e1, _, _⟩ := hf'.1 e0
              omega
            have e2 := hf'.2 e0
            subst e2
            have q1 : (len == 0) = false := by simp [e0]
            have q2 : (len != 0) = true := by simp [e0]
            clear hf' e0
            simp only [List.length_nil, Int.ofNat_eq_natCast, Int.natCast_zero, Int.add_zero] at *
            have HI := Lib.hid hin'
            clear hin'
            by_cases r1 : len < 0
            · go_wp2_with fail
              go_ret
              exact ⟨ret_int (by rw [HR.out, HE.out]), (HB.out.alloc hsz _)⟩
            by_cases r2 : at_ < 0
            · go_wp2_with fail
              go_ret
              exact ⟨ret_int (by rw [HR.out, HE.out]), (HB.out.alloc hsz _)⟩
            by_cases r3 : 64 < len
            · go_wp2_with fail
              go_ret
              exact ⟨ret_int (by rw [HR.out, HE.out]), (HB.out.alloc hsz _)⟩
            by_cases r4 : 64 < at_
            · go_wp2_with fail
              go_ret
              exact ⟨ret_int (by rw [HR.out, HE.out]), (HB.out.alloc hsz _)⟩
            have w1 : IntKind.i64.wrap (at_ + len) = at_ + len := IntWalk.i64_in _ (by omega)
            have r5 : old < at_ + len := by have := HI.out; omega
            go_wp2_with fail
            go_ret
            exact ⟨ret_int (by rw [HR.out, HE.out]), (HB.out.alloc hsz _)⟩
        · have HE := Lib.hid (HH.out.symm.trans (sc_form hf))
          have hf' := hf
          unfold Stp.form at hf'
          dsimp only at hf'
          clear hf HH
          by_cases e0 : len = 0
          · subst e0
            by_cases e1 : at_ = 0
            · subst e1
              have I3 : Hid (∀ w, Calls Try.prog 91 #[iv (data.length : Int), iv 1, iv 64] w (Ret w (.bool false))) := Lib.hid (fun w => by
                by_cases e2 : data = []
                · subst e2; exact refIn_f (Or.inl (by decide)) w
                · refine refIn_f (Or.inr ?_) w
                  by_cases g : data.length ≤ 64
                  · exact absurd ⟨fun _ => ⟨rfl, e2, g⟩, fun h => absurd rfl h⟩ hf'
                  · omega)
              clear hf'
              go_wp2_with fail
              refine (I3.out _).mono ?_
              rintro e9 w9 ⟨rfl, rfl⟩
              go_wp2_with fail
              go_ret
              exact ⟨ret_int (by rw [HR.out, HE.out]), (HB.out.alloc hsz _)⟩
            · have q1 : (at_ != 0) = true := by simp [e1]
              clear hf' e1
              go_wp2_with fail
              go_ret
              exact ⟨ret_int (by rw [HR.out, HE.out]), (HB.out.alloc hsz _)⟩
          · have e2 : data ≠ [] := fun e => hf' ⟨fun h => absurd h e0, fun _ => e⟩
            have e4 : 1 ≤ data.length := by rcases data with _ | ⟨y, d⟩; exact absurd rfl e2; simp
            have q1 : (len == 0) = false := by simp [e0]
            have q2 : (len != 0) = true := by simp [e0]
            have q3 : ((data.length : Int) != 0) = true := by simp; omega
            clear hf' e0 e2
            go_wp2_with fail
            go_ret
            exact ⟨ret_int (by rw [HR.out, HE.out]), (HB.out.alloc hsz _)⟩
      · obtain rfl : k = l.length := by omega
        have HE : Hid (stepsCheck old l size = if z = 0 then 0 else 3) := by
          have := HS.out
          unfold ScAt at this
          rw [List.drop_length] at this
          rw [← this]; rfl
        clear HS
        by_cases e : z = 0
        · have HF := Lib.hid (HE.out.trans (if_pos e))
          subst e
          go_wp2_with fail
          go_ret
          exact ⟨ret_int (by rw [HR.out, HF.out]), HB.out⟩
        · have HF := Lib.hid (HE.out.trans (if_neg e))
          have q : size - z < size := by omega
          clear e
          go_wp2_with fail
          go_ret
          exact ⟨ret_int (by rw [HR.out, HF.out]), HB.out⟩
end Go.Proofs.Ytefkfglkpebbmac
