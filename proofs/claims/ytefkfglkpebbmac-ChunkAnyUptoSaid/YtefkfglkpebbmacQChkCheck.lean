/- The walks of chunk.Check and chunk.kin. Printed by gen_chkcheck.py. No conditions. -/
import Derived.Test.YtefkfglkpebbmacQChkRows
namespace Go.Proofs.Ytefkfglkpebbmac
open Go.RowKit
set_option linter.unusedVariables false
set_option linter.unusedSimpArgs false

theorem chkCheck_bad {x : Chk} (h : ¬ x.range) : chkCheck x = 2 := by unfold chkCheck; rw [if_pos h]
theorem chkCheck_form {x : Chk} (h : x.range) (g : ¬ x.full) : chkCheck x = 3 := by unfold chkCheck; rw [if_neg (by simpa using h), if_pos g]
theorem chkCheck_fine {x : Chk} (h : x.range) (g : x.full) : chkCheck x = 0 := chkCheck_ok.2 ⟨h, g⟩
theorem full_len {f t n o : Int} {l : List UInt8} : Chk.full ⟨f, t, n, o, l⟩ ↔ l.length ≠ 0 ∧ l.length ≤ 16 ∧ (n < o - 1 → l.length = 16) := by
  unfold Chk.full
  dsimp only
  rw [← List.length_pos_iff]
  constructor <;> (intro h; refine ⟨by omega, h.2.1, h.2.2⟩)
set_option maxRecDepth 100000 in
set_option maxHeartbeats 8000000 in
theorem chkCheck_calls (A : Option Addr) (c : Nat) (f t n o : Int) (l : List UInt8) (w : World) (hn : I64 n) (ho : I64 o) :
    Calls Try.prog 47 #[.agg (chkA f t n o A l.length c)] w (RetB w (iv (chkCheck ⟨f, t, n, o, l⟩))) := by
  obtain ⟨hn1, hn2⟩ := hn
  obtain ⟨ho1, ho2⟩ := ho
  have hb : Below w.heap.size w (w.alloc (.cells (chkA f t n o A l.length c) 49)) := (Below.refl _ _).alloc (Nat.le_refl _) _
  have HB := Lib.hid hb
  clear hb
  by_cases h0 : f < (1 : Int)
  · have hz := Lib.hid (chkCheck_bad (x := ⟨f, t, n, o, l⟩) (by unfold Chk.range; dsimp only; omega))
    go_enter Try.func47, Try.ntmps47
    go_wp2_with fail
    go_ret
    exact ⟨ret_int hz.out.symm, HB.out⟩
  by_cases h1 : (30 : Int) < f
  · have hz := Lib.hid (chkCheck_bad (x := ⟨f, t, n, o, l⟩) (by unfold Chk.range; dsimp only; omega))
    go_enter Try.func47, Try.ntmps47
    go_wp2_with fail
    go_ret
    exact ⟨ret_int hz.out.symm, HB.out⟩
  by_cases h2 : t < (1 : Int)
  · have hz := Lib.hid (chkCheck_bad (x := ⟨f, t, n, o, l⟩) (by unfold Chk.range; dsimp only; omega))
    go_enter Try.func47, Try.ntmps47
    go_wp2_with fail
    go_ret
    exact ⟨ret_int hz.out.symm, HB.out⟩
  by_cases h3 : (30 : Int) < t
  · have hz := Lib.hid (chkCheck_bad (x := ⟨f, t, n, o, l⟩) (by unfold Chk.range; dsimp only; omega))
    go_enter Try.func47, Try.ntmps47
    go_wp2_with fail
    go_ret
    exact ⟨ret_int hz.out.symm, HB.out⟩
  by_cases h4 : o < (1 : Int)
  · have hz := Lib.hid (chkCheck_bad (x := ⟨f, t, n, o, l⟩) (by unfold Chk.range; dsimp only; omega))
    go_enter Try.func47, Try.ntmps47
    go_wp2_with fail
    go_ret
    exact ⟨ret_int hz.out.symm, HB.out⟩
  by_cases h5 : (52 : Int) < o
  · have hz := Lib.hid (chkCheck_bad (x := ⟨f, t, n, o, l⟩) (by unfold Chk.range; dsimp only; omega))
    go_enter Try.func47, Try.ntmps47
    go_wp2_with fail
    go_ret
    exact ⟨ret_int hz.out.symm, HB.out⟩
  by_cases h6 : n < (0 : Int)
  · have hz := Lib.hid (chkCheck_bad (x := ⟨f, t, n, o, l⟩) (by unfold Chk.range; dsimp only; omega))
    go_enter Try.func47, Try.ntmps47
    go_wp2_with fail
    go_ret
    exact ⟨ret_int hz.out.symm, HB.out⟩
  by_cases h7 : o ≤ n
  · have hz := Lib.hid (chkCheck_bad (x := ⟨f, t, n, o, l⟩) (by unfold Chk.range; dsimp only; omega))
    go_enter Try.func47, Try.ntmps47
    go_wp2_with fail
    go_ret
    exact ⟨ret_int hz.out.symm, HB.out⟩
  have hr : Chk.range ⟨f, t, n, o, l⟩ := by unfold Chk.range; dsimp only; omega
  have HR := Lib.hid hr
  clear hr
  have hw : IntKind.i64.wrap (o - 1) = o - 1 := IntWalk.i64_in _ (by omega)
  by_cases g0 : l.length = 0
  · have hz := Lib.hid (chkCheck_form HR.out (fun e => (full_len.1 e).1 g0))
    have q : ((l.length : Int) == 0) = true := by simp [g0]
    clear g0
    go_enter Try.func47, Try.ntmps47
    go_wp2_with fail
    go_ret
    exact ⟨ret_int hz.out.symm, HB.out⟩
  have q0 : ((l.length : Int) == 0) = false := beq_eq_false_iff_ne.2 (by omega)
  by_cases g1 : (16 : Int) < (l.length : Int)
  · have hz := Lib.hid (chkCheck_form HR.out (fun e => by have := (full_len.1 e).2.1; omega))
    clear g0
    go_enter Try.func47, Try.ntmps47
    go_wp2_with fail
    go_ret
    exact ⟨ret_int hz.out.symm, HB.out⟩
  by_cases g2 : n < o - 1
  · by_cases g3 : l.length = 16
    · have q1 : ((l.length : Int) != 16) = false := by simp [g3]
      have hz := Lib.hid (chkCheck_fine HR.out (full_len.2 ⟨by omega, by omega, fun _ => g3⟩))
      clear g0 g3
      go_enter Try.func47, Try.ntmps47
      go_wp2_with fail
      go_ret
      exact ⟨ret_int hz.out.symm, HB.out⟩
    · have q1 : ((l.length : Int) != 16) = true := bne_iff_ne.2 (by omega)
      have hz := Lib.hid (chkCheck_form HR.out (fun e => g3 ((full_len.1 e).2.2 g2)))
      clear g0 g3
      go_enter Try.func47, Try.ntmps47
      go_wp2_with fail
      go_ret
      exact ⟨ret_int hz.out.symm, HB.out⟩
  · have hz := Lib.hid (chkCheck_fine HR.out (full_len.2 ⟨by omega, by omega, fun h => absurd h g2⟩))
    clear g0
    go_enter Try.func47, Try.ntmps47
    go_wp2_with fail
    go_ret
    exact ⟨ret_int hz.out.symm, HB.out⟩
set_option maxRecDepth 100000 in
set_option maxHeartbeats 8000000 in
theorem kin_calls (A B : Option Addr) (c d k m : Nat) (f t n o f2 t2 n2 o2 : Int) (l r : List UInt8) (w : World) :
    Calls Try.prog 102 #[.agg (chkA f t n o A k c), .agg (chkA f2 t2 n2 o2 B m d)] w (RetB w (.bool (decide (kin ⟨f, t, n, o, l⟩ ⟨f2, t2, n2, o2, r⟩)))) := by
  have hb : Below w.heap.size w ((w.alloc (.cells (chkA f t n o A k c) 49)).alloc (.cells (chkA f2 t2 n2 o2 B m d) 49)) := ((Below.refl _ _).alloc (Nat.le_refl _) _).alloc (by simp) _
  have HB := Lib.hid hb
  clear hb
  by_cases h0 : ¬ f = f2
  · have hz : decide (kin ⟨f, t, n, o, l⟩ ⟨f2, t2, n2, o2, r⟩) = false := decide_eq_false (by unfold kin; dsimp only; omega)
    have HZ := Lib.hid hz
    have q : (f == f2) = false := by simp [h0]
    clear hz h0
    go_enter Try.func102, Try.ntmps102
    go_wp2_with fail
    go_ret
    exact ⟨ret_bool HZ.out.symm, HB.out⟩
  have h0 := Decidable.not_not.1 h0
  subst h0
  have q0 : (f == f) = true := by simp
  by_cases h1 : ¬ t = t2
  · have hz : decide (kin ⟨f, t, n, o, l⟩ ⟨f, t2, n2, o2, r⟩) = false := decide_eq_false (by unfold kin; dsimp only; omega)
    have HZ := Lib.hid hz
    have q : (t == t2) = false := by simp [h1]
    clear hz h1
    go_enter Try.func102, Try.ntmps102
    go_wp2_with fail
    go_ret
    exact ⟨ret_bool HZ.out.symm, HB.out⟩
  have h1 := Decidable.not_not.1 h1
  subst h1
  have q1 : (t == t) = true := by simp
  by_cases h2 : ¬ o = o2
  · have hz : decide (kin ⟨f, t, n, o, l⟩ ⟨f, t, n2, o2, r⟩) = false := decide_eq_false (by unfold kin; dsimp only; omega)
    have HZ := Lib.hid hz
    have q : (o == o2) = false := by simp [h2]
    clear hz h2
    go_enter Try.func102, Try.ntmps102
    go_wp2_with fail
    go_ret
    exact ⟨ret_bool HZ.out.symm, HB.out⟩
  have h2 := Decidable.not_not.1 h2
  subst h2
  have q2 : (o == o) = true := by simp
  have hz : decide (kin ⟨f, t, n, o, l⟩ ⟨f, t, n2, o, r⟩) = true := decide_eq_true ⟨rfl, rfl, rfl⟩
  have HZ := Lib.hid hz
  clear hz
  go_enter Try.func102, Try.ntmps102
  go_wp2_with fail
  go_ret
  exact ⟨ret_bool HZ.out.symm, HB.out⟩
end Go.Proofs.Ytefkfglkpebbmac
