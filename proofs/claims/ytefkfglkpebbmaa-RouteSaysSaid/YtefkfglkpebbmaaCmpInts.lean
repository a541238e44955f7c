/- The walks of the library's cmp.Compare and slices.Compare, over ints. -/
import Derived.Test.YtefkfglkpebbmaaBase
import Derived.Test.YtefkfglkpebbmaaRouteMath
namespace Go.Proofs.Ytefkfglkpebbmaa
open Go.RowKit
set_option linter.unusedVariables false

def cmpI (x y : Int) : Int := if x < y then -1 else if y < x then 1 else 0
def cmpL : List Int → List Int → Int
  | [], [] => 0
  | [], _ :: _ => -1
  | _ :: _, [] => 1
  | x :: a, y :: b => if cmpI x y ≠ 0 then cmpI x y else cmpL a b
theorem cmpL_prefix : ∀ (p a b : List Int), cmpL (p ++ a) (p ++ b) = cmpL a b
  | [], _, _ => rfl
  | x :: p, a, b => by
    show (if cmpI x x ≠ 0 then _ else cmpL (p ++ a) (p ++ b)) = _
    have : cmpI x x = 0 := by unfold cmpI; simp
    rw [if_neg (by simp [this]), cmpL_prefix p a b]
theorem cmpL_lt : ∀ (a b : List Int), decide (cmpL a b < 0) = lexLt a b
  | [], [] => rfl
  | [], _ :: _ => rfl
  | _ :: _, [] => rfl
  | x :: a, y :: b => by
    unfold cmpL lexLt cmpI
    by_cases h : x < y
    · simp [h]
    · by_cases h2 : y < x
      · simp [h, h2]
      · simp only [h, h2, if_false]
        rw [if_neg (by simp)]
        exact cmpL_lt a b
theorem cmpL_parts (l m : List Int) (k : Nat) (h : l.take k = m.take k) : cmpL l m = cmpL (l.drop k) (m.drop k) := by
  have e := cmpL_prefix (l.take k) (l.drop k) (m.drop k)
  rw [List.take_append_drop] at e
  rw [h, List.take_append_drop] at e
  exact e

theorem cmpInt_calls (x y : Int) (w : World) : Calls Try.prog 63 #[iv x, iv y] w (Ret w (iv (cmpI x y))) := by
  have hx : (x != x) = false := by simp
  have hy : (y != y) = false := by simp
  by_cases h : x < y
  · have e : Hid (cmpI x y = -1) := by unfold Hid cmpI; rw [if_pos h]
    go_enter Try.func63, Try.ntmps63
    go_wp2
    all_goals (go_ret; exact ⟨ret_int e.out.symm, rfl⟩)
  · by_cases h2 : y < x
    · have e : Hid (cmpI x y = 1) := by unfold Hid cmpI; rw [if_neg h, if_pos h2]
      go_enter Try.func63, Try.ntmps63
      go_wp2
      all_goals (go_ret; exact ⟨ret_int e.out.symm, rfl⟩)
    · have e : Hid (cmpI x y = 0) := by unfold Hid cmpI; rw [if_neg h, if_neg h2]
      go_enter Try.func63, Try.ntmps63
      go_wp2
      all_goals (go_ret; exact ⟨ret_int e.out.symm, rfl⟩)

theorem cmpInts_calls (A B : Option Addr) (c d : Nat) (l m : List Int) (w : World) (hl : l.length ≤ 140737488351232) (hm : m.length ≤ 140737488351232) (ha : Nts w A l) (hb : Nts w B m) :
    Calls Try.prog 59 #[.slice A l.length c, .slice B m.length d] w (Ret w (iv (cmpL l m))) := by
  go_enter Try.func59, Try.ntmps59
  go_wp2_with fail
  go_loop [11] (fun i => ∃ k : Nat, k ≤ l.length ∧ k ≤ m.length ∧ i = .int .i64 k ∧ Hid (l.take k = m.take k)) (fun i => l.length - (intOf i).toNat)
  case atStart => exact ⟨0, Nat.zero_le _, Nat.zero_le _, rfl, Lib.hid rfl⟩
  case round =>
    obtain ⟨k, hk, hk2, rfl, HT⟩ := hrel
    have HP := Lib.hid (cmpL_parts l m k HT.out)
    by_cases hlt : k < l.length
    · obtain ⟨b1, o1, rfl, hs1, hc1⟩ := ha k hlt
      by_cases hlm : k < m.length
      · obtain ⟨b2, o2, rfl, hs2, hc2⟩ := hb k hlm
        have H1 : Hid (cmpL l m = if cmpI l[k] m[k] ≠ 0 then cmpI l[k] m[k] else cmpL (l.drop (k + 1)) (m.drop (k + 1))) := by
          unfold Hid; rw [HP.out, List.drop_eq_getElem_cons hlt, List.drop_eq_getElem_cons hlm]; rfl
        have hne : ¬ ((m.length : Int) ≤ (k : Int)) := by omega
        by_cases he : cmpI l[k] m[k] = 0
        · have hq : Hid (l[k] = m[k]) := by unfold Hid; unfold cmpI at he; split at he <;> (try split at he) <;> omega
          have HC := fun w => cmpInt_calls l[k] m[k] w
          rw [he] at HC
          have HC := Lib.hid HC
          clear he
          go_wp2_with fail
          refine (HC.out _).mono ?_
          rintro e w1 ⟨rfl, rfl⟩
          go_wp2_with fail
          go_round
          case rel => exact ⟨k + 1, by omega, by omega, by go_num, Lib.hid (take_eq_succ HT.out hlt hlm hq.out)⟩
          case measure => simp [intOf] <;> omega
        · have HC := fun w => cmpInt_calls l[k] m[k] w
          have H2 : Hid (cmpL l m = cmpI l[k] m[k]) := by unfold Hid; rw [H1.out, if_pos he]
          have hd : (cmpI l[k] m[k] != 0) = true := by simp [he]
          generalize cmpI l[k] m[k] = n at HC H2 hd he
          have HC := Lib.hid HC
          clear he H1
          go_wp2_with fail
          refine (HC.out _).mono ?_
          rintro e w1 ⟨rfl, rfl⟩
          go_wp2_with fail
          go_ret
          exact ⟨ret_int H2.out.symm, rfl⟩
      · have hne : (m.length : Int) ≤ (k : Int) := by omega
        have H2 : Hid (cmpL l m = 1) := by
          have hdm : m.drop k = [] := List.drop_eq_nil_of_le (by omega)
          unfold Hid; rw [HP.out, List.drop_eq_getElem_cons hlt, hdm]; rfl
        go_wp2_with fail
        go_ret
        exact ⟨ret_int H2.out.symm, rfl⟩
    · have hd : l.drop k = [] := List.drop_eq_nil_of_le (by omega)
      by_cases hlm : l.length < m.length
      · have h3 : (l.length : Int) < (m.length : Int) := by omega
        have H2 : Hid (cmpL l m = -1) := by
          unfold Hid; rw [HP.out, hd, List.drop_eq_getElem_cons (show k < m.length by omega)]; rfl
        clear hd
        go_wp2_with fail
        go_ret
        exact ⟨ret_int H2.out.symm, rfl⟩
      · have h3 : ¬ (l.length : Int) < (m.length : Int) := by omega
        have H2 : Hid (cmpL l m = 0) := by
          unfold Hid; rw [HP.out, hd, show m.drop k = [] from List.drop_eq_nil_of_le (by omega)]; rfl
        clear hd
        go_wp2_with fail
        go_ret
        exact ⟨ret_int H2.out.symm, rfl⟩
end Go.Proofs.Ytefkfglkpebbmaa
