/- The walk of route.Check. -/
import Derived.Test.YtefkfglkpebbmaaEdges
namespace Go.Proofs.Ytefkfglkpebbmaa
open Go.RowKit
set_option linter.unusedVariables false

theorem routeCheck_many {l : List Edg} (h : 60 < l.length) : routeCheck l = 1 := by unfold routeCheck; rw [if_pos h]
theorem routeCheck_bad {l : List Edg} (h : ¬ 60 < l.length) {k : Nat} (hk : k < l.length) (hb : ¬ EdgOk l[k]) : routeCheck l = 2 := by
  unfold routeCheck; rw [if_neg h, if_neg (fun g => hb (g _ (List.getElem_mem hk)))]
theorem routeCheck_ok {l : List Edg} (h : ¬ 60 < l.length) (hb : ∀ x ∈ l, EdgOk x) : routeCheck l = 0 := by unfold routeCheck; rw [if_neg h, if_pos hb]
theorem routeCheck_zero {l : List Edg} (h : routeCheck l = 0) : l.length ≤ 60 ∧ ∀ x ∈ l, EdgOk x := by
  unfold routeCheck at h
  by_cases h1 : 60 < l.length
  · rw [if_pos h1] at h; omega
  · rw [if_neg h1] at h
    by_cases h2 : ∀ x ∈ l, EdgOk x
    · exact ⟨by omega, h2⟩
    · rw [if_neg h2] at h; omega
theorem take_all {α : Type} {p : α → Prop} {l : List α} {k : Nat} (h : ∀ x ∈ l.take k, p x) (hk : k < l.length) (hx : p l[k]) : ∀ x ∈ l.take (k + 1), p x := by
  intro x hm
  rw [List.take_succ_eq_append_getElem hk] at hm
  rcases List.mem_append.1 hm with hm | hm
  · exact h x hm
  · simp only [List.mem_singleton] at hm; subst hm; exact hx

set_option maxHeartbeats 1000000 in
theorem routeCheck_calls (A : Option Addr) (c : Nat) (l : List Edg) (w : World) (hl : l.length ≤ 140737488351232) (hr : Eds w A l) :
    Calls Try.prog 42 #[.slice A l.length c] w (RetB w (iv (routeCheck l))) := by
  by_cases hm : 60 < l.length
  · have HR := Lib.hid (routeCheck_many hm)
    have h1 : (60 : Int) < (l.length : Int) := by omega
    clear hm
    go_enter Try.func42, Try.ntmps42
    go_wp2
    go_ret
    exact ⟨ret_int HR.out.symm, Below.refl _ _⟩
  · have h1 : ¬ (60 : Int) < (l.length : Int) := by omega
    have HM := Lib.hid hm
    have h2 : l.length ≤ 60 := by omega
    clear hm
    go_enter Try.func42, Try.ntmps42
    go_wp2
    go_loopw [10] (fun i wr => ∃ k : Nat, k ≤ l.length ∧ i = .int .i64 k ∧ Hid (∀ x ∈ l.take k, EdgOk x) ∧ Hid (Below w.heap.size w wr)) (fun i _ => l.length - (intOf i).toNat)
    case atStart => exact ⟨0, Nat.zero_le _, rfl, Lib.hid (by simp), Lib.hid (Below.refl _ _)⟩
    case round =>
      obtain ⟨k, hk, rfl, HT, HB⟩ := hrel
      by_cases hlt : k < l.length
      · obtain ⟨b, o, rfl, hs, hc0, hc1, hc2⟩ := hr.stays HB.out k hlt
        by_cases he : EdgOk l[k]
        · have HE := Lib.hid he
          unfold EdgOk at he
          generalize hx : l[k] = x at he hc0 hc1 hc2
          have HX := Lib.hid hx
          clear hx
          obtain ⟨e1, e2, e3, e4, e5, e6⟩ := he
          have n1 : ¬ x.f < 1 := by omega
          have n2 : ¬ 30 < x.f := by omega
          have n3 : ¬ x.t < 1 := by omega
          have n4 : ¬ 30 < x.t := by omega
          have n5 : ¬ x.c < 1 := by omega
          have n6 : ¬ 1000 < x.c := by omega
          go_wp2_with fail
          go_roundw
          case rel => exact ⟨k + 1, by omega, by go_num, Lib.hid (take_all HT.out hlt HE.out), Lib.hid (HB.out.alloc HB.out.size _)⟩
          case measure => simp [intOf] <;> omega
        · have HF := Lib.hid (routeCheck_bad HM.out hlt he)
          have HE := Lib.hid he
          clear he
          generalize hx : l[k] = x at HE hc0 hc1 hc2
          clear hx
          go_wp2_with fail
          all_goals first | (go_ret; exact ⟨ret_int HF.out.symm, HB.out.alloc HB.out.size _⟩) | (exfalso; have h := HE.out; unfold EdgOk at h; omega)
      · go_wp2_with fail
        go_ret
        refine ⟨ret_int (routeCheck_ok HM.out ?_).symm, HB.out⟩
        have h := HT.out
        rwa [List.take_of_length_le (by omega)] at h
end Go.Proofs.Ytefkfglkpebbmaa
