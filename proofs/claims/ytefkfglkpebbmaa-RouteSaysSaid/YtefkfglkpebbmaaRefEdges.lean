/- The walk of the document's CheckEdges. No conditions. -/
import Derived.Test.YtefkfglkpebbmaaRouteCheck
import Derived.Test.YtefkfglkpebbmaaRefIn
namespace Go.Proofs.Ytefkfglkpebbmaa
open Go.RowKit
set_option linter.unusedVariables false
set_option linter.unusedSimpArgs false

set_option maxHeartbeats 2000000 in
theorem refEdges_calls (A : Option Addr) (c : Nat) (l : List Edg) (w : World) (hl : l.length ≤ 140737488351232) (hr : Eds w A l) :
    Calls Try.prog 40 #[.slice A l.length c] w (RetB w (iv (routeCheck l))) := by
  by_cases hm : 60 < l.length
  · have HR := Lib.hid (routeCheck_many hm)
    have h1 : (60 : Int) < (l.length : Int) := by omega
    clear hm
    go_enter Try.func40, Try.ntmps40
    go_wp2_with fail
    go_ret
    exact ⟨ret_int HR.out.symm, Below.refl _ _⟩
  · have h1 : ¬ (60 : Int) < (l.length : Int) := by omega
    have HM := Lib.hid hm
    have h2 : l.length ≤ 60 := by omega
    clear hm
    go_enter Try.func40, Try.ntmps40
    go_wp2_with fail
    go_loopw [10] (fun i wr => ∃ k : Nat, k ≤ l.length ∧ i = .int .i64 k ∧ Hid (∀ x ∈ l.take k, EdgOk x) ∧ Hid (Below w.heap.size w wr)) (fun i _ => l.length - (intOf i).toNat)
    case atStart => exact ⟨0, Nat.zero_le _, rfl, Lib.hid (by simp), Lib.hid (Below.refl _ _)⟩
    case round =>
      obtain ⟨k, hk, rfl, HT, HB⟩ := hrel
      by_cases hlt : k < l.length
      · obtain ⟨b, o, rfl, hs, hc0, hc1, hc2⟩ := hr.stays HB.out k hlt
        have HF := fun he => Lib.hid (routeCheck_bad HM.out hlt he)
        have HTK := Lib.hid (fun he : EdgOk l[k] => take_all HT.out hlt he)
        generalize l[k] = x at *
        obtain ⟨xf, xt, xc⟩ := x
        dsimp only at *
        by_cases p1 : 1 ≤ xf ∧ xf ≤ 30
        · by_cases p2 : 1 ≤ xt ∧ xt ≤ 30
          · by_cases p3 : 1 ≤ xc ∧ xc ≤ 1000
            · have HE := Lib.hid (HTK.out ⟨p1.1, p1.2, p2.1, p2.2, p3.1, p3.2⟩)
              have I1 := Lib.hid (fun w => refIn_t p1 w)
              have I2 := Lib.hid (fun w => refIn_t p2 w)
              have I3 := Lib.hid (fun w => refIn_t p3 w)
              clear HF HTK p1 p2 p3
              go_wp2_with fail
              refine (I1.out _).mono ?_
              rintro e1 w1 ⟨rfl, rfl⟩
              go_wp2_with fail
              refine (I2.out _).mono ?_
              rintro e1 w1 ⟨rfl, rfl⟩
              go_wp2_with fail
              refine (I3.out _).mono ?_
              rintro e1 w1 ⟨rfl, rfl⟩
              go_wp2_with fail
              go_roundw
              case rel => exact ⟨k + 1, by omega, by go_num, HE, Lib.hid (HB.out.alloc HB.out.size _)⟩
              case measure => simp [intOf] <;> omega
            · have HE := HF (fun h => by unfold EdgOk at h; exact p3 ⟨h.2.2.2.2.1, h.2.2.2.2.2⟩)
              have I1 := Lib.hid (fun w => refIn_t p1 w)
              have I2 := Lib.hid (fun w => refIn_t p2 w)
              have I3 := Lib.hid (fun w => refIn_f (n := xc) (a := 1) (b := 1000) (by omega) w)
              clear HF HTK p1 p2 p3
              go_wp2_with fail
              refine (I1.out _).mono ?_
              rintro e1 w1 ⟨rfl, rfl⟩
              go_wp2_with fail
              refine (I2.out _).mono ?_
              rintro e1 w1 ⟨rfl, rfl⟩
              go_wp2_with fail
              refine (I3.out _).mono ?_
              rintro e1 w1 ⟨rfl, rfl⟩
              go_wp2_with fail
              go_ret
              exact ⟨ret_int HE.out.symm, HB.out.alloc HB.out.size _⟩
          · have HE := HF (fun h => by unfold EdgOk at h; exact p2 ⟨h.2.2.1, h.2.2.2.1⟩)
            have I1 := Lib.hid (fun w => refIn_t p1 w)
            have I2 := Lib.hid (fun w => refIn_f (n := xt) (a := 1) (b := 30) (by omega) w)
            clear HF HTK p1 p2
            go_wp2_with fail
            refine (I1.out _).mono ?_
            rintro e1 w1 ⟨rfl, rfl⟩
            go_wp2_with fail
            refine (I2.out _).mono ?_
            rintro e1 w1 ⟨rfl, rfl⟩
            go_wp2_with fail
            go_ret
            exact ⟨ret_int HE.out.symm, HB.out.alloc HB.out.size _⟩
        · have HE := HF (fun h => by unfold EdgOk at h; exact p1 ⟨h.1, h.2.1⟩)
          have I1 := Lib.hid (fun w => refIn_f (n := xf) (a := 1) (b := 30) (by omega) w)
          clear HF HTK p1
          go_wp2_with fail
          refine (I1.out _).mono ?_
          rintro e1 w1 ⟨rfl, rfl⟩
          go_wp2_with fail
          go_ret
          exact ⟨ret_int HE.out.symm, HB.out.alloc HB.out.size _⟩
      · go_wp2_with fail
        go_ret
        refine ⟨ret_int (routeCheck_ok HM.out ?_).symm, HB.out⟩
        have h := HT.out
        rwa [List.take_of_length_le (by omega)] at h
end Go.Proofs.Ytefkfglkpebbmaa
