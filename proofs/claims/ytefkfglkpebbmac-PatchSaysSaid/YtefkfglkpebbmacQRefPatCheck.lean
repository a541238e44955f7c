/- The walk of the document's CheckPatch. Printed by gen_patcheck.py. No conditions. -/
import Derived.Test.YtefkfglkpebbmacQPatCheck
import Derived.Test.YtefkfglkpebbmacQRefCheck
namespace Go.Proofs.Ytefkfglkpebbmac
open Go.RowKit
set_option linter.unusedVariables false
set_option linter.unusedSimpArgs false

set_option maxRecDepth 100000 in
set_option maxHeartbeats 8000000 in
theorem refPatCheckA_calls (A : Option Addr) (c : Nat) (f t o n sz : Int) (l : List Stp) (w : World) (hl : l.length ≤ 3518437208780) (hs : Sps w A l) :
    Calls Try.prog 30 #[.agg #[iv f, iv t, iv o, iv n, iv sz, .slice A l.length c]] w (RetB w (iv (patCheck ⟨f, t, o, n, sz, l⟩))) := by
  have hb : Below w.heap.size w (w.alloc (.cells #[iv f, iv t, iv o, iv n, iv sz, .slice A l.length c] 35)) := (Below.refl _ _).alloc (Nat.le_refl _) _
  have HB := Lib.hid hb
  have HC := Lib.hid (refCheck_calls A c l 64 sz _ hl (hs.stays hb))
  clear hb hs
  by_cases h0 : ¬ ((1 : Int) ≤ f ∧ f ≤ 30)
  · have hz := Lib.hid (patCheck_bad (p := ⟨f, t, o, n, sz, l⟩) (by unfold Pat.range; dsimp only; omega))
    have I0 := Lib.hid (fun w => refIn_f (n := f) (a := 1) (b := 30) (by omega) w)
    clear HC h0
    go_enter Try.func30, Try.ntmps30
    go_wp2_with fail
    refine (I0.out _).mono ?_
    rintro e0 w0 ⟨rfl, rfl⟩
    go_wp2_with fail
    go_ret
    exact ⟨ret_int hz.out.symm, HB.out⟩
  have h0 := Decidable.not_not.1 h0
  have I0 := Lib.hid (fun w => refIn_t (n := f) (a := 1) (b := 30) h0 w)
  by_cases h1 : ¬ ((1 : Int) ≤ t ∧ t ≤ 30)
  · have hz := Lib.hid (patCheck_bad (p := ⟨f, t, o, n, sz, l⟩) (by unfold Pat.range; dsimp only; omega))
    have I1 := Lib.hid (fun w => refIn_f (n := t) (a := 1) (b := 30) (by omega) w)
    clear HC h1
    go_enter Try.func30, Try.ntmps30
    go_wp2_with fail
    refine (I0.out _).mono ?_
    rintro e0 w0 ⟨rfl, rfl⟩
    go_wp2_with fail
    refine (I1.out _).mono ?_
    rintro e1 w1 ⟨rfl, rfl⟩
    go_wp2_with fail
    go_ret
    exact ⟨ret_int hz.out.symm, HB.out⟩
  have h1 := Decidable.not_not.1 h1
  have I1 := Lib.hid (fun w => refIn_t (n := t) (a := 1) (b := 30) h1 w)
  by_cases h2 : ¬ ((0 : Int) ≤ o ∧ o ≤ 65535)
  · have hz := Lib.hid (patCheck_bad (p := ⟨f, t, o, n, sz, l⟩) (by unfold Pat.range; dsimp only; omega))
    have I2 := Lib.hid (fun w => refIn_f (n := o) (a := 0) (b := 65535) (by omega) w)
    clear HC h2
    go_enter Try.func30, Try.ntmps30
    go_wp2_with fail
    refine (I0.out _).mono ?_
    rintro e0 w0 ⟨rfl, rfl⟩
    go_wp2_with fail
    refine (I1.out _).mono ?_
    rintro e1 w1 ⟨rfl, rfl⟩
    go_wp2_with fail
    refine (I2.out _).mono ?_
    rintro e2 w2 ⟨rfl, rfl⟩
    go_wp2_with fail
    go_ret
    exact ⟨ret_int hz.out.symm, HB.out⟩
  have h2 := Decidable.not_not.1 h2
  have I2 := Lib.hid (fun w => refIn_t (n := o) (a := 0) (b := 65535) h2 w)
  by_cases h3 : ¬ ((0 : Int) ≤ n ∧ n ≤ 65535)
  · have hz := Lib.hid (patCheck_bad (p := ⟨f, t, o, n, sz, l⟩) (by unfold Pat.range; dsimp only; omega))
    have I3 := Lib.hid (fun w => refIn_f (n := n) (a := 0) (b := 65535) (by omega) w)
    clear HC h3
    go_enter Try.func30, Try.ntmps30
    go_wp2_with fail
    refine (I0.out _).mono ?_
    rintro e0 w0 ⟨rfl, rfl⟩
    go_wp2_with fail
    refine (I1.out _).mono ?_
    rintro e1 w1 ⟨rfl, rfl⟩
    go_wp2_with fail
    refine (I2.out _).mono ?_
    rintro e2 w2 ⟨rfl, rfl⟩
    go_wp2_with fail
    refine (I3.out _).mono ?_
    rintro e3 w3 ⟨rfl, rfl⟩
    go_wp2_with fail
    go_ret
    exact ⟨ret_int hz.out.symm, HB.out⟩
  have h3 := Decidable.not_not.1 h3
  have I3 := Lib.hid (fun w => refIn_t (n := n) (a := 0) (b := 65535) h3 w)
  have hz := Lib.hid (patCheck_in (p := ⟨f, t, o, n, sz, l⟩) (by unfold Pat.range; dsimp only; omega))
  clear h0 h1 h2 h3
  go_enter Try.func30, Try.ntmps30
  go_wp2_with fail
  refine (I0.out _).mono ?_
  rintro e0 w0 ⟨rfl, rfl⟩
  go_wp2_with fail
  refine (I1.out _).mono ?_
  rintro e1 w1 ⟨rfl, rfl⟩
  go_wp2_with fail
  refine (I2.out _).mono ?_
  rintro e2 w2 ⟨rfl, rfl⟩
  go_wp2_with fail
  refine (I3.out _).mono ?_
  rintro e3 w3 ⟨rfl, rfl⟩
  go_wp2_with fail
  refine HC.out.mono ?_
  rintro e w9 ⟨rfl, hb1⟩
  have HB1 := Lib.hid (HB.out.trans (hb1.mono HB.out.size))
  clear hb1
  go_wp2_with fail
  go_ret
  exact ⟨ret_int hz.out.symm, HB1.out⟩
end Go.Proofs.Ytefkfglkpebbmac
