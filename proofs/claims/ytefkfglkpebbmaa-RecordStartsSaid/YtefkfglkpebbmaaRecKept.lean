/- The closed fact 'kept' on records. -/
import Derived.Test.YtefkfglkpebbmaaRecFirst
import Derived.Test.YtefkfglkpebbmaaChain
namespace Go.Proofs.Ytefkfglkpebbmaa
open Go.RowKit
set_option linter.unusedVariables false
attribute [go_sem high] eql_rec neq_rec eql_cop eql_cops neq_cops


theorem eqIn_infs99 (x y z u v t : Int) (p q : Inf) (w : World) : (Op.equalIn 9999 42 (.agg #[iv x, iv y, iv z, iv u, iv v, iv t]) (.agg (infsA p q))).run Try.prog w =
    .ok (decide (x = p.ver ∧ y = p.size ∧ z = p.sum) && decide (u = q.ver ∧ v = q.size ∧ t = q.sum)) w := eqIn_infs 9996 x y z p.ver p.size p.sum u v t q.ver q.size q.sum w
attribute [local go_sem ↓] eqIn_infs99
set_option maxRecDepth 100000 in
set_option maxHeartbeats 8000000 in
theorem kept_calls (w : World) : Calls Try.prog 32 #[] w (RetB w (.bool true)) := by
  have kf : ∀ w, Calls Try.prog 53 #[] w (RetB w (.agg (recA (⟨1, 0, false, 0, 1, ⟨1, 3, 9⟩, Inf.zero⟩ : Rec)))) := first_calls
  have k3 : ∀ w, Calls Try.prog 27 #[.agg (copsA (⟨true, (⟨1, 0, false, 0, 1, ⟨1, 3, 9⟩, Inf.zero⟩ : Rec)⟩ : Cop) Cop.zero), .agg (recA (⟨1, 0, true, 1, 1, ⟨1, 3, 9⟩, ⟨2, 0, 0⟩⟩ : Rec)), .bool false] w (RetB w (.tuple #[.agg (copsA (⟨true, (⟨1, 0, false, 0, 1, ⟨1, 3, 9⟩, Inf.zero⟩ : Rec)⟩ : Cop) (⟨true, (⟨2, 0, true, 1, 1, ⟨1, 3, 9⟩, ⟨2, 0, 0⟩⟩ : Rec)⟩ : Cop)), iv 0])) := fun w => by
    have := write_calls (⟨true, (⟨1, 0, false, 0, 1, ⟨1, 3, 9⟩, Inf.zero⟩ : Rec)⟩ : Cop) Cop.zero (⟨1, 0, true, 1, 1, ⟨1, 3, 9⟩, ⟨2, 0, 0⟩⟩ : Rec) false w
    rw [show recWrite (⟨true, (⟨1, 0, false, 0, 1, ⟨1, 3, 9⟩, Inf.zero⟩ : Rec)⟩ : Cop) Cop.zero (⟨1, 0, true, 1, 1, ⟨1, 3, 9⟩, ⟨2, 0, 0⟩⟩ : Rec) false = (((⟨true, (⟨1, 0, false, 0, 1, ⟨1, 3, 9⟩, Inf.zero⟩ : Rec)⟩ : Cop), (⟨true, (⟨2, 0, true, 1, 1, ⟨1, 3, 9⟩, ⟨2, 0, 0⟩⟩ : Rec)⟩ : Cop)), 0) by decide] at this
    exact this
  have k4 : ∀ w, Calls Try.prog 27 #[.agg (copsA (⟨true, (⟨1, 0, false, 0, 1, ⟨1, 3, 9⟩, Inf.zero⟩ : Rec)⟩ : Cop) Cop.zero), .agg (recA (⟨1, 0, true, 1, 1, ⟨1, 3, 9⟩, ⟨2, 0, 0⟩⟩ : Rec)), .bool true] w (RetB w (.tuple #[.agg (copsA (⟨true, (⟨1, 0, false, 0, 1, ⟨1, 3, 9⟩, Inf.zero⟩ : Rec)⟩ : Cop) Cop.zero), iv 0])) := fun w => by
    have := write_calls (⟨true, (⟨1, 0, false, 0, 1, ⟨1, 3, 9⟩, Inf.zero⟩ : Rec)⟩ : Cop) Cop.zero (⟨1, 0, true, 1, 1, ⟨1, 3, 9⟩, ⟨2, 0, 0⟩⟩ : Rec) true w
    rw [show recWrite (⟨true, (⟨1, 0, false, 0, 1, ⟨1, 3, 9⟩, Inf.zero⟩ : Rec)⟩ : Cop) Cop.zero (⟨1, 0, true, 1, 1, ⟨1, 3, 9⟩, ⟨2, 0, 0⟩⟩ : Rec) true = (((⟨true, (⟨1, 0, false, 0, 1, ⟨1, 3, 9⟩, Inf.zero⟩ : Rec)⟩ : Cop), Cop.zero), 0) by decide] at this
    exact this
  have k5 : ∀ w, Calls Try.prog 26 #[.agg (copsA (⟨true, (⟨1, 0, false, 0, 1, ⟨1, 3, 9⟩, Inf.zero⟩ : Rec)⟩ : Cop) (⟨true, (⟨2, 0, true, 1, 1, ⟨1, 3, 9⟩, ⟨2, 0, 0⟩⟩ : Rec)⟩ : Cop))] w (RetB w (.tuple #[.agg (recA (⟨2, 0, true, 1, 1, ⟨1, 3, 9⟩, ⟨2, 0, 0⟩⟩ : Rec)), iv 1, iv 0])) := fun w => by
    have := read_ok (⟨true, (⟨1, 0, false, 0, 1, ⟨1, 3, 9⟩, Inf.zero⟩ : Rec)⟩ : Cop) (⟨true, (⟨2, 0, true, 1, 1, ⟨1, 3, 9⟩, ⟨2, 0, 0⟩⟩ : Rec)⟩ : Cop) w (by decide)
    rw [show recRead (⟨true, (⟨1, 0, false, 0, 1, ⟨1, 3, 9⟩, Inf.zero⟩ : Rec)⟩ : Cop) (⟨true, (⟨2, 0, true, 1, 1, ⟨1, 3, 9⟩, ⟨2, 0, 0⟩⟩ : Rec)⟩ : Cop) = ((⟨2, 0, true, 1, 1, ⟨1, 3, 9⟩, ⟨2, 0, 0⟩⟩ : Rec), 1) by decide] at this
    exact this
  have k6 : ∀ w, Calls Try.prog 26 #[.agg (copsA (⟨true, (⟨1, 0, false, 0, 1, ⟨1, 3, 9⟩, Inf.zero⟩ : Rec)⟩ : Cop) Cop.zero)] w (RetB w (.tuple #[.agg (recA (⟨1, 0, false, 0, 1, ⟨1, 3, 9⟩, Inf.zero⟩ : Rec)), iv 0, iv 0])) := fun w => by
    have := read_ok (⟨true, (⟨1, 0, false, 0, 1, ⟨1, 3, 9⟩, Inf.zero⟩ : Rec)⟩ : Cop) Cop.zero w (by decide)
    rw [show recRead (⟨true, (⟨1, 0, false, 0, 1, ⟨1, 3, 9⟩, Inf.zero⟩ : Rec)⟩ : Cop) Cop.zero = ((⟨1, 0, false, 0, 1, ⟨1, 3, 9⟩, Inf.zero⟩ : Rec), 0) by decide] at this
    exact this
  have k7 : ∀ w, Calls Try.prog 28 #[.agg (recA (⟨2, 0, true, 1, 1, ⟨1, 3, 9⟩, ⟨2, 0, 0⟩⟩ : Rec))] w (RetB w (.tuple #[iv 1, .agg (recA (⟨2, 0, true, 0, 1, ⟨1, 3, 9⟩, ⟨2, 0, 0⟩⟩ : Rec)), iv 0])) := fun w => by
    have := start_calls (⟨2, 0, true, 1, 1, ⟨1, 3, 9⟩, ⟨2, 0, 0⟩⟩ : Rec) w
    rw [show recStart (⟨2, 0, true, 1, 1, ⟨1, 3, 9⟩, ⟨2, 0, 0⟩⟩ : Rec) = (1, (⟨2, 0, true, 0, 1, ⟨1, 3, 9⟩, ⟨2, 0, 0⟩⟩ : Rec), 0) by decide] at this
    exact this
  have k8 : ∀ w, Calls Try.prog 28 #[.agg (recA (⟨2, 0, true, 0, 1, ⟨1, 3, 9⟩, ⟨2, 0, 0⟩⟩ : Rec))] w (RetB w (.tuple #[iv 0, .agg (recA (⟨2, 0, false, 0, 1, ⟨1, 3, 9⟩, ⟨2, 0, 0⟩⟩ : Rec)), iv 0])) := fun w => by
    have := start_calls (⟨2, 0, true, 0, 1, ⟨1, 3, 9⟩, ⟨2, 0, 0⟩⟩ : Rec) w
    rw [show recStart (⟨2, 0, true, 0, 1, ⟨1, 3, 9⟩, ⟨2, 0, 0⟩⟩ : Rec) = (0, (⟨2, 0, false, 0, 1, ⟨1, 3, 9⟩, ⟨2, 0, 0⟩⟩ : Rec), 0) by decide] at this
    exact this
  have k9 : ∀ w, Calls Try.prog 29 #[.agg (recA (⟨2, 0, true, 1, 1, ⟨1, 3, 9⟩, ⟨2, 0, 0⟩⟩ : Rec))] w (RetB w (.tuple #[.agg (recA (⟨2, 1, false, 0, 2, ⟨1, 3, 9⟩, ⟨2, 0, 0⟩⟩ : Rec)), iv 0])) := fun w => by
    have := confirm_calls (⟨2, 0, true, 1, 1, ⟨1, 3, 9⟩, ⟨2, 0, 0⟩⟩ : Rec) w
    rw [show recConfirm (⟨2, 0, true, 1, 1, ⟨1, 3, 9⟩, ⟨2, 0, 0⟩⟩ : Rec) = ((⟨2, 1, false, 0, 2, ⟨1, 3, 9⟩, ⟨2, 0, 0⟩⟩ : Rec), 0) by decide] at this
    exact this
  have k11 : ∀ w, Calls Try.prog 34 #[.agg (copsA Cop.zero Cop.zero)] w (RetB w (iv 7)) := fun w => by
    have := copies_calls Cop.zero Cop.zero w
    rw [show copCheck Cop.zero Cop.zero = 7 by decide] at this
    exact this
  have k12 : ∀ w, Calls Try.prog 33 #[.agg (recA (⟨2, 1, false, 0, 2, ⟨1, 3, 9⟩, ⟨2, 0, 0⟩⟩ : Rec))] w (RetB w (iv 0)) := fun w => by
    have := recCheckA_calls (⟨2, 1, false, 0, 2, ⟨1, 3, 9⟩, ⟨2, 0, 0⟩⟩ : Rec) w
    rw [show recCheck (⟨2, 1, false, 0, 2, ⟨1, 3, 9⟩, ⟨2, 0, 0⟩⟩ : Rec) = 0 by decide] at this
    exact this
  have K1 := Lib.hid kf
  have K3 := Lib.hid k3
  have K4 := Lib.hid k4
  have K5 := Lib.hid k5
  have K6 := Lib.hid k6
  have K7 := Lib.hid k7
  have K8 := Lib.hid k8
  have K9 := Lib.hid k9
  have K11 := Lib.hid k11
  have K12 := Lib.hid k12
  clear kf k3 k4 k5 k6 k7 k8 k9 k11 k12
  go_enter Try.func32, Try.ntmps32
  go_wp2_with fail
  refine (K1.out _).mono ?_
  rintro e w1 ⟨rfl, hb⟩
  have HB1 := Lib.hid hb
  clear hb
  go_wp2_with fail
  refine (K1.out _).mono ?_
  rintro e w2 ⟨rfl, hb⟩
  obtain ⟨a0r, a0f, a0n, a0c, a0z, a0l⟩ := keep1 (g := w1.heap.size) (cs := copsA (⟨true, (⟨1, 0, false, 0, 1, ⟨1, 3, 9⟩, Inf.zero⟩ : Rec)⟩ : Cop) Cop.zero) hb (by first | (go_simp; done) | (go_simp; rfl)) (by go_simp) (by go_simp)
  have HB2 : Hid (Below w.heap.size w w2) := by
    have hs := HB1.out.size
    refine Lib.hid (Below.trans ?_ (hb.mono (by first | omega | (simp <;> omega))))
    repeat (first | exact HB1.out | refine below_row ?_ (by omega) _ | refine Below.setCell ?_ (by first | omega | (simp <;> omega)) _ | refine Below.alloc ?_ (by first | omega | (simp <;> omega)) _ | refine Below.drew ?_)
  clear hb
  go_wp2_with fail
  refine (K3.out _).mono ?_
  rintro e w3 ⟨rfl, hb⟩
  obtain ⟨a0r, a0f, a0n, a0c, a0z, a0l⟩ := keep1 (g := w1.heap.size) (cs := copsA (⟨true, (⟨1, 0, false, 0, 1, ⟨1, 3, 9⟩, Inf.zero⟩ : Rec)⟩ : Cop) Cop.zero) hb (by first | (go_simp; done) | (go_simp; rfl)) (by go_simp) (by go_simp)
  obtain ⟨a1r, a1f, a1n, a1c, a1z, a1l⟩ := keep1 (g := w2.heap.size) (cs := recA (⟨1, 0, true, 1, 1, ⟨1, 3, 9⟩, ⟨2, 0, 0⟩⟩ : Rec)) hb (by first | (go_simp; done) | (go_simp; rfl)) (by go_simp) (by go_simp)
  have HB3 : Hid (Below w.heap.size w w3) := by
    have hs := HB2.out.size
    refine Lib.hid (Below.trans ?_ (hb.mono (by first | omega | (simp <;> omega))))
    repeat (first | exact HB2.out | refine below_row ?_ (by omega) _ | refine Below.setCell ?_ (by first | omega | (simp <;> omega)) _ | refine Below.alloc ?_ (by first | omega | (simp <;> omega)) _ | refine Below.drew ?_)
  clear hb
  go_wp2_with fail
  refine (K4.out _).mono ?_
  rintro e w4 ⟨rfl, hb⟩
  obtain ⟨a0r, a0f, a0n, a0c, a0z, a0l⟩ := keep1 (g := w1.heap.size) (cs := copsA (⟨true, (⟨1, 0, false, 0, 1, ⟨1, 3, 9⟩, Inf.zero⟩ : Rec)⟩ : Cop) Cop.zero) hb (by first | (go_simp; done) | (go_simp; rfl)) (by go_simp) (by go_simp)
  obtain ⟨a1r, a1f, a1n, a1c, a1z, a1l⟩ := keep1 (g := w2.heap.size) (cs := recA (⟨1, 0, true, 1, 1, ⟨1, 3, 9⟩, ⟨2, 0, 0⟩⟩ : Rec)) hb (by first | (go_simp; done) | (go_simp; rfl)) (by go_simp) (by go_simp)
  obtain ⟨a2r, a2f, a2n, a2c, a2z, a2l⟩ := keep1 (g := w3.heap.size) (cs := copsA (⟨true, (⟨1, 0, false, 0, 1, ⟨1, 3, 9⟩, Inf.zero⟩ : Rec)⟩ : Cop) (⟨true, (⟨2, 0, true, 1, 1, ⟨1, 3, 9⟩, ⟨2, 0, 0⟩⟩ : Rec)⟩ : Cop)) hb (by first | (go_simp; done) | (go_simp; rfl)) (by go_simp) (by go_simp)
  have HB4 : Hid (Below w.heap.size w w4) := by
    have hs := HB3.out.size
    refine Lib.hid (Below.trans ?_ (hb.mono (by first | omega | (simp <;> omega))))
    repeat (first | exact HB3.out | refine below_row ?_ (by omega) _ | refine Below.setCell ?_ (by first | omega | (simp <;> omega)) _ | refine Below.alloc ?_ (by first | omega | (simp <;> omega)) _ | refine Below.drew ?_)
  clear hb
  go_wp2_with fail
  refine (K5.out _).mono ?_
  rintro e w5 ⟨rfl, hb⟩
  obtain ⟨a0r, a0f, a0n, a0c, a0z, a0l⟩ := keep1 (g := w1.heap.size) (cs := copsA (⟨true, (⟨1, 0, false, 0, 1, ⟨1, 3, 9⟩, Inf.zero⟩ : Rec)⟩ : Cop) Cop.zero) hb (by first | (go_simp; done) | (go_simp; rfl)) (by go_simp) (by go_simp)
  obtain ⟨a1r, a1f, a1n, a1c, a1z, a1l⟩ := keep1 (g := w2.heap.size) (cs := recA (⟨1, 0, true, 1, 1, ⟨1, 3, 9⟩, ⟨2, 0, 0⟩⟩ : Rec)) hb (by first | (go_simp; done) | (go_simp; rfl)) (by go_simp) (by go_simp)
  obtain ⟨a2r, a2f, a2n, a2c, a2z, a2l⟩ := keep1 (g := w3.heap.size) (cs := copsA (⟨true, (⟨1, 0, false, 0, 1, ⟨1, 3, 9⟩, Inf.zero⟩ : Rec)⟩ : Cop) (⟨true, (⟨2, 0, true, 1, 1, ⟨1, 3, 9⟩, ⟨2, 0, 0⟩⟩ : Rec)⟩ : Cop)) hb (by first | (go_simp; done) | (go_simp; rfl)) (by go_simp) (by go_simp)
  obtain ⟨a3r, a3f, a3n, a3c, a3z, a3l⟩ := keep1 (g := w4.heap.size) (cs := copsA (⟨true, (⟨1, 0, false, 0, 1, ⟨1, 3, 9⟩, Inf.zero⟩ : Rec)⟩ : Cop) Cop.zero) hb (by first | (go_simp; done) | (go_simp; rfl)) (by go_simp) (by go_simp)
  have HB5 : Hid (Below w.heap.size w w5) := by
    have hs := HB4.out.size
    refine Lib.hid (Below.trans ?_ (hb.mono (by first | omega | (simp <;> omega))))
    repeat (first | exact HB4.out | refine below_row ?_ (by omega) _ | refine Below.setCell ?_ (by first | omega | (simp <;> omega)) _ | refine Below.alloc ?_ (by first | omega | (simp <;> omega)) _ | refine Below.drew ?_)
  clear hb
  go_wp2_with fail
  refine (K6.out _).mono ?_
  rintro e w6 ⟨rfl, hb⟩
  obtain ⟨a0r, a0f, a0n, a0c, a0z, a0l⟩ := keep1 (g := w1.heap.size) (cs := copsA (⟨true, (⟨1, 0, false, 0, 1, ⟨1, 3, 9⟩, Inf.zero⟩ : Rec)⟩ : Cop) Cop.zero) hb (by first | (go_simp; done) | (go_simp; rfl)) (by go_simp) (by go_simp)
  obtain ⟨a1r, a1f, a1n, a1c, a1z, a1l⟩ := keep1 (g := w2.heap.size) (cs := recA (⟨1, 0, true, 1, 1, ⟨1, 3, 9⟩, ⟨2, 0, 0⟩⟩ : Rec)) hb (by first | (go_simp; done) | (go_simp; rfl)) (by go_simp) (by go_simp)
  obtain ⟨a2r, a2f, a2n, a2c, a2z, a2l⟩ := keep1 (g := w3.heap.size) (cs := copsA (⟨true, (⟨1, 0, false, 0, 1, ⟨1, 3, 9⟩, Inf.zero⟩ : Rec)⟩ : Cop) (⟨true, (⟨2, 0, true, 1, 1, ⟨1, 3, 9⟩, ⟨2, 0, 0⟩⟩ : Rec)⟩ : Cop)) hb (by first | (go_simp; done) | (go_simp; rfl)) (by go_simp) (by go_simp)
  obtain ⟨a3r, a3f, a3n, a3c, a3z, a3l⟩ := keep1 (g := w4.heap.size) (cs := copsA (⟨true, (⟨1, 0, false, 0, 1, ⟨1, 3, 9⟩, Inf.zero⟩ : Rec)⟩ : Cop) Cop.zero) hb (by first | (go_simp; done) | (go_simp; rfl)) (by go_simp) (by go_simp)
  obtain ⟨a4r, a4f, a4n, a4c, a4z, a4l⟩ := keep1 (g := w5.heap.size) (cs := recA (⟨2, 0, true, 1, 1, ⟨1, 3, 9⟩, ⟨2, 0, 0⟩⟩ : Rec)) hb (by first | (go_simp; done) | (go_simp; rfl)) (by go_simp) (by go_simp)
  have HB6 : Hid (Below w.heap.size w w6) := by
    have hs := HB5.out.size
    refine Lib.hid (Below.trans ?_ (hb.mono (by first | omega | (simp <;> omega))))
    repeat (first | exact HB5.out | refine below_row ?_ (by omega) _ | refine Below.setCell ?_ (by first | omega | (simp <;> omega)) _ | refine Below.alloc ?_ (by first | omega | (simp <;> omega)) _ | refine Below.drew ?_)
  clear hb
  go_wp2_with fail
  refine (K7.out _).mono ?_
  rintro e w7 ⟨rfl, hb⟩
  obtain ⟨a0r, a0f, a0n, a0c, a0z, a0l⟩ := keep1 (g := w1.heap.size) (cs := copsA (⟨true, (⟨1, 0, false, 0, 1, ⟨1, 3, 9⟩, Inf.zero⟩ : Rec)⟩ : Cop) Cop.zero) hb (by first | (go_simp; done) | (go_simp; rfl)) (by go_simp) (by go_simp)
  obtain ⟨a1r, a1f, a1n, a1c, a1z, a1l⟩ := keep1 (g := w2.heap.size) (cs := recA (⟨1, 0, true, 1, 1, ⟨1, 3, 9⟩, ⟨2, 0, 0⟩⟩ : Rec)) hb (by first | (go_simp; done) | (go_simp; rfl)) (by go_simp) (by go_simp)
  obtain ⟨a2r, a2f, a2n, a2c, a2z, a2l⟩ := keep1 (g := w3.heap.size) (cs := copsA (⟨true, (⟨1, 0, false, 0, 1, ⟨1, 3, 9⟩, Inf.zero⟩ : Rec)⟩ : Cop) (⟨true, (⟨2, 0, true, 1, 1, ⟨1, 3, 9⟩, ⟨2, 0, 0⟩⟩ : Rec)⟩ : Cop)) hb (by first | (go_simp; done) | (go_simp; rfl)) (by go_simp) (by go_simp)
  obtain ⟨a3r, a3f, a3n, a3c, a3z, a3l⟩ := keep1 (g := w4.heap.size) (cs := copsA (⟨true, (⟨1, 0, false, 0, 1, ⟨1, 3, 9⟩, Inf.zero⟩ : Rec)⟩ : Cop) Cop.zero) hb (by first | (go_simp; done) | (go_simp; rfl)) (by go_simp) (by go_simp)
  obtain ⟨a4r, a4f, a4n, a4c, a4z, a4l⟩ := keep1 (g := w5.heap.size) (cs := recA (⟨2, 0, true, 1, 1, ⟨1, 3, 9⟩, ⟨2, 0, 0⟩⟩ : Rec)) hb (by first | (go_simp; done) | (go_simp; rfl)) (by go_simp) (by go_simp)
  obtain ⟨a5r, a5f, a5n, a5c, a5z, a5l⟩ := keep1 (g := w6.heap.size) (cs := recA (⟨1, 0, false, 0, 1, ⟨1, 3, 9⟩, Inf.zero⟩ : Rec)) hb (by first | (go_simp; done) | (go_simp; rfl)) (by go_simp) (by go_simp)
  have HB7 : Hid (Below w.heap.size w w7) := by
    have hs := HB6.out.size
    refine Lib.hid (Below.trans ?_ (hb.mono (by first | omega | (simp <;> omega))))
    repeat (first | exact HB6.out | refine below_row ?_ (by omega) _ | refine Below.setCell ?_ (by first | omega | (simp <;> omega)) _ | refine Below.alloc ?_ (by first | omega | (simp <;> omega)) _ | refine Below.drew ?_)
  clear hb
  go_wp2_with fail
  refine (K8.out _).mono ?_
  rintro e w8 ⟨rfl, hb⟩
  obtain ⟨a0r, a0f, a0n, a0c, a0z, a0l⟩ := keep1 (g := w1.heap.size) (cs := copsA (⟨true, (⟨1, 0, false, 0, 1, ⟨1, 3, 9⟩, Inf.zero⟩ : Rec)⟩ : Cop) Cop.zero) hb (by first | (go_simp; done) | (go_simp; rfl)) (by go_simp) (by go_simp)
  obtain ⟨a1r, a1f, a1n, a1c, a1z, a1l⟩ := keep1 (g := w2.heap.size) (cs := recA (⟨1, 0, true, 1, 1, ⟨1, 3, 9⟩, ⟨2, 0, 0⟩⟩ : Rec)) hb (by first | (go_simp; done) | (go_simp; rfl)) (by go_simp) (by go_simp)
  obtain ⟨a2r, a2f, a2n, a2c, a2z, a2l⟩ := keep1 (g := w3.heap.size) (cs := copsA (⟨true, (⟨1, 0, false, 0, 1, ⟨1, 3, 9⟩, Inf.zero⟩ : Rec)⟩ : Cop) (⟨true, (⟨2, 0, true, 1, 1, ⟨1, 3, 9⟩, ⟨2, 0, 0⟩⟩ : Rec)⟩ : Cop)) hb (by first | (go_simp; done) | (go_simp; rfl)) (by go_simp) (by go_simp)
  obtain ⟨a3r, a3f, a3n, a3c, a3z, a3l⟩ := keep1 (g := w4.heap.size) (cs := copsA (⟨true, (⟨1, 0, false, 0, 1, ⟨1, 3, 9⟩, Inf.zero⟩ : Rec)⟩ : Cop) Cop.zero) hb (by first | (go_simp; done) | (go_simp; rfl)) (by go_simp) (by go_simp)
  obtain ⟨a4r, a4f, a4n, a4c, a4z, a4l⟩ := keep1 (g := w5.heap.size) (cs := recA (⟨2, 0, true, 1, 1, ⟨1, 3, 9⟩, ⟨2, 0, 0⟩⟩ : Rec)) hb (by first | (go_simp; done) | (go_simp; rfl)) (by go_simp) (by go_simp)
  obtain ⟨a5r, a5f, a5n, a5c, a5z, a5l⟩ := keep1 (g := w6.heap.size) (cs := recA (⟨1, 0, false, 0, 1, ⟨1, 3, 9⟩, Inf.zero⟩ : Rec)) hb (by first | (go_simp; done) | (go_simp; rfl)) (by go_simp) (by go_simp)
  obtain ⟨a6r, a6f, a6n, a6c, a6z, a6l⟩ := keep1 (g := w7.heap.size) (cs := recA (⟨2, 0, true, 0, 1, ⟨1, 3, 9⟩, ⟨2, 0, 0⟩⟩ : Rec)) hb (by first | (go_simp; done) | (go_simp; rfl)) (by go_simp) (by go_simp)
  have HB8 : Hid (Below w.heap.size w w8) := by
    have hs := HB7.out.size
    refine Lib.hid (Below.trans ?_ (hb.mono (by first | omega | (simp <;> omega))))
    repeat (first | exact HB7.out | refine below_row ?_ (by omega) _ | refine Below.setCell ?_ (by first | omega | (simp <;> omega)) _ | refine Below.alloc ?_ (by first | omega | (simp <;> omega)) _ | refine Below.drew ?_)
  clear hb
  go_wp2_with fail
  refine (K9.out _).mono ?_
  rintro e w9 ⟨rfl, hb⟩
  obtain ⟨a0r, a0f, a0n, a0c, a0z, a0l⟩ := keep1 (g := w1.heap.size) (cs := copsA (⟨true, (⟨1, 0, false, 0, 1, ⟨1, 3, 9⟩, Inf.zero⟩ : Rec)⟩ : Cop) Cop.zero) hb (by first | (go_simp; done) | (go_simp; rfl)) (by go_simp) (by go_simp)
  obtain ⟨a1r, a1f, a1n, a1c, a1z, a1l⟩ := keep1 (g := w2.heap.size) (cs := recA (⟨1, 0, true, 1, 1, ⟨1, 3, 9⟩, ⟨2, 0, 0⟩⟩ : Rec)) hb (by first | (go_simp; done) | (go_simp; rfl)) (by go_simp) (by go_simp)
  obtain ⟨a2r, a2f, a2n, a2c, a2z, a2l⟩ := keep1 (g := w3.heap.size) (cs := copsA (⟨true, (⟨1, 0, false, 0, 1, ⟨1, 3, 9⟩, Inf.zero⟩ : Rec)⟩ : Cop) (⟨true, (⟨2, 0, true, 1, 1, ⟨1, 3, 9⟩, ⟨2, 0, 0⟩⟩ : Rec)⟩ : Cop)) hb (by first | (go_simp; done) | (go_simp; rfl)) (by go_simp) (by go_simp)
  obtain ⟨a3r, a3f, a3n, a3c, a3z, a3l⟩ := keep1 (g := w4.heap.size) (cs := copsA (⟨true, (⟨1, 0, false, 0, 1, ⟨1, 3, 9⟩, Inf.zero⟩ : Rec)⟩ : Cop) Cop.zero) hb (by first | (go_simp; done) | (go_simp; rfl)) (by go_simp) (by go_simp)
  obtain ⟨a4r, a4f, a4n, a4c, a4z, a4l⟩ := keep1 (g := w5.heap.size) (cs := recA (⟨2, 0, true, 1, 1, ⟨1, 3, 9⟩, ⟨2, 0, 0⟩⟩ : Rec)) hb (by first | (go_simp; done) | (go_simp; rfl)) (by go_simp) (by go_simp)
  obtain ⟨a5r, a5f, a5n, a5c, a5z, a5l⟩ := keep1 (g := w6.heap.size) (cs := recA (⟨1, 0, false, 0, 1, ⟨1, 3, 9⟩, Inf.zero⟩ : Rec)) hb (by first | (go_simp; done) | (go_simp; rfl)) (by go_simp) (by go_simp)
  obtain ⟨a6r, a6f, a6n, a6c, a6z, a6l⟩ := keep1 (g := w7.heap.size) (cs := recA (⟨2, 0, true, 0, 1, ⟨1, 3, 9⟩, ⟨2, 0, 0⟩⟩ : Rec)) hb (by first | (go_simp; done) | (go_simp; rfl)) (by go_simp) (by go_simp)
  obtain ⟨a7r, a7f, a7n, a7c, a7z, a7l⟩ := keep1 (g := w8.heap.size) (cs := recA (⟨2, 0, false, 0, 1, ⟨1, 3, 9⟩, ⟨2, 0, 0⟩⟩ : Rec)) hb (by first | (go_simp; done) | (go_simp; rfl)) (by go_simp) (by go_simp)
  have HB9 : Hid (Below w.heap.size w w9) := by
    have hs := HB8.out.size
    refine Lib.hid (Below.trans ?_ (hb.mono (by first | omega | (simp <;> omega))))
    repeat (first | exact HB8.out | refine below_row ?_ (by omega) _ | refine Below.setCell ?_ (by first | omega | (simp <;> omega)) _ | refine Below.alloc ?_ (by first | omega | (simp <;> omega)) _ | refine Below.drew ?_)
  clear hb
  go_wp2_with fail
  have Ra : rowOf (w9.alloc (.cells (recA (⟨2, 1, false, 0, 2, ⟨1, 3, 9⟩, ⟨2, 0, 0⟩⟩ : Rec)) 44)).drew w5.heap.size = recA (⟨2, 0, true, 1, 1, ⟨1, 3, 9⟩, ⟨2, 0, 0⟩⟩ : Rec) := by go_simp
  have Raf : frOf (w9.alloc (.cells (recA (⟨2, 1, false, 0, 2, ⟨1, 3, 9⟩, ⟨2, 0, 0⟩⟩ : Rec)) 44)).drew w5.heap.size = (0, 0) := by go_simp
  have Rb : rowOf (w9.alloc (.cells (recA (⟨2, 1, false, 0, 2, ⟨1, 3, 9⟩, ⟨2, 0, 0⟩⟩ : Rec)) 44)).drew w6.heap.size = recA (⟨1, 0, false, 0, 1, ⟨1, 3, 9⟩, Inf.zero⟩ : Rec) := by go_simp
  have Rbf : frOf (w9.alloc (.cells (recA (⟨2, 1, false, 0, 2, ⟨1, 3, 9⟩, ⟨2, 0, 0⟩⟩ : Rec)) 44)).drew w6.heap.size = (0, 0) := by go_simp
  have Rc : rowOf (w9.alloc (.cells (recA (⟨2, 1, false, 0, 2, ⟨1, 3, 9⟩, ⟨2, 0, 0⟩⟩ : Rec)) 44)).drew w7.heap.size = recA (⟨2, 0, true, 0, 1, ⟨1, 3, 9⟩, ⟨2, 0, 0⟩⟩ : Rec) := by go_simp
  have Rcf : frOf (w9.alloc (.cells (recA (⟨2, 1, false, 0, 2, ⟨1, 3, 9⟩, ⟨2, 0, 0⟩⟩ : Rec)) 44)).drew w7.heap.size = (0, 0) := by go_simp
  have Re : rowOf (w9.alloc (.cells (recA (⟨2, 1, false, 0, 2, ⟨1, 3, 9⟩, ⟨2, 0, 0⟩⟩ : Rec)) 44)).drew w9.heap.size = recA (⟨2, 1, false, 0, 2, ⟨1, 3, 9⟩, ⟨2, 0, 0⟩⟩ : Rec) := by go_simp
  have Ref : frOf (w9.alloc (.cells (recA (⟨2, 1, false, 0, 2, ⟨1, 3, 9⟩, ⟨2, 0, 0⟩⟩ : Rec)) 44)).drew w9.heap.size = (0, 0) := by go_simp
  clear a0r a0f a0n a0c a0z a0l a1r a1f a1n a1c a1z a1l a2r a2f a2n a2c a2z a2l a3r a3f a3n a3c a3z a3l a4r a4f a4n a4c a4z a4l a5r a5f a5n a5c a5z a5l a6r a6f a6n a6c a6z a6l a7r a7f a7n a7c a7z a7l
  refine wp_region_chain (by kernel_rfl) [some 71, some 72, some 73, some 74, some 75, some 76, some 77, some 78, some 79, some 80, some 81, some 82, some 83, some 84, some 85, some 86, some 87, some 88, some 89, some 90, some 91, some 92, some 93, some 94, some 95, some 96, some 97, some 98, some 99, some 100, some 101, some 102, some 103, some 104, some 105, some 106, some 107, some 108, some 109, some 110, some 111, some 112, some 113, some 114, some 115, some 116, some 117, some 118, some 119, some 120, some 121, some 122, some 123, some 124, some 125, some 126, some 127, some 128, some 129, some 130, some 131, some 132, some 133, some 134, some 135, some 136, some 137, some 138, some 139, some 140, some 141, some 142, some 143, some 144, some 145, some 146, some 147, some 0] [iv 0, .bool true, .bool true, iv 0, .bool true, .bool true, .bool true, iv 0, .bool true, .bool true, .bool true, iv 0, .bool true, .bool true, .bool true, iv 0, .bool true, .bool true, .bool true, iv 0, .bool true, .bool true, .bool true, iv 0, .bool true, .bool true, .bool true, iv 1, .bool true, .bool true, .bool true, .pointer (some ⟨w5.heap.size, 0, none⟩), iv 2, .bool true, .bool true, .bool true, iv 0, .bool true, .bool true, .bool true, .agg (recA (⟨1, 0, false, 0, 1, ⟨1, 3, 9⟩, Inf.zero⟩ : Rec)), .agg (recA (⟨1, 0, false, 0, 1, ⟨1, 3, 9⟩, Inf.zero⟩ : Rec)), .bool true, .bool true, .bool true, iv 1, .bool true, .bool true, .bool true, .pointer (some ⟨w7.heap.size, 3, none⟩), iv 0, .bool true, .bool true, .bool true, iv 0, .bool true, .bool true, .bool true, .pointer (some ⟨w9.heap.size, 1, none⟩), iv 1, .bool true, .bool true, .bool true, .pointer (some ⟨w9.heap.size, 4, none⟩), iv 2, .bool true, .bool true, .bool true, .agg (copsA Cop.zero Cop.zero), iv 7, .bool true, .bool true, .bool true, .agg (recA (⟨2, 1, false, 0, 2, ⟨1, 3, 9⟩, ⟨2, 0, 0⟩⟩ : Rec)), iv 0, .bool true, .bool true, .bool true] 148 rfl rfl (by decide +kernel) (by decide +kernel) (by decide +kernel) rfl ?_ ?_
  · refine ⟨.inl ⟨rfl, fun done a wq hw h => ?_⟩, ?_⟩
    · have e4 := ch_old (t := 4) (v := iv 0) h rfl rfl; exact ch_move (ch_ev e4)
    refine ⟨.inl ⟨rfl, fun done a wq hw h => ?_⟩, ?_⟩
    · have e71 := ch_new (i := 0) (t := 71) h (hw 0 (by decide)) rfl rfl; exact ch_eql_int (by kernel_rfl) (ch_ev e71) rfl (by simp)
    refine ⟨.inl ⟨rfl, fun done a wq hw h => ?_⟩, ?_⟩
    · have e72 := ch_new (i := 1) (t := 72) h (hw 1 (by decide)) rfl rfl; exact ch_move (ch_ev e72)
    refine ⟨.inl ⟨rfl, fun done a wq hw h => ?_⟩, ?_⟩
    · have e6 := ch_old (t := 6) (v := iv 0) h rfl rfl; exact ch_move (ch_ev e6)
    refine ⟨.inl ⟨rfl, fun done a wq hw h => ?_⟩, ?_⟩
    · have e74 := ch_new (i := 3) (t := 74) h (hw 3 (by decide)) rfl rfl; exact ch_eql_int (by kernel_rfl) (ch_ev e74) rfl (by simp)
    refine ⟨.inl ⟨rfl, fun done a wq hw h => ?_⟩, ?_⟩
    · have e73 := ch_new (i := 2) (t := 73) h (hw 2 (by decide)) rfl rfl; have e75 := ch_new (i := 4) (t := 75) h (hw 4 (by decide)) rfl rfl; exact ch_pick_t e73 (ch_ev e75)
    refine ⟨.inl ⟨rfl, fun done a wq hw h => ?_⟩, ?_⟩
    · have e76 := ch_new (i := 5) (t := 76) h (hw 5 (by decide)) rfl rfl; exact ch_move (ch_ev e76)
    refine ⟨.inl ⟨rfl, fun done a wq hw h => ?_⟩, ?_⟩
    · have e9 := ch_old (t := 9) (v := iv 0) h rfl rfl; exact ch_move (ch_ev e9)
    refine ⟨.inl ⟨rfl, fun done a wq hw h => ?_⟩, ?_⟩
    · have e78 := ch_new (i := 7) (t := 78) h (hw 7 (by decide)) rfl rfl; exact ch_eql_int (by kernel_rfl) (ch_ev e78) rfl (by simp)
    refine ⟨.inl ⟨rfl, fun done a wq hw h => ?_⟩, ?_⟩
    · have e77 := ch_new (i := 6) (t := 77) h (hw 6 (by decide)) rfl rfl; have e79 := ch_new (i := 8) (t := 79) h (hw 8 (by decide)) rfl rfl; exact ch_pick_t e77 (ch_ev e79)
    refine ⟨.inl ⟨rfl, fun done a wq hw h => ?_⟩, ?_⟩
    · have e80 := ch_new (i := 9) (t := 80) h (hw 9 (by decide)) rfl rfl; exact ch_move (ch_ev e80)
    refine ⟨.inl ⟨rfl, fun done a wq hw h => ?_⟩, ?_⟩
    · have e12 := ch_old (t := 12) (v := iv 0) h rfl rfl; exact ch_move (ch_ev e12)
    refine ⟨.inl ⟨rfl, fun done a wq hw h => ?_⟩, ?_⟩
    · have e82 := ch_new (i := 11) (t := 82) h (hw 11 (by decide)) rfl rfl; exact ch_eql_int (by kernel_rfl) (ch_ev e82) rfl (by simp)
    refine ⟨.inl ⟨rfl, fun done a wq hw h => ?_⟩, ?_⟩
    · have e81 := ch_new (i := 10) (t := 81) h (hw 10 (by decide)) rfl rfl; have e83 := ch_new (i := 12) (t := 83) h (hw 12 (by decide)) rfl rfl; exact ch_pick_t e81 (ch_ev e83)
    refine ⟨.inl ⟨rfl, fun done a wq hw h => ?_⟩, ?_⟩
    · have e84 := ch_new (i := 13) (t := 84) h (hw 13 (by decide)) rfl rfl; exact ch_move (ch_ev e84)
    refine ⟨.inl ⟨rfl, fun done a wq hw h => ?_⟩, ?_⟩
    · have e15 := ch_old (t := 15) (v := iv 0) h rfl rfl; exact ch_move (ch_ev e15)
    refine ⟨.inl ⟨rfl, fun done a wq hw h => ?_⟩, ?_⟩
    · have e86 := ch_new (i := 15) (t := 86) h (hw 15 (by decide)) rfl rfl; exact ch_eql_int (by kernel_rfl) (ch_ev e86) rfl (by simp)
    refine ⟨.inl ⟨rfl, fun done a wq hw h => ?_⟩, ?_⟩
    · have e85 := ch_new (i := 14) (t := 85) h (hw 14 (by decide)) rfl rfl; have e87 := ch_new (i := 16) (t := 87) h (hw 16 (by decide)) rfl rfl; exact ch_pick_t e85 (ch_ev e87)
    refine ⟨.inl ⟨rfl, fun done a wq hw h => ?_⟩, ?_⟩
    · have e88 := ch_new (i := 17) (t := 88) h (hw 17 (by decide)) rfl rfl; exact ch_move (ch_ev e88)
    refine ⟨.inl ⟨rfl, fun done a wq hw h => ?_⟩, ?_⟩
    · have e18 := ch_old (t := 18) (v := iv 0) h rfl rfl; exact ch_move (ch_ev e18)
    refine ⟨.inl ⟨rfl, fun done a wq hw h => ?_⟩, ?_⟩
    · have e90 := ch_new (i := 19) (t := 90) h (hw 19 (by decide)) rfl rfl; exact ch_eql_int (by kernel_rfl) (ch_ev e90) rfl (by simp)
    refine ⟨.inl ⟨rfl, fun done a wq hw h => ?_⟩, ?_⟩
    · have e89 := ch_new (i := 18) (t := 89) h (hw 18 (by decide)) rfl rfl; have e91 := ch_new (i := 20) (t := 91) h (hw 20 (by decide)) rfl rfl; exact ch_pick_t e89 (ch_ev e91)
    refine ⟨.inl ⟨rfl, fun done a wq hw h => ?_⟩, ?_⟩
    · have e92 := ch_new (i := 21) (t := 92) h (hw 21 (by decide)) rfl rfl; exact ch_move (ch_ev e92)
    refine ⟨.inl ⟨rfl, fun done a wq hw h => ?_⟩, ?_⟩
    · have e20 := ch_old (t := 20) (v := iv 0) h rfl rfl; exact ch_move (ch_ev e20)
    refine ⟨.inl ⟨rfl, fun done a wq hw h => ?_⟩, ?_⟩
    · have e94 := ch_new (i := 23) (t := 94) h (hw 23 (by decide)) rfl rfl; exact ch_eql_int (by kernel_rfl) (ch_ev e94) rfl (by simp)
    refine ⟨.inl ⟨rfl, fun done a wq hw h => ?_⟩, ?_⟩
    · have e93 := ch_new (i := 22) (t := 93) h (hw 22 (by decide)) rfl rfl; have e95 := ch_new (i := 24) (t := 95) h (hw 24 (by decide)) rfl rfl; exact ch_pick_t e93 (ch_ev e95)
    refine ⟨.inl ⟨rfl, fun done a wq hw h => ?_⟩, ?_⟩
    · have e96 := ch_new (i := 25) (t := 96) h (hw 25 (by decide)) rfl rfl; exact ch_move (ch_ev e96)
    refine ⟨.inl ⟨rfl, fun done a wq hw h => ?_⟩, ?_⟩
    · have e8 := ch_old (t := 8) (v := iv 1) h rfl rfl; exact ch_move (ch_ev e8)
    refine ⟨.inl ⟨rfl, fun done a wq hw h => ?_⟩, ?_⟩
    · have e98 := ch_new (i := 27) (t := 98) h (hw 27 (by decide)) rfl rfl; exact ch_eql_int (by kernel_rfl) (ch_ev e98) rfl (by simp)
    refine ⟨.inl ⟨rfl, fun done a wq hw h => ?_⟩, ?_⟩
    · have e97 := ch_new (i := 26) (t := 97) h (hw 26 (by decide)) rfl rfl; have e99 := ch_new (i := 28) (t := 99) h (hw 28 (by decide)) rfl rfl; exact ch_pick_t e97 (ch_ev e99)
    refine ⟨.inl ⟨rfl, fun done a wq hw h => ?_⟩, ?_⟩
    · have e100 := ch_new (i := 29) (t := 100) h (hw 29 (by decide)) rfl rfl; exact ch_move (ch_ev e100)
    refine ⟨.inl ⟨rfl, fun done a wq hw h => ?_⟩, ?_⟩
    · have e7 := ch_old (t := 7) (v := .pointer (some ⟨w5.heap.size, 0, none⟩)) h rfl rfl; refine ch_pure ?_; go_simp
    refine ⟨.inl ⟨rfl, fun done a wq hw h => ?_⟩, ?_⟩
    · have e102 := ch_new (i := 31) (t := 102) h (hw 31 (by decide)) rfl rfl; obtain ⟨r, f, n, c, z, l⟩ := keep1 h.bel Ra (by simp [recA]) Raf; refine ch_pure ?_; go_simp
    refine ⟨.inl ⟨rfl, fun done a wq hw h => ?_⟩, ?_⟩
    · have e103 := ch_new (i := 32) (t := 103) h (hw 32 (by decide)) rfl rfl; exact ch_eql_int (by kernel_rfl) (ch_ev e103) rfl (by simp)
    refine ⟨.inl ⟨rfl, fun done a wq hw h => ?_⟩, ?_⟩
    · have e101 := ch_new (i := 30) (t := 101) h (hw 30 (by decide)) rfl rfl; have e104 := ch_new (i := 33) (t := 104) h (hw 33 (by decide)) rfl rfl; exact ch_pick_t e101 (ch_ev e104)
    refine ⟨.inl ⟨rfl, fun done a wq hw h => ?_⟩, ?_⟩
    · have e105 := ch_new (i := 34) (t := 105) h (hw 34 (by decide)) rfl rfl; exact ch_move (ch_ev e105)
    refine ⟨.inl ⟨rfl, fun done a wq hw h => ?_⟩, ?_⟩
    · have e11 := ch_old (t := 11) (v := iv 0) h rfl rfl; exact ch_move (ch_ev e11)
    refine ⟨.inl ⟨rfl, fun done a wq hw h => ?_⟩, ?_⟩
    · have e107 := ch_new (i := 36) (t := 107) h (hw 36 (by decide)) rfl rfl; exact ch_eql_int (by kernel_rfl) (ch_ev e107) rfl (by simp)
    refine ⟨.inl ⟨rfl, fun done a wq hw h => ?_⟩, ?_⟩
    · have e106 := ch_new (i := 35) (t := 106) h (hw 35 (by decide)) rfl rfl; have e108 := ch_new (i := 37) (t := 108) h (hw 37 (by decide)) rfl rfl; exact ch_pick_t e106 (ch_ev e108)
    refine ⟨.inl ⟨rfl, fun done a wq hw h => ?_⟩, ?_⟩
    · have e109 := ch_new (i := 38) (t := 109) h (hw 38 (by decide)) rfl rfl; exact ch_move (ch_ev e109)
    refine ⟨.inl ⟨rfl, fun done a wq hw h => ?_⟩, ?_⟩
    · have e10 := ch_old (t := 10) (v := .pointer (some ⟨w6.heap.size, 0, none⟩)) h rfl rfl; obtain ⟨r, f, n, c, z, l⟩ := keep1 h.bel Rb (by simp [recA]) Rbf; refine ch_pure ?_; go_simp
    refine ⟨.inl ⟨rfl, fun done a wq hw h => ?_⟩, ?_⟩
    · exact ch_call (by go_simp) (by go_simp) (K1.out _)
    refine ⟨.inl ⟨rfl, fun done a wq hw h => ?_⟩, ?_⟩
    · have e111 := ch_new (i := 40) (t := 111) h (hw 40 (by decide)) rfl rfl; have e112 := ch_new (i := 41) (t := 112) h (hw 41 (by decide)) rfl rfl; refine ch_pure ?_; go_simp
    refine ⟨.inl ⟨rfl, fun done a wq hw h => ?_⟩, ?_⟩
    · have e110 := ch_new (i := 39) (t := 110) h (hw 39 (by decide)) rfl rfl; have e113 := ch_new (i := 42) (t := 113) h (hw 42 (by decide)) rfl rfl; exact ch_pick_t e110 (ch_ev e113)
    refine ⟨.inl ⟨rfl, fun done a wq hw h => ?_⟩, ?_⟩
    · have e114 := ch_new (i := 43) (t := 114) h (hw 43 (by decide)) rfl rfl; exact ch_move (ch_ev e114)
    refine ⟨.inl ⟨rfl, fun done a wq hw h => ?_⟩, ?_⟩
    · have e13 := ch_old (t := 13) (v := iv 1) h rfl rfl; exact ch_move (ch_ev e13)
    refine ⟨.inl ⟨rfl, fun done a wq hw h => ?_⟩, ?_⟩
    · have e116 := ch_new (i := 45) (t := 116) h (hw 45 (by decide)) rfl rfl; exact ch_eql_int (by kernel_rfl) (ch_ev e116) rfl (by simp)
    refine ⟨.inl ⟨rfl, fun done a wq hw h => ?_⟩, ?_⟩
    · have e115 := ch_new (i := 44) (t := 115) h (hw 44 (by decide)) rfl rfl; have e117 := ch_new (i := 46) (t := 117) h (hw 46 (by decide)) rfl rfl; exact ch_pick_t e115 (ch_ev e117)
    refine ⟨.inl ⟨rfl, fun done a wq hw h => ?_⟩, ?_⟩
    · have e118 := ch_new (i := 47) (t := 118) h (hw 47 (by decide)) rfl rfl; exact ch_move (ch_ev e118)
    refine ⟨.inl ⟨rfl, fun done a wq hw h => ?_⟩, ?_⟩
    · have e14 := ch_old (t := 14) (v := .pointer (some ⟨w7.heap.size, 0, none⟩)) h rfl rfl; refine ch_pure ?_; go_simp
    refine ⟨.inl ⟨rfl, fun done a wq hw h => ?_⟩, ?_⟩
    · have e120 := ch_new (i := 49) (t := 120) h (hw 49 (by decide)) rfl rfl; obtain ⟨r, f, n, c, z, l⟩ := keep1 h.bel Rc (by simp [recA]) Rcf; refine ch_pure ?_; go_simp
    refine ⟨.inl ⟨rfl, fun done a wq hw h => ?_⟩, ?_⟩
    · have e121 := ch_new (i := 50) (t := 121) h (hw 50 (by decide)) rfl rfl; exact ch_eql_int (by kernel_rfl) (ch_ev e121) rfl (by simp)
    refine ⟨.inl ⟨rfl, fun done a wq hw h => ?_⟩, ?_⟩
    · have e119 := ch_new (i := 48) (t := 119) h (hw 48 (by decide)) rfl rfl; have e122 := ch_new (i := 51) (t := 122) h (hw 51 (by decide)) rfl rfl; exact ch_pick_t e119 (ch_ev e122)
    refine ⟨.inl ⟨rfl, fun done a wq hw h => ?_⟩, ?_⟩
    · have e123 := ch_new (i := 52) (t := 123) h (hw 52 (by decide)) rfl rfl; exact ch_move (ch_ev e123)
    refine ⟨.inl ⟨rfl, fun done a wq hw h => ?_⟩, ?_⟩
    · have e16 := ch_old (t := 16) (v := iv 0) h rfl rfl; exact ch_move (ch_ev e16)
    refine ⟨.inl ⟨rfl, fun done a wq hw h => ?_⟩, ?_⟩
    · have e125 := ch_new (i := 54) (t := 125) h (hw 54 (by decide)) rfl rfl; exact ch_eql_int (by kernel_rfl) (ch_ev e125) rfl (by simp)
    refine ⟨.inl ⟨rfl, fun done a wq hw h => ?_⟩, ?_⟩
    · have e124 := ch_new (i := 53) (t := 124) h (hw 53 (by decide)) rfl rfl; have e126 := ch_new (i := 55) (t := 126) h (hw 55 (by decide)) rfl rfl; exact ch_pick_t e124 (ch_ev e126)
    refine ⟨.inl ⟨rfl, fun done a wq hw h => ?_⟩, ?_⟩
    · have e127 := ch_new (i := 56) (t := 127) h (hw 56 (by decide)) rfl rfl; exact ch_move (ch_ev e127)
    refine ⟨.inl ⟨rfl, fun done a wq hw h => ?_⟩, ?_⟩
    · have e19 := ch_old (t := 19) (v := .pointer (some ⟨w9.heap.size, 0, none⟩)) h rfl rfl; refine ch_pure ?_; go_simp
    refine ⟨.inl ⟨rfl, fun done a wq hw h => ?_⟩, ?_⟩
    · have e129 := ch_new (i := 58) (t := 129) h (hw 58 (by decide)) rfl rfl; obtain ⟨r, f, n, c, z, l⟩ := keep1 h.bel Re (by simp [recA]) Ref; refine ch_pure ?_; go_simp
    refine ⟨.inl ⟨rfl, fun done a wq hw h => ?_⟩, ?_⟩
    · have e130 := ch_new (i := 59) (t := 130) h (hw 59 (by decide)) rfl rfl; exact ch_eql_int (by kernel_rfl) (ch_ev e130) rfl (by simp)
    refine ⟨.inl ⟨rfl, fun done a wq hw h => ?_⟩, ?_⟩
    · have e128 := ch_new (i := 57) (t := 128) h (hw 57 (by decide)) rfl rfl; have e131 := ch_new (i := 60) (t := 131) h (hw 60 (by decide)) rfl rfl; exact ch_pick_t e128 (ch_ev e131)
    refine ⟨.inl ⟨rfl, fun done a wq hw h => ?_⟩, ?_⟩
    · have e132 := ch_new (i := 61) (t := 132) h (hw 61 (by decide)) rfl rfl; exact ch_move (ch_ev e132)
    refine ⟨.inl ⟨rfl, fun done a wq hw h => ?_⟩, ?_⟩
    · have e19 := ch_old (t := 19) (v := .pointer (some ⟨w9.heap.size, 0, none⟩)) h rfl rfl; refine ch_pure ?_; go_simp
    refine ⟨.inl ⟨rfl, fun done a wq hw h => ?_⟩, ?_⟩
    · have e134 := ch_new (i := 63) (t := 134) h (hw 63 (by decide)) rfl rfl; obtain ⟨r, f, n, c, z, l⟩ := keep1 h.bel Re (by simp [recA]) Ref; refine ch_pure ?_; go_simp
    refine ⟨.inl ⟨rfl, fun done a wq hw h => ?_⟩, ?_⟩
    · have e135 := ch_new (i := 64) (t := 135) h (hw 64 (by decide)) rfl rfl; exact ch_eql_int (by kernel_rfl) (ch_ev e135) rfl (by simp)
    refine ⟨.inl ⟨rfl, fun done a wq hw h => ?_⟩, ?_⟩
    · have e133 := ch_new (i := 62) (t := 133) h (hw 62 (by decide)) rfl rfl; have e136 := ch_new (i := 65) (t := 136) h (hw 65 (by decide)) rfl rfl; exact ch_pick_t e133 (ch_ev e136)
    refine ⟨.inl ⟨rfl, fun done a wq hw h => ?_⟩, ?_⟩
    · have e137 := ch_new (i := 66) (t := 137) h (hw 66 (by decide)) rfl rfl; exact ch_move (ch_ev e137)
    refine ⟨.inl ⟨rfl, fun done a wq hw h => ?_⟩, ?_⟩
    · refine ch_pure ?_; go_simp
    refine ⟨.inl ⟨rfl, fun done a wq hw h => ?_⟩, ?_⟩
    · have e139 := ch_new (i := 68) (t := 139) h (hw 68 (by decide)) rfl rfl; exact ch_call (by go_simp) (by go_simp) (K11.out _)
    refine ⟨.inl ⟨rfl, fun done a wq hw h => ?_⟩, ?_⟩
    · have e140 := ch_new (i := 69) (t := 140) h (hw 69 (by decide)) rfl rfl; exact ch_eql_int (by kernel_rfl) (ch_ev e140) rfl (by simp)
    refine ⟨.inl ⟨rfl, fun done a wq hw h => ?_⟩, ?_⟩
    · have e138 := ch_new (i := 67) (t := 138) h (hw 67 (by decide)) rfl rfl; have e141 := ch_new (i := 70) (t := 141) h (hw 70 (by decide)) rfl rfl; exact ch_pick_t e138 (ch_ev e141)
    refine ⟨.inl ⟨rfl, fun done a wq hw h => ?_⟩, ?_⟩
    · have e142 := ch_new (i := 71) (t := 142) h (hw 71 (by decide)) rfl rfl; exact ch_move (ch_ev e142)
    refine ⟨.inl ⟨rfl, fun done a wq hw h => ?_⟩, ?_⟩
    · have e19 := ch_old (t := 19) (v := .pointer (some ⟨w9.heap.size, 0, none⟩)) h rfl rfl; obtain ⟨r, f, n, c, z, l⟩ := keep1 h.bel Re (by simp [recA]) Ref; refine ch_pure ?_; go_simp
    refine ⟨.inl ⟨rfl, fun done a wq hw h => ?_⟩, ?_⟩
    · have e144 := ch_new (i := 73) (t := 144) h (hw 73 (by decide)) rfl rfl; exact ch_call (by go_simp) (by go_simp) (K12.out _)
    refine ⟨.inl ⟨rfl, fun done a wq hw h => ?_⟩, ?_⟩
    · have e145 := ch_new (i := 74) (t := 145) h (hw 74 (by decide)) rfl rfl; exact ch_eql_int (by kernel_rfl) (ch_ev e145) rfl (by simp)
    refine ⟨.inl ⟨rfl, fun done a wq hw h => ?_⟩, ?_⟩
    · have e143 := ch_new (i := 72) (t := 143) h (hw 72 (by decide)) rfl rfl; have e146 := ch_new (i := 75) (t := 146) h (hw 75 (by decide)) rfl rfl; exact ch_pick_t e143 (ch_ev e146)
    refine ⟨.inl ⟨rfl, fun done a wq hw h => ?_⟩, ?_⟩
    · have e147 := ch_new (i := 76) (t := 147) h (hw 76 (by decide)) rfl rfl; exact ch_assign (ch_ev e147)
    exact trivial
  · intro w10 hb
    go_wp2_with fail
    have hs := HB9.out.size
    refine bodyPost_ret (results_tmp rfl _ _ _) rfl ⟨by kernel_rfl, Below.trans ?_ (hb.mono (by simp; omega))⟩
    exact HB9.out.alloc hs _
end Go.Proofs.Ytefkfglkpebbmaa
