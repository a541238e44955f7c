/- The walk of record.Write. -/
import Derived.Test.YtefkfglkpebbmaaRecRead
namespace Go.Proofs.Ytefkfglkpebbmaa
open Go.RowKit
set_option linter.unusedVariables false
attribute [go_sem] setRow_setRow

set_option maxRecDepth 100000 in
set_option maxHeartbeats 1000000 in
theorem write_bad (c d : Cop) (r : Rec) (torn : Bool) (w : World) (h : copCheck c d ≠ 0) : Calls Try.prog 27 #[.agg (copsA c d), .agg (recA r), .bool torn] w (RetB w (.tuple #[.agg (copsA Cop.zero Cop.zero), iv (copCheck c d)])) := by
  have hb : (copCheck c d != 0) = true := by simp [h]
  go_enter Try.func27, Try.ntmps27
  go_wp2_with fail
  refine (read_bad c d _ h).mono ?_
  rintro e w1 ⟨rfl, hb1⟩
  obtain ⟨r0, f0, n0, c0, z0, l0⟩ := keep1 (g := w.heap.size) (cs := copsA c d) hb1 (by go_simp) (by go_simp) (by go_simp)
  obtain ⟨r1, f1, n1, c1, z1, l1⟩ := keep1 (g := w.heap.size + 1) (cs := recA r) hb1 (by go_simp) (by go_simp) (by go_simp)
  obtain ⟨r2, f2, n2, c2, z2, l2⟩ := keep1 (g := w.heap.size + 1 + 1) (cs := copsA Cop.zero Cop.zero) hb1 (by go_simp) (by go_simp) (by go_simp)
  obtain ⟨r3, f3, n3, c3, z3, l3⟩ := keep1 (g := w.heap.size + 1 + 1 + 1) (cs := copsA Cop.zero Cop.zero) hb1 (by go_simp) (by go_simp) (by go_simp)
  have HB := Lib.hid ((((((Below.refl _ _).alloc (Nat.le_refl _) _).alloc (by simp) _).alloc (by simp; omega) _).alloc (by simp; omega) _).trans (hb1.mono (B' := w.heap.size) (by simp; omega)))
  clear hb1 h
  go_wp2_with fail
  refine bodyPost_ret (results_ct rfl rfl (cs := copsA Cop.zero Cop.zero) (by go_simp) (by go_simp) (by go_simp)) rfl ⟨rfl, ?_⟩
  have hs := HB.out.size
  repeat (first | exact HB.out | refine below_row ?_ (by omega) _ | refine Below.setCell ?_ (by simp <;> omega) _ | refine Below.alloc ?_ (by simp <;> omega) _)

set_option maxRecDepth 100000 in
set_option maxHeartbeats 1000000 in
theorem write_ok (c d : Cop) (r : Rec) (torn : Bool) (w : World) (h : copCheck c d = 0) : Calls Try.prog 27 #[.agg (copsA c d), .agg (recA r), .bool torn] w
    (RetB w (.tuple #[.agg (copsA (recWrite c d r torn).1.1 (recWrite c d r torn).1.2), iv (recWrite c d r torn).2])) := by
  have hrg := recCheck_range0 (recRead_ok h)
  have hk : (recRead c d).2 = 0 ∨ (recRead c d).2 = 1 := by unfold recRead; split <;> simp
  have hw : recWrite c d r torn = if recCheck { r with gen := (recRead c d).1.gen + 1 } = 0 then (recPut c d r torn, 0) else ((Cop.zero, Cop.zero), recCheck { r with gen := (recRead c d).1.gen + 1 }) := by unfold recWrite; rw [if_pos h]
  have hp : recPut c d r torn = if (recRead c d).2 = 0 then (c, if torn = true then Cop.zero else ⟨true, { r with gen := (recRead c d).1.gen + 1 }⟩) else (if torn = true then Cop.zero else ⟨true, { r with gen := (recRead c d).1.gen + 1 }⟩, d) := rfl
  have hread := read_ok c d
  have hread := fun w => hread w h
  generalize recRead c d = q at *
  obtain ⟨was, k⟩ := q
  simp only at hk hw hp hread hrg
  have HW := Lib.hid hw
  have HP := Lib.hid hp
  have HRd := Lib.hid hread
  have hg1 := hrg.1
  have hg2 := hrg.2.1
  clear hw hp hread hrg h
  go_enter Try.func27, Try.ntmps27
  go_wp2_with fail
  refine (HRd.out _).mono ?_
  rintro e w1 ⟨rfl, hb1⟩
  obtain ⟨r0, f0, n0, c0, z0, l0⟩ := keep1 (g := w.heap.size) (cs := copsA c d) hb1 (by go_simp) (by go_simp) (by go_simp)
  obtain ⟨r1, f1, n1, c1, z1, l1⟩ := keep1 (g := w.heap.size + 1) (cs := recA r) hb1 (by go_simp) (by go_simp) (by go_simp)
  obtain ⟨r2, f2, n2, c2, z2, l2⟩ := keep1 (g := w.heap.size + 1 + 1) (cs := copsA Cop.zero Cop.zero) hb1 (by go_simp) (by go_simp) (by go_simp)
  obtain ⟨r3, f3, n3, c3, z3, l3⟩ := keep1 (g := w.heap.size + 1 + 1 + 1) (cs := copsA Cop.zero Cop.zero) hb1 (by go_simp) (by go_simp) (by go_simp)
  have HB := Lib.hid ((((((Below.refl _ _).alloc (Nat.le_refl _) _).alloc (by simp) _).alloc (by simp; omega) _).alloc (by simp; omega) _).trans (hb1.mono (B' := w.heap.size) (by simp; omega)))
  clear hb1
  go_wp2_with fail
  refine (recCheckA_calls { r with gen := was.gen + 1 } _).mono ?_
  rintro e w2 ⟨rfl, hb2⟩
  obtain ⟨r5, f5, n5, c5, z5, l5⟩ := keep1 (g := w.heap.size) (cs := copsA c d) hb2 (by go_simp) (by go_simp) (by go_simp)
  obtain ⟨r6, f6, n6, c6, z6, l6⟩ := keep1 (g := w.heap.size + 1) (cs := recA { r with gen := was.gen + 1 }) hb2 (by go_simp) (by go_simp) (by go_simp)
  obtain ⟨r7, f7, n7, c7, z7, l7⟩ := keep1 (g := w.heap.size + 1 + 1) (cs := copsA Cop.zero Cop.zero) hb2 (by go_simp) (by go_simp) (by go_simp)
  obtain ⟨r8, f8, n8, c8, z8, l8⟩ := keep1 (g := w.heap.size + 1 + 1 + 1) (cs := copsA Cop.zero Cop.zero) hb2 (by go_simp) (by go_simp) (by go_simp)
  have hs := HB.out.size
  have HB2 : Hid (Below w.heap.size w w2) := ((HB.out.setCell (p := ⟨w.heap.size + 1, 0, none⟩) (by simp) (.int .i64 (was.gen + 1))).alloc (by simp; omega) (.cells (recA was) 44)).trans (hb2.mono (by simp; omega))
  have hs2 := HB2.out.size
  clear hb2 r0 f0 n0 c0 z0 l0 r1 f1 n1 c1 z1 l1 r2 f2 n2 c2 z2 l2 r3 f3 n3 c3 z3 l3 hs
  by_cases hz : recCheck { r with gen := was.gen + 1 } = 0
  · have hz' : (recCheck { r with gen := was.gen + 1 } != 0) = false := by simp [hz]
    have HE := Lib.hid (HW.out.trans (if_pos hz))
    clear hz HW
    rcases hk with rfl | rfl
    · have HP2 := Lib.hid (HP.out.trans (if_pos rfl))
      cases torn
      · go_wp2_with fail
        refine bodyPost_ret (results_ct rfl rfl (cs := copsA c ⟨true, { r with gen := was.gen + 1 }⟩) (by go_simp) (by go_simp) (by first | (go_simp; done) | (go_simp; kernel_rfl))) rfl ⟨by rw [HE.out, HP2.out]; rfl, ?_⟩
        repeat (first | exact HB2.out | refine below_row ?_ (by omega) _ | refine Below.setCell ?_ (by simp <;> omega) _ | refine Below.alloc ?_ (by simp <;> omega) _)
      · go_wp2_with fail
        refine bodyPost_ret (results_ct rfl rfl (cs := copsA c Cop.zero) (by go_simp) (by go_simp) (by first | (go_simp; done) | (go_simp; kernel_rfl))) rfl ⟨by rw [HE.out, HP2.out]; rfl, ?_⟩
        repeat (first | exact HB2.out | refine below_row ?_ (by omega) _ | refine Below.setCell ?_ (by simp <;> omega) _ | refine Below.alloc ?_ (by simp <;> omega) _)
    · have HP2 := Lib.hid (HP.out.trans (if_neg (by decide)))
      cases torn
      · go_wp2_with fail
        refine bodyPost_ret (results_ct rfl rfl (cs := copsA ⟨true, { r with gen := was.gen + 1 }⟩ d) (by go_simp) (by go_simp) (by first | (go_simp; done) | (go_simp; kernel_rfl))) rfl ⟨by rw [HE.out, HP2.out]; rfl, ?_⟩
        repeat (first | exact HB2.out | refine below_row ?_ (by omega) _ | refine Below.setCell ?_ (by simp <;> omega) _ | refine Below.alloc ?_ (by simp <;> omega) _)
      · go_wp2_with fail
        refine bodyPost_ret (results_ct rfl rfl (cs := copsA Cop.zero d) (by go_simp) (by go_simp) (by first | (go_simp; done) | (go_simp; kernel_rfl))) rfl ⟨by rw [HE.out, HP2.out]; rfl, ?_⟩
        repeat (first | exact HB2.out | refine below_row ?_ (by omega) _ | refine Below.setCell ?_ (by simp <;> omega) _ | refine Below.alloc ?_ (by simp <;> omega) _)
  · have hz' : (recCheck { r with gen := was.gen + 1 } != 0) = true := by simp [hz]
    have HE := Lib.hid (HW.out.trans (if_neg hz))
    clear hz HW HP hk
    go_wp2_with fail
    refine bodyPost_ret (results_ct rfl rfl (cs := copsA Cop.zero Cop.zero) (by go_simp) (by go_simp) (by first | (go_simp; done) | (go_simp; kernel_rfl))) rfl ⟨by rw [HE.out]; rfl, ?_⟩
    repeat (first | exact HB2.out | refine below_row ?_ (by omega) _ | refine Below.setCell ?_ (by simp <;> omega) _ | refine Below.alloc ?_ (by simp <;> omega) _)
theorem write_calls (c d : Cop) (r : Rec) (torn : Bool) (w : World) : Calls Try.prog 27 #[.agg (copsA c d), .agg (recA r), .bool torn] w
    (RetB w (.tuple #[.agg (copsA (recWrite c d r torn).1.1 (recWrite c d r torn).1.2), iv (recWrite c d r torn).2])) := by
  by_cases h : copCheck c d = 0
  · exact write_ok c d r torn w h
  · have e : recWrite c d r torn = ((Cop.zero, Cop.zero), copCheck c d) := by unfold recWrite; rw [if_neg h]
    rw [e]; exact write_bad c d r torn w h
end Go.Proofs.Ytefkfglkpebbmaa
