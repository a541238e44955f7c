/- The document's answer on records: Confirmed, Written; the literals. -/
import Derived.Test.YtefkfglkpebbmaaRecRefN
namespace Go.Proofs.Ytefkfglkpebbmaa
open Go.RowKit
set_option linter.unusedVariables false

theorem big_inf' (n : Nat) (h : 0 < n) : bigBuild Try.prog 41 n := by
  obtain ⟨i, hi, _⟩ := info_parts (P := Try.prog) (e := 41) (z := .agg (infA Inf.zero)) (size := 3) (bytes := 24) (by kernel_rfl)
  exact ⟨i, hi, h⟩
theorem big_infs' (n : Nat) (h : 0 < n) : bigBuild Try.prog 42 n := by
  obtain ⟨i, hi, _⟩ := info_parts (P := Try.prog) (e := 42) (z := .agg (infsA Inf.zero Inf.zero)) (size := 6) (bytes := 48) (by kernel_rfl)
  exact ⟨i, hi, h⟩
theorem big_rec' (n : Nat) (h : 0 < n) : bigBuild Try.prog 44 n := by
  obtain ⟨i, hi, _⟩ := info_parts (P := Try.prog) (e := 44) (z := .agg (recA Rec.zero)) (size := 11) (bytes := 88) (by kernel_rfl)
  exact ⟨i, hi, h⟩
theorem big_cops' (n : Nat) (h : 0 < n) : bigBuild Try.prog 47 n := by
  obtain ⟨i, hi, _⟩ := info_parts (P := Try.prog) (e := 47) (z := .agg (copsA Cop.zero Cop.zero)) (size := 24) (bytes := 192) (by kernel_rfl)
  exact ⟨i, hi, h⟩
@[go_sem] theorem big_inf1 : bigBuild Try.prog 41 1 := big_inf' 1 (by decide)
@[go_sem] theorem big_infs1 : bigBuild Try.prog 42 1 := big_infs' 1 (by decide)
@[go_sem] theorem big_infs2 : bigBuild Try.prog 42 2 := big_infs' 2 (by decide)
@[go_sem] theorem big_rec3 : bigBuild Try.prog 44 3 := big_rec' 3 (by decide)
@[go_sem] theorem big_rec4 : bigBuild Try.prog 44 4 := big_rec' 4 (by decide)
@[go_sem] theorem big_cops1 : bigBuild Try.prog 47 1 := big_cops' 1 (by decide)
@[go_sem] theorem big_cops2 : bigBuild Try.prog 47 2 := big_cops' 2 (by decide)
@[go_sem] theorem build_inf1 (a : Int) (w : World) : runBuild Try.prog 41 #[(0, .int .i64 a)] w = .ok (.agg (infA ⟨a, 0, 0⟩)) w := by kernel_rfl
@[go_sem] theorem build_infs1 (x : Inf) (w : World) : runBuild Try.prog 42 #[(0, .agg (infA x))] w = .ok (.agg (infsA x Inf.zero)) w := by kernel_rfl
@[go_sem] theorem build_infs2 (x y : Inf) (w : World) : runBuild Try.prog 42 #[(0, .agg (infA x)), (1, .agg (infA y))] w = .ok (.agg (infsA x y)) w := by kernel_rfl
@[go_sem] theorem build_rec3 (g f : Int) (x y : Inf) (w : World) : runBuild Try.prog 44 #[(0, .int .i64 g), (4, .int .i64 f), (5, .agg (infsA x y))] w = .ok (.agg (recA ⟨g, 0, false, 0, f, x, y⟩)) w := by kernel_rfl
@[go_sem] theorem build_rec4 (g k f : Int) (x y : Inf) (w : World) : runBuild Try.prog 44 #[(0, .int .i64 g), (1, .int .i64 k), (4, .int .i64 f), (5, .agg (infsA x y))] w = .ok (.agg (recA ⟨g, k, false, 0, f, x, y⟩)) w := by kernel_rfl
@[go_sem] theorem build_cops1 (c : Cop) (w : World) : runBuild Try.prog 47 #[(0, .agg (copA c))] w = .ok (.agg (copsA c Cop.zero)) w := by kernel_rfl
@[go_sem] theorem build_cops2 (c d : Cop) (w : World) : runBuild Try.prog 47 #[(0, .agg (copA c)), (1, .agg (copA d))] w = .ok (.agg (copsA c d)) w := by kernel_rfl

set_option maxRecDepth 100000 in
set_option maxHeartbeats 8000000 in
theorem confirmed_calls (r : Rec) (w : World) (ha : 0 ≤ r.active ∧ r.active ≤ 1) : Calls Try.prog 38 #[.agg (recA r)] w (RetB w (.agg (recA (recDone r)))) := by
  go_enter Try.func38, Try.ntmps38
  have hk : r.active = 0 ∨ r.active = 1 := by omega
  obtain ⟨ha1, ha2⟩ := ha
  rcases hk with hk | hk
  · have HE := Lib.hid (show recDone r = (⟨r.gen, 1, false, 0, max r.floor r.b.ver, r.a, r.b⟩ : Rec) by unfold recDone Rec.at_; simp [hk])
    go_wp2_with fail
    go_region
    all_goals go_wp2_with fail
    all_goals (
      refine bodyPost_ret (results_c rfl rfl (cs := recA ⟨r.gen, 1, false, 0, max r.floor r.b.ver, r.a, r.b⟩) (by go_simp <;> (refine congrArg (fun z => recA ⟨_, _, _, _, z, _, _⟩) ?_; omega)) (by go_simp) (by go_simp)) rfl ⟨by rw [HE.out], ?_⟩
      repeat (first | exact Below.refl _ _ | refine below_row ?_ (by omega) _ | refine Below.setCell ?_ (by simp <;> omega) _ | refine Below.alloc ?_ (by simp <;> omega) _ | refine Below.drew ?_))
  · have HE := Lib.hid (show recDone r = (⟨r.gen, 0, false, 0, max r.floor r.a.ver, r.a, r.b⟩ : Rec) by unfold recDone Rec.at_; simp [hk])
    go_wp2_with fail
    go_region
    all_goals go_wp2_with fail
    all_goals (
      refine bodyPost_ret (results_c rfl rfl (cs := recA ⟨r.gen, 0, false, 0, max r.floor r.a.ver, r.a, r.b⟩) (by go_simp <;> (refine congrArg (fun z => recA ⟨_, _, _, _, z, _, _⟩) ?_; omega)) (by go_simp) (by go_simp)) rfl ⟨by rw [HE.out], ?_⟩
      repeat (first | exact Below.refl _ _ | refine below_row ?_ (by omega) _ | refine Below.setCell ?_ (by simp <;> omega) _ | refine Below.alloc ?_ (by simp <;> omega) _ | refine Below.drew ?_))
set_option maxRecDepth 100000 in
set_option maxHeartbeats 8000000 in
theorem written_calls (c d : Cop) (r : Rec) (torn : Bool) (w : World) (h : copCheck c d = 0) : Calls Try.prog 36 #[.agg (copsA c d), .agg (recA r), .bool torn] w
    (RetB w (.tuple #[.agg (copsA (recWrite c d r torn).1.1 (recWrite c d r torn).1.2), iv (recWrite c d r torn).2])) := by
  have hrg := recCheck_range0 (recRead_ok h)
  have hk : (recRead c d).2 = 0 ∨ (recRead c d).2 = 1 := by unfold recRead; split <;> simp
  have hw : recWrite c d r torn = if recCheck { r with gen := (recRead c d).1.gen + 1 } = 0 then (recPut c d r torn, 0) else ((Cop.zero, Cop.zero), recCheck { r with gen := (recRead c d).1.gen + 1 }) := by unfold recWrite; rw [if_pos h]
  have hp : recPut c d r torn = if (recRead c d).2 = 0 then (c, if torn = true then Cop.zero else ⟨true, { r with gen := (recRead c d).1.gen + 1 }⟩) else (if torn = true then Cop.zero else ⟨true, { r with gen := (recRead c d).1.gen + 1 }⟩, d) := rfl
  have hread := newest_calls c d
  rw [refNewest_ok h] at hread
  generalize recRead c d = q at *
  obtain ⟨was, k⟩ := q
  simp only at hk hw hp hread hrg
  have HW := Lib.hid hw
  have HP := Lib.hid hp
  have HRd := Lib.hid hread
  have hg1 := hrg.1
  have hg2 := hrg.2.1
  clear hw hp hread hrg h
  go_enter Try.func36, Try.ntmps36
  go_wp2_with fail
  refine (HRd.out _).mono ?_
  rintro e w1 ⟨rfl, hb1⟩
  obtain ⟨r0, f0, n0, c0, z0, l0⟩ := keep1 (g := w.heap.size) (cs := copsA c d) hb1 (by go_simp) (by go_simp) (by go_simp)
  obtain ⟨r1, f1, n1, c1, z1, l1⟩ := keep1 (g := w.heap.size + 1) (cs := recA r) hb1 (by go_simp) (by go_simp) (by go_simp)
  obtain ⟨r2, f2, n2, c2, z2, l2⟩ := keep1 (g := w.heap.size + 1 + 1) (cs := copsA Cop.zero Cop.zero) hb1 (by go_simp) (by go_simp) (by go_simp)
  have HB := Lib.hid (((((Below.refl _ _).alloc (Nat.le_refl _) _).alloc (by simp) _).alloc (by simp; omega) _).trans (hb1.mono (B' := w.heap.size) (by simp; omega)))
  clear hb1
  go_wp2_with fail
  refine (refRecCheck_calls { r with gen := was.gen + 1 } _).mono ?_
  rintro e w2 ⟨rfl, hb2⟩
  obtain ⟨r5, f5, n5, c5, z5, l5⟩ := keep1 (g := w.heap.size) (cs := copsA c d) hb2 (by go_simp) (by go_simp) (by go_simp)
  obtain ⟨r6, f6, n6, c6, z6, l6⟩ := keep1 (g := w.heap.size + 1) (cs := recA { r with gen := was.gen + 1 }) hb2 (by go_simp) (by go_simp) (by go_simp)
  obtain ⟨r7, f7, n7, c7, z7, l7⟩ := keep1 (g := w.heap.size + 1 + 1) (cs := copsA Cop.zero Cop.zero) hb2 (by go_simp) (by go_simp) (by go_simp)
  have hs := HB.out.size
  have HB2 : Hid (Below w.heap.size w w2) := ((HB.out.setCell (p := ⟨w.heap.size + 1, 0, none⟩) (by simp) (.int .i64 (was.gen + 1))).alloc (by simp; omega) (.cells (recA was) 44)).trans (hb2.mono (by simp; omega))
  have hs2 := HB2.out.size
  clear hb2 r0 f0 n0 c0 z0 l0 r1 f1 n1 c1 z1 l1 r2 f2 n2 c2 z2 l2 hs
  by_cases hz : recCheck { r with gen := was.gen + 1 } = 0
  · have hz' : (recCheck { r with gen := was.gen + 1 } != 0) = false := by simp [hz]
    have HE := Lib.hid (HW.out.trans (if_pos hz))
    clear hz HW
    rcases hk with rfl | rfl
    · have HP2 := Lib.hid (HP.out.trans (if_pos rfl))
      cases torn
      · go_wp2_with fail
        refine bodyPost_ret (results_ct rfl rfl (cs := copsA c ⟨true, { r with gen := was.gen + 1 }⟩) (by go_simp) (by go_simp) (by go_simp)) rfl ⟨by rw [HE.out, HP2.out]; rfl, ?_⟩
        repeat (first | exact HB2.out | refine below_row ?_ (by omega) _ | refine Below.setCell ?_ (by simp <;> omega) _ | refine Below.alloc ?_ (by simp <;> omega) _)
      · go_wp2_with fail
        refine bodyPost_ret (results_ct rfl rfl (cs := copsA c Cop.zero) (by go_simp) (by go_simp) (by go_simp)) rfl ⟨by rw [HE.out, HP2.out]; rfl, ?_⟩
        repeat (first | exact HB2.out | refine below_row ?_ (by omega) _ | refine Below.setCell ?_ (by simp <;> omega) _ | refine Below.alloc ?_ (by simp <;> omega) _)
    · have HP2 := Lib.hid (HP.out.trans (if_neg (by decide)))
      cases torn
      · go_wp2_with fail
        refine bodyPost_ret (results_ct rfl rfl (cs := copsA ⟨true, { r with gen := was.gen + 1 }⟩ d) (by go_simp) (by go_simp) (by go_simp)) rfl ⟨by rw [HE.out, HP2.out]; rfl, ?_⟩
        repeat (first | exact HB2.out | refine below_row ?_ (by omega) _ | refine Below.setCell ?_ (by simp <;> omega) _ | refine Below.alloc ?_ (by simp <;> omega) _)
      · go_wp2_with fail
        refine bodyPost_ret (results_ct rfl rfl (cs := copsA Cop.zero d) (by go_simp) (by go_simp) (by go_simp)) rfl ⟨by rw [HE.out, HP2.out]; rfl, ?_⟩
        repeat (first | exact HB2.out | refine below_row ?_ (by omega) _ | refine Below.setCell ?_ (by simp <;> omega) _ | refine Below.alloc ?_ (by simp <;> omega) _)
  · have hz' : (recCheck { r with gen := was.gen + 1 } != 0) = true := by simp [hz]
    have HE := Lib.hid (HW.out.trans (if_neg hz))
    clear hz HW HP hk
    go_wp2_with fail
    refine bodyPost_ret (results_ct rfl rfl (cs := copsA Cop.zero Cop.zero) (by go_simp) (by go_simp) (by go_simp)) rfl ⟨by rw [HE.out]; rfl, ?_⟩
    repeat (first | exact HB2.out | refine below_row ?_ (by omega) _ | refine Below.setCell ?_ (by simp <;> omega) _ | refine Below.alloc ?_ (by simp <;> omega) _)
end Go.Proofs.Ytefkfglkpebbmaa
