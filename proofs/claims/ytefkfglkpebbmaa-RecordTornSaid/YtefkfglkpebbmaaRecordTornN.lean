/- The walk of the law RecordTorn. No conditions. -/
import Derived.Test.YtefkfglkpebbmaaRecKept
import Derived.Test.YtefkfglkpebbmaaRecArgsN
import Derived.Test.YtefkfglkpebbmaaRecLaws
namespace Go.Proofs.Ytefkfglkpebbmaa
open Go.RowKit
set_option linter.unusedVariables false

set_option maxRecDepth 100000 in
set_option maxHeartbeats 4000000 in
theorem torn_bad (c d : Cop) (r : Rec) (w : World) (h : copCheck c d ≠ 0) : Calls Try.prog 8 #[.agg (copsA c d), .agg (recA r)] w (RetB w (.bool true)) := by
  have hb0 : (copCheck c d != 0) = true := by simp [h]
  have K1 := Lib.hid (fun w => read_bad c d w h)
  have K0 := Lib.hid kept_calls
  clear h
  go_enter Try.func8, Try.ntmps8
  go_wp2_with fail
  refine (K1.out _).mono ?_
  rintro e w1 ⟨rfl, hb⟩
  obtain ⟨a0r, a0f, a0n, a0c, a0z, a0l⟩ := keep1 (g := w.heap.size) (cs := copsA c d) hb (by first | (go_simp; done) | (go_simp; rfl)) (by go_simp) (by go_simp)
  obtain ⟨a1r, a1f, a1n, a1c, a1z, a1l⟩ := keep1 (g := w.heap.size + 1) (cs := recA r) hb (by first | (go_simp; done) | (go_simp; rfl)) (by go_simp) (by go_simp)
  have HB1 : Hid (Below w.heap.size w w1) := by
    refine Lib.hid (Below.trans ?_ (hb.mono (by first | omega | (simp <;> omega))))
    repeat (first | exact Below.refl _ _ | refine below_row ?_ (by omega) _ | refine Below.setCell ?_ (by first | omega | (simp <;> omega)) _ | refine Below.alloc ?_ (by first | omega | (simp <;> omega)) _ | refine Below.drew ?_)
  clear hb
  go_wp2_with fail
  refine (K0.out _).mono ?_
  rintro e w2 ⟨rfl, hb⟩
  obtain ⟨a0r, a0f, a0n, a0c, a0z, a0l⟩ := keep1 (g := w.heap.size) (cs := copsA c d) hb (by first | (go_simp; done) | (go_simp; rfl)) (by go_simp) (by go_simp)
  obtain ⟨a1r, a1f, a1n, a1c, a1z, a1l⟩ := keep1 (g := w.heap.size + 1) (cs := recA r) hb (by first | (go_simp; done) | (go_simp; rfl)) (by go_simp) (by go_simp)
  obtain ⟨a2r, a2f, a2n, a2c, a2z, a2l⟩ := keep1 (g := w1.heap.size) (cs := recA Rec.zero) hb (by first | (go_simp; done) | (go_simp; rfl)) (by go_simp) (by go_simp)
  have HB2 : Hid (Below w.heap.size w w2) := by
    have hs := HB1.out.size
    refine Lib.hid (Below.trans ?_ (hb.mono (by first | omega | (simp <;> omega))))
    repeat (first | exact HB1.out | refine below_row ?_ (by omega) _ | refine Below.setCell ?_ (by first | omega | (simp <;> omega)) _ | refine Below.alloc ?_ (by first | omega | (simp <;> omega)) _ | refine Below.drew ?_)
  clear hb
  go_wp2_with fail
  refine (K0.out _).mono ?_
  rintro e w3 ⟨rfl, hb⟩
  obtain ⟨a0r, a0f, a0n, a0c, a0z, a0l⟩ := keep1 (g := w.heap.size) (cs := copsA c d) hb (by first | (go_simp; done) | (go_simp; rfl)) (by go_simp) (by go_simp)
  obtain ⟨a1r, a1f, a1n, a1c, a1z, a1l⟩ := keep1 (g := w.heap.size + 1) (cs := recA r) hb (by first | (go_simp; done) | (go_simp; rfl)) (by go_simp) (by go_simp)
  obtain ⟨a2r, a2f, a2n, a2c, a2z, a2l⟩ := keep1 (g := w1.heap.size) (cs := recA Rec.zero) hb (by first | (go_simp; done) | (go_simp; rfl)) (by go_simp) (by go_simp)
  have HB3 : Hid (Below w.heap.size w w3) := by
    have hs := HB2.out.size
    refine Lib.hid (Below.trans ?_ (hb.mono (by first | omega | (simp <;> omega))))
    repeat (first | exact HB2.out | refine below_row ?_ (by omega) _ | refine Below.setCell ?_ (by first | omega | (simp <;> omega)) _ | refine Below.alloc ?_ (by first | omega | (simp <;> omega)) _ | refine Below.drew ?_)
  clear hb
  go_wp2_with fail
  go_ret
  refine ⟨rfl, ?_⟩
  have hs := HB3.out.size
  repeat (first | exact HB3.out | refine below_row ?_ (by omega) _ | refine Below.setCell ?_ (by first | omega | (simp <;> omega)) _ | refine Below.alloc ?_ (by first | omega | (simp <;> omega)) _ | refine Below.drew ?_)

set_option maxRecDepth 100000 in
set_option maxHeartbeats 4000000 in
theorem torn_0 (c d A B : Cop) (was r : Rec) (w : World) (hg : 1 ≤ was.gen ∧ was.gen ≤ 1000000) (K0 : Hid (∀ w, Calls Try.prog 32 #[] w (RetB w (.bool true))))
    (K1 : Hid (∀ w, Calls Try.prog 26 #[.agg (copsA c d)] w (RetB w (.tuple #[.agg (recA was), iv 0, iv 0]))))
    (K2 : Hid (∀ w, Calls Try.prog 27 #[.agg (copsA c d), .agg (recA r), .bool false] w (RetB w (.tuple #[.agg (copsA c A), iv 0]))))
    (K3 : Hid (∀ w, Calls Try.prog 27 #[.agg (copsA c d), .agg (recA r), .bool true] w (RetB w (.tuple #[.agg (copsA c B), iv 0]))))
    (K4 : Hid (∀ w, Calls Try.prog 26 #[.agg (copsA c A)] w (RetB w (.tuple #[.agg (recA { r with gen := was.gen + 1 }), iv 1, iv 0]))))
    (K5 : Hid (∀ w, Calls Try.prog 26 #[.agg (copsA c B)] w (RetB w (.tuple #[.agg (recA was), iv 0, iv 0])))) :
    Calls Try.prog 8 #[.agg (copsA c d), .agg (recA r)] w (RetB w (.bool true)) := by
  obtain ⟨g1, g2⟩ := hg
  go_enter Try.func8, Try.ntmps8
  go_wp2_with fail
  refine (K1.out _).mono ?_
  rintro e w1 ⟨rfl, hb⟩
  obtain ⟨a0r, a0f, a0n, a0c, a0z, a0l⟩ := keep1 (g := w.heap.size) (cs := copsA c d) hb (by first | (go_simp; done) | (go_simp; rfl)) (by go_simp) (by go_simp)
  obtain ⟨a1r, a1f, a1n, a1c, a1z, a1l⟩ := keep1 (g := w.heap.size + 1) (cs := recA r) hb (by first | (go_simp; done) | (go_simp; rfl)) (by go_simp) (by go_simp)
  have HB1 : Hid (Below w.heap.size w w1) := by
    refine Lib.hid (Below.trans ?_ (hb.mono (by first | omega | (simp <;> omega))))
    repeat (first | exact Below.refl _ _ | refine below_row ?_ (by omega) _ | refine Below.setCell ?_ (by first | omega | (simp <;> omega)) _ | refine Below.alloc ?_ (by first | omega | (simp <;> omega)) _ | refine Below.drew ?_)
  clear hb
  go_wp2_with fail
  refine (K0.out _).mono ?_
  rintro e w2 ⟨rfl, hb⟩
  obtain ⟨a0r, a0f, a0n, a0c, a0z, a0l⟩ := keep1 (g := w.heap.size) (cs := copsA c d) hb (by first | (go_simp; done) | (go_simp; rfl)) (by go_simp) (by go_simp)
  obtain ⟨a1r, a1f, a1n, a1c, a1z, a1l⟩ := keep1 (g := w.heap.size + 1) (cs := recA r) hb (by first | (go_simp; done) | (go_simp; rfl)) (by go_simp) (by go_simp)
  obtain ⟨a2r, a2f, a2n, a2c, a2z, a2l⟩ := keep1 (g := w1.heap.size) (cs := recA was) hb (by first | (go_simp; done) | (go_simp; rfl)) (by go_simp) (by go_simp)
  have HB2 : Hid (Below w.heap.size w w2) := by
    have hs := HB1.out.size
    refine Lib.hid (Below.trans ?_ (hb.mono (by first | omega | (simp <;> omega))))
    repeat (first | exact HB1.out | refine below_row ?_ (by omega) _ | refine Below.setCell ?_ (by first | omega | (simp <;> omega)) _ | refine Below.alloc ?_ (by first | omega | (simp <;> omega)) _ | refine Below.drew ?_)
  clear hb
  go_wp2_with fail
  refine (K2.out _).mono ?_
  rintro e w3 ⟨rfl, hb⟩
  obtain ⟨a0r, a0f, a0n, a0c, a0z, a0l⟩ := keep1 (g := w.heap.size) (cs := copsA c d) hb (by first | (go_simp; done) | (go_simp; rfl)) (by go_simp) (by go_simp)
  obtain ⟨a1r, a1f, a1n, a1c, a1z, a1l⟩ := keep1 (g := w.heap.size + 1) (cs := recA r) hb (by first | (go_simp; done) | (go_simp; rfl)) (by go_simp) (by go_simp)
  obtain ⟨a2r, a2f, a2n, a2c, a2z, a2l⟩ := keep1 (g := w1.heap.size) (cs := recA was) hb (by first | (go_simp; done) | (go_simp; rfl)) (by go_simp) (by go_simp)
  have HB3 : Hid (Below w.heap.size w w3) := by
    have hs := HB2.out.size
    refine Lib.hid (Below.trans ?_ (hb.mono (by first | omega | (simp <;> omega))))
    repeat (first | exact HB2.out | refine below_row ?_ (by omega) _ | refine Below.setCell ?_ (by first | omega | (simp <;> omega)) _ | refine Below.alloc ?_ (by first | omega | (simp <;> omega)) _ | refine Below.drew ?_)
  clear hb
  go_wp2_with fail
  refine (K3.out _).mono ?_
  rintro e w4 ⟨rfl, hb⟩
  obtain ⟨a0r, a0f, a0n, a0c, a0z, a0l⟩ := keep1 (g := w.heap.size) (cs := copsA c d) hb (by first | (go_simp; done) | (go_simp; rfl)) (by go_simp) (by go_simp)
  obtain ⟨a1r, a1f, a1n, a1c, a1z, a1l⟩ := keep1 (g := w.heap.size + 1) (cs := recA r) hb (by first | (go_simp; done) | (go_simp; rfl)) (by go_simp) (by go_simp)
  obtain ⟨a2r, a2f, a2n, a2c, a2z, a2l⟩ := keep1 (g := w1.heap.size) (cs := recA was) hb (by first | (go_simp; done) | (go_simp; rfl)) (by go_simp) (by go_simp)
  obtain ⟨a3r, a3f, a3n, a3c, a3z, a3l⟩ := keep1 (g := w3.heap.size) (cs := copsA c A) hb (by first | (go_simp; done) | (go_simp; rfl)) (by go_simp) (by go_simp)
  have HB4 : Hid (Below w.heap.size w w4) := by
    have hs := HB3.out.size
    refine Lib.hid (Below.trans ?_ (hb.mono (by first | omega | (simp <;> omega))))
    repeat (first | exact HB3.out | refine below_row ?_ (by omega) _ | refine Below.setCell ?_ (by first | omega | (simp <;> omega)) _ | refine Below.alloc ?_ (by first | omega | (simp <;> omega)) _ | refine Below.drew ?_)
  clear hb
  go_wp2_with fail
  refine (K4.out _).mono ?_
  rintro e w5 ⟨rfl, hb⟩
  obtain ⟨a0r, a0f, a0n, a0c, a0z, a0l⟩ := keep1 (g := w.heap.size) (cs := copsA c d) hb (by first | (go_simp; done) | (go_simp; rfl)) (by go_simp) (by go_simp)
  obtain ⟨a1r, a1f, a1n, a1c, a1z, a1l⟩ := keep1 (g := w.heap.size + 1) (cs := recA r) hb (by first | (go_simp; done) | (go_simp; rfl)) (by go_simp) (by go_simp)
  obtain ⟨a2r, a2f, a2n, a2c, a2z, a2l⟩ := keep1 (g := w1.heap.size) (cs := recA was) hb (by first | (go_simp; done) | (go_simp; rfl)) (by go_simp) (by go_simp)
  obtain ⟨a3r, a3f, a3n, a3c, a3z, a3l⟩ := keep1 (g := w3.heap.size) (cs := copsA c A) hb (by first | (go_simp; done) | (go_simp; rfl)) (by go_simp) (by go_simp)
  obtain ⟨a4r, a4f, a4n, a4c, a4z, a4l⟩ := keep1 (g := w4.heap.size) (cs := copsA c B) hb (by first | (go_simp; done) | (go_simp; rfl)) (by go_simp) (by go_simp)
  have HB5 : Hid (Below w.heap.size w w5) := by
    have hs := HB4.out.size
    refine Lib.hid (Below.trans ?_ (hb.mono (by first | omega | (simp <;> omega))))
    repeat (first | exact HB4.out | refine below_row ?_ (by omega) _ | refine Below.setCell ?_ (by first | omega | (simp <;> omega)) _ | refine Below.alloc ?_ (by first | omega | (simp <;> omega)) _ | refine Below.drew ?_)
  clear hb
  go_wp2_with fail
  refine (K5.out _).mono ?_
  rintro e w6 ⟨rfl, hb⟩
  obtain ⟨a0r, a0f, a0n, a0c, a0z, a0l⟩ := keep1 (g := w.heap.size) (cs := copsA c d) hb (by first | (go_simp; done) | (go_simp; rfl)) (by go_simp) (by go_simp)
  obtain ⟨a1r, a1f, a1n, a1c, a1z, a1l⟩ := keep1 (g := w.heap.size + 1) (cs := recA r) hb (by first | (go_simp; done) | (go_simp; rfl)) (by go_simp) (by go_simp)
  obtain ⟨a2r, a2f, a2n, a2c, a2z, a2l⟩ := keep1 (g := w1.heap.size) (cs := recA was) hb (by first | (go_simp; done) | (go_simp; rfl)) (by go_simp) (by go_simp)
  obtain ⟨a3r, a3f, a3n, a3c, a3z, a3l⟩ := keep1 (g := w3.heap.size) (cs := copsA c A) hb (by first | (go_simp; done) | (go_simp; rfl)) (by go_simp) (by go_simp)
  obtain ⟨a4r, a4f, a4n, a4c, a4z, a4l⟩ := keep1 (g := w4.heap.size) (cs := copsA c B) hb (by first | (go_simp; done) | (go_simp; rfl)) (by go_simp) (by go_simp)
  obtain ⟨a5r, a5f, a5n, a5c, a5z, a5l⟩ := keep1 (g := w5.heap.size) (cs := recA { r with gen := was.gen + 1 }) hb (by first | (go_simp; done) | (go_simp; rfl)) (by go_simp) (by go_simp)
  have HB6 : Hid (Below w.heap.size w w6) := by
    have hs := HB5.out.size
    refine Lib.hid (Below.trans ?_ (hb.mono (by first | omega | (simp <;> omega))))
    repeat (first | exact HB5.out | refine below_row ?_ (by omega) _ | refine Below.setCell ?_ (by first | omega | (simp <;> omega)) _ | refine Below.alloc ?_ (by first | omega | (simp <;> omega)) _ | refine Below.drew ?_)
  clear hb
  go_wp2_with fail
  have R2 : rowOf ((w6.alloc (.cells (recA was) 44)).alloc (.cells (recA { r with gen := was.gen + 1 }) 44)).drew (w.heap.size) = copsA c d := by first | (go_simp; done) | (go_simp; intro he; exfalso; omega)
  have F2 : frOf ((w6.alloc (.cells (recA was) 44)).alloc (.cells (recA { r with gen := was.gen + 1 }) 44)).drew (w.heap.size) = (0, 0) := by go_simp
  have R3 : rowOf ((w6.alloc (.cells (recA was) 44)).alloc (.cells (recA { r with gen := was.gen + 1 }) 44)).drew (w.heap.size + 1) = recA r := by first | (go_simp; done) | (go_simp; intro he; exfalso; omega)
  have F3 : frOf ((w6.alloc (.cells (recA was) 44)).alloc (.cells (recA { r with gen := was.gen + 1 }) 44)).drew (w.heap.size + 1) = (0, 0) := by go_simp
  have R5 : rowOf ((w6.alloc (.cells (recA was) 44)).alloc (.cells (recA { r with gen := was.gen + 1 }) 44)).drew (w1.heap.size) = recA was := by first | (go_simp; done) | (go_simp; intro he; exfalso; omega)
  have F5 : frOf ((w6.alloc (.cells (recA was) 44)).alloc (.cells (recA { r with gen := was.gen + 1 }) 44)).drew (w1.heap.size) = (0, 0) := by go_simp
  have R8 : rowOf ((w6.alloc (.cells (recA was) 44)).alloc (.cells (recA { r with gen := was.gen + 1 }) 44)).drew (w3.heap.size) = copsA c A := by first | (go_simp; done) | (go_simp; intro he; exfalso; omega)
  have F8 : frOf ((w6.alloc (.cells (recA was) 44)).alloc (.cells (recA { r with gen := was.gen + 1 }) 44)).drew (w3.heap.size) = (0, 0) := by go_simp
  have R9 : rowOf ((w6.alloc (.cells (recA was) 44)).alloc (.cells (recA { r with gen := was.gen + 1 }) 44)).drew (w4.heap.size) = copsA c B := by first | (go_simp; done) | (go_simp; intro he; exfalso; omega)
  have F9 : frOf ((w6.alloc (.cells (recA was) 44)).alloc (.cells (recA { r with gen := was.gen + 1 }) 44)).drew (w4.heap.size) = (0, 0) := by go_simp
  have R11 : rowOf ((w6.alloc (.cells (recA was) 44)).alloc (.cells (recA { r with gen := was.gen + 1 }) 44)).drew (w5.heap.size) = recA { r with gen := was.gen + 1 } := by first | (go_simp; done) | (go_simp; intro he; exfalso; omega)
  have F11 : frOf ((w6.alloc (.cells (recA was) 44)).alloc (.cells (recA { r with gen := was.gen + 1 }) 44)).drew (w5.heap.size) = (0, 0) := by go_simp
  have R13 : rowOf ((w6.alloc (.cells (recA was) 44)).alloc (.cells (recA { r with gen := was.gen + 1 }) 44)).drew (w6.heap.size) = recA was := by first | (go_simp; done) | (go_simp; intro he; exfalso; omega)
  have F13 : frOf ((w6.alloc (.cells (recA was) 44)).alloc (.cells (recA { r with gen := was.gen + 1 }) 44)).drew (w6.heap.size) = (0, 0) := by go_simp
  have R15 : rowOf ((w6.alloc (.cells (recA was) 44)).alloc (.cells (recA { r with gen := was.gen + 1 }) 44)).drew (w6.heap.size + 1) = recA { r with gen := was.gen + 1 } := by first | (go_simp; done) | (go_simp; intro he; exfalso; omega)
  have F15 : frOf ((w6.alloc (.cells (recA was) 44)).alloc (.cells (recA { r with gen := was.gen + 1 }) 44)).drew (w6.heap.size + 1) = (0, 0) := by go_simp
  clear a0r a0f a0n a0c a0z a0l a1r a1f a1n a1c a1z a1l a2r a2f a2n a2c a2z a2l a3r a3f a3n a3c a3z a3l a4r a4f a4n a4c a4z a4l a5r a5f a5n a5c a5z a5l
  refine wp_region_chain (by kernel_rfl) [some 63, some 64, some 65, some 66, some 67, some 68, some 69, some 70, some 71, some 72, some 73, some 74, some 75, some 76, some 77, some 78, some 79, some 80, some 81, some 82, some 83, some 84, some 85, some 86, some 87, some 88, some 89, some 90, some 91, some 92, some 93, some 94, some 95, some 96, some 97, some 98, some 99, some 100, some 101, some 102, some 103, some 104, some 105, some 106, some 107, some 4] [iv 0, .bool true, .bool true, iv 0, .bool true, .bool true, .bool true, .agg (recA { r with gen := was.gen + 1 }), .agg (recA { r with gen := was.gen + 1 }), .bool true, .bool true, .bool true, iv 1, iv 0, iv 1, .bool true, .bool true, .bool true, .agg (recA was), .agg (recA was), .bool true, .bool true, .bool true, iv 0, iv 0, .bool true, .bool true, .bool true, iv 0, .pointer (some ⟨w3.heap.size, 0, none⟩), .agg (copA c), iv 0, .pointer (some ⟨w.heap.size, 0, none⟩), .agg (copA c), .bool true, .bool true, .bool true, iv 0, .pointer (some ⟨w4.heap.size, 0, none⟩), .agg (copA c), iv 0, .pointer (some ⟨w.heap.size, 0, none⟩), .agg (copA c), .bool true, .bool true, .bool true] 108 rfl rfl (by decide +kernel) (by decide +kernel) (by decide +kernel) rfl ?_ ?_
  · refine ⟨.inl ⟨rfl, fun done a wq hw h => ?_⟩, ?_⟩
    · have e7 := ch_old (t := 7) (v := iv 0) h rfl rfl; exact ch_move (ch_ev e7)
    refine ⟨.inl ⟨rfl, fun done a wq hw h => ?_⟩, ?_⟩
    · have e63 := ch_new (i := 0) (t := 63) h (hw 0 (by decide)) rfl rfl; exact ch_eql_int (by kernel_rfl) (ch_ev e63) rfl (by simp)
    refine ⟨.inl ⟨rfl, fun done a wq hw h => ?_⟩, ?_⟩
    · have e64 := ch_new (i := 1) (t := 64) h (hw 1 (by decide)) rfl rfl; exact ch_move (ch_ev e64)
    refine ⟨.inl ⟨rfl, fun done a wq hw h => ?_⟩, ?_⟩
    · have e10 := ch_old (t := 10) (v := iv 0) h rfl rfl; exact ch_move (ch_ev e10)
    refine ⟨.inl ⟨rfl, fun done a wq hw h => ?_⟩, ?_⟩
    · have e66 := ch_new (i := 3) (t := 66) h (hw 3 (by decide)) rfl rfl; exact ch_eql_int (by kernel_rfl) (ch_ev e66) rfl (by simp)
    refine ⟨.inl ⟨rfl, fun done a wq hw h => ?_⟩, ?_⟩
    · have e65 := ch_new (i := 2) (t := 65) h (hw 2 (by decide)) rfl rfl; have e67 := ch_new (i := 4) (t := 67) h (hw 4 (by decide)) rfl rfl; exact ch_pick_t e65 (ch_ev e67)
    refine ⟨.inl ⟨rfl, fun done a wq hw h => ?_⟩, ?_⟩
    · have e68 := ch_new (i := 5) (t := 68) h (hw 5 (by decide)) rfl rfl; exact ch_move (ch_ev e68)
    refine ⟨.inl ⟨rfl, fun done a wq hw h => ?_⟩, ?_⟩
    · have e11 := ch_old (t := 11) (v := .pointer (some ⟨w5.heap.size, 0, none⟩)) h rfl rfl; obtain ⟨r_, f_, n_, c_, z_, l_⟩ := keep1 h.bel R11 (by simp [recA]) F11; refine ch_pure ?_; go_simp
    refine ⟨.inl ⟨rfl, fun done a wq hw h => ?_⟩, ?_⟩
    · have e15 := ch_old (t := 15) (v := .pointer (some ⟨w6.heap.size + 1, 0, none⟩)) h rfl rfl; obtain ⟨r_, f_, n_, c_, z_, l_⟩ := keep1 h.bel R15 (by simp [recA]) F15; refine ch_pure ?_; go_simp
    refine ⟨.inl ⟨rfl, fun done a wq hw h => ?_⟩, ?_⟩
    · have e70 := ch_new (i := 7) (t := 70) h (hw 7 (by decide)) rfl rfl; have e71 := ch_new (i := 8) (t := 71) h (hw 8 (by decide)) rfl rfl; refine ch_pure ?_; go_simp
    refine ⟨.inl ⟨rfl, fun done a wq hw h => ?_⟩, ?_⟩
    · have e69 := ch_new (i := 6) (t := 69) h (hw 6 (by decide)) rfl rfl; have e72 := ch_new (i := 9) (t := 72) h (hw 9 (by decide)) rfl rfl; exact ch_pick_t e69 (ch_ev e72)
    refine ⟨.inl ⟨rfl, fun done a wq hw h => ?_⟩, ?_⟩
    · have e73 := ch_new (i := 10) (t := 73) h (hw 10 (by decide)) rfl rfl; exact ch_move (ch_ev e73)
    refine ⟨.inl ⟨rfl, fun done a wq hw h => ?_⟩, ?_⟩
    · have e12 := ch_old (t := 12) (v := iv 1) h rfl rfl; exact ch_move (ch_ev e12)
    refine ⟨.inl ⟨rfl, fun done a wq hw h => ?_⟩, ?_⟩
    · have e6 := ch_old (t := 6) (v := iv 0) h rfl rfl; exact ch_move (ch_ev e6)
    refine ⟨.inl ⟨rfl, fun done a wq hw h => ?_⟩, ?_⟩
    · have e76 := ch_new (i := 13) (t := 76) h (hw 13 (by decide)) rfl rfl; refine ch_pure ?_; first | (go_simp; done) | (go_simp; rfl)
    refine ⟨.inl ⟨rfl, fun done a wq hw h => ?_⟩, ?_⟩
    · have e75 := ch_new (i := 12) (t := 75) h (hw 12 (by decide)) rfl rfl; have e77 := ch_new (i := 14) (t := 77) h (hw 14 (by decide)) rfl rfl; exact ch_eql_int (by kernel_rfl) (ch_ev e75) (ch_ev e77) (by simp)
    refine ⟨.inl ⟨rfl, fun done a wq hw h => ?_⟩, ?_⟩
    · have e74 := ch_new (i := 11) (t := 74) h (hw 11 (by decide)) rfl rfl; have e78 := ch_new (i := 15) (t := 78) h (hw 15 (by decide)) rfl rfl; exact ch_pick_t e74 (ch_ev e78)
    refine ⟨.inl ⟨rfl, fun done a wq hw h => ?_⟩, ?_⟩
    · have e79 := ch_new (i := 16) (t := 79) h (hw 16 (by decide)) rfl rfl; exact ch_move (ch_ev e79)
    refine ⟨.inl ⟨rfl, fun done a wq hw h => ?_⟩, ?_⟩
    · have e13 := ch_old (t := 13) (v := .pointer (some ⟨w6.heap.size, 0, none⟩)) h rfl rfl; obtain ⟨r_, f_, n_, c_, z_, l_⟩ := keep1 h.bel R13 (by simp [recA]) F13; refine ch_pure ?_; go_simp
    refine ⟨.inl ⟨rfl, fun done a wq hw h => ?_⟩, ?_⟩
    · have e5 := ch_old (t := 5) (v := .pointer (some ⟨w1.heap.size, 0, none⟩)) h rfl rfl; obtain ⟨r_, f_, n_, c_, z_, l_⟩ := keep1 h.bel R5 (by simp [recA]) F5; refine ch_pure ?_; go_simp
    refine ⟨.inl ⟨rfl, fun done a wq hw h => ?_⟩, ?_⟩
    · have e81 := ch_new (i := 18) (t := 81) h (hw 18 (by decide)) rfl rfl; have e82 := ch_new (i := 19) (t := 82) h (hw 19 (by decide)) rfl rfl; refine ch_pure ?_; go_simp
    refine ⟨.inl ⟨rfl, fun done a wq hw h => ?_⟩, ?_⟩
    · have e80 := ch_new (i := 17) (t := 80) h (hw 17 (by decide)) rfl rfl; have e83 := ch_new (i := 20) (t := 83) h (hw 20 (by decide)) rfl rfl; exact ch_pick_t e80 (ch_ev e83)
    refine ⟨.inl ⟨rfl, fun done a wq hw h => ?_⟩, ?_⟩
    · have e84 := ch_new (i := 21) (t := 84) h (hw 21 (by decide)) rfl rfl; exact ch_move (ch_ev e84)
    refine ⟨.inl ⟨rfl, fun done a wq hw h => ?_⟩, ?_⟩
    · have e14 := ch_old (t := 14) (v := iv 0) h rfl rfl; exact ch_move (ch_ev e14)
    refine ⟨.inl ⟨rfl, fun done a wq hw h => ?_⟩, ?_⟩
    · have e6 := ch_old (t := 6) (v := iv 0) h rfl rfl; exact ch_move (ch_ev e6)
    refine ⟨.inl ⟨rfl, fun done a wq hw h => ?_⟩, ?_⟩
    · have e86 := ch_new (i := 23) (t := 86) h (hw 23 (by decide)) rfl rfl; have e87 := ch_new (i := 24) (t := 87) h (hw 24 (by decide)) rfl rfl; exact ch_eql_int (by kernel_rfl) (ch_ev e86) (ch_ev e87) (by simp)
    refine ⟨.inl ⟨rfl, fun done a wq hw h => ?_⟩, ?_⟩
    · have e85 := ch_new (i := 22) (t := 85) h (hw 22 (by decide)) rfl rfl; have e88 := ch_new (i := 25) (t := 88) h (hw 25 (by decide)) rfl rfl; exact ch_pick_t e85 (ch_ev e88)
    refine ⟨.inl ⟨rfl, fun done a wq hw h => ?_⟩, ?_⟩
    · have e89 := ch_new (i := 26) (t := 89) h (hw 26 (by decide)) rfl rfl; exact ch_move (ch_ev e89)
    refine ⟨.inl ⟨rfl, fun done a wq hw h => ?_⟩, ?_⟩
    · have e6 := ch_old (t := 6) (v := iv 0) h rfl rfl; exact ch_move (ch_ev e6)
    refine ⟨.inl ⟨rfl, fun done a wq hw h => ?_⟩, ?_⟩
    · have e8 := ch_old (t := 8) (v := .pointer (some ⟨w3.heap.size, 0, none⟩)) h rfl rfl; have e91 := ch_new (i := 28) (t := 91) h (hw 28 (by decide)) rfl rfl; refine ch_pure ?_; go_simp
    refine ⟨.inl ⟨rfl, fun done a wq hw h => ?_⟩, ?_⟩
    · have e92 := ch_new (i := 29) (t := 92) h (hw 29 (by decide)) rfl rfl; obtain ⟨r_, f_, n_, c_, z_, l_⟩ := keep1 h.bel R8 (by go_simp) F8; refine ch_pure ?_; go_simp
    refine ⟨.inl ⟨rfl, fun done a wq hw h => ?_⟩, ?_⟩
    · have e6 := ch_old (t := 6) (v := iv 0) h rfl rfl; exact ch_move (ch_ev e6)
    refine ⟨.inl ⟨rfl, fun done a wq hw h => ?_⟩, ?_⟩
    · have e2 := ch_old (t := 2) (v := .pointer (some ⟨w.heap.size, 0, none⟩)) h rfl rfl; have e94 := ch_new (i := 31) (t := 94) h (hw 31 (by decide)) rfl rfl; refine ch_pure ?_; go_simp
    refine ⟨.inl ⟨rfl, fun done a wq hw h => ?_⟩, ?_⟩
    · have e95 := ch_new (i := 32) (t := 95) h (hw 32 (by decide)) rfl rfl; obtain ⟨r_, f_, n_, c_, z_, l_⟩ := keep1 h.bel R2 (by go_simp) F2; refine ch_pure ?_; go_simp
    refine ⟨.inl ⟨rfl, fun done a wq hw h => ?_⟩, ?_⟩
    · have e93 := ch_new (i := 30) (t := 93) h (hw 30 (by decide)) rfl rfl; have e96 := ch_new (i := 33) (t := 96) h (hw 33 (by decide)) rfl rfl; refine ch_pure ?_; go_simp
    refine ⟨.inl ⟨rfl, fun done a wq hw h => ?_⟩, ?_⟩
    · have e90 := ch_new (i := 27) (t := 90) h (hw 27 (by decide)) rfl rfl; have e97 := ch_new (i := 34) (t := 97) h (hw 34 (by decide)) rfl rfl; exact ch_pick_t e90 (ch_ev e97)
    refine ⟨.inl ⟨rfl, fun done a wq hw h => ?_⟩, ?_⟩
    · have e98 := ch_new (i := 35) (t := 98) h (hw 35 (by decide)) rfl rfl; exact ch_move (ch_ev e98)
    refine ⟨.inl ⟨rfl, fun done a wq hw h => ?_⟩, ?_⟩
    · have e6 := ch_old (t := 6) (v := iv 0) h rfl rfl; exact ch_move (ch_ev e6)
    refine ⟨.inl ⟨rfl, fun done a wq hw h => ?_⟩, ?_⟩
    · have e9 := ch_old (t := 9) (v := .pointer (some ⟨w4.heap.size, 0, none⟩)) h rfl rfl; have e100 := ch_new (i := 37) (t := 100) h (hw 37 (by decide)) rfl rfl; refine ch_pure ?_; go_simp
    refine ⟨.inl ⟨rfl, fun done a wq hw h => ?_⟩, ?_⟩
    · have e101 := ch_new (i := 38) (t := 101) h (hw 38 (by decide)) rfl rfl; obtain ⟨r_, f_, n_, c_, z_, l_⟩ := keep1 h.bel R9 (by go_simp) F9; refine ch_pure ?_; go_simp
    refine ⟨.inl ⟨rfl, fun done a wq hw h => ?_⟩, ?_⟩
    · have e6 := ch_old (t := 6) (v := iv 0) h rfl rfl; exact ch_move (ch_ev e6)
    refine ⟨.inl ⟨rfl, fun done a wq hw h => ?_⟩, ?_⟩
    · have e2 := ch_old (t := 2) (v := .pointer (some ⟨w.heap.size, 0, none⟩)) h rfl rfl; have e103 := ch_new (i := 40) (t := 103) h (hw 40 (by decide)) rfl rfl; refine ch_pure ?_; go_simp
    refine ⟨.inl ⟨rfl, fun done a wq hw h => ?_⟩, ?_⟩
    · have e104 := ch_new (i := 41) (t := 104) h (hw 41 (by decide)) rfl rfl; obtain ⟨r_, f_, n_, c_, z_, l_⟩ := keep1 h.bel R2 (by go_simp) F2; refine ch_pure ?_; go_simp
    refine ⟨.inl ⟨rfl, fun done a wq hw h => ?_⟩, ?_⟩
    · have e102 := ch_new (i := 39) (t := 102) h (hw 39 (by decide)) rfl rfl; have e105 := ch_new (i := 42) (t := 105) h (hw 42 (by decide)) rfl rfl; refine ch_pure ?_; go_simp
    refine ⟨.inl ⟨rfl, fun done a wq hw h => ?_⟩, ?_⟩
    · have e99 := ch_new (i := 36) (t := 99) h (hw 36 (by decide)) rfl rfl; have e106 := ch_new (i := 43) (t := 106) h (hw 43 (by decide)) rfl rfl; exact ch_pick_t e99 (ch_ev e106)
    refine ⟨.inl ⟨rfl, fun done a wq hw h => ?_⟩, ?_⟩
    · have e107 := ch_new (i := 44) (t := 107) h (hw 44 (by decide)) rfl rfl; exact ch_assign (ch_ev e107)
    exact trivial
  · intro w10 hb
    go_wp2_with fail
    have hs := HB6.out.size
    refine bodyPost_ret (results_tmp rfl _ _ _) rfl ⟨by kernel_rfl, Below.trans ?_ (hb.mono (by simp; omega))⟩
    refine Below.alloc ?_ (by simp; omega) _
    exact HB6.out.alloc hs _

set_option maxRecDepth 100000 in
set_option maxHeartbeats 4000000 in
theorem torn_1 (c d A B : Cop) (was r : Rec) (w : World) (hg : 1 ≤ was.gen ∧ was.gen ≤ 1000000) (K0 : Hid (∀ w, Calls Try.prog 32 #[] w (RetB w (.bool true))))
    (K1 : Hid (∀ w, Calls Try.prog 26 #[.agg (copsA c d)] w (RetB w (.tuple #[.agg (recA was), iv 1, iv 0]))))
    (K2 : Hid (∀ w, Calls Try.prog 27 #[.agg (copsA c d), .agg (recA r), .bool false] w (RetB w (.tuple #[.agg (copsA A d), iv 0]))))
    (K3 : Hid (∀ w, Calls Try.prog 27 #[.agg (copsA c d), .agg (recA r), .bool true] w (RetB w (.tuple #[.agg (copsA B d), iv 0]))))
    (K4 : Hid (∀ w, Calls Try.prog 26 #[.agg (copsA A d)] w (RetB w (.tuple #[.agg (recA { r with gen := was.gen + 1 }), iv 0, iv 0]))))
    (K5 : Hid (∀ w, Calls Try.prog 26 #[.agg (copsA B d)] w (RetB w (.tuple #[.agg (recA was), iv 1, iv 0])))) :
    Calls Try.prog 8 #[.agg (copsA c d), .agg (recA r)] w (RetB w (.bool true)) := by
  obtain ⟨g1, g2⟩ := hg
  go_enter Try.func8, Try.ntmps8
  go_wp2_with fail
  refine (K1.out _).mono ?_
  rintro e w1 ⟨rfl, hb⟩
  obtain ⟨a0r, a0f, a0n, a0c, a0z, a0l⟩ := keep1 (g := w.heap.size) (cs := copsA c d) hb (by first | (go_simp; done) | (go_simp; rfl)) (by go_simp) (by go_simp)
  obtain ⟨a1r, a1f, a1n, a1c, a1z, a1l⟩ := keep1 (g := w.heap.size + 1) (cs := recA r) hb (by first | (go_simp; done) | (go_simp; rfl)) (by go_simp) (by go_simp)
  have HB1 : Hid (Below w.heap.size w w1) := by
    refine Lib.hid (Below.trans ?_ (hb.mono (by first | omega | (simp <;> omega))))
    repeat (first | exact Below.refl _ _ | refine below_row ?_ (by omega) _ | refine Below.setCell ?_ (by first | omega | (simp <;> omega)) _ | refine Below.alloc ?_ (by first | omega | (simp <;> omega)) _ | refine Below.drew ?_)
  clear hb
  go_wp2_with fail
  refine (K0.out _).mono ?_
  rintro e w2 ⟨rfl, hb⟩
  obtain ⟨a0r, a0f, a0n, a0c, a0z, a0l⟩ := keep1 (g := w.heap.size) (cs := copsA c d) hb (by first | (go_simp; done) | (go_simp; rfl)) (by go_simp) (by go_simp)
  obtain ⟨a1r, a1f, a1n, a1c, a1z, a1l⟩ := keep1 (g := w.heap.size + 1) (cs := recA r) hb (by first | (go_simp; done) | (go_simp; rfl)) (by go_simp) (by go_simp)
  obtain ⟨a2r, a2f, a2n, a2c, a2z, a2l⟩ := keep1 (g := w1.heap.size) (cs := recA was) hb (by first | (go_simp; done) | (go_simp; rfl)) (by go_simp) (by go_simp)
  have HB2 : Hid (Below w.heap.size w w2) := by
    have hs := HB1.out.size
    refine Lib.hid (Below.trans ?_ (hb.mono (by first | omega | (simp <;> omega))))
    repeat (first | exact HB1.out | refine below_row ?_ (by omega) _ | refine Below.setCell ?_ (by first | omega | (simp <;> omega)) _ | refine Below.alloc ?_ (by first | omega | (simp <;> omega)) _ | refine Below.drew ?_)
  clear hb
  go_wp2_with fail
  refine (K2.out _).mono ?_
  rintro e w3 ⟨rfl, hb⟩
  obtain ⟨a0r, a0f, a0n, a0c, a0z, a0l⟩ := keep1 (g := w.heap.size) (cs := copsA c d) hb (by first | (go_simp; done) | (go_simp; rfl)) (by go_simp) (by go_simp)
  obtain ⟨a1r, a1f, a1n, a1c, a1z, a1l⟩ := keep1 (g := w.heap.size + 1) (cs := recA r) hb (by first | (go_simp; done) | (go_simp; rfl)) (by go_simp) (by go_simp)
  obtain ⟨a2r, a2f, a2n, a2c, a2z, a2l⟩ := keep1 (g := w1.heap.size) (cs := recA was) hb (by first | (go_simp; done) | (go_simp; rfl)) (by go_simp) (by go_simp)
  have HB3 : Hid (Below w.heap.size w w3) := by
    have hs := HB2.out.size
    refine Lib.hid (Below.trans ?_ (hb.mono (by first | omega | (simp <;> omega))))
    repeat (first | exact HB2.out | refine below_row ?_ (by omega) _ | refine Below.setCell ?_ (by first | omega | (simp <;> omega)) _ | refine Below.alloc ?_ (by first | omega | (simp <;> omega)) _ | refine Below.drew ?_)
  clear hb
  go_wp2_with fail
  refine (K3.out _).mono ?_
  rintro e w4 ⟨rfl, hb⟩
  obtain ⟨a0r, a0f, a0n, a0c, a0z, a0l⟩ := keep1 (g := w.heap.size) (cs := copsA c d) hb (by first | (go_simp; done) | (go_simp; rfl)) (by go_simp) (by go_simp)
  obtain ⟨a1r, a1f, a1n, a1c, a1z, a1l⟩ := keep1 (g := w.heap.size + 1) (cs := recA r) hb (by first | (go_simp; done) | (go_simp; rfl)) (by go_simp) (by go_simp)
  obtain ⟨a2r, a2f, a2n, a2c, a2z, a2l⟩ := keep1 (g := w1.heap.size) (cs := recA was) hb (by first | (go_simp; done) | (go_simp; rfl)) (by go_simp) (by go_simp)
  obtain ⟨a3r, a3f, a3n, a3c, a3z, a3l⟩ := keep1 (g := w3.heap.size) (cs := copsA A d) hb (by first | (go_simp; done) | (go_simp; rfl)) (by go_simp) (by go_simp)
  have HB4 : Hid (Below w.heap.size w w4) := by
    have hs := HB3.out.size
    refine Lib.hid (Below.trans ?_ (hb.mono (by first | omega | (simp <;> omega))))
    repeat (first | exact HB3.out | refine below_row ?_ (by omega) _ | refine Below.setCell ?_ (by first | omega | (simp <;> omega)) _ | refine Below.alloc ?_ (by first | omega | (simp <;> omega)) _ | refine Below.drew ?_)
  clear hb
  go_wp2_with fail
  refine (K4.out _).mono ?_
  rintro e w5 ⟨rfl, hb⟩
  obtain ⟨a0r, a0f, a0n, a0c, a0z, a0l⟩ := keep1 (g := w.heap.size) (cs := copsA c d) hb (by first | (go_simp; done) | (go_simp; rfl)) (by go_simp) (by go_simp)
  obtain ⟨a1r, a1f, a1n, a1c, a1z, a1l⟩ := keep1 (g := w.heap.size + 1) (cs := recA r) hb (by first | (go_simp; done) | (go_simp; rfl)) (by go_simp) (by go_simp)
  obtain ⟨a2r, a2f, a2n, a2c, a2z, a2l⟩ := keep1 (g := w1.heap.size) (cs := recA was) hb (by first | (go_simp; done) | (go_simp; rfl)) (by go_simp) (by go_simp)
  obtain ⟨a3r, a3f, a3n, a3c, a3z, a3l⟩ := keep1 (g := w3.heap.size) (cs := copsA A d) hb (by first | (go_simp; done) | (go_simp; rfl)) (by go_simp) (by go_simp)
  obtain ⟨a4r, a4f, a4n, a4c, a4z, a4l⟩ := keep1 (g := w4.heap.size) (cs := copsA B d) hb (by first | (go_simp; done) | (go_simp; rfl)) (by go_simp) (by go_simp)
  have HB5 : Hid (Below w.heap.size w w5) := by
    have hs := HB4.out.size
    refine Lib.hid (Below.trans ?_ (hb.mono (by first | omega | (simp <;> omega))))
    repeat (first | exact HB4.out | refine below_row ?_ (by omega) _ | refine Below.setCell ?_ (by first | omega | (simp <;> omega)) _ | refine Below.alloc ?_ (by first | omega | (simp <;> omega)) _ | refine Below.drew ?_)
  clear hb
  go_wp2_with fail
  refine (K5.out _).mono ?_
  rintro e w6 ⟨rfl, hb⟩
  obtain ⟨a0r, a0f, a0n, a0c, a0z, a0l⟩ := keep1 (g := w.heap.size) (cs := copsA c d) hb (by first | (go_simp; done) | (go_simp; rfl)) (by go_simp) (by go_simp)
  obtain ⟨a1r, a1f, a1n, a1c, a1z, a1l⟩ := keep1 (g := w.heap.size + 1) (cs := recA r) hb (by first | (go_simp; done) | (go_simp; rfl)) (by go_simp) (by go_simp)
  obtain ⟨a2r, a2f, a2n, a2c, a2z, a2l⟩ := keep1 (g := w1.heap.size) (cs := recA was) hb (by first | (go_simp; done) | (go_simp; rfl)) (by go_simp) (by go_simp)
  obtain ⟨a3r, a3f, a3n, a3c, a3z, a3l⟩ := keep1 (g := w3.heap.size) (cs := copsA A d) hb (by first | (go_simp; done) | (go_simp; rfl)) (by go_simp) (by go_simp)
  obtain ⟨a4r, a4f, a4n, a4c, a4z, a4l⟩ := keep1 (g := w4.heap.size) (cs := copsA B d) hb (by first | (go_simp; done) | (go_simp; rfl)) (by go_simp) (by go_simp)
  obtain ⟨a5r, a5f, a5n, a5c, a5z, a5l⟩ := keep1 (g := w5.heap.size) (cs := recA { r with gen := was.gen + 1 }) hb (by first | (go_simp; done) | (go_simp; rfl)) (by go_simp) (by go_simp)
  have HB6 : Hid (Below w.heap.size w w6) := by
    have hs := HB5.out.size
    refine Lib.hid (Below.trans ?_ (hb.mono (by first | omega | (simp <;> omega))))
    repeat (first | exact HB5.out | refine below_row ?_ (by omega) _ | refine Below.setCell ?_ (by first | omega | (simp <;> omega)) _ | refine Below.alloc ?_ (by first | omega | (simp <;> omega)) _ | refine Below.drew ?_)
  clear hb
  go_wp2_with fail
  have R2 : rowOf ((w6.alloc (.cells (recA was) 44)).alloc (.cells (recA { r with gen := was.gen + 1 }) 44)).drew (w.heap.size) = copsA c d := by first | (go_simp; done) | (go_simp; intro he; exfalso; omega)
  have F2 : frOf ((w6.alloc (.cells (recA was) 44)).alloc (.cells (recA { r with gen := was.gen + 1 }) 44)).drew (w.heap.size) = (0, 0) := by go_simp
  have R3 : rowOf ((w6.alloc (.cells (recA was) 44)).alloc (.cells (recA { r with gen := was.gen + 1 }) 44)).drew (w.heap.size + 1) = recA r := by first | (go_simp; done) | (go_simp; intro he; exfalso; omega)
  have F3 : frOf ((w6.alloc (.cells (recA was) 44)).alloc (.cells (recA { r with gen := was.gen + 1 }) 44)).drew (w.heap.size + 1) = (0, 0) := by go_simp
  have R5 : rowOf ((w6.alloc (.cells (recA was) 44)).alloc (.cells (recA { r with gen := was.gen + 1 }) 44)).drew (w1.heap.size) = recA was := by first | (go_simp; done) | (go_simp; intro he; exfalso; omega)
  have F5 : frOf ((w6.alloc (.cells (recA was) 44)).alloc (.cells (recA { r with gen := was.gen + 1 }) 44)).drew (w1.heap.size) = (0, 0) := by go_simp
  have R8 : rowOf ((w6.alloc (.cells (recA was) 44)).alloc (.cells (recA { r with gen := was.gen + 1 }) 44)).drew (w3.heap.size) = copsA A d := by first | (go_simp; done) | (go_simp; intro he; exfalso; omega)
  have F8 : frOf ((w6.alloc (.cells (recA was) 44)).alloc (.cells (recA { r with gen := was.gen + 1 }) 44)).drew (w3.heap.size) = (0, 0) := by go_simp
  have R9 : rowOf ((w6.alloc (.cells (recA was) 44)).alloc (.cells (recA { r with gen := was.gen + 1 }) 44)).drew (w4.heap.size) = copsA B d := by first | (go_simp; done) | (go_simp; intro he; exfalso; omega)
  have F9 : frOf ((w6.alloc (.cells (recA was) 44)).alloc (.cells (recA { r with gen := was.gen + 1 }) 44)).drew (w4.heap.size) = (0, 0) := by go_simp
  have R11 : rowOf ((w6.alloc (.cells (recA was) 44)).alloc (.cells (recA { r with gen := was.gen + 1 }) 44)).drew (w5.heap.size) = recA { r with gen := was.gen + 1 } := by first | (go_simp; done) | (go_simp; intro he; exfalso; omega)
  have F11 : frOf ((w6.alloc (.cells (recA was) 44)).alloc (.cells (recA { r with gen := was.gen + 1 }) 44)).drew (w5.heap.size) = (0, 0) := by go_simp
  have R13 : rowOf ((w6.alloc (.cells (recA was) 44)).alloc (.cells (recA { r with gen := was.gen + 1 }) 44)).drew (w6.heap.size) = recA was := by first | (go_simp; done) | (go_simp; intro he; exfalso; omega)
  have F13 : frOf ((w6.alloc (.cells (recA was) 44)).alloc (.cells (recA { r with gen := was.gen + 1 }) 44)).drew (w6.heap.size) = (0, 0) := by go_simp
  have R15 : rowOf ((w6.alloc (.cells (recA was) 44)).alloc (.cells (recA { r with gen := was.gen + 1 }) 44)).drew (w6.heap.size + 1) = recA { r with gen := was.gen + 1 } := by first | (go_simp; done) | (go_simp; intro he; exfalso; omega)
  have F15 : frOf ((w6.alloc (.cells (recA was) 44)).alloc (.cells (recA { r with gen := was.gen + 1 }) 44)).drew (w6.heap.size + 1) = (0, 0) := by go_simp
  clear a0r a0f a0n a0c a0z a0l a1r a1f a1n a1c a1z a1l a2r a2f a2n a2c a2z a2l a3r a3f a3n a3c a3z a3l a4r a4f a4n a4c a4z a4l a5r a5f a5n a5c a5z a5l
  refine wp_region_chain (by kernel_rfl) [some 63, some 64, some 65, some 66, some 67, some 68, some 69, some 70, some 71, some 72, some 73, some 74, some 75, some 76, some 77, some 78, some 79, some 80, some 81, some 82, some 83, some 84, some 85, some 86, some 87, some 88, some 89, some 90, some 91, some 92, some 93, some 94, some 95, some 96, some 97, some 98, some 99, some 100, some 101, some 102, some 103, some 104, some 105, some 106, some 107, some 4] [iv 0, .bool true, .bool true, iv 0, .bool true, .bool true, .bool true, .agg (recA { r with gen := was.gen + 1 }), .agg (recA { r with gen := was.gen + 1 }), .bool true, .bool true, .bool true, iv 0, iv 1, iv 0, .bool true, .bool true, .bool true, .agg (recA was), .agg (recA was), .bool true, .bool true, .bool true, iv 1, iv 1, .bool true, .bool true, .bool true, iv 1, .pointer (some ⟨w3.heap.size, 12, none⟩), .agg (copA d), iv 1, .pointer (some ⟨w.heap.size, 12, none⟩), .agg (copA d), .bool true, .bool true, .bool true, iv 1, .pointer (some ⟨w4.heap.size, 12, none⟩), .agg (copA d), iv 1, .pointer (some ⟨w.heap.size, 12, none⟩), .agg (copA d), .bool true, .bool true, .bool true] 108 rfl rfl (by decide +kernel) (by decide +kernel) (by decide +kernel) rfl ?_ ?_
  · refine ⟨.inl ⟨rfl, fun done a wq hw h => ?_⟩, ?_⟩
    · have e7 := ch_old (t := 7) (v := iv 0) h rfl rfl; exact ch_move (ch_ev e7)
    refine ⟨.inl ⟨rfl, fun done a wq hw h => ?_⟩, ?_⟩
    · have e63 := ch_new (i := 0) (t := 63) h (hw 0 (by decide)) rfl rfl; exact ch_eql_int (by kernel_rfl) (ch_ev e63) rfl (by simp)
    refine ⟨.inl ⟨rfl, fun done a wq hw h => ?_⟩, ?_⟩
    · have e64 := ch_new (i := 1) (t := 64) h (hw 1 (by decide)) rfl rfl; exact ch_move (ch_ev e64)
    refine ⟨.inl ⟨rfl, fun done a wq hw h => ?_⟩, ?_⟩
    · have e10 := ch_old (t := 10) (v := iv 0) h rfl rfl; exact ch_move (ch_ev e10)
    refine ⟨.inl ⟨rfl, fun done a wq hw h => ?_⟩, ?_⟩
    · have e66 := ch_new (i := 3) (t := 66) h (hw 3 (by decide)) rfl rfl; exact ch_eql_int (by kernel_rfl) (ch_ev e66) rfl (by simp)
    refine ⟨.inl ⟨rfl, fun done a wq hw h => ?_⟩, ?_⟩
    · have e65 := ch_new (i := 2) (t := 65) h (hw 2 (by decide)) rfl rfl; have e67 := ch_new (i := 4) (t := 67) h (hw 4 (by decide)) rfl rfl; exact ch_pick_t e65 (ch_ev e67)
    refine ⟨.inl ⟨rfl, fun done a wq hw h => ?_⟩, ?_⟩
    · have e68 := ch_new (i := 5) (t := 68) h (hw 5 (by decide)) rfl rfl; exact ch_move (ch_ev e68)
    refine ⟨.inl ⟨rfl, fun done a wq hw h => ?_⟩, ?_⟩
    · have e11 := ch_old (t := 11) (v := .pointer (some ⟨w5.heap.size, 0, none⟩)) h rfl rfl; obtain ⟨r_, f_, n_, c_, z_, l_⟩ := keep1 h.bel R11 (by simp [recA]) F11; refine ch_pure ?_; go_simp
    refine ⟨.inl ⟨rfl, fun done a wq hw h => ?_⟩, ?_⟩
    · have e15 := ch_old (t := 15) (v := .pointer (some ⟨w6.heap.size + 1, 0, none⟩)) h rfl rfl; obtain ⟨r_, f_, n_, c_, z_, l_⟩ := keep1 h.bel R15 (by simp [recA]) F15; refine ch_pure ?_; go_simp
    refine ⟨.inl ⟨rfl, fun done a wq hw h => ?_⟩, ?_⟩
    · have e70 := ch_new (i := 7) (t := 70) h (hw 7 (by decide)) rfl rfl; have e71 := ch_new (i := 8) (t := 71) h (hw 8 (by decide)) rfl rfl; refine ch_pure ?_; go_simp
    refine ⟨.inl ⟨rfl, fun done a wq hw h => ?_⟩, ?_⟩
    · have e69 := ch_new (i := 6) (t := 69) h (hw 6 (by decide)) rfl rfl; have e72 := ch_new (i := 9) (t := 72) h (hw 9 (by decide)) rfl rfl; exact ch_pick_t e69 (ch_ev e72)
    refine ⟨.inl ⟨rfl, fun done a wq hw h => ?_⟩, ?_⟩
    · have e73 := ch_new (i := 10) (t := 73) h (hw 10 (by decide)) rfl rfl; exact ch_move (ch_ev e73)
    refine ⟨.inl ⟨rfl, fun done a wq hw h => ?_⟩, ?_⟩
    · have e12 := ch_old (t := 12) (v := iv 0) h rfl rfl; exact ch_move (ch_ev e12)
    refine ⟨.inl ⟨rfl, fun done a wq hw h => ?_⟩, ?_⟩
    · have e6 := ch_old (t := 6) (v := iv 1) h rfl rfl; exact ch_move (ch_ev e6)
    refine ⟨.inl ⟨rfl, fun done a wq hw h => ?_⟩, ?_⟩
    · have e76 := ch_new (i := 13) (t := 76) h (hw 13 (by decide)) rfl rfl; refine ch_pure ?_; first | (go_simp; done) | (go_simp; rfl)
    refine ⟨.inl ⟨rfl, fun done a wq hw h => ?_⟩, ?_⟩
    · have e75 := ch_new (i := 12) (t := 75) h (hw 12 (by decide)) rfl rfl; have e77 := ch_new (i := 14) (t := 77) h (hw 14 (by decide)) rfl rfl; exact ch_eql_int (by kernel_rfl) (ch_ev e75) (ch_ev e77) (by simp)
    refine ⟨.inl ⟨rfl, fun done a wq hw h => ?_⟩, ?_⟩
    · have e74 := ch_new (i := 11) (t := 74) h (hw 11 (by decide)) rfl rfl; have e78 := ch_new (i := 15) (t := 78) h (hw 15 (by decide)) rfl rfl; exact ch_pick_t e74 (ch_ev e78)
    refine ⟨.inl ⟨rfl, fun done a wq hw h => ?_⟩, ?_⟩
    · have e79 := ch_new (i := 16) (t := 79) h (hw 16 (by decide)) rfl rfl; exact ch_move (ch_ev e79)
    refine ⟨.inl ⟨rfl, fun done a wq hw h => ?_⟩, ?_⟩
    · have e13 := ch_old (t := 13) (v := .pointer (some ⟨w6.heap.size, 0, none⟩)) h rfl rfl; obtain ⟨r_, f_, n_, c_, z_, l_⟩ := keep1 h.bel R13 (by simp [recA]) F13; refine ch_pure ?_; go_simp
    refine ⟨.inl ⟨rfl, fun done a wq hw h => ?_⟩, ?_⟩
    · have e5 := ch_old (t := 5) (v := .pointer (some ⟨w1.heap.size, 0, none⟩)) h rfl rfl; obtain ⟨r_, f_, n_, c_, z_, l_⟩ := keep1 h.bel R5 (by simp [recA]) F5; refine ch_pure ?_; go_simp
    refine ⟨.inl ⟨rfl, fun done a wq hw h => ?_⟩, ?_⟩
    · have e81 := ch_new (i := 18) (t := 81) h (hw 18 (by decide)) rfl rfl; have e82 := ch_new (i := 19) (t := 82) h (hw 19 (by decide)) rfl rfl; refine ch_pure ?_; go_simp
    refine ⟨.inl ⟨rfl, fun done a wq hw h => ?_⟩, ?_⟩
    · have e80 := ch_new (i := 17) (t := 80) h (hw 17 (by decide)) rfl rfl; have e83 := ch_new (i := 20) (t := 83) h (hw 20 (by decide)) rfl rfl; exact ch_pick_t e80 (ch_ev e83)
    refine ⟨.inl ⟨rfl, fun done a wq hw h => ?_⟩, ?_⟩
    · have e84 := ch_new (i := 21) (t := 84) h (hw 21 (by decide)) rfl rfl; exact ch_move (ch_ev e84)
    refine ⟨.inl ⟨rfl, fun done a wq hw h => ?_⟩, ?_⟩
    · have e14 := ch_old (t := 14) (v := iv 1) h rfl rfl; exact ch_move (ch_ev e14)
    refine ⟨.inl ⟨rfl, fun done a wq hw h => ?_⟩, ?_⟩
    · have e6 := ch_old (t := 6) (v := iv 1) h rfl rfl; exact ch_move (ch_ev e6)
    refine ⟨.inl ⟨rfl, fun done a wq hw h => ?_⟩, ?_⟩
    · have e86 := ch_new (i := 23) (t := 86) h (hw 23 (by decide)) rfl rfl; have e87 := ch_new (i := 24) (t := 87) h (hw 24 (by decide)) rfl rfl; exact ch_eql_int (by kernel_rfl) (ch_ev e86) (ch_ev e87) (by simp)
    refine ⟨.inl ⟨rfl, fun done a wq hw h => ?_⟩, ?_⟩
    · have e85 := ch_new (i := 22) (t := 85) h (hw 22 (by decide)) rfl rfl; have e88 := ch_new (i := 25) (t := 88) h (hw 25 (by decide)) rfl rfl; exact ch_pick_t e85 (ch_ev e88)
    refine ⟨.inl ⟨rfl, fun done a wq hw h => ?_⟩, ?_⟩
    · have e89 := ch_new (i := 26) (t := 89) h (hw 26 (by decide)) rfl rfl; exact ch_move (ch_ev e89)
    refine ⟨.inl ⟨rfl, fun done a wq hw h => ?_⟩, ?_⟩
    · have e6 := ch_old (t := 6) (v := iv 1) h rfl rfl; exact ch_move (ch_ev e6)
    refine ⟨.inl ⟨rfl, fun done a wq hw h => ?_⟩, ?_⟩
    · have e8 := ch_old (t := 8) (v := .pointer (some ⟨w3.heap.size, 0, none⟩)) h rfl rfl; have e91 := ch_new (i := 28) (t := 91) h (hw 28 (by decide)) rfl rfl; refine ch_pure ?_; go_simp
    refine ⟨.inl ⟨rfl, fun done a wq hw h => ?_⟩, ?_⟩
    · have e92 := ch_new (i := 29) (t := 92) h (hw 29 (by decide)) rfl rfl; obtain ⟨r_, f_, n_, c_, z_, l_⟩ := keep1 h.bel R8 (by go_simp) F8; refine ch_pure ?_; go_simp
    refine ⟨.inl ⟨rfl, fun done a wq hw h => ?_⟩, ?_⟩
    · have e6 := ch_old (t := 6) (v := iv 1) h rfl rfl; exact ch_move (ch_ev e6)
    refine ⟨.inl ⟨rfl, fun done a wq hw h => ?_⟩, ?_⟩
    · have e2 := ch_old (t := 2) (v := .pointer (some ⟨w.heap.size, 0, none⟩)) h rfl rfl; have e94 := ch_new (i := 31) (t := 94) h (hw 31 (by decide)) rfl rfl; refine ch_pure ?_; go_simp
    refine ⟨.inl ⟨rfl, fun done a wq hw h => ?_⟩, ?_⟩
    · have e95 := ch_new (i := 32) (t := 95) h (hw 32 (by decide)) rfl rfl; obtain ⟨r_, f_, n_, c_, z_, l_⟩ := keep1 h.bel R2 (by go_simp) F2; refine ch_pure ?_; go_simp
    refine ⟨.inl ⟨rfl, fun done a wq hw h => ?_⟩, ?_⟩
    · have e93 := ch_new (i := 30) (t := 93) h (hw 30 (by decide)) rfl rfl; have e96 := ch_new (i := 33) (t := 96) h (hw 33 (by decide)) rfl rfl; refine ch_pure ?_; go_simp
    refine ⟨.inl ⟨rfl, fun done a wq hw h => ?_⟩, ?_⟩
    · have e90 := ch_new (i := 27) (t := 90) h (hw 27 (by decide)) rfl rfl; have e97 := ch_new (i := 34) (t := 97) h (hw 34 (by decide)) rfl rfl; exact ch_pick_t e90 (ch_ev e97)
    refine ⟨.inl ⟨rfl, fun done a wq hw h => ?_⟩, ?_⟩
    · have e98 := ch_new (i := 35) (t := 98) h (hw 35 (by decide)) rfl rfl; exact ch_move (ch_ev e98)
    refine ⟨.inl ⟨rfl, fun done a wq hw h => ?_⟩, ?_⟩
    · have e6 := ch_old (t := 6) (v := iv 1) h rfl rfl; exact ch_move (ch_ev e6)
    refine ⟨.inl ⟨rfl, fun done a wq hw h => ?_⟩, ?_⟩
    · have e9 := ch_old (t := 9) (v := .pointer (some ⟨w4.heap.size, 0, none⟩)) h rfl rfl; have e100 := ch_new (i := 37) (t := 100) h (hw 37 (by decide)) rfl rfl; refine ch_pure ?_; go_simp
    refine ⟨.inl ⟨rfl, fun done a wq hw h => ?_⟩, ?_⟩
    · have e101 := ch_new (i := 38) (t := 101) h (hw 38 (by decide)) rfl rfl; obtain ⟨r_, f_, n_, c_, z_, l_⟩ := keep1 h.bel R9 (by go_simp) F9; refine ch_pure ?_; go_simp
    refine ⟨.inl ⟨rfl, fun done a wq hw h => ?_⟩, ?_⟩
    · have e6 := ch_old (t := 6) (v := iv 1) h rfl rfl; exact ch_move (ch_ev e6)
    refine ⟨.inl ⟨rfl, fun done a wq hw h => ?_⟩, ?_⟩
    · have e2 := ch_old (t := 2) (v := .pointer (some ⟨w.heap.size, 0, none⟩)) h rfl rfl; have e103 := ch_new (i := 40) (t := 103) h (hw 40 (by decide)) rfl rfl; refine ch_pure ?_; go_simp
    refine ⟨.inl ⟨rfl, fun done a wq hw h => ?_⟩, ?_⟩
    · have e104 := ch_new (i := 41) (t := 104) h (hw 41 (by decide)) rfl rfl; obtain ⟨r_, f_, n_, c_, z_, l_⟩ := keep1 h.bel R2 (by go_simp) F2; refine ch_pure ?_; go_simp
    refine ⟨.inl ⟨rfl, fun done a wq hw h => ?_⟩, ?_⟩
    · have e102 := ch_new (i := 39) (t := 102) h (hw 39 (by decide)) rfl rfl; have e105 := ch_new (i := 42) (t := 105) h (hw 42 (by decide)) rfl rfl; refine ch_pure ?_; go_simp
    refine ⟨.inl ⟨rfl, fun done a wq hw h => ?_⟩, ?_⟩
    · have e99 := ch_new (i := 36) (t := 99) h (hw 36 (by decide)) rfl rfl; have e106 := ch_new (i := 43) (t := 106) h (hw 43 (by decide)) rfl rfl; exact ch_pick_t e99 (ch_ev e106)
    refine ⟨.inl ⟨rfl, fun done a wq hw h => ?_⟩, ?_⟩
    · have e107 := ch_new (i := 44) (t := 107) h (hw 44 (by decide)) rfl rfl; exact ch_assign (ch_ev e107)
    exact trivial
  · intro w10 hb
    go_wp2_with fail
    have hs := HB6.out.size
    refine bodyPost_ret (results_tmp rfl _ _ _) rfl ⟨by kernel_rfl, Below.trans ?_ (hb.mono (by simp; omega))⟩
    refine Below.alloc ?_ (by simp; omega) _
    exact HB6.out.alloc hs _

set_option maxRecDepth 100000 in
set_option maxHeartbeats 4000000 in
theorem torn_not (c d : Cop) (was r : Rec) (k n : Int) (w : World) (hn : n ≠ 0) (K0 : Hid (∀ w, Calls Try.prog 32 #[] w (RetB w (.bool true))))
    (K1 : Hid (∀ w, Calls Try.prog 26 #[.agg (copsA c d)] w (RetB w (.tuple #[.agg (recA was), iv k, iv 0]))))
    (K2 : Hid (∀ w, Calls Try.prog 27 #[.agg (copsA c d), .agg (recA r), .bool false] w (RetB w (.tuple #[.agg (copsA Cop.zero Cop.zero), iv n]))))
    (K3 : Hid (∀ w, Calls Try.prog 27 #[.agg (copsA c d), .agg (recA r), .bool true] w (RetB w (.tuple #[.agg (copsA Cop.zero Cop.zero), iv n])))) :
    Calls Try.prog 8 #[.agg (copsA c d), .agg (recA r)] w (RetB w (.bool true)) := by
  have hn0 : (n != 0) = true := by simp [hn]
  have hnn : (n != n) = false := by simp
  clear hn
  go_enter Try.func8, Try.ntmps8
  go_wp2_with fail
  refine (K1.out _).mono ?_
  rintro e w1 ⟨rfl, hb⟩
  obtain ⟨a0r, a0f, a0n, a0c, a0z, a0l⟩ := keep1 (g := w.heap.size) (cs := copsA c d) hb (by first | (go_simp; done) | (go_simp; rfl)) (by go_simp) (by go_simp)
  obtain ⟨a1r, a1f, a1n, a1c, a1z, a1l⟩ := keep1 (g := w.heap.size + 1) (cs := recA r) hb (by first | (go_simp; done) | (go_simp; rfl)) (by go_simp) (by go_simp)
  have HB1 : Hid (Below w.heap.size w w1) := by
    refine Lib.hid (Below.trans ?_ (hb.mono (by first | omega | (simp <;> omega))))
    repeat (first | exact Below.refl _ _ | refine below_row ?_ (by omega) _ | refine Below.setCell ?_ (by first | omega | (simp <;> omega)) _ | refine Below.alloc ?_ (by first | omega | (simp <;> omega)) _ | refine Below.drew ?_)
  clear hb
  go_wp2_with fail
  refine (K0.out _).mono ?_
  rintro e w2 ⟨rfl, hb⟩
  obtain ⟨a0r, a0f, a0n, a0c, a0z, a0l⟩ := keep1 (g := w.heap.size) (cs := copsA c d) hb (by first | (go_simp; done) | (go_simp; rfl)) (by go_simp) (by go_simp)
  obtain ⟨a1r, a1f, a1n, a1c, a1z, a1l⟩ := keep1 (g := w.heap.size + 1) (cs := recA r) hb (by first | (go_simp; done) | (go_simp; rfl)) (by go_simp) (by go_simp)
  obtain ⟨a2r, a2f, a2n, a2c, a2z, a2l⟩ := keep1 (g := w1.heap.size) (cs := recA was) hb (by first | (go_simp; done) | (go_simp; rfl)) (by go_simp) (by go_simp)
  have HB2 : Hid (Below w.heap.size w w2) := by
    have hs := HB1.out.size
    refine Lib.hid (Below.trans ?_ (hb.mono (by first | omega | (simp <;> omega))))
    repeat (first | exact HB1.out | refine below_row ?_ (by omega) _ | refine Below.setCell ?_ (by first | omega | (simp <;> omega)) _ | refine Below.alloc ?_ (by first | omega | (simp <;> omega)) _ | refine Below.drew ?_)
  clear hb
  go_wp2_with fail
  refine (K2.out _).mono ?_
  rintro e w3 ⟨rfl, hb⟩
  obtain ⟨a0r, a0f, a0n, a0c, a0z, a0l⟩ := keep1 (g := w.heap.size) (cs := copsA c d) hb (by first | (go_simp; done) | (go_simp; rfl)) (by go_simp) (by go_simp)
  obtain ⟨a1r, a1f, a1n, a1c, a1z, a1l⟩ := keep1 (g := w.heap.size + 1) (cs := recA r) hb (by first | (go_simp; done) | (go_simp; rfl)) (by go_simp) (by go_simp)
  obtain ⟨a2r, a2f, a2n, a2c, a2z, a2l⟩ := keep1 (g := w1.heap.size) (cs := recA was) hb (by first | (go_simp; done) | (go_simp; rfl)) (by go_simp) (by go_simp)
  have HB3 : Hid (Below w.heap.size w w3) := by
    have hs := HB2.out.size
    refine Lib.hid (Below.trans ?_ (hb.mono (by first | omega | (simp <;> omega))))
    repeat (first | exact HB2.out | refine below_row ?_ (by omega) _ | refine Below.setCell ?_ (by first | omega | (simp <;> omega)) _ | refine Below.alloc ?_ (by first | omega | (simp <;> omega)) _ | refine Below.drew ?_)
  clear hb
  go_wp2_with fail
  refine (K3.out _).mono ?_
  rintro e w4 ⟨rfl, hb⟩
  obtain ⟨a0r, a0f, a0n, a0c, a0z, a0l⟩ := keep1 (g := w.heap.size) (cs := copsA c d) hb (by first | (go_simp; done) | (go_simp; rfl)) (by go_simp) (by go_simp)
  obtain ⟨a1r, a1f, a1n, a1c, a1z, a1l⟩ := keep1 (g := w.heap.size + 1) (cs := recA r) hb (by first | (go_simp; done) | (go_simp; rfl)) (by go_simp) (by go_simp)
  obtain ⟨a2r, a2f, a2n, a2c, a2z, a2l⟩ := keep1 (g := w1.heap.size) (cs := recA was) hb (by first | (go_simp; done) | (go_simp; rfl)) (by go_simp) (by go_simp)
  obtain ⟨a3r, a3f, a3n, a3c, a3z, a3l⟩ := keep1 (g := w3.heap.size) (cs := copsA Cop.zero Cop.zero) hb (by first | (go_simp; done) | (go_simp; rfl)) (by go_simp) (by go_simp)
  have HB4 : Hid (Below w.heap.size w w4) := by
    have hs := HB3.out.size
    refine Lib.hid (Below.trans ?_ (hb.mono (by first | omega | (simp <;> omega))))
    repeat (first | exact HB3.out | refine below_row ?_ (by omega) _ | refine Below.setCell ?_ (by first | omega | (simp <;> omega)) _ | refine Below.alloc ?_ (by first | omega | (simp <;> omega)) _ | refine Below.drew ?_)
  clear hb
  go_wp2_with fail
  go_ret
  refine ⟨rfl, ?_⟩
  have hs := HB4.out.size
  repeat (first | exact HB4.out | refine below_row ?_ (by omega) _ | refine Below.setCell ?_ (by first | omega | (simp <;> omega)) _ | refine Below.alloc ?_ (by first | omega | (simp <;> omega)) _ | refine Below.drew ?_)

theorem RecordTorn_walk (w : World) (v0 v1 : Value) (x0 : Cop × Cop) (x1 : Rec) (g0 : ArgCops v0 x0) (g1 : ArgRec v1 x1) : Calls Try.prog 8 #[v0, v1] w (RetB w (.bool true)) := by
  unfold ArgCops at g0
  unfold ArgRec at g1
  subst g0 g1
  obtain ⟨c, d⟩ := x0
  by_cases h : copCheck c d = 0
  · have hK1 := fun w => read_ok c d w h
    have hg := (recCheck_range0 (recRead_ok h))
    by_cases hr : recCheck (nextRec c d x1) = 0
    · obtain ⟨e1, e2, e3, e4, e5, e6, e7, e8⟩ := write_torn h hr
      have hK2 := fun w => write_calls c d x1 false w
      have hK3 := fun w => write_calls c d x1 true w
      have hK4 := fun w => read_ok (recPut c d x1 false).1 (recPut c d x1 false).2 w e3
      have hK5 := fun w => read_ok (recPut c d x1 true).1 (recPut c d x1 true).2 w e4
      rw [e1] at hK2
      rw [e2] at hK3
      rw [e5] at hK4
      rw [e6] at hK5
      have hn : nextRec c d x1 = { x1 with gen := (recRead c d).1.gen + 1 } := rfl
      rw [hn] at hK4
      generalize recPut c d x1 false = a at *
      generalize recPut c d x1 true = b at *
      obtain ⟨a1, a2⟩ := a
      obtain ⟨b1, b2⟩ := b
      have hk : (recRead c d).2 = 0 ∨ (recRead c d).2 = 1 := by unfold recRead; split <;> simp
      generalize recRead c d = q at *
      obtain ⟨was, k⟩ := q
      dsimp only at *
      rcases hk with rfl | rfl
      · obtain ⟨rfl, rfl⟩ := e7 rfl
        exact torn_0 _ _ _ _ was x1 w ⟨hg.1, hg.2.1⟩ kept_calls hK1 hK2 hK3 hK4 hK5
      · obtain ⟨rfl, rfl⟩ := e8 rfl
        exact torn_1 _ _ _ _ was x1 w ⟨hg.1, hg.2.1⟩ kept_calls hK1 hK2 hK3 hK4 hK5
    · have hw : ∀ t, recWrite c d x1 t = ((Cop.zero, Cop.zero), recCheck (nextRec c d x1)) := by
        intro t; unfold recWrite; rw [if_pos h]; exact if_neg hr
      have hK2 := fun w => write_calls c d x1 false w
      have hK3 := fun w => write_calls c d x1 true w
      rw [hw] at hK2 hK3
      exact torn_not c d _ x1 _ _ w hr kept_calls hK1 hK2 hK3
  · exact torn_bad c d x1 w h
end Go.Proofs.Ytefkfglkpebbmaa
