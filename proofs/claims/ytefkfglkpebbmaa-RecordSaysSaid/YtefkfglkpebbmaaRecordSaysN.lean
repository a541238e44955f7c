/- The walk of the law RecordSays. No conditions. -/
import Derived.Test.YtefkfglkpebbmaaRecKept
import Derived.Test.YtefkfglkpebbmaaRecArgsN
import Derived.Test.YtefkfglkpebbmaaRecLaws
namespace Go.Proofs.Ytefkfglkpebbmaa
open Go.RowKit
set_option linter.unusedVariables false
set_option linter.unusedSimpArgs false
attribute [local go_sem high] eql_rec neq_rec eql_cop eql_cops neq_cops neq_rec0 eql_rec0
theorem neq_same (n : Int) : (n != n) = false := by simp

set_option maxRecDepth 100000 in
set_option maxHeartbeats 8000000 in
theorem says_ok_bad (c d : Cop) (r : Rec) (torn : Bool) (x : Rec) (k f : Int) (p q : Cop) (b : Int) (w : World) (hb0 : (b != 0) = true)
    (K0 : Hid (∀ w, Calls Try.prog 32 #[] w (RetB w (.bool true))))
    (KR : Hid (∀ w, Calls Try.prog 26 #[.agg (copsA c d)] w (RetB w (.tuple #[.agg (recA x), iv k, iv 0]))))
    (KW : Hid (∀ w, Calls Try.prog 27 #[.agg (copsA c d), .agg (recA r), .bool torn] w (RetB w (.tuple #[.agg (copsA p q), iv f]))))
    (KS : Hid (∀ w, Calls Try.prog 28 #[.agg (recA r)] w (RetB w (.tuple #[iv 0, .agg (recA Rec.zero), iv b]))))
    (KC : Hid (∀ w, Calls Try.prog 29 #[.agg (recA r)] w (RetB w (.tuple #[.agg (recA Rec.zero), iv b]))))
    (KB : Hid (∀ w, Calls Try.prog 30 #[.agg (recA r)] w (RetB w (iv b))))
    (KE : Hid (∀ w, Calls Try.prog 31 #[.agg (copsA c d)] w (RetB w (iv 0))))
    (KB2 : Hid (∀ w, Calls Try.prog 33 #[.agg (recA r)] w (RetB w (iv b))))
    (KE2 : Hid (∀ w, Calls Try.prog 34 #[.agg (copsA c d)] w (RetB w (iv 0))))
    (KN : Hid (∀ w, Calls Try.prog 35 #[.agg (copsA c d)] w (RetB w (.tuple #[.agg (recA x), iv k]))))
    (KV : Hid (∀ w, Calls Try.prog 36 #[.agg (copsA c d), .agg (recA r), .bool torn] w (RetB w (.tuple #[.agg (copsA p q), iv f])))) :
    Calls Try.prog 7 #[.agg (recA r), .agg (copsA c d), .bool torn] w (RetB w (.bool true)) := by
  have n_k := neq_same k
  have n_f := neq_same f
  have n_b := neq_same b
  have hb2 : (b == 0) = false := by simpa using hb0
  go_enter Try.func7, Try.ntmps7
  go_wp2_with fail
  refine (KR.out _).mono ?_
  rintro e w1 ⟨rfl, hb⟩
  obtain ⟨a0r, a0f, a0n, a0c, a0z, a0l⟩ := keep1 (g := w.heap.size) (cs := recA r) hb (by first | (go_simp; done) | (go_simp; rfl)) (by go_simp) (by go_simp)
  obtain ⟨a1r, a1f, a1n, a1c, a1z, a1l⟩ := keep1 (g := w.heap.size + 1) (cs := copsA c d) hb (by first | (go_simp; done) | (go_simp; rfl)) (by go_simp) (by go_simp)
  have HB1 : Hid (Below w.heap.size w w1) := by
    refine Lib.hid (Below.trans ?_ (hb.mono (by first | omega | (simp <;> omega))))
    repeat (first | exact Below.refl _ _ | refine below_row ?_ (by omega) _ | refine Below.setCell ?_ (by first | omega | (simp <;> omega)) _ | refine Below.alloc ?_ (by first | omega | (simp <;> omega)) _ | refine Below.drew ?_)
  clear hb
  go_wp2_with fail
  refine (KW.out _).mono ?_
  rintro e w2 ⟨rfl, hb⟩
  obtain ⟨a0r, a0f, a0n, a0c, a0z, a0l⟩ := keep1 (g := w.heap.size) (cs := recA r) hb (by first | (go_simp; done) | (go_simp; rfl)) (by go_simp) (by go_simp)
  obtain ⟨a1r, a1f, a1n, a1c, a1z, a1l⟩ := keep1 (g := w.heap.size + 1) (cs := copsA c d) hb (by first | (go_simp; done) | (go_simp; rfl)) (by go_simp) (by go_simp)
  obtain ⟨a2r, a2f, a2n, a2c, a2z, a2l⟩ := keep1 (g := w1.heap.size) (cs := recA x) hb (by first | (go_simp; done) | (go_simp; rfl)) (by go_simp) (by go_simp)
  have HB2 : Hid (Below w.heap.size w w2) := by
    have hs := HB1.out.size
    refine Lib.hid (Below.trans ?_ (hb.mono (by first | omega | (simp <;> omega))))
    repeat (first | exact HB1.out | refine below_row ?_ (by omega) _ | refine Below.setCell ?_ (by first | omega | (simp <;> omega)) _ | refine Below.alloc ?_ (by first | omega | (simp <;> omega)) _ | refine Below.drew ?_)
  clear hb
  go_wp2_with fail
  refine (KS.out _).mono ?_
  rintro e w3 ⟨rfl, hb⟩
  obtain ⟨a0r, a0f, a0n, a0c, a0z, a0l⟩ := keep1 (g := w.heap.size) (cs := recA r) hb (by first | (go_simp; done) | (go_simp; rfl)) (by go_simp) (by go_simp)
  obtain ⟨a1r, a1f, a1n, a1c, a1z, a1l⟩ := keep1 (g := w.heap.size + 1) (cs := copsA c d) hb (by first | (go_simp; done) | (go_simp; rfl)) (by go_simp) (by go_simp)
  obtain ⟨a2r, a2f, a2n, a2c, a2z, a2l⟩ := keep1 (g := w1.heap.size) (cs := recA x) hb (by first | (go_simp; done) | (go_simp; rfl)) (by go_simp) (by go_simp)
  obtain ⟨a3r, a3f, a3n, a3c, a3z, a3l⟩ := keep1 (g := w2.heap.size) (cs := copsA p q) hb (by first | (go_simp; done) | (go_simp; rfl)) (by go_simp) (by go_simp)
  have HB3 : Hid (Below w.heap.size w w3) := by
    have hs := HB2.out.size
    refine Lib.hid (Below.trans ?_ (hb.mono (by first | omega | (simp <;> omega))))
    repeat (first | exact HB2.out | refine below_row ?_ (by omega) _ | refine Below.setCell ?_ (by first | omega | (simp <;> omega)) _ | refine Below.alloc ?_ (by first | omega | (simp <;> omega)) _ | refine Below.drew ?_)
  clear hb
  go_wp2_with fail
  refine (KC.out _).mono ?_
  rintro e w4 ⟨rfl, hb⟩
  obtain ⟨a0r, a0f, a0n, a0c, a0z, a0l⟩ := keep1 (g := w.heap.size) (cs := recA r) hb (by first | (go_simp; done) | (go_simp; rfl)) (by go_simp) (by go_simp)
  obtain ⟨a1r, a1f, a1n, a1c, a1z, a1l⟩ := keep1 (g := w.heap.size + 1) (cs := copsA c d) hb (by first | (go_simp; done) | (go_simp; rfl)) (by go_simp) (by go_simp)
  obtain ⟨a2r, a2f, a2n, a2c, a2z, a2l⟩ := keep1 (g := w1.heap.size) (cs := recA x) hb (by first | (go_simp; done) | (go_simp; rfl)) (by go_simp) (by go_simp)
  obtain ⟨a3r, a3f, a3n, a3c, a3z, a3l⟩ := keep1 (g := w2.heap.size) (cs := copsA p q) hb (by first | (go_simp; done) | (go_simp; rfl)) (by go_simp) (by go_simp)
  obtain ⟨a4r, a4f, a4n, a4c, a4z, a4l⟩ := keep1 (g := w3.heap.size) (cs := recA Rec.zero) hb (by first | (go_simp; done) | (go_simp; rfl)) (by go_simp) (by go_simp)
  have HB4 : Hid (Below w.heap.size w w4) := by
    have hs := HB3.out.size
    refine Lib.hid (Below.trans ?_ (hb.mono (by first | omega | (simp <;> omega))))
    repeat (first | exact HB3.out | refine below_row ?_ (by omega) _ | refine Below.setCell ?_ (by first | omega | (simp <;> omega)) _ | refine Below.alloc ?_ (by first | omega | (simp <;> omega)) _ | refine Below.drew ?_)
  clear hb
  go_wp2_with fail
  have R3 : rowOf (w4.alloc (.cells (recA Rec.zero) 44)).drew (w.heap.size) = recA r := by first | (go_simp; done) | (go_simp; intro he; exfalso; omega)
  have F3 : frOf (w4.alloc (.cells (recA Rec.zero) 44)).drew (w.heap.size) = (0, 0) := by first | (go_simp; done) | (go_simp; intro he; exfalso; omega)
  have R4 : rowOf (w4.alloc (.cells (recA Rec.zero) 44)).drew (w.heap.size + 1) = copsA c d := by first | (go_simp; done) | (go_simp; intro he; exfalso; omega)
  have F4 : frOf (w4.alloc (.cells (recA Rec.zero) 44)).drew (w.heap.size + 1) = (0, 0) := by first | (go_simp; done) | (go_simp; intro he; exfalso; omega)
  refine wp_region_chain (by kernel_rfl) (some 50 :: some 51 :: some 52 :: some 53 :: some 17 :: some 18 :: []) (.agg (recA r) :: iv b :: .agg (copsA c d) :: iv 0 :: iv b :: iv 0 :: []) 188 rfl rfl (by decide +kernel) (by decide +kernel) (by decide +kernel) rfl ?_ ?_
  · refine ⟨.inl ⟨rfl, fun done a wq hw h => ?_⟩, ?_⟩
    · have e3 := ch_old (t := 3) (v := .pointer (some ⟨w.heap.size, 0, none⟩)) h rfl rfl; obtain ⟨r_, f_, n_, c_, z_, l_⟩ := keep1 h.bel R3 (by go_simp) F3; refine ch_pure ?_; go_simp
    refine ⟨.inl ⟨rfl, fun done a wq hw h => ?_⟩, ?_⟩
    · have e50 := ch_new (i := 0) (t := 50) h (hw 0 (by decide)) rfl rfl; exact ch_call (by go_simp) (by go_simp) (KB.out _)
    refine ⟨.inl ⟨rfl, fun done a wq hw h => ?_⟩, ?_⟩
    · have e4 := ch_old (t := 4) (v := .pointer (some ⟨w.heap.size + 1, 0, none⟩)) h rfl rfl; obtain ⟨r_, f_, n_, c_, z_, l_⟩ := keep1 h.bel R4 (by go_simp) F4; refine ch_pure ?_; go_simp
    refine ⟨.inl ⟨rfl, fun done a wq hw h => ?_⟩, ?_⟩
    · have e52 := ch_new (i := 2) (t := 52) h (hw 2 (by decide)) rfl rfl; exact ch_call (by go_simp) (by go_simp) (KE.out _)
    refine ⟨.inl ⟨rfl, fun done a wq hw h => ?_⟩, ?_⟩
    · have e51 := ch_new (i := 1) (t := 51) h (hw 1 (by decide)) rfl rfl; exact ch_assign (ch_ev e51)
    refine ⟨.inl ⟨rfl, fun done a wq hw h => ?_⟩, ?_⟩
    · have e53 := ch_new (i := 3) (t := 53) h (hw 3 (by decide)) rfl rfl; exact ch_assign (ch_ev e53)
    exact trivial
  · intro w5 hb
    obtain ⟨a0r, a0f, a0n, a0c, a0z, a0l⟩ := keep1 (g := w.heap.size) (cs := recA r) hb (by first | (go_simp; done) | (go_simp; rfl)) (by go_simp) (by go_simp)
    obtain ⟨a1r, a1f, a1n, a1c, a1z, a1l⟩ := keep1 (g := w.heap.size + 1) (cs := copsA c d) hb (by first | (go_simp; done) | (go_simp; rfl)) (by go_simp) (by go_simp)
    obtain ⟨a2r, a2f, a2n, a2c, a2z, a2l⟩ := keep1 (g := w1.heap.size) (cs := recA x) hb (by first | (go_simp; done) | (go_simp; rfl)) (by go_simp) (by go_simp)
    obtain ⟨a3r, a3f, a3n, a3c, a3z, a3l⟩ := keep1 (g := w2.heap.size) (cs := copsA p q) hb (by first | (go_simp; done) | (go_simp; rfl)) (by go_simp) (by go_simp)
    obtain ⟨a4r, a4f, a4n, a4c, a4z, a4l⟩ := keep1 (g := w3.heap.size) (cs := recA Rec.zero) hb (by first | (go_simp; done) | (go_simp; rfl)) (by go_simp) (by go_simp)
    obtain ⟨a5r, a5f, a5n, a5c, a5z, a5l⟩ := keep1 (g := w4.heap.size) (cs := recA Rec.zero) hb (by first | (go_simp; done) | (go_simp; rfl)) (by go_simp) (by go_simp)
    have HB5 : Hid (Below w.heap.size w w5) := by
      have hs := HB4.out.size
      refine Lib.hid (Below.trans ?_ (hb.mono (by first | omega | (simp <;> omega))))
      repeat (first | exact HB4.out | refine below_row ?_ (by omega) _ | refine Below.setCell ?_ (by first | omega | (simp <;> omega)) _ | refine Below.alloc ?_ (by first | omega | (simp <;> omega)) _ | refine Below.drew ?_)
    clear hb
    clear R3 R4 F3 F4
    simp only [putAll_some, putAll_none, putAll_nil, List.setIfInBounds_toArray, List.set_cons_zero, List.set_cons_succ]
    go_wp2_with fail
    refine (K0.out _).mono ?_
    rintro e w6 ⟨rfl, hb⟩
    obtain ⟨a0r, a0f, a0n, a0c, a0z, a0l⟩ := keep1 (g := w.heap.size) (cs := recA r) hb (by first | (go_simp; done) | (go_simp; rfl)) (by go_simp) (by go_simp)
    obtain ⟨a1r, a1f, a1n, a1c, a1z, a1l⟩ := keep1 (g := w.heap.size + 1) (cs := copsA c d) hb (by first | (go_simp; done) | (go_simp; rfl)) (by go_simp) (by go_simp)
    obtain ⟨a2r, a2f, a2n, a2c, a2z, a2l⟩ := keep1 (g := w1.heap.size) (cs := recA x) hb (by first | (go_simp; done) | (go_simp; rfl)) (by go_simp) (by go_simp)
    obtain ⟨a3r, a3f, a3n, a3c, a3z, a3l⟩ := keep1 (g := w2.heap.size) (cs := copsA p q) hb (by first | (go_simp; done) | (go_simp; rfl)) (by go_simp) (by go_simp)
    obtain ⟨a4r, a4f, a4n, a4c, a4z, a4l⟩ := keep1 (g := w3.heap.size) (cs := recA Rec.zero) hb (by first | (go_simp; done) | (go_simp; rfl)) (by go_simp) (by go_simp)
    obtain ⟨a5r, a5f, a5n, a5c, a5z, a5l⟩ := keep1 (g := w4.heap.size) (cs := recA Rec.zero) hb (by first | (go_simp; done) | (go_simp; rfl)) (by go_simp) (by go_simp)
    have HB6 : Hid (Below w.heap.size w w6) := by
      have hs := HB5.out.size
      refine Lib.hid (Below.trans ?_ (hb.mono (by first | omega | (simp <;> omega))))
      repeat (first | exact HB5.out | refine below_row ?_ (by omega) _ | refine Below.setCell ?_ (by first | omega | (simp <;> omega)) _ | refine Below.alloc ?_ (by first | omega | (simp <;> omega)) _ | refine Below.drew ?_)
    clear hb
    go_wp2_with fail
    refine (KB2.out _).mono ?_
    rintro e w7 ⟨rfl, hb⟩
    obtain ⟨a0r, a0f, a0n, a0c, a0z, a0l⟩ := keep1 (g := w.heap.size) (cs := recA r) hb (by first | (go_simp; done) | (go_simp; rfl)) (by go_simp) (by go_simp)
    obtain ⟨a1r, a1f, a1n, a1c, a1z, a1l⟩ := keep1 (g := w.heap.size + 1) (cs := copsA c d) hb (by first | (go_simp; done) | (go_simp; rfl)) (by go_simp) (by go_simp)
    obtain ⟨a2r, a2f, a2n, a2c, a2z, a2l⟩ := keep1 (g := w1.heap.size) (cs := recA x) hb (by first | (go_simp; done) | (go_simp; rfl)) (by go_simp) (by go_simp)
    obtain ⟨a3r, a3f, a3n, a3c, a3z, a3l⟩ := keep1 (g := w2.heap.size) (cs := copsA p q) hb (by first | (go_simp; done) | (go_simp; rfl)) (by go_simp) (by go_simp)
    obtain ⟨a4r, a4f, a4n, a4c, a4z, a4l⟩ := keep1 (g := w3.heap.size) (cs := recA Rec.zero) hb (by first | (go_simp; done) | (go_simp; rfl)) (by go_simp) (by go_simp)
    obtain ⟨a5r, a5f, a5n, a5c, a5z, a5l⟩ := keep1 (g := w4.heap.size) (cs := recA Rec.zero) hb (by first | (go_simp; done) | (go_simp; rfl)) (by go_simp) (by go_simp)
    have HB7 : Hid (Below w.heap.size w w7) := by
      have hs := HB6.out.size
      refine Lib.hid (Below.trans ?_ (hb.mono (by first | omega | (simp <;> omega))))
      repeat (first | exact HB6.out | refine below_row ?_ (by omega) _ | refine Below.setCell ?_ (by first | omega | (simp <;> omega)) _ | refine Below.alloc ?_ (by first | omega | (simp <;> omega)) _ | refine Below.drew ?_)
    clear hb
    go_wp2_with fail
    refine (KE2.out _).mono ?_
    rintro e w8 ⟨rfl, hb⟩
    obtain ⟨a0r, a0f, a0n, a0c, a0z, a0l⟩ := keep1 (g := w.heap.size) (cs := recA r) hb (by first | (go_simp; done) | (go_simp; rfl)) (by go_simp) (by go_simp)
    obtain ⟨a1r, a1f, a1n, a1c, a1z, a1l⟩ := keep1 (g := w.heap.size + 1) (cs := copsA c d) hb (by first | (go_simp; done) | (go_simp; rfl)) (by go_simp) (by go_simp)
    obtain ⟨a2r, a2f, a2n, a2c, a2z, a2l⟩ := keep1 (g := w1.heap.size) (cs := recA x) hb (by first | (go_simp; done) | (go_simp; rfl)) (by go_simp) (by go_simp)
    obtain ⟨a3r, a3f, a3n, a3c, a3z, a3l⟩ := keep1 (g := w2.heap.size) (cs := copsA p q) hb (by first | (go_simp; done) | (go_simp; rfl)) (by go_simp) (by go_simp)
    obtain ⟨a4r, a4f, a4n, a4c, a4z, a4l⟩ := keep1 (g := w3.heap.size) (cs := recA Rec.zero) hb (by first | (go_simp; done) | (go_simp; rfl)) (by go_simp) (by go_simp)
    obtain ⟨a5r, a5f, a5n, a5c, a5z, a5l⟩ := keep1 (g := w4.heap.size) (cs := recA Rec.zero) hb (by first | (go_simp; done) | (go_simp; rfl)) (by go_simp) (by go_simp)
    have HB8 : Hid (Below w.heap.size w w8) := by
      have hs := HB7.out.size
      refine Lib.hid (Below.trans ?_ (hb.mono (by first | omega | (simp <;> omega))))
      repeat (first | exact HB7.out | refine below_row ?_ (by omega) _ | refine Below.setCell ?_ (by first | omega | (simp <;> omega)) _ | refine Below.alloc ?_ (by first | omega | (simp <;> omega)) _ | refine Below.drew ?_)
    clear hb
    go_wp2_with fail
    refine (KN.out _).mono ?_
    rintro e w9 ⟨rfl, hb⟩
    obtain ⟨a0r, a0f, a0n, a0c, a0z, a0l⟩ := keep1 (g := w.heap.size) (cs := recA r) hb (by first | (go_simp; done) | (go_simp; rfl)) (by go_simp) (by go_simp)
    obtain ⟨a1r, a1f, a1n, a1c, a1z, a1l⟩ := keep1 (g := w.heap.size + 1) (cs := copsA c d) hb (by first | (go_simp; done) | (go_simp; rfl)) (by go_simp) (by go_simp)
    obtain ⟨a2r, a2f, a2n, a2c, a2z, a2l⟩ := keep1 (g := w1.heap.size) (cs := recA x) hb (by first | (go_simp; done) | (go_simp; rfl)) (by go_simp) (by go_simp)
    obtain ⟨a3r, a3f, a3n, a3c, a3z, a3l⟩ := keep1 (g := w2.heap.size) (cs := copsA p q) hb (by first | (go_simp; done) | (go_simp; rfl)) (by go_simp) (by go_simp)
    obtain ⟨a4r, a4f, a4n, a4c, a4z, a4l⟩ := keep1 (g := w3.heap.size) (cs := recA Rec.zero) hb (by first | (go_simp; done) | (go_simp; rfl)) (by go_simp) (by go_simp)
    obtain ⟨a5r, a5f, a5n, a5c, a5z, a5l⟩ := keep1 (g := w4.heap.size) (cs := recA Rec.zero) hb (by first | (go_simp; done) | (go_simp; rfl)) (by go_simp) (by go_simp)
    obtain ⟨a6r, a6f, a6n, a6c, a6z, a6l⟩ := keep1 (g := w8.heap.size) (cs := recA Rec.zero) hb (by first | (go_simp; done) | (go_simp; rfl)) (by go_simp) (by go_simp)
    have HB9 : Hid (Below w.heap.size w w9) := by
      have hs := HB8.out.size
      refine Lib.hid (Below.trans ?_ (hb.mono (by first | omega | (simp <;> omega))))
      repeat (first | exact HB8.out | refine below_row ?_ (by omega) _ | refine Below.setCell ?_ (by first | omega | (simp <;> omega)) _ | refine Below.alloc ?_ (by first | omega | (simp <;> omega)) _ | refine Below.drew ?_)
    clear hb
    go_wp2_with fail
    refine (KV.out _).mono ?_
    rintro e w10 ⟨rfl, hb⟩
    obtain ⟨a0r, a0f, a0n, a0c, a0z, a0l⟩ := keep1 (g := w.heap.size) (cs := recA r) hb (by first | (go_simp; done) | (go_simp; rfl)) (by go_simp) (by go_simp)
    obtain ⟨a1r, a1f, a1n, a1c, a1z, a1l⟩ := keep1 (g := w.heap.size + 1) (cs := copsA c d) hb (by first | (go_simp; done) | (go_simp; rfl)) (by go_simp) (by go_simp)
    obtain ⟨a2r, a2f, a2n, a2c, a2z, a2l⟩ := keep1 (g := w1.heap.size) (cs := recA x) hb (by first | (go_simp; done) | (go_simp; rfl)) (by go_simp) (by go_simp)
    obtain ⟨a3r, a3f, a3n, a3c, a3z, a3l⟩ := keep1 (g := w2.heap.size) (cs := copsA p q) hb (by first | (go_simp; done) | (go_simp; rfl)) (by go_simp) (by go_simp)
    obtain ⟨a4r, a4f, a4n, a4c, a4z, a4l⟩ := keep1 (g := w3.heap.size) (cs := recA Rec.zero) hb (by first | (go_simp; done) | (go_simp; rfl)) (by go_simp) (by go_simp)
    obtain ⟨a5r, a5f, a5n, a5c, a5z, a5l⟩ := keep1 (g := w4.heap.size) (cs := recA Rec.zero) hb (by first | (go_simp; done) | (go_simp; rfl)) (by go_simp) (by go_simp)
    obtain ⟨a6r, a6f, a6n, a6c, a6z, a6l⟩ := keep1 (g := w8.heap.size) (cs := recA Rec.zero) hb (by first | (go_simp; done) | (go_simp; rfl)) (by go_simp) (by go_simp)
    obtain ⟨a7r, a7f, a7n, a7c, a7z, a7l⟩ := keep1 (g := w9.heap.size) (cs := recA x) hb (by first | (go_simp; done) | (go_simp; rfl)) (by go_simp) (by go_simp)
    have HB10 : Hid (Below w.heap.size w w10) := by
      have hs := HB9.out.size
      refine Lib.hid (Below.trans ?_ (hb.mono (by first | omega | (simp <;> omega))))
      repeat (first | exact HB9.out | refine below_row ?_ (by omega) _ | refine Below.setCell ?_ (by first | omega | (simp <;> omega)) _ | refine Below.alloc ?_ (by first | omega | (simp <;> omega)) _ | refine Below.drew ?_)
    clear hb
    go_wp2_with fail
    go_ret
    refine ⟨rfl, ?_⟩
    have hs := HB10.out.size
    repeat (first | exact HB10.out | refine below_row ?_ (by omega) _ | refine Below.setCell ?_ (by first | omega | (simp <;> omega)) _ | refine Below.alloc ?_ (by first | omega | (simp <;> omega)) _ | refine Below.drew ?_)

set_option maxRecDepth 100000 in
set_option maxHeartbeats 8000000 in
theorem says_ok_try (c d : Cop) (r : Rec) (torn : Bool) (x : Rec) (k f : Int) (p q : Cop) (s : Int) (y : Rec) (z : Rec) (w : World) (ht : r.trying = true)
    (K0 : Hid (∀ w, Calls Try.prog 32 #[] w (RetB w (.bool true))))
    (KR : Hid (∀ w, Calls Try.prog 26 #[.agg (copsA c d)] w (RetB w (.tuple #[.agg (recA x), iv k, iv 0]))))
    (KW : Hid (∀ w, Calls Try.prog 27 #[.agg (copsA c d), .agg (recA r), .bool torn] w (RetB w (.tuple #[.agg (copsA p q), iv f]))))
    (KS : Hid (∀ w, Calls Try.prog 28 #[.agg (recA r)] w (RetB w (.tuple #[iv s, .agg (recA y), iv 0]))))
    (KC : Hid (∀ w, Calls Try.prog 29 #[.agg (recA r)] w (RetB w (.tuple #[.agg (recA z), iv 0]))))
    (KB : Hid (∀ w, Calls Try.prog 30 #[.agg (recA r)] w (RetB w (iv 0))))
    (KE : Hid (∀ w, Calls Try.prog 31 #[.agg (copsA c d)] w (RetB w (iv 0))))
    (KB2 : Hid (∀ w, Calls Try.prog 33 #[.agg (recA r)] w (RetB w (iv 0))))
    (KE2 : Hid (∀ w, Calls Try.prog 34 #[.agg (copsA c d)] w (RetB w (iv 0))))
    (KN : Hid (∀ w, Calls Try.prog 35 #[.agg (copsA c d)] w (RetB w (.tuple #[.agg (recA x), iv k]))))
    (KV : Hid (∀ w, Calls Try.prog 36 #[.agg (copsA c d), .agg (recA r), .bool torn] w (RetB w (.tuple #[.agg (copsA p q), iv f]))))
    (KT : Hid (∀ w, Calls Try.prog 37 #[.agg (recA r)] w (RetB w (.tuple #[iv s, .agg (recA y)]))))
    (KD : Hid (∀ w, Calls Try.prog 38 #[.agg (recA r)] w (RetB w (.agg (recA z))))) :
    Calls Try.prog 7 #[.agg (recA r), .agg (copsA c d), .bool torn] w (RetB w (.bool true)) := by
  have n_k := neq_same k
  have n_f := neq_same f
  have n_s := neq_same s
  go_enter Try.func7, Try.ntmps7
  go_wp2_with fail
  refine (KR.out _).mono ?_
  rintro e w1 ⟨rfl, hb⟩
  obtain ⟨a0r, a0f, a0n, a0c, a0z, a0l⟩ := keep1 (g := w.heap.size) (cs := recA r) hb (by first | (go_simp; done) | (go_simp; rfl)) (by go_simp) (by go_simp)
  obtain ⟨a1r, a1f, a1n, a1c, a1z, a1l⟩ := keep1 (g := w.heap.size + 1) (cs := copsA c d) hb (by first | (go_simp; done) | (go_simp; rfl)) (by go_simp) (by go_simp)
  have HB1 : Hid (Below w.heap.size w w1) := by
    refine Lib.hid (Below.trans ?_ (hb.mono (by first | omega | (simp <;> omega))))
    repeat (first | exact Below.refl _ _ | refine below_row ?_ (by omega) _ | refine Below.setCell ?_ (by first | omega | (simp <;> omega)) _ | refine Below.alloc ?_ (by first | omega | (simp <;> omega)) _ | refine Below.drew ?_)
  clear hb
  go_wp2_with fail
  refine (KW.out _).mono ?_
  rintro e w2 ⟨rfl, hb⟩
  obtain ⟨a0r, a0f, a0n, a0c, a0z, a0l⟩ := keep1 (g := w.heap.size) (cs := recA r) hb (by first | (go_simp; done) | (go_simp; rfl)) (by go_simp) (by go_simp)
  obtain ⟨a1r, a1f, a1n, a1c, a1z, a1l⟩ := keep1 (g := w.heap.size + 1) (cs := copsA c d) hb (by first | (go_simp; done) | (go_simp; rfl)) (by go_simp) (by go_simp)
  obtain ⟨a2r, a2f, a2n, a2c, a2z, a2l⟩ := keep1 (g := w1.heap.size) (cs := recA x) hb (by first | (go_simp; done) | (go_simp; rfl)) (by go_simp) (by go_simp)
  have HB2 : Hid (Below w.heap.size w w2) := by
    have hs := HB1.out.size
    refine Lib.hid (Below.trans ?_ (hb.mono (by first | omega | (simp <;> omega))))
    repeat (first | exact HB1.out | refine below_row ?_ (by omega) _ | refine Below.setCell ?_ (by first | omega | (simp <;> omega)) _ | refine Below.alloc ?_ (by first | omega | (simp <;> omega)) _ | refine Below.drew ?_)
  clear hb
  go_wp2_with fail
  refine (KS.out _).mono ?_
  rintro e w3 ⟨rfl, hb⟩
  obtain ⟨a0r, a0f, a0n, a0c, a0z, a0l⟩ := keep1 (g := w.heap.size) (cs := recA r) hb (by first | (go_simp; done) | (go_simp; rfl)) (by go_simp) (by go_simp)
  obtain ⟨a1r, a1f, a1n, a1c, a1z, a1l⟩ := keep1 (g := w.heap.size + 1) (cs := copsA c d) hb (by first | (go_simp; done) | (go_simp; rfl)) (by go_simp) (by go_simp)
  obtain ⟨a2r, a2f, a2n, a2c, a2z, a2l⟩ := keep1 (g := w1.heap.size) (cs := recA x) hb (by first | (go_simp; done) | (go_simp; rfl)) (by go_simp) (by go_simp)
  obtain ⟨a3r, a3f, a3n, a3c, a3z, a3l⟩ := keep1 (g := w2.heap.size) (cs := copsA p q) hb (by first | (go_simp; done) | (go_simp; rfl)) (by go_simp) (by go_simp)
  have HB3 : Hid (Below w.heap.size w w3) := by
    have hs := HB2.out.size
    refine Lib.hid (Below.trans ?_ (hb.mono (by first | omega | (simp <;> omega))))
    repeat (first | exact HB2.out | refine below_row ?_ (by omega) _ | refine Below.setCell ?_ (by first | omega | (simp <;> omega)) _ | refine Below.alloc ?_ (by first | omega | (simp <;> omega)) _ | refine Below.drew ?_)
  clear hb
  go_wp2_with fail
  refine (KC.out _).mono ?_
  rintro e w4 ⟨rfl, hb⟩
  obtain ⟨a0r, a0f, a0n, a0c, a0z, a0l⟩ := keep1 (g := w.heap.size) (cs := recA r) hb (by first | (go_simp; done) | (go_simp; rfl)) (by go_simp) (by go_simp)
  obtain ⟨a1r, a1f, a1n, a1c, a1z, a1l⟩ := keep1 (g := w.heap.size + 1) (cs := copsA c d) hb (by first | (go_simp; done) | (go_simp; rfl)) (by go_simp) (by go_simp)
  obtain ⟨a2r, a2f, a2n, a2c, a2z, a2l⟩ := keep1 (g := w1.heap.size) (cs := recA x) hb (by first | (go_simp; done) | (go_simp; rfl)) (by go_simp) (by go_simp)
  obtain ⟨a3r, a3f, a3n, a3c, a3z, a3l⟩ := keep1 (g := w2.heap.size) (cs := copsA p q) hb (by first | (go_simp; done) | (go_simp; rfl)) (by go_simp) (by go_simp)
  obtain ⟨a4r, a4f, a4n, a4c, a4z, a4l⟩ := keep1 (g := w3.heap.size) (cs := recA y) hb (by first | (go_simp; done) | (go_simp; rfl)) (by go_simp) (by go_simp)
  have HB4 : Hid (Below w.heap.size w w4) := by
    have hs := HB3.out.size
    refine Lib.hid (Below.trans ?_ (hb.mono (by first | omega | (simp <;> omega))))
    repeat (first | exact HB3.out | refine below_row ?_ (by omega) _ | refine Below.setCell ?_ (by first | omega | (simp <;> omega)) _ | refine Below.alloc ?_ (by first | omega | (simp <;> omega)) _ | refine Below.drew ?_)
  clear hb
  go_wp2_with fail
  have R3 : rowOf (w4.alloc (.cells (recA z) 44)).drew (w.heap.size) = recA r := by first | (go_simp; done) | (go_simp; intro he; exfalso; omega)
  have F3 : frOf (w4.alloc (.cells (recA z) 44)).drew (w.heap.size) = (0, 0) := by first | (go_simp; done) | (go_simp; intro he; exfalso; omega)
  have R4 : rowOf (w4.alloc (.cells (recA z) 44)).drew (w.heap.size + 1) = copsA c d := by first | (go_simp; done) | (go_simp; intro he; exfalso; omega)
  have F4 : frOf (w4.alloc (.cells (recA z) 44)).drew (w.heap.size + 1) = (0, 0) := by first | (go_simp; done) | (go_simp; intro he; exfalso; omega)
  refine wp_region_chain (by kernel_rfl) (some 50 :: some 51 :: some 52 :: some 53 :: some 17 :: some 18 :: []) (.agg (recA r) :: iv 0 :: .agg (copsA c d) :: iv 0 :: iv 0 :: iv 0 :: []) 188 rfl rfl (by decide +kernel) (by decide +kernel) (by decide +kernel) rfl ?_ ?_
  · refine ⟨.inl ⟨rfl, fun done a wq hw h => ?_⟩, ?_⟩
    · have e3 := ch_old (t := 3) (v := .pointer (some ⟨w.heap.size, 0, none⟩)) h rfl rfl; obtain ⟨r_, f_, n_, c_, z_, l_⟩ := keep1 h.bel R3 (by go_simp) F3; refine ch_pure ?_; go_simp
    refine ⟨.inl ⟨rfl, fun done a wq hw h => ?_⟩, ?_⟩
    · have e50 := ch_new (i := 0) (t := 50) h (hw 0 (by decide)) rfl rfl; exact ch_call (by go_simp) (by go_simp) (KB.out _)
    refine ⟨.inl ⟨rfl, fun done a wq hw h => ?_⟩, ?_⟩
    · have e4 := ch_old (t := 4) (v := .pointer (some ⟨w.heap.size + 1, 0, none⟩)) h rfl rfl; obtain ⟨r_, f_, n_, c_, z_, l_⟩ := keep1 h.bel R4 (by go_simp) F4; refine ch_pure ?_; go_simp
    refine ⟨.inl ⟨rfl, fun done a wq hw h => ?_⟩, ?_⟩
    · have e52 := ch_new (i := 2) (t := 52) h (hw 2 (by decide)) rfl rfl; exact ch_call (by go_simp) (by go_simp) (KE.out _)
    refine ⟨.inl ⟨rfl, fun done a wq hw h => ?_⟩, ?_⟩
    · have e51 := ch_new (i := 1) (t := 51) h (hw 1 (by decide)) rfl rfl; exact ch_assign (ch_ev e51)
    refine ⟨.inl ⟨rfl, fun done a wq hw h => ?_⟩, ?_⟩
    · have e53 := ch_new (i := 3) (t := 53) h (hw 3 (by decide)) rfl rfl; exact ch_assign (ch_ev e53)
    exact trivial
  · intro w5 hb
    obtain ⟨a0r, a0f, a0n, a0c, a0z, a0l⟩ := keep1 (g := w.heap.size) (cs := recA r) hb (by first | (go_simp; done) | (go_simp; rfl)) (by go_simp) (by go_simp)
    obtain ⟨a1r, a1f, a1n, a1c, a1z, a1l⟩ := keep1 (g := w.heap.size + 1) (cs := copsA c d) hb (by first | (go_simp; done) | (go_simp; rfl)) (by go_simp) (by go_simp)
    obtain ⟨a2r, a2f, a2n, a2c, a2z, a2l⟩ := keep1 (g := w1.heap.size) (cs := recA x) hb (by first | (go_simp; done) | (go_simp; rfl)) (by go_simp) (by go_simp)
    obtain ⟨a3r, a3f, a3n, a3c, a3z, a3l⟩ := keep1 (g := w2.heap.size) (cs := copsA p q) hb (by first | (go_simp; done) | (go_simp; rfl)) (by go_simp) (by go_simp)
    obtain ⟨a4r, a4f, a4n, a4c, a4z, a4l⟩ := keep1 (g := w3.heap.size) (cs := recA y) hb (by first | (go_simp; done) | (go_simp; rfl)) (by go_simp) (by go_simp)
    obtain ⟨a5r, a5f, a5n, a5c, a5z, a5l⟩ := keep1 (g := w4.heap.size) (cs := recA z) hb (by first | (go_simp; done) | (go_simp; rfl)) (by go_simp) (by go_simp)
    have HB5 : Hid (Below w.heap.size w w5) := by
      have hs := HB4.out.size
      refine Lib.hid (Below.trans ?_ (hb.mono (by first | omega | (simp <;> omega))))
      repeat (first | exact HB4.out | refine below_row ?_ (by omega) _ | refine Below.setCell ?_ (by first | omega | (simp <;> omega)) _ | refine Below.alloc ?_ (by first | omega | (simp <;> omega)) _ | refine Below.drew ?_)
    clear hb
    clear R3 R4 F3 F4
    simp only [putAll_some, putAll_none, putAll_nil, List.setIfInBounds_toArray, List.set_cons_zero, List.set_cons_succ]
    go_wp2_with fail
    refine (K0.out _).mono ?_
    rintro e w6 ⟨rfl, hb⟩
    obtain ⟨a0r, a0f, a0n, a0c, a0z, a0l⟩ := keep1 (g := w.heap.size) (cs := recA r) hb (by first | (go_simp; done) | (go_simp; rfl)) (by go_simp) (by go_simp)
    obtain ⟨a1r, a1f, a1n, a1c, a1z, a1l⟩ := keep1 (g := w.heap.size + 1) (cs := copsA c d) hb (by first | (go_simp; done) | (go_simp; rfl)) (by go_simp) (by go_simp)
    obtain ⟨a2r, a2f, a2n, a2c, a2z, a2l⟩ := keep1 (g := w1.heap.size) (cs := recA x) hb (by first | (go_simp; done) | (go_simp; rfl)) (by go_simp) (by go_simp)
    obtain ⟨a3r, a3f, a3n, a3c, a3z, a3l⟩ := keep1 (g := w2.heap.size) (cs := copsA p q) hb (by first | (go_simp; done) | (go_simp; rfl)) (by go_simp) (by go_simp)
    obtain ⟨a4r, a4f, a4n, a4c, a4z, a4l⟩ := keep1 (g := w3.heap.size) (cs := recA y) hb (by first | (go_simp; done) | (go_simp; rfl)) (by go_simp) (by go_simp)
    obtain ⟨a5r, a5f, a5n, a5c, a5z, a5l⟩ := keep1 (g := w4.heap.size) (cs := recA z) hb (by first | (go_simp; done) | (go_simp; rfl)) (by go_simp) (by go_simp)
    have HB6 : Hid (Below w.heap.size w w6) := by
      have hs := HB5.out.size
      refine Lib.hid (Below.trans ?_ (hb.mono (by first | omega | (simp <;> omega))))
      repeat (first | exact HB5.out | refine below_row ?_ (by omega) _ | refine Below.setCell ?_ (by first | omega | (simp <;> omega)) _ | refine Below.alloc ?_ (by first | omega | (simp <;> omega)) _ | refine Below.drew ?_)
    clear hb
    go_wp2_with fail
    refine (KB2.out _).mono ?_
    rintro e w7 ⟨rfl, hb⟩
    obtain ⟨a0r, a0f, a0n, a0c, a0z, a0l⟩ := keep1 (g := w.heap.size) (cs := recA r) hb (by first | (go_simp; done) | (go_simp; rfl)) (by go_simp) (by go_simp)
    obtain ⟨a1r, a1f, a1n, a1c, a1z, a1l⟩ := keep1 (g := w.heap.size + 1) (cs := copsA c d) hb (by first | (go_simp; done) | (go_simp; rfl)) (by go_simp) (by go_simp)
    obtain ⟨a2r, a2f, a2n, a2c, a2z, a2l⟩ := keep1 (g := w1.heap.size) (cs := recA x) hb (by first | (go_simp; done) | (go_simp; rfl)) (by go_simp) (by go_simp)
    obtain ⟨a3r, a3f, a3n, a3c, a3z, a3l⟩ := keep1 (g := w2.heap.size) (cs := copsA p q) hb (by first | (go_simp; done) | (go_simp; rfl)) (by go_simp) (by go_simp)
    obtain ⟨a4r, a4f, a4n, a4c, a4z, a4l⟩ := keep1 (g := w3.heap.size) (cs := recA y) hb (by first | (go_simp; done) | (go_simp; rfl)) (by go_simp) (by go_simp)
    obtain ⟨a5r, a5f, a5n, a5c, a5z, a5l⟩ := keep1 (g := w4.heap.size) (cs := recA z) hb (by first | (go_simp; done) | (go_simp; rfl)) (by go_simp) (by go_simp)
    have HB7 : Hid (Below w.heap.size w w7) := by
      have hs := HB6.out.size
      refine Lib.hid (Below.trans ?_ (hb.mono (by first | omega | (simp <;> omega))))
      repeat (first | exact HB6.out | refine below_row ?_ (by omega) _ | refine Below.setCell ?_ (by first | omega | (simp <;> omega)) _ | refine Below.alloc ?_ (by first | omega | (simp <;> omega)) _ | refine Below.drew ?_)
    clear hb
    go_wp2_with fail
    refine (KE2.out _).mono ?_
    rintro e w8 ⟨rfl, hb⟩
    obtain ⟨a0r, a0f, a0n, a0c, a0z, a0l⟩ := keep1 (g := w.heap.size) (cs := recA r) hb (by first | (go_simp; done) | (go_simp; rfl)) (by go_simp) (by go_simp)
    obtain ⟨a1r, a1f, a1n, a1c, a1z, a1l⟩ := keep1 (g := w.heap.size + 1) (cs := copsA c d) hb (by first | (go_simp; done) | (go_simp; rfl)) (by go_simp) (by go_simp)
    obtain ⟨a2r, a2f, a2n, a2c, a2z, a2l⟩ := keep1 (g := w1.heap.size) (cs := recA x) hb (by first | (go_simp; done) | (go_simp; rfl)) (by go_simp) (by go_simp)
    obtain ⟨a3r, a3f, a3n, a3c, a3z, a3l⟩ := keep1 (g := w2.heap.size) (cs := copsA p q) hb (by first | (go_simp; done) | (go_simp; rfl)) (by go_simp) (by go_simp)
    obtain ⟨a4r, a4f, a4n, a4c, a4z, a4l⟩ := keep1 (g := w3.heap.size) (cs := recA y) hb (by first | (go_simp; done) | (go_simp; rfl)) (by go_simp) (by go_simp)
    obtain ⟨a5r, a5f, a5n, a5c, a5z, a5l⟩ := keep1 (g := w4.heap.size) (cs := recA z) hb (by first | (go_simp; done) | (go_simp; rfl)) (by go_simp) (by go_simp)
    have HB8 : Hid (Below w.heap.size w w8) := by
      have hs := HB7.out.size
      refine Lib.hid (Below.trans ?_ (hb.mono (by first | omega | (simp <;> omega))))
      repeat (first | exact HB7.out | refine below_row ?_ (by omega) _ | refine Below.setCell ?_ (by first | omega | (simp <;> omega)) _ | refine Below.alloc ?_ (by first | omega | (simp <;> omega)) _ | refine Below.drew ?_)
    clear hb
    go_wp2_with fail
    refine (KN.out _).mono ?_
    rintro e w9 ⟨rfl, hb⟩
    obtain ⟨a0r, a0f, a0n, a0c, a0z, a0l⟩ := keep1 (g := w.heap.size) (cs := recA r) hb (by first | (go_simp; done) | (go_simp; rfl)) (by go_simp) (by go_simp)
    obtain ⟨a1r, a1f, a1n, a1c, a1z, a1l⟩ := keep1 (g := w.heap.size + 1) (cs := copsA c d) hb (by first | (go_simp; done) | (go_simp; rfl)) (by go_simp) (by go_simp)
    obtain ⟨a2r, a2f, a2n, a2c, a2z, a2l⟩ := keep1 (g := w1.heap.size) (cs := recA x) hb (by first | (go_simp; done) | (go_simp; rfl)) (by go_simp) (by go_simp)
    obtain ⟨a3r, a3f, a3n, a3c, a3z, a3l⟩ := keep1 (g := w2.heap.size) (cs := copsA p q) hb (by first | (go_simp; done) | (go_simp; rfl)) (by go_simp) (by go_simp)
    obtain ⟨a4r, a4f, a4n, a4c, a4z, a4l⟩ := keep1 (g := w3.heap.size) (cs := recA y) hb (by first | (go_simp; done) | (go_simp; rfl)) (by go_simp) (by go_simp)
    obtain ⟨a5r, a5f, a5n, a5c, a5z, a5l⟩ := keep1 (g := w4.heap.size) (cs := recA z) hb (by first | (go_simp; done) | (go_simp; rfl)) (by go_simp) (by go_simp)
    obtain ⟨a6r, a6f, a6n, a6c, a6z, a6l⟩ := keep1 (g := w8.heap.size) (cs := recA Rec.zero) hb (by first | (go_simp; done) | (go_simp; rfl)) (by go_simp) (by go_simp)
    have HB9 : Hid (Below w.heap.size w w9) := by
      have hs := HB8.out.size
      refine Lib.hid (Below.trans ?_ (hb.mono (by first | omega | (simp <;> omega))))
      repeat (first | exact HB8.out | refine below_row ?_ (by omega) _ | refine Below.setCell ?_ (by first | omega | (simp <;> omega)) _ | refine Below.alloc ?_ (by first | omega | (simp <;> omega)) _ | refine Below.drew ?_)
    clear hb
    go_wp2_with fail
    refine (KV.out _).mono ?_
    rintro e w10 ⟨rfl, hb⟩
    obtain ⟨a0r, a0f, a0n, a0c, a0z, a0l⟩ := keep1 (g := w.heap.size) (cs := recA r) hb (by first | (go_simp; done) | (go_simp; rfl)) (by go_simp) (by go_simp)
    obtain ⟨a1r, a1f, a1n, a1c, a1z, a1l⟩ := keep1 (g := w.heap.size + 1) (cs := copsA c d) hb (by first | (go_simp; done) | (go_simp; rfl)) (by go_simp) (by go_simp)
    obtain ⟨a2r, a2f, a2n, a2c, a2z, a2l⟩ := keep1 (g := w1.heap.size) (cs := recA x) hb (by first | (go_simp; done) | (go_simp; rfl)) (by go_simp) (by go_simp)
    obtain ⟨a3r, a3f, a3n, a3c, a3z, a3l⟩ := keep1 (g := w2.heap.size) (cs := copsA p q) hb (by first | (go_simp; done) | (go_simp; rfl)) (by go_simp) (by go_simp)
    obtain ⟨a4r, a4f, a4n, a4c, a4z, a4l⟩ := keep1 (g := w3.heap.size) (cs := recA y) hb (by first | (go_simp; done) | (go_simp; rfl)) (by go_simp) (by go_simp)
    obtain ⟨a5r, a5f, a5n, a5c, a5z, a5l⟩ := keep1 (g := w4.heap.size) (cs := recA z) hb (by first | (go_simp; done) | (go_simp; rfl)) (by go_simp) (by go_simp)
    obtain ⟨a6r, a6f, a6n, a6c, a6z, a6l⟩ := keep1 (g := w8.heap.size) (cs := recA Rec.zero) hb (by first | (go_simp; done) | (go_simp; rfl)) (by go_simp) (by go_simp)
    obtain ⟨a7r, a7f, a7n, a7c, a7z, a7l⟩ := keep1 (g := w9.heap.size) (cs := recA x) hb (by first | (go_simp; done) | (go_simp; rfl)) (by go_simp) (by go_simp)
    have HB10 : Hid (Below w.heap.size w w10) := by
      have hs := HB9.out.size
      refine Lib.hid (Below.trans ?_ (hb.mono (by first | omega | (simp <;> omega))))
      repeat (first | exact HB9.out | refine below_row ?_ (by omega) _ | refine Below.setCell ?_ (by first | omega | (simp <;> omega)) _ | refine Below.alloc ?_ (by first | omega | (simp <;> omega)) _ | refine Below.drew ?_)
    clear hb
    go_wp2_with fail
    refine (KT.out _).mono ?_
    rintro e w11 ⟨rfl, hb⟩
    obtain ⟨a0r, a0f, a0n, a0c, a0z, a0l⟩ := keep1 (g := w.heap.size) (cs := recA r) hb (by first | (go_simp; done) | (go_simp; rfl)) (by go_simp) (by go_simp)
    obtain ⟨a1r, a1f, a1n, a1c, a1z, a1l⟩ := keep1 (g := w.heap.size + 1) (cs := copsA c d) hb (by first | (go_simp; done) | (go_simp; rfl)) (by go_simp) (by go_simp)
    obtain ⟨a2r, a2f, a2n, a2c, a2z, a2l⟩ := keep1 (g := w1.heap.size) (cs := recA x) hb (by first | (go_simp; done) | (go_simp; rfl)) (by go_simp) (by go_simp)
    obtain ⟨a3r, a3f, a3n, a3c, a3z, a3l⟩ := keep1 (g := w2.heap.size) (cs := copsA p q) hb (by first | (go_simp; done) | (go_simp; rfl)) (by go_simp) (by go_simp)
    obtain ⟨a4r, a4f, a4n, a4c, a4z, a4l⟩ := keep1 (g := w3.heap.size) (cs := recA y) hb (by first | (go_simp; done) | (go_simp; rfl)) (by go_simp) (by go_simp)
    obtain ⟨a5r, a5f, a5n, a5c, a5z, a5l⟩ := keep1 (g := w4.heap.size) (cs := recA z) hb (by first | (go_simp; done) | (go_simp; rfl)) (by go_simp) (by go_simp)
    obtain ⟨a6r, a6f, a6n, a6c, a6z, a6l⟩ := keep1 (g := w8.heap.size) (cs := recA Rec.zero) hb (by first | (go_simp; done) | (go_simp; rfl)) (by go_simp) (by go_simp)
    obtain ⟨a7r, a7f, a7n, a7c, a7z, a7l⟩ := keep1 (g := w9.heap.size) (cs := recA x) hb (by first | (go_simp; done) | (go_simp; rfl)) (by go_simp) (by go_simp)
    obtain ⟨a8r, a8f, a8n, a8c, a8z, a8l⟩ := keep1 (g := w10.heap.size) (cs := copsA p q) hb (by first | (go_simp; done) | (go_simp; rfl)) (by go_simp) (by go_simp)
    have HB11 : Hid (Below w.heap.size w w11) := by
      have hs := HB10.out.size
      refine Lib.hid (Below.trans ?_ (hb.mono (by first | omega | (simp <;> omega))))
      repeat (first | exact HB10.out | refine below_row ?_ (by omega) _ | refine Below.setCell ?_ (by first | omega | (simp <;> omega)) _ | refine Below.alloc ?_ (by first | omega | (simp <;> omega)) _ | refine Below.drew ?_)
    clear hb
    go_wp2_with fail
    have R3 : rowOf (w11.alloc (.cells (recA y) 44)).drew (w.heap.size) = recA r := by first | (go_simp; done) | (go_simp; intro he; exfalso; omega)
    have F3 : frOf (w11.alloc (.cells (recA y) 44)).drew (w.heap.size) = (0, 0) := by first | (go_simp; done) | (go_simp; intro he; exfalso; omega)
    have R15 : rowOf (w11.alloc (.cells (recA y) 44)).drew (w4.heap.size) = recA z := by first | (go_simp; done) | (go_simp; intro he; exfalso; omega)
    have F15 : frOf (w11.alloc (.cells (recA y) 44)).drew (w4.heap.size) = (0, 0) := by first | (go_simp; done) | (go_simp; intro he; exfalso; omega)
    refine wp_region_chain (by kernel_rfl) (some 180 :: some 181 :: some 182 :: some 183 :: some 184 :: some 185 :: some 186 :: some 187 :: some 6 :: []) (iv 0 :: .bool true :: .bool true :: .agg (recA z) :: .agg (recA r) :: .agg (recA z) :: .bool true :: .bool true :: .bool true :: []) 188 rfl rfl (by decide +kernel) (by decide +kernel) (by decide +kernel) rfl ?_ ?_
    · refine ⟨.inl ⟨rfl, fun done a wq hw h => ?_⟩, ?_⟩
      · have e16 := ch_old (t := 16) (v := iv 0) h rfl rfl; exact ch_move (ch_ev e16)
      refine ⟨.inl ⟨rfl, fun done a wq hw h => ?_⟩, ?_⟩
      · have e180 := ch_new (i := 0) (t := 180) h (hw 0 (by decide)) rfl rfl; exact ch_eql_int (by kernel_rfl) (ch_ev e180) rfl (by simp)
      refine ⟨.inl ⟨rfl, fun done a wq hw h => ?_⟩, ?_⟩
      · have e181 := ch_new (i := 1) (t := 181) h (hw 1 (by decide)) rfl rfl; exact ch_move (ch_ev e181)
      refine ⟨.inl ⟨rfl, fun done a wq hw h => ?_⟩, ?_⟩
      · have e15 := ch_old (t := 15) (v := .pointer (some ⟨w4.heap.size, 0, none⟩)) h rfl rfl; obtain ⟨r_, f_, n_, c_, z_, l_⟩ := keep1 h.bel R15 (by go_simp) F15; refine ch_pure ?_; go_simp
      refine ⟨.inl ⟨rfl, fun done a wq hw h => ?_⟩, ?_⟩
      · have e3 := ch_old (t := 3) (v := .pointer (some ⟨w.heap.size, 0, none⟩)) h rfl rfl; obtain ⟨r_, f_, n_, c_, z_, l_⟩ := keep1 h.bel R3 (by go_simp) F3; refine ch_pure ?_; go_simp
      refine ⟨.inl ⟨rfl, fun done a wq hw h => ?_⟩, ?_⟩
      · have e184 := ch_new (i := 4) (t := 184) h (hw 4 (by decide)) rfl rfl; exact ch_call (by go_simp) (by go_simp) (KD.out _)
      refine ⟨.inl ⟨rfl, fun done a wq hw h => ?_⟩, ?_⟩
      · have e183 := ch_new (i := 3) (t := 183) h (hw 3 (by decide)) rfl rfl; have e185 := ch_new (i := 5) (t := 185) h (hw 5 (by decide)) rfl rfl; refine ch_pure ?_; go_simp
      refine ⟨.inl ⟨rfl, fun done a wq hw h => ?_⟩, ?_⟩
      · have e182 := ch_new (i := 2) (t := 182) h (hw 2 (by decide)) rfl rfl; have e186 := ch_new (i := 6) (t := 186) h (hw 6 (by decide)) rfl rfl; exact ch_pick_t e182 (ch_ev e186)
      refine ⟨.inl ⟨rfl, fun done a wq hw h => ?_⟩, ?_⟩
      · have e187 := ch_new (i := 7) (t := 187) h (hw 7 (by decide)) rfl rfl; exact ch_assign (ch_ev e187)
      exact trivial
    · intro w_ hb
      simp only [putAll_some, putAll_none, putAll_nil, List.setIfInBounds_toArray, List.set_cons_zero, List.set_cons_succ]
      go_wp2_with fail
      go_ret
      have hs := HB11.out.size
      refine ⟨rfl, Below.trans ?_ (hb.mono (by simp; omega))⟩
      exact HB11.out.alloc hs _

set_option maxRecDepth 100000 in
set_option maxHeartbeats 8000000 in
theorem says_ok_not (c d : Cop) (r : Rec) (torn : Bool) (x : Rec) (k f : Int) (p q : Cop) (s : Int) (y : Rec) (w : World) (ht : r.trying = false)
    (K0 : Hid (∀ w, Calls Try.prog 32 #[] w (RetB w (.bool true))))
    (KR : Hid (∀ w, Calls Try.prog 26 #[.agg (copsA c d)] w (RetB w (.tuple #[.agg (recA x), iv k, iv 0]))))
    (KW : Hid (∀ w, Calls Try.prog 27 #[.agg (copsA c d), .agg (recA r), .bool torn] w (RetB w (.tuple #[.agg (copsA p q), iv f]))))
    (KS : Hid (∀ w, Calls Try.prog 28 #[.agg (recA r)] w (RetB w (.tuple #[iv s, .agg (recA y), iv 0]))))
    (KC : Hid (∀ w, Calls Try.prog 29 #[.agg (recA r)] w (RetB w (.tuple #[.agg (recA Rec.zero), iv 5]))))
    (KB : Hid (∀ w, Calls Try.prog 30 #[.agg (recA r)] w (RetB w (iv 0))))
    (KE : Hid (∀ w, Calls Try.prog 31 #[.agg (copsA c d)] w (RetB w (iv 0))))
    (KB2 : Hid (∀ w, Calls Try.prog 33 #[.agg (recA r)] w (RetB w (iv 0))))
    (KE2 : Hid (∀ w, Calls Try.prog 34 #[.agg (copsA c d)] w (RetB w (iv 0))))
    (KN : Hid (∀ w, Calls Try.prog 35 #[.agg (copsA c d)] w (RetB w (.tuple #[.agg (recA x), iv k]))))
    (KV : Hid (∀ w, Calls Try.prog 36 #[.agg (copsA c d), .agg (recA r), .bool torn] w (RetB w (.tuple #[.agg (copsA p q), iv f]))))
    (KT : Hid (∀ w, Calls Try.prog 37 #[.agg (recA r)] w (RetB w (.tuple #[iv s, .agg (recA y)])))) :
    Calls Try.prog 7 #[.agg (recA r), .agg (copsA c d), .bool torn] w (RetB w (.bool true)) := by
  have n_k := neq_same k
  have n_f := neq_same f
  have n_s := neq_same s
  go_enter Try.func7, Try.ntmps7
  go_wp2_with fail
  refine (KR.out _).mono ?_
  rintro e w1 ⟨rfl, hb⟩
  obtain ⟨a0r, a0f, a0n, a0c, a0z, a0l⟩ := keep1 (g := w.heap.size) (cs := recA r) hb (by first | (go_simp; done) | (go_simp; rfl)) (by go_simp) (by go_simp)
  obtain ⟨a1r, a1f, a1n, a1c, a1z, a1l⟩ := keep1 (g := w.heap.size + 1) (cs := copsA c d) hb (by first | (go_simp; done) | (go_simp; rfl)) (by go_simp) (by go_simp)
  have HB1 : Hid (Below w.heap.size w w1) := by
    refine Lib.hid (Below.trans ?_ (hb.mono (by first | omega | (simp <;> omega))))
    repeat (first | exact Below.refl _ _ | refine below_row ?_ (by omega) _ | refine Below.setCell ?_ (by first | omega | (simp <;> omega)) _ | refine Below.alloc ?_ (by first | omega | (simp <;> omega)) _ | refine Below.drew ?_)
  clear hb
  go_wp2_with fail
  refine (KW.out _).mono ?_
  rintro e w2 ⟨rfl, hb⟩
  obtain ⟨a0r, a0f, a0n, a0c, a0z, a0l⟩ := keep1 (g := w.heap.size) (cs := recA r) hb (by first | (go_simp; done) | (go_simp; rfl)) (by go_simp) (by go_simp)
  obtain ⟨a1r, a1f, a1n, a1c, a1z, a1l⟩ := keep1 (g := w.heap.size + 1) (cs := copsA c d) hb (by first | (go_simp; done) | (go_simp; rfl)) (by go_simp) (by go_simp)
  obtain ⟨a2r, a2f, a2n, a2c, a2z, a2l⟩ := keep1 (g := w1.heap.size) (cs := recA x) hb (by first | (go_simp; done) | (go_simp; rfl)) (by go_simp) (by go_simp)
  have HB2 : Hid (Below w.heap.size w w2) := by
    have hs := HB1.out.size
    refine Lib.hid (Below.trans ?_ (hb.mono (by first | omega | (simp <;> omega))))
    repeat (first | exact HB1.out | refine below_row ?_ (by omega) _ | refine Below.setCell ?_ (by first | omega | (simp <;> omega)) _ | refine Below.alloc ?_ (by first | omega | (simp <;> omega)) _ | refine Below.drew ?_)
  clear hb
  go_wp2_with fail
  refine (KS.out _).mono ?_
  rintro e w3 ⟨rfl, hb⟩
  obtain ⟨a0r, a0f, a0n, a0c, a0z, a0l⟩ := keep1 (g := w.heap.size) (cs := recA r) hb (by first | (go_simp; done) | (go_simp; rfl)) (by go_simp) (by go_simp)
  obtain ⟨a1r, a1f, a1n, a1c, a1z, a1l⟩ := keep1 (g := w.heap.size + 1) (cs := copsA c d) hb (by first | (go_simp; done) | (go_simp; rfl)) (by go_simp) (by go_simp)
  obtain ⟨a2r, a2f, a2n, a2c, a2z, a2l⟩ := keep1 (g := w1.heap.size) (cs := recA x) hb (by first | (go_simp; done) | (go_simp; rfl)) (by go_simp) (by go_simp)
  obtain ⟨a3r, a3f, a3n, a3c, a3z, a3l⟩ := keep1 (g := w2.heap.size) (cs := copsA p q) hb (by first | (go_simp; done) | (go_simp; rfl)) (by go_simp) (by go_simp)
  have HB3 : Hid (Below w.heap.size w w3) := by
    have hs := HB2.out.size
    refine Lib.hid (Below.trans ?_ (hb.mono (by first | omega | (simp <;> omega))))
    repeat (first | exact HB2.out | refine below_row ?_ (by omega) _ | refine Below.setCell ?_ (by first | omega | (simp <;> omega)) _ | refine Below.alloc ?_ (by first | omega | (simp <;> omega)) _ | refine Below.drew ?_)
  clear hb
  go_wp2_with fail
  refine (KC.out _).mono ?_
  rintro e w4 ⟨rfl, hb⟩
  obtain ⟨a0r, a0f, a0n, a0c, a0z, a0l⟩ := keep1 (g := w.heap.size) (cs := recA r) hb (by first | (go_simp; done) | (go_simp; rfl)) (by go_simp) (by go_simp)
  obtain ⟨a1r, a1f, a1n, a1c, a1z, a1l⟩ := keep1 (g := w.heap.size + 1) (cs := copsA c d) hb (by first | (go_simp; done) | (go_simp; rfl)) (by go_simp) (by go_simp)
  obtain ⟨a2r, a2f, a2n, a2c, a2z, a2l⟩ := keep1 (g := w1.heap.size) (cs := recA x) hb (by first | (go_simp; done) | (go_simp; rfl)) (by go_simp) (by go_simp)
  obtain ⟨a3r, a3f, a3n, a3c, a3z, a3l⟩ := keep1 (g := w2.heap.size) (cs := copsA p q) hb (by first | (go_simp; done) | (go_simp; rfl)) (by go_simp) (by go_simp)
  obtain ⟨a4r, a4f, a4n, a4c, a4z, a4l⟩ := keep1 (g := w3.heap.size) (cs := recA y) hb (by first | (go_simp; done) | (go_simp; rfl)) (by go_simp) (by go_simp)
  have HB4 : Hid (Below w.heap.size w w4) := by
    have hs := HB3.out.size
    refine Lib.hid (Below.trans ?_ (hb.mono (by first | omega | (simp <;> omega))))
    repeat (first | exact HB3.out | refine below_row ?_ (by omega) _ | refine Below.setCell ?_ (by first | omega | (simp <;> omega)) _ | refine Below.alloc ?_ (by first | omega | (simp <;> omega)) _ | refine Below.drew ?_)
  clear hb
  go_wp2_with fail
  have R3 : rowOf (w4.alloc (.cells (recA Rec.zero) 44)).drew (w.heap.size) = recA r := by first | (go_simp; done) | (go_simp; intro he; exfalso; omega)
  have F3 : frOf (w4.alloc (.cells (recA Rec.zero) 44)).drew (w.heap.size) = (0, 0) := by first | (go_simp; done) | (go_simp; intro he; exfalso; omega)
  have R4 : rowOf (w4.alloc (.cells (recA Rec.zero) 44)).drew (w.heap.size + 1) = copsA c d := by first | (go_simp; done) | (go_simp; intro he; exfalso; omega)
  have F4 : frOf (w4.alloc (.cells (recA Rec.zero) 44)).drew (w.heap.size + 1) = (0, 0) := by first | (go_simp; done) | (go_simp; intro he; exfalso; omega)
  refine wp_region_chain (by kernel_rfl) (some 50 :: some 51 :: some 52 :: some 53 :: some 17 :: some 18 :: []) (.agg (recA r) :: iv 0 :: .agg (copsA c d) :: iv 0 :: iv 0 :: iv 0 :: []) 188 rfl rfl (by decide +kernel) (by decide +kernel) (by decide +kernel) rfl ?_ ?_
  · refine ⟨.inl ⟨rfl, fun done a wq hw h => ?_⟩, ?_⟩
    · have e3 := ch_old (t := 3) (v := .pointer (some ⟨w.heap.size, 0, none⟩)) h rfl rfl; obtain ⟨r_, f_, n_, c_, z_, l_⟩ := keep1 h.bel R3 (by go_simp) F3; refine ch_pure ?_; go_simp
    refine ⟨.inl ⟨rfl, fun done a wq hw h => ?_⟩, ?_⟩
    · have e50 := ch_new (i := 0) (t := 50) h (hw 0 (by decide)) rfl rfl; exact ch_call (by go_simp) (by go_simp) (KB.out _)
    refine ⟨.inl ⟨rfl, fun done a wq hw h => ?_⟩, ?_⟩
    · have e4 := ch_old (t := 4) (v := .pointer (some ⟨w.heap.size + 1, 0, none⟩)) h rfl rfl; obtain ⟨r_, f_, n_, c_, z_, l_⟩ := keep1 h.bel R4 (by go_simp) F4; refine ch_pure ?_; go_simp
    refine ⟨.inl ⟨rfl, fun done a wq hw h => ?_⟩, ?_⟩
    · have e52 := ch_new (i := 2) (t := 52) h (hw 2 (by decide)) rfl rfl; exact ch_call (by go_simp) (by go_simp) (KE.out _)
    refine ⟨.inl ⟨rfl, fun done a wq hw h => ?_⟩, ?_⟩
    · have e51 := ch_new (i := 1) (t := 51) h (hw 1 (by decide)) rfl rfl; exact ch_assign (ch_ev e51)
    refine ⟨.inl ⟨rfl, fun done a wq hw h => ?_⟩, ?_⟩
    · have e53 := ch_new (i := 3) (t := 53) h (hw 3 (by decide)) rfl rfl; exact ch_assign (ch_ev e53)
    exact trivial
  · intro w5 hb
    obtain ⟨a0r, a0f, a0n, a0c, a0z, a0l⟩ := keep1 (g := w.heap.size) (cs := recA r) hb (by first | (go_simp; done) | (go_simp; rfl)) (by go_simp) (by go_simp)
    obtain ⟨a1r, a1f, a1n, a1c, a1z, a1l⟩ := keep1 (g := w.heap.size + 1) (cs := copsA c d) hb (by first | (go_simp; done) | (go_simp; rfl)) (by go_simp) (by go_simp)
    obtain ⟨a2r, a2f, a2n, a2c, a2z, a2l⟩ := keep1 (g := w1.heap.size) (cs := recA x) hb (by first | (go_simp; done) | (go_simp; rfl)) (by go_simp) (by go_simp)
    obtain ⟨a3r, a3f, a3n, a3c, a3z, a3l⟩ := keep1 (g := w2.heap.size) (cs := copsA p q) hb (by first | (go_simp; done) | (go_simp; rfl)) (by go_simp) (by go_simp)
    obtain ⟨a4r, a4f, a4n, a4c, a4z, a4l⟩ := keep1 (g := w3.heap.size) (cs := recA y) hb (by first | (go_simp; done) | (go_simp; rfl)) (by go_simp) (by go_simp)
    obtain ⟨a5r, a5f, a5n, a5c, a5z, a5l⟩ := keep1 (g := w4.heap.size) (cs := recA Rec.zero) hb (by first | (go_simp; done) | (go_simp; rfl)) (by go_simp) (by go_simp)
    have HB5 : Hid (Below w.heap.size w w5) := by
      have hs := HB4.out.size
      refine Lib.hid (Below.trans ?_ (hb.mono (by first | omega | (simp <;> omega))))
      repeat (first | exact HB4.out | refine below_row ?_ (by omega) _ | refine Below.setCell ?_ (by first | omega | (simp <;> omega)) _ | refine Below.alloc ?_ (by first | omega | (simp <;> omega)) _ | refine Below.drew ?_)
    clear hb
    clear R3 R4 F3 F4
    simp only [putAll_some, putAll_none, putAll_nil, List.setIfInBounds_toArray, List.set_cons_zero, List.set_cons_succ]
    go_wp2_with fail
    refine (K0.out _).mono ?_
    rintro e w6 ⟨rfl, hb⟩
    obtain ⟨a0r, a0f, a0n, a0c, a0z, a0l⟩ := keep1 (g := w.heap.size) (cs := recA r) hb (by first | (go_simp; done) | (go_simp; rfl)) (by go_simp) (by go_simp)
    obtain ⟨a1r, a1f, a1n, a1c, a1z, a1l⟩ := keep1 (g := w.heap.size + 1) (cs := copsA c d) hb (by first | (go_simp; done) | (go_simp; rfl)) (by go_simp) (by go_simp)
    obtain ⟨a2r, a2f, a2n, a2c, a2z, a2l⟩ := keep1 (g := w1.heap.size) (cs := recA x) hb (by first | (go_simp; done) | (go_simp; rfl)) (by go_simp) (by go_simp)
    obtain ⟨a3r, a3f, a3n, a3c, a3z, a3l⟩ := keep1 (g := w2.heap.size) (cs := copsA p q) hb (by first | (go_simp; done) | (go_simp; rfl)) (by go_simp) (by go_simp)
    obtain ⟨a4r, a4f, a4n, a4c, a4z, a4l⟩ := keep1 (g := w3.heap.size) (cs := recA y) hb (by first | (go_simp; done) | (go_simp; rfl)) (by go_simp) (by go_simp)
    obtain ⟨a5r, a5f, a5n, a5c, a5z, a5l⟩ := keep1 (g := w4.heap.size) (cs := recA Rec.zero) hb (by first | (go_simp; done) | (go_simp; rfl)) (by go_simp) (by go_simp)
    have HB6 : Hid (Below w.heap.size w w6) := by
      have hs := HB5.out.size
      refine Lib.hid (Below.trans ?_ (hb.mono (by first | omega | (simp <;> omega))))
      repeat (first | exact HB5.out | refine below_row ?_ (by omega) _ | refine Below.setCell ?_ (by first | omega | (simp <;> omega)) _ | refine Below.alloc ?_ (by first | omega | (simp <;> omega)) _ | refine Below.drew ?_)
    clear hb
    go_wp2_with fail
    refine (KB2.out _).mono ?_
    rintro e w7 ⟨rfl, hb⟩
    obtain ⟨a0r, a0f, a0n, a0c, a0z, a0l⟩ := keep1 (g := w.heap.size) (cs := recA r) hb (by first | (go_simp; done) | (go_simp; rfl)) (by go_simp) (by go_simp)
    obtain ⟨a1r, a1f, a1n, a1c, a1z, a1l⟩ := keep1 (g := w.heap.size + 1) (cs := copsA c d) hb (by first | (go_simp; done) | (go_simp; rfl)) (by go_simp) (by go_simp)
    obtain ⟨a2r, a2f, a2n, a2c, a2z, a2l⟩ := keep1 (g := w1.heap.size) (cs := recA x) hb (by first | (go_simp; done) | (go_simp; rfl)) (by go_simp) (by go_simp)
    obtain ⟨a3r, a3f, a3n, a3c, a3z, a3l⟩ := keep1 (g := w2.heap.size) (cs := copsA p q) hb (by first | (go_simp; done) | (go_simp; rfl)) (by go_simp) (by go_simp)
    obtain ⟨a4r, a4f, a4n, a4c, a4z, a4l⟩ := keep1 (g := w3.heap.size) (cs := recA y) hb (by first | (go_simp; done) | (go_simp; rfl)) (by go_simp) (by go_simp)
    obtain ⟨a5r, a5f, a5n, a5c, a5z, a5l⟩ := keep1 (g := w4.heap.size) (cs := recA Rec.zero) hb (by first | (go_simp; done) | (go_simp; rfl)) (by go_simp) (by go_simp)
    have HB7 : Hid (Below w.heap.size w w7) := by
      have hs := HB6.out.size
      refine Lib.hid (Below.trans ?_ (hb.mono (by first | omega | (simp <;> omega))))
      repeat (first | exact HB6.out | refine below_row ?_ (by omega) _ | refine Below.setCell ?_ (by first | omega | (simp <;> omega)) _ | refine Below.alloc ?_ (by first | omega | (simp <;> omega)) _ | refine Below.drew ?_)
    clear hb
    go_wp2_with fail
    refine (KE2.out _).mono ?_
    rintro e w8 ⟨rfl, hb⟩
    obtain ⟨a0r, a0f, a0n, a0c, a0z, a0l⟩ := keep1 (g := w.heap.size) (cs := recA r) hb (by first | (go_simp; done) | (go_simp; rfl)) (by go_simp) (by go_simp)
    obtain ⟨a1r, a1f, a1n, a1c, a1z, a1l⟩ := keep1 (g := w.heap.size + 1) (cs := copsA c d) hb (by first | (go_simp; done) | (go_simp; rfl)) (by go_simp) (by go_simp)
    obtain ⟨a2r, a2f, a2n, a2c, a2z, a2l⟩ := keep1 (g := w1.heap.size) (cs := recA x) hb (by first | (go_simp; done) | (go_simp; rfl)) (by go_simp) (by go_simp)
    obtain ⟨a3r, a3f, a3n, a3c, a3z, a3l⟩ := keep1 (g := w2.heap.size) (cs := copsA p q) hb (by first | (go_simp; done) | (go_simp; rfl)) (by go_simp) (by go_simp)
    obtain ⟨a4r, a4f, a4n, a4c, a4z, a4l⟩ := keep1 (g := w3.heap.size) (cs := recA y) hb (by first | (go_simp; done) | (go_simp; rfl)) (by go_simp) (by go_simp)
    obtain ⟨a5r, a5f, a5n, a5c, a5z, a5l⟩ := keep1 (g := w4.heap.size) (cs := recA Rec.zero) hb (by first | (go_simp; done) | (go_simp; rfl)) (by go_simp) (by go_simp)
    have HB8 : Hid (Below w.heap.size w w8) := by
      have hs := HB7.out.size
      refine Lib.hid (Below.trans ?_ (hb.mono (by first | omega | (simp <;> omega))))
      repeat (first | exact HB7.out | refine below_row ?_ (by omega) _ | refine Below.setCell ?_ (by first | omega | (simp <;> omega)) _ | refine Below.alloc ?_ (by first | omega | (simp <;> omega)) _ | refine Below.drew ?_)
    clear hb
    go_wp2_with fail
    refine (KN.out _).mono ?_
    rintro e w9 ⟨rfl, hb⟩
    obtain ⟨a0r, a0f, a0n, a0c, a0z, a0l⟩ := keep1 (g := w.heap.size) (cs := recA r) hb (by first | (go_simp; done) | (go_simp; rfl)) (by go_simp) (by go_simp)
    obtain ⟨a1r, a1f, a1n, a1c, a1z, a1l⟩ := keep1 (g := w.heap.size + 1) (cs := copsA c d) hb (by first | (go_simp; done) | (go_simp; rfl)) (by go_simp) (by go_simp)
    obtain ⟨a2r, a2f, a2n, a2c, a2z, a2l⟩ := keep1 (g := w1.heap.size) (cs := recA x) hb (by first | (go_simp; done) | (go_simp; rfl)) (by go_simp) (by go_simp)
    obtain ⟨a3r, a3f, a3n, a3c, a3z, a3l⟩ := keep1 (g := w2.heap.size) (cs := copsA p q) hb (by first | (go_simp; done) | (go_simp; rfl)) (by go_simp) (by go_simp)
    obtain ⟨a4r, a4f, a4n, a4c, a4z, a4l⟩ := keep1 (g := w3.heap.size) (cs := recA y) hb (by first | (go_simp; done) | (go_simp; rfl)) (by go_simp) (by go_simp)
    obtain ⟨a5r, a5f, a5n, a5c, a5z, a5l⟩ := keep1 (g := w4.heap.size) (cs := recA Rec.zero) hb (by first | (go_simp; done) | (go_simp; rfl)) (by go_simp) (by go_simp)
    obtain ⟨a6r, a6f, a6n, a6c, a6z, a6l⟩ := keep1 (g := w8.heap.size) (cs := recA Rec.zero) hb (by first | (go_simp; done) | (go_simp; rfl)) (by go_simp) (by go_simp)
    have HB9 : Hid (Below w.heap.size w w9) := by
      have hs := HB8.out.size
      refine Lib.hid (Below.trans ?_ (hb.mono (by first | omega | (simp <;> omega))))
      repeat (first | exact HB8.out | refine below_row ?_ (by omega) _ | refine Below.setCell ?_ (by first | omega | (simp <;> omega)) _ | refine Below.alloc ?_ (by first | omega | (simp <;> omega)) _ | refine Below.drew ?_)
    clear hb
    go_wp2_with fail
    refine (KV.out _).mono ?_
    rintro e w10 ⟨rfl, hb⟩
    obtain ⟨a0r, a0f, a0n, a0c, a0z, a0l⟩ := keep1 (g := w.heap.size) (cs := recA r) hb (by first | (go_simp; done) | (go_simp; rfl)) (by go_simp) (by go_simp)
    obtain ⟨a1r, a1f, a1n, a1c, a1z, a1l⟩ := keep1 (g := w.heap.size + 1) (cs := copsA c d) hb (by first | (go_simp; done) | (go_simp; rfl)) (by go_simp) (by go_simp)
    obtain ⟨a2r, a2f, a2n, a2c, a2z, a2l⟩ := keep1 (g := w1.heap.size) (cs := recA x) hb (by first | (go_simp; done) | (go_simp; rfl)) (by go_simp) (by go_simp)
    obtain ⟨a3r, a3f, a3n, a3c, a3z, a3l⟩ := keep1 (g := w2.heap.size) (cs := copsA p q) hb (by first | (go_simp; done) | (go_simp; rfl)) (by go_simp) (by go_simp)
    obtain ⟨a4r, a4f, a4n, a4c, a4z, a4l⟩ := keep1 (g := w3.heap.size) (cs := recA y) hb (by first | (go_simp; done) | (go_simp; rfl)) (by go_simp) (by go_simp)
    obtain ⟨a5r, a5f, a5n, a5c, a5z, a5l⟩ := keep1 (g := w4.heap.size) (cs := recA Rec.zero) hb (by first | (go_simp; done) | (go_simp; rfl)) (by go_simp) (by go_simp)
    obtain ⟨a6r, a6f, a6n, a6c, a6z, a6l⟩ := keep1 (g := w8.heap.size) (cs := recA Rec.zero) hb (by first | (go_simp; done) | (go_simp; rfl)) (by go_simp) (by go_simp)
    obtain ⟨a7r, a7f, a7n, a7c, a7z, a7l⟩ := keep1 (g := w9.heap.size) (cs := recA x) hb (by first | (go_simp; done) | (go_simp; rfl)) (by go_simp) (by go_simp)
    have HB10 : Hid (Below w.heap.size w w10) := by
      have hs := HB9.out.size
      refine Lib.hid (Below.trans ?_ (hb.mono (by first | omega | (simp <;> omega))))
      repeat (first | exact HB9.out | refine below_row ?_ (by omega) _ | refine Below.setCell ?_ (by first | omega | (simp <;> omega)) _ | refine Below.alloc ?_ (by first | omega | (simp <;> omega)) _ | refine Below.drew ?_)
    clear hb
    go_wp2_with fail
    refine (KT.out _).mono ?_
    rintro e w11 ⟨rfl, hb⟩
    obtain ⟨a0r, a0f, a0n, a0c, a0z, a0l⟩ := keep1 (g := w.heap.size) (cs := recA r) hb (by first | (go_simp; done) | (go_simp; rfl)) (by go_simp) (by go_simp)
    obtain ⟨a1r, a1f, a1n, a1c, a1z, a1l⟩ := keep1 (g := w.heap.size + 1) (cs := copsA c d) hb (by first | (go_simp; done) | (go_simp; rfl)) (by go_simp) (by go_simp)
    obtain ⟨a2r, a2f, a2n, a2c, a2z, a2l⟩ := keep1 (g := w1.heap.size) (cs := recA x) hb (by first | (go_simp; done) | (go_simp; rfl)) (by go_simp) (by go_simp)
    obtain ⟨a3r, a3f, a3n, a3c, a3z, a3l⟩ := keep1 (g := w2.heap.size) (cs := copsA p q) hb (by first | (go_simp; done) | (go_simp; rfl)) (by go_simp) (by go_simp)
    obtain ⟨a4r, a4f, a4n, a4c, a4z, a4l⟩ := keep1 (g := w3.heap.size) (cs := recA y) hb (by first | (go_simp; done) | (go_simp; rfl)) (by go_simp) (by go_simp)
    obtain ⟨a5r, a5f, a5n, a5c, a5z, a5l⟩ := keep1 (g := w4.heap.size) (cs := recA Rec.zero) hb (by first | (go_simp; done) | (go_simp; rfl)) (by go_simp) (by go_simp)
    obtain ⟨a6r, a6f, a6n, a6c, a6z, a6l⟩ := keep1 (g := w8.heap.size) (cs := recA Rec.zero) hb (by first | (go_simp; done) | (go_simp; rfl)) (by go_simp) (by go_simp)
    obtain ⟨a7r, a7f, a7n, a7c, a7z, a7l⟩ := keep1 (g := w9.heap.size) (cs := recA x) hb (by first | (go_simp; done) | (go_simp; rfl)) (by go_simp) (by go_simp)
    obtain ⟨a8r, a8f, a8n, a8c, a8z, a8l⟩ := keep1 (g := w10.heap.size) (cs := copsA p q) hb (by first | (go_simp; done) | (go_simp; rfl)) (by go_simp) (by go_simp)
    have HB11 : Hid (Below w.heap.size w w11) := by
      have hs := HB10.out.size
      refine Lib.hid (Below.trans ?_ (hb.mono (by first | omega | (simp <;> omega))))
      repeat (first | exact HB10.out | refine below_row ?_ (by omega) _ | refine Below.setCell ?_ (by first | omega | (simp <;> omega)) _ | refine Below.alloc ?_ (by first | omega | (simp <;> omega)) _ | refine Below.drew ?_)
    clear hb
    go_wp2_with fail
    go_ret
    refine ⟨rfl, ?_⟩
    have hs := HB11.out.size
    repeat (first | exact HB11.out | refine below_row ?_ (by omega) _ | refine Below.setCell ?_ (by first | omega | (simp <;> omega)) _ | refine Below.alloc ?_ (by first | omega | (simp <;> omega)) _ | refine Below.drew ?_)

set_option maxRecDepth 100000 in
set_option maxHeartbeats 8000000 in
theorem says_er_bad (c d : Cop) (r : Rec) (torn : Bool) (e : Int) (b : Int) (w : World) (he : (e != 0) = true) (hb0 : (b != 0) = true)
    (K0 : Hid (∀ w, Calls Try.prog 32 #[] w (RetB w (.bool true))))
    (KR : Hid (∀ w, Calls Try.prog 26 #[.agg (copsA c d)] w (RetB w (.tuple #[.agg (recA Rec.zero), iv 0, iv e]))))
    (KW : Hid (∀ w, Calls Try.prog 27 #[.agg (copsA c d), .agg (recA r), .bool torn] w (RetB w (.tuple #[.agg (copsA Cop.zero Cop.zero), iv e]))))
    (KS : Hid (∀ w, Calls Try.prog 28 #[.agg (recA r)] w (RetB w (.tuple #[iv 0, .agg (recA Rec.zero), iv b]))))
    (KC : Hid (∀ w, Calls Try.prog 29 #[.agg (recA r)] w (RetB w (.tuple #[.agg (recA Rec.zero), iv b]))))
    (KB : Hid (∀ w, Calls Try.prog 30 #[.agg (recA r)] w (RetB w (iv b))))
    (KE : Hid (∀ w, Calls Try.prog 31 #[.agg (copsA c d)] w (RetB w (iv e))))
    (KB2 : Hid (∀ w, Calls Try.prog 33 #[.agg (recA r)] w (RetB w (iv b))))
    (KE2 : Hid (∀ w, Calls Try.prog 34 #[.agg (copsA c d)] w (RetB w (iv e)))) :
    Calls Try.prog 7 #[.agg (recA r), .agg (copsA c d), .bool torn] w (RetB w (.bool true)) := by
  have n_e := neq_same e
  have n_b := neq_same b
  have he2 : (e == 0) = false := by simpa using he
  have hb2 : (b == 0) = false := by simpa using hb0
  go_enter Try.func7, Try.ntmps7
  go_wp2_with fail
  refine (KR.out _).mono ?_
  rintro e w1 ⟨rfl, hb⟩
  obtain ⟨a0r, a0f, a0n, a0c, a0z, a0l⟩ := keep1 (g := w.heap.size) (cs := recA r) hb (by first | (go_simp; done) | (go_simp; rfl)) (by go_simp) (by go_simp)
  obtain ⟨a1r, a1f, a1n, a1c, a1z, a1l⟩ := keep1 (g := w.heap.size + 1) (cs := copsA c d) hb (by first | (go_simp; done) | (go_simp; rfl)) (by go_simp) (by go_simp)
  have HB1 : Hid (Below w.heap.size w w1) := by
    refine Lib.hid (Below.trans ?_ (hb.mono (by first | omega | (simp <;> omega))))
    repeat (first | exact Below.refl _ _ | refine below_row ?_ (by omega) _ | refine Below.setCell ?_ (by first | omega | (simp <;> omega)) _ | refine Below.alloc ?_ (by first | omega | (simp <;> omega)) _ | refine Below.drew ?_)
  clear hb
  go_wp2_with fail
  refine (KW.out _).mono ?_
  rintro e w2 ⟨rfl, hb⟩
  obtain ⟨a0r, a0f, a0n, a0c, a0z, a0l⟩ := keep1 (g := w.heap.size) (cs := recA r) hb (by first | (go_simp; done) | (go_simp; rfl)) (by go_simp) (by go_simp)
  obtain ⟨a1r, a1f, a1n, a1c, a1z, a1l⟩ := keep1 (g := w.heap.size + 1) (cs := copsA c d) hb (by first | (go_simp; done) | (go_simp; rfl)) (by go_simp) (by go_simp)
  obtain ⟨a2r, a2f, a2n, a2c, a2z, a2l⟩ := keep1 (g := w1.heap.size) (cs := recA Rec.zero) hb (by first | (go_simp; done) | (go_simp; rfl)) (by go_simp) (by go_simp)
  have HB2 : Hid (Below w.heap.size w w2) := by
    have hs := HB1.out.size
    refine Lib.hid (Below.trans ?_ (hb.mono (by first | omega | (simp <;> omega))))
    repeat (first | exact HB1.out | refine below_row ?_ (by omega) _ | refine Below.setCell ?_ (by first | omega | (simp <;> omega)) _ | refine Below.alloc ?_ (by first | omega | (simp <;> omega)) _ | refine Below.drew ?_)
  clear hb
  go_wp2_with fail
  refine (KS.out _).mono ?_
  rintro e w3 ⟨rfl, hb⟩
  obtain ⟨a0r, a0f, a0n, a0c, a0z, a0l⟩ := keep1 (g := w.heap.size) (cs := recA r) hb (by first | (go_simp; done) | (go_simp; rfl)) (by go_simp) (by go_simp)
  obtain ⟨a1r, a1f, a1n, a1c, a1z, a1l⟩ := keep1 (g := w.heap.size + 1) (cs := copsA c d) hb (by first | (go_simp; done) | (go_simp; rfl)) (by go_simp) (by go_simp)
  obtain ⟨a2r, a2f, a2n, a2c, a2z, a2l⟩ := keep1 (g := w1.heap.size) (cs := recA Rec.zero) hb (by first | (go_simp; done) | (go_simp; rfl)) (by go_simp) (by go_simp)
  obtain ⟨a3r, a3f, a3n, a3c, a3z, a3l⟩ := keep1 (g := w2.heap.size) (cs := copsA Cop.zero Cop.zero) hb (by first | (go_simp; done) | (go_simp; rfl)) (by go_simp) (by go_simp)
  have HB3 : Hid (Below w.heap.size w w3) := by
    have hs := HB2.out.size
    refine Lib.hid (Below.trans ?_ (hb.mono (by first | omega | (simp <;> omega))))
    repeat (first | exact HB2.out | refine below_row ?_ (by omega) _ | refine Below.setCell ?_ (by first | omega | (simp <;> omega)) _ | refine Below.alloc ?_ (by first | omega | (simp <;> omega)) _ | refine Below.drew ?_)
  clear hb
  go_wp2_with fail
  refine (KC.out _).mono ?_
  rintro e w4 ⟨rfl, hb⟩
  obtain ⟨a0r, a0f, a0n, a0c, a0z, a0l⟩ := keep1 (g := w.heap.size) (cs := recA r) hb (by first | (go_simp; done) | (go_simp; rfl)) (by go_simp) (by go_simp)
  obtain ⟨a1r, a1f, a1n, a1c, a1z, a1l⟩ := keep1 (g := w.heap.size + 1) (cs := copsA c d) hb (by first | (go_simp; done) | (go_simp; rfl)) (by go_simp) (by go_simp)
  obtain ⟨a2r, a2f, a2n, a2c, a2z, a2l⟩ := keep1 (g := w1.heap.size) (cs := recA Rec.zero) hb (by first | (go_simp; done) | (go_simp; rfl)) (by go_simp) (by go_simp)
  obtain ⟨a3r, a3f, a3n, a3c, a3z, a3l⟩ := keep1 (g := w2.heap.size) (cs := copsA Cop.zero Cop.zero) hb (by first | (go_simp; done) | (go_simp; rfl)) (by go_simp) (by go_simp)
  obtain ⟨a4r, a4f, a4n, a4c, a4z, a4l⟩ := keep1 (g := w3.heap.size) (cs := recA Rec.zero) hb (by first | (go_simp; done) | (go_simp; rfl)) (by go_simp) (by go_simp)
  have HB4 : Hid (Below w.heap.size w w4) := by
    have hs := HB3.out.size
    refine Lib.hid (Below.trans ?_ (hb.mono (by first | omega | (simp <;> omega))))
    repeat (first | exact HB3.out | refine below_row ?_ (by omega) _ | refine Below.setCell ?_ (by first | omega | (simp <;> omega)) _ | refine Below.alloc ?_ (by first | omega | (simp <;> omega)) _ | refine Below.drew ?_)
  clear hb
  go_wp2_with fail
  have R3 : rowOf (w4.alloc (.cells (recA Rec.zero) 44)).drew (w.heap.size) = recA r := by first | (go_simp; done) | (go_simp; intro he; exfalso; omega)
  have F3 : frOf (w4.alloc (.cells (recA Rec.zero) 44)).drew (w.heap.size) = (0, 0) := by first | (go_simp; done) | (go_simp; intro he; exfalso; omega)
  have R4 : rowOf (w4.alloc (.cells (recA Rec.zero) 44)).drew (w.heap.size + 1) = copsA c d := by first | (go_simp; done) | (go_simp; intro he; exfalso; omega)
  have F4 : frOf (w4.alloc (.cells (recA Rec.zero) 44)).drew (w.heap.size + 1) = (0, 0) := by first | (go_simp; done) | (go_simp; intro he; exfalso; omega)
  refine wp_region_chain (by kernel_rfl) (some 50 :: some 51 :: some 52 :: some 53 :: some 17 :: some 18 :: []) (.agg (recA r) :: iv b :: .agg (copsA c d) :: iv e :: iv b :: iv e :: []) 188 rfl rfl (by decide +kernel) (by decide +kernel) (by decide +kernel) rfl ?_ ?_
  · refine ⟨.inl ⟨rfl, fun done a wq hw h => ?_⟩, ?_⟩
    · have e3 := ch_old (t := 3) (v := .pointer (some ⟨w.heap.size, 0, none⟩)) h rfl rfl; obtain ⟨r_, f_, n_, c_, z_, l_⟩ := keep1 h.bel R3 (by go_simp) F3; refine ch_pure ?_; go_simp
    refine ⟨.inl ⟨rfl, fun done a wq hw h => ?_⟩, ?_⟩
    · have e50 := ch_new (i := 0) (t := 50) h (hw 0 (by decide)) rfl rfl; exact ch_call (by go_simp) (by go_simp) (KB.out _)
    refine ⟨.inl ⟨rfl, fun done a wq hw h => ?_⟩, ?_⟩
    · have e4 := ch_old (t := 4) (v := .pointer (some ⟨w.heap.size + 1, 0, none⟩)) h rfl rfl; obtain ⟨r_, f_, n_, c_, z_, l_⟩ := keep1 h.bel R4 (by go_simp) F4; refine ch_pure ?_; go_simp
    refine ⟨.inl ⟨rfl, fun done a wq hw h => ?_⟩, ?_⟩
    · have e52 := ch_new (i := 2) (t := 52) h (hw 2 (by decide)) rfl rfl; exact ch_call (by go_simp) (by go_simp) (KE.out _)
    refine ⟨.inl ⟨rfl, fun done a wq hw h => ?_⟩, ?_⟩
    · have e51 := ch_new (i := 1) (t := 51) h (hw 1 (by decide)) rfl rfl; exact ch_assign (ch_ev e51)
    refine ⟨.inl ⟨rfl, fun done a wq hw h => ?_⟩, ?_⟩
    · have e53 := ch_new (i := 3) (t := 53) h (hw 3 (by decide)) rfl rfl; exact ch_assign (ch_ev e53)
    exact trivial
  · intro w5 hb
    obtain ⟨a0r, a0f, a0n, a0c, a0z, a0l⟩ := keep1 (g := w.heap.size) (cs := recA r) hb (by first | (go_simp; done) | (go_simp; rfl)) (by go_simp) (by go_simp)
    obtain ⟨a1r, a1f, a1n, a1c, a1z, a1l⟩ := keep1 (g := w.heap.size + 1) (cs := copsA c d) hb (by first | (go_simp; done) | (go_simp; rfl)) (by go_simp) (by go_simp)
    obtain ⟨a2r, a2f, a2n, a2c, a2z, a2l⟩ := keep1 (g := w1.heap.size) (cs := recA Rec.zero) hb (by first | (go_simp; done) | (go_simp; rfl)) (by go_simp) (by go_simp)
    obtain ⟨a3r, a3f, a3n, a3c, a3z, a3l⟩ := keep1 (g := w2.heap.size) (cs := copsA Cop.zero Cop.zero) hb (by first | (go_simp; done) | (go_simp; rfl)) (by go_simp) (by go_simp)
    obtain ⟨a4r, a4f, a4n, a4c, a4z, a4l⟩ := keep1 (g := w3.heap.size) (cs := recA Rec.zero) hb (by first | (go_simp; done) | (go_simp; rfl)) (by go_simp) (by go_simp)
    obtain ⟨a5r, a5f, a5n, a5c, a5z, a5l⟩ := keep1 (g := w4.heap.size) (cs := recA Rec.zero) hb (by first | (go_simp; done) | (go_simp; rfl)) (by go_simp) (by go_simp)
    have HB5 : Hid (Below w.heap.size w w5) := by
      have hs := HB4.out.size
      refine Lib.hid (Below.trans ?_ (hb.mono (by first | omega | (simp <;> omega))))
      repeat (first | exact HB4.out | refine below_row ?_ (by omega) _ | refine Below.setCell ?_ (by first | omega | (simp <;> omega)) _ | refine Below.alloc ?_ (by first | omega | (simp <;> omega)) _ | refine Below.drew ?_)
    clear hb
    clear R3 R4 F3 F4
    simp only [putAll_some, putAll_none, putAll_nil, List.setIfInBounds_toArray, List.set_cons_zero, List.set_cons_succ]
    go_wp2_with fail
    refine (K0.out _).mono ?_
    rintro e w6 ⟨rfl, hb⟩
    obtain ⟨a0r, a0f, a0n, a0c, a0z, a0l⟩ := keep1 (g := w.heap.size) (cs := recA r) hb (by first | (go_simp; done) | (go_simp; rfl)) (by go_simp) (by go_simp)
    obtain ⟨a1r, a1f, a1n, a1c, a1z, a1l⟩ := keep1 (g := w.heap.size + 1) (cs := copsA c d) hb (by first | (go_simp; done) | (go_simp; rfl)) (by go_simp) (by go_simp)
    obtain ⟨a2r, a2f, a2n, a2c, a2z, a2l⟩ := keep1 (g := w1.heap.size) (cs := recA Rec.zero) hb (by first | (go_simp; done) | (go_simp; rfl)) (by go_simp) (by go_simp)
    obtain ⟨a3r, a3f, a3n, a3c, a3z, a3l⟩ := keep1 (g := w2.heap.size) (cs := copsA Cop.zero Cop.zero) hb (by first | (go_simp; done) | (go_simp; rfl)) (by go_simp) (by go_simp)
    obtain ⟨a4r, a4f, a4n, a4c, a4z, a4l⟩ := keep1 (g := w3.heap.size) (cs := recA Rec.zero) hb (by first | (go_simp; done) | (go_simp; rfl)) (by go_simp) (by go_simp)
    obtain ⟨a5r, a5f, a5n, a5c, a5z, a5l⟩ := keep1 (g := w4.heap.size) (cs := recA Rec.zero) hb (by first | (go_simp; done) | (go_simp; rfl)) (by go_simp) (by go_simp)
    have HB6 : Hid (Below w.heap.size w w6) := by
      have hs := HB5.out.size
      refine Lib.hid (Below.trans ?_ (hb.mono (by first | omega | (simp <;> omega))))
      repeat (first | exact HB5.out | refine below_row ?_ (by omega) _ | refine Below.setCell ?_ (by first | omega | (simp <;> omega)) _ | refine Below.alloc ?_ (by first | omega | (simp <;> omega)) _ | refine Below.drew ?_)
    clear hb
    go_wp2_with fail
    refine (KB2.out _).mono ?_
    rintro e w7 ⟨rfl, hb⟩
    obtain ⟨a0r, a0f, a0n, a0c, a0z, a0l⟩ := keep1 (g := w.heap.size) (cs := recA r) hb (by first | (go_simp; done) | (go_simp; rfl)) (by go_simp) (by go_simp)
    obtain ⟨a1r, a1f, a1n, a1c, a1z, a1l⟩ := keep1 (g := w.heap.size + 1) (cs := copsA c d) hb (by first | (go_simp; done) | (go_simp; rfl)) (by go_simp) (by go_simp)
    obtain ⟨a2r, a2f, a2n, a2c, a2z, a2l⟩ := keep1 (g := w1.heap.size) (cs := recA Rec.zero) hb (by first | (go_simp; done) | (go_simp; rfl)) (by go_simp) (by go_simp)
    obtain ⟨a3r, a3f, a3n, a3c, a3z, a3l⟩ := keep1 (g := w2.heap.size) (cs := copsA Cop.zero Cop.zero) hb (by first | (go_simp; done) | (go_simp; rfl)) (by go_simp) (by go_simp)
    obtain ⟨a4r, a4f, a4n, a4c, a4z, a4l⟩ := keep1 (g := w3.heap.size) (cs := recA Rec.zero) hb (by first | (go_simp; done) | (go_simp; rfl)) (by go_simp) (by go_simp)
    obtain ⟨a5r, a5f, a5n, a5c, a5z, a5l⟩ := keep1 (g := w4.heap.size) (cs := recA Rec.zero) hb (by first | (go_simp; done) | (go_simp; rfl)) (by go_simp) (by go_simp)
    have HB7 : Hid (Below w.heap.size w w7) := by
      have hs := HB6.out.size
      refine Lib.hid (Below.trans ?_ (hb.mono (by first | omega | (simp <;> omega))))
      repeat (first | exact HB6.out | refine below_row ?_ (by omega) _ | refine Below.setCell ?_ (by first | omega | (simp <;> omega)) _ | refine Below.alloc ?_ (by first | omega | (simp <;> omega)) _ | refine Below.drew ?_)
    clear hb
    go_wp2_with fail
    refine (KE2.out _).mono ?_
    rintro e w8 ⟨rfl, hb⟩
    obtain ⟨a0r, a0f, a0n, a0c, a0z, a0l⟩ := keep1 (g := w.heap.size) (cs := recA r) hb (by first | (go_simp; done) | (go_simp; rfl)) (by go_simp) (by go_simp)
    obtain ⟨a1r, a1f, a1n, a1c, a1z, a1l⟩ := keep1 (g := w.heap.size + 1) (cs := copsA c d) hb (by first | (go_simp; done) | (go_simp; rfl)) (by go_simp) (by go_simp)
    obtain ⟨a2r, a2f, a2n, a2c, a2z, a2l⟩ := keep1 (g := w1.heap.size) (cs := recA Rec.zero) hb (by first | (go_simp; done) | (go_simp; rfl)) (by go_simp) (by go_simp)
    obtain ⟨a3r, a3f, a3n, a3c, a3z, a3l⟩ := keep1 (g := w2.heap.size) (cs := copsA Cop.zero Cop.zero) hb (by first | (go_simp; done) | (go_simp; rfl)) (by go_simp) (by go_simp)
    obtain ⟨a4r, a4f, a4n, a4c, a4z, a4l⟩ := keep1 (g := w3.heap.size) (cs := recA Rec.zero) hb (by first | (go_simp; done) | (go_simp; rfl)) (by go_simp) (by go_simp)
    obtain ⟨a5r, a5f, a5n, a5c, a5z, a5l⟩ := keep1 (g := w4.heap.size) (cs := recA Rec.zero) hb (by first | (go_simp; done) | (go_simp; rfl)) (by go_simp) (by go_simp)
    have HB8 : Hid (Below w.heap.size w w8) := by
      have hs := HB7.out.size
      refine Lib.hid (Below.trans ?_ (hb.mono (by first | omega | (simp <;> omega))))
      repeat (first | exact HB7.out | refine below_row ?_ (by omega) _ | refine Below.setCell ?_ (by first | omega | (simp <;> omega)) _ | refine Below.alloc ?_ (by first | omega | (simp <;> omega)) _ | refine Below.drew ?_)
    clear hb
    go_wp2_with fail
    go_ret
    refine ⟨rfl, ?_⟩
    have hs := HB8.out.size
    repeat (first | exact HB8.out | refine below_row ?_ (by omega) _ | refine Below.setCell ?_ (by first | omega | (simp <;> omega)) _ | refine Below.alloc ?_ (by first | omega | (simp <;> omega)) _ | refine Below.drew ?_)

set_option maxRecDepth 100000 in
set_option maxHeartbeats 8000000 in
theorem says_er_try (c d : Cop) (r : Rec) (torn : Bool) (e : Int) (s : Int) (y : Rec) (z : Rec) (w : World) (he : (e != 0) = true) (ht : r.trying = true)
    (K0 : Hid (∀ w, Calls Try.prog 32 #[] w (RetB w (.bool true))))
    (KR : Hid (∀ w, Calls Try.prog 26 #[.agg (copsA c d)] w (RetB w (.tuple #[.agg (recA Rec.zero), iv 0, iv e]))))
    (KW : Hid (∀ w, Calls Try.prog 27 #[.agg (copsA c d), .agg (recA r), .bool torn] w (RetB w (.tuple #[.agg (copsA Cop.zero Cop.zero), iv e]))))
    (KS : Hid (∀ w, Calls Try.prog 28 #[.agg (recA r)] w (RetB w (.tuple #[iv s, .agg (recA y), iv 0]))))
    (KC : Hid (∀ w, Calls Try.prog 29 #[.agg (recA r)] w (RetB w (.tuple #[.agg (recA z), iv 0]))))
    (KB : Hid (∀ w, Calls Try.prog 30 #[.agg (recA r)] w (RetB w (iv 0))))
    (KE : Hid (∀ w, Calls Try.prog 31 #[.agg (copsA c d)] w (RetB w (iv e))))
    (KB2 : Hid (∀ w, Calls Try.prog 33 #[.agg (recA r)] w (RetB w (iv 0))))
    (KE2 : Hid (∀ w, Calls Try.prog 34 #[.agg (copsA c d)] w (RetB w (iv e))))
    (KT : Hid (∀ w, Calls Try.prog 37 #[.agg (recA r)] w (RetB w (.tuple #[iv s, .agg (recA y)]))))
    (KD : Hid (∀ w, Calls Try.prog 38 #[.agg (recA r)] w (RetB w (.agg (recA z))))) :
    Calls Try.prog 7 #[.agg (recA r), .agg (copsA c d), .bool torn] w (RetB w (.bool true)) := by
  have n_e := neq_same e
  have n_s := neq_same s
  have he2 : (e == 0) = false := by simpa using he
  go_enter Try.func7, Try.ntmps7
  go_wp2_with fail
  refine (KR.out _).mono ?_
  rintro e w1 ⟨rfl, hb⟩
  obtain ⟨a0r, a0f, a0n, a0c, a0z, a0l⟩ := keep1 (g := w.heap.size) (cs := recA r) hb (by first | (go_simp; done) | (go_simp; rfl)) (by go_simp) (by go_simp)
  obtain ⟨a1r, a1f, a1n, a1c, a1z, a1l⟩ := keep1 (g := w.heap.size + 1) (cs := copsA c d) hb (by first | (go_simp; done) | (go_simp; rfl)) (by go_simp) (by go_simp)
  have HB1 : Hid (Below w.heap.size w w1) := by
    refine Lib.hid (Below.trans ?_ (hb.mono (by first | omega | (simp <;> omega))))
    repeat (first | exact Below.refl _ _ | refine below_row ?_ (by omega) _ | refine Below.setCell ?_ (by first | omega | (simp <;> omega)) _ | refine Below.alloc ?_ (by first | omega | (simp <;> omega)) _ | refine Below.drew ?_)
  clear hb
  go_wp2_with fail
  refine (KW.out _).mono ?_
  rintro e w2 ⟨rfl, hb⟩
  obtain ⟨a0r, a0f, a0n, a0c, a0z, a0l⟩ := keep1 (g := w.heap.size) (cs := recA r) hb (by first | (go_simp; done) | (go_simp; rfl)) (by go_simp) (by go_simp)
  obtain ⟨a1r, a1f, a1n, a1c, a1z, a1l⟩ := keep1 (g := w.heap.size + 1) (cs := copsA c d) hb (by first | (go_simp; done) | (go_simp; rfl)) (by go_simp) (by go_simp)
  obtain ⟨a2r, a2f, a2n, a2c, a2z, a2l⟩ := keep1 (g := w1.heap.size) (cs := recA Rec.zero) hb (by first | (go_simp; done) | (go_simp; rfl)) (by go_simp) (by go_simp)
  have HB2 : Hid (Below w.heap.size w w2) := by
    have hs := HB1.out.size
    refine Lib.hid (Below.trans ?_ (hb.mono (by first | omega | (simp <;> omega))))
    repeat (first | exact HB1.out | refine below_row ?_ (by omega) _ | refine Below.setCell ?_ (by first | omega | (simp <;> omega)) _ | refine Below.alloc ?_ (by first | omega | (simp <;> omega)) _ | refine Below.drew ?_)
  clear hb
  go_wp2_with fail
  refine (KS.out _).mono ?_
  rintro e w3 ⟨rfl, hb⟩
  obtain ⟨a0r, a0f, a0n, a0c, a0z, a0l⟩ := keep1 (g := w.heap.size) (cs := recA r) hb (by first | (go_simp; done) | (go_simp; rfl)) (by go_simp) (by go_simp)
  obtain ⟨a1r, a1f, a1n, a1c, a1z, a1l⟩ := keep1 (g := w.heap.size + 1) (cs := copsA c d) hb (by first | (go_simp; done) | (go_simp; rfl)) (by go_simp) (by go_simp)
  obtain ⟨a2r, a2f, a2n, a2c, a2z, a2l⟩ := keep1 (g := w1.heap.size) (cs := recA Rec.zero) hb (by first | (go_simp; done) | (go_simp; rfl)) (by go_simp) (by go_simp)
  obtain ⟨a3r, a3f, a3n, a3c, a3z, a3l⟩ := keep1 (g := w2.heap.size) (cs := copsA Cop.zero Cop.zero) hb (by first | (go_simp; done) | (go_simp; rfl)) (by go_simp) (by go_simp)
  have HB3 : Hid (Below w.heap.size w w3) := by
    have hs := HB2.out.size
    refine Lib.hid (Below.trans ?_ (hb.mono (by first | omega | (simp <;> omega))))
    repeat (first | exact HB2.out | refine below_row ?_ (by omega) _ | refine Below.setCell ?_ (by first | omega | (simp <;> omega)) _ | refine Below.alloc ?_ (by first | omega | (simp <;> omega)) _ | refine Below.drew ?_)
  clear hb
  go_wp2_with fail
  refine (KC.out _).mono ?_
  rintro e w4 ⟨rfl, hb⟩
  obtain ⟨a0r, a0f, a0n, a0c, a0z, a0l⟩ := keep1 (g := w.heap.size) (cs := recA r) hb (by first | (go_simp; done) | (go_simp; rfl)) (by go_simp) (by go_simp)
  obtain ⟨a1r, a1f, a1n, a1c, a1z, a1l⟩ := keep1 (g := w.heap.size + 1) (cs := copsA c d) hb (by first | (go_simp; done) | (go_simp; rfl)) (by go_simp) (by go_simp)
  obtain ⟨a2r, a2f, a2n, a2c, a2z, a2l⟩ := keep1 (g := w1.heap.size) (cs := recA Rec.zero) hb (by first | (go_simp; done) | (go_simp; rfl)) (by go_simp) (by go_simp)
  obtain ⟨a3r, a3f, a3n, a3c, a3z, a3l⟩ := keep1 (g := w2.heap.size) (cs := copsA Cop.zero Cop.zero) hb (by first | (go_simp; done) | (go_simp; rfl)) (by go_simp) (by go_simp)
  obtain ⟨a4r, a4f, a4n, a4c, a4z, a4l⟩ := keep1 (g := w3.heap.size) (cs := recA y) hb (by first | (go_simp; done) | (go_simp; rfl)) (by go_simp) (by go_simp)
  have HB4 : Hid (Below w.heap.size w w4) := by
    have hs := HB3.out.size
    refine Lib.hid (Below.trans ?_ (hb.mono (by first | omega | (simp <;> omega))))
    repeat (first | exact HB3.out | refine below_row ?_ (by omega) _ | refine Below.setCell ?_ (by first | omega | (simp <;> omega)) _ | refine Below.alloc ?_ (by first | omega | (simp <;> omega)) _ | refine Below.drew ?_)
  clear hb
  go_wp2_with fail
  have R3 : rowOf (w4.alloc (.cells (recA z) 44)).drew (w.heap.size) = recA r := by first | (go_simp; done) | (go_simp; intro he; exfalso; omega)
  have F3 : frOf (w4.alloc (.cells (recA z) 44)).drew (w.heap.size) = (0, 0) := by first | (go_simp; done) | (go_simp; intro he; exfalso; omega)
  have R4 : rowOf (w4.alloc (.cells (recA z) 44)).drew (w.heap.size + 1) = copsA c d := by first | (go_simp; done) | (go_simp; intro he; exfalso; omega)
  have F4 : frOf (w4.alloc (.cells (recA z) 44)).drew (w.heap.size + 1) = (0, 0) := by first | (go_simp; done) | (go_simp; intro he; exfalso; omega)
  refine wp_region_chain (by kernel_rfl) (some 50 :: some 51 :: some 52 :: some 53 :: some 17 :: some 18 :: []) (.agg (recA r) :: iv 0 :: .agg (copsA c d) :: iv e :: iv 0 :: iv e :: []) 188 rfl rfl (by decide +kernel) (by decide +kernel) (by decide +kernel) rfl ?_ ?_
  · refine ⟨.inl ⟨rfl, fun done a wq hw h => ?_⟩, ?_⟩
    · have e3 := ch_old (t := 3) (v := .pointer (some ⟨w.heap.size, 0, none⟩)) h rfl rfl; obtain ⟨r_, f_, n_, c_, z_, l_⟩ := keep1 h.bel R3 (by go_simp) F3; refine ch_pure ?_; go_simp
    refine ⟨.inl ⟨rfl, fun done a wq hw h => ?_⟩, ?_⟩
    · have e50 := ch_new (i := 0) (t := 50) h (hw 0 (by decide)) rfl rfl; exact ch_call (by go_simp) (by go_simp) (KB.out _)
    refine ⟨.inl ⟨rfl, fun done a wq hw h => ?_⟩, ?_⟩
    · have e4 := ch_old (t := 4) (v := .pointer (some ⟨w.heap.size + 1, 0, none⟩)) h rfl rfl; obtain ⟨r_, f_, n_, c_, z_, l_⟩ := keep1 h.bel R4 (by go_simp) F4; refine ch_pure ?_; go_simp
    refine ⟨.inl ⟨rfl, fun done a wq hw h => ?_⟩, ?_⟩
    · have e52 := ch_new (i := 2) (t := 52) h (hw 2 (by decide)) rfl rfl; exact ch_call (by go_simp) (by go_simp) (KE.out _)
    refine ⟨.inl ⟨rfl, fun done a wq hw h => ?_⟩, ?_⟩
    · have e51 := ch_new (i := 1) (t := 51) h (hw 1 (by decide)) rfl rfl; exact ch_assign (ch_ev e51)
    refine ⟨.inl ⟨rfl, fun done a wq hw h => ?_⟩, ?_⟩
    · have e53 := ch_new (i := 3) (t := 53) h (hw 3 (by decide)) rfl rfl; exact ch_assign (ch_ev e53)
    exact trivial
  · intro w5 hb
    obtain ⟨a0r, a0f, a0n, a0c, a0z, a0l⟩ := keep1 (g := w.heap.size) (cs := recA r) hb (by first | (go_simp; done) | (go_simp; rfl)) (by go_simp) (by go_simp)
    obtain ⟨a1r, a1f, a1n, a1c, a1z, a1l⟩ := keep1 (g := w.heap.size + 1) (cs := copsA c d) hb (by first | (go_simp; done) | (go_simp; rfl)) (by go_simp) (by go_simp)
    obtain ⟨a2r, a2f, a2n, a2c, a2z, a2l⟩ := keep1 (g := w1.heap.size) (cs := recA Rec.zero) hb (by first | (go_simp; done) | (go_simp; rfl)) (by go_simp) (by go_simp)
    obtain ⟨a3r, a3f, a3n, a3c, a3z, a3l⟩ := keep1 (g := w2.heap.size) (cs := copsA Cop.zero Cop.zero) hb (by first | (go_simp; done) | (go_simp; rfl)) (by go_simp) (by go_simp)
    obtain ⟨a4r, a4f, a4n, a4c, a4z, a4l⟩ := keep1 (g := w3.heap.size) (cs := recA y) hb (by first | (go_simp; done) | (go_simp; rfl)) (by go_simp) (by go_simp)
    obtain ⟨a5r, a5f, a5n, a5c, a5z, a5l⟩ := keep1 (g := w4.heap.size) (cs := recA z) hb (by first | (go_simp; done) | (go_simp; rfl)) (by go_simp) (by go_simp)
    have HB5 : Hid (Below w.heap.size w w5) := by
      have hs := HB4.out.size
      refine Lib.hid (Below.trans ?_ (hb.mono (by first | omega | (simp <;> omega))))
      repeat (first | exact HB4.out | refine below_row ?_ (by omega) _ | refine Below.setCell ?_ (by first | omega | (simp <;> omega)) _ | refine Below.alloc ?_ (by first | omega | (simp <;> omega)) _ | refine Below.drew ?_)
    clear hb
    clear R3 R4 F3 F4
    simp only [putAll_some, putAll_none, putAll_nil, List.setIfInBounds_toArray, List.set_cons_zero, List.set_cons_succ]
    go_wp2_with fail
    refine (K0.out _).mono ?_
    rintro e w6 ⟨rfl, hb⟩
    obtain ⟨a0r, a0f, a0n, a0c, a0z, a0l⟩ := keep1 (g := w.heap.size) (cs := recA r) hb (by first | (go_simp; done) | (go_simp; rfl)) (by go_simp) (by go_simp)
    obtain ⟨a1r, a1f, a1n, a1c, a1z, a1l⟩ := keep1 (g := w.heap.size + 1) (cs := copsA c d) hb (by first | (go_simp; done) | (go_simp; rfl)) (by go_simp) (by go_simp)
    obtain ⟨a2r, a2f, a2n, a2c, a2z, a2l⟩ := keep1 (g := w1.heap.size) (cs := recA Rec.zero) hb (by first | (go_simp; done) | (go_simp; rfl)) (by go_simp) (by go_simp)
    obtain ⟨a3r, a3f, a3n, a3c, a3z, a3l⟩ := keep1 (g := w2.heap.size) (cs := copsA Cop.zero Cop.zero) hb (by first | (go_simp; done) | (go_simp; rfl)) (by go_simp) (by go_simp)
    obtain ⟨a4r, a4f, a4n, a4c, a4z, a4l⟩ := keep1 (g := w3.heap.size) (cs := recA y) hb (by first | (go_simp; done) | (go_simp; rfl)) (by go_simp) (by go_simp)
    obtain ⟨a5r, a5f, a5n, a5c, a5z, a5l⟩ := keep1 (g := w4.heap.size) (cs := recA z) hb (by first | (go_simp; done) | (go_simp; rfl)) (by go_simp) (by go_simp)
    have HB6 : Hid (Below w.heap.size w w6) := by
      have hs := HB5.out.size
      refine Lib.hid (Below.trans ?_ (hb.mono (by first | omega | (simp <;> omega))))
      repeat (first | exact HB5.out | refine below_row ?_ (by omega) _ | refine Below.setCell ?_ (by first | omega | (simp <;> omega)) _ | refine Below.alloc ?_ (by first | omega | (simp <;> omega)) _ | refine Below.drew ?_)
    clear hb
    go_wp2_with fail
    refine (KB2.out _).mono ?_
    rintro e w7 ⟨rfl, hb⟩
    obtain ⟨a0r, a0f, a0n, a0c, a0z, a0l⟩ := keep1 (g := w.heap.size) (cs := recA r) hb (by first | (go_simp; done) | (go_simp; rfl)) (by go_simp) (by go_simp)
    obtain ⟨a1r, a1f, a1n, a1c, a1z, a1l⟩ := keep1 (g := w.heap.size + 1) (cs := copsA c d) hb (by first | (go_simp; done) | (go_simp; rfl)) (by go_simp) (by go_simp)
    obtain ⟨a2r, a2f, a2n, a2c, a2z, a2l⟩ := keep1 (g := w1.heap.size) (cs := recA Rec.zero) hb (by first | (go_simp; done) | (go_simp; rfl)) (by go_simp) (by go_simp)
    obtain ⟨a3r, a3f, a3n, a3c, a3z, a3l⟩ := keep1 (g := w2.heap.size) (cs := copsA Cop.zero Cop.zero) hb (by first | (go_simp; done) | (go_simp; rfl)) (by go_simp) (by go_simp)
    obtain ⟨a4r, a4f, a4n, a4c, a4z, a4l⟩ := keep1 (g := w3.heap.size) (cs := recA y) hb (by first | (go_simp; done) | (go_simp; rfl)) (by go_simp) (by go_simp)
    obtain ⟨a5r, a5f, a5n, a5c, a5z, a5l⟩ := keep1 (g := w4.heap.size) (cs := recA z) hb (by first | (go_simp; done) | (go_simp; rfl)) (by go_simp) (by go_simp)
    have HB7 : Hid (Below w.heap.size w w7) := by
      have hs := HB6.out.size
      refine Lib.hid (Below.trans ?_ (hb.mono (by first | omega | (simp <;> omega))))
      repeat (first | exact HB6.out | refine below_row ?_ (by omega) _ | refine Below.setCell ?_ (by first | omega | (simp <;> omega)) _ | refine Below.alloc ?_ (by first | omega | (simp <;> omega)) _ | refine Below.drew ?_)
    clear hb
    go_wp2_with fail
    refine (KE2.out _).mono ?_
    rintro e w8 ⟨rfl, hb⟩
    obtain ⟨a0r, a0f, a0n, a0c, a0z, a0l⟩ := keep1 (g := w.heap.size) (cs := recA r) hb (by first | (go_simp; done) | (go_simp; rfl)) (by go_simp) (by go_simp)
    obtain ⟨a1r, a1f, a1n, a1c, a1z, a1l⟩ := keep1 (g := w.heap.size + 1) (cs := copsA c d) hb (by first | (go_simp; done) | (go_simp; rfl)) (by go_simp) (by go_simp)
    obtain ⟨a2r, a2f, a2n, a2c, a2z, a2l⟩ := keep1 (g := w1.heap.size) (cs := recA Rec.zero) hb (by first | (go_simp; done) | (go_simp; rfl)) (by go_simp) (by go_simp)
    obtain ⟨a3r, a3f, a3n, a3c, a3z, a3l⟩ := keep1 (g := w2.heap.size) (cs := copsA Cop.zero Cop.zero) hb (by first | (go_simp; done) | (go_simp; rfl)) (by go_simp) (by go_simp)
    obtain ⟨a4r, a4f, a4n, a4c, a4z, a4l⟩ := keep1 (g := w3.heap.size) (cs := recA y) hb (by first | (go_simp; done) | (go_simp; rfl)) (by go_simp) (by go_simp)
    obtain ⟨a5r, a5f, a5n, a5c, a5z, a5l⟩ := keep1 (g := w4.heap.size) (cs := recA z) hb (by first | (go_simp; done) | (go_simp; rfl)) (by go_simp) (by go_simp)
    have HB8 : Hid (Below w.heap.size w w8) := by
      have hs := HB7.out.size
      refine Lib.hid (Below.trans ?_ (hb.mono (by first | omega | (simp <;> omega))))
      repeat (first | exact HB7.out | refine below_row ?_ (by omega) _ | refine Below.setCell ?_ (by first | omega | (simp <;> omega)) _ | refine Below.alloc ?_ (by first | omega | (simp <;> omega)) _ | refine Below.drew ?_)
    clear hb
    go_wp2_with fail
    refine (KT.out _).mono ?_
    rintro e w9 ⟨rfl, hb⟩
    obtain ⟨a0r, a0f, a0n, a0c, a0z, a0l⟩ := keep1 (g := w.heap.size) (cs := recA r) hb (by first | (go_simp; done) | (go_simp; rfl)) (by go_simp) (by go_simp)
    obtain ⟨a1r, a1f, a1n, a1c, a1z, a1l⟩ := keep1 (g := w.heap.size + 1) (cs := copsA c d) hb (by first | (go_simp; done) | (go_simp; rfl)) (by go_simp) (by go_simp)
    obtain ⟨a2r, a2f, a2n, a2c, a2z, a2l⟩ := keep1 (g := w1.heap.size) (cs := recA Rec.zero) hb (by first | (go_simp; done) | (go_simp; rfl)) (by go_simp) (by go_simp)
    obtain ⟨a3r, a3f, a3n, a3c, a3z, a3l⟩ := keep1 (g := w2.heap.size) (cs := copsA Cop.zero Cop.zero) hb (by first | (go_simp; done) | (go_simp; rfl)) (by go_simp) (by go_simp)
    obtain ⟨a4r, a4f, a4n, a4c, a4z, a4l⟩ := keep1 (g := w3.heap.size) (cs := recA y) hb (by first | (go_simp; done) | (go_simp; rfl)) (by go_simp) (by go_simp)
    obtain ⟨a5r, a5f, a5n, a5c, a5z, a5l⟩ := keep1 (g := w4.heap.size) (cs := recA z) hb (by first | (go_simp; done) | (go_simp; rfl)) (by go_simp) (by go_simp)
    obtain ⟨a6r, a6f, a6n, a6c, a6z, a6l⟩ := keep1 (g := w8.heap.size) (cs := recA Rec.zero) hb (by first | (go_simp; done) | (go_simp; rfl)) (by go_simp) (by go_simp)
    have HB9 : Hid (Below w.heap.size w w9) := by
      have hs := HB8.out.size
      refine Lib.hid (Below.trans ?_ (hb.mono (by first | omega | (simp <;> omega))))
      repeat (first | exact HB8.out | refine below_row ?_ (by omega) _ | refine Below.setCell ?_ (by first | omega | (simp <;> omega)) _ | refine Below.alloc ?_ (by first | omega | (simp <;> omega)) _ | refine Below.drew ?_)
    clear hb
    go_wp2_with fail
    have R3 : rowOf (w9.alloc (.cells (recA y) 44)).drew (w.heap.size) = recA r := by first | (go_simp; done) | (go_simp; intro he; exfalso; omega)
    have F3 : frOf (w9.alloc (.cells (recA y) 44)).drew (w.heap.size) = (0, 0) := by first | (go_simp; done) | (go_simp; intro he; exfalso; omega)
    have R15 : rowOf (w9.alloc (.cells (recA y) 44)).drew (w4.heap.size) = recA z := by first | (go_simp; done) | (go_simp; intro he; exfalso; omega)
    have F15 : frOf (w9.alloc (.cells (recA y) 44)).drew (w4.heap.size) = (0, 0) := by first | (go_simp; done) | (go_simp; intro he; exfalso; omega)
    refine wp_region_chain (by kernel_rfl) (some 180 :: some 181 :: some 182 :: some 183 :: some 184 :: some 185 :: some 186 :: some 187 :: some 6 :: []) (iv 0 :: .bool true :: .bool true :: .agg (recA z) :: .agg (recA r) :: .agg (recA z) :: .bool true :: .bool true :: .bool true :: []) 188 rfl rfl (by decide +kernel) (by decide +kernel) (by decide +kernel) rfl ?_ ?_
    · refine ⟨.inl ⟨rfl, fun done a wq hw h => ?_⟩, ?_⟩
      · have e16 := ch_old (t := 16) (v := iv 0) h rfl rfl; exact ch_move (ch_ev e16)
      refine ⟨.inl ⟨rfl, fun done a wq hw h => ?_⟩, ?_⟩
      · have e180 := ch_new (i := 0) (t := 180) h (hw 0 (by decide)) rfl rfl; exact ch_eql_int (by kernel_rfl) (ch_ev e180) rfl (by simp)
      refine ⟨.inl ⟨rfl, fun done a wq hw h => ?_⟩, ?_⟩
      · have e181 := ch_new (i := 1) (t := 181) h (hw 1 (by decide)) rfl rfl; exact ch_move (ch_ev e181)
      refine ⟨.inl ⟨rfl, fun done a wq hw h => ?_⟩, ?_⟩
      · have e15 := ch_old (t := 15) (v := .pointer (some ⟨w4.heap.size, 0, none⟩)) h rfl rfl; obtain ⟨r_, f_, n_, c_, z_, l_⟩ := keep1 h.bel R15 (by go_simp) F15; refine ch_pure ?_; go_simp
      refine ⟨.inl ⟨rfl, fun done a wq hw h => ?_⟩, ?_⟩
      · have e3 := ch_old (t := 3) (v := .pointer (some ⟨w.heap.size, 0, none⟩)) h rfl rfl; obtain ⟨r_, f_, n_, c_, z_, l_⟩ := keep1 h.bel R3 (by go_simp) F3; refine ch_pure ?_; go_simp
      refine ⟨.inl ⟨rfl, fun done a wq hw h => ?_⟩, ?_⟩
      · have e184 := ch_new (i := 4) (t := 184) h (hw 4 (by decide)) rfl rfl; exact ch_call (by go_simp) (by go_simp) (KD.out _)
      refine ⟨.inl ⟨rfl, fun done a wq hw h => ?_⟩, ?_⟩
      · have e183 := ch_new (i := 3) (t := 183) h (hw 3 (by decide)) rfl rfl; have e185 := ch_new (i := 5) (t := 185) h (hw 5 (by decide)) rfl rfl; refine ch_pure ?_; go_simp
      refine ⟨.inl ⟨rfl, fun done a wq hw h => ?_⟩, ?_⟩
      · have e182 := ch_new (i := 2) (t := 182) h (hw 2 (by decide)) rfl rfl; have e186 := ch_new (i := 6) (t := 186) h (hw 6 (by decide)) rfl rfl; exact ch_pick_t e182 (ch_ev e186)
      refine ⟨.inl ⟨rfl, fun done a wq hw h => ?_⟩, ?_⟩
      · have e187 := ch_new (i := 7) (t := 187) h (hw 7 (by decide)) rfl rfl; exact ch_assign (ch_ev e187)
      exact trivial
    · intro w_ hb
      simp only [putAll_some, putAll_none, putAll_nil, List.setIfInBounds_toArray, List.set_cons_zero, List.set_cons_succ]
      go_wp2_with fail
      go_ret
      have hs := HB9.out.size
      refine ⟨rfl, Below.trans ?_ (hb.mono (by simp; omega))⟩
      exact HB9.out.alloc hs _

set_option maxRecDepth 100000 in
set_option maxHeartbeats 8000000 in
theorem says_er_not (c d : Cop) (r : Rec) (torn : Bool) (e : Int) (s : Int) (y : Rec) (w : World) (he : (e != 0) = true) (ht : r.trying = false)
    (K0 : Hid (∀ w, Calls Try.prog 32 #[] w (RetB w (.bool true))))
    (KR : Hid (∀ w, Calls Try.prog 26 #[.agg (copsA c d)] w (RetB w (.tuple #[.agg (recA Rec.zero), iv 0, iv e]))))
    (KW : Hid (∀ w, Calls Try.prog 27 #[.agg (copsA c d), .agg (recA r), .bool torn] w (RetB w (.tuple #[.agg (copsA Cop.zero Cop.zero), iv e]))))
    (KS : Hid (∀ w, Calls Try.prog 28 #[.agg (recA r)] w (RetB w (.tuple #[iv s, .agg (recA y), iv 0]))))
    (KC : Hid (∀ w, Calls Try.prog 29 #[.agg (recA r)] w (RetB w (.tuple #[.agg (recA Rec.zero), iv 5]))))
    (KB : Hid (∀ w, Calls Try.prog 30 #[.agg (recA r)] w (RetB w (iv 0))))
    (KE : Hid (∀ w, Calls Try.prog 31 #[.agg (copsA c d)] w (RetB w (iv e))))
    (KB2 : Hid (∀ w, Calls Try.prog 33 #[.agg (recA r)] w (RetB w (iv 0))))
    (KE2 : Hid (∀ w, Calls Try.prog 34 #[.agg (copsA c d)] w (RetB w (iv e))))
    (KT : Hid (∀ w, Calls Try.prog 37 #[.agg (recA r)] w (RetB w (.tuple #[iv s, .agg (recA y)])))) :
    Calls Try.prog 7 #[.agg (recA r), .agg (copsA c d), .bool torn] w (RetB w (.bool true)) := by
  have n_e := neq_same e
  have n_s := neq_same s
  have he2 : (e == 0) = false := by simpa using he
  go_enter Try.func7, Try.ntmps7
  go_wp2_with fail
  refine (KR.out _).mono ?_
  rintro e w1 ⟨rfl, hb⟩
  obtain ⟨a0r, a0f, a0n, a0c, a0z, a0l⟩ := keep1 (g := w.heap.size) (cs := recA r) hb (by first | (go_simp; done) | (go_simp; rfl)) (by go_simp) (by go_simp)
  obtain ⟨a1r, a1f, a1n, a1c, a1z, a1l⟩ := keep1 (g := w.heap.size + 1) (cs := copsA c d) hb (by first | (go_simp; done) | (go_simp; rfl)) (by go_simp) (by go_simp)
  have HB1 : Hid (Below w.heap.size w w1) := by
    refine Lib.hid (Below.trans ?_ (hb.mono (by first | omega | (simp <;> omega))))
    repeat (first | exact Below.refl _ _ | refine below_row ?_ (by omega) _ | refine Below.setCell ?_ (by first | omega | (simp <;> omega)) _ | refine Below.alloc ?_ (by first | omega | (simp <;> omega)) _ | refine Below.drew ?_)
  clear hb
  go_wp2_with fail
  refine (KW.out _).mono ?_
  rintro e w2 ⟨rfl, hb⟩
  obtain ⟨a0r, a0f, a0n, a0c, a0z, a0l⟩ := keep1 (g := w.heap.size) (cs := recA r) hb (by first | (go_simp; done) | (go_simp; rfl)) (by go_simp) (by go_simp)
  obtain ⟨a1r, a1f, a1n, a1c, a1z, a1l⟩ := keep1 (g := w.heap.size + 1) (cs := copsA c d) hb (by first | (go_simp; done) | (go_simp; rfl)) (by go_simp) (by go_simp)
  obtain ⟨a2r, a2f, a2n, a2c, a2z, a2l⟩ := keep1 (g := w1.heap.size) (cs := recA Rec.zero) hb (by first | (go_simp; done) | (go_simp; rfl)) (by go_simp) (by go_simp)
  have HB2 : Hid (Below w.heap.size w w2) := by
    have hs := HB1.out.size
    refine Lib.hid (Below.trans ?_ (hb.mono (by first | omega | (simp <;> omega))))
    repeat (first | exact HB1.out | refine below_row ?_ (by omega) _ | refine Below.setCell ?_ (by first | omega | (simp <;> omega)) _ | refine Below.alloc ?_ (by first | omega | (simp <;> omega)) _ | refine Below.drew ?_)
  clear hb
  go_wp2_with fail
  refine (KS.out _).mono ?_
  rintro e w3 ⟨rfl, hb⟩
  obtain ⟨a0r, a0f, a0n, a0c, a0z, a0l⟩ := keep1 (g := w.heap.size) (cs := recA r) hb (by first | (go_simp; done) | (go_simp; rfl)) (by go_simp) (by go_simp)
  obtain ⟨a1r, a1f, a1n, a1c, a1z, a1l⟩ := keep1 (g := w.heap.size + 1) (cs := copsA c d) hb (by first | (go_simp; done) | (go_simp; rfl)) (by go_simp) (by go_simp)
  obtain ⟨a2r, a2f, a2n, a2c, a2z, a2l⟩ := keep1 (g := w1.heap.size) (cs := recA Rec.zero) hb (by first | (go_simp; done) | (go_simp; rfl)) (by go_simp) (by go_simp)
  obtain ⟨a3r, a3f, a3n, a3c, a3z, a3l⟩ := keep1 (g := w2.heap.size) (cs := copsA Cop.zero Cop.zero) hb (by first | (go_simp; done) | (go_simp; rfl)) (by go_simp) (by go_simp)
  have HB3 : Hid (Below w.heap.size w w3) := by
    have hs := HB2.out.size
    refine Lib.hid (Below.trans ?_ (hb.mono (by first | omega | (simp <;> omega))))
    repeat (first | exact HB2.out | refine below_row ?_ (by omega) _ | refine Below.setCell ?_ (by first | omega | (simp <;> omega)) _ | refine Below.alloc ?_ (by first | omega | (simp <;> omega)) _ | refine Below.drew ?_)
  clear hb
  go_wp2_with fail
  refine (KC.out _).mono ?_
  rintro e w4 ⟨rfl, hb⟩
  obtain ⟨a0r, a0f, a0n, a0c, a0z, a0l⟩ := keep1 (g := w.heap.size) (cs := recA r) hb (by first | (go_simp; done) | (go_simp; rfl)) (by go_simp) (by go_simp)
  obtain ⟨a1r, a1f, a1n, a1c, a1z, a1l⟩ := keep1 (g := w.heap.size + 1) (cs := copsA c d) hb (by first | (go_simp; done) | (go_simp; rfl)) (by go_simp) (by go_simp)
  obtain ⟨a2r, a2f, a2n, a2c, a2z, a2l⟩ := keep1 (g := w1.heap.size) (cs := recA Rec.zero) hb (by first | (go_simp; done) | (go_simp; rfl)) (by go_simp) (by go_simp)
  obtain ⟨a3r, a3f, a3n, a3c, a3z, a3l⟩ := keep1 (g := w2.heap.size) (cs := copsA Cop.zero Cop.zero) hb (by first | (go_simp; done) | (go_simp; rfl)) (by go_simp) (by go_simp)
  obtain ⟨a4r, a4f, a4n, a4c, a4z, a4l⟩ := keep1 (g := w3.heap.size) (cs := recA y) hb (by first | (go_simp; done) | (go_simp; rfl)) (by go_simp) (by go_simp)
  have HB4 : Hid (Below w.heap.size w w4) := by
    have hs := HB3.out.size
    refine Lib.hid (Below.trans ?_ (hb.mono (by first | omega | (simp <;> omega))))
    repeat (first | exact HB3.out | refine below_row ?_ (by omega) _ | refine Below.setCell ?_ (by first | omega | (simp <;> omega)) _ | refine Below.alloc ?_ (by first | omega | (simp <;> omega)) _ | refine Below.drew ?_)
  clear hb
  go_wp2_with fail
  have R3 : rowOf (w4.alloc (.cells (recA Rec.zero) 44)).drew (w.heap.size) = recA r := by first | (go_simp; done) | (go_simp; intro he; exfalso; omega)
  have F3 : frOf (w4.alloc (.cells (recA Rec.zero) 44)).drew (w.heap.size) = (0, 0) := by first | (go_simp; done) | (go_simp; intro he; exfalso; omega)
  have R4 : rowOf (w4.alloc (.cells (recA Rec.zero) 44)).drew (w.heap.size + 1) = copsA c d := by first | (go_simp; done) | (go_simp; intro he; exfalso; omega)
  have F4 : frOf (w4.alloc (.cells (recA Rec.zero) 44)).drew (w.heap.size + 1) = (0, 0) := by first | (go_simp; done) | (go_simp; intro he; exfalso; omega)
  refine wp_region_chain (by kernel_rfl) (some 50 :: some 51 :: some 52 :: some 53 :: some 17 :: some 18 :: []) (.agg (recA r) :: iv 0 :: .agg (copsA c d) :: iv e :: iv 0 :: iv e :: []) 188 rfl rfl (by decide +kernel) (by decide +kernel) (by decide +kernel) rfl ?_ ?_
  · refine ⟨.inl ⟨rfl, fun done a wq hw h => ?_⟩, ?_⟩
    · have e3 := ch_old (t := 3) (v := .pointer (some ⟨w.heap.size, 0, none⟩)) h rfl rfl; obtain ⟨r_, f_, n_, c_, z_, l_⟩ := keep1 h.bel R3 (by go_simp) F3; refine ch_pure ?_; go_simp
    refine ⟨.inl ⟨rfl, fun done a wq hw h => ?_⟩, ?_⟩
    · have e50 := ch_new (i := 0) (t := 50) h (hw 0 (by decide)) rfl rfl; exact ch_call (by go_simp) (by go_simp) (KB.out _)
    refine ⟨.inl ⟨rfl, fun done a wq hw h => ?_⟩, ?_⟩
    · have e4 := ch_old (t := 4) (v := .pointer (some ⟨w.heap.size + 1, 0, none⟩)) h rfl rfl; obtain ⟨r_, f_, n_, c_, z_, l_⟩ := keep1 h.bel R4 (by go_simp) F4; refine ch_pure ?_; go_simp
    refine ⟨.inl ⟨rfl, fun done a wq hw h => ?_⟩, ?_⟩
    · have e52 := ch_new (i := 2) (t := 52) h (hw 2 (by decide)) rfl rfl; exact ch_call (by go_simp) (by go_simp) (KE.out _)
    refine ⟨.inl ⟨rfl, fun done a wq hw h => ?_⟩, ?_⟩
    · have e51 := ch_new (i := 1) (t := 51) h (hw 1 (by decide)) rfl rfl; exact ch_assign (ch_ev e51)
    refine ⟨.inl ⟨rfl, fun done a wq hw h => ?_⟩, ?_⟩
    · have e53 := ch_new (i := 3) (t := 53) h (hw 3 (by decide)) rfl rfl; exact ch_assign (ch_ev e53)
    exact trivial
  · intro w5 hb
    obtain ⟨a0r, a0f, a0n, a0c, a0z, a0l⟩ := keep1 (g := w.heap.size) (cs := recA r) hb (by first | (go_simp; done) | (go_simp; rfl)) (by go_simp) (by go_simp)
    obtain ⟨a1r, a1f, a1n, a1c, a1z, a1l⟩ := keep1 (g := w.heap.size + 1) (cs := copsA c d) hb (by first | (go_simp; done) | (go_simp; rfl)) (by go_simp) (by go_simp)
    obtain ⟨a2r, a2f, a2n, a2c, a2z, a2l⟩ := keep1 (g := w1.heap.size) (cs := recA Rec.zero) hb (by first | (go_simp; done) | (go_simp; rfl)) (by go_simp) (by go_simp)
    obtain ⟨a3r, a3f, a3n, a3c, a3z, a3l⟩ := keep1 (g := w2.heap.size) (cs := copsA Cop.zero Cop.zero) hb (by first | (go_simp; done) | (go_simp; rfl)) (by go_simp) (by go_simp)
    obtain ⟨a4r, a4f, a4n, a4c, a4z, a4l⟩ := keep1 (g := w3.heap.size) (cs := recA y) hb (by first | (go_simp; done) | (go_simp; rfl)) (by go_simp) (by go_simp)
    obtain ⟨a5r, a5f, a5n, a5c, a5z, a5l⟩ := keep1 (g := w4.heap.size) (cs := recA Rec.zero) hb (by first | (go_simp; done) | (go_simp; rfl)) (by go_simp) (by go_simp)
    have HB5 : Hid (Below w.heap.size w w5) := by
      have hs := HB4.out.size
      refine Lib.hid (Below.trans ?_ (hb.mono (by first | omega | (simp <;> omega))))
      repeat (first | exact HB4.out | refine below_row ?_ (by omega) _ | refine Below.setCell ?_ (by first | omega | (simp <;> omega)) _ | refine Below.alloc ?_ (by first | omega | (simp <;> omega)) _ | refine Below.drew ?_)
    clear hb
    clear R3 R4 F3 F4
    simp only [putAll_some, putAll_none, putAll_nil, List.setIfInBounds_toArray, List.set_cons_zero, List.set_cons_succ]
    go_wp2_with fail
    refine (K0.out _).mono ?_
    rintro e w6 ⟨rfl, hb⟩
    obtain ⟨a0r, a0f, a0n, a0c, a0z, a0l⟩ := keep1 (g := w.heap.size) (cs := recA r) hb (by first | (go_simp; done) | (go_simp; rfl)) (by go_simp) (by go_simp)
    obtain ⟨a1r, a1f, a1n, a1c, a1z, a1l⟩ := keep1 (g := w.heap.size + 1) (cs := copsA c d) hb (by first | (go_simp; done) | (go_simp; rfl)) (by go_simp) (by go_simp)
    obtain ⟨a2r, a2f, a2n, a2c, a2z, a2l⟩ := keep1 (g := w1.heap.size) (cs := recA Rec.zero) hb (by first | (go_simp; done) | (go_simp; rfl)) (by go_simp) (by go_simp)
    obtain ⟨a3r, a3f, a3n, a3c, a3z, a3l⟩ := keep1 (g := w2.heap.size) (cs := copsA Cop.zero Cop.zero) hb (by first | (go_simp; done) | (go_simp; rfl)) (by go_simp) (by go_simp)
    obtain ⟨a4r, a4f, a4n, a4c, a4z, a4l⟩ := keep1 (g := w3.heap.size) (cs := recA y) hb (by first | (go_simp; done) | (go_simp; rfl)) (by go_simp) (by go_simp)
    obtain ⟨a5r, a5f, a5n, a5c, a5z, a5l⟩ := keep1 (g := w4.heap.size) (cs := recA Rec.zero) hb (by first | (go_simp; done) | (go_simp; rfl)) (by go_simp) (by go_simp)
    have HB6 : Hid (Below w.heap.size w w6) := by
      have hs := HB5.out.size
      refine Lib.hid (Below.trans ?_ (hb.mono (by first | omega | (simp <;> omega))))
      repeat (first | exact HB5.out | refine below_row ?_ (by omega) _ | refine Below.setCell ?_ (by first | omega | (simp <;> omega)) _ | refine Below.alloc ?_ (by first | omega | (simp <;> omega)) _ | refine Below.drew ?_)
    clear hb
    go_wp2_with fail
    refine (KB2.out _).mono ?_
    rintro e w7 ⟨rfl, hb⟩
    obtain ⟨a0r, a0f, a0n, a0c, a0z, a0l⟩ := keep1 (g := w.heap.size) (cs := recA r) hb (by first | (go_simp; done) | (go_simp; rfl)) (by go_simp) (by go_simp)
    obtain ⟨a1r, a1f, a1n, a1c, a1z, a1l⟩ := keep1 (g := w.heap.size + 1) (cs := copsA c d) hb (by first | (go_simp; done) | (go_simp; rfl)) (by go_simp) (by go_simp)
    obtain ⟨a2r, a2f, a2n, a2c, a2z, a2l⟩ := keep1 (g := w1.heap.size) (cs := recA Rec.zero) hb (by first | (go_simp; done) | (go_simp; rfl)) (by go_simp) (by go_simp)
    obtain ⟨a3r, a3f, a3n, a3c, a3z, a3l⟩ := keep1 (g := w2.heap.size) (cs := copsA Cop.zero Cop.zero) hb (by first | (go_simp; done) | (go_simp; rfl)) (by go_simp) (by go_simp)
    obtain ⟨a4r, a4f, a4n, a4c, a4z, a4l⟩ := keep1 (g := w3.heap.size) (cs := recA y) hb (by first | (go_simp; done) | (go_simp; rfl)) (by go_simp) (by go_simp)
    obtain ⟨a5r, a5f, a5n, a5c, a5z, a5l⟩ := keep1 (g := w4.heap.size) (cs := recA Rec.zero) hb (by first | (go_simp; done) | (go_simp; rfl)) (by go_simp) (by go_simp)
    have HB7 : Hid (Below w.heap.size w w7) := by
      have hs := HB6.out.size
      refine Lib.hid (Below.trans ?_ (hb.mono (by first | omega | (simp <;> omega))))
      repeat (first | exact HB6.out | refine below_row ?_ (by omega) _ | refine Below.setCell ?_ (by first | omega | (simp <;> omega)) _ | refine Below.alloc ?_ (by first | omega | (simp <;> omega)) _ | refine Below.drew ?_)
    clear hb
    go_wp2_with fail
    refine (KE2.out _).mono ?_
    rintro e w8 ⟨rfl, hb⟩
    obtain ⟨a0r, a0f, a0n, a0c, a0z, a0l⟩ := keep1 (g := w.heap.size) (cs := recA r) hb (by first | (go_simp; done) | (go_simp; rfl)) (by go_simp) (by go_simp)
    obtain ⟨a1r, a1f, a1n, a1c, a1z, a1l⟩ := keep1 (g := w.heap.size + 1) (cs := copsA c d) hb (by first | (go_simp; done) | (go_simp; rfl)) (by go_simp) (by go_simp)
    obtain ⟨a2r, a2f, a2n, a2c, a2z, a2l⟩ := keep1 (g := w1.heap.size) (cs := recA Rec.zero) hb (by first | (go_simp; done) | (go_simp; rfl)) (by go_simp) (by go_simp)
    obtain ⟨a3r, a3f, a3n, a3c, a3z, a3l⟩ := keep1 (g := w2.heap.size) (cs := copsA Cop.zero Cop.zero) hb (by first | (go_simp; done) | (go_simp; rfl)) (by go_simp) (by go_simp)
    obtain ⟨a4r, a4f, a4n, a4c, a4z, a4l⟩ := keep1 (g := w3.heap.size) (cs := recA y) hb (by first | (go_simp; done) | (go_simp; rfl)) (by go_simp) (by go_simp)
    obtain ⟨a5r, a5f, a5n, a5c, a5z, a5l⟩ := keep1 (g := w4.heap.size) (cs := recA Rec.zero) hb (by first | (go_simp; done) | (go_simp; rfl)) (by go_simp) (by go_simp)
    have HB8 : Hid (Below w.heap.size w w8) := by
      have hs := HB7.out.size
      refine Lib.hid (Below.trans ?_ (hb.mono (by first | omega | (simp <;> omega))))
      repeat (first | exact HB7.out | refine below_row ?_ (by omega) _ | refine Below.setCell ?_ (by first | omega | (simp <;> omega)) _ | refine Below.alloc ?_ (by first | omega | (simp <;> omega)) _ | refine Below.drew ?_)
    clear hb
    go_wp2_with fail
    refine (KT.out _).mono ?_
    rintro e w9 ⟨rfl, hb⟩
    obtain ⟨a0r, a0f, a0n, a0c, a0z, a0l⟩ := keep1 (g := w.heap.size) (cs := recA r) hb (by first | (go_simp; done) | (go_simp; rfl)) (by go_simp) (by go_simp)
    obtain ⟨a1r, a1f, a1n, a1c, a1z, a1l⟩ := keep1 (g := w.heap.size + 1) (cs := copsA c d) hb (by first | (go_simp; done) | (go_simp; rfl)) (by go_simp) (by go_simp)
    obtain ⟨a2r, a2f, a2n, a2c, a2z, a2l⟩ := keep1 (g := w1.heap.size) (cs := recA Rec.zero) hb (by first | (go_simp; done) | (go_simp; rfl)) (by go_simp) (by go_simp)
    obtain ⟨a3r, a3f, a3n, a3c, a3z, a3l⟩ := keep1 (g := w2.heap.size) (cs := copsA Cop.zero Cop.zero) hb (by first | (go_simp; done) | (go_simp; rfl)) (by go_simp) (by go_simp)
    obtain ⟨a4r, a4f, a4n, a4c, a4z, a4l⟩ := keep1 (g := w3.heap.size) (cs := recA y) hb (by first | (go_simp; done) | (go_simp; rfl)) (by go_simp) (by go_simp)
    obtain ⟨a5r, a5f, a5n, a5c, a5z, a5l⟩ := keep1 (g := w4.heap.size) (cs := recA Rec.zero) hb (by first | (go_simp; done) | (go_simp; rfl)) (by go_simp) (by go_simp)
    obtain ⟨a6r, a6f, a6n, a6c, a6z, a6l⟩ := keep1 (g := w8.heap.size) (cs := recA Rec.zero) hb (by first | (go_simp; done) | (go_simp; rfl)) (by go_simp) (by go_simp)
    have HB9 : Hid (Below w.heap.size w w9) := by
      have hs := HB8.out.size
      refine Lib.hid (Below.trans ?_ (hb.mono (by first | omega | (simp <;> omega))))
      repeat (first | exact HB8.out | refine below_row ?_ (by omega) _ | refine Below.setCell ?_ (by first | omega | (simp <;> omega)) _ | refine Below.alloc ?_ (by first | omega | (simp <;> omega)) _ | refine Below.drew ?_)
    clear hb
    go_wp2_with fail
    go_ret
    refine ⟨rfl, ?_⟩
    have hs := HB9.out.size
    repeat (first | exact HB9.out | refine below_row ?_ (by omega) _ | refine Below.setCell ?_ (by first | omega | (simp <;> omega)) _ | refine Below.alloc ?_ (by first | omega | (simp <;> omega)) _ | refine Below.drew ?_)

theorem RecordSays_walk (w : World) (v0 v1 v2 : Value) (r : Rec) (x1 : Cop × Cop) (torn : Bool) (g0 : ArgRec v0 r) (g1 : ArgCops v1 x1) (g2 : ArgBool v2 torn) : Calls Try.prog 7 #[v0, v1, v2] w (RetB w (.bool true)) := by
  unfold ArgRec at g0
  unfold ArgCops at g1
  unfold ArgBool at g2
  subst g0 g1 g2
  obtain ⟨c, d⟩ := x1
  have KB := fun w => refRecCheck_calls r w
  have KE := fun w => refCopies_calls c d w
  have KB2 := fun w => recCheckA_calls r w
  have KE2 := fun w => copies_calls c d w
  have KW := fun w => write_calls c d r torn w
  have KS := fun w => start_calls r w
  have KC := fun w => confirm_calls r w
  by_cases h : copCheck c d = 0
  · have KR := fun w => read_ok c d w h
    have KN := fun w => newest_calls c d w
    rw [refNewest_ok h] at KN
    have KV := fun w => written_calls c d r torn w h
    rw [h] at KE KE2
    generalize recWrite c d r torn = q at *
    obtain ⟨⟨p, q⟩, f⟩ := q
    generalize recRead c d = y at *
    obtain ⟨x, k⟩ := y
    by_cases hb : recCheck r = 0
    · have hr := (recCheck_parts hb).1
      unfold RangeOk at hr
      have KT := fun w => started_calls r w (by omega) (by omega)
      rw [refStart_ok hb] at KS
      have KD := fun w => confirmed_calls r w (by omega)
      rw [hb] at KB KB2
      generalize refStart r = y at *
      obtain ⟨s, y⟩ := y
      cases ht : r.trying
      · rw [show recConfirm r = (Rec.zero, 5) by unfold recConfirm; rw [if_pos hb, if_neg (by simp [ht])]] at KC
        exact says_ok_not c d r torn x k f p q s y w ht kept_calls KR KW KS KC KB KE KB2 KE2 KN KV KT
      · rw [show recConfirm r = (recDone r, 0) by unfold recConfirm; rw [if_pos hb, if_pos ht]] at KC
        exact says_ok_try c d r torn x k f p q s y _ w ht kept_calls KR KW KS KC KB KE KB2 KE2 KN KV KT KD
    · rw [show recStart r = (0, Rec.zero, recCheck r) by unfold recStart; rw [if_neg hb]] at KS
      rw [show recConfirm r = (Rec.zero, recCheck r) by unfold recConfirm; rw [if_neg hb]] at KC
      exact says_ok_bad c d r torn x k f p q _ w (by simp [hb]) kept_calls KR KW KS KC KB KE KB2 KE2 KN KV
  · have KR := fun w => read_bad c d w h
    rw [show recWrite c d r torn = ((Cop.zero, Cop.zero), copCheck c d) by unfold recWrite; rw [if_neg h]] at KW
    by_cases hb : recCheck r = 0
    · have hr := (recCheck_parts hb).1
      unfold RangeOk at hr
      have KT := fun w => started_calls r w (by omega) (by omega)
      rw [refStart_ok hb] at KS
      have KD := fun w => confirmed_calls r w (by omega)
      rw [hb] at KB KB2
      generalize refStart r = y at *
      obtain ⟨s, y⟩ := y
      cases ht : r.trying
      · rw [show recConfirm r = (Rec.zero, 5) by unfold recConfirm; rw [if_pos hb, if_neg (by simp [ht])]] at KC
        exact says_er_not c d r torn _ s y w (by simp [h]) ht kept_calls KR KW KS KC KB KE KB2 KE2 KT
      · rw [show recConfirm r = (recDone r, 0) by unfold recConfirm; rw [if_pos hb, if_pos ht]] at KC
        exact says_er_try c d r torn _ s y _ w (by simp [h]) ht kept_calls KR KW KS KC KB KE KB2 KE2 KT KD
    · rw [show recStart r = (0, Rec.zero, recCheck r) by unfold recStart; rw [if_neg hb]] at KS
      rw [show recConfirm r = (Rec.zero, recCheck r) by unfold recConfirm; rw [if_neg hb]] at KC
      exact says_er_bad c d r torn _ _ w (by simp [h]) (by simp [hb]) kept_calls KR KW KS KC KB KE KB2 KE2
end Go.Proofs.Ytefkfglkpebbmaa
