/- The walk of the law RecordStarts. No conditions. -/
import Derived.Test.YtefkfglkpebbmaaRecKept
import Derived.Test.YtefkfglkpebbmaaRecArgsN
import Derived.Test.YtefkfglkpebbmaaRecLaws
namespace Go.Proofs.Ytefkfglkpebbmaa
open Go.RowKit
set_option linter.unusedVariables false
set_option linter.unusedSimpArgs false

/-- What is known at each round's head. -/
def StSt (w0 : World) (b0 b1 : Nat) (r : Rec) (k : Nat) (wr : World) : Prop :=
  Below w0.heap.size w0 wr ∧ rowOf wr b0 = recA r ∧ frOf wr b0 = (0, 0) ∧ rowOf wr b1 = recA (nowAt r k) ∧ frOf wr b1 = (0, 0) ∧ w0.heap.size ≤ b0 ∧ b0 < b1
theorem start_c {r : Rec} (h : recCheck r = 0) (k : Nat) (w : World) : Calls Try.prog 28 #[.agg (recA (nowAt r k))] w (RetB w (.tuple #[iv (slotAt r k), .agg (recA (nowAt r (k + 1))), iv 0])) := by
  have := start_calls (nowAt r k) w
  rw [start_at h (k := (k : Int)) (by omega)] at this
  exact this
set_option maxRecDepth 100000 in
set_option maxHeartbeats 4000000 in
theorem starts_bad (r : Rec) (w : World) (h : recCheck r ≠ 0) : Calls Try.prog 9 #[.agg (recA r)] w (RetB w (.bool true)) := by
  have hb0 : (recCheck r != 0) = true := by simp [h]
  have K1 := Lib.hid (fun w => recCheckA_calls r w)
  have K0 := Lib.hid kept_calls
  clear h
  go_enter Try.func9, Try.ntmps9
  go_wp2_with fail
  refine (K0.out _).mono ?_
  rintro e w1 ⟨rfl, hb⟩
  obtain ⟨a0r, a0f, a0n, a0c, a0z, a0l⟩ := keep1 (g := w.heap.size) (cs := recA r) hb (by first | (go_simp; done) | (go_simp; rfl)) (by go_simp) (by go_simp)
  have HB1 : Hid (Below w.heap.size w w1) := by
    refine Lib.hid (Below.trans ?_ (hb.mono (by first | omega | (simp <;> omega))))
    repeat (first | exact Below.refl _ _ | refine below_row ?_ (by omega) _ | refine Below.setCell ?_ (by first | omega | (simp <;> omega)) _ | refine Below.alloc ?_ (by first | omega | (simp <;> omega)) _ | refine Below.drew ?_)
  clear hb
  go_wp2_with fail
  refine (K1.out _).mono ?_
  rintro e w2 ⟨rfl, hb⟩
  obtain ⟨a0r, a0f, a0n, a0c, a0z, a0l⟩ := keep1 (g := w.heap.size) (cs := recA r) hb (by first | (go_simp; done) | (go_simp; rfl)) (by go_simp) (by go_simp)
  have HB2 : Hid (Below w.heap.size w w2) := by
    have hs := HB1.out.size
    refine Lib.hid (Below.trans ?_ (hb.mono (by first | omega | (simp <;> omega))))
    repeat (first | exact HB1.out | refine below_row ?_ (by omega) _ | refine Below.setCell ?_ (by first | omega | (simp <;> omega)) _ | refine Below.alloc ?_ (by first | omega | (simp <;> omega)) _ | refine Below.drew ?_)
  clear hb
  go_wp2_with fail
  refine (K0.out _).mono ?_
  rintro e w3 ⟨rfl, hb⟩
  obtain ⟨a0r, a0f, a0n, a0c, a0z, a0l⟩ := keep1 (g := w.heap.size) (cs := recA r) hb (by first | (go_simp; done) | (go_simp; rfl)) (by go_simp) (by go_simp)
  have HB3 : Hid (Below w.heap.size w w3) := by
    have hs := HB2.out.size
    refine Lib.hid (Below.trans ?_ (hb.mono (by first | omega | (simp <;> omega))))
    repeat (first | exact HB2.out | refine below_row ?_ (by omega) _ | refine Below.setCell ?_ (by first | omega | (simp <;> omega)) _ | refine Below.alloc ?_ (by first | omega | (simp <;> omega)) _ | refine Below.drew ?_)
  clear hb
  go_wp2_with fail
  go_ret
  refine ⟨rfl, ?_⟩
  have hs := HB3.out.size
  repeat (first | exact HB3.out | refine below_row ?_ (by omega) _ | refine Below.setCell ?_ (by first | omega | (simp <;> omega)) _ | refine Below.alloc ?_ (by first | omega | (simp <;> omega)) _ | refine Below.drew ?_)

set_option maxRecDepth 100000 in
set_option maxHeartbeats 8000000 in
theorem starts_0false (gen tries floor : Int) (a b : Inf) (h : recCheck ⟨gen, 0, false, tries, floor, a, b⟩ = 0) (w : World) (K0 : Hid (∀ w, Calls Try.prog 32 #[] w (RetB w (.bool true)))) : Calls Try.prog 9 #[.agg (recA ⟨gen, 0, false, tries, floor, a, b⟩)] w (RetB w (.bool true)) := by
  have hst := fun k => slot_floor h (k : Int)
  have hat := fun (k : Int) s => nowAt_at (⟨gen, 0, false, tries, floor, a, b⟩ : Rec) k s
  have Kc : Hid (∀ w, Calls Try.prog 33 #[.agg (recA ⟨gen, 0, false, tries, floor, a, b⟩)] w (RetB w (iv 0))) := fun w => by
    have := recCheckA_calls ⟨gen, 0, false, tries, floor, a, b⟩ w
    rw [h] at this; exact this
  have Kx : Hid (∀ (k : Nat) w, Calls Try.prog 33 #[.agg (recA (nowAt ⟨gen, 0, false, tries, floor, a, b⟩ (k + 1)))] w (RetB w (iv 0))) := fun k w => by
    have := recCheckA_calls (nowAt ⟨gen, 0, false, tries, floor, a, b⟩ ((k : Int) + 1)) w
    rw [nowAt_ok h (by omega)] at this; exact this
  have Ks := Lib.hid (start_c h)
  have HST := Lib.hid hst
  have HAT := Lib.hid hat
  have HN0 := Lib.hid (nowAt_0 h)
  have Kd : Hid (∀ w, Calls Try.prog 29 #[.agg (recA ⟨gen, 0, false, tries, floor, a, b⟩)] w (RetB w (.tuple #[.agg (recA Rec.zero), iv 5]))) := fun w => by
    have := confirm_calls ⟨gen, 0, false, tries, floor, a, b⟩ w
    rw [show recConfirm ⟨gen, 0, false, tries, floor, a, b⟩ = (Rec.zero, 5) by unfold recConfirm; rw [if_pos h, if_neg (by simp)]] at this
    exact this
  clear hst hat h
  go_enter Try.func9, Try.ntmps9
  go_wp2_with fail
  refine (K0.out _).mono ?_
  rintro e w1 ⟨rfl, hb⟩
  obtain ⟨a0r, a0f, a0n, a0c, a0z, a0l⟩ := keep1 (g := w.heap.size) (cs := recA ⟨gen, 0, false, tries, floor, a, b⟩) hb (by first | (go_simp; done) | (go_simp; rfl)) (by go_simp) (by go_simp)
  have HB1 : Hid (Below w.heap.size w w1) := by
    refine Lib.hid (Below.trans ?_ (hb.mono (by first | omega | (simp <;> omega))))
    repeat (first | exact Below.refl _ _ | refine below_row ?_ (by omega) _ | refine Below.setCell ?_ (by first | omega | (simp <;> omega)) _ | refine Below.alloc ?_ (by first | omega | (simp <;> omega)) _ | refine Below.drew ?_)
  clear hb
  go_wp2_with fail
  refine (Kc.out _).mono ?_
  rintro e w2 ⟨rfl, hb⟩
  obtain ⟨a0r, a0f, a0n, a0c, a0z, a0l⟩ := keep1 (g := w.heap.size) (cs := recA ⟨gen, 0, false, tries, floor, a, b⟩) hb (by first | (go_simp; done) | (go_simp; rfl)) (by go_simp) (by go_simp)
  have HB2 : Hid (Below w.heap.size w w2) := by
    have hs := HB1.out.size
    refine Lib.hid (Below.trans ?_ (hb.mono (by first | omega | (simp <;> omega))))
    repeat (first | exact HB1.out | refine below_row ?_ (by omega) _ | refine Below.setCell ?_ (by first | omega | (simp <;> omega)) _ | refine Below.alloc ?_ (by first | omega | (simp <;> omega)) _ | refine Below.drew ?_)
  clear hb
  go_wp2_with fail
  have hs := HB2.out.size
  go_loopw [21] (fun i wr => ∃ k : Nat, k ≤ 5 ∧ i = .int .i64 k ∧ StSt w w.heap.size w2.heap.size ⟨gen, 0, false, tries, floor, a, b⟩ k wr) (fun i _ => 5 - (intOf i).toNat)
  case atStart =>
    refine ⟨0, by omega, rfl, HB2.out.alloc hs _, by go_simp, by go_simp, ?_, by go_simp, Nat.le_refl _, by omega⟩
    rw [show nowAt ⟨gen, 0, false, tries, floor, a, b⟩ ((0 : Nat) : Int) = ⟨gen, 0, false, tries, floor, a, b⟩ by rfl]
    go_simp
  case round =>
    obtain ⟨k, hk, rfl, hB, hr0, hf0, hr1, hf1, hl0, hl1⟩ := hrel
    clear a0r a0f a0n a0c a0z a0l
    have hsw := hB.size
    have HBr := Lib.hid hB
    have hlw : w2.heap.size < wr.heap.size := row_lt (w := wr) (by rw [hr1]; simp [recA])
    clear hB
    by_cases hlt : k < 5
    · have hsl : slotAt ⟨gen, 0, false, tries, floor, a, b⟩ k = 0 := by unfold slotAt; rw [if_neg (by simp)]
      have Kr : Hid (∀ w, Calls Try.prog 28 #[.agg (recA (nowAt ⟨gen, 0, false, tries, floor, a, b⟩ k))] w (RetB w (.tuple #[iv 0, .agg (recA (nowAt ⟨gen, 0, false, tries, floor, a, b⟩ (k + 1))), iv 0]))) := fun w => by
        have := Ks.out k w
        rw [hsl] at this; exact this
      have hv : floor ≤ (nowAt ⟨gen, 0, false, tries, floor, a, b⟩ ((k : Int) + 1)).a.ver := by
        have e1 := (HST.out k).2
        rw [hsl] at e1
        have e2 := (HAT.out ((k : Int) + 1) 0).1
        rw [← e2] at e1
        exact e1
      have Ky := Kx.out k
      have KY := Lib.hid Ky
      clear hsl Ky
      generalize hx : nowAt ⟨gen, 0, false, tries, floor, a, b⟩ ((k : Int) + 1) = x at *
      have HX := Lib.hid hx
      clear hx
      go_wp2_with fail
      refine (Kr.out _).mono ?_
      rintro e w1_ ⟨rfl, hb⟩
      obtain ⟨a0r, a0f, a0n, a0c, a0z, a0l⟩ := keep1 (g := w.heap.size) (cs := recA ⟨gen, 0, false, tries, floor, a, b⟩) hb (by first | (go_simp; done) | (go_simp; rfl)) (by go_simp) (by go_simp)
      obtain ⟨a1r, a1f, a1n, a1c, a1z, a1l⟩ := keep1 (g := w2.heap.size) (cs := recA (nowAt ⟨gen, 0, false, tries, floor, a, b⟩ k)) hb (by first | (go_simp; done) | (go_simp; rfl)) (by go_simp) (by go_simp)
      have HB1 : Hid (Below w.heap.size w w1_) := Lib.hid (HBr.out.trans (hb.mono hsw))
      clear hb
      go_wp2_with fail
      have R1 : rowOf (w1_.alloc (.cells (recA x) 44)).drew (w.heap.size) = recA ⟨gen, 0, false, tries, floor, a, b⟩ := by first | (go_simp; done) | (go_simp; intro he; exfalso; omega)
      have F1 : frOf (w1_.alloc (.cells (recA x) 44)).drew (w.heap.size) = (0, 0) := by first | (go_simp; done) | (go_simp; intro he; exfalso; omega)
      have R3 : rowOf (w1_.alloc (.cells (recA x) 44)).drew (w2.heap.size) = recA (nowAt ⟨gen, 0, false, tries, floor, a, b⟩ k) := by first | (go_simp; done) | (go_simp; intro he; exfalso; omega)
      have F3 : frOf (w1_.alloc (.cells (recA x) 44)).drew (w2.heap.size) = (0, 0) := by first | (go_simp; done) | (go_simp; intro he; exfalso; omega)
      have R6 : rowOf (w1_.alloc (.cells (recA x) 44)).drew (w1_.heap.size) = recA x := by first | (go_simp; done) | (go_simp; intro he; exfalso; omega)
      have F6 : frOf (w1_.alloc (.cells (recA x) 44)).drew (w1_.heap.size) = (0, 0) := by first | (go_simp; done) | (go_simp; intro he; exfalso; omega)
      clear a0r a0f a0n a0c a0z a1r a1f a1n a1c a1z
      refine wp_region_chain (by kernel_rfl) (some 30 :: some 31 :: some 32 :: some 33 :: some 34 :: some 35 :: some 36 :: some 37 :: some 38 :: some 39 :: some 40 :: some 41 :: some 42 :: some 43 :: some 44 :: some 45 :: some 46 :: some 47 :: some 48 :: some 49 :: some 50 :: some 51 :: some 52 :: some 53 :: some 54 :: some 55 :: some 56 :: some 57 :: some 58 :: some 59 :: some 60 :: some 61 :: some 62 :: []) (iv 0 :: .bool false :: .bool false :: .agg (recA x) :: iv 0 :: .bool false :: .bool false :: .bool false :: iv 0 :: .pointer (some ⟨w1_.heap.size, 5, none⟩) :: .pointer (some ⟨w1_.heap.size, 5, none⟩) :: .pointer (some ⟨w1_.heap.size, 5, none⟩) :: iv x.a.ver :: .pointer (some ⟨w.heap.size, 4, none⟩) :: iv floor :: .bool false :: .bool false :: .bool false :: iv 0 :: .pointer (some ⟨w.heap.size, 1, none⟩) :: iv 0 :: .bool true :: .pointer (some ⟨w.heap.size, 2, none⟩) :: .bool false :: .bool true :: .bool true :: undef :: undef :: undef :: undef :: .bool true :: .bool false :: .bool false :: []) 117 rfl rfl (by decide +kernel) (by decide +kernel) (by decide +kernel) rfl ?_ ?_
      · refine ⟨.inl ⟨rfl, fun done a wq hw h => ?_⟩, ?_⟩
        · have e7 := ch_old (t := 7) (v := iv 0) h rfl rfl; exact ch_move (ch_ev e7)
        refine ⟨.inl ⟨rfl, fun done a wq hw h => ?_⟩, ?_⟩
        · have e30 := ch_new (i := 0) (t := 30) h (hw 0 (by decide)) rfl rfl; exact ch_neq_int (by kernel_rfl) (ch_ev e30) rfl (by simp)
        refine ⟨.inl ⟨rfl, fun done a wq hw h => ?_⟩, ?_⟩
        · have e31 := ch_new (i := 1) (t := 31) h (hw 1 (by decide)) rfl rfl; exact ch_move (ch_ev e31)
        refine ⟨.inl ⟨rfl, fun done a wq hw h => ?_⟩, ?_⟩
        · have e6 := ch_old (t := 6) (v := .pointer (some ⟨w1_.heap.size, 0, none⟩)) h rfl rfl; obtain ⟨r_, f_, n_, c_, z_, l_⟩ := keep1 h.bel R6 (by simp [recA]) F6; refine ch_pure ?_; go_simp
        refine ⟨.inl ⟨rfl, fun done a wq hw h => ?_⟩, ?_⟩
        · have e33 := ch_new (i := 3) (t := 33) h (hw 3 (by decide)) rfl rfl; exact ch_call (by go_simp) (by go_simp) (KY.out _)
        refine ⟨.inl ⟨rfl, fun done a wq hw h => ?_⟩, ?_⟩
        · have e34 := ch_new (i := 4) (t := 34) h (hw 4 (by decide)) rfl rfl; exact ch_neq_int (by kernel_rfl) (ch_ev e34) rfl (by simp)
        refine ⟨.inl ⟨rfl, fun done a wq hw h => ?_⟩, ?_⟩
        · have e32 := ch_new (i := 2) (t := 32) h (hw 2 (by decide)) rfl rfl; have e35 := ch_new (i := 5) (t := 35) h (hw 5 (by decide)) rfl rfl; exact ch_pick_f e32 (ch_ev e35)
        refine ⟨.inl ⟨rfl, fun done a wq hw h => ?_⟩, ?_⟩
        · have e36 := ch_new (i := 6) (t := 36) h (hw 6 (by decide)) rfl rfl; exact ch_move (ch_ev e36)
        refine ⟨.inl ⟨rfl, fun done a wq hw h => ?_⟩, ?_⟩
        · have e5 := ch_old (t := 5) (v := iv 0) h rfl rfl; exact ch_move (ch_ev e5)
        refine ⟨.inl ⟨rfl, fun done a wq hw h => ?_⟩, ?_⟩
        · have e6 := ch_old (t := 6) (v := .pointer (some ⟨w1_.heap.size, 0, none⟩)) h rfl rfl; refine ch_pure ?_; go_simp
        refine ⟨.inl ⟨rfl, fun done a wq hw h => ?_⟩, ?_⟩
        · have e39 := ch_new (i := 9) (t := 39) h (hw 9 (by decide)) rfl rfl; have e38 := ch_new (i := 8) (t := 38) h (hw 8 (by decide)) rfl rfl; refine ch_pure ?_; go_simp
        refine ⟨.inl ⟨rfl, fun done a wq hw h => ?_⟩, ?_⟩
        · have e40 := ch_new (i := 10) (t := 40) h (hw 10 (by decide)) rfl rfl; refine ch_pure ?_; go_simp
        refine ⟨.inl ⟨rfl, fun done a wq hw h => ?_⟩, ?_⟩
        · have e41 := ch_new (i := 11) (t := 41) h (hw 11 (by decide)) rfl rfl; obtain ⟨r_, f_, n_, c_, z_, l_⟩ := keep1 h.bel R6 (by simp [recA]) F6; refine ch_pure ?_; go_simp
        refine ⟨.inl ⟨rfl, fun done a wq hw h => ?_⟩, ?_⟩
        · have e1 := ch_old (t := 1) (v := .pointer (some ⟨w.heap.size, 0, none⟩)) h rfl rfl; refine ch_pure ?_; go_simp
        refine ⟨.inl ⟨rfl, fun done a wq hw h => ?_⟩, ?_⟩
        · have e43 := ch_new (i := 13) (t := 43) h (hw 13 (by decide)) rfl rfl; obtain ⟨r_, f_, n_, c_, z_, l_⟩ := keep1 h.bel R1 (by simp [recA]) F1; refine ch_pure ?_; go_simp
        refine ⟨.inl ⟨rfl, fun done a wq hw h => ?_⟩, ?_⟩
        · have e42 := ch_new (i := 12) (t := 42) h (hw 12 (by decide)) rfl rfl; have e44 := ch_new (i := 14) (t := 44) h (hw 14 (by decide)) rfl rfl; exact ch_lss_int (by kernel_rfl) (ch_ev e42) (ch_ev e44) (by simp; omega)
        refine ⟨.inl ⟨rfl, fun done a wq hw h => ?_⟩, ?_⟩
        · have e37 := ch_new (i := 7) (t := 37) h (hw 7 (by decide)) rfl rfl; have e45 := ch_new (i := 15) (t := 45) h (hw 15 (by decide)) rfl rfl; exact ch_pick_f e37 (ch_ev e45)
        refine ⟨.inl ⟨rfl, fun done a wq hw h => ?_⟩, ?_⟩
        · have e46 := ch_new (i := 16) (t := 46) h (hw 16 (by decide)) rfl rfl; exact ch_move (ch_ev e46)
        refine ⟨.inl ⟨rfl, fun done a wq hw h => ?_⟩, ?_⟩
        · have e5 := ch_old (t := 5) (v := iv 0) h rfl rfl; exact ch_move (ch_ev e5)
        refine ⟨.inl ⟨rfl, fun done a wq hw h => ?_⟩, ?_⟩
        · have e1 := ch_old (t := 1) (v := .pointer (some ⟨w.heap.size, 0, none⟩)) h rfl rfl; refine ch_pure ?_; go_simp
        refine ⟨.inl ⟨rfl, fun done a wq hw h => ?_⟩, ?_⟩
        · have e49 := ch_new (i := 19) (t := 49) h (hw 19 (by decide)) rfl rfl; obtain ⟨r_, f_, n_, c_, z_, l_⟩ := keep1 h.bel R1 (by simp [recA]) F1; refine ch_pure ?_; go_simp
        refine ⟨.inl ⟨rfl, fun done a wq hw h => ?_⟩, ?_⟩
        · have e48 := ch_new (i := 18) (t := 48) h (hw 18 (by decide)) rfl rfl; have e50 := ch_new (i := 20) (t := 50) h (hw 20 (by decide)) rfl rfl; exact ch_eql_int (by kernel_rfl) (ch_ev e48) (ch_ev e50) (by simp)
        refine ⟨.inl ⟨rfl, fun done a wq hw h => ?_⟩, ?_⟩
        · have e1 := ch_old (t := 1) (v := .pointer (some ⟨w.heap.size, 0, none⟩)) h rfl rfl; refine ch_pure ?_; go_simp
        refine ⟨.inl ⟨rfl, fun done a wq hw h => ?_⟩, ?_⟩
        · have e52 := ch_new (i := 22) (t := 52) h (hw 22 (by decide)) rfl rfl; obtain ⟨r_, f_, n_, c_, z_, l_⟩ := keep1 h.bel R1 (by simp [recA]) F1; refine ch_pure ?_; go_simp
        refine ⟨.inl ⟨rfl, fun done a wq hw h => ?_⟩, ?_⟩
        · have e53 := ch_new (i := 23) (t := 53) h (hw 23 (by decide)) rfl rfl; refine ch_pure ?_; go_simp
        refine ⟨.inl ⟨rfl, fun done a wq hw h => ?_⟩, ?_⟩
        · have e54 := ch_new (i := 24) (t := 54) h (hw 24 (by decide)) rfl rfl; exact ch_move (ch_ev e54)
        refine ⟨.inr ⟨rfl, rfl⟩, ?_⟩
        refine ⟨.inr ⟨rfl, rfl⟩, ?_⟩
        refine ⟨.inr ⟨rfl, rfl⟩, ?_⟩
        refine ⟨.inr ⟨rfl, rfl⟩, ?_⟩
        refine ⟨.inl ⟨rfl, fun done a wq hw h => ?_⟩, ?_⟩
        · have e55 := ch_new (i := 25) (t := 55) h (hw 25 (by decide)) rfl rfl; exact ch_pick_t e55 rfl
        refine ⟨.inl ⟨rfl, fun done a wq hw h => ?_⟩, ?_⟩
        · have e51 := ch_new (i := 21) (t := 51) h (hw 21 (by decide)) rfl rfl; have e60 := ch_new (i := 30) (t := 60) h (hw 30 (by decide)) rfl rfl; refine ch_pure ?_; go_simp
        refine ⟨.inl ⟨rfl, fun done a wq hw h => ?_⟩, ?_⟩
        · have e47 := ch_new (i := 17) (t := 47) h (hw 17 (by decide)) rfl rfl; have e61 := ch_new (i := 31) (t := 61) h (hw 31 (by decide)) rfl rfl; exact ch_pick_f e47 (ch_ev e61)
        exact trivial
      · intro w2_ hb
        obtain ⟨r0_, f0_, n0_, c0_, z0_, l0_⟩ := keep1 (g := w.heap.size) hb (by first | exact R1 | (go_simp; done) | (go_simp; intro he; exfalso; omega)) (by simp [recA]) F1
        obtain ⟨r1_, f1_, n1_, c1_, z1_, l1_⟩ := keep1 (g := w2.heap.size) hb (by first | exact R3 | (go_simp; done) | (go_simp; intro he; exfalso; omega)) (by simp [recA]) F3
        obtain ⟨r2_, f2_, n2_, c2_, z2_, l2_⟩ := keep1 (g := w1_.heap.size) (cs := recA x) hb (by go_simp) (by simp [recA]) (by go_simp)
        have HB3 : Hid (Below w.heap.size w w2_) := Lib.hid ((HB1.out.alloc HB1.out.size _).trans (hb.mono (by have := HB1.out.size; simp; omega)))
        clear hb R1 R3 R6 F1 F3 F6
        simp only [putAll_some, putAll_none, putAll_nil, List.setIfInBounds_toArray, List.set_cons_zero, List.set_cons_succ]
        go_wp2_with fail
        go_roundw
        case rel =>
          have hne : w.heap.size ≠ w2.heap.size := by omega
          refine ⟨k + 1, by omega, by go_num, below_row HB3.out (by omega) _, by first | (go_simp; done) | (go_simp; omega), by go_simp, ?_, by go_simp, hl0, hl1⟩
          go_simp
          rw [HX.out]
        case measure => simp [intOf]; omega
    · obtain rfl : k = 5 := by omega
      go_wp2_with fail
      refine (Kd.out _).mono ?_
      rintro e w1_ ⟨rfl, hb⟩
      obtain ⟨a0r, a0f, a0n, a0c, a0z, a0l⟩ := keep1 (g := w.heap.size) (cs := recA ⟨gen, 0, false, tries, floor, a, b⟩) hb (by first | (go_simp; done) | (go_simp; rfl)) (by go_simp) (by go_simp)
      have HB1 : Hid (Below w.heap.size w w1_) := Lib.hid (HBr.out.trans (hb.mono hsw))
      clear hb
      go_wp2_with fail
      go_ret
      exact ⟨rfl, HB1.out.alloc HB1.out.size _⟩

set_option maxRecDepth 100000 in
set_option maxHeartbeats 8000000 in
theorem starts_0true (gen tries floor : Int) (a b : Inf) (h : recCheck ⟨gen, 0, true, tries, floor, a, b⟩ = 0) (w : World) (K0 : Hid (∀ w, Calls Try.prog 32 #[] w (RetB w (.bool true)))) : Calls Try.prog 9 #[.agg (recA ⟨gen, 0, true, tries, floor, a, b⟩)] w (RetB w (.bool true)) := by
  have hst := fun k => slot_floor h (k : Int)
  have hat := fun (k : Int) s => nowAt_at (⟨gen, 0, true, tries, floor, a, b⟩ : Rec) k s
  have Kc : Hid (∀ w, Calls Try.prog 33 #[.agg (recA ⟨gen, 0, true, tries, floor, a, b⟩)] w (RetB w (iv 0))) := fun w => by
    have := recCheckA_calls ⟨gen, 0, true, tries, floor, a, b⟩ w
    rw [h] at this; exact this
  have Kx : Hid (∀ (k : Nat) w, Calls Try.prog 33 #[.agg (recA (nowAt ⟨gen, 0, true, tries, floor, a, b⟩ (k + 1)))] w (RetB w (iv 0))) := fun k w => by
    have := recCheckA_calls (nowAt ⟨gen, 0, true, tries, floor, a, b⟩ ((k : Int) + 1)) w
    rw [nowAt_ok h (by omega)] at this; exact this
  have Ks := Lib.hid (start_c h)
  have HST := Lib.hid hst
  have HAT := Lib.hid hat
  have HN0 := Lib.hid (nowAt_0 h)
  have hd := done_ok h rfl
  obtain ⟨d1, d2, d3, d4, d5⟩ := hd
  have Kd : Hid (∀ w, Calls Try.prog 29 #[.agg (recA ⟨gen, 0, true, tries, floor, a, b⟩)] w (RetB w (.tuple #[.agg (recA (recDone ⟨gen, 0, true, tries, floor, a, b⟩)), iv 0]))) := fun w => by
    have := confirm_calls ⟨gen, 0, true, tries, floor, a, b⟩ w
    rw [show recConfirm ⟨gen, 0, true, tries, floor, a, b⟩ = ((recDone ⟨gen, 0, true, tries, floor, a, b⟩), 0) by unfold recConfirm; rw [if_pos h, if_pos rfl]] at this
    exact this
  have Ke : Hid (∀ w, Calls Try.prog 28 #[.agg (recA (recDone ⟨gen, 0, true, tries, floor, a, b⟩))] w (RetB w (.tuple #[iv 1, .agg (recA (recDone ⟨gen, 0, true, tries, floor, a, b⟩)), iv 0]))) := fun w => by
    have := start_calls (recDone ⟨gen, 0, true, tries, floor, a, b⟩) w
    rw [d2] at this
    exact this
  have Kf : Hid (∀ w, Calls Try.prog 33 #[.agg (recA (recDone ⟨gen, 0, true, tries, floor, a, b⟩))] w (RetB w (iv 0))) := fun w => by
    have := recCheckA_calls (recDone ⟨gen, 0, true, tries, floor, a, b⟩) w
    rw [d1] at this; exact this
  have q1 : floor ≤ (recDone ⟨gen, 0, true, tries, floor, a, b⟩).floor := d3
  have q2 : (recDone ⟨gen, 0, true, tries, floor, a, b⟩).b.ver ≤ (recDone ⟨gen, 0, true, tries, floor, a, b⟩).floor := d4
  clear d1 d2 d3 d4 d5
  generalize (recDone ⟨gen, 0, true, tries, floor, a, b⟩) = c at *
  clear hst hat h
  go_enter Try.func9, Try.ntmps9
  go_wp2_with fail
  refine (K0.out _).mono ?_
  rintro e w1 ⟨rfl, hb⟩
  obtain ⟨a0r, a0f, a0n, a0c, a0z, a0l⟩ := keep1 (g := w.heap.size) (cs := recA ⟨gen, 0, true, tries, floor, a, b⟩) hb (by first | (go_simp; done) | (go_simp; rfl)) (by go_simp) (by go_simp)
  have HB1 : Hid (Below w.heap.size w w1) := by
    refine Lib.hid (Below.trans ?_ (hb.mono (by first | omega | (simp <;> omega))))
    repeat (first | exact Below.refl _ _ | refine below_row ?_ (by omega) _ | refine Below.setCell ?_ (by first | omega | (simp <;> omega)) _ | refine Below.alloc ?_ (by first | omega | (simp <;> omega)) _ | refine Below.drew ?_)
  clear hb
  go_wp2_with fail
  refine (Kc.out _).mono ?_
  rintro e w2 ⟨rfl, hb⟩
  obtain ⟨a0r, a0f, a0n, a0c, a0z, a0l⟩ := keep1 (g := w.heap.size) (cs := recA ⟨gen, 0, true, tries, floor, a, b⟩) hb (by first | (go_simp; done) | (go_simp; rfl)) (by go_simp) (by go_simp)
  have HB2 : Hid (Below w.heap.size w w2) := by
    have hs := HB1.out.size
    refine Lib.hid (Below.trans ?_ (hb.mono (by first | omega | (simp <;> omega))))
    repeat (first | exact HB1.out | refine below_row ?_ (by omega) _ | refine Below.setCell ?_ (by first | omega | (simp <;> omega)) _ | refine Below.alloc ?_ (by first | omega | (simp <;> omega)) _ | refine Below.drew ?_)
  clear hb
  go_wp2_with fail
  have hs := HB2.out.size
  go_loopw [21] (fun i wr => ∃ k : Nat, k ≤ 5 ∧ i = .int .i64 k ∧ StSt w w.heap.size w2.heap.size ⟨gen, 0, true, tries, floor, a, b⟩ k wr) (fun i _ => 5 - (intOf i).toNat)
  case atStart =>
    refine ⟨0, by omega, rfl, HB2.out.alloc hs _, by go_simp, by go_simp, ?_, by go_simp, Nat.le_refl _, by omega⟩
    rw [show nowAt ⟨gen, 0, true, tries, floor, a, b⟩ ((0 : Nat) : Int) = ⟨gen, 0, true, tries, floor, a, b⟩ by exact HN0.out]
    go_simp
  case round =>
    obtain ⟨k, hk, rfl, hB, hr0, hf0, hr1, hf1, hl0, hl1⟩ := hrel
    clear a0r a0f a0n a0c a0z a0l
    have hsw := hB.size
    have HBr := Lib.hid hB
    have hlw : w2.heap.size < wr.heap.size := row_lt (w := wr) (by rw [hr1]; simp [recA])
    clear hB
    by_cases hlt : k < 5
    · by_cases hkt : (k : Int) < tries
      · have hsl : slotAt ⟨gen, 0, true, tries, floor, a, b⟩ k = 1 := by unfold slotAt; rw [if_pos ⟨rfl, hkt⟩]; rfl
        have Kr : Hid (∀ w, Calls Try.prog 28 #[.agg (recA (nowAt ⟨gen, 0, true, tries, floor, a, b⟩ k))] w (RetB w (.tuple #[iv 1, .agg (recA (nowAt ⟨gen, 0, true, tries, floor, a, b⟩ (k + 1))), iv 0]))) := fun w => by
          have := Ks.out k w
          rw [hsl] at this; exact this
        have hv : floor ≤ (nowAt ⟨gen, 0, true, tries, floor, a, b⟩ ((k : Int) + 1)).b.ver := by
          have e1 := (HST.out k).2
          rw [hsl] at e1
          have e2 := (HAT.out ((k : Int) + 1) 1).1
          rw [← e2] at e1
          exact e1
        have Ky := Kx.out k
        have KY := Lib.hid Ky
        clear hsl Ky
        generalize hx : nowAt ⟨gen, 0, true, tries, floor, a, b⟩ ((k : Int) + 1) = x at *
        have HX := Lib.hid hx
        clear hx
        go_wp2_with fail
        refine (Kr.out _).mono ?_
        rintro e w1_ ⟨rfl, hb⟩
        obtain ⟨a0r, a0f, a0n, a0c, a0z, a0l⟩ := keep1 (g := w.heap.size) (cs := recA ⟨gen, 0, true, tries, floor, a, b⟩) hb (by first | (go_simp; done) | (go_simp; rfl)) (by go_simp) (by go_simp)
        obtain ⟨a1r, a1f, a1n, a1c, a1z, a1l⟩ := keep1 (g := w2.heap.size) (cs := recA (nowAt ⟨gen, 0, true, tries, floor, a, b⟩ k)) hb (by first | (go_simp; done) | (go_simp; rfl)) (by go_simp) (by go_simp)
        have HB1 : Hid (Below w.heap.size w w1_) := Lib.hid (HBr.out.trans (hb.mono hsw))
        clear hb
        go_wp2_with fail
        have R1 : rowOf (w1_.alloc (.cells (recA x) 44)).drew (w.heap.size) = recA ⟨gen, 0, true, tries, floor, a, b⟩ := by first | (go_simp; done) | (go_simp; intro he; exfalso; omega)
        have F1 : frOf (w1_.alloc (.cells (recA x) 44)).drew (w.heap.size) = (0, 0) := by first | (go_simp; done) | (go_simp; intro he; exfalso; omega)
        have R3 : rowOf (w1_.alloc (.cells (recA x) 44)).drew (w2.heap.size) = recA (nowAt ⟨gen, 0, true, tries, floor, a, b⟩ k) := by first | (go_simp; done) | (go_simp; intro he; exfalso; omega)
        have F3 : frOf (w1_.alloc (.cells (recA x) 44)).drew (w2.heap.size) = (0, 0) := by first | (go_simp; done) | (go_simp; intro he; exfalso; omega)
        have R6 : rowOf (w1_.alloc (.cells (recA x) 44)).drew (w1_.heap.size) = recA x := by first | (go_simp; done) | (go_simp; intro he; exfalso; omega)
        have F6 : frOf (w1_.alloc (.cells (recA x) 44)).drew (w1_.heap.size) = (0, 0) := by first | (go_simp; done) | (go_simp; intro he; exfalso; omega)
        clear a0r a0f a0n a0c a0z a1r a1f a1n a1c a1z
        refine wp_region_chain (by kernel_rfl) (some 30 :: some 31 :: some 32 :: some 33 :: some 34 :: some 35 :: some 36 :: some 37 :: some 38 :: some 39 :: some 40 :: some 41 :: some 42 :: some 43 :: some 44 :: some 45 :: some 46 :: some 47 :: some 48 :: some 49 :: some 50 :: some 51 :: some 52 :: some 53 :: some 54 :: some 55 :: some 56 :: some 57 :: some 58 :: some 59 :: some 60 :: some 61 :: some 62 :: []) (iv 0 :: .bool false :: .bool false :: .agg (recA x) :: iv 0 :: .bool false :: .bool false :: .bool false :: iv 1 :: .pointer (some ⟨w1_.heap.size, 5, none⟩) :: .pointer (some ⟨w1_.heap.size, 8, none⟩) :: .pointer (some ⟨w1_.heap.size, 8, none⟩) :: iv x.b.ver :: .pointer (some ⟨w.heap.size, 4, none⟩) :: iv floor :: .bool false :: .bool false :: .bool false :: iv 1 :: .pointer (some ⟨w.heap.size, 1, none⟩) :: iv 0 :: .bool false :: .pointer (some ⟨w.heap.size, 2, none⟩) :: .bool true :: .bool false :: .bool false :: iv (k : Int) :: .pointer (some ⟨w.heap.size, 3, none⟩) :: iv tries :: .bool false :: .bool false :: .bool false :: .bool false :: []) 117 rfl rfl (by decide +kernel) (by decide +kernel) (by decide +kernel) rfl ?_ ?_
        · refine ⟨.inl ⟨rfl, fun done a wq hw h => ?_⟩, ?_⟩
          · have e7 := ch_old (t := 7) (v := iv 0) h rfl rfl; exact ch_move (ch_ev e7)
          refine ⟨.inl ⟨rfl, fun done a wq hw h => ?_⟩, ?_⟩
          · have e30 := ch_new (i := 0) (t := 30) h (hw 0 (by decide)) rfl rfl; exact ch_neq_int (by kernel_rfl) (ch_ev e30) rfl (by simp)
          refine ⟨.inl ⟨rfl, fun done a wq hw h => ?_⟩, ?_⟩
          · have e31 := ch_new (i := 1) (t := 31) h (hw 1 (by decide)) rfl rfl; exact ch_move (ch_ev e31)
          refine ⟨.inl ⟨rfl, fun done a wq hw h => ?_⟩, ?_⟩
          · have e6 := ch_old (t := 6) (v := .pointer (some ⟨w1_.heap.size, 0, none⟩)) h rfl rfl; obtain ⟨r_, f_, n_, c_, z_, l_⟩ := keep1 h.bel R6 (by simp [recA]) F6; refine ch_pure ?_; go_simp
          refine ⟨.inl ⟨rfl, fun done a wq hw h => ?_⟩, ?_⟩
          · have e33 := ch_new (i := 3) (t := 33) h (hw 3 (by decide)) rfl rfl; exact ch_call (by go_simp) (by go_simp) (KY.out _)
          refine ⟨.inl ⟨rfl, fun done a wq hw h => ?_⟩, ?_⟩
          · have e34 := ch_new (i := 4) (t := 34) h (hw 4 (by decide)) rfl rfl; exact ch_neq_int (by kernel_rfl) (ch_ev e34) rfl (by simp)
          refine ⟨.inl ⟨rfl, fun done a wq hw h => ?_⟩, ?_⟩
          · have e32 := ch_new (i := 2) (t := 32) h (hw 2 (by decide)) rfl rfl; have e35 := ch_new (i := 5) (t := 35) h (hw 5 (by decide)) rfl rfl; exact ch_pick_f e32 (ch_ev e35)
          refine ⟨.inl ⟨rfl, fun done a wq hw h => ?_⟩, ?_⟩
          · have e36 := ch_new (i := 6) (t := 36) h (hw 6 (by decide)) rfl rfl; exact ch_move (ch_ev e36)
          refine ⟨.inl ⟨rfl, fun done a wq hw h => ?_⟩, ?_⟩
          · have e5 := ch_old (t := 5) (v := iv 1) h rfl rfl; exact ch_move (ch_ev e5)
          refine ⟨.inl ⟨rfl, fun done a wq hw h => ?_⟩, ?_⟩
          · have e6 := ch_old (t := 6) (v := .pointer (some ⟨w1_.heap.size, 0, none⟩)) h rfl rfl; refine ch_pure ?_; go_simp
          refine ⟨.inl ⟨rfl, fun done a wq hw h => ?_⟩, ?_⟩
          · have e39 := ch_new (i := 9) (t := 39) h (hw 9 (by decide)) rfl rfl; have e38 := ch_new (i := 8) (t := 38) h (hw 8 (by decide)) rfl rfl; refine ch_pure ?_; go_simp
          refine ⟨.inl ⟨rfl, fun done a wq hw h => ?_⟩, ?_⟩
          · have e40 := ch_new (i := 10) (t := 40) h (hw 10 (by decide)) rfl rfl; refine ch_pure ?_; go_simp
          refine ⟨.inl ⟨rfl, fun done a wq hw h => ?_⟩, ?_⟩
          · have e41 := ch_new (i := 11) (t := 41) h (hw 11 (by decide)) rfl rfl; obtain ⟨r_, f_, n_, c_, z_, l_⟩ := keep1 h.bel R6 (by simp [recA]) F6; refine ch_pure ?_; go_simp
          refine ⟨.inl ⟨rfl, fun done a wq hw h => ?_⟩, ?_⟩
          · have e1 := ch_old (t := 1) (v := .pointer (some ⟨w.heap.size, 0, none⟩)) h rfl rfl; refine ch_pure ?_; go_simp
          refine ⟨.inl ⟨rfl, fun done a wq hw h => ?_⟩, ?_⟩
          · have e43 := ch_new (i := 13) (t := 43) h (hw 13 (by decide)) rfl rfl; obtain ⟨r_, f_, n_, c_, z_, l_⟩ := keep1 h.bel R1 (by simp [recA]) F1; refine ch_pure ?_; go_simp
          refine ⟨.inl ⟨rfl, fun done a wq hw h => ?_⟩, ?_⟩
          · have e42 := ch_new (i := 12) (t := 42) h (hw 12 (by decide)) rfl rfl; have e44 := ch_new (i := 14) (t := 44) h (hw 14 (by decide)) rfl rfl; exact ch_lss_int (by kernel_rfl) (ch_ev e42) (ch_ev e44) (by simp; omega)
          refine ⟨.inl ⟨rfl, fun done a wq hw h => ?_⟩, ?_⟩
          · have e37 := ch_new (i := 7) (t := 37) h (hw 7 (by decide)) rfl rfl; have e45 := ch_new (i := 15) (t := 45) h (hw 15 (by decide)) rfl rfl; exact ch_pick_f e37 (ch_ev e45)
          refine ⟨.inl ⟨rfl, fun done a wq hw h => ?_⟩, ?_⟩
          · have e46 := ch_new (i := 16) (t := 46) h (hw 16 (by decide)) rfl rfl; exact ch_move (ch_ev e46)
          refine ⟨.inl ⟨rfl, fun done a wq hw h => ?_⟩, ?_⟩
          · have e5 := ch_old (t := 5) (v := iv 1) h rfl rfl; exact ch_move (ch_ev e5)
          refine ⟨.inl ⟨rfl, fun done a wq hw h => ?_⟩, ?_⟩
          · have e1 := ch_old (t := 1) (v := .pointer (some ⟨w.heap.size, 0, none⟩)) h rfl rfl; refine ch_pure ?_; go_simp
          refine ⟨.inl ⟨rfl, fun done a wq hw h => ?_⟩, ?_⟩
          · have e49 := ch_new (i := 19) (t := 49) h (hw 19 (by decide)) rfl rfl; obtain ⟨r_, f_, n_, c_, z_, l_⟩ := keep1 h.bel R1 (by simp [recA]) F1; refine ch_pure ?_; go_simp
          refine ⟨.inl ⟨rfl, fun done a wq hw h => ?_⟩, ?_⟩
          · have e48 := ch_new (i := 18) (t := 48) h (hw 18 (by decide)) rfl rfl; have e50 := ch_new (i := 20) (t := 50) h (hw 20 (by decide)) rfl rfl; exact ch_eql_int (by kernel_rfl) (ch_ev e48) (ch_ev e50) (by simp)
          refine ⟨.inl ⟨rfl, fun done a wq hw h => ?_⟩, ?_⟩
          · have e1 := ch_old (t := 1) (v := .pointer (some ⟨w.heap.size, 0, none⟩)) h rfl rfl; refine ch_pure ?_; go_simp
          refine ⟨.inl ⟨rfl, fun done a wq hw h => ?_⟩, ?_⟩
          · have e52 := ch_new (i := 22) (t := 52) h (hw 22 (by decide)) rfl rfl; obtain ⟨r_, f_, n_, c_, z_, l_⟩ := keep1 h.bel R1 (by simp [recA]) F1; refine ch_pure ?_; go_simp
          refine ⟨.inl ⟨rfl, fun done a wq hw h => ?_⟩, ?_⟩
          · have e53 := ch_new (i := 23) (t := 53) h (hw 23 (by decide)) rfl rfl; refine ch_pure ?_; go_simp
          refine ⟨.inl ⟨rfl, fun done a wq hw h => ?_⟩, ?_⟩
          · have e54 := ch_new (i := 24) (t := 54) h (hw 24 (by decide)) rfl rfl; exact ch_move (ch_ev e54)
          refine ⟨.inl ⟨rfl, fun done a wq hw h => ?_⟩, ?_⟩
          · have e4 := ch_old (t := 4) (v := iv (k : Int)) h rfl rfl; exact ch_move (ch_ev e4)
          refine ⟨.inl ⟨rfl, fun done a wq hw h => ?_⟩, ?_⟩
          · have e1 := ch_old (t := 1) (v := .pointer (some ⟨w.heap.size, 0, none⟩)) h rfl rfl; refine ch_pure ?_; go_simp
          refine ⟨.inl ⟨rfl, fun done a wq hw h => ?_⟩, ?_⟩
          · have e57 := ch_new (i := 27) (t := 57) h (hw 27 (by decide)) rfl rfl; obtain ⟨r_, f_, n_, c_, z_, l_⟩ := keep1 h.bel R1 (by simp [recA]) F1; refine ch_pure ?_; go_simp
          refine ⟨.inl ⟨rfl, fun done a wq hw h => ?_⟩, ?_⟩
          · have e56 := ch_new (i := 26) (t := 56) h (hw 26 (by decide)) rfl rfl; have e58 := ch_new (i := 28) (t := 58) h (hw 28 (by decide)) rfl rfl; exact ch_geq_int (by kernel_rfl) (ch_ev e56) (ch_ev e58) (by simp; omega)
          refine ⟨.inl ⟨rfl, fun done a wq hw h => ?_⟩, ?_⟩
          · have e55 := ch_new (i := 25) (t := 55) h (hw 25 (by decide)) rfl rfl; have e59 := ch_new (i := 29) (t := 59) h (hw 29 (by decide)) rfl rfl; exact ch_pick_f e55 (ch_ev e59)
          refine ⟨.inl ⟨rfl, fun done a wq hw h => ?_⟩, ?_⟩
          · have e51 := ch_new (i := 21) (t := 51) h (hw 21 (by decide)) rfl rfl; have e60 := ch_new (i := 30) (t := 60) h (hw 30 (by decide)) rfl rfl; refine ch_pure ?_; go_simp
          refine ⟨.inl ⟨rfl, fun done a wq hw h => ?_⟩, ?_⟩
          · have e47 := ch_new (i := 17) (t := 47) h (hw 17 (by decide)) rfl rfl; have e61 := ch_new (i := 31) (t := 61) h (hw 31 (by decide)) rfl rfl; exact ch_pick_f e47 (ch_ev e61)
          exact trivial
        · intro w2_ hb
          obtain ⟨r0_, f0_, n0_, c0_, z0_, l0_⟩ := keep1 (g := w.heap.size) hb (by first | exact R1 | (go_simp; done) | (go_simp; intro he; exfalso; omega)) (by simp [recA]) F1
          obtain ⟨r1_, f1_, n1_, c1_, z1_, l1_⟩ := keep1 (g := w2.heap.size) hb (by first | exact R3 | (go_simp; done) | (go_simp; intro he; exfalso; omega)) (by simp [recA]) F3
          obtain ⟨r2_, f2_, n2_, c2_, z2_, l2_⟩ := keep1 (g := w1_.heap.size) (cs := recA x) hb (by go_simp) (by simp [recA]) (by go_simp)
          have HB3 : Hid (Below w.heap.size w w2_) := Lib.hid ((HB1.out.alloc HB1.out.size _).trans (hb.mono (by have := HB1.out.size; simp; omega)))
          clear hb R1 R3 R6 F1 F3 F6
          simp only [putAll_some, putAll_none, putAll_nil, List.setIfInBounds_toArray, List.set_cons_zero, List.set_cons_succ]
          go_wp2_with fail
          go_roundw
          case rel =>
            have hne : w.heap.size ≠ w2.heap.size := by omega
            refine ⟨k + 1, by omega, by go_num, below_row HB3.out (by omega) _, by first | (go_simp; done) | (go_simp; omega), by go_simp, ?_, by go_simp, hl0, hl1⟩
            go_simp
            rw [HX.out]
          case measure => simp [intOf]; omega
      · have hsl : slotAt ⟨gen, 0, true, tries, floor, a, b⟩ k = 0 := by unfold slotAt; rw [if_neg (fun e => hkt e.2)]
        have Kr : Hid (∀ w, Calls Try.prog 28 #[.agg (recA (nowAt ⟨gen, 0, true, tries, floor, a, b⟩ k))] w (RetB w (.tuple #[iv 0, .agg (recA (nowAt ⟨gen, 0, true, tries, floor, a, b⟩ (k + 1))), iv 0]))) := fun w => by
          have := Ks.out k w
          rw [hsl] at this; exact this
        have hv : floor ≤ (nowAt ⟨gen, 0, true, tries, floor, a, b⟩ ((k : Int) + 1)).a.ver := by
          have e1 := (HST.out k).2
          rw [hsl] at e1
          have e2 := (HAT.out ((k : Int) + 1) 0).1
          rw [← e2] at e1
          exact e1
        have Ky := Kx.out k
        have KY := Lib.hid Ky
        clear hsl Ky
        generalize hx : nowAt ⟨gen, 0, true, tries, floor, a, b⟩ ((k : Int) + 1) = x at *
        have HX := Lib.hid hx
        clear hx
        go_wp2_with fail
        refine (Kr.out _).mono ?_
        rintro e w1_ ⟨rfl, hb⟩
        obtain ⟨a0r, a0f, a0n, a0c, a0z, a0l⟩ := keep1 (g := w.heap.size) (cs := recA ⟨gen, 0, true, tries, floor, a, b⟩) hb (by first | (go_simp; done) | (go_simp; rfl)) (by go_simp) (by go_simp)
        obtain ⟨a1r, a1f, a1n, a1c, a1z, a1l⟩ := keep1 (g := w2.heap.size) (cs := recA (nowAt ⟨gen, 0, true, tries, floor, a, b⟩ k)) hb (by first | (go_simp; done) | (go_simp; rfl)) (by go_simp) (by go_simp)
        have HB1 : Hid (Below w.heap.size w w1_) := Lib.hid (HBr.out.trans (hb.mono hsw))
        clear hb
        go_wp2_with fail
        have R1 : rowOf (w1_.alloc (.cells (recA x) 44)).drew (w.heap.size) = recA ⟨gen, 0, true, tries, floor, a, b⟩ := by first | (go_simp; done) | (go_simp; intro he; exfalso; omega)
        have F1 : frOf (w1_.alloc (.cells (recA x) 44)).drew (w.heap.size) = (0, 0) := by first | (go_simp; done) | (go_simp; intro he; exfalso; omega)
        have R3 : rowOf (w1_.alloc (.cells (recA x) 44)).drew (w2.heap.size) = recA (nowAt ⟨gen, 0, true, tries, floor, a, b⟩ k) := by first | (go_simp; done) | (go_simp; intro he; exfalso; omega)
        have F3 : frOf (w1_.alloc (.cells (recA x) 44)).drew (w2.heap.size) = (0, 0) := by first | (go_simp; done) | (go_simp; intro he; exfalso; omega)
        have R6 : rowOf (w1_.alloc (.cells (recA x) 44)).drew (w1_.heap.size) = recA x := by first | (go_simp; done) | (go_simp; intro he; exfalso; omega)
        have F6 : frOf (w1_.alloc (.cells (recA x) 44)).drew (w1_.heap.size) = (0, 0) := by first | (go_simp; done) | (go_simp; intro he; exfalso; omega)
        clear a0r a0f a0n a0c a0z a1r a1f a1n a1c a1z
        refine wp_region_chain (by kernel_rfl) (some 30 :: some 31 :: some 32 :: some 33 :: some 34 :: some 35 :: some 36 :: some 37 :: some 38 :: some 39 :: some 40 :: some 41 :: some 42 :: some 43 :: some 44 :: some 45 :: some 46 :: some 47 :: some 48 :: some 49 :: some 50 :: some 51 :: some 52 :: some 53 :: some 54 :: some 55 :: some 56 :: some 57 :: some 58 :: some 59 :: some 60 :: some 61 :: some 62 :: []) (iv 0 :: .bool false :: .bool false :: .agg (recA x) :: iv 0 :: .bool false :: .bool false :: .bool false :: iv 0 :: .pointer (some ⟨w1_.heap.size, 5, none⟩) :: .pointer (some ⟨w1_.heap.size, 5, none⟩) :: .pointer (some ⟨w1_.heap.size, 5, none⟩) :: iv x.a.ver :: .pointer (some ⟨w.heap.size, 4, none⟩) :: iv floor :: .bool false :: .bool false :: .bool false :: iv 0 :: .pointer (some ⟨w.heap.size, 1, none⟩) :: iv 0 :: .bool true :: .pointer (some ⟨w.heap.size, 2, none⟩) :: .bool true :: .bool false :: .bool false :: iv (k : Int) :: .pointer (some ⟨w.heap.size, 3, none⟩) :: iv tries :: .bool true :: .bool true :: .bool false :: .bool false :: []) 117 rfl rfl (by decide +kernel) (by decide +kernel) (by decide +kernel) rfl ?_ ?_
        · refine ⟨.inl ⟨rfl, fun done a wq hw h => ?_⟩, ?_⟩
          · have e7 := ch_old (t := 7) (v := iv 0) h rfl rfl; exact ch_move (ch_ev e7)
          refine ⟨.inl ⟨rfl, fun done a wq hw h => ?_⟩, ?_⟩
          · have e30 := ch_new (i := 0) (t := 30) h (hw 0 (by decide)) rfl rfl; exact ch_neq_int (by kernel_rfl) (ch_ev e30) rfl (by simp)
          refine ⟨.inl ⟨rfl, fun done a wq hw h => ?_⟩, ?_⟩
          · have e31 := ch_new (i := 1) (t := 31) h (hw 1 (by decide)) rfl rfl; exact ch_move (ch_ev e31)
          refine ⟨.inl ⟨rfl, fun done a wq hw h => ?_⟩, ?_⟩
          · have e6 := ch_old (t := 6) (v := .pointer (some ⟨w1_.heap.size, 0, none⟩)) h rfl rfl; obtain ⟨r_, f_, n_, c_, z_, l_⟩ := keep1 h.bel R6 (by simp [recA]) F6; refine ch_pure ?_; go_simp
          refine ⟨.inl ⟨rfl, fun done a wq hw h => ?_⟩, ?_⟩
          · have e33 := ch_new (i := 3) (t := 33) h (hw 3 (by decide)) rfl rfl; exact ch_call (by go_simp) (by go_simp) (KY.out _)
          refine ⟨.inl ⟨rfl, fun done a wq hw h => ?_⟩, ?_⟩
          · have e34 := ch_new (i := 4) (t := 34) h (hw 4 (by decide)) rfl rfl; exact ch_neq_int (by kernel_rfl) (ch_ev e34) rfl (by simp)
          refine ⟨.inl ⟨rfl, fun done a wq hw h => ?_⟩, ?_⟩
          · have e32 := ch_new (i := 2) (t := 32) h (hw 2 (by decide)) rfl rfl; have e35 := ch_new (i := 5) (t := 35) h (hw 5 (by decide)) rfl rfl; exact ch_pick_f e32 (ch_ev e35)
          refine ⟨.inl ⟨rfl, fun done a wq hw h => ?_⟩, ?_⟩
          · have e36 := ch_new (i := 6) (t := 36) h (hw 6 (by decide)) rfl rfl; exact ch_move (ch_ev e36)
          refine ⟨.inl ⟨rfl, fun done a wq hw h => ?_⟩, ?_⟩
          · have e5 := ch_old (t := 5) (v := iv 0) h rfl rfl; exact ch_move (ch_ev e5)
          refine ⟨.inl ⟨rfl, fun done a wq hw h => ?_⟩, ?_⟩
          · have e6 := ch_old (t := 6) (v := .pointer (some ⟨w1_.heap.size, 0, none⟩)) h rfl rfl; refine ch_pure ?_; go_simp
          refine ⟨.inl ⟨rfl, fun done a wq hw h => ?_⟩, ?_⟩
          · have e39 := ch_new (i := 9) (t := 39) h (hw 9 (by decide)) rfl rfl; have e38 := ch_new (i := 8) (t := 38) h (hw 8 (by decide)) rfl rfl; refine ch_pure ?_; go_simp
          refine ⟨.inl ⟨rfl, fun done a wq hw h => ?_⟩, ?_⟩
          · have e40 := ch_new (i := 10) (t := 40) h (hw 10 (by decide)) rfl rfl; refine ch_pure ?_; go_simp
          refine ⟨.inl ⟨rfl, fun done a wq hw h => ?_⟩, ?_⟩
          · have e41 := ch_new (i := 11) (t := 41) h (hw 11 (by decide)) rfl rfl; obtain ⟨r_, f_, n_, c_, z_, l_⟩ := keep1 h.bel R6 (by simp [recA]) F6; refine ch_pure ?_; go_simp
          refine ⟨.inl ⟨rfl, fun done a wq hw h => ?_⟩, ?_⟩
          · have e1 := ch_old (t := 1) (v := .pointer (some ⟨w.heap.size, 0, none⟩)) h rfl rfl; refine ch_pure ?_; go_simp
          refine ⟨.inl ⟨rfl, fun done a wq hw h => ?_⟩, ?_⟩
          · have e43 := ch_new (i := 13) (t := 43) h (hw 13 (by decide)) rfl rfl; obtain ⟨r_, f_, n_, c_, z_, l_⟩ := keep1 h.bel R1 (by simp [recA]) F1; refine ch_pure ?_; go_simp
          refine ⟨.inl ⟨rfl, fun done a wq hw h => ?_⟩, ?_⟩
          · have e42 := ch_new (i := 12) (t := 42) h (hw 12 (by decide)) rfl rfl; have e44 := ch_new (i := 14) (t := 44) h (hw 14 (by decide)) rfl rfl; exact ch_lss_int (by kernel_rfl) (ch_ev e42) (ch_ev e44) (by simp; omega)
          refine ⟨.inl ⟨rfl, fun done a wq hw h => ?_⟩, ?_⟩
          · have e37 := ch_new (i := 7) (t := 37) h (hw 7 (by decide)) rfl rfl; have e45 := ch_new (i := 15) (t := 45) h (hw 15 (by decide)) rfl rfl; exact ch_pick_f e37 (ch_ev e45)
          refine ⟨.inl ⟨rfl, fun done a wq hw h => ?_⟩, ?_⟩
          · have e46 := ch_new (i := 16) (t := 46) h (hw 16 (by decide)) rfl rfl; exact ch_move (ch_ev e46)
          refine ⟨.inl ⟨rfl, fun done a wq hw h => ?_⟩, ?_⟩
          · have e5 := ch_old (t := 5) (v := iv 0) h rfl rfl; exact ch_move (ch_ev e5)
          refine ⟨.inl ⟨rfl, fun done a wq hw h => ?_⟩, ?_⟩
          · have e1 := ch_old (t := 1) (v := .pointer (some ⟨w.heap.size, 0, none⟩)) h rfl rfl; refine ch_pure ?_; go_simp
          refine ⟨.inl ⟨rfl, fun done a wq hw h => ?_⟩, ?_⟩
          · have e49 := ch_new (i := 19) (t := 49) h (hw 19 (by decide)) rfl rfl; obtain ⟨r_, f_, n_, c_, z_, l_⟩ := keep1 h.bel R1 (by simp [recA]) F1; refine ch_pure ?_; go_simp
          refine ⟨.inl ⟨rfl, fun done a wq hw h => ?_⟩, ?_⟩
          · have e48 := ch_new (i := 18) (t := 48) h (hw 18 (by decide)) rfl rfl; have e50 := ch_new (i := 20) (t := 50) h (hw 20 (by decide)) rfl rfl; exact ch_eql_int (by kernel_rfl) (ch_ev e48) (ch_ev e50) (by simp)
          refine ⟨.inl ⟨rfl, fun done a wq hw h => ?_⟩, ?_⟩
          · have e1 := ch_old (t := 1) (v := .pointer (some ⟨w.heap.size, 0, none⟩)) h rfl rfl; refine ch_pure ?_; go_simp
          refine ⟨.inl ⟨rfl, fun done a wq hw h => ?_⟩, ?_⟩
          · have e52 := ch_new (i := 22) (t := 52) h (hw 22 (by decide)) rfl rfl; obtain ⟨r_, f_, n_, c_, z_, l_⟩ := keep1 h.bel R1 (by simp [recA]) F1; refine ch_pure ?_; go_simp
          refine ⟨.inl ⟨rfl, fun done a wq hw h => ?_⟩, ?_⟩
          · have e53 := ch_new (i := 23) (t := 53) h (hw 23 (by decide)) rfl rfl; refine ch_pure ?_; go_simp
          refine ⟨.inl ⟨rfl, fun done a wq hw h => ?_⟩, ?_⟩
          · have e54 := ch_new (i := 24) (t := 54) h (hw 24 (by decide)) rfl rfl; exact ch_move (ch_ev e54)
          refine ⟨.inl ⟨rfl, fun done a wq hw h => ?_⟩, ?_⟩
          · have e4 := ch_old (t := 4) (v := iv (k : Int)) h rfl rfl; exact ch_move (ch_ev e4)
          refine ⟨.inl ⟨rfl, fun done a wq hw h => ?_⟩, ?_⟩
          · have e1 := ch_old (t := 1) (v := .pointer (some ⟨w.heap.size, 0, none⟩)) h rfl rfl; refine ch_pure ?_; go_simp
          refine ⟨.inl ⟨rfl, fun done a wq hw h => ?_⟩, ?_⟩
          · have e57 := ch_new (i := 27) (t := 57) h (hw 27 (by decide)) rfl rfl; obtain ⟨r_, f_, n_, c_, z_, l_⟩ := keep1 h.bel R1 (by simp [recA]) F1; refine ch_pure ?_; go_simp
          refine ⟨.inl ⟨rfl, fun done a wq hw h => ?_⟩, ?_⟩
          · have e56 := ch_new (i := 26) (t := 56) h (hw 26 (by decide)) rfl rfl; have e58 := ch_new (i := 28) (t := 58) h (hw 28 (by decide)) rfl rfl; exact ch_geq_int (by kernel_rfl) (ch_ev e56) (ch_ev e58) (by simp; omega)
          refine ⟨.inl ⟨rfl, fun done a wq hw h => ?_⟩, ?_⟩
          · have e55 := ch_new (i := 25) (t := 55) h (hw 25 (by decide)) rfl rfl; have e59 := ch_new (i := 29) (t := 59) h (hw 29 (by decide)) rfl rfl; exact ch_pick_f e55 (ch_ev e59)
          refine ⟨.inl ⟨rfl, fun done a wq hw h => ?_⟩, ?_⟩
          · have e51 := ch_new (i := 21) (t := 51) h (hw 21 (by decide)) rfl rfl; have e60 := ch_new (i := 30) (t := 60) h (hw 30 (by decide)) rfl rfl; refine ch_pure ?_; go_simp
          refine ⟨.inl ⟨rfl, fun done a wq hw h => ?_⟩, ?_⟩
          · have e47 := ch_new (i := 17) (t := 47) h (hw 17 (by decide)) rfl rfl; have e61 := ch_new (i := 31) (t := 61) h (hw 31 (by decide)) rfl rfl; exact ch_pick_f e47 (ch_ev e61)
          exact trivial
        · intro w2_ hb
          obtain ⟨r0_, f0_, n0_, c0_, z0_, l0_⟩ := keep1 (g := w.heap.size) hb (by first | exact R1 | (go_simp; done) | (go_simp; intro he; exfalso; omega)) (by simp [recA]) F1
          obtain ⟨r1_, f1_, n1_, c1_, z1_, l1_⟩ := keep1 (g := w2.heap.size) hb (by first | exact R3 | (go_simp; done) | (go_simp; intro he; exfalso; omega)) (by simp [recA]) F3
          obtain ⟨r2_, f2_, n2_, c2_, z2_, l2_⟩ := keep1 (g := w1_.heap.size) (cs := recA x) hb (by go_simp) (by simp [recA]) (by go_simp)
          have HB3 : Hid (Below w.heap.size w w2_) := Lib.hid ((HB1.out.alloc HB1.out.size _).trans (hb.mono (by have := HB1.out.size; simp; omega)))
          clear hb R1 R3 R6 F1 F3 F6
          simp only [putAll_some, putAll_none, putAll_nil, List.setIfInBounds_toArray, List.set_cons_zero, List.set_cons_succ]
          go_wp2_with fail
          go_roundw
          case rel =>
            have hne : w.heap.size ≠ w2.heap.size := by omega
            refine ⟨k + 1, by omega, by go_num, below_row HB3.out (by omega) _, by first | (go_simp; done) | (go_simp; omega), by go_simp, ?_, by go_simp, hl0, hl1⟩
            go_simp
            rw [HX.out]
          case measure => simp [intOf]; omega
    · obtain rfl : k = 5 := by omega
      go_wp2_with fail
      refine (Kd.out _).mono ?_
      rintro e w1_ ⟨rfl, hb⟩
      obtain ⟨a0r, a0f, a0n, a0c, a0z, a0l⟩ := keep1 (g := w.heap.size) (cs := recA ⟨gen, 0, true, tries, floor, a, b⟩) hb (by first | (go_simp; done) | (go_simp; rfl)) (by go_simp) (by go_simp)
      have HB1 : Hid (Below w.heap.size w w1_) := Lib.hid (HBr.out.trans (hb.mono hsw))
      clear hb
      go_wp2_with fail
      refine (Ke.out _).mono ?_
      rintro e w2_ ⟨rfl, hb⟩
      obtain ⟨a0r, a0f, a0n, a0c, a0z, a0l⟩ := keep1 (g := w.heap.size) (cs := recA ⟨gen, 0, true, tries, floor, a, b⟩) hb (by first | (go_simp; done) | (go_simp; rfl)) (by go_simp) (by go_simp)
      obtain ⟨a1r, a1f, a1n, a1c, a1z, a1l⟩ := keep1 (g := w1_.heap.size) (cs := recA c) hb (by first | (go_simp; done) | (go_simp; rfl)) (by go_simp) (by go_simp)
      have HB2 : Hid (Below w.heap.size w w2_) := by
        have hs := HB1.out.size
        refine Lib.hid (Below.trans ?_ (hb.mono (by first | omega | (simp <;> omega))))
        repeat (first | exact HB1.out | refine below_row ?_ (by omega) _ | refine Below.setCell ?_ (by first | omega | (simp <;> omega)) _ | refine Below.alloc ?_ (by first | omega | (simp <;> omega)) _ | refine Below.drew ?_)
      clear hb
      go_wp2_with fail
      have R1 : rowOf (w2_.alloc (.cells (recA c) 44)).drew (w.heap.size) = recA ⟨gen, 0, true, tries, floor, a, b⟩ := by first | (go_simp; done) | (go_simp; intro he; exfalso; omega)
      have F1 : frOf (w2_.alloc (.cells (recA c) 44)).drew (w.heap.size) = (0, 0) := by first | (go_simp; done) | (go_simp; intro he; exfalso; omega)
      have R8 : rowOf (w2_.alloc (.cells (recA c) 44)).drew (w1_.heap.size) = recA c := by first | (go_simp; done) | (go_simp; intro he; exfalso; omega)
      have F8 : frOf (w2_.alloc (.cells (recA c) 44)).drew (w1_.heap.size) = (0, 0) := by first | (go_simp; done) | (go_simp; intro he; exfalso; omega)
      have R11 : rowOf (w2_.alloc (.cells (recA c) 44)).drew (w2_.heap.size) = recA c := by first | (go_simp; done) | (go_simp; intro he; exfalso; omega)
      have F11 : frOf (w2_.alloc (.cells (recA c) 44)).drew (w2_.heap.size) = (0, 0) := by first | (go_simp; done) | (go_simp; intro he; exfalso; omega)
      clear a0r a0f a0n a0c a0z a1r a1f a1n a1c a1z
      refine wp_region_chain (by kernel_rfl) (some 81 :: some 82 :: some 83 :: some 84 :: some 85 :: some 86 :: some 87 :: some 88 :: some 89 :: some 90 :: some 91 :: some 92 :: some 93 :: some 94 :: some 95 :: some 96 :: some 97 :: some 98 :: some 99 :: some 100 :: some 101 :: some 102 :: some 103 :: some 104 :: some 105 :: some 106 :: some 107 :: some 108 :: some 109 :: some 110 :: some 111 :: some 112 :: some 113 :: some 114 :: some 115 :: some 116 :: some 2 :: []) (iv 0 :: .bool true :: .bool true :: .agg (recA c) :: .agg (recA c) :: .bool true :: .bool true :: .bool true :: iv 1 :: .pointer (some ⟨w.heap.size, 1, none⟩) :: iv 0 :: iv 1 :: .bool true :: .bool true :: .bool true :: .pointer (some ⟨w1_.heap.size, 4, none⟩) :: iv c.floor :: .pointer (some ⟨w.heap.size, 4, none⟩) :: iv floor :: .bool true :: .bool true :: .bool true :: iv 1 :: .pointer (some ⟨w1_.heap.size, 5, none⟩) :: .pointer (some ⟨w1_.heap.size, 8, none⟩) :: .pointer (some ⟨w1_.heap.size, 8, none⟩) :: iv c.b.ver :: .pointer (some ⟨w1_.heap.size, 4, none⟩) :: iv c.floor :: .bool true :: .bool true :: .bool true :: .agg (recA c) :: iv 0 :: .bool true :: .bool true :: .bool true :: []) 117 rfl rfl (by decide +kernel) (by decide +kernel) (by decide +kernel) rfl ?_ ?_
      · refine ⟨.inl ⟨rfl, fun done a wq hw h => ?_⟩, ?_⟩
        · have e9 := ch_old (t := 9) (v := iv 0) h rfl rfl; exact ch_move (ch_ev e9)
        refine ⟨.inl ⟨rfl, fun done a wq hw h => ?_⟩, ?_⟩
        · have e81 := ch_new (i := 0) (t := 81) h (hw 0 (by decide)) rfl rfl; exact ch_eql_int (by kernel_rfl) (ch_ev e81) rfl (by simp)
        refine ⟨.inl ⟨rfl, fun done a wq hw h => ?_⟩, ?_⟩
        · have e82 := ch_new (i := 1) (t := 82) h (hw 1 (by decide)) rfl rfl; exact ch_move (ch_ev e82)
        refine ⟨.inl ⟨rfl, fun done a wq hw h => ?_⟩, ?_⟩
        · have e11 := ch_old (t := 11) (v := .pointer (some ⟨w2_.heap.size, 0, none⟩)) h rfl rfl; obtain ⟨r_, f_, n_, c_, z_, l_⟩ := keep1 h.bel R11 (by simp [recA]) F11; refine ch_pure ?_; go_simp
        refine ⟨.inl ⟨rfl, fun done a wq hw h => ?_⟩, ?_⟩
        · have e8 := ch_old (t := 8) (v := .pointer (some ⟨w1_.heap.size, 0, none⟩)) h rfl rfl; obtain ⟨r_, f_, n_, c_, z_, l_⟩ := keep1 h.bel R8 (by simp [recA]) F8; refine ch_pure ?_; go_simp
        refine ⟨.inl ⟨rfl, fun done a wq hw h => ?_⟩, ?_⟩
        · have e84 := ch_new (i := 3) (t := 84) h (hw 3 (by decide)) rfl rfl; have e85 := ch_new (i := 4) (t := 85) h (hw 4 (by decide)) rfl rfl; refine ch_pure ?_; go_simp
        refine ⟨.inl ⟨rfl, fun done a wq hw h => ?_⟩, ?_⟩
        · have e83 := ch_new (i := 2) (t := 83) h (hw 2 (by decide)) rfl rfl; have e86 := ch_new (i := 5) (t := 86) h (hw 5 (by decide)) rfl rfl; exact ch_pick_t e83 (ch_ev e86)
        refine ⟨.inl ⟨rfl, fun done a wq hw h => ?_⟩, ?_⟩
        · have e87 := ch_new (i := 6) (t := 87) h (hw 6 (by decide)) rfl rfl; exact ch_move (ch_ev e87)
        refine ⟨.inl ⟨rfl, fun done a wq hw h => ?_⟩, ?_⟩
        · have e10 := ch_old (t := 10) (v := iv 1) h rfl rfl; exact ch_move (ch_ev e10)
        refine ⟨.inl ⟨rfl, fun done a wq hw h => ?_⟩, ?_⟩
        · have e1 := ch_old (t := 1) (v := .pointer (some ⟨w.heap.size, 0, none⟩)) h rfl rfl; refine ch_pure ?_; go_simp
        refine ⟨.inl ⟨rfl, fun done a wq hw h => ?_⟩, ?_⟩
        · have e90 := ch_new (i := 9) (t := 90) h (hw 9 (by decide)) rfl rfl; obtain ⟨r_, f_, n_, c_, z_, l_⟩ := keep1 h.bel R1 (by simp [recA]) F1; refine ch_pure ?_; go_simp
        refine ⟨.inl ⟨rfl, fun done a wq hw h => ?_⟩, ?_⟩
        · have e91 := ch_new (i := 10) (t := 91) h (hw 10 (by decide)) rfl rfl; refine ch_pure ?_; first | (go_simp; done) | (go_simp; rfl)
        refine ⟨.inl ⟨rfl, fun done a wq hw h => ?_⟩, ?_⟩
        · have e89 := ch_new (i := 8) (t := 89) h (hw 8 (by decide)) rfl rfl; have e92 := ch_new (i := 11) (t := 92) h (hw 11 (by decide)) rfl rfl; exact ch_eql_int (by kernel_rfl) (ch_ev e89) (ch_ev e92) (by simp)
        refine ⟨.inl ⟨rfl, fun done a wq hw h => ?_⟩, ?_⟩
        · have e88 := ch_new (i := 7) (t := 88) h (hw 7 (by decide)) rfl rfl; have e93 := ch_new (i := 12) (t := 93) h (hw 12 (by decide)) rfl rfl; exact ch_pick_t e88 (ch_ev e93)
        refine ⟨.inl ⟨rfl, fun done a wq hw h => ?_⟩, ?_⟩
        · have e94 := ch_new (i := 13) (t := 94) h (hw 13 (by decide)) rfl rfl; exact ch_move (ch_ev e94)
        refine ⟨.inl ⟨rfl, fun done a wq hw h => ?_⟩, ?_⟩
        · have e8 := ch_old (t := 8) (v := .pointer (some ⟨w1_.heap.size, 0, none⟩)) h rfl rfl; refine ch_pure ?_; go_simp
        refine ⟨.inl ⟨rfl, fun done a wq hw h => ?_⟩, ?_⟩
        · have e96 := ch_new (i := 15) (t := 96) h (hw 15 (by decide)) rfl rfl; obtain ⟨r_, f_, n_, c_, z_, l_⟩ := keep1 h.bel R8 (by simp [recA]) F8; refine ch_pure ?_; go_simp
        refine ⟨.inl ⟨rfl, fun done a wq hw h => ?_⟩, ?_⟩
        · have e1 := ch_old (t := 1) (v := .pointer (some ⟨w.heap.size, 0, none⟩)) h rfl rfl; refine ch_pure ?_; go_simp
        refine ⟨.inl ⟨rfl, fun done a wq hw h => ?_⟩, ?_⟩
        · have e98 := ch_new (i := 17) (t := 98) h (hw 17 (by decide)) rfl rfl; obtain ⟨r_, f_, n_, c_, z_, l_⟩ := keep1 h.bel R1 (by simp [recA]) F1; refine ch_pure ?_; go_simp
        refine ⟨.inl ⟨rfl, fun done a wq hw h => ?_⟩, ?_⟩
        · have e97 := ch_new (i := 16) (t := 97) h (hw 16 (by decide)) rfl rfl; have e99 := ch_new (i := 18) (t := 99) h (hw 18 (by decide)) rfl rfl; exact ch_geq_int (by kernel_rfl) (ch_ev e97) (ch_ev e99) (by simp; omega)
        refine ⟨.inl ⟨rfl, fun done a wq hw h => ?_⟩, ?_⟩
        · have e95 := ch_new (i := 14) (t := 95) h (hw 14 (by decide)) rfl rfl; have e100 := ch_new (i := 19) (t := 100) h (hw 19 (by decide)) rfl rfl; exact ch_pick_t e95 (ch_ev e100)
        refine ⟨.inl ⟨rfl, fun done a wq hw h => ?_⟩, ?_⟩
        · have e101 := ch_new (i := 20) (t := 101) h (hw 20 (by decide)) rfl rfl; exact ch_move (ch_ev e101)
        refine ⟨.inl ⟨rfl, fun done a wq hw h => ?_⟩, ?_⟩
        · have e10 := ch_old (t := 10) (v := iv 1) h rfl rfl; exact ch_move (ch_ev e10)
        refine ⟨.inl ⟨rfl, fun done a wq hw h => ?_⟩, ?_⟩
        · have e8 := ch_old (t := 8) (v := .pointer (some ⟨w1_.heap.size, 0, none⟩)) h rfl rfl; refine ch_pure ?_; go_simp
        refine ⟨.inl ⟨rfl, fun done a wq hw h => ?_⟩, ?_⟩
        · have e104 := ch_new (i := 23) (t := 104) h (hw 23 (by decide)) rfl rfl; have e103 := ch_new (i := 22) (t := 103) h (hw 22 (by decide)) rfl rfl; refine ch_pure ?_; go_simp
        refine ⟨.inl ⟨rfl, fun done a wq hw h => ?_⟩, ?_⟩
        · have e105 := ch_new (i := 24) (t := 105) h (hw 24 (by decide)) rfl rfl; refine ch_pure ?_; go_simp
        refine ⟨.inl ⟨rfl, fun done a wq hw h => ?_⟩, ?_⟩
        · have e106 := ch_new (i := 25) (t := 106) h (hw 25 (by decide)) rfl rfl; obtain ⟨r_, f_, n_, c_, z_, l_⟩ := keep1 h.bel R8 (by simp [recA]) F8; refine ch_pure ?_; go_simp
        refine ⟨.inl ⟨rfl, fun done a wq hw h => ?_⟩, ?_⟩
        · have e8 := ch_old (t := 8) (v := .pointer (some ⟨w1_.heap.size, 0, none⟩)) h rfl rfl; refine ch_pure ?_; go_simp
        refine ⟨.inl ⟨rfl, fun done a wq hw h => ?_⟩, ?_⟩
        · have e108 := ch_new (i := 27) (t := 108) h (hw 27 (by decide)) rfl rfl; obtain ⟨r_, f_, n_, c_, z_, l_⟩ := keep1 h.bel R8 (by simp [recA]) F8; refine ch_pure ?_; go_simp
        refine ⟨.inl ⟨rfl, fun done a wq hw h => ?_⟩, ?_⟩
        · have e107 := ch_new (i := 26) (t := 107) h (hw 26 (by decide)) rfl rfl; have e109 := ch_new (i := 28) (t := 109) h (hw 28 (by decide)) rfl rfl; exact ch_leq_int (by kernel_rfl) (ch_ev e107) (ch_ev e109) (by simp; omega)
        refine ⟨.inl ⟨rfl, fun done a wq hw h => ?_⟩, ?_⟩
        · have e102 := ch_new (i := 21) (t := 102) h (hw 21 (by decide)) rfl rfl; have e110 := ch_new (i := 29) (t := 110) h (hw 29 (by decide)) rfl rfl; exact ch_pick_t e102 (ch_ev e110)
        refine ⟨.inl ⟨rfl, fun done a wq hw h => ?_⟩, ?_⟩
        · have e111 := ch_new (i := 30) (t := 111) h (hw 30 (by decide)) rfl rfl; exact ch_move (ch_ev e111)
        refine ⟨.inl ⟨rfl, fun done a wq hw h => ?_⟩, ?_⟩
        · have e8 := ch_old (t := 8) (v := .pointer (some ⟨w1_.heap.size, 0, none⟩)) h rfl rfl; obtain ⟨r_, f_, n_, c_, z_, l_⟩ := keep1 h.bel R8 (by simp [recA]) F8; refine ch_pure ?_; go_simp
        refine ⟨.inl ⟨rfl, fun done a wq hw h => ?_⟩, ?_⟩
        · have e113 := ch_new (i := 32) (t := 113) h (hw 32 (by decide)) rfl rfl; exact ch_call (by go_simp) (by go_simp) (Kf.out _)
        refine ⟨.inl ⟨rfl, fun done a wq hw h => ?_⟩, ?_⟩
        · have e114 := ch_new (i := 33) (t := 114) h (hw 33 (by decide)) rfl rfl; exact ch_eql_int (by kernel_rfl) (ch_ev e114) rfl (by simp)
        refine ⟨.inl ⟨rfl, fun done a wq hw h => ?_⟩, ?_⟩
        · have e112 := ch_new (i := 31) (t := 112) h (hw 31 (by decide)) rfl rfl; have e115 := ch_new (i := 34) (t := 115) h (hw 34 (by decide)) rfl rfl; exact ch_pick_t e112 (ch_ev e115)
        refine ⟨.inl ⟨rfl, fun done a wq hw h => ?_⟩, ?_⟩
        · have e116 := ch_new (i := 35) (t := 116) h (hw 35 (by decide)) rfl rfl; exact ch_assign (ch_ev e116)
        exact trivial
      · intro w3_ hb
        go_wp2_with fail
        have hs2 := HB2.out.size
        refine bodyPost_ret (results_tmp rfl _ _ _) rfl ⟨by kernel_rfl, Below.trans ?_ (hb.mono (by simp; omega))⟩
        exact HB2.out.alloc hs2 _

set_option maxRecDepth 100000 in
set_option maxHeartbeats 8000000 in
theorem starts_1false (gen tries floor : Int) (a b : Inf) (h : recCheck ⟨gen, 1, false, tries, floor, a, b⟩ = 0) (w : World) (K0 : Hid (∀ w, Calls Try.prog 32 #[] w (RetB w (.bool true)))) : Calls Try.prog 9 #[.agg (recA ⟨gen, 1, false, tries, floor, a, b⟩)] w (RetB w (.bool true)) := by
  have hst := fun k => slot_floor h (k : Int)
  have hat := fun (k : Int) s => nowAt_at (⟨gen, 1, false, tries, floor, a, b⟩ : Rec) k s
  have Kc : Hid (∀ w, Calls Try.prog 33 #[.agg (recA ⟨gen, 1, false, tries, floor, a, b⟩)] w (RetB w (iv 0))) := fun w => by
    have := recCheckA_calls ⟨gen, 1, false, tries, floor, a, b⟩ w
    rw [h] at this; exact this
  have Kx : Hid (∀ (k : Nat) w, Calls Try.prog 33 #[.agg (recA (nowAt ⟨gen, 1, false, tries, floor, a, b⟩ (k + 1)))] w (RetB w (iv 0))) := fun k w => by
    have := recCheckA_calls (nowAt ⟨gen, 1, false, tries, floor, a, b⟩ ((k : Int) + 1)) w
    rw [nowAt_ok h (by omega)] at this; exact this
  have Ks := Lib.hid (start_c h)
  have HST := Lib.hid hst
  have HAT := Lib.hid hat
  have HN0 := Lib.hid (nowAt_0 h)
  have Kd : Hid (∀ w, Calls Try.prog 29 #[.agg (recA ⟨gen, 1, false, tries, floor, a, b⟩)] w (RetB w (.tuple #[.agg (recA Rec.zero), iv 5]))) := fun w => by
    have := confirm_calls ⟨gen, 1, false, tries, floor, a, b⟩ w
    rw [show recConfirm ⟨gen, 1, false, tries, floor, a, b⟩ = (Rec.zero, 5) by unfold recConfirm; rw [if_pos h, if_neg (by simp)]] at this
    exact this
  clear hst hat h
  go_enter Try.func9, Try.ntmps9
  go_wp2_with fail
  refine (K0.out _).mono ?_
  rintro e w1 ⟨rfl, hb⟩
  obtain ⟨a0r, a0f, a0n, a0c, a0z, a0l⟩ := keep1 (g := w.heap.size) (cs := recA ⟨gen, 1, false, tries, floor, a, b⟩) hb (by first | (go_simp; done) | (go_simp; rfl)) (by go_simp) (by go_simp)
  have HB1 : Hid (Below w.heap.size w w1) := by
    refine Lib.hid (Below.trans ?_ (hb.mono (by first | omega | (simp <;> omega))))
    repeat (first | exact Below.refl _ _ | refine below_row ?_ (by omega) _ | refine Below.setCell ?_ (by first | omega | (simp <;> omega)) _ | refine Below.alloc ?_ (by first | omega | (simp <;> omega)) _ | refine Below.drew ?_)
  clear hb
  go_wp2_with fail
  refine (Kc.out _).mono ?_
  rintro e w2 ⟨rfl, hb⟩
  obtain ⟨a0r, a0f, a0n, a0c, a0z, a0l⟩ := keep1 (g := w.heap.size) (cs := recA ⟨gen, 1, false, tries, floor, a, b⟩) hb (by first | (go_simp; done) | (go_simp; rfl)) (by go_simp) (by go_simp)
  have HB2 : Hid (Below w.heap.size w w2) := by
    have hs := HB1.out.size
    refine Lib.hid (Below.trans ?_ (hb.mono (by first | omega | (simp <;> omega))))
    repeat (first | exact HB1.out | refine below_row ?_ (by omega) _ | refine Below.setCell ?_ (by first | omega | (simp <;> omega)) _ | refine Below.alloc ?_ (by first | omega | (simp <;> omega)) _ | refine Below.drew ?_)
  clear hb
  go_wp2_with fail
  have hs := HB2.out.size
  go_loopw [21] (fun i wr => ∃ k : Nat, k ≤ 5 ∧ i = .int .i64 k ∧ StSt w w.heap.size w2.heap.size ⟨gen, 1, false, tries, floor, a, b⟩ k wr) (fun i _ => 5 - (intOf i).toNat)
  case atStart =>
    refine ⟨0, by omega, rfl, HB2.out.alloc hs _, by go_simp, by go_simp, ?_, by go_simp, Nat.le_refl _, by omega⟩
    rw [show nowAt ⟨gen, 1, false, tries, floor, a, b⟩ ((0 : Nat) : Int) = ⟨gen, 1, false, tries, floor, a, b⟩ by rfl]
    go_simp
  case round =>
    obtain ⟨k, hk, rfl, hB, hr0, hf0, hr1, hf1, hl0, hl1⟩ := hrel
    clear a0r a0f a0n a0c a0z a0l
    have hsw := hB.size
    have HBr := Lib.hid hB
    have hlw : w2.heap.size < wr.heap.size := row_lt (w := wr) (by rw [hr1]; simp [recA])
    clear hB
    by_cases hlt : k < 5
    · have hsl : slotAt ⟨gen, 1, false, tries, floor, a, b⟩ k = 1 := by unfold slotAt; rw [if_neg (by simp)]
      have Kr : Hid (∀ w, Calls Try.prog 28 #[.agg (recA (nowAt ⟨gen, 1, false, tries, floor, a, b⟩ k))] w (RetB w (.tuple #[iv 1, .agg (recA (nowAt ⟨gen, 1, false, tries, floor, a, b⟩ (k + 1))), iv 0]))) := fun w => by
        have := Ks.out k w
        rw [hsl] at this; exact this
      have hv : floor ≤ (nowAt ⟨gen, 1, false, tries, floor, a, b⟩ ((k : Int) + 1)).b.ver := by
        have e1 := (HST.out k).2
        rw [hsl] at e1
        have e2 := (HAT.out ((k : Int) + 1) 1).1
        rw [← e2] at e1
        exact e1
      have Ky := Kx.out k
      have KY := Lib.hid Ky
      clear hsl Ky
      generalize hx : nowAt ⟨gen, 1, false, tries, floor, a, b⟩ ((k : Int) + 1) = x at *
      have HX := Lib.hid hx
      clear hx
      go_wp2_with fail
      refine (Kr.out _).mono ?_
      rintro e w1_ ⟨rfl, hb⟩
      obtain ⟨a0r, a0f, a0n, a0c, a0z, a0l⟩ := keep1 (g := w.heap.size) (cs := recA ⟨gen, 1, false, tries, floor, a, b⟩) hb (by first | (go_simp; done) | (go_simp; rfl)) (by go_simp) (by go_simp)
      obtain ⟨a1r, a1f, a1n, a1c, a1z, a1l⟩ := keep1 (g := w2.heap.size) (cs := recA (nowAt ⟨gen, 1, false, tries, floor, a, b⟩ k)) hb (by first | (go_simp; done) | (go_simp; rfl)) (by go_simp) (by go_simp)
      have HB1 : Hid (Below w.heap.size w w1_) := Lib.hid (HBr.out.trans (hb.mono hsw))
      clear hb
      go_wp2_with fail
      have R1 : rowOf (w1_.alloc (.cells (recA x) 44)).drew (w.heap.size) = recA ⟨gen, 1, false, tries, floor, a, b⟩ := by first | (go_simp; done) | (go_simp; intro he; exfalso; omega)
      have F1 : frOf (w1_.alloc (.cells (recA x) 44)).drew (w.heap.size) = (0, 0) := by first | (go_simp; done) | (go_simp; intro he; exfalso; omega)
      have R3 : rowOf (w1_.alloc (.cells (recA x) 44)).drew (w2.heap.size) = recA (nowAt ⟨gen, 1, false, tries, floor, a, b⟩ k) := by first | (go_simp; done) | (go_simp; intro he; exfalso; omega)
      have F3 : frOf (w1_.alloc (.cells (recA x) 44)).drew (w2.heap.size) = (0, 0) := by first | (go_simp; done) | (go_simp; intro he; exfalso; omega)
      have R6 : rowOf (w1_.alloc (.cells (recA x) 44)).drew (w1_.heap.size) = recA x := by first | (go_simp; done) | (go_simp; intro he; exfalso; omega)
      have F6 : frOf (w1_.alloc (.cells (recA x) 44)).drew (w1_.heap.size) = (0, 0) := by first | (go_simp; done) | (go_simp; intro he; exfalso; omega)
      clear a0r a0f a0n a0c a0z a1r a1f a1n a1c a1z
      refine wp_region_chain (by kernel_rfl) (some 30 :: some 31 :: some 32 :: some 33 :: some 34 :: some 35 :: some 36 :: some 37 :: some 38 :: some 39 :: some 40 :: some 41 :: some 42 :: some 43 :: some 44 :: some 45 :: some 46 :: some 47 :: some 48 :: some 49 :: some 50 :: some 51 :: some 52 :: some 53 :: some 54 :: some 55 :: some 56 :: some 57 :: some 58 :: some 59 :: some 60 :: some 61 :: some 62 :: []) (iv 0 :: .bool false :: .bool false :: .agg (recA x) :: iv 0 :: .bool false :: .bool false :: .bool false :: iv 1 :: .pointer (some ⟨w1_.heap.size, 5, none⟩) :: .pointer (some ⟨w1_.heap.size, 8, none⟩) :: .pointer (some ⟨w1_.heap.size, 8, none⟩) :: iv x.b.ver :: .pointer (some ⟨w.heap.size, 4, none⟩) :: iv floor :: .bool false :: .bool false :: .bool false :: iv 1 :: .pointer (some ⟨w.heap.size, 1, none⟩) :: iv 1 :: .bool true :: .pointer (some ⟨w.heap.size, 2, none⟩) :: .bool false :: .bool true :: .bool true :: undef :: undef :: undef :: undef :: .bool true :: .bool false :: .bool false :: []) 117 rfl rfl (by decide +kernel) (by decide +kernel) (by decide +kernel) rfl ?_ ?_
      · refine ⟨.inl ⟨rfl, fun done a wq hw h => ?_⟩, ?_⟩
        · have e7 := ch_old (t := 7) (v := iv 0) h rfl rfl; exact ch_move (ch_ev e7)
        refine ⟨.inl ⟨rfl, fun done a wq hw h => ?_⟩, ?_⟩
        · have e30 := ch_new (i := 0) (t := 30) h (hw 0 (by decide)) rfl rfl; exact ch_neq_int (by kernel_rfl) (ch_ev e30) rfl (by simp)
        refine ⟨.inl ⟨rfl, fun done a wq hw h => ?_⟩, ?_⟩
        · have e31 := ch_new (i := 1) (t := 31) h (hw 1 (by decide)) rfl rfl; exact ch_move (ch_ev e31)
        refine ⟨.inl ⟨rfl, fun done a wq hw h => ?_⟩, ?_⟩
        · have e6 := ch_old (t := 6) (v := .pointer (some ⟨w1_.heap.size, 0, none⟩)) h rfl rfl; obtain ⟨r_, f_, n_, c_, z_, l_⟩ := keep1 h.bel R6 (by simp [recA]) F6; refine ch_pure ?_; go_simp
        refine ⟨.inl ⟨rfl, fun done a wq hw h => ?_⟩, ?_⟩
        · have e33 := ch_new (i := 3) (t := 33) h (hw 3 (by decide)) rfl rfl; exact ch_call (by go_simp) (by go_simp) (KY.out _)
        refine ⟨.inl ⟨rfl, fun done a wq hw h => ?_⟩, ?_⟩
        · have e34 := ch_new (i := 4) (t := 34) h (hw 4 (by decide)) rfl rfl; exact ch_neq_int (by kernel_rfl) (ch_ev e34) rfl (by simp)
        refine ⟨.inl ⟨rfl, fun done a wq hw h => ?_⟩, ?_⟩
        · have e32 := ch_new (i := 2) (t := 32) h (hw 2 (by decide)) rfl rfl; have e35 := ch_new (i := 5) (t := 35) h (hw 5 (by decide)) rfl rfl; exact ch_pick_f e32 (ch_ev e35)
        refine ⟨.inl ⟨rfl, fun done a wq hw h => ?_⟩, ?_⟩
        · have e36 := ch_new (i := 6) (t := 36) h (hw 6 (by decide)) rfl rfl; exact ch_move (ch_ev e36)
        refine ⟨.inl ⟨rfl, fun done a wq hw h => ?_⟩, ?_⟩
        · have e5 := ch_old (t := 5) (v := iv 1) h rfl rfl; exact ch_move (ch_ev e5)
        refine ⟨.inl ⟨rfl, fun done a wq hw h => ?_⟩, ?_⟩
        · have e6 := ch_old (t := 6) (v := .pointer (some ⟨w1_.heap.size, 0, none⟩)) h rfl rfl; refine ch_pure ?_; go_simp
        refine ⟨.inl ⟨rfl, fun done a wq hw h => ?_⟩, ?_⟩
        · have e39 := ch_new (i := 9) (t := 39) h (hw 9 (by decide)) rfl rfl; have e38 := ch_new (i := 8) (t := 38) h (hw 8 (by decide)) rfl rfl; refine ch_pure ?_; go_simp
        refine ⟨.inl ⟨rfl, fun done a wq hw h => ?_⟩, ?_⟩
        · have e40 := ch_new (i := 10) (t := 40) h (hw 10 (by decide)) rfl rfl; refine ch_pure ?_; go_simp
        refine ⟨.inl ⟨rfl, fun done a wq hw h => ?_⟩, ?_⟩
        · have e41 := ch_new (i := 11) (t := 41) h (hw 11 (by decide)) rfl rfl; obtain ⟨r_, f_, n_, c_, z_, l_⟩ := keep1 h.bel R6 (by simp [recA]) F6; refine ch_pure ?_; go_simp
        refine ⟨.inl ⟨rfl, fun done a wq hw h => ?_⟩, ?_⟩
        · have e1 := ch_old (t := 1) (v := .pointer (some ⟨w.heap.size, 0, none⟩)) h rfl rfl; refine ch_pure ?_; go_simp
        refine ⟨.inl ⟨rfl, fun done a wq hw h => ?_⟩, ?_⟩
        · have e43 := ch_new (i := 13) (t := 43) h (hw 13 (by decide)) rfl rfl; obtain ⟨r_, f_, n_, c_, z_, l_⟩ := keep1 h.bel R1 (by simp [recA]) F1; refine ch_pure ?_; go_simp
        refine ⟨.inl ⟨rfl, fun done a wq hw h => ?_⟩, ?_⟩
        · have e42 := ch_new (i := 12) (t := 42) h (hw 12 (by decide)) rfl rfl; have e44 := ch_new (i := 14) (t := 44) h (hw 14 (by decide)) rfl rfl; exact ch_lss_int (by kernel_rfl) (ch_ev e42) (ch_ev e44) (by simp; omega)
        refine ⟨.inl ⟨rfl, fun done a wq hw h => ?_⟩, ?_⟩
        · have e37 := ch_new (i := 7) (t := 37) h (hw 7 (by decide)) rfl rfl; have e45 := ch_new (i := 15) (t := 45) h (hw 15 (by decide)) rfl rfl; exact ch_pick_f e37 (ch_ev e45)
        refine ⟨.inl ⟨rfl, fun done a wq hw h => ?_⟩, ?_⟩
        · have e46 := ch_new (i := 16) (t := 46) h (hw 16 (by decide)) rfl rfl; exact ch_move (ch_ev e46)
        refine ⟨.inl ⟨rfl, fun done a wq hw h => ?_⟩, ?_⟩
        · have e5 := ch_old (t := 5) (v := iv 1) h rfl rfl; exact ch_move (ch_ev e5)
        refine ⟨.inl ⟨rfl, fun done a wq hw h => ?_⟩, ?_⟩
        · have e1 := ch_old (t := 1) (v := .pointer (some ⟨w.heap.size, 0, none⟩)) h rfl rfl; refine ch_pure ?_; go_simp
        refine ⟨.inl ⟨rfl, fun done a wq hw h => ?_⟩, ?_⟩
        · have e49 := ch_new (i := 19) (t := 49) h (hw 19 (by decide)) rfl rfl; obtain ⟨r_, f_, n_, c_, z_, l_⟩ := keep1 h.bel R1 (by simp [recA]) F1; refine ch_pure ?_; go_simp
        refine ⟨.inl ⟨rfl, fun done a wq hw h => ?_⟩, ?_⟩
        · have e48 := ch_new (i := 18) (t := 48) h (hw 18 (by decide)) rfl rfl; have e50 := ch_new (i := 20) (t := 50) h (hw 20 (by decide)) rfl rfl; exact ch_eql_int (by kernel_rfl) (ch_ev e48) (ch_ev e50) (by simp)
        refine ⟨.inl ⟨rfl, fun done a wq hw h => ?_⟩, ?_⟩
        · have e1 := ch_old (t := 1) (v := .pointer (some ⟨w.heap.size, 0, none⟩)) h rfl rfl; refine ch_pure ?_; go_simp
        refine ⟨.inl ⟨rfl, fun done a wq hw h => ?_⟩, ?_⟩
        · have e52 := ch_new (i := 22) (t := 52) h (hw 22 (by decide)) rfl rfl; obtain ⟨r_, f_, n_, c_, z_, l_⟩ := keep1 h.bel R1 (by simp [recA]) F1; refine ch_pure ?_; go_simp
        refine ⟨.inl ⟨rfl, fun done a wq hw h => ?_⟩, ?_⟩
        · have e53 := ch_new (i := 23) (t := 53) h (hw 23 (by decide)) rfl rfl; refine ch_pure ?_; go_simp
        refine ⟨.inl ⟨rfl, fun done a wq hw h => ?_⟩, ?_⟩
        · have e54 := ch_new (i := 24) (t := 54) h (hw 24 (by decide)) rfl rfl; exact ch_move (ch_ev e54)
        refine ⟨.inr ⟨rfl, rfl⟩, ?_⟩
        refine ⟨.inr ⟨rfl, rfl⟩, ?_⟩
        refine ⟨.inr ⟨rfl, rfl⟩, ?_⟩
        refine ⟨.inr ⟨rfl, rfl⟩, ?_⟩
        refine ⟨.inl ⟨rfl, fun done a wq hw h => ?_⟩, ?_⟩
        · have e55 := ch_new (i := 25) (t := 55) h (hw 25 (by decide)) rfl rfl; exact ch_pick_t e55 rfl
        refine ⟨.inl ⟨rfl, fun done a wq hw h => ?_⟩, ?_⟩
        · have e51 := ch_new (i := 21) (t := 51) h (hw 21 (by decide)) rfl rfl; have e60 := ch_new (i := 30) (t := 60) h (hw 30 (by decide)) rfl rfl; refine ch_pure ?_; go_simp
        refine ⟨.inl ⟨rfl, fun done a wq hw h => ?_⟩, ?_⟩
        · have e47 := ch_new (i := 17) (t := 47) h (hw 17 (by decide)) rfl rfl; have e61 := ch_new (i := 31) (t := 61) h (hw 31 (by decide)) rfl rfl; exact ch_pick_f e47 (ch_ev e61)
        exact trivial
      · intro w2_ hb
        obtain ⟨r0_, f0_, n0_, c0_, z0_, l0_⟩ := keep1 (g := w.heap.size) hb (by first | exact R1 | (go_simp; done) | (go_simp; intro he; exfalso; omega)) (by simp [recA]) F1
        obtain ⟨r1_, f1_, n1_, c1_, z1_, l1_⟩ := keep1 (g := w2.heap.size) hb (by first | exact R3 | (go_simp; done) | (go_simp; intro he; exfalso; omega)) (by simp [recA]) F3
        obtain ⟨r2_, f2_, n2_, c2_, z2_, l2_⟩ := keep1 (g := w1_.heap.size) (cs := recA x) hb (by go_simp) (by simp [recA]) (by go_simp)
        have HB3 : Hid (Below w.heap.size w w2_) := Lib.hid ((HB1.out.alloc HB1.out.size _).trans (hb.mono (by have := HB1.out.size; simp; omega)))
        clear hb R1 R3 R6 F1 F3 F6
        simp only [putAll_some, putAll_none, putAll_nil, List.setIfInBounds_toArray, List.set_cons_zero, List.set_cons_succ]
        go_wp2_with fail
        go_roundw
        case rel =>
          have hne : w.heap.size ≠ w2.heap.size := by omega
          refine ⟨k + 1, by omega, by go_num, below_row HB3.out (by omega) _, by first | (go_simp; done) | (go_simp; omega), by go_simp, ?_, by go_simp, hl0, hl1⟩
          go_simp
          rw [HX.out]
        case measure => simp [intOf]; omega
    · obtain rfl : k = 5 := by omega
      go_wp2_with fail
      refine (Kd.out _).mono ?_
      rintro e w1_ ⟨rfl, hb⟩
      obtain ⟨a0r, a0f, a0n, a0c, a0z, a0l⟩ := keep1 (g := w.heap.size) (cs := recA ⟨gen, 1, false, tries, floor, a, b⟩) hb (by first | (go_simp; done) | (go_simp; rfl)) (by go_simp) (by go_simp)
      have HB1 : Hid (Below w.heap.size w w1_) := Lib.hid (HBr.out.trans (hb.mono hsw))
      clear hb
      go_wp2_with fail
      go_ret
      exact ⟨rfl, HB1.out.alloc HB1.out.size _⟩

set_option maxRecDepth 100000 in
set_option maxHeartbeats 8000000 in
theorem starts_1true (gen tries floor : Int) (a b : Inf) (h : recCheck ⟨gen, 1, true, tries, floor, a, b⟩ = 0) (w : World) (K0 : Hid (∀ w, Calls Try.prog 32 #[] w (RetB w (.bool true)))) : Calls Try.prog 9 #[.agg (recA ⟨gen, 1, true, tries, floor, a, b⟩)] w (RetB w (.bool true)) := by
  have hst := fun k => slot_floor h (k : Int)
  have hat := fun (k : Int) s => nowAt_at (⟨gen, 1, true, tries, floor, a, b⟩ : Rec) k s
  have Kc : Hid (∀ w, Calls Try.prog 33 #[.agg (recA ⟨gen, 1, true, tries, floor, a, b⟩)] w (RetB w (iv 0))) := fun w => by
    have := recCheckA_calls ⟨gen, 1, true, tries, floor, a, b⟩ w
    rw [h] at this; exact this
  have Kx : Hid (∀ (k : Nat) w, Calls Try.prog 33 #[.agg (recA (nowAt ⟨gen, 1, true, tries, floor, a, b⟩ (k + 1)))] w (RetB w (iv 0))) := fun k w => by
    have := recCheckA_calls (nowAt ⟨gen, 1, true, tries, floor, a, b⟩ ((k : Int) + 1)) w
    rw [nowAt_ok h (by omega)] at this; exact this
  have Ks := Lib.hid (start_c h)
  have HST := Lib.hid hst
  have HAT := Lib.hid hat
  have HN0 := Lib.hid (nowAt_0 h)
  have hd := done_ok h rfl
  obtain ⟨d1, d2, d3, d4, d5⟩ := hd
  have Kd : Hid (∀ w, Calls Try.prog 29 #[.agg (recA ⟨gen, 1, true, tries, floor, a, b⟩)] w (RetB w (.tuple #[.agg (recA (recDone ⟨gen, 1, true, tries, floor, a, b⟩)), iv 0]))) := fun w => by
    have := confirm_calls ⟨gen, 1, true, tries, floor, a, b⟩ w
    rw [show recConfirm ⟨gen, 1, true, tries, floor, a, b⟩ = ((recDone ⟨gen, 1, true, tries, floor, a, b⟩), 0) by unfold recConfirm; rw [if_pos h, if_pos rfl]] at this
    exact this
  have Ke : Hid (∀ w, Calls Try.prog 28 #[.agg (recA (recDone ⟨gen, 1, true, tries, floor, a, b⟩))] w (RetB w (.tuple #[iv 0, .agg (recA (recDone ⟨gen, 1, true, tries, floor, a, b⟩)), iv 0]))) := fun w => by
    have := start_calls (recDone ⟨gen, 1, true, tries, floor, a, b⟩) w
    rw [d2] at this
    exact this
  have Kf : Hid (∀ w, Calls Try.prog 33 #[.agg (recA (recDone ⟨gen, 1, true, tries, floor, a, b⟩))] w (RetB w (iv 0))) := fun w => by
    have := recCheckA_calls (recDone ⟨gen, 1, true, tries, floor, a, b⟩) w
    rw [d1] at this; exact this
  have q1 : floor ≤ (recDone ⟨gen, 1, true, tries, floor, a, b⟩).floor := d3
  have q2 : (recDone ⟨gen, 1, true, tries, floor, a, b⟩).a.ver ≤ (recDone ⟨gen, 1, true, tries, floor, a, b⟩).floor := d4
  clear d1 d2 d3 d4 d5
  generalize (recDone ⟨gen, 1, true, tries, floor, a, b⟩) = c at *
  clear hst hat h
  go_enter Try.func9, Try.ntmps9
  go_wp2_with fail
  refine (K0.out _).mono ?_
  rintro e w1 ⟨rfl, hb⟩
  obtain ⟨a0r, a0f, a0n, a0c, a0z, a0l⟩ := keep1 (g := w.heap.size) (cs := recA ⟨gen, 1, true, tries, floor, a, b⟩) hb (by first | (go_simp; done) | (go_simp; rfl)) (by go_simp) (by go_simp)
  have HB1 : Hid (Below w.heap.size w w1) := by
    refine Lib.hid (Below.trans ?_ (hb.mono (by first | omega | (simp <;> omega))))
    repeat (first | exact Below.refl _ _ | refine below_row ?_ (by omega) _ | refine Below.setCell ?_ (by first | omega | (simp <;> omega)) _ | refine Below.alloc ?_ (by first | omega | (simp <;> omega)) _ | refine Below.drew ?_)
  clear hb
  go_wp2_with fail
  refine (Kc.out _).mono ?_
  rintro e w2 ⟨rfl, hb⟩
  obtain ⟨a0r, a0f, a0n, a0c, a0z, a0l⟩ := keep1 (g := w.heap.size) (cs := recA ⟨gen, 1, true, tries, floor, a, b⟩) hb (by first | (go_simp; done) | (go_simp; rfl)) (by go_simp) (by go_simp)
  have HB2 : Hid (Below w.heap.size w w2) := by
    have hs := HB1.out.size
    refine Lib.hid (Below.trans ?_ (hb.mono (by first | omega | (simp <;> omega))))
    repeat (first | exact HB1.out | refine below_row ?_ (by omega) _ | refine Below.setCell ?_ (by first | omega | (simp <;> omega)) _ | refine Below.alloc ?_ (by first | omega | (simp <;> omega)) _ | refine Below.drew ?_)
  clear hb
  go_wp2_with fail
  have hs := HB2.out.size
  go_loopw [21] (fun i wr => ∃ k : Nat, k ≤ 5 ∧ i = .int .i64 k ∧ StSt w w.heap.size w2.heap.size ⟨gen, 1, true, tries, floor, a, b⟩ k wr) (fun i _ => 5 - (intOf i).toNat)
  case atStart =>
    refine ⟨0, by omega, rfl, HB2.out.alloc hs _, by go_simp, by go_simp, ?_, by go_simp, Nat.le_refl _, by omega⟩
    rw [show nowAt ⟨gen, 1, true, tries, floor, a, b⟩ ((0 : Nat) : Int) = ⟨gen, 1, true, tries, floor, a, b⟩ by exact HN0.out]
    go_simp
  case round =>
    obtain ⟨k, hk, rfl, hB, hr0, hf0, hr1, hf1, hl0, hl1⟩ := hrel
    clear a0r a0f a0n a0c a0z a0l
    have hsw := hB.size
    have HBr := Lib.hid hB
    have hlw : w2.heap.size < wr.heap.size := row_lt (w := wr) (by rw [hr1]; simp [recA])
    clear hB
    by_cases hlt : k < 5
    · by_cases hkt : (k : Int) < tries
      · have hsl : slotAt ⟨gen, 1, true, tries, floor, a, b⟩ k = 0 := by unfold slotAt; rw [if_pos ⟨rfl, hkt⟩]; rfl
        have Kr : Hid (∀ w, Calls Try.prog 28 #[.agg (recA (nowAt ⟨gen, 1, true, tries, floor, a, b⟩ k))] w (RetB w (.tuple #[iv 0, .agg (recA (nowAt ⟨gen, 1, true, tries, floor, a, b⟩ (k + 1))), iv 0]))) := fun w => by
          have := Ks.out k w
          rw [hsl] at this; exact this
        have hv : floor ≤ (nowAt ⟨gen, 1, true, tries, floor, a, b⟩ ((k : Int) + 1)).a.ver := by
          have e1 := (HST.out k).2
          rw [hsl] at e1
          have e2 := (HAT.out ((k : Int) + 1) 0).1
          rw [← e2] at e1
          exact e1
        have Ky := Kx.out k
        have KY := Lib.hid Ky
        clear hsl Ky
        generalize hx : nowAt ⟨gen, 1, true, tries, floor, a, b⟩ ((k : Int) + 1) = x at *
        have HX := Lib.hid hx
        clear hx
        go_wp2_with fail
        refine (Kr.out _).mono ?_
        rintro e w1_ ⟨rfl, hb⟩
        obtain ⟨a0r, a0f, a0n, a0c, a0z, a0l⟩ := keep1 (g := w.heap.size) (cs := recA ⟨gen, 1, true, tries, floor, a, b⟩) hb (by first | (go_simp; done) | (go_simp; rfl)) (by go_simp) (by go_simp)
        obtain ⟨a1r, a1f, a1n, a1c, a1z, a1l⟩ := keep1 (g := w2.heap.size) (cs := recA (nowAt ⟨gen, 1, true, tries, floor, a, b⟩ k)) hb (by first | (go_simp; done) | (go_simp; rfl)) (by go_simp) (by go_simp)
        have HB1 : Hid (Below w.heap.size w w1_) := Lib.hid (HBr.out.trans (hb.mono hsw))
        clear hb
        go_wp2_with fail
        have R1 : rowOf (w1_.alloc (.cells (recA x) 44)).drew (w.heap.size) = recA ⟨gen, 1, true, tries, floor, a, b⟩ := by first | (go_simp; done) | (go_simp; intro he; exfalso; omega)
        have F1 : frOf (w1_.alloc (.cells (recA x) 44)).drew (w.heap.size) = (0, 0) := by first | (go_simp; done) | (go_simp; intro he; exfalso; omega)
        have R3 : rowOf (w1_.alloc (.cells (recA x) 44)).drew (w2.heap.size) = recA (nowAt ⟨gen, 1, true, tries, floor, a, b⟩ k) := by first | (go_simp; done) | (go_simp; intro he; exfalso; omega)
        have F3 : frOf (w1_.alloc (.cells (recA x) 44)).drew (w2.heap.size) = (0, 0) := by first | (go_simp; done) | (go_simp; intro he; exfalso; omega)
        have R6 : rowOf (w1_.alloc (.cells (recA x) 44)).drew (w1_.heap.size) = recA x := by first | (go_simp; done) | (go_simp; intro he; exfalso; omega)
        have F6 : frOf (w1_.alloc (.cells (recA x) 44)).drew (w1_.heap.size) = (0, 0) := by first | (go_simp; done) | (go_simp; intro he; exfalso; omega)
        clear a0r a0f a0n a0c a0z a1r a1f a1n a1c a1z
        refine wp_region_chain (by kernel_rfl) (some 30 :: some 31 :: some 32 :: some 33 :: some 34 :: some 35 :: some 36 :: some 37 :: some 38 :: some 39 :: some 40 :: some 41 :: some 42 :: some 43 :: some 44 :: some 45 :: some 46 :: some 47 :: some 48 :: some 49 :: some 50 :: some 51 :: some 52 :: some 53 :: some 54 :: some 55 :: some 56 :: some 57 :: some 58 :: some 59 :: some 60 :: some 61 :: some 62 :: []) (iv 0 :: .bool false :: .bool false :: .agg (recA x) :: iv 0 :: .bool false :: .bool false :: .bool false :: iv 0 :: .pointer (some ⟨w1_.heap.size, 5, none⟩) :: .pointer (some ⟨w1_.heap.size, 5, none⟩) :: .pointer (some ⟨w1_.heap.size, 5, none⟩) :: iv x.a.ver :: .pointer (some ⟨w.heap.size, 4, none⟩) :: iv floor :: .bool false :: .bool false :: .bool false :: iv 0 :: .pointer (some ⟨w.heap.size, 1, none⟩) :: iv 1 :: .bool false :: .pointer (some ⟨w.heap.size, 2, none⟩) :: .bool true :: .bool false :: .bool false :: iv (k : Int) :: .pointer (some ⟨w.heap.size, 3, none⟩) :: iv tries :: .bool false :: .bool false :: .bool false :: .bool false :: []) 117 rfl rfl (by decide +kernel) (by decide +kernel) (by decide +kernel) rfl ?_ ?_
        · refine ⟨.inl ⟨rfl, fun done a wq hw h => ?_⟩, ?_⟩
          · have e7 := ch_old (t := 7) (v := iv 0) h rfl rfl; exact ch_move (ch_ev e7)
          refine ⟨.inl ⟨rfl, fun done a wq hw h => ?_⟩, ?_⟩
          · have e30 := ch_new (i := 0) (t := 30) h (hw 0 (by decide)) rfl rfl; exact ch_neq_int (by kernel_rfl) (ch_ev e30) rfl (by simp)
          refine ⟨.inl ⟨rfl, fun done a wq hw h => ?_⟩, ?_⟩
          · have e31 := ch_new (i := 1) (t := 31) h (hw 1 (by decide)) rfl rfl; exact ch_move (ch_ev e31)
          refine ⟨.inl ⟨rfl, fun done a wq hw h => ?_⟩, ?_⟩
          · have e6 := ch_old (t := 6) (v := .pointer (some ⟨w1_.heap.size, 0, none⟩)) h rfl rfl; obtain ⟨r_, f_, n_, c_, z_, l_⟩ := keep1 h.bel R6 (by simp [recA]) F6; refine ch_pure ?_; go_simp
          refine ⟨.inl ⟨rfl, fun done a wq hw h => ?_⟩, ?_⟩
          · have e33 := ch_new (i := 3) (t := 33) h (hw 3 (by decide)) rfl rfl; exact ch_call (by go_simp) (by go_simp) (KY.out _)
          refine ⟨.inl ⟨rfl, fun done a wq hw h => ?_⟩, ?_⟩
          · have e34 := ch_new (i := 4) (t := 34) h (hw 4 (by decide)) rfl rfl; exact ch_neq_int (by kernel_rfl) (ch_ev e34) rfl (by simp)
          refine ⟨.inl ⟨rfl, fun done a wq hw h => ?_⟩, ?_⟩
          · have e32 := ch_new (i := 2) (t := 32) h (hw 2 (by decide)) rfl rfl; have e35 := ch_new (i := 5) (t := 35) h (hw 5 (by decide)) rfl rfl; exact ch_pick_f e32 (ch_ev e35)
          refine ⟨.inl ⟨rfl, fun done a wq hw h => ?_⟩, ?_⟩
          · have e36 := ch_new (i := 6) (t := 36) h (hw 6 (by decide)) rfl rfl; exact ch_move (ch_ev e36)
          refine ⟨.inl ⟨rfl, fun done a wq hw h => ?_⟩, ?_⟩
          · have e5 := ch_old (t := 5) (v := iv 0) h rfl rfl; exact ch_move (ch_ev e5)
          refine ⟨.inl ⟨rfl, fun done a wq hw h => ?_⟩, ?_⟩
          · have e6 := ch_old (t := 6) (v := .pointer (some ⟨w1_.heap.size, 0, none⟩)) h rfl rfl; refine ch_pure ?_; go_simp
          refine ⟨.inl ⟨rfl, fun done a wq hw h => ?_⟩, ?_⟩
          · have e39 := ch_new (i := 9) (t := 39) h (hw 9 (by decide)) rfl rfl; have e38 := ch_new (i := 8) (t := 38) h (hw 8 (by decide)) rfl rfl; refine ch_pure ?_; go_simp
          refine ⟨.inl ⟨rfl, fun done a wq hw h => ?_⟩, ?_⟩
          · have e40 := ch_new (i := 10) (t := 40) h (hw 10 (by decide)) rfl rfl; refine ch_pure ?_; go_simp
          refine ⟨.inl ⟨rfl, fun done a wq hw h => ?_⟩, ?_⟩
          · have e41 := ch_new (i := 11) (t := 41) h (hw 11 (by decide)) rfl rfl; obtain ⟨r_, f_, n_, c_, z_, l_⟩ := keep1 h.bel R6 (by simp [recA]) F6; refine ch_pure ?_; go_simp
          refine ⟨.inl ⟨rfl, fun done a wq hw h => ?_⟩, ?_⟩
          · have e1 := ch_old (t := 1) (v := .pointer (some ⟨w.heap.size, 0, none⟩)) h rfl rfl; refine ch_pure ?_; go_simp
          refine ⟨.inl ⟨rfl, fun done a wq hw h => ?_⟩, ?_⟩
          · have e43 := ch_new (i := 13) (t := 43) h (hw 13 (by decide)) rfl rfl; obtain ⟨r_, f_, n_, c_, z_, l_⟩ := keep1 h.bel R1 (by simp [recA]) F1; refine ch_pure ?_; go_simp
          refine ⟨.inl ⟨rfl, fun done a wq hw h => ?_⟩, ?_⟩
          · have e42 := ch_new (i := 12) (t := 42) h (hw 12 (by decide)) rfl rfl; have e44 := ch_new (i := 14) (t := 44) h (hw 14 (by decide)) rfl rfl; exact ch_lss_int (by kernel_rfl) (ch_ev e42) (ch_ev e44) (by simp; omega)
          refine ⟨.inl ⟨rfl, fun done a wq hw h => ?_⟩, ?_⟩
          · have e37 := ch_new (i := 7) (t := 37) h (hw 7 (by decide)) rfl rfl; have e45 := ch_new (i := 15) (t := 45) h (hw 15 (by decide)) rfl rfl; exact ch_pick_f e37 (ch_ev e45)
          refine ⟨.inl ⟨rfl, fun done a wq hw h => ?_⟩, ?_⟩
          · have e46 := ch_new (i := 16) (t := 46) h (hw 16 (by decide)) rfl rfl; exact ch_move (ch_ev e46)
          refine ⟨.inl ⟨rfl, fun done a wq hw h => ?_⟩, ?_⟩
          · have e5 := ch_old (t := 5) (v := iv 0) h rfl rfl; exact ch_move (ch_ev e5)
          refine ⟨.inl ⟨rfl, fun done a wq hw h => ?_⟩, ?_⟩
          · have e1 := ch_old (t := 1) (v := .pointer (some ⟨w.heap.size, 0, none⟩)) h rfl rfl; refine ch_pure ?_; go_simp
          refine ⟨.inl ⟨rfl, fun done a wq hw h => ?_⟩, ?_⟩
          · have e49 := ch_new (i := 19) (t := 49) h (hw 19 (by decide)) rfl rfl; obtain ⟨r_, f_, n_, c_, z_, l_⟩ := keep1 h.bel R1 (by simp [recA]) F1; refine ch_pure ?_; go_simp
          refine ⟨.inl ⟨rfl, fun done a wq hw h => ?_⟩, ?_⟩
          · have e48 := ch_new (i := 18) (t := 48) h (hw 18 (by decide)) rfl rfl; have e50 := ch_new (i := 20) (t := 50) h (hw 20 (by decide)) rfl rfl; exact ch_eql_int (by kernel_rfl) (ch_ev e48) (ch_ev e50) (by simp)
          refine ⟨.inl ⟨rfl, fun done a wq hw h => ?_⟩, ?_⟩
          · have e1 := ch_old (t := 1) (v := .pointer (some ⟨w.heap.size, 0, none⟩)) h rfl rfl; refine ch_pure ?_; go_simp
          refine ⟨.inl ⟨rfl, fun done a wq hw h => ?_⟩, ?_⟩
          · have e52 := ch_new (i := 22) (t := 52) h (hw 22 (by decide)) rfl rfl; obtain ⟨r_, f_, n_, c_, z_, l_⟩ := keep1 h.bel R1 (by simp [recA]) F1; refine ch_pure ?_; go_simp
          refine ⟨.inl ⟨rfl, fun done a wq hw h => ?_⟩, ?_⟩
          · have e53 := ch_new (i := 23) (t := 53) h (hw 23 (by decide)) rfl rfl; refine ch_pure ?_; go_simp
          refine ⟨.inl ⟨rfl, fun done a wq hw h => ?_⟩, ?_⟩
          · have e54 := ch_new (i := 24) (t := 54) h (hw 24 (by decide)) rfl rfl; exact ch_move (ch_ev e54)
          refine ⟨.inl ⟨rfl, fun done a wq hw h => ?_⟩, ?_⟩
          · have e4 := ch_old (t := 4) (v := iv (k : Int)) h rfl rfl; exact ch_move (ch_ev e4)
          refine ⟨.inl ⟨rfl, fun done a wq hw h => ?_⟩, ?_⟩
          · have e1 := ch_old (t := 1) (v := .pointer (some ⟨w.heap.size, 0, none⟩)) h rfl rfl; refine ch_pure ?_; go_simp
          refine ⟨.inl ⟨rfl, fun done a wq hw h => ?_⟩, ?_⟩
          · have e57 := ch_new (i := 27) (t := 57) h (hw 27 (by decide)) rfl rfl; obtain ⟨r_, f_, n_, c_, z_, l_⟩ := keep1 h.bel R1 (by simp [recA]) F1; refine ch_pure ?_; go_simp
          refine ⟨.inl ⟨rfl, fun done a wq hw h => ?_⟩, ?_⟩
          · have e56 := ch_new (i := 26) (t := 56) h (hw 26 (by decide)) rfl rfl; have e58 := ch_new (i := 28) (t := 58) h (hw 28 (by decide)) rfl rfl; exact ch_geq_int (by kernel_rfl) (ch_ev e56) (ch_ev e58) (by simp; omega)
          refine ⟨.inl ⟨rfl, fun done a wq hw h => ?_⟩, ?_⟩
          · have e55 := ch_new (i := 25) (t := 55) h (hw 25 (by decide)) rfl rfl; have e59 := ch_new (i := 29) (t := 59) h (hw 29 (by decide)) rfl rfl; exact ch_pick_f e55 (ch_ev e59)
          refine ⟨.inl ⟨rfl, fun done a wq hw h => ?_⟩, ?_⟩
          · have e51 := ch_new (i := 21) (t := 51) h (hw 21 (by decide)) rfl rfl; have e60 := ch_new (i := 30) (t := 60) h (hw 30 (by decide)) rfl rfl; refine ch_pure ?_; go_simp
          refine ⟨.inl ⟨rfl, fun done a wq hw h => ?_⟩, ?_⟩
          · have e47 := ch_new (i := 17) (t := 47) h (hw 17 (by decide)) rfl rfl; have e61 := ch_new (i := 31) (t := 61) h (hw 31 (by decide)) rfl rfl; exact ch_pick_f e47 (ch_ev e61)
          exact trivial
        · intro w2_ hb
          obtain ⟨r0_, f0_, n0_, c0_, z0_, l0_⟩ := keep1 (g := w.heap.size) hb (by first | exact R1 | (go_simp; done) | (go_simp; intro he; exfalso; omega)) (by simp [recA]) F1
          obtain ⟨r1_, f1_, n1_, c1_, z1_, l1_⟩ := keep1 (g := w2.heap.size) hb (by first | exact R3 | (go_simp; done) | (go_simp; intro he; exfalso; omega)) (by simp [recA]) F3
          obtain ⟨r2_, f2_, n2_, c2_, z2_, l2_⟩ := keep1 (g := w1_.heap.size) (cs := recA x) hb (by go_simp) (by simp [recA]) (by go_simp)
          have HB3 : Hid (Below w.heap.size w w2_) := Lib.hid ((HB1.out.alloc HB1.out.size _).trans (hb.mono (by have := HB1.out.size; simp; omega)))
          clear hb R1 R3 R6 F1 F3 F6
          simp only [putAll_some, putAll_none, putAll_nil, List.setIfInBounds_toArray, List.set_cons_zero, List.set_cons_succ]
          go_wp2_with fail
          go_roundw
          case rel =>
            have hne : w.heap.size ≠ w2.heap.size := by omega
            refine ⟨k + 1, by omega, by go_num, below_row HB3.out (by omega) _, by first | (go_simp; done) | (go_simp; omega), by go_simp, ?_, by go_simp, hl0, hl1⟩
            go_simp
            rw [HX.out]
          case measure => simp [intOf]; omega
      · have hsl : slotAt ⟨gen, 1, true, tries, floor, a, b⟩ k = 1 := by unfold slotAt; rw [if_neg (fun e => hkt e.2)]
        have Kr : Hid (∀ w, Calls Try.prog 28 #[.agg (recA (nowAt ⟨gen, 1, true, tries, floor, a, b⟩ k))] w (RetB w (.tuple #[iv 1, .agg (recA (nowAt ⟨gen, 1, true, tries, floor, a, b⟩ (k + 1))), iv 0]))) := fun w => by
          have := Ks.out k w
          rw [hsl] at this; exact this
        have hv : floor ≤ (nowAt ⟨gen, 1, true, tries, floor, a, b⟩ ((k : Int) + 1)).b.ver := by
          have e1 := (HST.out k).2
          rw [hsl] at e1
          have e2 := (HAT.out ((k : Int) + 1) 1).1
          rw [← e2] at e1
          exact e1
        have Ky := Kx.out k
        have KY := Lib.hid Ky
        clear hsl Ky
        generalize hx : nowAt ⟨gen, 1, true, tries, floor, a, b⟩ ((k : Int) + 1) = x at *
        have HX := Lib.hid hx
        clear hx
        go_wp2_with fail
        refine (Kr.out _).mono ?_
        rintro e w1_ ⟨rfl, hb⟩
        obtain ⟨a0r, a0f, a0n, a0c, a0z, a0l⟩ := keep1 (g := w.heap.size) (cs := recA ⟨gen, 1, true, tries, floor, a, b⟩) hb (by first | (go_simp; done) | (go_simp; rfl)) (by go_simp) (by go_simp)
        obtain ⟨a1r, a1f, a1n, a1c, a1z, a1l⟩ := keep1 (g := w2.heap.size) (cs := recA (nowAt ⟨gen, 1, true, tries, floor, a, b⟩ k)) hb (by first | (go_simp; done) | (go_simp; rfl)) (by go_simp) (by go_simp)
        have HB1 : Hid (Below w.heap.size w w1_) := Lib.hid (HBr.out.trans (hb.mono hsw))
        clear hb
        go_wp2_with fail
        have R1 : rowOf (w1_.alloc (.cells (recA x) 44)).drew (w.heap.size) = recA ⟨gen, 1, true, tries, floor, a, b⟩ := by first | (go_simp; done) | (go_simp; intro he; exfalso; omega)
        have F1 : frOf (w1_.alloc (.cells (recA x) 44)).drew (w.heap.size) = (0, 0) := by first | (go_simp; done) | (go_simp; intro he; exfalso; omega)
        have R3 : rowOf (w1_.alloc (.cells (recA x) 44)).drew (w2.heap.size) = recA (nowAt ⟨gen, 1, true, tries, floor, a, b⟩ k) := by first | (go_simp; done) | (go_simp; intro he; exfalso; omega)
        have F3 : frOf (w1_.alloc (.cells (recA x) 44)).drew (w2.heap.size) = (0, 0) := by first | (go_simp; done) | (go_simp; intro he; exfalso; omega)
        have R6 : rowOf (w1_.alloc (.cells (recA x) 44)).drew (w1_.heap.size) = recA x := by first | (go_simp; done) | (go_simp; intro he; exfalso; omega)
        have F6 : frOf (w1_.alloc (.cells (recA x) 44)).drew (w1_.heap.size) = (0, 0) := by first | (go_simp; done) | (go_simp; intro he; exfalso; omega)
        clear a0r a0f a0n a0c a0z a1r a1f a1n a1c a1z
        refine wp_region_chain (by kernel_rfl) (some 30 :: some 31 :: some 32 :: some 33 :: some 34 :: some 35 :: some 36 :: some 37 :: some 38 :: some 39 :: some 40 :: some 41 :: some 42 :: some 43 :: some 44 :: some 45 :: some 46 :: some 47 :: some 48 :: some 49 :: some 50 :: some 51 :: some 52 :: some 53 :: some 54 :: some 55 :: some 56 :: some 57 :: some 58 :: some 59 :: some 60 :: some 61 :: some 62 :: []) (iv 0 :: .bool false :: .bool false :: .agg (recA x) :: iv 0 :: .bool false :: .bool false :: .bool false :: iv 1 :: .pointer (some ⟨w1_.heap.size, 5, none⟩) :: .pointer (some ⟨w1_.heap.size, 8, none⟩) :: .pointer (some ⟨w1_.heap.size, 8, none⟩) :: iv x.b.ver :: .pointer (some ⟨w.heap.size, 4, none⟩) :: iv floor :: .bool false :: .bool false :: .bool false :: iv 1 :: .pointer (some ⟨w.heap.size, 1, none⟩) :: iv 1 :: .bool true :: .pointer (some ⟨w.heap.size, 2, none⟩) :: .bool true :: .bool false :: .bool false :: iv (k : Int) :: .pointer (some ⟨w.heap.size, 3, none⟩) :: iv tries :: .bool true :: .bool true :: .bool false :: .bool false :: []) 117 rfl rfl (by decide +kernel) (by decide +kernel) (by decide +kernel) rfl ?_ ?_
        · refine ⟨.inl ⟨rfl, fun done a wq hw h => ?_⟩, ?_⟩
          · have e7 := ch_old (t := 7) (v := iv 0) h rfl rfl; exact ch_move (ch_ev e7)
          refine ⟨.inl ⟨rfl, fun done a wq hw h => ?_⟩, ?_⟩
          · have e30 := ch_new (i := 0) (t := 30) h (hw 0 (by decide)) rfl rfl; exact ch_neq_int (by kernel_rfl) (ch_ev e30) rfl (by simp)
          refine ⟨.inl ⟨rfl, fun done a wq hw h => ?_⟩, ?_⟩
          · have e31 := ch_new (i := 1) (t := 31) h (hw 1 (by decide)) rfl rfl; exact ch_move (ch_ev e31)
          refine ⟨.inl ⟨rfl, fun done a wq hw h => ?_⟩, ?_⟩
          · have e6 := ch_old (t := 6) (v := .pointer (some ⟨w1_.heap.size, 0, none⟩)) h rfl rfl; obtain ⟨r_, f_, n_, c_, z_, l_⟩ := keep1 h.bel R6 (by simp [recA]) F6; refine ch_pure ?_; go_simp
          refine ⟨.inl ⟨rfl, fun done a wq hw h => ?_⟩, ?_⟩
          · have e33 := ch_new (i := 3) (t := 33) h (hw 3 (by decide)) rfl rfl; exact ch_call (by go_simp) (by go_simp) (KY.out _)
          refine ⟨.inl ⟨rfl, fun done a wq hw h => ?_⟩, ?_⟩
          · have e34 := ch_new (i := 4) (t := 34) h (hw 4 (by decide)) rfl rfl; exact ch_neq_int (by kernel_rfl) (ch_ev e34) rfl (by simp)
          refine ⟨.inl ⟨rfl, fun done a wq hw h => ?_⟩, ?_⟩
          · have e32 := ch_new (i := 2) (t := 32) h (hw 2 (by decide)) rfl rfl; have e35 := ch_new (i := 5) (t := 35) h (hw 5 (by decide)) rfl rfl; exact ch_pick_f e32 (ch_ev e35)
          refine ⟨.inl ⟨rfl, fun done a wq hw h => ?_⟩, ?_⟩
          · have e36 := ch_new (i := 6) (t := 36) h (hw 6 (by decide)) rfl rfl; exact ch_move (ch_ev e36)
          refine ⟨.inl ⟨rfl, fun done a wq hw h => ?_⟩, ?_⟩
          · have e5 := ch_old (t := 5) (v := iv 1) h rfl rfl; exact ch_move (ch_ev e5)
          refine ⟨.inl ⟨rfl, fun done a wq hw h => ?_⟩, ?_⟩
          · have e6 := ch_old (t := 6) (v := .pointer (some ⟨w1_.heap.size, 0, none⟩)) h rfl rfl; refine ch_pure ?_; go_simp
          refine ⟨.inl ⟨rfl, fun done a wq hw h => ?_⟩, ?_⟩
          · have e39 := ch_new (i := 9) (t := 39) h (hw 9 (by decide)) rfl rfl; have e38 := ch_new (i := 8) (t := 38) h (hw 8 (by decide)) rfl rfl; refine ch_pure ?_; go_simp
          refine ⟨.inl ⟨rfl, fun done a wq hw h => ?_⟩, ?_⟩
          · have e40 := ch_new (i := 10) (t := 40) h (hw 10 (by decide)) rfl rfl; refine ch_pure ?_; go_simp
          refine ⟨.inl ⟨rfl, fun done a wq hw h => ?_⟩, ?_⟩
          · have e41 := ch_new (i := 11) (t := 41) h (hw 11 (by decide)) rfl rfl; obtain ⟨r_, f_, n_, c_, z_, l_⟩ := keep1 h.bel R6 (by simp [recA]) F6; refine ch_pure ?_; go_simp
          refine ⟨.inl ⟨rfl, fun done a wq hw h => ?_⟩, ?_⟩
          · have e1 := ch_old (t := 1) (v := .pointer (some ⟨w.heap.size, 0, none⟩)) h rfl rfl; refine ch_pure ?_; go_simp
          refine ⟨.inl ⟨rfl, fun done a wq hw h => ?_⟩, ?_⟩
          · have e43 := ch_new (i := 13) (t := 43) h (hw 13 (by decide)) rfl rfl; obtain ⟨r_, f_, n_, c_, z_, l_⟩ := keep1 h.bel R1 (by simp [recA]) F1; refine ch_pure ?_; go_simp
          refine ⟨.inl ⟨rfl, fun done a wq hw h => ?_⟩, ?_⟩
          · have e42 := ch_new (i := 12) (t := 42) h (hw 12 (by decide)) rfl rfl; have e44 := ch_new (i := 14) (t := 44) h (hw 14 (by decide)) rfl rfl; exact ch_lss_int (by kernel_rfl) (ch_ev e42) (ch_ev e44) (by simp; omega)
          refine ⟨.inl ⟨rfl, fun done a wq hw h => ?_⟩, ?_⟩
          · have e37 := ch_new (i := 7) (t := 37) h (hw 7 (by decide)) rfl rfl; have e45 := ch_new (i := 15) (t := 45) h (hw 15 (by decide)) rfl rfl; exact ch_pick_f e37 (ch_ev e45)
          refine ⟨.inl ⟨rfl, fun done a wq hw h => ?_⟩, ?_⟩
          · have e46 := ch_new (i := 16) (t := 46) h (hw 16 (by decide)) rfl rfl; exact ch_move (ch_ev e46)
          refine ⟨.inl ⟨rfl, fun done a wq hw h => ?_⟩, ?_⟩
          · have e5 := ch_old (t := 5) (v := iv 1) h rfl rfl; exact ch_move (ch_ev e5)
          refine ⟨.inl ⟨rfl, fun done a wq hw h => ?_⟩, ?_⟩
          · have e1 := ch_old (t := 1) (v := .pointer (some ⟨w.heap.size, 0, none⟩)) h rfl rfl; refine ch_pure ?_; go_simp
          refine ⟨.inl ⟨rfl, fun done a wq hw h => ?_⟩, ?_⟩
          · have e49 := ch_new (i := 19) (t := 49) h (hw 19 (by decide)) rfl rfl; obtain ⟨r_, f_, n_, c_, z_, l_⟩ := keep1 h.bel R1 (by simp [recA]) F1; refine ch_pure ?_; go_simp
          refine ⟨.inl ⟨rfl, fun done a wq hw h => ?_⟩, ?_⟩
          · have e48 := ch_new (i := 18) (t := 48) h (hw 18 (by decide)) rfl rfl; have e50 := ch_new (i := 20) (t := 50) h (hw 20 (by decide)) rfl rfl; exact ch_eql_int (by kernel_rfl) (ch_ev e48) (ch_ev e50) (by simp)
          refine ⟨.inl ⟨rfl, fun done a wq hw h => ?_⟩, ?_⟩
          · have e1 := ch_old (t := 1) (v := .pointer (some ⟨w.heap.size, 0, none⟩)) h rfl rfl; refine ch_pure ?_; go_simp
          refine ⟨.inl ⟨rfl, fun done a wq hw h => ?_⟩, ?_⟩
          · have e52 := ch_new (i := 22) (t := 52) h (hw 22 (by decide)) rfl rfl; obtain ⟨r_, f_, n_, c_, z_, l_⟩ := keep1 h.bel R1 (by simp [recA]) F1; refine ch_pure ?_; go_simp
          refine ⟨.inl ⟨rfl, fun done a wq hw h => ?_⟩, ?_⟩
          · have e53 := ch_new (i := 23) (t := 53) h (hw 23 (by decide)) rfl rfl; refine ch_pure ?_; go_simp
          refine ⟨.inl ⟨rfl, fun done a wq hw h => ?_⟩, ?_⟩
          · have e54 := ch_new (i := 24) (t := 54) h (hw 24 (by decide)) rfl rfl; exact ch_move (ch_ev e54)
          refine ⟨.inl ⟨rfl, fun done a wq hw h => ?_⟩, ?_⟩
          · have e4 := ch_old (t := 4) (v := iv (k : Int)) h rfl rfl; exact ch_move (ch_ev e4)
          refine ⟨.inl ⟨rfl, fun done a wq hw h => ?_⟩, ?_⟩
          · have e1 := ch_old (t := 1) (v := .pointer (some ⟨w.heap.size, 0, none⟩)) h rfl rfl; refine ch_pure ?_; go_simp
          refine ⟨.inl ⟨rfl, fun done a wq hw h => ?_⟩, ?_⟩
          · have e57 := ch_new (i := 27) (t := 57) h (hw 27 (by decide)) rfl rfl; obtain ⟨r_, f_, n_, c_, z_, l_⟩ := keep1 h.bel R1 (by simp [recA]) F1; refine ch_pure ?_; go_simp
          refine ⟨.inl ⟨rfl, fun done a wq hw h => ?_⟩, ?_⟩
          · have e56 := ch_new (i := 26) (t := 56) h (hw 26 (by decide)) rfl rfl; have e58 := ch_new (i := 28) (t := 58) h (hw 28 (by decide)) rfl rfl; exact ch_geq_int (by kernel_rfl) (ch_ev e56) (ch_ev e58) (by simp; omega)
          refine ⟨.inl ⟨rfl, fun done a wq hw h => ?_⟩, ?_⟩
          · have e55 := ch_new (i := 25) (t := 55) h (hw 25 (by decide)) rfl rfl; have e59 := ch_new (i := 29) (t := 59) h (hw 29 (by decide)) rfl rfl; exact ch_pick_f e55 (ch_ev e59)
          refine ⟨.inl ⟨rfl, fun done a wq hw h => ?_⟩, ?_⟩
          · have e51 := ch_new (i := 21) (t := 51) h (hw 21 (by decide)) rfl rfl; have e60 := ch_new (i := 30) (t := 60) h (hw 30 (by decide)) rfl rfl; refine ch_pure ?_; go_simp
          refine ⟨.inl ⟨rfl, fun done a wq hw h => ?_⟩, ?_⟩
          · have e47 := ch_new (i := 17) (t := 47) h (hw 17 (by decide)) rfl rfl; have e61 := ch_new (i := 31) (t := 61) h (hw 31 (by decide)) rfl rfl; exact ch_pick_f e47 (ch_ev e61)
          exact trivial
        · intro w2_ hb
          obtain ⟨r0_, f0_, n0_, c0_, z0_, l0_⟩ := keep1 (g := w.heap.size) hb (by first | exact R1 | (go_simp; done) | (go_simp; intro he; exfalso; omega)) (by simp [recA]) F1
          obtain ⟨r1_, f1_, n1_, c1_, z1_, l1_⟩ := keep1 (g := w2.heap.size) hb (by first | exact R3 | (go_simp; done) | (go_simp; intro he; exfalso; omega)) (by simp [recA]) F3
          obtain ⟨r2_, f2_, n2_, c2_, z2_, l2_⟩ := keep1 (g := w1_.heap.size) (cs := recA x) hb (by go_simp) (by simp [recA]) (by go_simp)
          have HB3 : Hid (Below w.heap.size w w2_) := Lib.hid ((HB1.out.alloc HB1.out.size _).trans (hb.mono (by have := HB1.out.size; simp; omega)))
          clear hb R1 R3 R6 F1 F3 F6
          simp only [putAll_some, putAll_none, putAll_nil, List.setIfInBounds_toArray, List.set_cons_zero, List.set_cons_succ]
          go_wp2_with fail
          go_roundw
          case rel =>
            have hne : w.heap.size ≠ w2.heap.size := by omega
            refine ⟨k + 1, by omega, by go_num, below_row HB3.out (by omega) _, by first | (go_simp; done) | (go_simp; omega), by go_simp, ?_, by go_simp, hl0, hl1⟩
            go_simp
            rw [HX.out]
          case measure => simp [intOf]; omega
    · obtain rfl : k = 5 := by omega
      go_wp2_with fail
      refine (Kd.out _).mono ?_
      rintro e w1_ ⟨rfl, hb⟩
      obtain ⟨a0r, a0f, a0n, a0c, a0z, a0l⟩ := keep1 (g := w.heap.size) (cs := recA ⟨gen, 1, true, tries, floor, a, b⟩) hb (by first | (go_simp; done) | (go_simp; rfl)) (by go_simp) (by go_simp)
      have HB1 : Hid (Below w.heap.size w w1_) := Lib.hid (HBr.out.trans (hb.mono hsw))
      clear hb
      go_wp2_with fail
      refine (Ke.out _).mono ?_
      rintro e w2_ ⟨rfl, hb⟩
      obtain ⟨a0r, a0f, a0n, a0c, a0z, a0l⟩ := keep1 (g := w.heap.size) (cs := recA ⟨gen, 1, true, tries, floor, a, b⟩) hb (by first | (go_simp; done) | (go_simp; rfl)) (by go_simp) (by go_simp)
      obtain ⟨a1r, a1f, a1n, a1c, a1z, a1l⟩ := keep1 (g := w1_.heap.size) (cs := recA c) hb (by first | (go_simp; done) | (go_simp; rfl)) (by go_simp) (by go_simp)
      have HB2 : Hid (Below w.heap.size w w2_) := by
        have hs := HB1.out.size
        refine Lib.hid (Below.trans ?_ (hb.mono (by first | omega | (simp <;> omega))))
        repeat (first | exact HB1.out | refine below_row ?_ (by omega) _ | refine Below.setCell ?_ (by first | omega | (simp <;> omega)) _ | refine Below.alloc ?_ (by first | omega | (simp <;> omega)) _ | refine Below.drew ?_)
      clear hb
      go_wp2_with fail
      have R1 : rowOf (w2_.alloc (.cells (recA c) 44)).drew (w.heap.size) = recA ⟨gen, 1, true, tries, floor, a, b⟩ := by first | (go_simp; done) | (go_simp; intro he; exfalso; omega)
      have F1 : frOf (w2_.alloc (.cells (recA c) 44)).drew (w.heap.size) = (0, 0) := by first | (go_simp; done) | (go_simp; intro he; exfalso; omega)
      have R8 : rowOf (w2_.alloc (.cells (recA c) 44)).drew (w1_.heap.size) = recA c := by first | (go_simp; done) | (go_simp; intro he; exfalso; omega)
      have F8 : frOf (w2_.alloc (.cells (recA c) 44)).drew (w1_.heap.size) = (0, 0) := by first | (go_simp; done) | (go_simp; intro he; exfalso; omega)
      have R11 : rowOf (w2_.alloc (.cells (recA c) 44)).drew (w2_.heap.size) = recA c := by first | (go_simp; done) | (go_simp; intro he; exfalso; omega)
      have F11 : frOf (w2_.alloc (.cells (recA c) 44)).drew (w2_.heap.size) = (0, 0) := by first | (go_simp; done) | (go_simp; intro he; exfalso; omega)
      clear a0r a0f a0n a0c a0z a1r a1f a1n a1c a1z
      refine wp_region_chain (by kernel_rfl) (some 81 :: some 82 :: some 83 :: some 84 :: some 85 :: some 86 :: some 87 :: some 88 :: some 89 :: some 90 :: some 91 :: some 92 :: some 93 :: some 94 :: some 95 :: some 96 :: some 97 :: some 98 :: some 99 :: some 100 :: some 101 :: some 102 :: some 103 :: some 104 :: some 105 :: some 106 :: some 107 :: some 108 :: some 109 :: some 110 :: some 111 :: some 112 :: some 113 :: some 114 :: some 115 :: some 116 :: some 2 :: []) (iv 0 :: .bool true :: .bool true :: .agg (recA c) :: .agg (recA c) :: .bool true :: .bool true :: .bool true :: iv 0 :: .pointer (some ⟨w.heap.size, 1, none⟩) :: iv 1 :: iv 0 :: .bool true :: .bool true :: .bool true :: .pointer (some ⟨w1_.heap.size, 4, none⟩) :: iv c.floor :: .pointer (some ⟨w.heap.size, 4, none⟩) :: iv floor :: .bool true :: .bool true :: .bool true :: iv 0 :: .pointer (some ⟨w1_.heap.size, 5, none⟩) :: .pointer (some ⟨w1_.heap.size, 5, none⟩) :: .pointer (some ⟨w1_.heap.size, 5, none⟩) :: iv c.a.ver :: .pointer (some ⟨w1_.heap.size, 4, none⟩) :: iv c.floor :: .bool true :: .bool true :: .bool true :: .agg (recA c) :: iv 0 :: .bool true :: .bool true :: .bool true :: []) 117 rfl rfl (by decide +kernel) (by decide +kernel) (by decide +kernel) rfl ?_ ?_
      · refine ⟨.inl ⟨rfl, fun done a wq hw h => ?_⟩, ?_⟩
        · have e9 := ch_old (t := 9) (v := iv 0) h rfl rfl; exact ch_move (ch_ev e9)
        refine ⟨.inl ⟨rfl, fun done a wq hw h => ?_⟩, ?_⟩
        · have e81 := ch_new (i := 0) (t := 81) h (hw 0 (by decide)) rfl rfl; exact ch_eql_int (by kernel_rfl) (ch_ev e81) rfl (by simp)
        refine ⟨.inl ⟨rfl, fun done a wq hw h => ?_⟩, ?_⟩
        · have e82 := ch_new (i := 1) (t := 82) h (hw 1 (by decide)) rfl rfl; exact ch_move (ch_ev e82)
        refine ⟨.inl ⟨rfl, fun done a wq hw h => ?_⟩, ?_⟩
        · have e11 := ch_old (t := 11) (v := .pointer (some ⟨w2_.heap.size, 0, none⟩)) h rfl rfl; obtain ⟨r_, f_, n_, c_, z_, l_⟩ := keep1 h.bel R11 (by simp [recA]) F11; refine ch_pure ?_; go_simp
        refine ⟨.inl ⟨rfl, fun done a wq hw h => ?_⟩, ?_⟩
        · have e8 := ch_old (t := 8) (v := .pointer (some ⟨w1_.heap.size, 0, none⟩)) h rfl rfl; obtain ⟨r_, f_, n_, c_, z_, l_⟩ := keep1 h.bel R8 (by simp [recA]) F8; refine ch_pure ?_; go_simp
        refine ⟨.inl ⟨rfl, fun done a wq hw h => ?_⟩, ?_⟩
        · have e84 := ch_new (i := 3) (t := 84) h (hw 3 (by decide)) rfl rfl; have e85 := ch_new (i := 4) (t := 85) h (hw 4 (by decide)) rfl rfl; refine ch_pure ?_; go_simp
        refine ⟨.inl ⟨rfl, fun done a wq hw h => ?_⟩, ?_⟩
        · have e83 := ch_new (i := 2) (t := 83) h (hw 2 (by decide)) rfl rfl; have e86 := ch_new (i := 5) (t := 86) h (hw 5 (by decide)) rfl rfl; exact ch_pick_t e83 (ch_ev e86)
        refine ⟨.inl ⟨rfl, fun done a wq hw h => ?_⟩, ?_⟩
        · have e87 := ch_new (i := 6) (t := 87) h (hw 6 (by decide)) rfl rfl; exact ch_move (ch_ev e87)
        refine ⟨.inl ⟨rfl, fun done a wq hw h => ?_⟩, ?_⟩
        · have e10 := ch_old (t := 10) (v := iv 0) h rfl rfl; exact ch_move (ch_ev e10)
        refine ⟨.inl ⟨rfl, fun done a wq hw h => ?_⟩, ?_⟩
        · have e1 := ch_old (t := 1) (v := .pointer (some ⟨w.heap.size, 0, none⟩)) h rfl rfl; refine ch_pure ?_; go_simp
        refine ⟨.inl ⟨rfl, fun done a wq hw h => ?_⟩, ?_⟩
        · have e90 := ch_new (i := 9) (t := 90) h (hw 9 (by decide)) rfl rfl; obtain ⟨r_, f_, n_, c_, z_, l_⟩ := keep1 h.bel R1 (by simp [recA]) F1; refine ch_pure ?_; go_simp
        refine ⟨.inl ⟨rfl, fun done a wq hw h => ?_⟩, ?_⟩
        · have e91 := ch_new (i := 10) (t := 91) h (hw 10 (by decide)) rfl rfl; refine ch_pure ?_; first | (go_simp; done) | (go_simp; rfl)
        refine ⟨.inl ⟨rfl, fun done a wq hw h => ?_⟩, ?_⟩
        · have e89 := ch_new (i := 8) (t := 89) h (hw 8 (by decide)) rfl rfl; have e92 := ch_new (i := 11) (t := 92) h (hw 11 (by decide)) rfl rfl; exact ch_eql_int (by kernel_rfl) (ch_ev e89) (ch_ev e92) (by simp)
        refine ⟨.inl ⟨rfl, fun done a wq hw h => ?_⟩, ?_⟩
        · have e88 := ch_new (i := 7) (t := 88) h (hw 7 (by decide)) rfl rfl; have e93 := ch_new (i := 12) (t := 93) h (hw 12 (by decide)) rfl rfl; exact ch_pick_t e88 (ch_ev e93)
        refine ⟨.inl ⟨rfl, fun done a wq hw h => ?_⟩, ?_⟩
        · have e94 := ch_new (i := 13) (t := 94) h (hw 13 (by decide)) rfl rfl; exact ch_move (ch_ev e94)
        refine ⟨.inl ⟨rfl, fun done a wq hw h => ?_⟩, ?_⟩
        · have e8 := ch_old (t := 8) (v := .pointer (some ⟨w1_.heap.size, 0, none⟩)) h rfl rfl; refine ch_pure ?_; go_simp
        refine ⟨.inl ⟨rfl, fun done a wq hw h => ?_⟩, ?_⟩
        · have e96 := ch_new (i := 15) (t := 96) h (hw 15 (by decide)) rfl rfl; obtain ⟨r_, f_, n_, c_, z_, l_⟩ := keep1 h.bel R8 (by simp [recA]) F8; refine ch_pure ?_; go_simp
        refine ⟨.inl ⟨rfl, fun done a wq hw h => ?_⟩, ?_⟩
        · have e1 := ch_old (t := 1) (v := .pointer (some ⟨w.heap.size, 0, none⟩)) h rfl rfl; refine ch_pure ?_; go_simp
        refine ⟨.inl ⟨rfl, fun done a wq hw h => ?_⟩, ?_⟩
        · have e98 := ch_new (i := 17) (t := 98) h (hw 17 (by decide)) rfl rfl; obtain ⟨r_, f_, n_, c_, z_, l_⟩ := keep1 h.bel R1 (by simp [recA]) F1; refine ch_pure ?_; go_simp
        refine ⟨.inl ⟨rfl, fun done a wq hw h => ?_⟩, ?_⟩
        · have e97 := ch_new (i := 16) (t := 97) h (hw 16 (by decide)) rfl rfl; have e99 := ch_new (i := 18) (t := 99) h (hw 18 (by decide)) rfl rfl; exact ch_geq_int (by kernel_rfl) (ch_ev e97) (ch_ev e99) (by simp; omega)
        refine ⟨.inl ⟨rfl, fun done a wq hw h => ?_⟩, ?_⟩
        · have e95 := ch_new (i := 14) (t := 95) h (hw 14 (by decide)) rfl rfl; have e100 := ch_new (i := 19) (t := 100) h (hw 19 (by decide)) rfl rfl; exact ch_pick_t e95 (ch_ev e100)
        refine ⟨.inl ⟨rfl, fun done a wq hw h => ?_⟩, ?_⟩
        · have e101 := ch_new (i := 20) (t := 101) h (hw 20 (by decide)) rfl rfl; exact ch_move (ch_ev e101)
        refine ⟨.inl ⟨rfl, fun done a wq hw h => ?_⟩, ?_⟩
        · have e10 := ch_old (t := 10) (v := iv 0) h rfl rfl; exact ch_move (ch_ev e10)
        refine ⟨.inl ⟨rfl, fun done a wq hw h => ?_⟩, ?_⟩
        · have e8 := ch_old (t := 8) (v := .pointer (some ⟨w1_.heap.size, 0, none⟩)) h rfl rfl; refine ch_pure ?_; go_simp
        refine ⟨.inl ⟨rfl, fun done a wq hw h => ?_⟩, ?_⟩
        · have e104 := ch_new (i := 23) (t := 104) h (hw 23 (by decide)) rfl rfl; have e103 := ch_new (i := 22) (t := 103) h (hw 22 (by decide)) rfl rfl; refine ch_pure ?_; go_simp
        refine ⟨.inl ⟨rfl, fun done a wq hw h => ?_⟩, ?_⟩
        · have e105 := ch_new (i := 24) (t := 105) h (hw 24 (by decide)) rfl rfl; refine ch_pure ?_; go_simp
        refine ⟨.inl ⟨rfl, fun done a wq hw h => ?_⟩, ?_⟩
        · have e106 := ch_new (i := 25) (t := 106) h (hw 25 (by decide)) rfl rfl; obtain ⟨r_, f_, n_, c_, z_, l_⟩ := keep1 h.bel R8 (by simp [recA]) F8; refine ch_pure ?_; go_simp
        refine ⟨.inl ⟨rfl, fun done a wq hw h => ?_⟩, ?_⟩
        · have e8 := ch_old (t := 8) (v := .pointer (some ⟨w1_.heap.size, 0, none⟩)) h rfl rfl; refine ch_pure ?_; go_simp
        refine ⟨.inl ⟨rfl, fun done a wq hw h => ?_⟩, ?_⟩
        · have e108 := ch_new (i := 27) (t := 108) h (hw 27 (by decide)) rfl rfl; obtain ⟨r_, f_, n_, c_, z_, l_⟩ := keep1 h.bel R8 (by simp [recA]) F8; refine ch_pure ?_; go_simp
        refine ⟨.inl ⟨rfl, fun done a wq hw h => ?_⟩, ?_⟩
        · have e107 := ch_new (i := 26) (t := 107) h (hw 26 (by decide)) rfl rfl; have e109 := ch_new (i := 28) (t := 109) h (hw 28 (by decide)) rfl rfl; exact ch_leq_int (by kernel_rfl) (ch_ev e107) (ch_ev e109) (by simp; omega)
        refine ⟨.inl ⟨rfl, fun done a wq hw h => ?_⟩, ?_⟩
        · have e102 := ch_new (i := 21) (t := 102) h (hw 21 (by decide)) rfl rfl; have e110 := ch_new (i := 29) (t := 110) h (hw 29 (by decide)) rfl rfl; exact ch_pick_t e102 (ch_ev e110)
        refine ⟨.inl ⟨rfl, fun done a wq hw h => ?_⟩, ?_⟩
        · have e111 := ch_new (i := 30) (t := 111) h (hw 30 (by decide)) rfl rfl; exact ch_move (ch_ev e111)
        refine ⟨.inl ⟨rfl, fun done a wq hw h => ?_⟩, ?_⟩
        · have e8 := ch_old (t := 8) (v := .pointer (some ⟨w1_.heap.size, 0, none⟩)) h rfl rfl; obtain ⟨r_, f_, n_, c_, z_, l_⟩ := keep1 h.bel R8 (by simp [recA]) F8; refine ch_pure ?_; go_simp
        refine ⟨.inl ⟨rfl, fun done a wq hw h => ?_⟩, ?_⟩
        · have e113 := ch_new (i := 32) (t := 113) h (hw 32 (by decide)) rfl rfl; exact ch_call (by go_simp) (by go_simp) (Kf.out _)
        refine ⟨.inl ⟨rfl, fun done a wq hw h => ?_⟩, ?_⟩
        · have e114 := ch_new (i := 33) (t := 114) h (hw 33 (by decide)) rfl rfl; exact ch_eql_int (by kernel_rfl) (ch_ev e114) rfl (by simp)
        refine ⟨.inl ⟨rfl, fun done a wq hw h => ?_⟩, ?_⟩
        · have e112 := ch_new (i := 31) (t := 112) h (hw 31 (by decide)) rfl rfl; have e115 := ch_new (i := 34) (t := 115) h (hw 34 (by decide)) rfl rfl; exact ch_pick_t e112 (ch_ev e115)
        refine ⟨.inl ⟨rfl, fun done a wq hw h => ?_⟩, ?_⟩
        · have e116 := ch_new (i := 35) (t := 116) h (hw 35 (by decide)) rfl rfl; exact ch_assign (ch_ev e116)
        exact trivial
      · intro w3_ hb
        go_wp2_with fail
        have hs2 := HB2.out.size
        refine bodyPost_ret (results_tmp rfl _ _ _) rfl ⟨by kernel_rfl, Below.trans ?_ (hb.mono (by simp; omega))⟩
        exact HB2.out.alloc hs2 _

theorem RecordStarts_walk (w : World) (v0 : Value) (x0 : Rec) (g0 : ArgRec v0 x0) : Calls Try.prog 9 #[v0] w (RetB w (.bool true)) := by
  unfold ArgRec at g0
  subst g0
  by_cases h : recCheck x0 = 0
  · obtain ⟨gen, act, tr, tries, floor, a, b⟩ := x0
    have hact := (recCheck_parts h).1
    unfold RangeOk at hact
    have : act = 0 ∨ act = 1 := by
      obtain ⟨_, _, h1, h2, _⟩ := hact
      have h1' : 0 ≤ act := h1
      have h2' : act ≤ 1 := h2
      omega
    rcases this with rfl | rfl <;> cases tr
    · exact starts_0false _ _ _ _ _ h w kept_calls
    · exact starts_0true _ _ _ _ _ h w kept_calls
    · exact starts_1false _ _ _ _ _ h w kept_calls
    · exact starts_1true _ _ _ _ _ h w kept_calls
  · exact starts_bad x0 w h
end Go.Proofs.Ytefkfglkpebbmaa
