/- The document's answer on records: in, CheckRecord. -/
import Derived.Test.YtefkfglkpebbmaaRecConfirm
namespace Go.Proofs.Ytefkfglkpebbmaa
open Go.RowKit
set_option linter.unusedVariables false

def within (n a b : Int) : Bool := decide (a ≤ n) && decide (n ≤ b)
theorem in_calls (n a b : Int) (w : World) : Calls Try.prog 52 #[iv n, iv a, iv b] w (Ret w (.bool (within n a b))) := by
  go_enter Try.func52, Try.ntmps52
  by_cases h : a ≤ n
  · go_wp2_with fail
    go_ret
    exact ⟨ret_bool (by unfold within; rw [decide_eq_true h]; rfl), rfl⟩
  · go_wp2_with fail
    go_ret
    exact ⟨ret_bool (by unfold within; rw [decide_eq_false (by omega)]; rfl), rfl⟩

/-- Both slots' images. -/
def infsA (x y : Inf) : Array Value := #[iv x.ver, iv x.size, iv x.sum, iv y.ver, iv y.size, iv y.sum]
@[go_sem] theorem recA_ex5_11 (r : Rec) : (recA r).extract 5 11 = infsA r.a r.b := by simp [recA, infsA]
@[go_sem] theorem infsA_size (x y : Inf) : (infsA x y).size = 6 := by simp [infsA]
def rangeB (r : Rec) : Bool := within r.gen 1 1000000 && within r.active 0 1 && within r.tries 0 3 && within r.floor 1 30
def infB (x : Inf) : Bool := within x.ver 0 30 && within x.size 0 64 && within x.sum 0 65535
theorem rangeB_iff (r : Rec) : rangeB r = true ↔ RangeOk r := by
  unfold rangeB within RangeOk
  simp [and_assoc]
theorem infB_iff (x : Inf) : infB x = true ↔ InfRange x := by
  unfold infB within InfRange
  simp [and_assoc]
theorem recCheck_sum {r : Rec} (h : RangeOk r) (ha : infCheck r.a = 0) (hb : infCheck r.b = 0) : recCheck r = if FormOk r then 0 else 3 := by
  unfold recCheck; rw [if_pos h, if_pos ha, if_pos hb]

set_option maxRecDepth 100000 in
set_option maxHeartbeats 4000000 in
theorem refRecCheck_bad (r : Rec) (w : World) (h : ¬ RangeOk r) : Calls Try.prog 30 #[.agg (recA r)] w (RetB w (iv (recCheck r))) := by
  have hE : recCheck r = 2 := recCheck_bad h
  have hb : rangeB r = false := by rw [← Bool.not_eq_true, rangeB_iff]; exact h
  have HE := Lib.hid hE
  clear h hE
  unfold rangeB at hb
  go_enter Try.func30, Try.ntmps30
  go_wp2_with fail
  refine (in_calls _ _ _ _).mono ?_
  rintro e w0 ⟨rfl, rfl⟩
  cases h0 : within r.gen 1 1000000
  · clear hb
    go_wp2_with fail
    go_ret
    exact ⟨ret_int HE.out.symm, (Below.refl _ _).alloc (Nat.le_refl _) _⟩
  · have _u := hb
    clear _u
    go_wp2_with fail
    refine (in_calls _ _ _ _).mono ?_
    rintro e w1 ⟨rfl, rfl⟩
    cases h1 : within r.active 0 1
    · clear hb
      go_wp2_with fail
      go_ret
      exact ⟨ret_int HE.out.symm, (Below.refl _ _).alloc (Nat.le_refl _) _⟩
    · have _u := hb
      clear _u
      go_wp2_with fail
      refine (in_calls _ _ _ _).mono ?_
      rintro e w2 ⟨rfl, rfl⟩
      cases h2 : within r.tries 0 3
      · clear hb
        go_wp2_with fail
        go_ret
        exact ⟨ret_int HE.out.symm, (Below.refl _ _).alloc (Nat.le_refl _) _⟩
      · have _u := hb
        clear _u
        go_wp2_with fail
        refine (in_calls _ _ _ _).mono ?_
        rintro e w3 ⟨rfl, rfl⟩
        cases h3 : within r.floor 1 30
        · clear hb
          go_wp2_with fail
          go_ret
          exact ⟨ret_int HE.out.symm, (Below.refl _ _).alloc (Nat.le_refl _) _⟩
        · simp [h0, h1, h2, h3] at hb

set_option maxRecDepth 100000 in
set_option maxHeartbeats 8000000 in
theorem refRecCheck_ok (r : Rec) (w : World) (h : RangeOk r) : Calls Try.prog 30 #[.agg (recA r)] w (RetB w (iv (recCheck r))) := by
  have i0 : ∀ w, (Instr.index 42 (.agg (infsA r.a r.b)) (.int .i64 0)).run Try.prog w = .ok (.agg (infA r.a)) w := fun _ => by kernel_rfl
  have i1 : ∀ w, (Instr.index 42 (.agg (infsA r.a r.b)) (.int .i64 1)).run Try.prog w = .ok (.agg (infA r.b)) w := fun _ => by kernel_rfl
  have HR := Lib.hid h
  have hb : rangeB r = true := (rangeB_iff r).2 h
  unfold rangeB at hb
  simp only [Bool.and_eq_true] at hb
  obtain ⟨⟨⟨h0, h1⟩, h2⟩, h3⟩ := hb
  clear h
  go_enter Try.func30, Try.ntmps30
  go_wp2_with fail
  refine (in_calls _ _ _ _).mono ?_
  rintro e w0 ⟨rfl, rfl⟩
  go_wp2_with fail
  refine (in_calls _ _ _ _).mono ?_
  rintro e w1 ⟨rfl, rfl⟩
  go_wp2_with fail
  refine (in_calls _ _ _ _).mono ?_
  rintro e w2 ⟨rfl, rfl⟩
  go_wp2_with fail
  refine (in_calls _ _ _ _).mono ?_
  rintro e w3 ⟨rfl, rfl⟩
  go_wp2_with fail
  clear h0 h1 h2 h3
  go_loopw [31] (fun i wr => ∃ k : Nat, k ≤ 2 ∧ i = .int .i64 k ∧ Below w.heap.size w wr ∧ rowOf wr w.heap.size = recA r ∧ (0 < k → infCheck r.a = 0) ∧ (1 < k → infCheck r.b = 0)) (fun i _ => (2 - intOf i).toNat)
  case atStart => exact ⟨0, by omega, rfl, (Below.refl _ _).alloc (Nat.le_refl _) _, by rw [rowOf_alloc, if_pos rfl], by omega, by omega⟩
  case round =>
    obtain ⟨k, hk, rfl, hB, hrow, ha, hb⟩ := hrel
    have HB := Lib.hid hB
    have HW := Lib.hid hrow
    have hp : 0 < (rowOf wr w.heap.size).size := by rw [hrow, recA_size]; decide
    have hlw := row_lt hp
    have hs := hB.size
    clear hrow hB
    by_cases hlt : k < 2
    · rcases (show k = 0 ∨ k = 1 by omega) with rfl | rfl
      · have _u := ha
        clear _u ha hb
        clear hp
        by_cases hi : InfRange r.a
        · have HI := Lib.hid hi
          have hb := (infB_iff r.a).2 hi
          unfold infB at hb
          simp only [Bool.and_eq_true] at hb
          obtain ⟨⟨g0, g1⟩, g2⟩ := hb
          have hi1 := hi.2.2.1
          have hi2 := hi.2.2.2.2.1
          clear hi
          go_wp2_with fail
          refine (in_calls _ _ _ _).mono ?_
          rintro e v0 ⟨rfl, rfl⟩
          go_wp2_with fail
          refine (in_calls _ _ _ _).mono ?_
          rintro e v1 ⟨rfl, rfl⟩
          go_wp2_with fail
          refine (in_calls _ _ _ _).mono ?_
          rintro e v2 ⟨rfl, rfl⟩
          by_cases hv : r.a.ver = 0
          · have hv' : (r.a.ver == 0) = true := by simp [hv]
            by_cases hz : 0 < r.a.size
            · have HE := Lib.hid (recCheck_a HR.out (infCheck_form HI.out hv (by omega)) (by omega))
              clear hv
              go_wp2_with fail
              go_ret
              exact ⟨ret_int HE.out.symm, HB.out.alloc HB.out.size _⟩
            · by_cases hy : 0 < r.a.sum
              · have HE := Lib.hid (recCheck_a HR.out (infCheck_form HI.out hv (by omega)) (by omega))
                clear hv
                go_wp2_with fail
                go_ret
                exact ⟨ret_int HE.out.symm, HB.out.alloc HB.out.size _⟩
              · have HO := Lib.hid (infCheck_ok HI.out (fun _ => (by omega : r.a.size = 0 ∧ r.a.sum = 0)))
                clear hv
                go_wp2_with fail
                go_roundw
                case rel => exact ⟨1, by omega, rfl, HB.out.alloc HB.out.size _, by rw [rowOf_alloc, if_neg (by omega), HW.out], fun _ => HO.out, by omega⟩
                case measure => simp [intOf] <;> omega
          · have hv' : (r.a.ver == 0) = false := by simp [hv]
            have HO := Lib.hid (infCheck_ok HI.out (fun q => absurd q hv))
            clear hv
            go_wp2_with fail
            go_roundw
            case rel => exact ⟨1, by omega, rfl, HB.out.alloc HB.out.size _, by rw [rowOf_alloc, if_neg (by omega), HW.out], fun _ => HO.out, by omega⟩
            case measure => simp [intOf] <;> omega
        · have HE := Lib.hid (recCheck_a HR.out (infCheck_bad hi) (by omega))
          have hb : infB r.a = false := by rw [← Bool.not_eq_true, infB_iff]; exact hi
          unfold infB at hb
          clear hi
          go_wp2_with fail
          refine (in_calls _ _ _ _).mono ?_
          rintro e v0 ⟨rfl, rfl⟩
          cases g0 : within r.a.ver 0 30
          · clear hb
            go_wp2_with fail
            go_ret
            exact ⟨ret_int HE.out.symm, HB.out.alloc HB.out.size _⟩
          · have _u := hb
            clear _u
            go_wp2_with fail
            refine (in_calls _ _ _ _).mono ?_
            rintro e v1 ⟨rfl, rfl⟩
            cases g1 : within r.a.size 0 64
            · clear hb
              go_wp2_with fail
              go_ret
              exact ⟨ret_int HE.out.symm, HB.out.alloc HB.out.size _⟩
            · have _u := hb
              clear _u
              go_wp2_with fail
              refine (in_calls _ _ _ _).mono ?_
              rintro e v2 ⟨rfl, rfl⟩
              cases g2 : within r.a.sum 0 65535
              · clear hb
                go_wp2_with fail
                go_ret
                exact ⟨ret_int HE.out.symm, HB.out.alloc HB.out.size _⟩
              · simp [g0, g1, g2] at hb
      · have HA := Lib.hid (ha (by omega))
        clear ha hb
        clear hp
        by_cases hi : InfRange r.b
        · have HI := Lib.hid hi
          have hb := (infB_iff r.b).2 hi
          unfold infB at hb
          simp only [Bool.and_eq_true] at hb
          obtain ⟨⟨g0, g1⟩, g2⟩ := hb
          have hi1 := hi.2.2.1
          have hi2 := hi.2.2.2.2.1
          clear hi
          go_wp2_with fail
          refine (in_calls _ _ _ _).mono ?_
          rintro e v0 ⟨rfl, rfl⟩
          go_wp2_with fail
          refine (in_calls _ _ _ _).mono ?_
          rintro e v1 ⟨rfl, rfl⟩
          go_wp2_with fail
          refine (in_calls _ _ _ _).mono ?_
          rintro e v2 ⟨rfl, rfl⟩
          by_cases hv : r.b.ver = 0
          · have hv' : (r.b.ver == 0) = true := by simp [hv]
            by_cases hz : 0 < r.b.size
            · have HE := Lib.hid (recCheck_b HR.out HA.out (infCheck_form HI.out hv (by omega)) (by omega))
              clear hv
              go_wp2_with fail
              go_ret
              exact ⟨ret_int HE.out.symm, HB.out.alloc HB.out.size _⟩
            · by_cases hy : 0 < r.b.sum
              · have HE := Lib.hid (recCheck_b HR.out HA.out (infCheck_form HI.out hv (by omega)) (by omega))
                clear hv
                go_wp2_with fail
                go_ret
                exact ⟨ret_int HE.out.symm, HB.out.alloc HB.out.size _⟩
              · have HO := Lib.hid (infCheck_ok HI.out (fun _ => (by omega : r.b.size = 0 ∧ r.b.sum = 0)))
                clear hv
                go_wp2_with fail
                go_roundw
                case rel => exact ⟨2, by omega, rfl, HB.out.alloc HB.out.size _, by rw [rowOf_alloc, if_neg (by omega), HW.out], fun _ => HA.out, fun _ => HO.out⟩
                case measure => simp [intOf] <;> omega
          · have hv' : (r.b.ver == 0) = false := by simp [hv]
            have HO := Lib.hid (infCheck_ok HI.out (fun q => absurd q hv))
            clear hv
            go_wp2_with fail
            go_roundw
            case rel => exact ⟨2, by omega, rfl, HB.out.alloc HB.out.size _, by rw [rowOf_alloc, if_neg (by omega), HW.out], fun _ => HA.out, fun _ => HO.out⟩
            case measure => simp [intOf] <;> omega
        · have HE := Lib.hid (recCheck_b HR.out HA.out (infCheck_bad hi) (by omega))
          have hb : infB r.b = false := by rw [← Bool.not_eq_true, infB_iff]; exact hi
          unfold infB at hb
          clear hi
          go_wp2_with fail
          refine (in_calls _ _ _ _).mono ?_
          rintro e v0 ⟨rfl, rfl⟩
          cases g0 : within r.b.ver 0 30
          · clear hb
            go_wp2_with fail
            go_ret
            exact ⟨ret_int HE.out.symm, HB.out.alloc HB.out.size _⟩
          · have _u := hb
            clear _u
            go_wp2_with fail
            refine (in_calls _ _ _ _).mono ?_
            rintro e v1 ⟨rfl, rfl⟩
            cases g1 : within r.b.size 0 64
            · clear hb
              go_wp2_with fail
              go_ret
              exact ⟨ret_int HE.out.symm, HB.out.alloc HB.out.size _⟩
            · have _u := hb
              clear _u
              go_wp2_with fail
              refine (in_calls _ _ _ _).mono ?_
              rintro e v2 ⟨rfl, rfl⟩
              cases g2 : within r.b.sum 0 65535
              · clear hb
                go_wp2_with fail
                go_ret
                exact ⟨ret_int HE.out.symm, HB.out.alloc HB.out.size _⟩
              · simp [g0, g1, g2] at hb
    · obtain rfl : k = 2 := by omega
      have HE := Lib.hid (recCheck_sum HR.out (ha (by omega)) (hb (by omega)))
      have hr := HR.out
      obtain ⟨c0, f0⟩ : (∀ j, wr.cell? ⟨w.heap.size, j, none⟩ = (recA r)[j]?) ∧ rowOf wr w.heap.size = recA r := ⟨fun j => by rw [cell_row hp, HW.out], HW.out⟩
      have hfl := hr.2.2.2.2.2.2.1
      have hfm := hr.2.2.2.2.2.2.2
      have htr := hr.2.2.2.2.1
      have hts := hr.2.2.2.2.2.1
      have hk1 : r.active = 0 ∨ r.active = 1 := by have := hr.2.2.1; have := hr.2.2.2.1; omega
      clear ha hb hp hr
      have hF : FormOk r = ((r.at_ r.active).ver ≠ 0 ∧ (r.trying = true → (r.at_ (1 - r.active)).ver ≠ 0 ∧ r.floor ≤ (r.at_ (1 - r.active)).ver) ∧ (r.trying = false → r.tries = 0) ∧ r.floor ≤ (r.at_ r.active).ver) := rfl
      have HF := Lib.hid hF
      clear hF
      rcases hk1 with hk1 | hk1
      · have H1 : Hid (FormOk r = (r.a.ver ≠ 0 ∧ (r.trying = true → r.b.ver ≠ 0 ∧ r.floor ≤ r.b.ver) ∧ (r.trying = false → r.tries = 0) ∧ r.floor ≤ r.a.ver)) := Lib.hid (HF.out.trans (by simp [Rec.at_, hk1]))
        clear HF
        go_wp2_with fail
        go_quiet (fail)
        by_cases hn : r.a.ver < r.floor
        · cases ht : r.trying
          all_goals (
            have HC := Lib.hid (HE.out.trans (if_neg (by rw [H1.out]; simp [ht] <;> omega)))
            clear H1 HE
            go_wp2_with fail
            go_ret
            exact ⟨ret_int HC.out.symm, Below.drewN' HB.out _⟩)
        · cases ht : r.trying
          · by_cases hy : 0 < r.tries
            · have _u := hy
              have HC := Lib.hid (HE.out.trans (if_neg (by rw [H1.out]; simp [ht] <;> omega)))
              clear H1 HE
              go_wp2_with fail
              go_ret
              exact ⟨ret_int HC.out.symm, Below.drewN' HB.out _⟩
            · have _u := hy
              have HC := Lib.hid (HE.out.trans (if_pos (by rw [H1.out]; simp [ht] <;> omega)))
              clear H1 HE
              go_wp2_with fail
              go_ret
              exact ⟨ret_int HC.out.symm, Below.drewN' HB.out _⟩
          · by_cases hm : r.b.ver < r.floor
            · have _u := hm
              have HC := Lib.hid (HE.out.trans (if_neg (by rw [H1.out]; simp [ht] <;> omega)))
              clear H1 HE
              go_wp2_with fail
              go_ret
              exact ⟨ret_int HC.out.symm, Below.drewN' HB.out _⟩
            · by_cases hy : 0 < r.tries
              · have _u := hy
                have HC := Lib.hid (HE.out.trans (if_pos (by rw [H1.out]; simp [ht] <;> omega)))
                clear H1 HE
                go_wp2_with fail
                go_ret
                exact ⟨ret_int HC.out.symm, Below.drewN' HB.out _⟩
              · have _u := hy
                have HC := Lib.hid (HE.out.trans (if_pos (by rw [H1.out]; simp [ht] <;> omega)))
                clear H1 HE
                go_wp2_with fail
                go_ret
                exact ⟨ret_int HC.out.symm, Below.drewN' HB.out _⟩
      · have H1 : Hid (FormOk r = (r.b.ver ≠ 0 ∧ (r.trying = true → r.a.ver ≠ 0 ∧ r.floor ≤ r.a.ver) ∧ (r.trying = false → r.tries = 0) ∧ r.floor ≤ r.b.ver)) := Lib.hid (HF.out.trans (by simp [Rec.at_, hk1]))
        clear HF
        go_wp2_with fail
        go_quiet (fail)
        by_cases hn : r.b.ver < r.floor
        · cases ht : r.trying
          all_goals (
            have HC := Lib.hid (HE.out.trans (if_neg (by rw [H1.out]; simp [ht] <;> omega)))
            clear H1 HE
            go_wp2_with fail
            go_ret
            exact ⟨ret_int HC.out.symm, Below.drewN' HB.out _⟩)
        · cases ht : r.trying
          · by_cases hy : 0 < r.tries
            · have _u := hy
              have HC := Lib.hid (HE.out.trans (if_neg (by rw [H1.out]; simp [ht] <;> omega)))
              clear H1 HE
              go_wp2_with fail
              go_ret
              exact ⟨ret_int HC.out.symm, Below.drewN' HB.out _⟩
            · have _u := hy
              have HC := Lib.hid (HE.out.trans (if_pos (by rw [H1.out]; simp [ht] <;> omega)))
              clear H1 HE
              go_wp2_with fail
              go_ret
              exact ⟨ret_int HC.out.symm, Below.drewN' HB.out _⟩
          · by_cases hm : r.a.ver < r.floor
            · have _u := hm
              have HC := Lib.hid (HE.out.trans (if_neg (by rw [H1.out]; simp [ht] <;> omega)))
              clear H1 HE
              go_wp2_with fail
              go_ret
              exact ⟨ret_int HC.out.symm, Below.drewN' HB.out _⟩
            · by_cases hy : 0 < r.tries
              · have _u := hy
                have HC := Lib.hid (HE.out.trans (if_pos (by rw [H1.out]; simp [ht] <;> omega)))
                clear H1 HE
                go_wp2_with fail
                go_ret
                exact ⟨ret_int HC.out.symm, Below.drewN' HB.out _⟩
              · have _u := hy
                have HC := Lib.hid (HE.out.trans (if_pos (by rw [H1.out]; simp [ht] <;> omega)))
                clear H1 HE
                go_wp2_with fail
                go_ret
                exact ⟨ret_int HC.out.symm, Below.drewN' HB.out _⟩

theorem refRecCheck_calls (r : Rec) (w : World) : Calls Try.prog 30 #[.agg (recA r)] w (RetB w (iv (recCheck r))) := by
  by_cases h : RangeOk r
  · exact refRecCheck_ok r w h
  · exact refRecCheck_bad r w h
end Go.Proofs.Ytefkfglkpebbmaa
