/- Walks of functions, and plain words. No conditions. -/
import Derived.Test.YtefkfglkpebbmacGreatPE5
import Derived.Test.YtefkfglkpebbmacGreatP6
set_option linter.unusedVariables false
set_option linter.unusedSimpArgs false
set_option maxRecDepth 100000
set_option maxHeartbeats 40000000
namespace Go.Proofs.YtefkfglkpebbmacGreat
open Go.RowKit
variable {k : Nat}
theorem x29 {p : Prop} (h : p := by
 have _u := hy
 have HC := hD (HE.out.trans (if_pos (by rw [H1.out]; simp [ht] <;> omega)))
 clear H1 HE
 go_wp2_with fail
 go_ret
 exact ⟨ret_int HC.out.symm, Below.drewN' HB.out _⟩) : p := h
theorem x33 {p : Prop} (h : p := by
 clear H1 HE
 go_wp2_with fail
 go_ret
 exact ⟨ret_int HC.out.symm, Below.drewN' HB.out _⟩) : p := h
theorem x46 {p : Prop} (h : p := by
 go_wp2_with fail
 go_ret
 exact ⟨ret_int HE.out.symm, HB.out.alloc HB.out.size _⟩) : p := h
theorem x95 {p : Prop} (h : p := by
 clear hb
 go_wp2_with fail
 go_ret
 exact ⟨ret_int HE.out.symm, (Below.refl _ _).alloc (Nat.le_refl _) _⟩) : p := h
theorem x114 {p : Prop} (h : p := by
 clear hv
 go_wp2_with fail
 go_roundw
 case rel => exact ⟨2, by omega, rfl, HB.out.alloc HB.out.size _, by rw [rowOf_alloc, if_neg (by omega), HW.out], fun _ => HA.out, fun _ => HO.out⟩
 case measure => simp [intOf] <;> omega) : p := h
theorem x115 {p : Prop} (h : p := by
 clear hv
 go_wp2_with fail
 go_roundw
 case rel => exact ⟨1, by omega, rfl, HB.out.alloc HB.out.size _, by rw [rowOf_alloc, if_neg (by omega), HW.out], fun _ => HO.out, by omega⟩
 case measure => simp [intOf] <;> omega) : p := h
def within (n a b : Int) : Bool := decide (a <= n) && decide (n <= b)
theorem in_calls (n a b : Int) (w : World) : Calls Tryz.prog 25 #[iv n, iv a, iv b] w (Ret w (.bool (within n a b))) := by
 go_enter Tryz.func25, Tryz.ntmps25
 by_cases h : a <= n
 ·go_wp2_with fail
  go_ret
  exact ⟨ret_bool (by unfold within; rw [decide_eq_true h]; rfl), rfl⟩
 go_wp2_with fail
 go_ret
 exact ⟨ret_bool (by unfold within; rw [decide_eq_false (by omega)]; rfl), rfl⟩
def infsA (x y : Inf) : Array Value := #[iv x.ver, iv x.size, iv x.sum, iv y.ver, iv y.size, iv y.sum]
@[go_sem] theorem recA_ex5_11 (r : Rec) : (recA r).extract 5 11 = infsA r.a r.b := by simp [recA, infsA]
def rangeB (r : Rec) : Bool := within r.gen 1 1000000 && within r.active 0 1 && within r.tries 0 3 && within r.floor 1 30
def infB (x : Inf) : Bool := within x.ver 0 30 && within x.size 0 64 && within x.sum 0 65535
theorem rangeB_iff (r : Rec) : rangeB r = true ↔ RangeOk r := by
 unfold rangeB within RangeOk
 simp [and_assoc]
theorem infB_iff (x : Inf) : infB x = true ↔ InfRange x := by
 unfold infB within InfRange
 simp [and_assoc]
theorem recCheck_sum {r : Rec} (h : RangeOk r) (ha : infCheck r.a = 0) (hb : infCheck r.b = 0) : recCheck r = if FormOk r then 0 else 3 := by
 unfold recCheck; rw [if_pos h, if_pos ha, if_pos hb]
theorem refRecCheck_bad (r : Rec) (w : World) (h : ¬ RangeOk r) : Calls Tryz.prog 61 #[.agg (recA r)] w (RetB w (iv (recCheck r))) := by
 have hE : recCheck r = 2 := recCheck_bad h
 have hb : rangeB r = false := by rw [← Bool.not_eq_true, rangeB_iff]; exact h
 have HE := hD hE
 clear h hE
 unfold rangeB at hb
 go_enter Tryz.func61, Tryz.ntmps61
 go_wp2_with fail
 refine (in_calls _ _ _ _).mono ?_
 rintro e w0 ⟨rfl, rfl⟩
 cases h0 : within r.gen 1 1000000
 ·exact x95
 have _u := hb
 clear _u
 go_wp2_with fail
 refine (in_calls _ _ _ _).mono ?_
 rintro e w1 ⟨rfl, rfl⟩
 cases h1 : within r.active 0 1
 ·exact x95
 have _u := hb
 clear _u
 go_wp2_with fail
 refine (in_calls _ _ _ _).mono ?_
 rintro e w2 ⟨rfl, rfl⟩
 cases h2 : within r.tries 0 3
 ·exact x95
 have _u := hb
 clear _u
 go_wp2_with fail
 refine (in_calls _ _ _ _).mono ?_
 rintro e w3 ⟨rfl, rfl⟩
 cases h3 : within r.floor 1 30
 ·exact x95
 simp [h0, h1, h2, h3] at hb
theorem refRecCheck_ok (r : Rec) (w : World) (h : RangeOk r) : Calls Tryz.prog 61 #[.agg (recA r)] w (RetB w (iv (recCheck r))) := by
 have i0 : ∀ w, (Instr.index 26 (.agg (infsA r.a r.b)) (.int .i64 0)).run Tryz.prog w = .ok (.agg (infA r.a)) w := fun _ => by kernel_rfl
 have i1 : ∀ w, (Instr.index 26 (.agg (infsA r.a r.b)) (.int .i64 1)).run Tryz.prog w = .ok (.agg (infA r.b)) w := fun _ => by kernel_rfl
 have HR := hD h
 have hb : rangeB r = true := (rangeB_iff r).2 h
 unfold rangeB at hb
 simp only [Bool.and_eq_true] at hb
 obtain ⟨⟨⟨h0, h1⟩, h2⟩, h3⟩ := hb
 clear h
 go_enter Tryz.func61, Tryz.ntmps61
 go_wp2_with fail
 refine (in_calls _ _ _ _).mono ?_
 rintro e w0 ⟨rfl, rfl⟩
 go_wp2_with fail
 refine (in_calls _ _ _ _).mono ?_
 rintro e w1 ⟨rfl, rfl⟩
 go_wp2_with fail
 refine (in_calls _ _ _ _).mono ?_
 rintro e w2 ⟨rfl, rfl⟩
 go_wp2_with fail
 refine (in_calls _ _ _ _).mono ?_
 rintro e w3 ⟨rfl, rfl⟩
 go_wp2_with fail
 clear h0 h1 h2 h3
 go_loopw [31] (fun i wr => ∃ k : Nat, k <= 2 ∧ i = .int .i64 k ∧ Below w.heap.size w wr ∧ rowOf wr w.heap.size = recA r ∧ (0 < k -> infCheck r.a = 0) ∧ (1 < k -> infCheck r.b = 0)) (fun i _ => (2 - intOf i).toNat)
 case atStart => exact ⟨0, by omega, rfl, (Below.refl _ _).alloc (Nat.le_refl _) _, by rw [rowOf_alloc, if_pos rfl], by omega, by omega⟩
 case round =>
  obtain ⟨k, hk, rfl, hB, hrow, ha, hb⟩ := hrel
  have HB := hD hB
  have HW := hD hrow
  have hp : 0 < (rowOf wr w.heap.size).size := by rw [hrow, recA_size]; decide
  have hlw := row_lt hp
  have hs := hB.size
  clear hrow hB
  by_cases hlt : k < 2
  ·rcases (show k = 0 ∨ k = 1 by omega) with rfl | rfl
   ·have _u := ha
    clear _u ha hb
    clear hp
    by_cases hi : InfRange r.a
    ·have HI := hD hi
     have hb := (infB_iff r.a).2 hi
     unfold infB at hb
     simp only [Bool.and_eq_true] at hb
     obtain ⟨⟨g0, g1⟩, g2⟩ := hb
     have hi1 := hi.2.2.1
     have hi2 := hi.2.2.2.2.1
     clear hi
     go_wp2_with fail
     refine (in_calls _ _ _ _).mono ?_
     rintro e v0 ⟨rfl, rfl⟩
     go_wp2_with fail
     refine (in_calls _ _ _ _).mono ?_
     rintro e v1 ⟨rfl, rfl⟩
     go_wp2_with fail
     refine (in_calls _ _ _ _).mono ?_
     rintro e v2 ⟨rfl, rfl⟩
     by_cases hv : r.a.ver = 0
     ·have hv' : (r.a.ver == 0) = true := by simp [hv]
      by_cases hz : 0 < r.a.size
      ·have HE := hD (recCheck_a HR.out (infCheck_form HI.out hv (by omega)) (by omega))
       clear hv
       exact x46
      by_cases hy : 0 < r.a.sum
      ·have HE := hD (recCheck_a HR.out (infCheck_form HI.out hv (by omega)) (by omega))
       clear hv
       exact x46
      have HO := hD (infCheck_ok HI.out (fun _ => (by omega : r.a.size = 0 ∧ r.a.sum = 0)))
      exact x115
     have hv' : (r.a.ver == 0) = false := by simp [hv]
     have HO := hD (infCheck_ok HI.out (fun q => absurd q hv))
     exact x115
    have HE := hD (recCheck_a HR.out (infCheck_bad hi) (by omega))
    have hb : infB r.a = false := by rw [← Bool.not_eq_true, infB_iff]; exact hi
    unfold infB at hb
    clear hi
    go_wp2_with fail
    refine (in_calls _ _ _ _).mono ?_
    rintro e v0 ⟨rfl, rfl⟩
    cases g0 : within r.a.ver 0 30
    ·clear hb
     exact x46
    have _u := hb
    clear _u
    go_wp2_with fail
    refine (in_calls _ _ _ _).mono ?_
    rintro e v1 ⟨rfl, rfl⟩
    cases g1 : within r.a.size 0 64
    ·clear hb
     exact x46
    have _u := hb
    clear _u
    go_wp2_with fail
    refine (in_calls _ _ _ _).mono ?_
    rintro e v2 ⟨rfl, rfl⟩
    cases g2 : within r.a.sum 0 65535
    ·clear hb
     exact x46
    simp [g0, g1, g2] at hb
   ·have HA := hD (ha (by omega))
    clear ha hb
    clear hp
    by_cases hi : InfRange r.b
    ·have HI := hD hi
     have hb := (infB_iff r.b).2 hi
     unfold infB at hb
     simp only [Bool.and_eq_true] at hb
     obtain ⟨⟨g0, g1⟩, g2⟩ := hb
     have hi1 := hi.2.2.1
     have hi2 := hi.2.2.2.2.1
     clear hi
     go_wp2_with fail
     refine (in_calls _ _ _ _).mono ?_
     rintro e v0 ⟨rfl, rfl⟩
     go_wp2_with fail
     refine (in_calls _ _ _ _).mono ?_
     rintro e v1 ⟨rfl, rfl⟩
     go_wp2_with fail
     refine (in_calls _ _ _ _).mono ?_
     rintro e v2 ⟨rfl, rfl⟩
     by_cases hv : r.b.ver = 0
     ·have hv' : (r.b.ver == 0) = true := by simp [hv]
      by_cases hz : 0 < r.b.size
      ·have HE := hD (recCheck_b HR.out HA.out (infCheck_form HI.out hv (by omega)) (by omega))
       clear hv
       exact x46
      by_cases hy : 0 < r.b.sum
      ·have HE := hD (recCheck_b HR.out HA.out (infCheck_form HI.out hv (by omega)) (by omega))
       clear hv
       exact x46
      have HO := hD (infCheck_ok HI.out (fun _ => (by omega : r.b.size = 0 ∧ r.b.sum = 0)))
      exact x114
     have hv' : (r.b.ver == 0) = false := by simp [hv]
     have HO := hD (infCheck_ok HI.out (fun q => absurd q hv))
     exact x114
    have HE := hD (recCheck_b HR.out HA.out (infCheck_bad hi) (by omega))
    have hb : infB r.b = false := by rw [← Bool.not_eq_true, infB_iff]; exact hi
    unfold infB at hb
    clear hi
    go_wp2_with fail
    refine (in_calls _ _ _ _).mono ?_
    rintro e v0 ⟨rfl, rfl⟩
    cases g0 : within r.b.ver 0 30
    ·clear hb
     exact x46
    have _u := hb
    clear _u
    go_wp2_with fail
    refine (in_calls _ _ _ _).mono ?_
    rintro e v1 ⟨rfl, rfl⟩
    cases g1 : within r.b.size 0 64
    ·clear hb
     exact x46
    have _u := hb
    clear _u
    go_wp2_with fail
    refine (in_calls _ _ _ _).mono ?_
    rintro e v2 ⟨rfl, rfl⟩
    cases g2 : within r.b.sum 0 65535
    ·clear hb
     exact x46
    simp [g0, g1, g2] at hb
  obtain rfl : k = 2 := by omega
  have HE := hD (recCheck_sum HR.out (ha (by omega)) (hb (by omega)))
  have hr := HR.out
  obtain ⟨c0, f0⟩ : (∀ j, wr.cell? ⟨w.heap.size, j, none⟩ = (recA r)[j]?) ∧ rowOf wr w.heap.size = recA r := ⟨fun j => by rw [cell_row hp, HW.out], HW.out⟩
  have hfl := hr.2.2.2.2.2.2.1
  have hfm := hr.2.2.2.2.2.2.2
  have htr := hr.2.2.2.2.1
  have hts := hr.2.2.2.2.2.1
  have hk1 : r.active = 0 ∨ r.active = 1 := by have := hr.2.2.1; have := hr.2.2.2.1; omega
  clear ha hb hp hr
  have hF : FormOk r = ((r.at_ r.active).ver ≠ 0 ∧ (r.trying = true -> (r.at_ (1 - r.active)).ver ≠ 0 ∧ r.floor <= (r.at_ (1 - r.active)).ver) ∧ (r.trying = false -> r.tries = 0) ∧ r.floor <= (r.at_ r.active).ver) := rfl
  have HF := hD hF
  clear hF
  rcases hk1 with hk1 | hk1
  ·have H1 : Hid (FormOk r = (r.a.ver ≠ 0 ∧ (r.trying = true -> r.b.ver ≠ 0 ∧ r.floor <= r.b.ver) ∧ (r.trying = false -> r.tries = 0) ∧ r.floor <= r.a.ver)) := hD (HF.out.trans (by simp [Rec.at_, hk1]))
   clear HF
   go_wp2_with fail
   go_quiet (fail)
   by_cases hn : r.a.ver < r.floor
   ·cases ht : r.trying
    all_goals (
     have HC := hD (HE.out.trans (if_neg (by rw [H1.out]; simp [ht] <;> omega)))
     exact x33)
   cases ht : r.trying
   ·by_cases hy : 0 < r.tries
    ·have _u := hy
     have HC := hD (HE.out.trans (if_neg (by rw [H1.out]; simp [ht] <;> omega)))
     exact x33
    ·exact x29
   by_cases hm : r.b.ver < r.floor
   ·have _u := hm
    have HC := hD (HE.out.trans (if_neg (by rw [H1.out]; simp [ht] <;> omega)))
    exact x33
   by_cases hy : 0 < r.tries
   ·exact x29
   exact x29
  have H1 : Hid (FormOk r = (r.b.ver ≠ 0 ∧ (r.trying = true -> r.a.ver ≠ 0 ∧ r.floor <= r.a.ver) ∧ (r.trying = false -> r.tries = 0) ∧ r.floor <= r.b.ver)) := hD (HF.out.trans (by simp [Rec.at_, hk1]))
  clear HF
  go_wp2_with fail
  go_quiet (fail)
  by_cases hn : r.b.ver < r.floor
  ·cases ht : r.trying
   all_goals (
    have HC := hD (HE.out.trans (if_neg (by rw [H1.out]; simp [ht] <;> omega)))
    exact x33)
  cases ht : r.trying
  ·by_cases hy : 0 < r.tries
   ·have _u := hy
    have HC := hD (HE.out.trans (if_neg (by rw [H1.out]; simp [ht] <;> omega)))
    exact x33
   ·exact x29
  by_cases hm : r.a.ver < r.floor
  ·have _u := hm
   have HC := hD (HE.out.trans (if_neg (by rw [H1.out]; simp [ht] <;> omega)))
   exact x33
  by_cases hy : 0 < r.tries
  ·exact x29
  exact x29
theorem refRecCheck_calls (r : Rec) (w : World) : Calls Tryz.prog 61 #[.agg (recA r)] w (RetB w (iv (recCheck r))) := by
 by_cases h : RangeOk r
 ·exact refRecCheck_ok r w h
 exact refRecCheck_bad r w h
theorem x133 {p : Prop} (h : p := by
 clear hz
 go_wp2_with fail
 go_ret
 exact ⟨ret_int HE.out.symm, HB1.out⟩) : p := h
theorem x225 {p : Prop} (h : p := by
 clear h0
 go_wp2_with fail
 go_ret
 exact ⟨ret_int HE.out.symm, HB.out⟩) : p := h
def wholes (c d : Cop) (k : Nat) : Int := (if 0 < k ∧ c.ok = true then 1 else 0) + (if 1 < k ∧ d.ok = true then 1 else 0)
theorem wholes_bound (c d : Cop) (k : Nat) : 0 <= wholes c d k ∧ wholes c d k <= 2 := by unfold wholes; split <;> split <;> omega
theorem wholes_0 (c d : Cop) : wholes c d 0 = 0 := by simp [wholes]
theorem wholes_1t (c d : Cop) (h : c.ok = true) : wholes c d 1 = wholes c d 0 + 1 := by simp [wholes, h]
theorem wholes_1f (c d : Cop) (h : c.ok = false) : wholes c d 1 = wholes c d 0 := by simp [wholes, h]
theorem wholes_2t (c d : Cop) (h : d.ok = true) : wholes c d 2 = wholes c d 1 + 1 := by simp [wholes, h]
theorem wholes_2f (c d : Cop) (h : d.ok = false) : wholes c d 2 = wholes c d 1 := by simp [wholes, h]
theorem wholes_z (c d : Cop) : wholes c d 2 = 0 ↔ (c.ok = false ∧ d.ok = false) := by cases hc : c.ok <;> cases hd : d.ok <;> simp [wholes, hc, hd]
theorem refCopies_calls (c d : Cop) (w : World) : Calls Tryz.prog 22 #[.agg (copsA c d)] w (RetB w (iv (copCheck c d))) := by
 have i0 : ∀ w, (Instr.index 31 (.agg (copsA c d)) (.int .i64 0)).run Tryz.prog w = .ok (.agg (copA c)) w := fun _ => by kernel_rfl
 have i1 : ∀ w, (Instr.index 31 (.agg (copsA c d)) (.int .i64 1)).run Tryz.prog w = .ok (.agg (copA d)) w := fun _ => by kernel_rfl
 go_enter Tryz.func22, Tryz.ntmps22
 go_wp2_with fail
 go_loopw [8, 3] (fun i n wr => ∃ k : Nat, k <= 2 ∧ i = .int .i64 k ∧ n = .int .i64 (wholes c d k) ∧ Below w.heap.size w wr ∧ rowOf wr w.heap.size = copsA c d ∧ (0 < k -> copOne c = 0) ∧ (1 < k -> copOne d = 0)) (fun i _ _ => (2 - intOf i).toNat)
 case atStart => exact ⟨0, by omega, rfl, by rw [wholes_0], (Below.refl _ _).alloc (Nat.le_refl _) _, by rw [rowOf_alloc, if_pos rfl], by omega, by omega⟩
 case round =>
  obtain ⟨k, hk, rfl, rfl, hB, hrow, ha, hb⟩ := hrel
  have HB := hD hB
  have HR := hD hrow
  have hp : 0 < (rowOf wr w.heap.size).size := by rw [hrow, copsA_size]; decide
  have hlw := row_lt hp
  have hs := hB.size
  have hfr : True := trivial
  clear hrow hB
  obtain ⟨m, hm⟩ : ∃ m, wholes c d k = m := ⟨_, rfl⟩
  have hm1 : 0 <= m := by rw [← hm]; exact (wholes_bound c d k).1
  have hm2 : m <= 2 := by rw [← hm]; exact (wholes_bound c d k).2
  have HM := hD hm
  rw [hm]
  clear hm
  by_cases hlt : k < 2
  ·rcases (show k = 0 ∨ k = 1 by omega) with rfl | rfl
   ·have _u := ha
    clear _u ha hb hp
    go_wp2_with fail
    refine (refRecCheck_calls c.r _).mono ?_
    rintro e w1 ⟨rfl, hb1⟩
    have hB1 := (HB.out.alloc HB.out.size (.cells (copA c) 30)).trans (hb1.mono (by simp; omega))
    have hrow1 : rowOf w1 w.heap.size = copsA c d := by rw [rowOf_below (by simp; omega) hb1, rowOf_alloc, if_neg (by omega), HR.out]
    obtain ⟨r0, f0, n0, c0, z0, l0⟩ := keep1 (g := wr.heap.size) (cs := copA c) hb1 (by go_simp) (by go_simp) (by go_simp)
    have HB1 := hD hB1
    have HR1 := hD hrow1
    clear hb1 hB1 hrow1
    cases hok : c.ok
    ·by_cases hz : c.r = Rec.zero
     ·have HO := hD (copOne_lost0 hok hz)
      have hd : decide (c.r = Rec.zero) = true := decide_eq_true hz
      clear hz
      go_wp2_with fail
      go_roundw
      case rel => exact ⟨1, by omega, rfl, by rw [wholes_1f c d hok, HM.out], HB1.out, HR1.out, fun _ => HO.out, by omega⟩
      case measure => simp [intOf] <;> omega
     ·have HE := hD (copCheck_1 (d := d) (copOne_lost3 hok hz) (by omega))
      have hd : decide (c.r = Rec.zero) = false := decide_eq_false hz
      exact x133
    have HO1 := hD (copOne_ok hok)
    by_cases hz : recCheck c.r = 0
    ·have HO := hD (HO1.out.trans hz)
     have hz' : (recCheck c.r != 0) = false := by simp [hz]
     clear hz
     go_wp2_with fail
     go_roundw
     case rel => exact ⟨1, by omega, rfl, by rw [wholes_1t c d hok, HM.out], HB1.out, HR1.out, fun _ => HO.out, by omega⟩
     case measure => simp [intOf] <;> omega
    have HE := hD (copCheck_1 (d := d) HO1.out hz)
    have hz' : (recCheck c.r != 0) = true := by simp [hz]
    exact x133
   ·have HA := hD (ha (by omega))
    clear ha hb hp
    go_wp2_with fail
    refine (refRecCheck_calls d.r _).mono ?_
    rintro e w1 ⟨rfl, hb1⟩
    have hB1 := (HB.out.alloc HB.out.size (.cells (copA d) 30)).trans (hb1.mono (by simp; omega))
    have hrow1 : rowOf w1 w.heap.size = copsA c d := by rw [rowOf_below (by simp; omega) hb1, rowOf_alloc, if_neg (by omega), HR.out]
    obtain ⟨r0, f0, n0, c0, z0, l0⟩ := keep1 (g := wr.heap.size) (cs := copA d) hb1 (by go_simp) (by go_simp) (by go_simp)
    have HB1 := hD hB1
    have HR1 := hD hrow1
    clear hb1 hB1 hrow1
    cases hok : d.ok
    ·by_cases hz : d.r = Rec.zero
     ·have HO := hD (copOne_lost0 hok hz)
      have hd : decide (d.r = Rec.zero) = true := decide_eq_true hz
      clear hz
      go_wp2_with fail
      go_roundw
      case rel => exact ⟨2, by omega, rfl, by rw [wholes_2f c d hok, HM.out], HB1.out, HR1.out, fun _ => HA.out, fun _ => HO.out⟩
      case measure => simp [intOf] <;> omega
     ·have HE := hD (copCheck_2 HA.out (copOne_lost3 hok hz) (by omega))
      have hd : decide (d.r = Rec.zero) = false := decide_eq_false hz
      exact x133
    have HO1 := hD (copOne_ok hok)
    by_cases hz : recCheck d.r = 0
    ·have HO := hD (HO1.out.trans hz)
     have hz' : (recCheck d.r != 0) = false := by simp [hz]
     clear hz
     go_wp2_with fail
     go_roundw
     case rel => exact ⟨2, by omega, rfl, by rw [wholes_2t c d hok, HM.out], HB1.out, HR1.out, fun _ => HA.out, fun _ => HO.out⟩
     case measure => simp [intOf] <;> omega
    have HE := hD (copCheck_2 HA.out HO1.out hz)
    have hz' : (recCheck d.r != 0) = true := by simp [hz]
    exact x133
  obtain rfl : k = 2 := by omega
  have HF := hD (copCheck_3 (ha (by omega)) (hb (by omega)))
  clear ha hb hp
  by_cases h0 : m = 0
  ·have HE := hD (HF.out.trans (if_pos ((wholes_z c d).1 (HM.out.trans h0))))
   have h0' : (m == 0) = true := by simp [h0]
   exact x225
  have HE := hD (HF.out.trans (if_neg (fun q => h0 (HM.out.symm.trans ((wholes_z c d).2 q)))))
  have h0' : (m == 0) = false := by simp [h0]
  exact x225
theorem x71 {p : Prop} (h : p := by
 repeat (first | exact Below.refl _ _ | refine bR ?_ _ | refine bC ?_ _ | refine bA ?_ _ | refine Below.drew ?_)) : p := h
theorem x166 {p : Prop} (h : p := by
 go_wp2_with fail
 go_ret
 exact ⟨ret_int HE.out.symm, rfl⟩) : p := h
def genOf (c : Cop) : Int := if c.ok = true then c.r.gen else 0
def refNewest (c d : Cop) : Rec × Int := if genOf c < genOf d then (d.r, 1) else (c.r, 0)
theorem refNewest_ok {c d : Cop} (h : copCheck c d = 0) : refNewest c d = recRead c d := by
 obtain ⟨h1, h2, h3⟩ := copCheck_ok h
 unfold refNewest recRead newer genOf
 cases hc : c.ok
 ·cases hd : d.ok
  ·exact absurd ⟨hc, hd⟩ h3
  ·rw [copOne_ok hd] at h2
   have := (recCheck_range0 h2).1
   simp; omega
 cases hd : d.ok
 ·rw [copOne_ok hc] at h1
  have := (recCheck_range0 h1).1
  simp; omega
 simp
theorem gen0_calls (c d : Cop) (g : Nat) (w : World) (hr : rowOf w g = copsA c d) : Calls Tryz.prog 63 #[.int .i64 0, .pointer (some ⟨g, 0, none⟩)] w (Ret w (iv (genOf c))) := by
 have hp : 0 < (rowOf w g).size := by rw [hr, copsA_size]; decide
 have hc : ∀ j, w.cell? ⟨g, j, none⟩ = (copsA c d)[j]? := fun j => by rw [cell_row hp, hr]
 have hl := row_lt hp
 clear hp
 go_enter Tryz.func63, Tryz.ntmps63
 cases hok : c.ok
 ·have HE : Hid (genOf c = 0) := hD (by unfold genOf; rw [hok]; rfl)
  exact x166
 have HE : Hid (genOf c = c.r.gen) := hD (by unfold genOf; rw [hok]; rfl)
 exact x166
theorem gen1_calls (c d : Cop) (g : Nat) (w : World) (hr : rowOf w g = copsA c d) : Calls Tryz.prog 63 #[.int .i64 1, .pointer (some ⟨g, 0, none⟩)] w (Ret w (iv (genOf d))) := by
 have hp : 0 < (rowOf w g).size := by rw [hr, copsA_size]; decide
 have hc : ∀ j, w.cell? ⟨g, j, none⟩ = (copsA c d)[j]? := fun j => by rw [cell_row hp, hr]
 have hl := row_lt hp
 clear hp
 go_enter Tryz.func63, Tryz.ntmps63
 cases hok : d.ok
 ·have HE : Hid (genOf d = 0) := hD (by unfold genOf; rw [hok]; rfl)
  exact x166
 have HE : Hid (genOf d = d.r.gen) := hD (by unfold genOf; rw [hok]; rfl)
 exact x166
theorem newest_calls (c d : Cop) (w : World) : Calls Tryz.prog 24 #[.agg (copsA c d)] w (RetB w (.tuple #[.agg (recA (refNewest c d).1), iv (refNewest c d).2])) := by
 go_enter Tryz.func24, Tryz.ntmps24
 go_wp2_with fail
 refine (gen1_calls c d _ _ (by go_simp)).mono ?_
 rintro e w1 ⟨rfl, rfl⟩
 go_wp2_with fail
 refine (gen0_calls c d _ _ (by go_simp)).mono ?_
 rintro e w2 ⟨rfl, rfl⟩
 by_cases h : genOf c < genOf d
 ·have HE : Hid (refNewest c d = (d.r, 1)) := hD (if_pos h)
  have hB := ((Below.refl w.heap.size w).alloc (Nat.le_refl _) (.cells (copsA c d) 31)).alloc (by simp) (.cells (recA d.r) 28)
  have HB := hD hB
  clear hB
  go_wp2_with fail
  refine bodyPost_ret (rC (recA d.r)) rfl ⟨by rw [HE.out]; rfl, HB.out⟩
 have HE : Hid (refNewest c d = (c.r, 0)) := hD (if_neg h)
 have hB := ((Below.refl w.heap.size w).alloc (Nat.le_refl _) (.cells (copsA c d) 31)).alloc (by simp) (.cells (recA c.r) 28)
 have HB := hD hB
 clear hB
 go_wp2_with fail
 refine bodyPost_ret (rC (recA c.r)) rfl ⟨by rw [HE.out]; rfl, HB.out⟩
def refStart (r : Rec) : Int × Rec :=
 if r.trying = true ∧ 0 < r.tries then (1 - r.active, { r with tries := r.tries - 1 }) else (r.active, { r with trying := false })
theorem refStart_ok {r : Rec} (h : recCheck r = 0) : recStart r = ((refStart r).1, (refStart r).2, 0) := by
 have hr := (recCheck_range0 h).2.2.2.2.1
 unfold recStart refStart
 rw [if_pos h]
 cases ht : r.trying
 ·simp
  cases r; simp_all
 by_cases h0 : r.tries = 0
 ·simp [h0]
 simp [h0, show 0 < r.tries by omega]
theorem started_calls (r : Rec) (w : World) (ha : 0 <= r.active ∧ r.active <= 1) (ht : 0 <= r.tries ∧ r.tries <= 3) : Calls Tryz.prog 59 #[.agg (recA r)] w (RetB w (.tuple #[iv (refStart r).1, .agg (recA (refStart r).2)])) := by
 obtain ⟨ha1, ha2⟩ := ha
 obtain ⟨ht1, ht2⟩ := ht
 go_enter Tryz.func59, Tryz.ntmps59
 have HB := hD (((Below.refl w.heap.size w).alloc (Nat.le_refl _) (.cells (recA r) 28)).alloc (by simp) (.cells (recA Rec.zero) 28))
 cases hy : r.trying
 ·have HE : Hid (refStart r = (r.active, { r with trying := false })) := hD (by unfold refStart; rw [if_neg (by simp [hy])])
  go_wp2_with fail
  go_region
  all_goals go_wp2_with fail
  all_goals (
   refine bodyPost_ret (results_tc rfl rfl (cs := recA { r with trying := false }) (by go_simp) (by go_simp) (by go_simp)) rfl ⟨by rw [HE.out]; rfl, ?_⟩
   exact x71)
 by_cases h0 : 0 < r.tries
 ·have HE : Hid (refStart r = (1 - r.active, { r with tries := r.tries - 1 })) := hD (by unfold refStart; rw [if_pos ⟨hy, h0⟩])
  go_wp2_with fail
  go_region
  all_goals go_wp2_with fail
  all_goals (
   refine bodyPost_ret (results_tc rfl rfl (cs := recA { r with tries := r.tries - 1 }) (by go_simp) (by go_simp) (by go_simp)) rfl ⟨by rw [HE.out]; rfl, ?_⟩
   exact x71)
 have HE : Hid (refStart r = (r.active, { r with trying := false })) := hD (by unfold refStart; rw [if_neg (by simp [h0])])
 go_wp2_with fail
 go_region
 all_goals go_wp2_with fail
 all_goals (
  refine bodyPost_ret (results_tc rfl rfl (cs := recA { r with trying := false }) (by go_simp) (by go_simp) (by go_simp)) rfl ⟨by rw [HE.out]; rfl, ?_⟩
  exact x71)
theorem imageOf_calls (d : Dev) (L : DLoc) (w : World) (h : DevIn w d L) (h0 : d.s0.length = 64) (h1 : d.s1.length = 64) (hc : copCheck d.c0 d.c1 = 0) :
  Calls Tryz.prog 28 #[.agg (devA d L)] w (ImRet w (d.image d.rec_.active d.rec_)) := by
 have hok := recRead_ok hc
 have hn := refNewest_ok hc
 have hact := rec_active hok
 have KN := hD (fun w => newest_calls d.c0 d.c1 w)
 rw [hn] at KN
 have hrec : (recRead d.c0 d.c1).1 = d.rec_ := rfl
 rw [hrec] at KN hok hact
 obtain ⟨rk, hrk⟩ : ∃ rk, (recRead d.c0 d.c1).2 = rk := ⟨_, rfl⟩
 rw [hrk] at KN
 generalize d.rec_ = r at *
 obtain ⟨a, ha, ha1⟩ : ∃ a : Nat, r.active = (a : Int) ∧ a <= 1 := ⟨r.active.toNat, by omega, by omega⟩
 obtain ⟨z1, z2, _⟩ := at_sizes hok r.active
 rw [ha] at z1 z2 ⊢
 obtain ⟨y, hy⟩ : ∃ y : Nat, (r.at_ (a : Int)).size = (y : Int) := ⟨(r.at_ (a : Int)).size.toNat, by omega⟩
 have hsl := slot_len h0 h1 (a : Int)
 have himg : d.image (a : Int) r = (d.slot (a : Int)).take y := by unfold Dev.image; rw [hy]; rfl
 have hlen : ((d.slot (a : Int)).take y).length = y := by rw [List.length_take]; omega
 rw [himg]
 obtain ⟨A, c, p1, p2, p3⟩ := devSlotA h ha1
 rw [hsl] at p1 p2
 obtain ⟨b, o, hA, -⟩ := p3 0 (by omega)
 have HSL := hD (pre_slice (A := A) (n := 64) (c := c) y rfl p2 (by omega) (by decide) ⟨b, o, hA⟩)
 have HB := hD (mid_take p3 y)
 have HLEN := hD hlen
 have hyc : y <= c := by omega
 have pv := recA_size_ r ha1
 rw [hy] at pv
 have hba : Below w.heap.size w (w.alloc (.cells (devA d L) 37)) := (Below.refl _ _).alloc (Nat.le_refl _) _
 have HBA := hD hba
 have HP1 := hD p1
 have HPV := hD pv
 have HA := hD ha
 clear h hok hn hact hrec hrk z1 z2 hy hsl himg hlen p1 p3 hA pv hba ha h0 h1 hc
 go_enter Tryz.func28, Tryz.ntmps28
 go_wp2_with fail
 refine (KN.out _).mono ?_
 rintro e w1 ⟨rfl, hb1⟩
 obtain ⟨a0r, a0f, a0n, a0c, a0z, a0l⟩ := kp (w.heap.size) (devA d L) hb1
 have HB1 : Hid (Below w.heap.size w w1) := hD (HBA.out.trans (hb1.mono (by simp)))
 clear hb1
 go_wp2_with fail
 obtain ⟨w2, hw2⟩ : ∃ w2, w1.alloc (.cells (recA r) 28) = w2 := ⟨_, rfl⟩
 have hb2 : Below w1.heap.size w1 w2 := by rw [← hw2]; exact (Below.refl _ _).alloc (Nat.le_refl _) _
 have hrr : rowOf w2 w1.heap.size = recA r ∧ frOf w2 w1.heap.size = (0, 0) := by rw [← hw2]; exact ⟨by rw [rowOf_alloc, if_pos rfl], by rw [frOf_alloc, if_pos rfl]⟩
 obtain ⟨a0r, a0f, a0n, a0c, a0z, a0l⟩ := keep1 (g := w.heap.size) (cs := devA d L) hb2 a0r (by go_simp) a0f
 obtain ⟨r0r, r0f, r0n, r0c, r0z, r0l⟩ := keep1 (Below.refl w2.heap.size w2) hrr.1 (by simp [recA]) hrr.2
 have HB2 := bT HB1 hb2
 rw [hw2]
 clear hw2 hb2 hrr
 have ha := HA.out
 have p1 := HP1.out
 have pv := HPV.out
 have k1 : (0 : Int) <= (a : Int) := by omega
 have k2 : (a : Int) < 2 := by omega
 have k3 : ¬ (2 : Int) <= (a : Int) := by omega
 have hsl := HSL.out
 go_quiet (fail)
 go_wp2_with fail
 go_ret
 have HBE : Hid (Below w.heap.size w (w2.drewN nq)) := hD (Below.drewN' HB2.out nq)
 exact x192
def filB (b : List UInt8) (k : Nat) : List Value := (b.take k).map bv ++ List.replicate (64 - k) (.int .u8 0)
theorem filB_len (b : List UInt8) (h : k <= b.length) (hb : b.length <= 64) : (filB b k).length = 64 := by unfold filB; simp; omega
theorem filB_zero (b : List UInt8) : filB b 0 = List.replicate 64 (.int .u8 0) := by unfold filB; simp
theorem filB_set (b : List UInt8) (h : k < b.length) (hb : b.length <= 64) : (filB b k).set k (bv b[k]) = filB b (k + 1) := by
 unfold filB
 obtain ⟨m, hm⟩ : ∃ m, 64 - k = m + 1 := ⟨63 - k, by omega⟩
 have hl : ((b.take k).map bv).length = k := by simp; omega
 rw [List.set_append_right _ _ (by omega), hl, Nat.sub_self, hm, List.replicate_succ, List.set_cons_zero, List.take_succ_eq_append_getElem h, List.map_append, List.append_assoc, show 64 - (k + 1) = m by omega]
 rfl
theorem filB_at (b : List UInt8) (h : k <= b.length) (hk : k < 64) : (filB b k)[k]? = some (.int .u8 0) := by
 unfold filB
 have hl : ((b.take k).map bv).length = k := by simp; omega
 rw [List.getElem?_append_right (by omega), hl, Nat.sub_self, List.getElem?_replicate, if_pos (by omega)]
theorem filB_all (b : List UInt8) (hb : b.length <= 64) : filB b b.length = (room b).map bv := by
 unfold filB room
 rw [List.take_length, List.map_append, List.map_replicate]
 rfl
theorem filled_calls (A : Option Addr) (c : Nat) (b : List UInt8) (w : World) (hb : b.length <= 64) (hB : Bts w A b) :
  Calls Tryz.prog 30 #[.slice A b.length c] w (BtRet w (room b)) := by
 have HB0 := hD hB
 have hmk : ∀ w : World, (Instr.makeSlice 22 (.int .i64 64) (.int .i64 64)).run Tryz.prog w = .ok (.slice (some ⟨w.heap.size, 0, none⟩) 64 64) (w.alloc (.cells (filB b 0).toArray 5)) := fun w => by
  have := run_make_row' (P := Tryz.prog) 22 5 (.int .u8 0) 1 Tryz.underlying22 (by kernel_rfl) rfl .i64 .i64 64 (by omega) (by omega) w
  rw [made_zeros] at this
  rw [filB_zero, List.toArray_replicate]
  exact this
 clear hB
 go_enter Tryz.func30, Tryz.ntmps30
 go_wp2_with fail
 have HF0 : Hid ((w.alloc (.cells (filB b 0).toArray 5)).heap[w.heap.size]? = some (.cells (filB b 0).toArray 5 (0, 0))) := hD (blk_top rfl)
 have HBA : Hid (Below w.heap.size w (w.alloc (.cells (filB b 0).toArray 5))) := hD ((Below.refl _ _).alloc (Nat.le_refl _) _)
 clear hmk
 generalize w.alloc (.cells (filB b 0).toArray 5) = w1 at *
 obtain ⟨g, hg⟩ : ∃ g, w.heap.size = g := ⟨_, rfl⟩
 have HG := hD hg
 rw [hg] at HF0 HBA ⊢
 clear hg
 go_loopw [9] (fun i wr => ∃ k : Nat, k <= b.length ∧ i = .int .i64 k ∧ Hid (wr.heap[g]? = some (.cells (filB b k).toArray 5 (0, 0))) ∧ Hid (Below g w wr)) (fun i _ => b.length - (intOf i).toNat)
 case atStart => exact ⟨0, Nat.zero_le _, rfl, HF0, HBA⟩
 case round =>
  clear HF0 HBA
  rename World => wr
  obtain ⟨k, hk, rfl, HF, HB⟩ := hrel
  by_cases hlt : k < b.length
  ·obtain ⟨b', o', rfl, hlt', hcc⟩ := (HB0.out.stays (HG.out.symm ▸ HB.out)) k hlt
   obtain ⟨q1, q2, q3, q4, q5⟩ := blkFacts HF.out (by rw [List.size_toArray, filB_len b hk hb]; decide)
   have dl : decide ((k : Int) < (b.length : Int)) = true := decide_eq_true (by omega)
   have nb : ¬ (64 : Int) <= (k : Int) := by omega
   have hck := filB_at b hk (by omega)
   have nb2 : ¬ (b.length : Int) <= (k : Int) := by omega
   have HS : Hid (filB b (k + 1) = (filB b k).set k (bv b[k])) := hD (filB_set b hlt hb).symm
   generalize b[k] = x at *
   have hw1 : IntKind.i64.wrap ((k : Int) + 1) = (k : Int) + 1 := IntWalk.i64_in _ (by omega)
   go_wp2_with fail
   go_roundw
   case rel => exact ⟨k + 1, by omega, by go_num, hD (by rw [HS.out]; have := set_blk (j := k) (v := bv x) HF.out; simpa using this), hD (HB.out.setCell (p := ⟨g, k, none⟩) (Nat.le_refl _) _)⟩
   case measure => simp [intOf]; omega
  obtain rfl : k = b.length := by omega
  have dl : decide ((b.length : Int) < (b.length : Int)) = false := by simp
  go_wp2_with fail
  go_ret
  have hf := HF.out
  rw [filB_all b hb] at hf
  have hl := room_len hb
  have hgo := HG.out
  refine ⟨some ⟨g, 0, none⟩, 64, by rw [hl]; rfl, ?_, hgo.symm ▸ HB.out⟩
  rw [hl, hgo]
  exact ⟨by simp [hl], Or.inr ⟨g, 64, _, rfl, Nat.le_refl _, hf, Nat.le_refl _, by unfold maxLen; omega, by simp [hl], by simp [List.take_of_length_le, hl]⟩⟩
theorem refDone_calls (B A : Option Addr) (d c : Nat) (p : Pat) (old : List UInt8) (w : World) (hc : old.length <= c) (ho : old.length <= 1048576) (hA : Bts w A old) (hp : PatIn w p B d) :
  Calls Tryz.prog 27 #[.agg (patA p.from_ p.to_ p.old p.new_ p.size B p.ops.length d), .slice A old.length c] w (ByRet2 w (patDo (sumOn 1) p old).1 (patDo (sumOn 1) p old).2) := by
 obtain ⟨f, t, o, n, sz, l⟩ := p
 obtain ⟨hcap, hlen, hops, -, -, -, -, -⟩ := hp
 dsimp only at *
 have hba := (Below.refl w.heap.size w).alloc (Nat.le_refl _) (.cells (patA f t o n sz B l.length d) 35)
 have K1 := hD (fun w h => refPatCheck_calls B d f t o n sz l w hlen h)
 have K2 := hD (fun w h => refSumOf_calls A c old w (by omega) h)
 have HA := hD hA
 have HO := hD hops
 have HBA := hD hba
 clear hA hops hba
 obtain ⟨r, hr⟩ : ∃ r, patDo (sumOn 1) ⟨f, t, o, n, sz, l⟩ old = r := ⟨_, rfl⟩
 rw [hr]
 have HR := hD hr
 clear hr
 obtain ⟨ck, hck⟩ : ∃ ck, patCheck ⟨f, t, o, n, sz, l⟩ = ck := ⟨_, rfl⟩
 rw [hck] at K1
 have HCK := hD hck
 clear hck
 go_enter Tryz.func27, Tryz.ntmps27
 go_wp2_with fail
 refine (K1.out _ (HO.out.stays HBA.out)).mono ?_
 rintro e w1 ⟨rfl, hb1⟩
 obtain ⟨a0r, a0f, a0n, a0c, a0z, a0l⟩ := kp (w.heap.size) (patA f t o n sz B l.length d) hb1
 have HB1 := hD (HBA.out.trans (hb1.mono (by simp)))
 clear hb1
 by_cases h0 : ck ≠ 0
 ·exact x110
 have h0 := Decidable.not_not.1 h0
 subst h0
 by_cases h1 : 64 < old.length
 ·exact x103
 have q1 : ¬ (64 : Int) < (old.length : Int) := by omega
 obtain ⟨s, hs⟩ : ∃ s, sumOn 1 old = s := ⟨_, rfl⟩
 rw [hs] at K2
 have HS := hD hs
 clear hs
 have HK1 := hD (fun n => K2.out (w1.drewN n) ((HA.out.stays HB1.out).drewN n))
 by_cases h2 : s ≠ o
 ·have hz : r = ([], 6) := by rw [← HR.out]; unfold patDo; rw [HCK.out, if_neg (by simp), if_neg h1, HS.out, if_pos h2]
  subst hz
  have q : (s != o) = true := by simp [h2]
  clear h2
  go_wp2_with fail
  go_quiet ((go_at_call 42; with_reducible exact quietRet (HK1.out _)))
  exact x188
 have h2 := Decidable.not_not.1 h2
 subst h2
 have q2 : (s != s) = false := by simp
 obtain ⟨y, e0, hy⟩ : ∃ y e0, axOf old l sz = (y, e0) := ⟨_, _, rfl⟩
 have K3 := hD (fun w h1 h2 => refApplyAny_calls A c old B d l sz w hc ho h1 hlen h2)
 rw [hy] at K3
 dsimp only at K3
 have HY := hD hy
 clear hy
 have HK3 := hD (fun n => K3.out (w1.drewN n) ((HA.out.stays HB1.out).drewN n) ((HO.out.stays HB1.out).stays (below_drewN _ _)))
 have hyl : y.length <= 1048576 := by
  exact x73
 go_wp2_with fail
 go_quiet ((go_at_call 42; with_reducible exact quietRet (HK1.out _)))
 go_wp2_with fail
 refine (HK3.out nq).mono ?_
 rintro e w2 ⟨A2, c2, rfl, hy2, hc2, hb2⟩
 obtain ⟨b0r, b0f, b0n, b0c, b0z, b0l⟩ := kp (w.heap.size) (patA f t s n sz B l.length d) hb2
 have HB2 : Hid (Below w.heap.size w w2) := hD ((Below.drewN' HB1.out nq).trans (hb2.mono (by have := HB1.out.size; simp; omega)))
 have HY2 := hD hy2
 clear hb2 hy2
 by_cases h3 : e0 ≠ 0
 ·have hz : r = ([], e0) := by
   exact x85
  subst hz
  have q : (e0 != 0) = true := by simp [h3]
  have q9 : (e0 == 0) = false := by simp [h3]
  clear h3 HY
  go_wp2_with fail
  go_quiet (fail)
  exact x129
 have h3 := Decidable.not_not.1 h3
 subst h3
 have hyy : deltaCheck l old.length sz = 0 ∧ y = applied old l := by
  exact x105
 have K4 := hD (fun m => refSumOf_calls A2 c2 y (w2.drewN m) (by omega) (HY2.out.drewN m))
 have hrr : r = if sumOn 1 y ≠ n then ([], 6) else (y, 0) := by
  exact x167
 obtain ⟨s2, hs2⟩ : ∃ s2, sumOn 1 y = s2 := ⟨_, rfl⟩
 rw [hs2] at K4 hrr
 have HRR := hD hrr
 clear hrr hs2 hyy HY
 by_cases h4 : s2 ≠ n
 ·have hz : r = ([], 6) := by rw [HRR.out, if_pos h4]
  subst hz
  have q : (s2 != n) = true := by simp [h4]
  clear h4
  go_wp2_with fail
  go_quiet ((go_at_call 42; with_reducible exact quietRet (K4.out _)))
  exact x129
 have h4 := Decidable.not_not.1 h4
 subst h4
 have hz : r = (y, 0) := by rw [HRR.out, if_neg (by simp)]
 subst hz
 have q : (s2 != s2) = false := by simp
 go_wp2_with fail
 go_quiet ((go_at_call 42; with_reducible exact quietRet (K4.out _)))
 exact x203
theorem x11 {p : Prop} (h : p := by
 clear g2 g0
 go_enter Tryz.func64, Tryz.ntmps64
 go_wp2_with fail
 refine (refIn_t (n := f) (a := 1) (b := 30) (by omega) _).mono ?_
 rintro e u ⟨rfl, rfl⟩
 go_wp2_with fail
 refine (refIn_t (n := t) (a := 1) (b := 30) (by omega) _).mono ?_
 rintro e u ⟨rfl, rfl⟩
 go_wp2_with fail
 refine (refIn_t (n := o) (a := 1) (b := 52) (by omega) _).mono ?_
 rintro e u ⟨rfl, rfl⟩
 go_wp2_with fail
 refine (I.out _).mono ?_
 rintro e u ⟨rfl, rfl⟩
 go_wp2_with fail
 go_ret
 exact ⟨ret_int hz.out.symm, hA⟩) : p := h
theorem refChkCheck_calls (A : Option Addr) (c : Nat) (f t n o : Int) (l : List UInt8) (w : World) (hn : I64 n) (ho : I64 o) :
  Calls Tryz.prog 64 #[.agg (chkA f t n o A l.length c)] w (RetB w (iv (chkCheck ⟨f, t, n, o, l⟩))) := by
 obtain ⟨hn1, hn2⟩ := hn
 obtain ⟨ho1, ho2⟩ := ho
 have hb : Below w.heap.size w (w.alloc (.cells (chkA f t n o A l.length c) 39)) := (Below.refl _ _).alloc (Nat.le_refl _) _
 have HB := hD hb
 clear hb
 by_cases h0 : f < (1 : Int) ∨ (30 : Int) < f
 ·have hz := hD (chkCheck_bad (x := ⟨f, t, n, o, l⟩) (by unfold Chk.range; dsimp only; omega))
  go_enter Tryz.func64, Tryz.ntmps64
  go_wp2_with fail
  refine (refIn_f (n := f) (a := 1) (b := 30) (by omega) _).mono ?_
  rintro e u ⟨rfl, rfl⟩
  exact x21
 by_cases h1 : t < (1 : Int) ∨ (30 : Int) < t
 ·have hz := hD (chkCheck_bad (x := ⟨f, t, n, o, l⟩) (by unfold Chk.range; dsimp only; omega))
  go_enter Tryz.func64, Tryz.ntmps64
  go_wp2_with fail
  refine (refIn_t (n := f) (a := 1) (b := 30) (by omega) _).mono ?_
  rintro e u ⟨rfl, rfl⟩
  go_wp2_with fail
  refine (refIn_f (n := t) (a := 1) (b := 30) (by omega) _).mono ?_
  rintro e u ⟨rfl, rfl⟩
  exact x21
 by_cases h2 : o < (1 : Int) ∨ (52 : Int) < o
 ·have hz := hD (chkCheck_bad (x := ⟨f, t, n, o, l⟩) (by unfold Chk.range; dsimp only; omega))
  go_enter Tryz.func64, Tryz.ntmps64
  go_wp2_with fail
  refine (refIn_t (n := f) (a := 1) (b := 30) (by omega) _).mono ?_
  rintro e u ⟨rfl, rfl⟩
  go_wp2_with fail
  refine (refIn_t (n := t) (a := 1) (b := 30) (by omega) _).mono ?_
  rintro e u ⟨rfl, rfl⟩
  go_wp2_with fail
  refine (refIn_f (n := o) (a := 1) (b := 52) (by omega) _).mono ?_
  rintro e u ⟨rfl, rfl⟩
  exact x21
 by_cases h3 : n < (0 : Int)
 ·have hz := hD (chkCheck_bad (x := ⟨f, t, n, o, l⟩) (by unfold Chk.range; dsimp only; omega))
  go_enter Tryz.func64, Tryz.ntmps64
  go_wp2_with fail
  refine (refIn_t (n := f) (a := 1) (b := 30) (by omega) _).mono ?_
  rintro e u ⟨rfl, rfl⟩
  go_wp2_with fail
  refine (refIn_t (n := t) (a := 1) (b := 30) (by omega) _).mono ?_
  rintro e u ⟨rfl, rfl⟩
  go_wp2_with fail
  refine (refIn_t (n := o) (a := 1) (b := 52) (by omega) _).mono ?_
  rintro e u ⟨rfl, rfl⟩
  exact x21
 by_cases h4 : o <= n
 ·have hz := hD (chkCheck_bad (x := ⟨f, t, n, o, l⟩) (by unfold Chk.range; dsimp only; omega))
  go_enter Tryz.func64, Tryz.ntmps64
  go_wp2_with fail
  refine (refIn_t (n := f) (a := 1) (b := 30) (by omega) _).mono ?_
  rintro e u ⟨rfl, rfl⟩
  go_wp2_with fail
  refine (refIn_t (n := t) (a := 1) (b := 30) (by omega) _).mono ?_
  rintro e u ⟨rfl, rfl⟩
  go_wp2_with fail
  refine (refIn_t (n := o) (a := 1) (b := 52) (by omega) _).mono ?_
  rintro e u ⟨rfl, rfl⟩
  exact x21
 have hr : Chk.range ⟨f, t, n, o, l⟩ := by unfold Chk.range; dsimp only; omega
 have HR := hD hr
 clear hr
 have hw : IntKind.i64.wrap (o - 1) = o - 1 := IntWalk.i64_in _ (by omega)
 by_cases g2 : n = o - 1
 ·have q1 : (n == o - 1) = true := by simp [g2]
  by_cases g0 : l.length = 0 ∨ 16 < l.length
  ·have hz := hD (chkCheck_form HR.out (fun e => by have := full_len.1 e; omega))
   have I := hD (fun w => refIn_f (n := (l.length : Int)) (a := 1) (b := 16) (by omega) w)
   exact x11
  have hz := hD (chkCheck_fine HR.out (full_len.2 ⟨by omega, by omega, fun h => by omega⟩))
  have I := hD (fun w => refIn_t (n := (l.length : Int)) (a := 1) (b := 16) (by omega) w)
  exact x11
 have q1 : (n == o - 1) = false := beq_eq_false_iff_ne.2 g2
 by_cases g0 : l.length = 16
 ·have hz := hD (chkCheck_fine HR.out (full_len.2 ⟨by omega, by omega, fun h => g0⟩))
  have I := hD (fun w => refIn_t (n := (l.length : Int)) (a := 16) (b := 16) (by omega) w)
  exact x11
 have hz := hD (chkCheck_form HR.out (fun e => by have := (full_len.1 e).2.2 (by omega); omega))
 have I := hD (fun w => refIn_f (n := (l.length : Int)) (a := 16) (b := 16) (by omega) w)
 exact x11
end Go.Proofs.YtefkfglkpebbmacGreat
