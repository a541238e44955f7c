/- Walks of functions, and plain words. No conditions. -/
import Derived.Test.YtefkfglkpebbmadGreatP1
import Derived.Deep.DeepCutAuto
import Derived.Laws.EntriesVeiled
set_option linter.unusedVariables false
set_option linter.unusedSimpArgs false
set_option maxRecDepth 100000
set_option maxHeartbeats 40000000
namespace Go.Proofs.YtefkfglkpebbmadGreat
open Go.RowKit
variable {x : Chk} {l : List Chk}
def within (n a b : Int) : Bool := decide (a ≤ n) && decide (n ≤ b)
theorem in_calls (n a b : Int) (w : World) : Calls Tryz.prog 44 #[iv n, iv a, iv b] w (Ret w (.bool (within n a b))) := by
 go_enter Tryz.func44, Tryz.ntmps44
 by_cases h : a ≤ n
 ·go_wp2_with fail
  go_ret
  exact ⟨ret_bool (by unfold within; rw [decide_eq_true h]; rfl), rfl⟩
 ·go_wp2_with fail
  go_ret
  exact ⟨ret_bool (by unfold within; rw [decide_eq_false (by omega)]; rfl), rfl⟩
def infsA (x y : Inf) : Array Value := #[iv x.ver, iv x.size, iv x.sum, iv y.ver, iv y.size, iv y.sum]
@[go_sem] theorem recA_ex5_11 (r : Rec) : (recA r).extract 5 11 = infsA r.a r.b := by simp [recA, infsA]
def rangeB (r : Rec) : Bool := within r.gen 1 1000000 && within r.active 0 1 && within r.tries 0 3 && within r.floor 1 30
def infB (x : Inf) : Bool := within x.ver 0 30 && within x.size 0 64 && within x.sum 0 65535
theorem rangeB_iff (r : Rec) : rangeB r = true ↔ RangeOk r := by
 unfold rangeB within RangeOk
 simp [and_assoc]
theorem infB_iff (x : Inf) : infB x = true ↔ InfRange x := by
 unfold infB within InfRange
 simp [and_assoc]
theorem recCheck_sum {r : Rec} (h : RangeOk r) (ha : infCheck r.a = 0) (hb : infCheck r.b = 0) : recCheck r = if FormOk r then 0 else 3 := by
 unfold recCheck; rw [if_pos h, if_pos ha, if_pos hb]
theorem refRecCheck_bad (r : Rec) (w : World) (h : ¬ RangeOk r) : Calls Tryz.prog 54 #[.agg (recA r)] w (RetB w (iv (recCheck r))) := by
 have hE : recCheck r = 2 := recCheck_bad h
 have hb : rangeB r = false := by rw [← Bool.not_eq_true, rangeB_iff]; exact h
 have HE := Lib.hid hE
 clear h hE
 unfold rangeB at hb
 go_enter Tryz.func54, Tryz.ntmps54
 go_wp2_with fail
 refine (in_calls _ _ _ _).mono ?_
 rintro e w0 ⟨rfl, rfl⟩
 cases h0 : within r.gen 1 1000000
 ·clear hb
  go_wp2_with fail
  go_ret
  exact ⟨ret_int HE.out.symm, (Below.refl _ _).alloc (Nat.le_refl _) _⟩
 ·have _u := hb
  clear _u
  go_wp2_with fail
  refine (in_calls _ _ _ _).mono ?_
  rintro e w1 ⟨rfl, rfl⟩
  cases h1 : within r.active 0 1
  ·clear hb
   go_wp2_with fail
   go_ret
   exact ⟨ret_int HE.out.symm, (Below.refl _ _).alloc (Nat.le_refl _) _⟩
  ·have _u := hb
   clear _u
   go_wp2_with fail
   refine (in_calls _ _ _ _).mono ?_
   rintro e w2 ⟨rfl, rfl⟩
   cases h2 : within r.tries 0 3
   ·clear hb
    go_wp2_with fail
    go_ret
    exact ⟨ret_int HE.out.symm, (Below.refl _ _).alloc (Nat.le_refl _) _⟩
   ·have _u := hb
    clear _u
    go_wp2_with fail
    refine (in_calls _ _ _ _).mono ?_
    rintro e w3 ⟨rfl, rfl⟩
    cases h3 : within r.floor 1 30
    ·clear hb
     go_wp2_with fail
     go_ret
     exact ⟨ret_int HE.out.symm, (Below.refl _ _).alloc (Nat.le_refl _) _⟩
    ·simp [h0, h1, h2, h3] at hb
theorem refRecCheck_ok (r : Rec) (w : World) (h : RangeOk r) : Calls Tryz.prog 54 #[.agg (recA r)] w (RetB w (iv (recCheck r))) := by
 have i0 : ∀ w, (Instr.index 27 (.agg (infsA r.a r.b)) (.int .i64 0)).run Tryz.prog w = .ok (.agg (infA r.a)) w := fun _ => by kernel_rfl
 have i1 : ∀ w, (Instr.index 27 (.agg (infsA r.a r.b)) (.int .i64 1)).run Tryz.prog w = .ok (.agg (infA r.b)) w := fun _ => by kernel_rfl
 have HR := Lib.hid h
 have hb : rangeB r = true := (rangeB_iff r).2 h
 unfold rangeB at hb
 simp only [Bool.and_eq_true] at hb
 obtain ⟨⟨⟨h0, h1⟩, h2⟩, h3⟩ := hb
 clear h
 go_enter Tryz.func54, Tryz.ntmps54
 go_wp2_with fail
 refine (in_calls _ _ _ _).mono ?_
 rintro e w0 ⟨rfl, rfl⟩
 go_wp2_with fail
 refine (in_calls _ _ _ _).mono ?_
 rintro e w1 ⟨rfl, rfl⟩
 go_wp2_with fail
 refine (in_calls _ _ _ _).mono ?_
 rintro e w2 ⟨rfl, rfl⟩
 go_wp2_with fail
 refine (in_calls _ _ _ _).mono ?_
 rintro e w3 ⟨rfl, rfl⟩
 go_wp2_with fail
 clear h0 h1 h2 h3
 go_loopw [31] (fun i wr => ∃ k : Nat, k ≤ 2 ∧ i = .int .i64 k ∧ Below w.heap.size w wr ∧ rowOf wr w.heap.size = recA r ∧ (0 < k → infCheck r.a = 0) ∧ (1 < k → infCheck r.b = 0)) (fun i _ => (2 - intOf i).toNat)
 case atStart => exact ⟨0, by omega, rfl, (Below.refl _ _).alloc (Nat.le_refl _) _, by rw [rowOf_alloc, if_pos rfl], by omega, by omega⟩
 case round =>
  obtain ⟨k, hk, rfl, hB, hrow, ha, hb⟩ := hrel
  have HB := Lib.hid hB
  have HW := Lib.hid hrow
  have hp : 0 < (rowOf wr w.heap.size).size := by rw [hrow, recA_size]; decide
  have hlw := row_lt hp
  have hs := hB.size
  clear hrow hB
  by_cases hlt : k < 2
  ·rcases (show k = 0 ∨ k = 1 by omega) with rfl | rfl
   ·have _u := ha
    clear _u ha hb
    clear hp
    by_cases hi : InfRange r.a
    ·have HI := Lib.hid hi
     have hb := (infB_iff r.a).2 hi
     unfold infB at hb
     simp only [Bool.and_eq_true] at hb
     obtain ⟨⟨g0, g1⟩, g2⟩ := hb
     have hi1 := hi.2.2.1
     have hi2 := hi.2.2.2.2.1
     clear hi
     go_wp2_with fail
     refine (in_calls _ _ _ _).mono ?_
     rintro e v0 ⟨rfl, rfl⟩
     go_wp2_with fail
     refine (in_calls _ _ _ _).mono ?_
     rintro e v1 ⟨rfl, rfl⟩
     go_wp2_with fail
     refine (in_calls _ _ _ _).mono ?_
     rintro e v2 ⟨rfl, rfl⟩
     by_cases hv : r.a.ver = 0
     ·have hv' : (r.a.ver == 0) = true := by simp [hv]
      by_cases hz : 0 < r.a.size
      ·have HE := Lib.hid (recCheck_a HR.out (infCheck_form HI.out hv (by omega)) (by omega))
       clear hv
       go_wp2_with fail
       go_ret
       exact ⟨ret_int HE.out.symm, HB.out.alloc HB.out.size _⟩
      ·by_cases hy : 0 < r.a.sum
       ·have HE := Lib.hid (recCheck_a HR.out (infCheck_form HI.out hv (by omega)) (by omega))
        clear hv
        go_wp2_with fail
        go_ret
        exact ⟨ret_int HE.out.symm, HB.out.alloc HB.out.size _⟩
       ·have HO := Lib.hid (infCheck_ok HI.out (fun _ => (by omega : r.a.size = 0 ∧ r.a.sum = 0)))
        clear hv
        go_wp2_with fail
        go_roundw
        case rel => exact ⟨1, by omega, rfl, HB.out.alloc HB.out.size _, by rw [rowOf_alloc, if_neg (by omega), HW.out], fun _ => HO.out, by omega⟩
        case measure => simp [intOf] <;> omega
     ·have hv' : (r.a.ver == 0) = false := by simp [hv]
      have HO := Lib.hid (infCheck_ok HI.out (fun q => absurd q hv))
      clear hv
      go_wp2_with fail
      go_roundw
      case rel => exact ⟨1, by omega, rfl, HB.out.alloc HB.out.size _, by rw [rowOf_alloc, if_neg (by omega), HW.out], fun _ => HO.out, by omega⟩
      case measure => simp [intOf] <;> omega
    ·have HE := Lib.hid (recCheck_a HR.out (infCheck_bad hi) (by omega))
     have hb : infB r.a = false := by rw [← Bool.not_eq_true, infB_iff]; exact hi
     unfold infB at hb
     clear hi
     go_wp2_with fail
     refine (in_calls _ _ _ _).mono ?_
     rintro e v0 ⟨rfl, rfl⟩
     cases g0 : within r.a.ver 0 30
     ·clear hb
      go_wp2_with fail
      go_ret
      exact ⟨ret_int HE.out.symm, HB.out.alloc HB.out.size _⟩
     ·have _u := hb
      clear _u
      go_wp2_with fail
      refine (in_calls _ _ _ _).mono ?_
      rintro e v1 ⟨rfl, rfl⟩
      cases g1 : within r.a.size 0 64
      ·clear hb
       go_wp2_with fail
       go_ret
       exact ⟨ret_int HE.out.symm, HB.out.alloc HB.out.size _⟩
      ·have _u := hb
       clear _u
       go_wp2_with fail
       refine (in_calls _ _ _ _).mono ?_
       rintro e v2 ⟨rfl, rfl⟩
       cases g2 : within r.a.sum 0 65535
       ·clear hb
        go_wp2_with fail
        go_ret
        exact ⟨ret_int HE.out.symm, HB.out.alloc HB.out.size _⟩
       ·simp [g0, g1, g2] at hb
   ·have HA := Lib.hid (ha (by omega))
    clear ha hb
    clear hp
    by_cases hi : InfRange r.b
    ·have HI := Lib.hid hi
     have hb := (infB_iff r.b).2 hi
     unfold infB at hb
     simp only [Bool.and_eq_true] at hb
     obtain ⟨⟨g0, g1⟩, g2⟩ := hb
     have hi1 := hi.2.2.1
     have hi2 := hi.2.2.2.2.1
     clear hi
     go_wp2_with fail
     refine (in_calls _ _ _ _).mono ?_
     rintro e v0 ⟨rfl, rfl⟩
     go_wp2_with fail
     refine (in_calls _ _ _ _).mono ?_
     rintro e v1 ⟨rfl, rfl⟩
     go_wp2_with fail
     refine (in_calls _ _ _ _).mono ?_
     rintro e v2 ⟨rfl, rfl⟩
     by_cases hv : r.b.ver = 0
     ·have hv' : (r.b.ver == 0) = true := by simp [hv]
      by_cases hz : 0 < r.b.size
      ·have HE := Lib.hid (recCheck_b HR.out HA.out (infCheck_form HI.out hv (by omega)) (by omega))
       clear hv
       go_wp2_with fail
       go_ret
       exact ⟨ret_int HE.out.symm, HB.out.alloc HB.out.size _⟩
      ·by_cases hy : 0 < r.b.sum
       ·have HE := Lib.hid (recCheck_b HR.out HA.out (infCheck_form HI.out hv (by omega)) (by omega))
        clear hv
        go_wp2_with fail
        go_ret
        exact ⟨ret_int HE.out.symm, HB.out.alloc HB.out.size _⟩
       ·have HO := Lib.hid (infCheck_ok HI.out (fun _ => (by omega : r.b.size = 0 ∧ r.b.sum = 0)))
        clear hv
        go_wp2_with fail
        go_roundw
        case rel => exact ⟨2, by omega, rfl, HB.out.alloc HB.out.size _, by rw [rowOf_alloc, if_neg (by omega), HW.out], fun _ => HA.out, fun _ => HO.out⟩
        case measure => simp [intOf] <;> omega
     ·have hv' : (r.b.ver == 0) = false := by simp [hv]
      have HO := Lib.hid (infCheck_ok HI.out (fun q => absurd q hv))
      clear hv
      go_wp2_with fail
      go_roundw
      case rel => exact ⟨2, by omega, rfl, HB.out.alloc HB.out.size _, by rw [rowOf_alloc, if_neg (by omega), HW.out], fun _ => HA.out, fun _ => HO.out⟩
      case measure => simp [intOf] <;> omega
    ·have HE := Lib.hid (recCheck_b HR.out HA.out (infCheck_bad hi) (by omega))
     have hb : infB r.b = false := by rw [← Bool.not_eq_true, infB_iff]; exact hi
     unfold infB at hb
     clear hi
     go_wp2_with fail
     refine (in_calls _ _ _ _).mono ?_
     rintro e v0 ⟨rfl, rfl⟩
     cases g0 : within r.b.ver 0 30
     ·clear hb
      go_wp2_with fail
      go_ret
      exact ⟨ret_int HE.out.symm, HB.out.alloc HB.out.size _⟩
     ·have _u := hb
      clear _u
      go_wp2_with fail
      refine (in_calls _ _ _ _).mono ?_
      rintro e v1 ⟨rfl, rfl⟩
      cases g1 : within r.b.size 0 64
      ·clear hb
       go_wp2_with fail
       go_ret
       exact ⟨ret_int HE.out.symm, HB.out.alloc HB.out.size _⟩
      ·have _u := hb
       clear _u
       go_wp2_with fail
       refine (in_calls _ _ _ _).mono ?_
       rintro e v2 ⟨rfl, rfl⟩
       cases g2 : within r.b.sum 0 65535
       ·clear hb
        go_wp2_with fail
        go_ret
        exact ⟨ret_int HE.out.symm, HB.out.alloc HB.out.size _⟩
       ·simp [g0, g1, g2] at hb
  ·obtain rfl : k = 2 := by omega
   have HE := Lib.hid (recCheck_sum HR.out (ha (by omega)) (hb (by omega)))
   have hr := HR.out
   obtain ⟨c0, f0⟩ : (∀ j, wr.cell? ⟨w.heap.size, j, none⟩ = (recA r)[j]?) ∧ rowOf wr w.heap.size = recA r := ⟨fun j => by rw [cell_row hp, HW.out], HW.out⟩
   have hfl := hr.2.2.2.2.2.2.1
   have hfm := hr.2.2.2.2.2.2.2
   have htr := hr.2.2.2.2.1
   have hts := hr.2.2.2.2.2.1
   have hk1 : r.active = 0 ∨ r.active = 1 := by have := hr.2.2.1; have := hr.2.2.2.1; omega
   clear ha hb hp hr
   have hF : FormOk r = ((r.at_ r.active).ver ≠ 0 ∧ (r.trying = true → (r.at_ (1 - r.active)).ver ≠ 0 ∧ r.floor ≤ (r.at_ (1 - r.active)).ver) ∧ (r.trying = false → r.tries = 0) ∧ r.floor ≤ (r.at_ r.active).ver) := rfl
   have HF := Lib.hid hF
   clear hF
   rcases hk1 with hk1 | hk1
   ·have H1 : Hid (FormOk r = (r.a.ver ≠ 0 ∧ (r.trying = true → r.b.ver ≠ 0 ∧ r.floor ≤ r.b.ver) ∧ (r.trying = false → r.tries = 0) ∧ r.floor ≤ r.a.ver)) := Lib.hid (HF.out.trans (by simp [Rec.at_, hk1]))
    clear HF
    go_wp2_with fail
    go_quiet (fail)
    by_cases hn : r.a.ver < r.floor
    ·cases ht : r.trying
     all_goals (
      have HC := Lib.hid (HE.out.trans (if_neg (by rw [H1.out]; simp [ht] <;> omega)))
      clear H1 HE
      go_wp2_with fail
      go_ret
      exact ⟨ret_int HC.out.symm, Below.drewN' HB.out _⟩)
    ·cases ht : r.trying
     ·by_cases hy : 0 < r.tries
      ·have _u := hy
       have HC := Lib.hid (HE.out.trans (if_neg (by rw [H1.out]; simp [ht] <;> omega)))
       clear H1 HE
       go_wp2_with fail
       go_ret
       exact ⟨ret_int HC.out.symm, Below.drewN' HB.out _⟩
      ·have _u := hy
       have HC := Lib.hid (HE.out.trans (if_pos (by rw [H1.out]; simp [ht] <;> omega)))
       clear H1 HE
       go_wp2_with fail
       go_ret
       exact ⟨ret_int HC.out.symm, Below.drewN' HB.out _⟩
     ·by_cases hm : r.b.ver < r.floor
      ·have _u := hm
       have HC := Lib.hid (HE.out.trans (if_neg (by rw [H1.out]; simp [ht] <;> omega)))
       clear H1 HE
       go_wp2_with fail
       go_ret
       exact ⟨ret_int HC.out.symm, Below.drewN' HB.out _⟩
      ·by_cases hy : 0 < r.tries
       ·have _u := hy
        have HC := Lib.hid (HE.out.trans (if_pos (by rw [H1.out]; simp [ht] <;> omega)))
        clear H1 HE
        go_wp2_with fail
        go_ret
        exact ⟨ret_int HC.out.symm, Below.drewN' HB.out _⟩
       ·have _u := hy
        have HC := Lib.hid (HE.out.trans (if_pos (by rw [H1.out]; simp [ht] <;> omega)))
        clear H1 HE
        go_wp2_with fail
        go_ret
        exact ⟨ret_int HC.out.symm, Below.drewN' HB.out _⟩
   ·have H1 : Hid (FormOk r = (r.b.ver ≠ 0 ∧ (r.trying = true → r.a.ver ≠ 0 ∧ r.floor ≤ r.a.ver) ∧ (r.trying = false → r.tries = 0) ∧ r.floor ≤ r.b.ver)) := Lib.hid (HF.out.trans (by simp [Rec.at_, hk1]))
    clear HF
    go_wp2_with fail
    go_quiet (fail)
    by_cases hn : r.b.ver < r.floor
    ·cases ht : r.trying
     all_goals (
      have HC := Lib.hid (HE.out.trans (if_neg (by rw [H1.out]; simp [ht] <;> omega)))
      clear H1 HE
      go_wp2_with fail
      go_ret
      exact ⟨ret_int HC.out.symm, Below.drewN' HB.out _⟩)
    ·cases ht : r.trying
     ·by_cases hy : 0 < r.tries
      ·have _u := hy
       have HC := Lib.hid (HE.out.trans (if_neg (by rw [H1.out]; simp [ht] <;> omega)))
       clear H1 HE
       go_wp2_with fail
       go_ret
       exact ⟨ret_int HC.out.symm, Below.drewN' HB.out _⟩
      ·have _u := hy
       have HC := Lib.hid (HE.out.trans (if_pos (by rw [H1.out]; simp [ht] <;> omega)))
       clear H1 HE
       go_wp2_with fail
       go_ret
       exact ⟨ret_int HC.out.symm, Below.drewN' HB.out _⟩
     ·by_cases hm : r.a.ver < r.floor
      ·have _u := hm
       have HC := Lib.hid (HE.out.trans (if_neg (by rw [H1.out]; simp [ht] <;> omega)))
       clear H1 HE
       go_wp2_with fail
       go_ret
       exact ⟨ret_int HC.out.symm, Below.drewN' HB.out _⟩
      ·by_cases hy : 0 < r.tries
       ·have _u := hy
        have HC := Lib.hid (HE.out.trans (if_pos (by rw [H1.out]; simp [ht] <;> omega)))
        clear H1 HE
        go_wp2_with fail
        go_ret
        exact ⟨ret_int HC.out.symm, Below.drewN' HB.out _⟩
       ·have _u := hy
        have HC := Lib.hid (HE.out.trans (if_pos (by rw [H1.out]; simp [ht] <;> omega)))
        clear H1 HE
        go_wp2_with fail
        go_ret
        exact ⟨ret_int HC.out.symm, Below.drewN' HB.out _⟩
theorem refRecCheck_calls (r : Rec) (w : World) : Calls Tryz.prog 54 #[.agg (recA r)] w (RetB w (iv (recCheck r))) := by
 by_cases h : RangeOk r
 ·exact refRecCheck_ok r w h
 ·exact refRecCheck_bad r w h
def wholes (c d : Cop) (k : Nat) : Int := (if 0 < k ∧ c.ok = true then 1 else 0) + (if 1 < k ∧ d.ok = true then 1 else 0)
theorem wholes_bound (c d : Cop) (k : Nat) : 0 ≤ wholes c d k ∧ wholes c d k ≤ 2 := by unfold wholes; split <;> split <;> omega
theorem wholes_0 (c d : Cop) : wholes c d 0 = 0 := by simp [wholes]
theorem wholes_1t (c d : Cop) (h : c.ok = true) : wholes c d 1 = wholes c d 0 + 1 := by simp [wholes, h]
theorem wholes_1f (c d : Cop) (h : c.ok = false) : wholes c d 1 = wholes c d 0 := by simp [wholes, h]
theorem wholes_2t (c d : Cop) (h : d.ok = true) : wholes c d 2 = wholes c d 1 + 1 := by simp [wholes, h]
theorem wholes_2f (c d : Cop) (h : d.ok = false) : wholes c d 2 = wholes c d 1 := by simp [wholes, h]
theorem wholes_z (c d : Cop) : wholes c d 2 = 0 ↔ (c.ok = false ∧ d.ok = false) := by cases hc : c.ok <;> cases hd : d.ok <;> simp [wholes, hc, hd]
theorem refCopies_calls (c d : Cop) (w : World) : Calls Tryz.prog 47 #[.agg (copsA c d)] w (RetB w (iv (copCheck c d))) := by
 have i0 : ∀ w, (Instr.index 32 (.agg (copsA c d)) (.int .i64 0)).run Tryz.prog w = .ok (.agg (copA c)) w := fun _ => by kernel_rfl
 have i1 : ∀ w, (Instr.index 32 (.agg (copsA c d)) (.int .i64 1)).run Tryz.prog w = .ok (.agg (copA d)) w := fun _ => by kernel_rfl
 go_enter Tryz.func47, Tryz.ntmps47
 go_wp2_with fail
 go_loopw [8, 3] (fun i n wr => ∃ k : Nat, k ≤ 2 ∧ i = .int .i64 k ∧ n = .int .i64 (wholes c d k) ∧ Below w.heap.size w wr ∧ rowOf wr w.heap.size = copsA c d ∧ (0 < k → copOne c = 0) ∧ (1 < k → copOne d = 0)) (fun i _ _ => (2 - intOf i).toNat)
 case atStart => exact ⟨0, by omega, rfl, by rw [wholes_0], (Below.refl _ _).alloc (Nat.le_refl _) _, by rw [rowOf_alloc, if_pos rfl], by omega, by omega⟩
 case round =>
  obtain ⟨k, hk, rfl, rfl, hB, hrow, ha, hb⟩ := hrel
  have HB := Lib.hid hB
  have HR := Lib.hid hrow
  have hp : 0 < (rowOf wr w.heap.size).size := by rw [hrow, copsA_size]; decide
  have hlw := row_lt hp
  have hs := hB.size
  have hfr : True := trivial
  clear hrow hB
  obtain ⟨m, hm⟩ : ∃ m, wholes c d k = m := ⟨_, rfl⟩
  have hm1 : 0 ≤ m := by rw [← hm]; exact (wholes_bound c d k).1
  have hm2 : m ≤ 2 := by rw [← hm]; exact (wholes_bound c d k).2
  have HM := Lib.hid hm
  rw [hm]
  clear hm
  by_cases hlt : k < 2
  ·rcases (show k = 0 ∨ k = 1 by omega) with rfl | rfl
   ·have _u := ha
    clear _u ha hb hp
    go_wp2_with fail
    refine (refRecCheck_calls c.r _).mono ?_
    rintro e w1 ⟨rfl, hb1⟩
    have hB1 := (HB.out.alloc HB.out.size (.cells (copA c) 31)).trans (hb1.mono (by simp; omega))
    have hrow1 : rowOf w1 w.heap.size = copsA c d := by rw [rowOf_below (by simp; omega) hb1, rowOf_alloc, if_neg (by omega), HR.out]
    obtain ⟨r0, f0, n0, c0, z0, l0⟩ := keep1 (g := wr.heap.size) (cs := copA c) hb1 (by go_simp) (by go_simp) (by go_simp)
    have HB1 := Lib.hid hB1
    have HR1 := Lib.hid hrow1
    clear hb1 hB1 hrow1
    cases hok : c.ok
    ·by_cases hz : c.r = Rec.zero
     ·have HO := Lib.hid (copOne_lost0 hok hz)
      have hd : decide (c.r = Rec.zero) = true := decide_eq_true hz
      clear hz
      go_wp2_with fail
      go_roundw
      case rel => exact ⟨1, by omega, rfl, by rw [wholes_1f c d hok, HM.out], HB1.out, HR1.out, fun _ => HO.out, by omega⟩
      case measure => simp [intOf] <;> omega
     ·have HE := Lib.hid (copCheck_1 (d := d) (copOne_lost3 hok hz) (by omega))
      have hd : decide (c.r = Rec.zero) = false := decide_eq_false hz
      clear hz
      go_wp2_with fail
      go_ret
      exact ⟨ret_int HE.out.symm, HB1.out⟩
    ·have HO1 := Lib.hid (copOne_ok hok)
     by_cases hz : recCheck c.r = 0
     ·have HO := Lib.hid (HO1.out.trans hz)
      have hz' : (recCheck c.r != 0) = false := by simp [hz]
      clear hz
      go_wp2_with fail
      go_roundw
      case rel => exact ⟨1, by omega, rfl, by rw [wholes_1t c d hok, HM.out], HB1.out, HR1.out, fun _ => HO.out, by omega⟩
      case measure => simp [intOf] <;> omega
     ·have HE := Lib.hid (copCheck_1 (d := d) HO1.out hz)
      have hz' : (recCheck c.r != 0) = true := by simp [hz]
      clear hz
      go_wp2_with fail
      go_ret
      exact ⟨ret_int HE.out.symm, HB1.out⟩
   ·have HA := Lib.hid (ha (by omega))
    clear ha hb hp
    go_wp2_with fail
    refine (refRecCheck_calls d.r _).mono ?_
    rintro e w1 ⟨rfl, hb1⟩
    have hB1 := (HB.out.alloc HB.out.size (.cells (copA d) 31)).trans (hb1.mono (by simp; omega))
    have hrow1 : rowOf w1 w.heap.size = copsA c d := by rw [rowOf_below (by simp; omega) hb1, rowOf_alloc, if_neg (by omega), HR.out]
    obtain ⟨r0, f0, n0, c0, z0, l0⟩ := keep1 (g := wr.heap.size) (cs := copA d) hb1 (by go_simp) (by go_simp) (by go_simp)
    have HB1 := Lib.hid hB1
    have HR1 := Lib.hid hrow1
    clear hb1 hB1 hrow1
    cases hok : d.ok
    ·by_cases hz : d.r = Rec.zero
     ·have HO := Lib.hid (copOne_lost0 hok hz)
      have hd : decide (d.r = Rec.zero) = true := decide_eq_true hz
      clear hz
      go_wp2_with fail
      go_roundw
      case rel => exact ⟨2, by omega, rfl, by rw [wholes_2f c d hok, HM.out], HB1.out, HR1.out, fun _ => HA.out, fun _ => HO.out⟩
      case measure => simp [intOf] <;> omega
     ·have HE := Lib.hid (copCheck_2 HA.out (copOne_lost3 hok hz) (by omega))
      have hd : decide (d.r = Rec.zero) = false := decide_eq_false hz
      clear hz
      go_wp2_with fail
      go_ret
      exact ⟨ret_int HE.out.symm, HB1.out⟩
    ·have HO1 := Lib.hid (copOne_ok hok)
     by_cases hz : recCheck d.r = 0
     ·have HO := Lib.hid (HO1.out.trans hz)
      have hz' : (recCheck d.r != 0) = false := by simp [hz]
      clear hz
      go_wp2_with fail
      go_roundw
      case rel => exact ⟨2, by omega, rfl, by rw [wholes_2t c d hok, HM.out], HB1.out, HR1.out, fun _ => HA.out, fun _ => HO.out⟩
      case measure => simp [intOf] <;> omega
     ·have HE := Lib.hid (copCheck_2 HA.out HO1.out hz)
      have hz' : (recCheck d.r != 0) = true := by simp [hz]
      clear hz
      go_wp2_with fail
      go_ret
      exact ⟨ret_int HE.out.symm, HB1.out⟩
  ·obtain rfl : k = 2 := by omega
   have HF := Lib.hid (copCheck_3 (ha (by omega)) (hb (by omega)))
   clear ha hb hp
   by_cases h0 : m = 0
   ·have HE := Lib.hid (HF.out.trans (if_pos ((wholes_z c d).1 (HM.out.trans h0))))
    have h0' : (m == 0) = true := by simp [h0]
    clear h0
    go_wp2_with fail
    go_ret
    exact ⟨ret_int HE.out.symm, HB.out⟩
   ·have HE := Lib.hid (HF.out.trans (if_neg (fun q => h0 (HM.out.symm.trans ((wholes_z c d).2 q)))))
    have h0' : (m == 0) = false := by simp [h0]
    clear h0
    go_wp2_with fail
    go_ret
    exact ⟨ret_int HE.out.symm, HB.out⟩
def genOf (c : Cop) : Int := if c.ok = true then c.r.gen else 0
def refNewest (c d : Cop) : Rec × Int := if genOf c < genOf d then (d.r, 1) else (c.r, 0)
theorem refNewest_ok {c d : Cop} (h : copCheck c d = 0) : refNewest c d = recRead c d := by
 obtain ⟨h1, h2, h3⟩ := copCheck_ok h
 unfold refNewest recRead newer genOf
 cases hc : c.ok
 ·cases hd : d.ok
  ·exact absurd ⟨hc, hd⟩ h3
  ·rw [copOne_ok hd] at h2
   have := (recCheck_range0 h2).1
   simp; omega
 ·cases hd : d.ok
  ·rw [copOne_ok hc] at h1
   have := (recCheck_range0 h1).1
   simp; omega
  ·simp
theorem gen0_calls (c d : Cop) (g : Nat) (w : World) (hr : rowOf w g = copsA c d) : Calls Tryz.prog 22 #[.int .i64 0, .pointer (some ⟨g, 0, none⟩)] w (Ret w (iv (genOf c))) := by
 have hp : 0 < (rowOf w g).size := by rw [hr, copsA_size]; decide
 have hc : ∀ j, w.cell? ⟨g, j, none⟩ = (copsA c d)[j]? := fun j => by rw [cell_row hp, hr]
 have hl := row_lt hp
 clear hp
 go_enter Tryz.func22, Tryz.ntmps22
 cases hok : c.ok
 ·have HE : Hid (genOf c = 0) := Lib.hid (by unfold genOf; rw [hok]; rfl)
  go_wp2_with fail
  go_ret
  exact ⟨ret_int HE.out.symm, rfl⟩
 ·have HE : Hid (genOf c = c.r.gen) := Lib.hid (by unfold genOf; rw [hok]; rfl)
  go_wp2_with fail
  go_ret
  exact ⟨ret_int HE.out.symm, rfl⟩
theorem gen1_calls (c d : Cop) (g : Nat) (w : World) (hr : rowOf w g = copsA c d) : Calls Tryz.prog 22 #[.int .i64 1, .pointer (some ⟨g, 0, none⟩)] w (Ret w (iv (genOf d))) := by
 have hp : 0 < (rowOf w g).size := by rw [hr, copsA_size]; decide
 have hc : ∀ j, w.cell? ⟨g, j, none⟩ = (copsA c d)[j]? := fun j => by rw [cell_row hp, hr]
 have hl := row_lt hp
 clear hp
 go_enter Tryz.func22, Tryz.ntmps22
 cases hok : d.ok
 ·have HE : Hid (genOf d = 0) := Lib.hid (by unfold genOf; rw [hok]; rfl)
  go_wp2_with fail
  go_ret
  exact ⟨ret_int HE.out.symm, rfl⟩
 ·have HE : Hid (genOf d = d.r.gen) := Lib.hid (by unfold genOf; rw [hok]; rfl)
  go_wp2_with fail
  go_ret
  exact ⟨ret_int HE.out.symm, rfl⟩
theorem newest_calls (c d : Cop) (w : World) : Calls Tryz.prog 8 #[.agg (copsA c d)] w (RetB w (.tuple #[.agg (recA (refNewest c d).1), iv (refNewest c d).2])) := by
 go_enter Tryz.func8, Tryz.ntmps8
 go_wp2_with fail
 refine (gen1_calls c d _ _ (by go_simp)).mono ?_
 rintro e w1 ⟨rfl, rfl⟩
 go_wp2_with fail
 refine (gen0_calls c d _ _ (by go_simp)).mono ?_
 rintro e w2 ⟨rfl, rfl⟩
 by_cases h : genOf c < genOf d
 ·have HE : Hid (refNewest c d = (d.r, 1)) := Lib.hid (if_pos h)
  have hB := ((Below.refl w.heap.size w).alloc (Nat.le_refl _) (.cells (copsA c d) 32)).alloc (by simp) (.cells (recA d.r) 29)
  have HB := Lib.hid hB
  clear hB
  go_wp2_with fail
  refine bodyPost_ret (results_ct rfl rfl (cs := recA d.r) (by go_simp) (by go_simp) (by go_simp)) rfl ⟨by rw [HE.out]; rfl, HB.out⟩
 ·have HE : Hid (refNewest c d = (c.r, 0)) := Lib.hid (if_neg h)
  have hB := ((Below.refl w.heap.size w).alloc (Nat.le_refl _) (.cells (copsA c d) 32)).alloc (by simp) (.cells (recA c.r) 29)
  have HB := Lib.hid hB
  clear hB
  go_wp2_with fail
  refine bodyPost_ret (results_ct rfl rfl (cs := recA c.r) (by go_simp) (by go_simp) (by go_simp)) rfl ⟨by rw [HE.out]; rfl, HB.out⟩
def refStart (r : Rec) : Int × Rec :=
 if r.trying = true ∧ 0 < r.tries then (1 - r.active, { r with tries := r.tries - 1 }) else (r.active, { r with trying := false })
theorem refStart_ok {r : Rec} (h : recCheck r = 0) : recStart r = ((refStart r).1, (refStart r).2, 0) := by
 have hr := (recCheck_range0 h).2.2.2.2.1
 unfold recStart refStart
 rw [if_pos h]
 cases ht : r.trying
 ·simp
  cases r; simp_all
 ·by_cases h0 : r.tries = 0
  ·simp [h0]
  ·simp [h0, show 0 < r.tries by omega]
theorem started_calls (r : Rec) (w : World) (ha : 0 ≤ r.active ∧ r.active ≤ 1) (ht : 0 ≤ r.tries ∧ r.tries ≤ 3) : Calls Tryz.prog 34 #[.agg (recA r)] w (RetB w (.tuple #[iv (refStart r).1, .agg (recA (refStart r).2)])) := by
 obtain ⟨ha1, ha2⟩ := ha
 obtain ⟨ht1, ht2⟩ := ht
 go_enter Tryz.func34, Tryz.ntmps34
 have HB := Lib.hid (((Below.refl w.heap.size w).alloc (Nat.le_refl _) (.cells (recA r) 29)).alloc (by simp) (.cells (recA Rec.zero) 29))
 cases hy : r.trying
 ·have HE : Hid (refStart r = (r.active, { r with trying := false })) := Lib.hid (by unfold refStart; rw [if_neg (by simp [hy])])
  go_wp2_with fail
  go_region
  all_goals go_wp2_with fail
  all_goals (
   refine bodyPost_ret (results_tc rfl rfl (cs := recA { r with trying := false }) (by go_simp) (by go_simp) (by go_simp)) rfl ⟨by rw [HE.out]; rfl, ?_⟩
   repeat (first | exact Below.refl _ _ | refine below_row ?_ (by omega) _ | refine Below.setCell ?_ (by simp <;> omega) _ | refine Below.alloc ?_ (by simp <;> omega) _ | refine Below.drew ?_))
 ·by_cases h0 : 0 < r.tries
  ·have HE : Hid (refStart r = (1 - r.active, { r with tries := r.tries - 1 })) := Lib.hid (by unfold refStart; rw [if_pos ⟨hy, h0⟩])
   go_wp2_with fail
   go_region
   all_goals go_wp2_with fail
   all_goals (
    refine bodyPost_ret (results_tc rfl rfl (cs := recA { r with tries := r.tries - 1 }) (by go_simp) (by go_simp) (by go_simp)) rfl ⟨by rw [HE.out]; rfl, ?_⟩
    repeat (first | exact Below.refl _ _ | refine below_row ?_ (by omega) _ | refine Below.setCell ?_ (by simp <;> omega) _ | refine Below.alloc ?_ (by simp <;> omega) _ | refine Below.drew ?_))
  ·have HE : Hid (refStart r = (r.active, { r with trying := false })) := Lib.hid (by unfold refStart; rw [if_neg (by simp [h0])])
   go_wp2_with fail
   go_region
   all_goals go_wp2_with fail
   all_goals (
    refine bodyPost_ret (results_tc rfl rfl (cs := recA { r with trying := false }) (by go_simp) (by go_simp) (by go_simp)) rfl ⟨by rw [HE.out]; rfl, ?_⟩
    repeat (first | exact Below.refl _ _ | refine below_row ?_ (by omega) _ | refine Below.setCell ?_ (by simp <;> omega) _ | refine Below.alloc ?_ (by simp <;> omega) _ | refine Below.drew ?_))
theorem big_cops' (n : Nat) (h : 0 < n) : bigBuild Tryz.prog 32 n := by
 obtain ⟨i, hi, _⟩ := info_parts (P := Tryz.prog) (e := 32) (z := .agg (copsA Cop.zero Cop.zero)) (size := 24) (bytes := 192) (by kernel_rfl)
 exact ⟨i, hi, h⟩
@[go_sem] theorem big_cops2 : bigBuild Tryz.prog 32 2 := big_cops' 2 (by decide)
@[go_sem] theorem build_inf1 (a : Int) (w : World) : runBuild Tryz.prog 26 #[(0, .int .i64 a)] w = .ok (.agg (infA ⟨a, 0, 0⟩)) w := by kernel_rfl
@[go_sem] theorem build_infs1 (x : Inf) (w : World) : runBuild Tryz.prog 27 #[(0, .agg (infA x))] w = .ok (.agg (infsA x Inf.zero)) w := by kernel_rfl
@[go_sem] theorem build_infs2 (x y : Inf) (w : World) : runBuild Tryz.prog 27 #[(0, .agg (infA x)), (1, .agg (infA y))] w = .ok (.agg (infsA x y)) w := by kernel_rfl
@[go_sem] theorem build_rec3 (g f : Int) (x y : Inf) (w : World) : runBuild Tryz.prog 29 #[(0, .int .i64 g), (4, .int .i64 f), (5, .agg (infsA x y))] w = .ok (.agg (recA ⟨g, 0, false, 0, f, x, y⟩)) w := by kernel_rfl
@[go_sem] theorem build_rec4 (g k f : Int) (x y : Inf) (w : World) : runBuild Tryz.prog 29 #[(0, .int .i64 g), (1, .int .i64 k), (4, .int .i64 f), (5, .agg (infsA x y))] w = .ok (.agg (recA ⟨g, k, false, 0, f, x, y⟩)) w := by kernel_rfl
@[go_sem] theorem build_cops1 (c : Cop) (w : World) : runBuild Tryz.prog 32 #[(0, .agg (copA c))] w = .ok (.agg (copsA c Cop.zero)) w := by kernel_rfl
@[go_sem] theorem build_cops2 (c d : Cop) (w : World) : runBuild Tryz.prog 32 #[(0, .agg (copA c)), (1, .agg (copA d))] w = .ok (.agg (copsA c d)) w := by kernel_rfl
theorem written_calls (c d : Cop) (r : Rec) (torn : Bool) (w : World) (h : copCheck c d = 0) : Calls Tryz.prog 25 #[.agg (copsA c d), .agg (recA r), .bool torn] w
  (RetB w (.tuple #[.agg (copsA (recWrite c d r torn).1.1 (recWrite c d r torn).1.2), iv (recWrite c d r torn).2])) := by
 have hrg := recCheck_range0 (recRead_ok h)
 have hk : (recRead c d).2 = 0 ∨ (recRead c d).2 = 1 := by unfold recRead; split <;> simp
 have hw : recWrite c d r torn = if recCheck { r with gen := (recRead c d).1.gen + 1 } = 0 then (recPut c d r torn, 0) else ((Cop.zero, Cop.zero), recCheck { r with gen := (recRead c d).1.gen + 1 }) := by unfold recWrite; rw [if_pos h]
 have hp : recPut c d r torn = if (recRead c d).2 = 0 then (c, if torn = true then Cop.zero else ⟨true, { r with gen := (recRead c d).1.gen + 1 }⟩) else (if torn = true then Cop.zero else ⟨true, { r with gen := (recRead c d).1.gen + 1 }⟩, d) := rfl
 have hread := newest_calls c d
 rw [refNewest_ok h] at hread
 generalize recRead c d = q at *
 obtain ⟨was, k⟩ := q
 simp only at hk hw hp hread hrg
 have HW := Lib.hid hw
 have HP := Lib.hid hp
 have HRd := Lib.hid hread
 have hg1 := hrg.1
 have hg2 := hrg.2.1
 clear hw hp hread hrg h
 go_enter Tryz.func25, Tryz.ntmps25
 go_wp2_with fail
 refine (HRd.out _).mono ?_
 rintro e w1 ⟨rfl, hb1⟩
 obtain ⟨r0, f0, n0, c0, z0, l0⟩ := keep1 (g := w.heap.size) (cs := copsA c d) hb1 (by go_simp) (by go_simp) (by go_simp)
 obtain ⟨r1, f1, n1, c1, z1, l1⟩ := keep1 (g := w.heap.size + 1) (cs := recA r) hb1 (by go_simp) (by go_simp) (by go_simp)
 obtain ⟨r2, f2, n2, c2, z2, l2⟩ := keep1 (g := w.heap.size + 1 + 1) (cs := copsA Cop.zero Cop.zero) hb1 (by go_simp) (by go_simp) (by go_simp)
 have HB := Lib.hid (((((Below.refl _ _).alloc (Nat.le_refl _) _).alloc (by simp) _).alloc (by simp; omega) _).trans (hb1.mono (B' := w.heap.size) (by simp; omega)))
 clear hb1
 go_wp2_with fail
 refine (refRecCheck_calls { r with gen := was.gen + 1 } _).mono ?_
 rintro e w2 ⟨rfl, hb2⟩
 obtain ⟨r5, f5, n5, c5, z5, l5⟩ := keep1 (g := w.heap.size) (cs := copsA c d) hb2 (by go_simp) (by go_simp) (by go_simp)
 obtain ⟨r6, f6, n6, c6, z6, l6⟩ := keep1 (g := w.heap.size + 1) (cs := recA { r with gen := was.gen + 1 }) hb2 (by go_simp) (by go_simp) (by go_simp)
 obtain ⟨r7, f7, n7, c7, z7, l7⟩ := keep1 (g := w.heap.size + 1 + 1) (cs := copsA Cop.zero Cop.zero) hb2 (by go_simp) (by go_simp) (by go_simp)
 have hs := HB.out.size
 have HB2 : Hid (Below w.heap.size w w2) := ((HB.out.setCell (p := ⟨w.heap.size + 1, 0, none⟩) (by simp) (.int .i64 (was.gen + 1))).alloc (by simp; omega) (.cells (recA was) 29)).trans (hb2.mono (by simp; omega))
 have hs2 := HB2.out.size
 clear hb2 r0 f0 n0 c0 z0 l0 r1 f1 n1 c1 z1 l1 r2 f2 n2 c2 z2 l2 hs
 by_cases hz : recCheck { r with gen := was.gen + 1 } = 0
 ·have hz' : (recCheck { r with gen := was.gen + 1 } != 0) = false := by simp [hz]
  have HE := Lib.hid (HW.out.trans (if_pos hz))
  clear hz HW
  rcases hk with rfl | rfl
  ·have HP2 := Lib.hid (HP.out.trans (if_pos rfl))
   cases torn
   ·go_wp2_with fail
    refine bodyPost_ret (results_ct rfl rfl (cs := copsA c ⟨true, { r with gen := was.gen + 1 }⟩) (by go_simp) (by go_simp) (by go_simp)) rfl ⟨by rw [HE.out, HP2.out]; rfl, ?_⟩
    repeat (first | exact HB2.out | refine below_row ?_ (by omega) _ | refine Below.setCell ?_ (by simp <;> omega) _ | refine Below.alloc ?_ (by simp <;> omega) _)
   ·go_wp2_with fail
    refine bodyPost_ret (results_ct rfl rfl (cs := copsA c Cop.zero) (by go_simp) (by go_simp) (by go_simp)) rfl ⟨by rw [HE.out, HP2.out]; rfl, ?_⟩
    repeat (first | exact HB2.out | refine below_row ?_ (by omega) _ | refine Below.setCell ?_ (by simp <;> omega) _ | refine Below.alloc ?_ (by simp <;> omega) _)
  ·have HP2 := Lib.hid (HP.out.trans (if_neg (by decide)))
   cases torn
   ·go_wp2_with fail
    refine bodyPost_ret (results_ct rfl rfl (cs := copsA ⟨true, { r with gen := was.gen + 1 }⟩ d) (by go_simp) (by go_simp) (by go_simp)) rfl ⟨by rw [HE.out, HP2.out]; rfl, ?_⟩
    repeat (first | exact HB2.out | refine below_row ?_ (by omega) _ | refine Below.setCell ?_ (by simp <;> omega) _ | refine Below.alloc ?_ (by simp <;> omega) _)
   ·go_wp2_with fail
    refine bodyPost_ret (results_ct rfl rfl (cs := copsA Cop.zero d) (by go_simp) (by go_simp) (by go_simp)) rfl ⟨by rw [HE.out, HP2.out]; rfl, ?_⟩
    repeat (first | exact HB2.out | refine below_row ?_ (by omega) _ | refine Below.setCell ?_ (by simp <;> omega) _ | refine Below.alloc ?_ (by simp <;> omega) _)
 ·have hz' : (recCheck { r with gen := was.gen + 1 } != 0) = true := by simp [hz]
  have HE := Lib.hid (HW.out.trans (if_neg hz))
  clear hz HW HP hk
  go_wp2_with fail
  refine bodyPost_ret (results_ct rfl rfl (cs := copsA Cop.zero Cop.zero) (by go_simp) (by go_simp) (by go_simp)) rfl ⟨by rw [HE.out]; rfl, ?_⟩
  repeat (first | exact HB2.out | refine below_row ?_ (by omega) _ | refine Below.setCell ?_ (by simp <;> omega) _ | refine Below.alloc ?_ (by simp <;> omega) _)
def chkA (f t n o : Int) (A : Option Addr) (k c : Nat) : Array Value := #[iv f, iv t, iv n, iv o, .slice A k c]
@[go_sem] theorem chkA_size (f t n o : Int) (A : Option Addr) (k c : Nat) : (chkA f t n o A k c).size = 5 := by simp [chkA]
@[go_sem] theorem chkA_one (f t n o : Int) (A : Option Addr) (k c : Nat) : allOne (chkA f t n o A k c) = true := by simp [chkA, allOne, Value.oneCell']
@[go_sem] theorem chkA_at0 (f t n o : Int) (A : Option Addr) (k c : Nat) (h : 0 < (chkA f t n o A k c).size) : (chkA f t n o A k c)[0]'h = iv f := by simp [chkA]
@[go_sem] theorem chkA_at1 (f t n o : Int) (A : Option Addr) (k c : Nat) (h : 1 < (chkA f t n o A k c).size) : (chkA f t n o A k c)[1]'h = iv t := by simp [chkA]
@[go_sem] theorem chkA_at2 (f t n o : Int) (A : Option Addr) (k c : Nat) (h : 2 < (chkA f t n o A k c).size) : (chkA f t n o A k c)[2]'h = iv n := by simp [chkA]
@[go_sem] theorem chkA_at3 (f t n o : Int) (A : Option Addr) (k c : Nat) (h : 3 < (chkA f t n o A k c).size) : (chkA f t n o A k c)[3]'h = iv o := by simp [chkA]
@[go_sem] theorem chkA_at4 (f t n o : Int) (A : Option Addr) (k c : Nat) (h : 4 < (chkA f t n o A k c).size) : (chkA f t n o A k c)[4]'h = .slice A k c := by simp [chkA]
@[go_sem] theorem chkA_all (f t n o : Int) (A : Option Addr) (k c : Nat) : (chkA f t n o A k c).extract 0 5 = chkA f t n o A k c := by simp [chkA]
@[go_sem] theorem chk_lit (f t n o : Int) (A : Option Addr) (k c : Nat) : Value.agg #[.int .i64 f, .int .i64 t, .int .i64 n, .int .i64 o, .slice A k c] = Value.agg (chkA f t n o A k c) := by simp [chkA]
@[go_sem] theorem aggSzChk : aggSz Tryz.prog 56 = 5 := by kernel_rfl
theorem chkCheck_bad (h : ¬ x.range) : chkCheck x = 2 := by unfold chkCheck; rw [if_pos h]
theorem chkCheck_form (h : x.range) (g : ¬ x.full) : chkCheck x = 3 := by unfold chkCheck; rw [if_neg (by simpa using h), if_pos g]
theorem chkCheck_fine (h : x.range) (g : x.full) : chkCheck x = 0 := chkCheck_ok.2 ⟨h, g⟩
theorem full_len {f t n o : Int} {l : List UInt8} : Chk.full ⟨f, t, n, o, l⟩ ↔ l.length ≠ 0 ∧ l.length ≤ 16 ∧ (n < o - 1 → l.length = 16) := by
 unfold Chk.full
 dsimp only
 rw [← List.length_pos_iff]
 constructor <;> (intro h; refine ⟨by omega, h.2.1, h.2.2⟩)
theorem chkCheck_calls (A : Option Addr) (c : Nat) (f t n o : Int) (l : List UInt8) (w : World) (hn : I64 n) (ho : I64 o) :
  Calls Tryz.prog 37 #[.agg (chkA f t n o A l.length c)] w (RetB w (iv (chkCheck ⟨f, t, n, o, l⟩))) := by
 obtain ⟨hn1, hn2⟩ := hn
 obtain ⟨ho1, ho2⟩ := ho
 have hb : Below w.heap.size w (w.alloc (.cells (chkA f t n o A l.length c) 56)) := (Below.refl _ _).alloc (Nat.le_refl _) _
 have HB := Lib.hid hb
 clear hb
 by_cases h0 : f < (1 : Int)
 ·have hz := Lib.hid (chkCheck_bad (x := ⟨f, t, n, o, l⟩) (by unfold Chk.range; dsimp only; omega))
  go_enter Tryz.func37, Tryz.ntmps37
  go_wp2_with fail
  go_ret
  exact ⟨ret_int hz.out.symm, HB.out⟩
 by_cases h1 : (30 : Int) < f
 ·have hz := Lib.hid (chkCheck_bad (x := ⟨f, t, n, o, l⟩) (by unfold Chk.range; dsimp only; omega))
  go_enter Tryz.func37, Tryz.ntmps37
  go_wp2_with fail
  go_ret
  exact ⟨ret_int hz.out.symm, HB.out⟩
 by_cases h2 : t < (1 : Int)
 ·have hz := Lib.hid (chkCheck_bad (x := ⟨f, t, n, o, l⟩) (by unfold Chk.range; dsimp only; omega))
  go_enter Tryz.func37, Tryz.ntmps37
  go_wp2_with fail
  go_ret
  exact ⟨ret_int hz.out.symm, HB.out⟩
 by_cases h3 : (30 : Int) < t
 ·have hz := Lib.hid (chkCheck_bad (x := ⟨f, t, n, o, l⟩) (by unfold Chk.range; dsimp only; omega))
  go_enter Tryz.func37, Tryz.ntmps37
  go_wp2_with fail
  go_ret
  exact ⟨ret_int hz.out.symm, HB.out⟩
 by_cases h4 : o < (1 : Int)
 ·have hz := Lib.hid (chkCheck_bad (x := ⟨f, t, n, o, l⟩) (by unfold Chk.range; dsimp only; omega))
  go_enter Tryz.func37, Tryz.ntmps37
  go_wp2_with fail
  go_ret
  exact ⟨ret_int hz.out.symm, HB.out⟩
 by_cases h5 : (52 : Int) < o
 ·have hz := Lib.hid (chkCheck_bad (x := ⟨f, t, n, o, l⟩) (by unfold Chk.range; dsimp only; omega))
  go_enter Tryz.func37, Tryz.ntmps37
  go_wp2_with fail
  go_ret
  exact ⟨ret_int hz.out.symm, HB.out⟩
 by_cases h6 : n < (0 : Int)
 ·have hz := Lib.hid (chkCheck_bad (x := ⟨f, t, n, o, l⟩) (by unfold Chk.range; dsimp only; omega))
  go_enter Tryz.func37, Tryz.ntmps37
  go_wp2_with fail
  go_ret
  exact ⟨ret_int hz.out.symm, HB.out⟩
 by_cases h7 : o ≤ n
 ·have hz := Lib.hid (chkCheck_bad (x := ⟨f, t, n, o, l⟩) (by unfold Chk.range; dsimp only; omega))
  go_enter Tryz.func37, Tryz.ntmps37
  go_wp2_with fail
  go_ret
  exact ⟨ret_int hz.out.symm, HB.out⟩
 have hr : Chk.range ⟨f, t, n, o, l⟩ := by unfold Chk.range; dsimp only; omega
 have HR := Lib.hid hr
 clear hr
 have hw : IntKind.i64.wrap (o - 1) = o - 1 := IntWalk.i64_in _ (by omega)
 by_cases g0 : l.length = 0
 ·have hz := Lib.hid (chkCheck_form HR.out (fun e => (full_len.1 e).1 g0))
  have q : ((l.length : Int) == 0) = true := by simp [g0]
  clear g0
  go_enter Tryz.func37, Tryz.ntmps37
  go_wp2_with fail
  go_ret
  exact ⟨ret_int hz.out.symm, HB.out⟩
 have q0 : ((l.length : Int) == 0) = false := beq_eq_false_iff_ne.2 (by omega)
 by_cases g1 : (16 : Int) < (l.length : Int)
 ·have hz := Lib.hid (chkCheck_form HR.out (fun e => by have := (full_len.1 e).2.1; omega))
  clear g0
  go_enter Tryz.func37, Tryz.ntmps37
  go_wp2_with fail
  go_ret
  exact ⟨ret_int hz.out.symm, HB.out⟩
 by_cases g2 : n < o - 1
 ·by_cases g3 : l.length = 16
  ·have q1 : ((l.length : Int) != 16) = false := by simp [g3]
   have hz := Lib.hid (chkCheck_fine HR.out (full_len.2 ⟨by omega, by omega, fun _ => g3⟩))
   clear g0 g3
   go_enter Tryz.func37, Tryz.ntmps37
   go_wp2_with fail
   go_ret
   exact ⟨ret_int hz.out.symm, HB.out⟩
  ·have q1 : ((l.length : Int) != 16) = true := bne_iff_ne.2 (by omega)
   have hz := Lib.hid (chkCheck_form HR.out (fun e => g3 ((full_len.1 e).2.2 g2)))
   clear g0 g3
   go_enter Tryz.func37, Tryz.ntmps37
   go_wp2_with fail
   go_ret
   exact ⟨ret_int hz.out.symm, HB.out⟩
 ·have hz := Lib.hid (chkCheck_fine HR.out (full_len.2 ⟨by omega, by omega, fun h => absurd h g2⟩))
  clear g0
  go_enter Tryz.func37, Tryz.ntmps37
  go_wp2_with fail
  go_ret
  exact ⟨ret_int hz.out.symm, HB.out⟩
theorem kin_calls (A B : Option Addr) (c d k m : Nat) (f t n o f2 t2 n2 o2 : Int) (l r : List UInt8) (w : World) :
  Calls Tryz.prog 87 #[.agg (chkA f t n o A k c), .agg (chkA f2 t2 n2 o2 B m d)] w (RetB w (.bool (decide (kin ⟨f, t, n, o, l⟩ ⟨f2, t2, n2, o2, r⟩)))) := by
 have hb : Below w.heap.size w ((w.alloc (.cells (chkA f t n o A k c) 56)).alloc (.cells (chkA f2 t2 n2 o2 B m d) 56)) := ((Below.refl _ _).alloc (Nat.le_refl _) _).alloc (by simp) _
 have HB := Lib.hid hb
 clear hb
 by_cases h0 : ¬ f = f2
 ·have hz : decide (kin ⟨f, t, n, o, l⟩ ⟨f2, t2, n2, o2, r⟩) = false := decide_eq_false (by unfold kin; dsimp only; omega)
  have HZ := Lib.hid hz
  have q : (f == f2) = false := by simp [h0]
  clear hz h0
  go_enter Tryz.func87, Tryz.ntmps87
  go_wp2_with fail
  go_ret
  exact ⟨ret_bool HZ.out.symm, HB.out⟩
 have h0 := Decidable.not_not.1 h0
 subst h0
 have q0 : (f == f) = true := by simp
 by_cases h1 : ¬ t = t2
 ·have hz : decide (kin ⟨f, t, n, o, l⟩ ⟨f, t2, n2, o2, r⟩) = false := decide_eq_false (by unfold kin; dsimp only; omega)
  have HZ := Lib.hid hz
  have q : (t == t2) = false := by simp [h1]
  clear hz h1
  go_enter Tryz.func87, Tryz.ntmps87
  go_wp2_with fail
  go_ret
  exact ⟨ret_bool HZ.out.symm, HB.out⟩
 have h1 := Decidable.not_not.1 h1
 subst h1
 have q1 : (t == t) = true := by simp
 by_cases h2 : ¬ o = o2
 ·have hz : decide (kin ⟨f, t, n, o, l⟩ ⟨f, t, n2, o2, r⟩) = false := decide_eq_false (by unfold kin; dsimp only; omega)
  have HZ := Lib.hid hz
  have q : (o == o2) = false := by simp [h2]
  clear hz h2
  go_enter Tryz.func87, Tryz.ntmps87
  go_wp2_with fail
  go_ret
  exact ⟨ret_bool HZ.out.symm, HB.out⟩
 have h2 := Decidable.not_not.1 h2
 subst h2
 have q2 : (o == o) = true := by simp
 have hz : decide (kin ⟨f, t, n, o, l⟩ ⟨f, t, n2, o, r⟩) = true := decide_eq_true ⟨rfl, rfl, rfl⟩
 have HZ := Lib.hid hz
 clear hz
 go_enter Tryz.func87, Tryz.ntmps87
 go_wp2_with fail
 go_ret
 exact ⟨ret_bool HZ.out.symm, HB.out⟩
theorem listGo_bad {p : Option Chk} (h : chkCheck x ≠ 0) : listGo p (x :: l) = chkCheck x := by unfold listGo; rw [if_pos h]
theorem listGo_form {p : Option Chk} (h : chkCheck x = 0) (g : ¬ follows p x) : listGo p (x :: l) = 3 := by unfold listGo; rw [if_neg (by simpa using h), if_pos g]
theorem listGo_next {p : Option Chk} (h : chkCheck x = 0) (g : follows p x) : listGo p (x :: l) = listGo (some x) l := by
 conv => lhs; unfold listGo
 rw [if_neg (by simpa using h), if_neg (by simpa using g)]
theorem chkCheckX_calls (A : Option Addr) (c : Nat) (x : Chk) (w : World) (h : I64 x.n ∧ I64 x.of_) :
  Calls Tryz.prog 37 #[.agg (chkA x.from_ x.to_ x.n x.of_ A x.data.length c)] w (RetB w (iv (chkCheck x))) := chkCheck_calls A c x.from_ x.to_ x.n x.of_ x.data w h.1 h.2
theorem kinY_calls (A B : Option Addr) (c d : Nat) (x y : Chk) (w : World) :
  Calls Tryz.prog 87 #[.agg (chkA x.from_ x.to_ x.n x.of_ A x.data.length c), .agg (chkA y.from_ y.to_ y.n y.of_ B y.data.length d)] w (RetB w (.bool (decide (kin x y)))) :=
 kin_calls A B c d x.data.length y.data.length x.from_ x.to_ x.n x.of_ y.from_ y.to_ y.n y.of_ x.data y.data w
def ChkAt (w : World) (b o : Nat) (x : Chk) (B : Option Addr) (c : Nat) : Prop :=
 w.cell? ⟨b, o, none⟩ = some (iv x.from_) ∧ w.cell? ⟨b, o + 1, none⟩ = some (iv x.to_) ∧ w.cell? ⟨b, o + 2, none⟩ = some (iv x.n) ∧ w.cell? ⟨b, o + 3, none⟩ = some (iv x.of_) ∧ w.cell? ⟨b, o + 4, none⟩ = some (.slice B x.data.length c)
theorem ChkAt.stays {w w' : World} {b o : Nat} {B : Option Addr} {c : Nat} (h : ChkAt w b o x B c) (hlt : b < w.heap.size) (hb : Below w.heap.size w w') : ChkAt w' b o x B c :=
 ⟨(hb.cell (p := ⟨b, o, none⟩) hlt).trans h.1, (hb.cell (p := ⟨b, o + 1, none⟩) hlt).trans h.2.1, (hb.cell (p := ⟨b, o + 2, none⟩) hlt).trans h.2.2.1, (hb.cell (p := ⟨b, o + 3, none⟩) hlt).trans h.2.2.2.1, (hb.cell (p := ⟨b, o + 4, none⟩) hlt).trans h.2.2.2.2⟩
theorem Chs.chk {w : World} {A : Option Addr} (h : Chs w A l) {i : Nat} (hi : i < l.length) : ∃ b o B c, A = some ⟨b, o, none⟩ ∧ b < w.heap.size ∧ ChkAt w b (o + i * 5) l[i] B c ∧ ChkIn w l[i] B c := by
 obtain ⟨b, o, B, c, h1, h2, h3, h4, h5, h6, h7, h8⟩ := h.at_ hi
 exact ⟨b, o, B, c, h1, h2, ⟨h3, h4, h5, h6, h7⟩, h8⟩
theorem chkList_calls (A : Option Addr) (c : Nat) (l : List Chk) (w : World) (hl : l.length ≤ 1048576) (hs : Chs w A l) :
  Calls Tryz.prog 63 #[.slice A l.length c] w (RetB w (iv (chkList l))) := by
 have HS := Lib.hid hs
 clear hs
 obtain ⟨r, hr⟩ : ∃ r, chkList l = r := ⟨_, rfl⟩
 rw [hr]
 have HR : Hid (listGo none l = r) := Lib.hid hr
 clear hr
 go_enter Tryz.func63, Tryz.ntmps63
 go_wp2_with fail
 go_loopw [8] (fun i wr => ∃ k : Nat, k ≤ l.length ∧ i = .int .i64 k ∧ Hid (listGo ((l.take k).getLast?) (l.drop k) = r) ∧ Hid (Below w.heap.size w wr)) (fun i _ => l.length - (intOf i).toNat)
 case atStart => exact ⟨0, Nat.zero_le _, rfl, Lib.hid HR.out, Lib.hid (Below.refl _ _)⟩
 case round =>
  rename World => wr
  obtain ⟨k, hk, rfl, HE, HB⟩ := hrel
  have hsz := HB.out.size
  by_cases hlt : k < l.length
  ·obtain ⟨b, o, B, cx, rfl, hb, hat, hin⟩ := HS.out.chk hlt
   have hdr : l.drop k = l[k] :: l.drop (k + 1) := List.drop_eq_getElem_cons hlt
   have hlast : (l.take (k + 1)).getLast? = some l[k] := by rw [List.take_succ_eq_append_getElem hlt, List.getLast?_concat]
   have hpre : ∀ (h0 : 0 < k), ∃ q D d, (l.take k).getLast? = some q ∧ ChkAt w b (o + (k - 1) * 5) q D d := fun h0 => by
    obtain ⟨b', o', D, d, e, _, h1, _⟩ := HS.out.chk (i := k - 1) (by omega)
    injection e with e
    injection e with e1 e2
    subst e1 e2
    refine ⟨l[k - 1], D, d, ?_, h1⟩
    rw [List.getLast?_take, if_neg (by omega), List.getElem?_eq_getElem (by omega)]
    rfl
   obtain ⟨x, hx⟩ : ∃ x, l[k] = x := ⟨_, rfl⟩
   rw [hx] at hdr hlast hat hin
   rw [hdr] at HE
   obtain ⟨p, hp⟩ : ∃ p, (l.take k).getLast? = p := ⟨_, rfl⟩
   rw [hp] at HE hpre
   have HLAST := Lib.hid hlast
   have hat2 := hat.stays hb HB.out
   obtain ⟨c0, c1, c2, c3, c4⟩ := hat2
   have HAT := Lib.hid hat
   have HP0 : Hid (k = 0 → p = none) := Lib.hid (fun e => by rw [← hp, e]; simp)
   have HPR := Lib.hid hpre
   have HK := Lib.hid (fun w => chkCheckX_calls B cx x w ⟨hin.i2, hin.i3⟩)
   have hblt : b < wr.heap.size := by omega
   have dl : decide ((k : Int) < (l.length : Int)) = true := decide_eq_true (by omega)
   have hwk : IntKind.i64.wrap ((k : Int) + 1) = (k : Int) + 1 := IntWalk.i64_in _ (by omega)
   clear hdr hlast hx hp hpre hat hin
   by_cases hck : chkCheck x ≠ 0
   ·have hz : r = chkCheck x := by rw [← HE.out, listGo_bad hck]
    have q : (chkCheck x != 0) = true := by simp [hck]
    have HZ := Lib.hid hz
    clear hck hz
    go_wp2_with fail
    refine (HK.out _).mono ?_
    rintro e w1 ⟨rfl, hb1⟩
    have HB1 : Hid (Below w.heap.size w w1) := by
     refine Lib.hid (HB.out.trans (Below.trans ?_ (hb1.mono (by first | omega | (simp <;> omega)))))
     repeat (first | exact Below.refl _ _ | refine Below.alloc ?_ (by first | omega | (simp <;> omega)) _)
    clear hb1
    go_wp2_with fail
    go_ret
    exact ⟨ret_int HZ.out.symm, HB1.out⟩
   have hck := Decidable.not_not.1 hck
   have HCK := Lib.hid hck
   rw [hck] at HK
   clear hck
   go_wp2_with fail
   refine (HK.out _).mono ?_
   rintro e w1 ⟨rfl, hb1⟩
   obtain ⟨a0r, a0f, a0n, a0c, a0z, a0l⟩ := keep1 (g := wr.heap.size) (cs := chkA x.from_ x.to_ x.n x.of_ B x.data.length cx) hb1 (by first | (go_simp; done) | (go_simp; rfl)) (by go_simp) (by go_simp)
   have HB1 : Hid (Below w.heap.size w w1) := by
    refine Lib.hid (HB.out.trans (Below.trans ?_ (hb1.mono (by first | omega | (simp <;> omega)))))
    repeat (first | exact Below.refl _ _ | refine Below.alloc ?_ (by first | omega | (simp <;> omega)) _)
   have hs1 := HB1.out.size
   clear hb1 c0 c1 c2 c3 c4
   have HD : Hid (∀ wq, Below w1.drew.heap.size w1.drew wq → Below w1.heap.size w1 wq) := Lib.hid (fun wq h => (Below.refl w1.heap.size w1).drew.trans h)
   have R4 : rowOf w1.drew wr.heap.size = chkA x.from_ x.to_ x.n x.of_ B x.data.length cx := by go_simp
   have F4 : frOf w1.drew wr.heap.size = (0, 0) := by go_simp
   go_wp2_with fail
   by_cases hk0 : k = 0
   ·have hz : listGo (some x) (l.drop (k + 1)) = r := by rw [← HE.out, listGo_next HCK.out (by rw [HP0.out hk0]; intro q e; cases e)]
    have HZ := Lib.hid hz
    have HKP := Lib.hid hk0
    clear hz hk0
    refine wp_region_chain (by kernel_rfl) (some 18 :: some 19 :: some 20 :: some 21 :: some 22 :: some 23 :: some 24 :: some 25 :: some 26 :: some 27 :: some 28 :: some 29 :: some 30 :: some 31 :: some 32 :: some 33 :: some 34 :: some 35 :: some 36 :: some 37 :: some 38 :: some 39 :: some 40 :: []) (.int .i64 (k : Int) :: .bool false :: .bool false :: undef :: undef :: undef :: undef :: undef :: undef :: undef :: undef :: undef :: undef :: undef :: undef :: undef :: undef :: undef :: undef :: undef :: undef :: undef :: .bool false :: []) 42 rfl rfl (by decide +kernel) (by decide +kernel) (by decide +kernel) rfl ?_ ?_
    ·refine ⟨.inl ⟨rfl, fun done a wq hw h => ?_⟩, ?_⟩
     ·have e3 := ch_old (t := 3) (v := .int .i64 (k : Int)) h rfl rfl; exact ch_move (ch_ev e3)
     refine ⟨.inl ⟨rfl, fun done a wq hw h => ?_⟩, ?_⟩
     ·have e18 := ch_new (i := 0) (t := 18) h (hw 0 (by decide)) rfl rfl; have hp := HKP.out; refine ch_pure ?_; go_simp
     refine ⟨.inl ⟨rfl, fun done a wq hw h => ?_⟩, ?_⟩
     ·have e19 := ch_new (i := 1) (t := 19) h (hw 1 (by decide)) rfl rfl; exact ch_move (ch_ev e19)
     iterate 19 refine ⟨.inr ⟨rfl, rfl⟩, ?_⟩
     refine ⟨.inl ⟨rfl, fun done a wq hw h => ?_⟩, ?_⟩
     ·have e20 := ch_new (i := 2) (t := 20) h (hw 2 (by decide)) rfl rfl; exact ch_pick_f e20 rfl
     exact trivial
    ·intro w2 hb2
     simp only [putAll_some, putAll_none, putAll_nil, List.setIfInBounds_toArray, List.set_cons_zero, List.set_cons_succ]
     have HB2 : Hid (Below w.heap.size w w2) := Lib.hid (HB1.out.trans (hb2.mono HB1.out.size))
     clear hb2 R4 F4 a0r a0f a0n a0c a0z a0l
     go_wp2_with fail
     go_roundw
     case rel => exact ⟨k + 1, by omega, by go_num, Lib.hid (by rw [HLAST.out]; exact HZ.out), HB2⟩
     case measure => simp [intOf]; omega
   ·obtain ⟨q, D, dq, hpq, hq⟩ := HPR.out (by omega)
    have HQ : Hid (∀ wq, Below w1.heap.size w1 wq → ChkAt wq b (o + (k - 1) * 5) q D dq) := Lib.hid (fun wq h => hq.stays hb (HB1.out.trans (h.mono hs1)))
    have HKP : Hid (0 < k) := Lib.hid (by omega)
    have HI4 : Hid (¬ (k : Int) < 1) := Lib.hid (by omega)
    have hkp : 0 < k := by omega
    clear hk0
    have HW : Hid (IntKind.i64.wrap ((k : Int) - 1) = (k : Int) - 1) := Lib.hid (IntWalk.i64_in _ (by omega))
    have HI1 : Hid (((k : Int) - 1).toNat = k - 1) := Lib.hid (by omega)
    have HI2 : Hid (¬ (k : Int) - 1 < 0) := Lib.hid (by omega)
    have HI3 : Hid (¬ (l.length : Int) ≤ (k : Int) - 1) := Lib.hid (by omega)
    have HF : Hid (follows p x ↔ kin q x ∧ q.n < x.n) := Lib.hid (by rw [hpq]; exact ⟨fun h => h q rfl, fun h z e => by injection e with e; subst e; exact h⟩)
    clear hpq hq
    by_cases hkn : kin q x
    ·have HKN : Hid (decide (kin q x) = true) := Lib.hid (decide_eq_true hkn)
     by_cases hge : x.n ≤ q.n
     first | case' inl => have T10 : Hid True := Lib.hid trivial | case' pos => have T10 : Hid True := Lib.hid trivial | case' refine_1 => have T10 : Hid True := Lib.hid trivial
     iterate 2
      ·first
        |
         revert T10; intro T10
         have hz : r = 3 := by rw [← HE.out, listGo_form HCK.out (by rw [HF.out]; omega)]
        | have hz : listGo (some x) (l.drop (k + 1)) = r := by rw [← HE.out, listGo_next HCK.out (by rw [HF.out]; exact ⟨hkn, by omega⟩)]
       have HZ := Lib.hid hz
       first
        |
         revert T10; intro T10
         have HGE : Hid (decide (x.n ≤ q.n) = true) := Lib.hid (decide_eq_true hge)
        | have HGE : Hid (decide (x.n ≤ q.n) = false) := Lib.hid (decide_eq_false hge)
       clear hz hkn hge
       first
        |
         revert T10; intro T10
         refine wp_region_chain (by kernel_rfl) (some 18 :: some 19 :: some 20 :: some 21 :: some 22 :: some 23 :: some 24 :: some 25 :: some 26 :: some 27 :: some 28 :: some 29 :: some 30 :: some 31 :: some 32 :: some 33 :: some 34 :: some 35 :: some 36 :: some 37 :: some 38 :: some 39 :: some 40 :: []) (.int .i64 (k : Int) :: .bool true :: .bool true :: .slice (some ⟨b, o, none⟩) l.length c :: .int .i64 (k : Int) :: .int .i64 ((k : Int) - 1) :: .pointer (some ⟨b, o + (k - 1) * 5, none⟩) :: .agg (chkA q.from_ q.to_ q.n q.of_ D q.data.length dq) :: .agg (chkA x.from_ x.to_ x.n x.of_ B x.data.length cx) :: .bool true :: .bool false :: .bool false :: .slice (some ⟨b, o, none⟩) l.length c :: .int .i64 (k : Int) :: .int .i64 ((k : Int) - 1) :: .pointer (some ⟨b, o + (k - 1) * 5, none⟩) :: .pointer (some ⟨b, o + (k - 1) * 5 + 2, none⟩) :: iv q.n :: .pointer (some ⟨wr.heap.size, 2, none⟩) :: iv x.n :: .bool true :: .bool true :: .bool true :: []) 42 rfl rfl (by decide +kernel) (by decide +kernel) (by decide +kernel) rfl ?_ ?_
        | refine wp_region_chain (by kernel_rfl) (some 18 :: some 19 :: some 20 :: some 21 :: some 22 :: some 23 :: some 24 :: some 25 :: some 26 :: some 27 :: some 28 :: some 29 :: some 30 :: some 31 :: some 32 :: some 33 :: some 34 :: some 35 :: some 36 :: some 37 :: some 38 :: some 39 :: some 40 :: []) (.int .i64 (k : Int) :: .bool true :: .bool true :: .slice (some ⟨b, o, none⟩) l.length c :: .int .i64 (k : Int) :: .int .i64 ((k : Int) - 1) :: .pointer (some ⟨b, o + (k - 1) * 5, none⟩) :: .agg (chkA q.from_ q.to_ q.n q.of_ D q.data.length dq) :: .agg (chkA x.from_ x.to_ x.n x.of_ B x.data.length cx) :: .bool true :: .bool false :: .bool false :: .slice (some ⟨b, o, none⟩) l.length c :: .int .i64 (k : Int) :: .int .i64 ((k : Int) - 1) :: .pointer (some ⟨b, o + (k - 1) * 5, none⟩) :: .pointer (some ⟨b, o + (k - 1) * 5 + 2, none⟩) :: iv q.n :: .pointer (some ⟨wr.heap.size, 2, none⟩) :: iv x.n :: .bool false :: .bool false :: .bool false :: []) 42 rfl rfl (by decide +kernel) (by decide +kernel) (by decide +kernel) rfl ?_ ?_
       ·refine ⟨.inl ⟨rfl, fun done a wq hw h => ?_⟩, ?_⟩
        ·have e3 := ch_old (t := 3) (v := .int .i64 (k : Int)) h rfl rfl; exact ch_move (ch_ev e3)
        refine ⟨.inl ⟨rfl, fun done a wq hw h => ?_⟩, ?_⟩
        ·have e18 := ch_new (i := 0) (t := 18) h (hw 0 (by decide)) rfl rfl; have hp := HKP.out; refine ch_pure ?_; go_simp
        refine ⟨.inl ⟨rfl, fun done a wq hw h => ?_⟩, ?_⟩
        ·have e19 := ch_new (i := 1) (t := 19) h (hw 1 (by decide)) rfl rfl; exact ch_move (ch_ev e19)
        refine ⟨.inl ⟨rfl, fun done a wq hw h => ?_⟩, ?_⟩
        ·have e0 := ch_old (t := 0) (v := .slice (some ⟨b, o, none⟩) l.length c) h rfl rfl; exact ch_move (ch_ev e0)
        refine ⟨.inl ⟨rfl, fun done a wq hw h => ?_⟩, ?_⟩
        ·have e3 := ch_old (t := 3) (v := .int .i64 (k : Int)) h rfl rfl; exact ch_move (ch_ev e3)
        refine ⟨.inl ⟨rfl, fun done a wq hw h => ?_⟩, ?_⟩
        ·have e22 := ch_new (i := 4) (t := 22) h (hw 4 (by decide)) rfl rfl; have hw := HW.out; refine ch_pure ?_; go_simp
        refine ⟨.inl ⟨rfl, fun done a wq hw h => ?_⟩, ?_⟩
        ·have e21 := ch_new (i := 3) (t := 21) h (hw 3 (by decide)) rfl rfl; have e23 := ch_new (i := 5) (t := 23) h (hw 5 (by decide)) rfl rfl; have h1 := HI1.out; have h2 := HI2.out; have h3 := HI3.out; have h4 := HI4.out; refine ch_pure ?_; go_simp
        refine ⟨.inl ⟨rfl, fun done a wq hw h => ?_⟩, ?_⟩
        ·have e24 := ch_new (i := 6) (t := 24) h (hw 6 (by decide)) rfl rfl; obtain ⟨c0, c1, c2, c3, c4⟩ := HQ.out wq (HD.out wq h.bel); refine ch_pure ?_; go_simp
        refine ⟨.inl ⟨rfl, fun done a wq hw h => ?_⟩, ?_⟩
        ·have e4 := ch_old (t := 4) (v := .pointer (some ⟨wr.heap.size, 0, none⟩)) h rfl rfl; obtain ⟨r_, f_, n_, c_, z_, l_⟩ := keep1 h.bel R4 (by go_simp) F4; refine ch_pure ?_; go_simp
        refine ⟨.inl ⟨rfl, fun done a wq hw h => ?_⟩, ?_⟩
        ·have e25 := ch_new (i := 7) (t := 25) h (hw 7 (by decide)) rfl rfl; have e26 := ch_new (i := 8) (t := 26) h (hw 8 (by decide)) rfl rfl; exact ch_call (vals := #[.agg (chkA q.from_ q.to_ q.n q.of_ D q.data.length dq), .agg (chkA x.from_ x.to_ x.n x.of_ B x.data.length cx)]) (by go_simp) (by go_simp) (by have := kinY_calls D B dq cx q x wq; rwa [HKN.out] at this)
        refine ⟨.inl ⟨rfl, fun done a wq hw h => ?_⟩, ?_⟩
        ·have e27 := ch_new (i := 9) (t := 27) h (hw 9 (by decide)) rfl rfl; refine ch_pure ?_; go_simp
        refine ⟨.inl ⟨rfl, fun done a wq hw h => ?_⟩, ?_⟩
        ·have e28 := ch_new (i := 10) (t := 28) h (hw 10 (by decide)) rfl rfl; exact ch_move (ch_ev e28)
        refine ⟨.inl ⟨rfl, fun done a wq hw h => ?_⟩, ?_⟩
        ·have e0 := ch_old (t := 0) (v := .slice (some ⟨b, o, none⟩) l.length c) h rfl rfl; exact ch_move (ch_ev e0)
        refine ⟨.inl ⟨rfl, fun done a wq hw h => ?_⟩, ?_⟩
        ·have e3 := ch_old (t := 3) (v := .int .i64 (k : Int)) h rfl rfl; exact ch_move (ch_ev e3)
        refine ⟨.inl ⟨rfl, fun done a wq hw h => ?_⟩, ?_⟩
        ·have e31 := ch_new (i := 13) (t := 31) h (hw 13 (by decide)) rfl rfl; have hw := HW.out; refine ch_pure ?_; go_simp
        refine ⟨.inl ⟨rfl, fun done a wq hw h => ?_⟩, ?_⟩
        ·have e30 := ch_new (i := 12) (t := 30) h (hw 12 (by decide)) rfl rfl; have e32 := ch_new (i := 14) (t := 32) h (hw 14 (by decide)) rfl rfl; have h1 := HI1.out; have h2 := HI2.out; have h3 := HI3.out; have h4 := HI4.out; refine ch_pure ?_; go_simp
        refine ⟨.inl ⟨rfl, fun done a wq hw h => ?_⟩, ?_⟩
        ·have e33 := ch_new (i := 15) (t := 33) h (hw 15 (by decide)) rfl rfl; refine ch_pure ?_; go_simp
        refine ⟨.inl ⟨rfl, fun done a wq hw h => ?_⟩, ?_⟩
        ·have e34 := ch_new (i := 16) (t := 34) h (hw 16 (by decide)) rfl rfl; obtain ⟨c0, c1, c2, c3, c4⟩ := HQ.out wq (HD.out wq h.bel); refine ch_pure ?_; go_simp
        refine ⟨.inl ⟨rfl, fun done a wq hw h => ?_⟩, ?_⟩
        ·have e4 := ch_old (t := 4) (v := .pointer (some ⟨wr.heap.size, 0, none⟩)) h rfl rfl; refine ch_pure ?_; go_simp
        refine ⟨.inl ⟨rfl, fun done a wq hw h => ?_⟩, ?_⟩
        ·have e36 := ch_new (i := 18) (t := 36) h (hw 18 (by decide)) rfl rfl; obtain ⟨r_, f_, n_, c_, z_, l_⟩ := keep1 h.bel R4 (by go_simp) F4; refine ch_pure ?_; go_simp
        refine ⟨.inl ⟨rfl, fun done a wq hw h => ?_⟩, ?_⟩
        ·have e35 := ch_new (i := 17) (t := 35) h (hw 17 (by decide)) rfl rfl; have e37 := ch_new (i := 19) (t := 37) h (hw 19 (by decide)) rfl rfl; have hg := HGE.out; refine ch_pure ?_; go_simp
        refine ⟨.inl ⟨rfl, fun done a wq hw h => ?_⟩, ?_⟩
        ·have e29 := ch_new (i := 11) (t := 29) h (hw 11 (by decide)) rfl rfl; have e38 := ch_new (i := 20) (t := 38) h (hw 20 (by decide)) rfl rfl; exact ch_pick_f e29 (ch_ev e38)
        refine ⟨.inl ⟨rfl, fun done a wq hw h => ?_⟩, ?_⟩
        ·have e20 := ch_new (i := 2) (t := 20) h (hw 2 (by decide)) rfl rfl; have e39 := ch_new (i := 21) (t := 39) h (hw 21 (by decide)) rfl rfl; exact ch_pick_t e20 (ch_ev e39)
        exact trivial
       ·intro w2 hb2
        simp only [putAll_some, putAll_none, putAll_nil, List.setIfInBounds_toArray, List.set_cons_zero, List.set_cons_succ]
        have HB2 : Hid (Below w.heap.size w w2) := Lib.hid (HB1.out.trans (hb2.mono HB1.out.size))
        clear hb2 R4 F4 a0r a0f a0n a0c a0z a0l
        go_wp2_with fail
        first
         |
          revert T10; intro T10
          go_ret
          exact ⟨ret_int HZ.out.symm, HB2.out⟩
         |
          go_roundw
          case rel => exact ⟨k + 1, by omega, by go_num, Lib.hid (by rw [HLAST.out]; exact HZ.out), HB2⟩
          case measure => simp [intOf]; omega
    ·have HKN : Hid (decide (kin q x) = false) := Lib.hid (decide_eq_false hkn)
     have hz : r = 3 := by rw [← HE.out, listGo_form HCK.out (by rw [HF.out]; exact fun h => hkn h.1)]
     have HZ := Lib.hid hz
     clear hz hkn
     refine wp_region_chain (by kernel_rfl) (some 18 :: some 19 :: some 20 :: some 21 :: some 22 :: some 23 :: some 24 :: some 25 :: some 26 :: some 27 :: some 28 :: some 29 :: some 30 :: some 31 :: some 32 :: some 33 :: some 34 :: some 35 :: some 36 :: some 37 :: some 38 :: some 39 :: some 40 :: []) (.int .i64 (k : Int) :: .bool true :: .bool true :: .slice (some ⟨b, o, none⟩) l.length c :: .int .i64 (k : Int) :: .int .i64 ((k : Int) - 1) :: .pointer (some ⟨b, o + (k - 1) * 5, none⟩) :: .agg (chkA q.from_ q.to_ q.n q.of_ D q.data.length dq) :: .agg (chkA x.from_ x.to_ x.n x.of_ B x.data.length cx) :: .bool false :: .bool true :: .bool true :: undef :: undef :: undef :: undef :: undef :: undef :: undef :: undef :: undef :: .bool true :: .bool true :: []) 42 rfl rfl (by decide +kernel) (by decide +kernel) (by decide +kernel) rfl ?_ ?_
     ·refine ⟨.inl ⟨rfl, fun done a wq hw h => ?_⟩, ?_⟩
      ·have e3 := ch_old (t := 3) (v := .int .i64 (k : Int)) h rfl rfl; exact ch_move (ch_ev e3)
      refine ⟨.inl ⟨rfl, fun done a wq hw h => ?_⟩, ?_⟩
      ·have e18 := ch_new (i := 0) (t := 18) h (hw 0 (by decide)) rfl rfl; have hp := HKP.out; refine ch_pure ?_; go_simp
      refine ⟨.inl ⟨rfl, fun done a wq hw h => ?_⟩, ?_⟩
      ·have e19 := ch_new (i := 1) (t := 19) h (hw 1 (by decide)) rfl rfl; exact ch_move (ch_ev e19)
      refine ⟨.inl ⟨rfl, fun done a wq hw h => ?_⟩, ?_⟩
      ·have e0 := ch_old (t := 0) (v := .slice (some ⟨b, o, none⟩) l.length c) h rfl rfl; exact ch_move (ch_ev e0)
      refine ⟨.inl ⟨rfl, fun done a wq hw h => ?_⟩, ?_⟩
      ·have e3 := ch_old (t := 3) (v := .int .i64 (k : Int)) h rfl rfl; exact ch_move (ch_ev e3)
      refine ⟨.inl ⟨rfl, fun done a wq hw h => ?_⟩, ?_⟩
      ·have e22 := ch_new (i := 4) (t := 22) h (hw 4 (by decide)) rfl rfl; have hw := HW.out; refine ch_pure ?_; go_simp
      refine ⟨.inl ⟨rfl, fun done a wq hw h => ?_⟩, ?_⟩
      ·have e21 := ch_new (i := 3) (t := 21) h (hw 3 (by decide)) rfl rfl; have e23 := ch_new (i := 5) (t := 23) h (hw 5 (by decide)) rfl rfl; have h1 := HI1.out; have h2 := HI2.out; have h3 := HI3.out; have h4 := HI4.out; refine ch_pure ?_; go_simp
      refine ⟨.inl ⟨rfl, fun done a wq hw h => ?_⟩, ?_⟩
      ·have e24 := ch_new (i := 6) (t := 24) h (hw 6 (by decide)) rfl rfl; obtain ⟨c0, c1, c2, c3, c4⟩ := HQ.out wq (HD.out wq h.bel); refine ch_pure ?_; go_simp
      refine ⟨.inl ⟨rfl, fun done a wq hw h => ?_⟩, ?_⟩
      ·have e4 := ch_old (t := 4) (v := .pointer (some ⟨wr.heap.size, 0, none⟩)) h rfl rfl; obtain ⟨r_, f_, n_, c_, z_, l_⟩ := keep1 h.bel R4 (by go_simp) F4; refine ch_pure ?_; go_simp
      refine ⟨.inl ⟨rfl, fun done a wq hw h => ?_⟩, ?_⟩
      ·have e25 := ch_new (i := 7) (t := 25) h (hw 7 (by decide)) rfl rfl; have e26 := ch_new (i := 8) (t := 26) h (hw 8 (by decide)) rfl rfl; exact ch_call (vals := #[.agg (chkA q.from_ q.to_ q.n q.of_ D q.data.length dq), .agg (chkA x.from_ x.to_ x.n x.of_ B x.data.length cx)]) (by go_simp) (by go_simp) (by have := kinY_calls D B dq cx q x wq; rwa [HKN.out] at this)
      refine ⟨.inl ⟨rfl, fun done a wq hw h => ?_⟩, ?_⟩
      ·have e27 := ch_new (i := 9) (t := 27) h (hw 9 (by decide)) rfl rfl; refine ch_pure ?_; go_simp
      refine ⟨.inl ⟨rfl, fun done a wq hw h => ?_⟩, ?_⟩
      ·have e28 := ch_new (i := 10) (t := 28) h (hw 10 (by decide)) rfl rfl; exact ch_move (ch_ev e28)
      iterate 9 refine ⟨.inr ⟨rfl, rfl⟩, ?_⟩
      refine ⟨.inl ⟨rfl, fun done a wq hw h => ?_⟩, ?_⟩
      ·have e29 := ch_new (i := 11) (t := 29) h (hw 11 (by decide)) rfl rfl; exact ch_pick_t e29 rfl
      refine ⟨.inl ⟨rfl, fun done a wq hw h => ?_⟩, ?_⟩
      ·have e20 := ch_new (i := 2) (t := 20) h (hw 2 (by decide)) rfl rfl; have e39 := ch_new (i := 21) (t := 39) h (hw 21 (by decide)) rfl rfl; exact ch_pick_t e20 (ch_ev e39)
      exact trivial
     ·intro w2 hb2
      simp only [putAll_some, putAll_none, putAll_nil, List.setIfInBounds_toArray, List.set_cons_zero, List.set_cons_succ]
      have HB2 : Hid (Below w.heap.size w w2) := Lib.hid (HB1.out.trans (hb2.mono HB1.out.size))
      clear hb2 R4 F4 a0r a0f a0n a0c a0z a0l
      go_wp2_with fail
      go_ret
      exact ⟨ret_int HZ.out.symm, HB2.out⟩
  ·obtain rfl : k = l.length := by omega
   have dl : decide ((l.length : Int) < (l.length : Int)) = false := by simp
   have hz : r = 0 := by rw [← HE.out, List.drop_length]; unfold listGo; rfl
   have HZ := Lib.hid hz
   clear hz
   go_wp2_with fail
   go_ret
   exact ⟨ret_int HZ.out.symm, HB.out⟩
section
variable {S T : Nat → Prop} {w w' : World} {P Q : World → Prop}
end
theorem actsBad_calls (n : Int) (w : World) : Calls Tryz.prog 23 #[iv n] w (RetB w (.tuple #[.agg (devA Dev.zero DLoc.zero), iv n])) := by
 go_enter Tryz.func23, Tryz.ntmps23
 go_wp2_with fail
 refine bodyPost_ret (results_ct rfl rfl (cs := devA Dev.zero DLoc.zero) (by go_simp) (by go_simp) (by go_simp)) rfl ⟨rfl, ?_⟩
 repeat (first | exact Below.refl _ _ | refine bR ?_ _ | refine bA ?_ _)
theorem actsDone_ok (d : Dev) (L : DLoc) (gb gd : Nat) (w : World) (hr : rowOf w gd = devA d L) (hf : frOf w gd = (0, 0)) : Calls Tryz.prog 26 #[iv 0, .pointer (some ⟨gb, 0, none⟩), .pointer (some ⟨gd, 0, none⟩)] w (RetB w (.tuple #[.agg (devA d L), iv 0])) := by
 obtain ⟨a0r, a0f, a0n, a0c, a0z, a0l⟩ := keep1 (Below.refl w.heap.size w) hr (by go_simp) hf
 go_enter Tryz.func26, Tryz.ntmps26
 go_wp2_with fail
 refine bodyPost_ret (results_ct rfl rfl (cs := devA d L) (by go_simp) (by go_simp) (by go_simp)) rfl ⟨rfl, ?_⟩
 repeat (first | exact Below.refl _ _ | refine bR ?_ _ | refine bA ?_ _)
theorem actsDone_bad (n : Int) (gb gd : Nat) (w : World) (hn : n ≠ 0) (hr : rowOf w gb = #[.func (Fn.func 23) #[] #[]]) (hf : frOf w gb = (0, 0)) : Calls Tryz.prog 26 #[iv n, .pointer (some ⟨gb, 0, none⟩), .pointer (some ⟨gd, 0, none⟩)] w (RetB w (.tuple #[.agg (devA Dev.zero DLoc.zero), iv n])) := by
 obtain ⟨a0r, a0f, a0n, a0c, a0z, a0l⟩ := keep1 (Below.refl w.heap.size w) hr (by go_simp) hf
 have q : (n != 0) = true := by simp [hn]
 clear hn
 go_enter Tryz.func26, Tryz.ntmps26
 go_wp2_with fail
 refine (actsBad_calls n _).mono ?_
 rintro e w1 ⟨rfl, hb⟩
 obtain ⟨b0r, b0f, b0n, b0c, b0z, b0l⟩ := kp (w.heap.size) (devA Dev.zero DLoc.zero) hb
 have HB1 : Hid (Below w.heap.size w w1) := hD (((Below.refl _ _).alloc (Nat.le_refl _) _).trans (hb.mono (by simp)))
 clear hb
 go_wp2_with fail
 refine bodyPost_ret (results_ct rfl rfl (cs := devA Dev.zero DLoc.zero) (by go_simp) (by go_simp) (by go_simp)) rfl ⟨rfl, ?_⟩
 repeat (first | exact HB1.out | refine bR ?_ _)
def WtRet (w : World) (gd : Nat) (d : Dev) (L : DLoc) (n : Int) : Ending → World → Prop := fun en w' =>
 ∃ w1 w2, en = .returned (iv n) ∧ Below w.heap.size w w1 ∧ w2 = (if n = 0 then w1.setRow gd (devA d L) else w1) ∧ Below w2.heap.size w2 w'
theorem actsWrite_calls (d : Dev) (L : DLoc) (r : Rec) (torn : Bool) (gd : Nat) (w : World) (hc : copCheck d.c0 d.c1 = 0) (hr : rowOf w gd = devA d L) (hf : frOf w gd = (0, 0)) : Calls Tryz.prog 24 #[.agg (recA r), .bool torn, .pointer (some ⟨gd, 0, none⟩)] w (WtRet w gd (d.write r torn) L (recWrite d.c0 d.c1 r torn).2) := by
 have K := hD (fun w => written_calls d.c0 d.c1 r torn w hc)
 obtain ⟨a0r, a0f, a0n, a0c, a0z, a0l⟩ := keep1 (Below.refl w.heap.size w) hr (by go_simp) hf
 have hp : 0 < (rowOf w gd).size := by rw [hr, devA_size]; decide
 have hlt := row_lt hp
 have HD : Hid (d.write r torn = { d with c0 := (recWrite d.c0 d.c1 r torn).1.1, c1 := (recWrite d.c0 d.c1 r torn).1.2 }) := hD rfl
 generalize d.write r torn = d2 at *
 obtain ⟨⟨⟨p1, p2⟩, e4⟩, hw⟩ : ∃ x, recWrite d.c0 d.c1 r torn = x := ⟨_, rfl⟩
 rw [hw] at K HD ⊢
 dsimp only at HD ⊢
 clear hw hr hf hp hc
 go_enter Tryz.func24, Tryz.ntmps24
 go_wp2_with fail
 refine (K.out _).mono ?_
 rintro e w1 ⟨rfl, hb⟩
 obtain ⟨b0r, b0f, b0n, b0c, b0z, b0l⟩ := kp gd (devA d L) hb
 obtain ⟨b1r, b1f, b1n, b1c, b1z, b1l⟩ := kp (w.heap.size) (recA r) hb
 have HB1 : Hid (Below w.heap.size w w1) := hD (((Below.refl _ _).alloc (Nat.le_refl _) _).trans (hb.mono (by simp)))
 clear hb
 by_cases c4 : e4 = 0
 ·subst c4
  go_wp2_with fail
  go_ret
  refine ⟨w1, _, rfl, HB1.out, rfl, ?_⟩
  rw [if_pos rfl, show devA d2 L = devA { d with c0 := p1, c1 := p2 } L from by rw [HD.out]]
  exact (Below.refl _ _).alloc (by simp) _
 ·have q : (e4 == 0) = false := by simp [c4]
  go_wp2_with fail
  go_ret
  refine ⟨w1, _, rfl, HB1.out, rfl, ?_⟩
  rw [if_neg c4]
  exact (Below.refl _ _).alloc (by simp) _
end Go.Proofs.YtefkfglkpebbmadGreat
