/- The walk of the laws' closed fact on steps made one; what the laws need of compose.Of. No conditions. -/
import Derived.Test.YtefkfglkpebbmabComposeOf
import Derived.Test.YtefkfglkpebbmabSteps
import Derived.Test.YtefkfglkpebbmabDeltaSame
namespace Go.Proofs.Ytefkfglkpebbmab
open Go.RowKit
set_option linter.unusedVariables false
set_option linter.unusedSimpArgs false

/-- All ways at once. -/
theorem composeOf_calls {w : World} {B E : Option Addr} {d f : Nat} {first second : List Stp} {old mid size : Int} (h1 : first.length ≤ 140737488351232) (r1 : Sps w B first) (h2 : second.length ≤ 140737488351232) (r2 : Sps w E second) :
    Calls Try.prog 23 #[.slice B first.length d, .slice E second.length f, iv old, iv mid, iv size] w (OpRet2 w (composeOf first second old mid size).1 (composeOf first second old mid size).2) := by
  by_cases c1 : deltaCheck first old mid = 0
  · by_cases c2 : deltaCheck second mid size = 0
    · have := composeOf_ok_calls (d := d) (f := f) r1 r2 (deltaCheck_ok.1 c1) (deltaCheck_ok.1 c2)
      unfold composeOf
      rw [if_neg (by simp [c1]), if_neg (by simp [c2])]
      by_cases c3 : deltaCheck (composeGo first second []) old size = 0
      · rw [if_neg (by simp [c3])] at this ⊢
        rwa [c3] at this
      · rw [if_pos c3] at this ⊢
        exact this
    · have := composeOf_bad2 (d := d) (f := f) h1 r1 h2 r2 c1 c2
      unfold composeOf
      rw [if_neg (by simp [c1]), if_pos c2]
      exact this
  · have := composeOf_bad1 (d := d) (E := E) (f := f) (second := second) (size := size) h1 r1 c1
    unfold composeOf
    rw [if_pos c1]
    exact this
def secondL : List Stp := [⟨3, 4, []⟩, ⟨0, 0, [121]⟩, ⟨0, 2, []⟩]
def wholeL : List Stp := [⟨6, 2, []⟩, ⟨0, 2, []⟩, ⟨0, 0, [121, 120]⟩, ⟨4, 1, []⟩]
theorem composed_is : composeOf stepsL secondL 8 9 7 = (wholeL, 0) := by decide
set_option maxRecDepth 100000 in
set_option maxHeartbeats 4000000 in
theorem composed_calls (w : World) : Calls Try.prog 25 #[] w (RetB w (.bool true)) := by
  have K1 : Hid (∀ A c (g : Nat) w, Sps w A stepsL → Sps w (some ⟨g, 0, none⟩) secondL → Calls Try.prog 23 #[.slice A 3 c, .slice (some ⟨g, 0, none⟩) 3 3, iv 8, iv 9, iv 7] w (OpRet2 w wholeL 0)) := fun A c g w h1 h2 => by
    have := composeOf_calls (w := w) (B := A) (d := c) (E := some ⟨g, 0, none⟩) (f := 3) (first := stepsL) (second := secondL) (old := 8) (mid := 9) (size := 7) (by decide) h1 (by decide) h2
    rwa [composed_is] at this
  have K3 := Lib.hid steps_calls
  have K4 : Hid (∀ A c (g : Nat) w, Sps w A wholeL → Sps w (some ⟨g, 0, none⟩) wholeL → Calls Try.prog 28 #[.slice A 4 c, .slice (some ⟨g, 0, none⟩) 4 4] w (RetB w (.bool true))) := fun A c g w h1 h2 => by
    have := equalOps_calls A (some ⟨g, 0, none⟩) c 4 wholeL wholeL w (by decide) (by decide) h1 h2
    rw [show decide (wholeL = wholeL) = true by simp] at this
    exact this
  have kc := convert_const (P := Try.prog) 22 5 Try.underlying22 Try.underlying5
  go_enter Try.func25, Try.ntmps25
  go_wp2_with fail
  refine (K3.out _).mono ?_
  rintro e w1 ⟨A1, c1, rfl, hs1, hc1, hb1⟩
  have HS1 := Lib.hid hs1
  have HB1 := Lib.hid hb1
  have hz1 := HB1.out.size
  clear hs1 hb1
  go_wp2_with fail
  have hb2 : Below w1.heap.size w1 ((w1.alloc (.cells #[.int .u8 121] 5 (1, 2))).alloc (.cells #[.int .i64 3, .int .i64 4, .slice none 0 0, .int .i64 0, .int .i64 0, .slice (some ⟨w1.heap.size, 0, none⟩) 1 1, .int .i64 0, .int .i64 2, .slice none 0 0] 31)) :=
    ((Below.refl _ _).alloc (Nat.le_refl _) _).alloc (by simp) _
  refine (K1.out A1 c1 _ _ (HS1.out.stays hb2) ?_).mono ?_
  · refine sps_blk (blk_top (by simp)) [(none, 0), (some ⟨w1.heap.size, 0, none⟩, 1), (none, 0)] rfl rfl ?_
    intro i o d ho hd
    match i with
    | 0 =>
      simp [secondL] at ho hd
      subst ho hd
      exact ⟨Bts.nil _ _, by simp, by simp, by simp [I64], by simp [I64]⟩
    | 1 =>
      simp [secondL] at ho hd
      subst ho hd
      exact ⟨bts_ex ⟨_, _, _, blk_old (blk_top rfl), rfl⟩, by simp, by simp, by simp [I64], by simp [I64]⟩
    | 2 =>
      simp [secondL] at ho hd
      subst ho hd
      exact ⟨Bts.nil _ _, by simp, by simp, by simp [I64], by simp [I64]⟩
    | i + 3 => simp [secondL] at ho
  rintro e w3 ⟨A3, c3, rfl, hs3, hc3, hb3⟩
  have HS3 := Lib.hid hs3
  have HB3 : Hid (Below w.heap.size w w3) := Lib.hid (HB1.out.trans ((hb2.trans (hb3.mono (by simp <;> omega))).mono hz1))
  have hz3 := HB3.out.size
  clear hs3 hb3 hb2
  go_wp2_with fail
  have hb4 : Below w3.heap.size w3 ((w3.alloc (.cells #[.int .u8 121, .int .u8 120] 5 (2, 3))).alloc (.cells #[.int .i64 6, .int .i64 2, .slice none 0 0, .int .i64 0, .int .i64 2, .slice none 0 0, .int .i64 0, .int .i64 0, .slice (some ⟨w3.heap.size, 0, none⟩) 2 2, .int .i64 4, .int .i64 1, .slice none 0 0] 31)) :=
    ((Below.refl _ _).alloc (Nat.le_refl _) _).alloc (by simp) _
  refine (K4.out A3 c3 _ _ (HS3.out.stays hb4) ?_).mono ?_
  · refine sps_blk (blk_top (by simp)) [(none, 0), (none, 0), (some ⟨w3.heap.size, 0, none⟩, 2), (none, 0)] rfl rfl ?_
    intro i o d ho hd
    match i with
    | 0 =>
      simp [wholeL] at ho hd
      subst ho hd
      exact ⟨Bts.nil _ _, by simp, by simp, by simp [I64], by simp [I64]⟩
    | 1 =>
      simp [wholeL] at ho hd
      subst ho hd
      exact ⟨Bts.nil _ _, by simp, by simp, by simp [I64], by simp [I64]⟩
    | 2 =>
      simp [wholeL] at ho hd
      subst ho hd
      exact ⟨bts_ex ⟨_, _, _, blk_old (blk_top rfl), rfl⟩, by simp, by simp, by simp [I64], by simp [I64]⟩
    | 3 =>
      simp [wholeL] at ho hd
      subst ho hd
      exact ⟨Bts.nil _ _, by simp, by simp, by simp [I64], by simp [I64]⟩
    | i + 4 => simp [wholeL] at ho
  rintro e w5 ⟨rfl, hb5⟩
  have HB5 : Hid (Below w.heap.size w w5) := Lib.hid (HB3.out.trans ((hb4.trans (hb5.mono (by simp <;> omega))).mono hz3))
  clear hb5 hb4
  go_wp2_with fail
  go_ret
  exact ⟨rfl, HB5.out⟩
end Go.Proofs.Ytefkfglkpebbmab
