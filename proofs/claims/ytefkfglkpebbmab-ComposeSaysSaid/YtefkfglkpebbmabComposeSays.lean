/- The walk of the law ComposeSays. No conditions. -/
import Derived.Test.YtefkfglkpebbmabRefComposed
import Derived.Test.YtefkfglkpebbmabComposed
import Derived.Test.YtefkfglkpebbmabRefSame
import Derived.Test.YtefkfglkpebbmabOpArgs
namespace Go.Proofs.Ytefkfglkpebbmab
open Go.RowKit
set_option linter.unusedVariables false
set_option linter.unusedSimpArgs false

theorem refComposed_calls {w : World} {B E : Option Addr} {d f : Nat} {first second : List Stp} {old mid size : Int} (h1 : first.length ≤ 140737488351232) (r1 : Sps w B first) (h2 : second.length ≤ 140737488351232) (r2 : Sps w E second) :
    Calls Try.prog 24 #[.slice B first.length d, .slice E second.length f, iv old, iv mid, iv size] w (OpRet2 w (composeOf first second old mid size).1 (composeOf first second old mid size).2) := by
  by_cases c1 : deltaCheck first old mid = 0
  · by_cases c2 : deltaCheck second mid size = 0
    · have := refComposed_ok (d := d) (f := f) r1 r2 (deltaCheck_ok.1 c1) (deltaCheck_ok.1 c2)
      unfold composeOf
      rw [if_neg (by simp [c1]), if_neg (by simp [c2])]
      by_cases c3 : deltaCheck (composeGo first second []) old size = 0
      · rw [if_neg (by simp [c3])] at this ⊢
        rwa [c3] at this
      · rw [if_pos c3] at this ⊢
        exact this
    · have := refComposed_bad2 (d := d) (f := f) h1 r1 h2 r2 c1 c2
      unfold composeOf
      rw [if_neg (by simp [c1]), if_pos c2]
      exact this
  · have := refComposed_bad1 (d := d) (E := E) (f := f) (second := second) (size := size) h1 r1 c1
    unfold composeOf
    rw [if_pos c1]
    exact this
theorem composeOf_len (first second : List Stp) (old mid size : Int) : (composeOf first second old mid size).1.length ≤ 140737488351232 := by
  unfold composeOf
  split
  · simp
  · split
    · simp
    · split
      · simp
      · rename_i h
        have := (deltaCheck_ok.1 (Decidable.not_not.1 h)).many
        dsimp only; omega
set_option maxRecDepth 100000 in
set_option maxHeartbeats 4000000 in
theorem ComposeSays_walk (W : World) (v0 v1 v2 v3 v4 : Value) (l m : List Stp) (old mid size : Int) (g0 : ArgOps W v0 l) (g1 : ArgOps W v1 m) (g2 : ArgInt v2 old) (g3 : ArgInt v3 mid) (g4 : ArgInt v4 size) :
    Calls Try.prog 5 #[v0, v1, v2, v3, v4] W (RetB W (.bool true)) := by
  obtain ⟨B, d, rfl, hd, h1, hs⟩ := g0
  obtain ⟨E, f, rfl, hf, h2, ht⟩ := g1
  obtain ⟨rfl, -, -⟩ := g2
  obtain ⟨rfl, -, -⟩ := g3
  obtain ⟨rfl, -, -⟩ := g4
  have HT := Lib.hid ht
  have K1 := Lib.hid (composeOf_calls (w := W) (d := d) (f := f) (old := old) (mid := mid) (size := size) h1 hs h2 ht)
  have K2 := Lib.hid (fun w hs ht => refComposed_calls (w := w) (d := d) (f := f) (old := old) (mid := mid) (size := size) h1 (B := B) hs h2 (E := E) ht)
  have hln := composeOf_len l m old mid size
  have HS := Lib.hid hs
  obtain ⟨⟨r, n⟩, hr⟩ : ∃ x, composeOf l m old mid size = x := ⟨_, rfl⟩
  rw [hr] at K1 K2 hln
  dsimp only at K1 K2 hln
  have KC := Lib.hid (fun w => composed_calls w)
  clear hr hs ht
  go_enter Try.func5, Try.ntmps5
  go_wp2_with fail
  refine K1.out.mono ?_
  rintro e w1 ⟨A1, c1, rfl, hs1, hc1, hb1⟩
  have HS1 := Lib.hid hs1
  have HB1 := Lib.hid hb1
  clear hs1 hb1
  go_wp2_with fail
  refine (K2.out _ (HS.out.stays HB1.out) (HT.out.stays HB1.out)).mono ?_
  rintro e w2 ⟨A2, c2, rfl, hs2, hc2, hb2⟩
  have HS2 := Lib.hid hs2
  have HS12 := Lib.hid (HS1.out.stays hb2)
  have HB2 : Hid (Below W.heap.size W w2) := Lib.hid (HB1.out.trans (hb2.mono HB1.out.size))
  clear hs2 hb2
  go_wp2_with fail
  refine (KC.out _).mono ?_
  rintro e w3 ⟨rfl, hb3⟩
  have HS23 := Lib.hid (HS2.out.stays hb3)
  have HS13 := Lib.hid (HS12.out.stays hb3)
  have HB3 : Hid (Below W.heap.size W w3) := Lib.hid (HB2.out.trans (hb3.mono HB2.out.size))
  clear hb3
  have KS := Lib.hid (refSame_calls A1 A2 c1 c2 r r w3 hln hln HS13.out HS23.out)
  rw [decide_eq_true rfl] at KS
  go_wp2_with fail
  refine KS.out.mono ?_
  rintro e w4 ⟨rfl, hb4⟩
  have HB4 : Hid (Below W.heap.size W w4) := Lib.hid (HB3.out.trans (hb4.mono HB3.out.size))
  clear hb4
  go_wp2_with fail
  go_ret
  exact ⟨rfl, HB4.out⟩
end Go.Proofs.Ytefkfglkpebbmab
