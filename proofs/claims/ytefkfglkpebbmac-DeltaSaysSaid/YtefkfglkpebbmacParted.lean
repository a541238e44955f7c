/- The walk of the laws' closed fact on steps. No conditions. -/
import Derived.Test.YtefkfglkpebbmacSteps
import Derived.Test.YtefkfglkpebbmacDiff
import Derived.Test.YtefkfglkpebbmacDeltaApply
import Derived.Test.YtefkfglkpebbmacDeltaSame
import Derived.Laws.IdiomStrings
namespace Go.Proofs.Ytefkfglkpebbmac
open Go.RowKit
set_option linter.unusedVariables false
set_option linter.unusedSimpArgs false

def oldL : List UInt8 := [97, 98, 99, 100, 101, 102, 103, 104]
def newL : List UInt8 := [120, 101, 102, 103, 104, 97, 98, 99, 100]
theorem parted_diff : diffed oldL newL = stepsL := by decide
theorem parted_apply : applied oldL stepsL = newL := by decide
set_option maxRecDepth 100000 in
set_option maxHeartbeats 4000000 in
theorem parted_calls (w : World) : Calls Try.prog 18 #[] w (RetB w (.bool true)) := by
  have K1 : Hid (∀ (g h : Nat) w, Bts w (some ⟨g, 0, none⟩) oldL → Bts w (some ⟨h, 0, none⟩) newL → Calls Try.prog 14 #[.slice (some ⟨g, 0, none⟩) 8 8, .slice (some ⟨h, 0, none⟩) 9 9] w (OpRet2 w stepsL 0)) := fun g h w h1 h2 => by
    have := diff_calls (some ⟨g, 0, none⟩) (some ⟨h, 0, none⟩) 8 9 oldL newL w (by decide) (by decide) h1 h2
    rwa [parted_diff] at this
  have K2 : Hid (∀ (g : Nat) B d w, Bts w (some ⟨g, 0, none⟩) oldL → Sps w B stepsL → Calls Try.prog 15 #[.slice (some ⟨g, 0, none⟩) 8 8, .slice B 3 d, iv 9] w (ByRet2 w newL 0)) := fun g B d w h1 h2 => by
    have := deltaApply_ok (some ⟨g, 0, none⟩) 8 oldL B d stepsL 9 w (by decide) h1 (by decide) h2 (by decide)
    rwa [parted_apply] at this
  have K3 := Lib.hid steps_calls
  have K4 : Hid (∀ A c B d w, Sps w A stepsL → Sps w B stepsL → Calls Try.prog 21 #[.slice A 3 c, .slice B 3 d] w (RetB w (.bool true))) := fun A c B d w h1 h2 => by
    have := equalOps_calls A B c d stepsL stepsL w (by decide) (by decide) h1 h2
    rw [show decide (stepsL = stepsL) = true by simp] at this
    exact this
  have K5 : Hid (∀ A c w, Sps w A stepsL → Calls Try.prog 19 #[.slice A 3 c, iv 8, iv 9] w (RetB w (iv 0))) := fun A c w h => deltaCheck_calls A c stepsL 8 9 w (by decide) h
  have K6 : Hid (∀ A c w, Sps w A stepsL → Calls Try.prog 19 #[.slice A 3 c, iv 7, iv 9] w (RetB w (iv 2))) := fun A c w h => deltaCheck_calls A c stepsL 7 9 w (by decide) h
  have K7 : Hid (∀ A c w, Sps w A stepsL → Calls Try.prog 19 #[.slice A 3 c, iv 8, iv 10] w (RetB w (iv 3))) := fun A c w h => deltaCheck_calls A c stepsL 8 10 w (by decide) h
  have kc := convert_const (P := Try.prog) 22 5 Try.underlying22 Try.underlying5
  go_enter Try.func18, Try.ntmps18
  go_wp2_with fail
  refine (K1.out _ _ _ ?_ ?_).mono ?_
  · exact bts_ex ⟨_, _, _, blk_old (blk_top rfl), rfl⟩
  · exact bts_ex ⟨_, _, _, blk_top (by simp), rfl⟩
  rintro e w1 ⟨A1, c1, rfl, hs1, hc1, hb1⟩
  have HS1 := Lib.hid hs1
  have HB1 : Hid (Below w.heap.size w w1) := Lib.hid ((((Below.refl _ _).alloc (Nat.le_refl _) _).alloc (by simp) _).trans (hb1.mono (by simp <;> omega)))
  have hz1 := HB1.out.size
  clear hs1 hb1
  go_wp2_with fail
  refine (K3.out _).mono ?_
  rintro e w2 ⟨A2, c2, rfl, hs2, hc2, hb2⟩
  have HS2 := Lib.hid hs2
  have HA2 : Hid (Bts w2 (some ⟨w1.heap.size, 0, none⟩) oldL) := Lib.hid (Bts.stays (bts_ex ⟨_, _, _, blk_top rfl, rfl⟩) hb2)
  have HB2 : Hid (Below w1.heap.size w1 w2) := Lib.hid (((Below.refl _ _).alloc (Nat.le_refl _) _).trans (hb2.mono (by simp <;> omega)))
  clear hs2 hb2
  go_wp2_with fail
  refine (K2.out _ _ _ _ HA2.out HS2.out).mono ?_
  rintro e w3 ⟨A3, c3, rfl, hs3, hc3, hb3⟩
  have HS3 := Lib.hid hs3
  have HB3 : Hid (Below w1.heap.size w1 w3) := Lib.hid (HB2.out.trans (hb3.mono HB2.out.size))
  clear hs3 hb3
  go_wp2_with fail
  refine (K3.out _).mono ?_
  rintro e w4 ⟨A4, c4, rfl, hs4, hc4, hb4⟩
  have HS4 := Lib.hid hs4
  have HB4 : Hid (Below w3.heap.size w3 w4) := Lib.hid hb4
  clear hs4 hb4
  go_wp2_with fail
  have s1 := (HS1.out.stays HB3.out).stays HB4.out
  refine (K4.out _ _ _ _ _ s1 HS4.out).mono ?_
  rintro e w5 ⟨rfl, hb5⟩
  have HB5 : Hid (Below w3.heap.size w3 w5) := Lib.hid (HB4.out.trans (hb5.mono HB4.out.size))
  have b5 := HS3.out.stays HB5.out
  obtain ⟨bb, bo, rfl, -, -⟩ := b5 0 (by decide)
  have ks : (convert 22 9 (.slice (some ⟨bb, bo, none⟩) newL.length c3)).run Try.prog w5 = .ok (.string ⟨#[120, 101, 102, 103, 104, 97, 98, 99, 100]⟩) w5 :=
    run_convert_bytes_back (P := Try.prog) w5 22 9 5 ⟨bb, bo, none⟩ c3 newL Try.underlying22 Try.underlying5 Try.underlying9 (fun j hj => by
      obtain ⟨b', o', e, -, hc⟩ := b5 j hj
      injection e with e
      injection e with e1 e2
      subst e1 e2
      rw [show (⟨bb, bo, none⟩ : Addr).add j = ⟨bb, bo + j, none⟩ by simp [Addr.add]]
      exact hc)
  clear s1 hb5 b5
  go_wp2_with fail
  refine (K3.out _).mono ?_
  rintro e w6 ⟨A6, c6, rfl, hs6, hc6, hb6⟩
  have HS6 := Lib.hid hs6
  have HB6 : Hid (Below w3.heap.size w3 w6) := Lib.hid (HB5.out.trans (hb6.mono HB5.out.size))
  clear hs6 hb6
  go_wp2_with fail
  refine (K5.out _ _ _ HS6.out).mono ?_
  rintro e w7 ⟨rfl, hb7⟩
  have HB7 : Hid (Below w3.heap.size w3 w7) := Lib.hid (HB6.out.trans (hb7.mono HB6.out.size))
  clear hb7
  go_wp2_with fail
  refine (K3.out _).mono ?_
  rintro e w8 ⟨A8, c8, rfl, hs8, hc8, hb8⟩
  have HS8 := Lib.hid hs8
  have HB8 : Hid (Below w3.heap.size w3 w8) := Lib.hid (HB7.out.trans (hb8.mono HB7.out.size))
  clear hs8 hb8
  go_wp2_with fail
  refine (K6.out _ _ _ HS8.out).mono ?_
  rintro e w9 ⟨rfl, hb9⟩
  have HB9 : Hid (Below w3.heap.size w3 w9) := Lib.hid (HB8.out.trans (hb9.mono HB8.out.size))
  clear hb9
  go_wp2_with fail
  refine (K3.out _).mono ?_
  rintro e w10 ⟨A10, c10, rfl, hs10, hc10, hb10⟩
  have HS10 := Lib.hid hs10
  have HB10 : Hid (Below w3.heap.size w3 w10) := Lib.hid (HB9.out.trans (hb10.mono HB9.out.size))
  clear hs10 hb10
  go_wp2_with fail
  refine (K7.out _ _ _ HS10.out).mono ?_
  rintro e w11 ⟨rfl, hb11⟩
  have HB11 : Hid (Below w3.heap.size w3 w11) := Lib.hid (HB10.out.trans (hb11.mono HB10.out.size))
  clear hb11
  go_wp2_with fail
  go_ret
  exact ⟨rfl, (HB1.out.trans (HB3.out.mono hz1)).trans (HB11.out.mono (by have := HB3.out.size; omega))⟩
end Go.Proofs.Ytefkfglkpebbmac
