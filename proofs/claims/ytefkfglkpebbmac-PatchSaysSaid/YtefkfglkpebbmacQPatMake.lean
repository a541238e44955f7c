/- The walk of patch.Make. No conditions. -/
import Derived.Test.YtefkfglkpebbmacQPatRet
import Derived.Test.YtefkfglkpebbmacQPatCheck
import Derived.Test.YtefkfglkpebbmacQPatRows
import Derived.Test.YtefkfglkpebbmacQDiff
import Derived.Test.YtefkfglkpebbmacQSumOf
namespace Go.Proofs.Ytefkfglkpebbmac
open Go.RowKit
set_option linter.unusedVariables false
set_option linter.unusedSimpArgs false

set_option maxRecDepth 100000 in
set_option maxHeartbeats 8000000 in
theorem patMake_many (A B : Option Addr) (c d : Nat) (fr to_ : Int) (old b : List UInt8) (w : World) (h : 64 < old.length ∨ 64 < b.length) (ho : old.length ≤ 140737488351232) (hl : b.length ≤ 140737488351232) :
    Calls Try.prog 24 #[iv fr, iv to_, .slice A old.length c, .slice B b.length d] w (PaRet w Pat.zero 1) := by
  have K := Lib.hid (fun w => diff_many A B c d old b w h ho hl)
  clear h
  go_enter Try.func24, Try.ntmps24
  go_wp2_with fail
  refine (K.out _).mono ?_
  rintro e w1 ⟨rfl, hb1⟩
  obtain ⟨a0r, a0f, a0n, a0c, a0z, a0l⟩ := keep1 (g := w.heap.size) (cs := patA 0 0 0 0 0 none 0 0) hb1 (by first | (go_simp; done) | (go_simp; rfl)) (by go_simp) (by go_simp)
  have HB := Lib.hid (((Below.refl _ _).alloc (Nat.le_refl w.heap.size) _).trans (hb1.mono (by simp)))
  clear hb1
  go_wp2_with fail
  refine bodyPost_ret (results_ct rfl rfl (cs := patA 0 0 0 0 0 none 0 0) (by go_simp) (by go_simp) (by go_simp)) rfl ⟨none, 0, rfl, .const fun v => patIn_zero v, below_row HB.out (by omega) _⟩
set_option maxRecDepth 100000 in
set_option maxHeartbeats 8000000 in
theorem patMake_fit (A B : Option Addr) (c d : Nat) (fr to_ : Int) (old b : List UInt8) (w : World) (hf : I64 fr) (ht : I64 to_) (ho : old.length ≤ 64) (hl : b.length ≤ 64) (hA : Bts w A old) (hB : Bts w B b) :
    Calls Try.prog 24 #[iv fr, iv to_, .slice A old.length c, .slice B b.length d] w (PaRet w (patMake (sumOn 1) fr to_ old b).1 (patMake (sumOn 1) fr to_ old b).2) := by
  have K1 := Lib.hid (fun w h1 h2 => diff3_calls A B c d old b w ho hl h1 h2)
  have K2 := Lib.hid (fun w h => sumOf_calls A c old w (by omega) h)
  have K3 := Lib.hid (fun w h => sumOf_calls B d b w (by omega) h)
  have hs1 := sumOn_bd 1 old (by omega)
  have hs2 := sumOn_bd 1 b (by omega)
  have hdl : (diffed old b).length ≤ 40 := (diffed_ok old b ho hl).many
  have HM : Hid ((patMake (sumOn 1) fr to_ old b) = if patCheck ⟨fr, to_, sumOn 1 old, sumOn 1 b, b.length, diffed old b⟩ ≠ 0 then (Pat.zero, patCheck ⟨fr, to_, sumOn 1 old, sumOn 1 b, b.length, diffed old b⟩) else (⟨fr, to_, sumOn 1 old, sumOn 1 b, b.length, diffed old b⟩, 0)) := Lib.hid (by
    unfold patMake; rw [if_neg (by omega)])
  generalize sumOn 1 old = s1 at *
  generalize sumOn 1 b = s2 at *
  generalize diffed old b = l at *
  have HA := Lib.hid hA
  have HB := Lib.hid hB
  have HI : Hid (I64 fr ∧ I64 to_) := Lib.hid ⟨hf, ht⟩
  clear hA hB hf ht
  generalize patMake (sumOn 1) fr to_ old b = r at *
  go_enter Try.func24, Try.ntmps24
  go_wp2_with fail
  have hba := (Below.refl w.heap.size w).alloc (Nat.le_refl _) (.cells (patA 0 0 0 0 0 none 0 0) 35)
  refine (K1.out _ (HA.out.stays hba) (HB.out.stays hba)).mono ?_
  rintro e w1 ⟨A1, c1, rfl, hsp, hc1, hb1⟩
  obtain ⟨a0r, a0f, a0n, a0c, a0z, a0l⟩ := keep1 (g := w.heap.size) (cs := patA 0 0 0 0 0 none 0 0) hb1 (by first | (go_simp; done) | (go_simp; rfl)) (by go_simp) (by go_simp)
  have HB1 := Lib.hid (hba.trans (hb1.mono (by simp)))
  have HSP := Lib.hid hsp
  clear hb1 hba hsp
  go_wp2_with fail
  refine (K2.out _ (HA.out.stays HB1.out)).mono ?_
  rintro e w2 ⟨rfl, rfl⟩
  go_wp2_with fail
  refine (K3.out _ (HB.out.stays HB1.out)).mono ?_
  rintro e w3 ⟨rfl, rfl⟩
  go_wp2_with fail
  have hba := (Below.refl w1.heap.size w1).alloc (Nat.le_refl _) (.cells (patA fr to_ s1 s2 b.length A1 l.length c1) 35)
  have HS2 := Lib.hid (HSP.out.below hba (Nat.le_refl _))
  refine (patCheck_calls A1 c1 fr to_ s1 s2 b.length l _ (by omega) HS2.out.now).mono ?_
  rintro e w4 ⟨rfl, hb4⟩
  obtain ⟨b0r, b0f, b0n, b0c, b0z, b0l⟩ := keep1 (g := w.heap.size) (cs := patA 0 0 0 0 0 none 0 0) hb4 (by first | (go_simp; done) | (go_simp; rfl)) (by go_simp) (by go_simp)
  obtain ⟨b1r, b1f, b1n, b1c, b1z, b1l⟩ := keep1 (g := w1.heap.size) (cs := patA fr to_ s1 s2 b.length A1 l.length c1) hb4 (by first | (go_simp; done) | (go_simp; rfl)) (by go_simp) (by go_simp)
  have HB4 : Hid (Below w.heap.size w w4) := Lib.hid ((HB1.out.alloc HB1.out.size _).trans (hb4.mono (by have := HB1.out.size; simp; omega)))
  have HS4 := Lib.hid (HS2.out.below hb4 (Nat.le_refl _))
  have HPI : Hid (Fresh (w.heap.size + 1) w4 (fun v => PatIn v ⟨fr, to_, s1, s2, b.length, l⟩ A1 c1)) := Lib.hid (Fresh.imp (by simpa using HS4.out) fun v hv => ⟨hc1, by dsimp only; omega, hv, HI.out.1, HI.out.2, ⟨by dsimp only; omega, by dsimp only; omega⟩, ⟨by dsimp only; omega, by dsimp only; omega⟩, ⟨by dsimp only; omega, by dsimp only; omega⟩⟩)
  clear hb4 hba
  by_cases hz : patCheck ⟨fr, to_, s1, s2, b.length, l⟩ = 0
  · have hr : r = (⟨fr, to_, s1, s2, b.length, l⟩, 0) := by rw [HM.out, if_neg (by simpa using hz)]
    have HR := Lib.hid hr
    clear hr
    go_wp2_with fail
    refine bodyPost_ret (results_ct rfl rfl (cs := patA fr to_ s1 s2 b.length A1 l.length c1) (by go_simp) (by go_simp) (by go_simp)) rfl ?_
    rw [HR.out]
    exact ⟨A1, c1, rfl, (HPI.out.row (by omega) _).mono (by omega), below_row HB4.out (by omega) _⟩
  · have hr : r = (Pat.zero, patCheck ⟨fr, to_, s1, s2, b.length, l⟩) := by rw [HM.out, if_pos hz]
    have hq : (patCheck ⟨fr, to_, s1, s2, b.length, l⟩ != 0) = true := by simp [hz]
    have HR := Lib.hid hr
    clear hr hz
    generalize patCheck ⟨fr, to_, s1, s2, b.length, l⟩ = e1 at *
    go_wp2_with fail
    refine bodyPost_ret (results_ct rfl rfl (cs := patA 0 0 0 0 0 none 0 0) (by go_simp) (by go_simp) (by go_simp)) rfl ?_
    rw [HR.out]
    exact ⟨none, 0, rfl, .const fun v => patIn_zero v, below_row HB4.out (by omega) _⟩
end Go.Proofs.Ytefkfglkpebbmac
