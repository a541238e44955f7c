/- The walk of the document's Done. No conditions. -/
import Derived.Test.YtefkfglkpebbmacQRefPatCheckR
import Derived.Test.YtefkfglkpebbmacQRefSum
import Derived.Test.YtefkfglkpebbmacQRefApplyAny
import Derived.Test.YtefkfglkpebbmacQPatDo
namespace Go.Proofs.Ytefkfglkpebbmac
open Go.RowKit
set_option linter.unusedVariables false
set_option linter.unusedSimpArgs false

set_option maxRecDepth 100000 in
set_option maxHeartbeats 8000000 in
theorem refDone_calls (B A : Option Addr) (d c : Nat) (p : Pat) (old : List UInt8) (w : World) (hc : old.length ≤ c) (ho : old.length ≤ 140737488351232) (hA : Bts w A old) (hp : PatIn w p B d) :
    Calls Try.prog 27 #[.agg (patA p.from_ p.to_ p.old p.new_ p.size B p.ops.length d), .slice A old.length c] w (ByRet2 w (patDo (sumOn 1) p old).1 (patDo (sumOn 1) p old).2) := by
  obtain ⟨f, t, o, n, sz, l⟩ := p
  obtain ⟨hcap, hlen, hops, -, -, -, -, -⟩ := hp
  dsimp only at *
  have hba := (Below.refl w.heap.size w).alloc (Nat.le_refl _) (.cells (patA f t o n sz B l.length d) 35)
  have K1 := Lib.hid (fun w h => refPatCheck_calls B d f t o n sz l w hlen h)
  have K2 := Lib.hid (fun w h => refSumOf_calls A c old w (by omega) h)
  have HA := Lib.hid hA
  have HO := Lib.hid hops
  have HBA := Lib.hid hba
  clear hA hops hba
  obtain ⟨r, hr⟩ : ∃ r, patDo (sumOn 1) ⟨f, t, o, n, sz, l⟩ old = r := ⟨_, rfl⟩
  rw [hr]
  have HR := Lib.hid hr
  clear hr
  obtain ⟨ck, hck⟩ : ∃ ck, patCheck ⟨f, t, o, n, sz, l⟩ = ck := ⟨_, rfl⟩
  rw [hck] at K1
  have HCK := Lib.hid hck
  clear hck
  go_enter Try.func27, Try.ntmps27
  go_wp2_with fail
  refine (K1.out _ (HO.out.stays HBA.out)).mono ?_
  rintro e w1 ⟨rfl, hb1⟩
  obtain ⟨a0r, a0f, a0n, a0c, a0z, a0l⟩ := keep1 (g := w.heap.size) (cs := patA f t o n sz B l.length d) hb1 (by first | (go_simp; done) | (go_simp; rfl)) (by go_simp) (by go_simp)
  have HB1 := Lib.hid (HBA.out.trans (hb1.mono (by simp)))
  clear hb1
  by_cases h0 : ck ≠ 0
  · have hz : r = ([], ck) := by rw [← HR.out]; unfold patDo; rw [HCK.out, if_pos h0]
    subst hz
    have q : (ck != 0) = true := by simp [h0]
    clear h0
    go_wp2_with fail
    go_ret2
    exact ⟨none, 0, rfl, Bts.nil _ _, Nat.le_refl _, HB1.out⟩
  have h0 := Decidable.not_not.1 h0
  subst h0
  by_cases h1 : 64 < old.length
  · have hz : r = ([], 1) := by rw [← HR.out]; unfold patDo; rw [HCK.out, if_neg (by simp), if_pos h1]
    subst hz
    have q : (64 : Int) < (old.length : Int) := by omega
    go_wp2_with fail
    go_ret2
    exact ⟨none, 0, rfl, Bts.nil _ _, Nat.le_refl _, HB1.out⟩
  have q1 : ¬ (64 : Int) < (old.length : Int) := by omega
  obtain ⟨s, hs⟩ : ∃ s, sumOn 1 old = s := ⟨_, rfl⟩
  rw [hs] at K2
  have HS := Lib.hid hs
  clear hs
  have HK1 := Lib.hid (fun n => K2.out (w1.drewN n) ((HA.out.stays HB1.out).drewN n))
  by_cases h2 : s ≠ o
  · have hz : r = ([], 6) := by rw [← HR.out]; unfold patDo; rw [HCK.out, if_neg (by simp), if_neg h1, HS.out, if_pos h2]
    subst hz
    have q : (s != o) = true := by simp [h2]
    clear h2
    go_wp2_with fail
    go_quiet ((go_at_call 96; with_reducible exact quietRet (HK1.out _)))
    go_wp2_with fail
    go_ret2
    exact ⟨none, 0, rfl, Bts.nil _ _, Nat.le_refl _, Below.drewN' HB1.out _⟩
  have h2 := Decidable.not_not.1 h2
  subst h2
  have q2 : (s != s) = false := by simp
  obtain ⟨y, e0, hy⟩ : ∃ y e0, axOf old l sz = (y, e0) := ⟨_, _, rfl⟩
  have K3 := Lib.hid (fun w h1 h2 => refApplyAny_calls A c old B d l sz w hc ho h1 hlen h2)
  rw [hy] at K3
  dsimp only at K3
  have HY := Lib.hid hy
  clear hy
  have HK3 := Lib.hid (fun n => K3.out (w1.drewN n) ((HA.out.stays HB1.out).drewN n) ((HO.out.stays HB1.out).stays (below_drewN _ _)))
  have hyl : y.length ≤ 140737488351232 := by
    have := HY.out
    unfold axOf at this
    by_cases h9 : deltaCheck l old.length sz ≠ 0
    · rw [if_pos h9] at this; injection this with h; rw [← h]; simp
    · rw [if_neg h9] at this
      injection this with h
      have hd := deltaCheck_ok.1 (Decidable.not_not.1 h9)
      have := applied_len (old := old) (l := l) (fun o ho => (hd.each o ho).2)
      have h7 := hd.sum; have h8 := hd.s1
      rw [← h]; omega
  go_wp2_with fail
  go_quiet ((go_at_call 96; with_reducible exact quietRet (HK1.out _)))
  go_wp2_with fail
  refine (HK3.out nq).mono ?_
  rintro e w2 ⟨A2, c2, rfl, hy2, hc2, hb2⟩
  obtain ⟨b0r, b0f, b0n, b0c, b0z, b0l⟩ := keep1 (g := w.heap.size) (cs := patA f t s n sz B l.length d) hb2 (by first | (go_simp; done) | (go_simp; rfl)) (by go_simp) (by go_simp)
  have HB2 : Hid (Below w.heap.size w w2) := Lib.hid ((Below.drewN' HB1.out nq).trans (hb2.mono (by have := HB1.out.size; simp; omega)))
  have HY2 := Lib.hid hy2
  clear hb2 hy2
  by_cases h3 : e0 ≠ 0
  · have hz : r = ([], e0) := by
      rw [← HR.out]; unfold patDo
      have := HY.out
      unfold axOf at this
      rw [HCK.out, if_neg (by simp), if_neg h1, HS.out, if_neg (by simp)]
      by_cases h9 : deltaCheck l old.length sz ≠ 0
      · rw [if_pos h9] at this ⊢; injection this with _ h; rw [h]
      · rw [if_neg h9] at this; injection this with _ h; exact absurd h.symm h3
    subst hz
    have q : (e0 != 0) = true := by simp [h3]
    have q9 : (e0 == 0) = false := by simp [h3]
    clear h3 HY
    go_wp2_with fail
    go_quiet (fail)
    go_wp2_with fail
    go_ret2
    exact ⟨none, 0, rfl, Bts.nil _ _, Nat.le_refl _, Below.drewN' HB2.out _⟩
  have h3 := Decidable.not_not.1 h3
  subst h3
  have hyy : deltaCheck l old.length sz = 0 ∧ y = applied old l := by
    have := HY.out
    unfold axOf at this
    by_cases h9 : deltaCheck l old.length sz ≠ 0
    · rw [if_pos h9] at this; injection this with _ h; exact absurd h h9
    · rw [if_neg h9] at this; injection this with h _; exact ⟨Decidable.not_not.1 h9, h.symm⟩
  have K4 := Lib.hid (fun m => refSumOf_calls A2 c2 y (w2.drewN m) (by omega) (HY2.out.drewN m))
  have hrr : r = if sumOn 1 y ≠ n then ([], 6) else (y, 0) := by
    rw [← HR.out]; unfold patDo
    rw [HCK.out, if_neg (by simp), if_neg h1, HS.out, if_neg (by simp), hyy.1, if_neg (by simp), ← hyy.2]
  obtain ⟨s2, hs2⟩ : ∃ s2, sumOn 1 y = s2 := ⟨_, rfl⟩
  rw [hs2] at K4 hrr
  have HRR := Lib.hid hrr
  clear hrr hs2 hyy HY
  by_cases h4 : s2 ≠ n
  · have hz : r = ([], 6) := by rw [HRR.out, if_pos h4]
    subst hz
    have q : (s2 != n) = true := by simp [h4]
    clear h4
    go_wp2_with fail
    go_quiet ((go_at_call 96; with_reducible exact quietRet (K4.out _)))
    go_wp2_with fail
    go_ret2
    exact ⟨none, 0, rfl, Bts.nil _ _, Nat.le_refl _, Below.drewN' HB2.out _⟩
  · have h4 := Decidable.not_not.1 h4
    subst h4
    have hz : r = (y, 0) := by rw [HRR.out, if_neg (by simp)]
    subst hz
    have q : (s2 != s2) = false := by simp
    go_wp2_with fail
    go_quiet ((go_at_call 96; with_reducible exact quietRet (K4.out _)))
    go_wp2_with fail
    go_ret2
    exact ⟨A2, c2, rfl, HY2.out.drewN _, hc2, Below.drewN' HB2.out _⟩
end Go.Proofs.Ytefkfglkpebbmac
