/- The walk of patch.Same. Printed by gen_patcheck.py. No conditions. -/
import Derived.Test.YtefkfglkpebbmacQDeltaSame
import Derived.Test.YtefkfglkpebbmacQBase
namespace Go.Proofs.Ytefkfglkpebbmac
open Go.RowKit
set_option linter.unusedVariables false
set_option linter.unusedSimpArgs false

set_option maxRecDepth 100000 in
set_option maxHeartbeats 8000000 in
theorem patSameA_calls (A B : Option Addr) (c d : Nat) (f t o n sz f2 t2 o2 n2 sz2 : Int) (l m : List Stp) (w : World) (hl : l.length ≤ 3518437208780) (hm : m.length ≤ 3518437208780) (hs : Sps w A l) (hr : Sps w B m) :
    Calls Try.prog 31 #[.agg #[iv f, iv t, iv o, iv n, iv sz, .slice A l.length c], .agg #[iv f2, iv t2, iv o2, iv n2, iv sz2, .slice B m.length d]] w (RetB w (.bool (decide ((⟨f, t, o, n, sz, l⟩ : Pat) = ⟨f2, t2, o2, n2, sz2, m⟩)))) := by
  have hb : Below w.heap.size w ((w.alloc (.cells #[iv f, iv t, iv o, iv n, iv sz, .slice A l.length c] 35)).alloc (.cells #[iv f2, iv t2, iv o2, iv n2, iv sz2, .slice B m.length d] 35)) := ((Below.refl _ _).alloc (Nat.le_refl _) _).alloc (by simp) _
  obtain ⟨r, hR⟩ : ∃ r, decide ((⟨f, t, o, n, sz, l⟩ : Pat) = ⟨f2, t2, o2, n2, sz2, m⟩) = r := ⟨_, rfl⟩
  rw [hR]
  have HR := Lib.hid hR
  clear hR
  have HB := Lib.hid hb
  have HC := Lib.hid (equalOps_calls A B c d l m _ hl hm (hs.stays hb) (hr.stays hb))
  clear hb hs hr
  by_cases h0 : ¬ f = f2
  · have hz : false = r := (decide_eq_false (fun e => by injection e; contradiction)).symm.trans HR.out
    have HZ := Lib.hid hz
    have q : (f == f2) = false := by simp [h0]
    clear HC hz h0
    go_enter Try.func31, Try.ntmps31
    go_wp2_with fail
    go_ret
    exact ⟨ret_bool HZ.out, HB.out⟩
  have h0 := Decidable.not_not.1 h0
  subst h0
  have q0 : (f == f) = true := by simp
  by_cases h1 : ¬ t = t2
  · have hz : false = r := (decide_eq_false (fun e => by injection e; contradiction)).symm.trans HR.out
    have HZ := Lib.hid hz
    have q : (t == t2) = false := by simp [h1]
    clear HC hz h1
    go_enter Try.func31, Try.ntmps31
    go_wp2_with fail
    go_ret
    exact ⟨ret_bool HZ.out, HB.out⟩
  have h1 := Decidable.not_not.1 h1
  subst h1
  have q1 : (t == t) = true := by simp
  by_cases h2 : ¬ o = o2
  · have hz : false = r := (decide_eq_false (fun e => by injection e; contradiction)).symm.trans HR.out
    have HZ := Lib.hid hz
    have q : (o == o2) = false := by simp [h2]
    clear HC hz h2
    go_enter Try.func31, Try.ntmps31
    go_wp2_with fail
    go_ret
    exact ⟨ret_bool HZ.out, HB.out⟩
  have h2 := Decidable.not_not.1 h2
  subst h2
  have q2 : (o == o) = true := by simp
  by_cases h3 : ¬ n = n2
  · have hz : false = r := (decide_eq_false (fun e => by injection e; contradiction)).symm.trans HR.out
    have HZ := Lib.hid hz
    have q : (n == n2) = false := by simp [h3]
    clear HC hz h3
    go_enter Try.func31, Try.ntmps31
    go_wp2_with fail
    go_ret
    exact ⟨ret_bool HZ.out, HB.out⟩
  have h3 := Decidable.not_not.1 h3
  subst h3
  have q3 : (n == n) = true := by simp
  by_cases h4 : ¬ sz = sz2
  · have hz : false = r := (decide_eq_false (fun e => by injection e; contradiction)).symm.trans HR.out
    have HZ := Lib.hid hz
    have q : (sz == sz2) = false := by simp [h4]
    clear HC hz h4
    go_enter Try.func31, Try.ntmps31
    go_wp2_with fail
    go_ret
    exact ⟨ret_bool HZ.out, HB.out⟩
  have h4 := Decidable.not_not.1 h4
  subst h4
  have q4 : (sz == sz) = true := by simp
  have hz : decide (l = m) = r := by
    rw [← HR.out]
    by_cases e : l = m
    · subst e; simp
    · rw [decide_eq_false e, decide_eq_false (fun h => e (by injection h))]
  have HZ := Lib.hid hz
  clear hz
  go_enter Try.func31, Try.ntmps31
  go_wp2_with fail
  refine HC.out.mono ?_
  rintro e w9 ⟨rfl, hb1⟩
  have HB1 := Lib.hid (HB.out.trans (hb1.mono HB.out.size))
  clear hb1
  go_wp2_with fail
  go_ret
  exact ⟨ret_bool HZ.out, HB1.out⟩
end Go.Proofs.Ytefkfglkpebbmac
