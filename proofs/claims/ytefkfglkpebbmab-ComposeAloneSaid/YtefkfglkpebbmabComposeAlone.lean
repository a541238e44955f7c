/- The walk of the law ComposeAlone. No conditions. -/
import Derived.Test.YtefkfglkpebbmabComposed
import Derived.Test.YtefkfglkpebbmabDeltaApply
import Derived.Test.YtefkfglkpebbmabBytesEqual
import Derived.Test.YtefkfglkpebbmabAux
namespace Go.Proofs.Ytefkfglkpebbmab
open Go.RowKit
set_option linter.unusedVariables false
set_option linter.unusedSimpArgs false

set_option maxRecDepth 100000 in
set_option maxHeartbeats 4000000 in
theorem whole_calls (n : Int) (w : World) (hn : 0 ≤ n ∧ n ≤ 64) : Calls Try.prog 27 #[iv n] w (OpsRet w (wholeStp n)) := by
  by_cases h : n = 0
  · subst h
    go_enter Try.func27, Try.ntmps27
    go_wp2_with fail
    exact bodyPost_ret (results_tmp rfl _ _ _) rfl ⟨none, 0, rfl, Sps.nil _ _, Nat.le_refl _, Below.refl _ _⟩
  · have h1 : (n == 0) = false := by simp [h]
    have hw : wholeStp n = [⟨0, n, []⟩] := by unfold wholeStp; rw [if_neg h]
    have HW := Lib.hid hw
    clear h hw
    generalize wholeStp n = m at *
    go_enter Try.func27, Try.ntmps27
    go_wp2_with fail
    obtain rfl := HW.out
    refine bodyPost_ret (results_tmp rfl _ _ _) rfl ⟨_, _, rfl, ?_, Nat.le_refl _, (Below.refl _ _).alloc (Nat.le_refl _) _⟩
    refine sps_blk (blk_top (by simp)) [(none, 0)] rfl rfl ?_
    intro i o d ho hd
    match i with
    | 0 =>
      simp at ho hd
      subst ho hd
      exact ⟨Bts.nil _ _, by simp, by simp, by simp [I64], by unfold I64; dsimp only; omega⟩
    | i + 1 => simp at ho
set_option maxRecDepth 100000 in
set_option maxHeartbeats 4000000 in
theorem composeAlone_bad (A : Option Addr) (c : Nat) (old0 : List UInt8) (B : Option Addr) (d : Nat) (l : List Stp) (size : Int) (W : World) (hc : old0.length ≤ c) (hl : old0.length ≤ 140737488351232) (h1 : l.length ≤ 140737488351232) (hs : Sps W B l) (h : deltaCheck l (img old0).length size ≠ 0) :
    Calls Try.prog 7 #[.slice A old0.length c, .slice B l.length d, iv size] W (RetB W (.bool true)) := by
  have HI := Lib.hid (lawImage_calls A c old0 W hc hl)
  have l1 := img_len old0
  have K1 := Lib.hid (fun w (hs : Sps w B l) => deltaApply_bad A c (img old0) B d l size w (by omega) h1 hs h)
  have hb : (deltaCheck l (img old0).length size != 0) = true := by simp [h]
  have K0 := Lib.hid composed_calls
  clear h hl hc
  go_enter Try.func7, Try.ntmps7
  go_wp2_with fail
  refine HI.out.mono ?_
  rintro e0 w1 ⟨rfl, rfl⟩
  go_wp2_with fail
  refine (K1.out _ hs).mono ?_
  rintro e0 w1 ⟨rfl, hb1⟩
  have HB1 := Lib.hid hb1
  clear hb1
  go_wp2_with fail
  refine (K0.out _).mono ?_
  rintro e0 w2 ⟨rfl, hb2⟩
  have HB2 : Hid (Below W.heap.size W w2) := Lib.hid (HB1.out.trans (hb2.mono HB1.out.size))
  clear hb2
  go_wp2_with fail
  refine (K0.out _).mono ?_
  rintro e0 w3 ⟨rfl, hb3⟩
  have HB3 : Hid (Below W.heap.size W w3) := Lib.hid (HB2.out.trans (hb3.mono HB2.out.size))
  clear hb3
  go_wp2_with fail
  go_ret
  exact ⟨rfl, HB3.out⟩
set_option maxRecDepth 100000 in
set_option maxHeartbeats 4000000 in
theorem composeAlone_ok (A : Option Addr) (c : Nat) (old0 : List UInt8) (B : Option Addr) (d : Nat) (l : List Stp) (size : Int) (W : World) (hc : old0.length ≤ c) (hl : old0.length ≤ 140737488351232) (h1 : l.length ≤ 140737488351232) (hr : Bts W A old0) (hs : Sps W B l) (h : deltaCheck l (img old0).length size = 0) :
    Calls Try.prog 7 #[.slice A old0.length c, .slice B l.length d, iv size] W (RetB W (.bool true)) := by
  have HI := Lib.hid (lawImage_calls A c old0 W hc hl)
  have l1 := img_len old0
  have r1 := img_bts hr
  have c1 : (img old0).length ≤ c := by unfold img; rw [List.length_take]; omega
  clear hr hl hc
  generalize img old0 = old at *
  have d1 := deltaCheck_ok.1 h
  obtain ⟨e1, e2, hlen, d3, hmk⟩ := compose_alone d1
  have s0 := d1.s0
  have s1 := d1.s1
  have m1 := d1.many
  have wl : ∀ n, (wholeStp n).length ≤ 1 := fun n => by unfold wholeStp; split <;> simp
  have W1 := Lib.hid (fun w => whole_calls (old.length : Int) w (by omega))
  have W2 := Lib.hid (fun w => whole_calls size w (by omega))
  have K1 := Lib.hid (fun w (q1 : Bts w A old) (q2 : Sps w B l) => deltaApply_ok A c old B d l size w c1 q1 h1 q2 h)
  have K2 : Hid (∀ E f w, Sps w E (wholeStp old.length) → Sps w B l → Calls Try.prog 23 #[.slice E (wholeStp old.length).length f, .slice B l.length d, iv (old.length : Int), iv (old.length : Int), iv size] w (OpRet2 w (tidy l []) 0)) := fun E f w q1 q2 => by
    have := composeOf_calls (d := f) (f := d) (old := old.length) (mid := old.length) (size := size) (by have := wl (old.length : Int); omega) q1 h1 q2
    rwa [e1] at this
  have K3 : Hid (∀ E f w, Sps w B l → Sps w E (wholeStp size) → Calls Try.prog 23 #[.slice B l.length d, .slice E (wholeStp size).length f, iv (old.length : Int), iv size, iv size] w (OpRet2 w (tidy l []) 0)) := fun E f w q1 q2 => by
    have := composeOf_calls (d := d) (f := f) (old := old.length) (mid := size) (size := size) h1 q1 (by have := wl size; omega) q2
    rwa [e2] at this
  have K4 : Hid (∀ X xc Y yc w, Sps w X (tidy l []) → Sps w Y (tidy l []) → Calls Try.prog 28 #[.slice X (tidy l []).length xc, .slice Y (tidy l []).length yc] w (RetB w (.bool true))) := fun X xc Y yc w q1 q2 => by
    have := equalOps_calls X Y xc yc (tidy l []) (tidy l []) w (by omega) (by omega) q1 q2
    rw [show decide (tidy l [] = tidy l []) = true by simp] at this
    exact this
  have K5 : Hid (∀ X xc w, Bts w A old → Sps w X (tidy l []) → Calls Try.prog 15 #[.slice A old.length c, .slice X (tidy l []).length xc, iv size] w (ByRet2 w (applied old l) 0)) := fun X xc w q1 q2 => by
    have := deltaApply_ok A c old X xc (tidy l []) size w c1 q1 (by omega) q2 (deltaCheck_ok.2 d3)
    rwa [hmk] at this
  have K0 := Lib.hid composed_calls
  have R1 := Lib.hid r1
  have HS := Lib.hid hs
  clear h d1 e1 e2 d3 hmk wl r1 hs
  generalize tidy l [] = x at *
  generalize applied old l = y at *
  generalize wholeStp (old.length : Int) = p at *
  generalize wholeStp size = q at *
  have hgt : ¬ (l.length : Int) < (x.length : Int) := by omega
  go_enter Try.func7, Try.ntmps7
  go_wp2_with fail
  refine HI.out.mono ?_
  rintro e0 w1 ⟨rfl, rfl⟩
  go_wp2_with fail
  refine (K1.out _ R1.out HS.out).mono ?_
  rintro e0 w1 ⟨Y, yc, rfl, hs1, hyc, hb1⟩
  have HB1 := Lib.hid hb1
  have HY1 := Lib.hid hs1
  clear hb1 hs1
  go_wp2_with fail
  refine (K0.out _).mono ?_
  rintro e0 w2 ⟨rfl, hb2⟩
  have HB2 : Hid (Below W.heap.size W w2) := Lib.hid (HB1.out.trans (hb2.mono HB1.out.size))
  have HY2 := Lib.hid (HY1.out.stays hb2)
  clear hb2
  go_wp2_with fail
  refine (W1.out _).mono ?_
  rintro e0 w3 ⟨E, f, rfl, hs3, hfc, hb3⟩
  have HB3 : Hid (Below W.heap.size W w3) := Lib.hid (HB2.out.trans (hb3.mono HB2.out.size))
  have HY3 := Lib.hid (HY2.out.stays hb3)
  have HE3 := Lib.hid hs3
  clear hb3 hs3
  go_wp2_with fail
  refine (K2.out _ _ _ HE3.out (HS.out.stays HB3.out)).mono ?_
  rintro e0 w4 ⟨X, xc, rfl, hs4, hxc, hb4⟩
  have HB4 : Hid (Below W.heap.size W w4) := Lib.hid (HB3.out.trans (hb4.mono HB3.out.size))
  have HY4 := Lib.hid (HY3.out.stays hb4)
  have HX4 := Lib.hid hs4
  clear hb4 hs4
  go_wp2_with fail
  refine (W2.out _).mono ?_
  rintro e0 w5 ⟨G, g, rfl, hs5, hgc, hb5⟩
  have HB5 : Hid (Below W.heap.size W w5) := Lib.hid (HB4.out.trans (hb5.mono HB4.out.size))
  have HY5 := Lib.hid (HY4.out.stays hb5)
  have HX5 := Lib.hid (HX4.out.stays hb5)
  have HG5 := Lib.hid hs5
  clear hb5 hs5
  go_wp2_with fail
  refine (K3.out _ _ _ (HS.out.stays HB5.out) HG5.out).mono ?_
  rintro e0 w6 ⟨V, vc, rfl, hs6, hvc, hb6⟩
  have HB6 : Hid (Below W.heap.size W w6) := Lib.hid (HB5.out.trans (hb6.mono HB5.out.size))
  have HY6 := Lib.hid (HY5.out.stays hb6)
  have HX6 := Lib.hid (HX5.out.stays hb6)
  have HV6 := Lib.hid hs6
  clear hb6 hs6
  go_wp2_with fail
  refine (K4.out _ _ _ _ _ HX6.out HV6.out).mono ?_
  rintro e0 w7 ⟨rfl, hb7⟩
  have HB7 : Hid (Below W.heap.size W w7) := Lib.hid (HB6.out.trans (hb7.mono HB6.out.size))
  have HY7 := Lib.hid (HY6.out.stays hb7)
  have HX7 := Lib.hid (HX6.out.stays hb7)
  clear hb7
  go_wp2_with fail
  refine (K5.out _ _ _ (R1.out.stays HB7.out) HX7.out).mono ?_
  rintro e0 w8 ⟨Z, zc, rfl, hs8, hzc, hb8⟩
  have HB8 : Hid (Below W.heap.size W w8) := Lib.hid (HB7.out.trans (hb8.mono HB7.out.size))
  have HE8 := Lib.hid (bytesEqual_calls Z Y zc yc y y w8 hzc hyc hs8 (HY7.out.stays hb8))
  clear hb8 hs8
  go_wp2_with fail
  refine HE8.out.mono ?_
  rintro e0 w9 ⟨rfl, rfl⟩
  go_wp2_with fail
  go_ret
  exact ⟨rfl, HB8.out⟩
theorem ComposeAlone_walk (W : World) (v0 v1 v2 : Value) (old0 : List UInt8) (l : List Stp) (size : Int) (g0 : ArgBytes W v0 old0) (g1 : ArgOps W v1 l) (g2 : ArgInt v2 size) :
    Calls Try.prog 7 #[v0, v1, v2] W (RetB W (.bool true)) := by
  obtain ⟨A, c, rfl, hc, hl, hr⟩ := g0
  obtain ⟨B, d, rfl, hd, h1, hs⟩ := g1
  obtain ⟨rfl, -, -⟩ := g2
  by_cases h : deltaCheck l (img old0).length size = 0
  · exact composeAlone_ok A c old0 B d l size W hc hl h1 hr hs h
  · exact composeAlone_bad A c old0 B d l size W hc hl h1 hs h
end Go.Proofs.Ytefkfglkpebbmab
