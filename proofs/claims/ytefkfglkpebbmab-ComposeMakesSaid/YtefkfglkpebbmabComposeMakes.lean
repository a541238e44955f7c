/- The walk of the law ComposeMakes. No conditions. -/
import Derived.Test.YtefkfglkpebbmabComposed
import Derived.Test.YtefkfglkpebbmabDeltaApply
import Derived.Test.YtefkfglkpebbmabBytesEqual
import Derived.Test.YtefkfglkpebbmabAux
namespace Go.Proofs.Ytefkfglkpebbmab
open Go.RowKit
set_option linter.unusedVariables false
set_option linter.unusedSimpArgs false

set_option maxRecDepth 100000 in
set_option maxHeartbeats 4000000 in
theorem composeMakes_bad (A : Option Addr) (c : Nat) (old0 : List UInt8) (B E : Option Addr) (d f : Nat) (l m : List Stp) (mid size : Int) (W : World) (hc : old0.length ≤ c) (hl : old0.length ≤ 140737488351232) (h1 : l.length ≤ 140737488351232) (h2 : m.length ≤ 140737488351232) (hs : Sps W B l) (ht : Sps W E m) (h : (composeOf l m (img old0).length mid size).2 ≠ 0) :
    Calls Try.prog 6 #[.slice A old0.length c, .slice B l.length d, .slice E m.length f, iv mid, iv size] W (RetB W (.bool true)) := by
  have HI := Lib.hid (lawImage_calls A c old0 W hc hl)
  have l1 := img_len old0
  have K1 := Lib.hid (composeOf_calls (d := d) (f := f) (old := (img old0).length) (mid := mid) (size := size) h1 hs h2 ht)
  have K0 := Lib.hid composed_calls
  have hb : ((composeOf l m (img old0).length mid size).2 != 0) = true := by simp [h]
  clear h hl hc hs ht
  generalize composeOf l m (img old0).length mid size = r at *
  obtain ⟨x, e⟩ := r
  dsimp only at *
  go_enter Try.func6, Try.ntmps6
  go_wp2_with fail
  refine HI.out.mono ?_
  rintro e0 w1 ⟨rfl, rfl⟩
  go_wp2_with fail
  refine K1.out.mono ?_
  rintro e0 w1 ⟨X, xc, rfl, hs1, hxc, hb1⟩
  have HB1 := Lib.hid hb1
  clear hb1 hs1
  go_wp2_with fail
  refine (K0.out _).mono ?_
  rintro e0 w2 ⟨rfl, hb2⟩
  have HB2 : Hid (Below W.heap.size W w2) := Lib.hid (HB1.out.trans (hb2.mono HB1.out.size))
  clear hb2
  go_wp2_with fail
  refine (K0.out _).mono ?_
  rintro e0 w3 ⟨rfl, hb3⟩
  have HB3 : Hid (Below W.heap.size W w3) := Lib.hid (HB2.out.trans (hb3.mono HB2.out.size))
  clear hb3
  go_wp2_with fail
  go_ret
  exact ⟨rfl, HB3.out⟩
set_option maxRecDepth 100000 in
set_option maxHeartbeats 4000000 in
theorem composeMakes_ok (A : Option Addr) (c : Nat) (old0 : List UInt8) (B E : Option Addr) (d f : Nat) (l m : List Stp) (mid size : Int) (W : World) (hc : old0.length ≤ c) (hl : old0.length ≤ 140737488351232) (h1 : l.length ≤ 140737488351232) (h2 : m.length ≤ 140737488351232) (hr : Bts W A old0) (hs : Sps W B l) (ht : Sps W E m) (h : (composeOf l m (img old0).length mid size).2 = 0) :
    Calls Try.prog 6 #[.slice A old0.length c, .slice B l.length d, .slice E m.length f, iv mid, iv size] W (RetB W (.bool true)) := by
  have HI := Lib.hid (lawImage_calls A c old0 W hc hl)
  have l1 := img_len old0
  have r1 := img_bts hr
  have c1 : (img old0).length ≤ c := by unfold img; rw [List.length_take]; omega
  clear hr hl hc
  generalize img old0 = old at *
  obtain ⟨d1, d2, hx, d3⟩ := composeOf_ok h
  obtain ⟨-, hmk, -⟩ := compose_makes d1 d2
  have hlen : ((applied old l).length : Int) = mid := by rw [sound_len (form_sound d1.each)]; exact d1.sum
  have K1 : Hid (∀ w, Sps w B l → Sps w E m → Calls Try.prog 23 #[.slice B l.length d, .slice E m.length f, iv (old.length : Int), iv mid, iv size] w (OpRet2 w (composeGo l m []) 0)) := fun w q1 q2 => by
    have := composeOf_calls (d := d) (f := f) (old := old.length) (mid := mid) (size := size) h1 q1 h2 q2
    rwa [hx, h] at this
  have K2 := Lib.hid (fun w (q1 : Bts w A old) (q2 : Sps w B l) => deltaApply_ok A c old B d l mid w c1 q1 h1 q2 (deltaCheck_ok.2 d1))
  have K3 : Hid (∀ D e w, (applied old l).length ≤ e → Bts w D (applied old l) → Sps w E m → Calls Try.prog 15 #[.slice D (applied old l).length e, .slice E m.length f, iv size] w (ByRet2 w (applied (applied old l) m) 0)) := fun D e w q1 q2 q3 =>
    deltaApply_ok D e (applied old l) E f m size w q1 q2 h2 q3 (by rw [hlen]; exact deltaCheck_ok.2 d2)
  have K4 : Hid (∀ X xc w, Bts w A old → Sps w X (composeGo l m []) → Calls Try.prog 15 #[.slice A old.length c, .slice X (composeGo l m []).length xc, iv size] w (ByRet2 w (applied (applied old l) m) 0)) := fun X xc w q1 q2 => by
    have := deltaApply_ok A c old X xc (composeGo l m []) size w c1 q1 (by have := d3.many; omega) q2 (deltaCheck_ok.2 d3)
    rwa [hmk] at this
  have K0 := Lib.hid composed_calls
  have R1 := Lib.hid r1
  have HS := Lib.hid hs
  have HT := Lib.hid ht
  clear h hx hmk hlen d1 d2 d3 r1 hs ht
  generalize composeGo l m [] = x at *
  generalize applied (applied old l) m = z at *
  generalize applied old l = y at *
  go_enter Try.func6, Try.ntmps6
  go_wp2_with fail
  refine HI.out.mono ?_
  rintro e0 w1 ⟨rfl, rfl⟩
  go_wp2_with fail
  refine (K1.out _ HS.out HT.out).mono ?_
  rintro e0 w1 ⟨X, xc, rfl, hs1, hxc, hb1⟩
  have HB1 := Lib.hid hb1
  have HS1 := Lib.hid hs1
  clear hb1 hs1
  go_wp2_with fail
  refine (K0.out _).mono ?_
  rintro e0 w2 ⟨rfl, hb2⟩
  have HB2 : Hid (Below W.heap.size W w2) := Lib.hid (HB1.out.trans (hb2.mono HB1.out.size))
  have HS2 := Lib.hid (HS1.out.stays hb2)
  clear hb2
  go_wp2_with fail
  refine (K2.out _ (R1.out.stays HB2.out) (HS.out.stays HB2.out)).mono ?_
  rintro e0 w3 ⟨Y, yc, rfl, hs3, hyc, hb3⟩
  have HB3 : Hid (Below W.heap.size W w3) := Lib.hid (HB2.out.trans (hb3.mono HB2.out.size))
  have HS3 := Lib.hid (HS2.out.stays hb3)
  have HY3 := Lib.hid hs3
  clear hb3 hs3
  go_wp2_with fail
  refine (K3.out _ _ _ hyc HY3.out (HT.out.stays HB3.out)).mono ?_
  rintro e0 w4 ⟨Z, zc, rfl, hs4, hzc, hb4⟩
  have HB4 : Hid (Below W.heap.size W w4) := Lib.hid (HB3.out.trans (hb4.mono HB3.out.size))
  have HS4 := Lib.hid (HS3.out.stays hb4)
  have HZ4 := Lib.hid hs4
  clear hb4 hs4
  go_wp2_with fail
  refine (K4.out _ _ _ (R1.out.stays HB4.out) HS4.out).mono ?_
  rintro e0 w5 ⟨V, vc, rfl, hs5, hvc, hb5⟩
  have HB5 : Hid (Below W.heap.size W w5) := Lib.hid (HB4.out.trans (hb5.mono HB4.out.size))
  have HE5 := Lib.hid (bytesEqual_calls Z V zc vc z z w5 hzc hvc (HZ4.out.stays hb5) hs5)
  clear hb5 hs5
  go_wp2_with fail
  refine HE5.out.mono ?_
  rintro e0 w6 ⟨rfl, rfl⟩
  go_wp2_with fail
  go_ret
  exact ⟨rfl, HB5.out⟩
theorem ComposeMakes_walk (W : World) (v0 v1 v2 v3 v4 : Value) (old0 : List UInt8) (l m : List Stp) (mid size : Int) (g0 : ArgBytes W v0 old0) (g1 : ArgOps W v1 l) (g2 : ArgOps W v2 m) (g3 : ArgInt v3 mid) (g4 : ArgInt v4 size) :
    Calls Try.prog 6 #[v0, v1, v2, v3, v4] W (RetB W (.bool true)) := by
  obtain ⟨A, c, rfl, hc, hl, hr⟩ := g0
  obtain ⟨B, d, rfl, hd, h1, hs⟩ := g1
  obtain ⟨E, f, rfl, hf, h2, ht⟩ := g2
  obtain ⟨rfl, -, -⟩ := g3
  obtain ⟨rfl, -, -⟩ := g4
  by_cases h : (composeOf l m (img old0).length mid size).2 = 0
  · exact composeMakes_ok A c old0 B E d f l m mid size W hc hl h1 h2 hr hs ht h
  · exact composeMakes_bad A c old0 B E d f l m mid size W hc hl h1 h2 hs ht h
end Go.Proofs.Ytefkfglkpebbmab
