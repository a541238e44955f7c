/- The walk of the law ComposeDiffs. No conditions. -/
import Derived.Test.YtefkfglkpebbmabComposed
import Derived.Test.YtefkfglkpebbmabDeltaApply
import Derived.Test.YtefkfglkpebbmabBytesEqual
import Derived.Test.YtefkfglkpebbmabAux
namespace Go.Proofs.Ytefkfglkpebbmab
open Go.RowKit
set_option linter.unusedVariables false
set_option linter.unusedSimpArgs false

set_option maxRecDepth 100000 in
set_option maxHeartbeats 4000000 in
theorem ComposeDiffs_walk (W : World) (v0 v1 v2 : Value) (a0 b0 c0 : List UInt8) (g0 : ArgBytes W v0 a0) (g1 : ArgBytes W v1 b0) (g2 : ArgBytes W v2 c0) :
    Calls Try.prog 11 #[v0, v1, v2] W (RetB W (.bool true)) := by
  obtain ⟨A, ca, rfl, ha, hla, hra⟩ := g0
  obtain ⟨B, cb, rfl, hb, hlb, hrb⟩ := g1
  obtain ⟨C, cc, rfl, hc, hlc, hrc⟩ := g2
  have I1 := Lib.hid (fun w => lawImage_calls A ca a0 w ha hla)
  have I2 := Lib.hid (fun w => lawImage_calls B cb b0 w hb hlb)
  have I3 := Lib.hid (fun w => lawImage_calls C cc c0 w hc hlc)
  have la := img_len a0
  have lb := img_len b0
  have lc := img_len c0
  have ra := img_bts hra
  have rb := img_bts hrb
  have rc := img_bts hrc
  have ca1 : (img a0).length ≤ ca := by unfold img; rw [List.length_take]; omega
  have cc1 : (img c0).length ≤ cc := by unfold img; rw [List.length_take]; omega
  clear hra hrb hrc hla hlb hlc ha hb hc
  generalize img a0 = a at *
  generalize img b0 = b at *
  generalize img c0 = c at *
  have many1 := (diffed_ok a b la lb).many
  have many2 := (diffed_ok b c lb lc).many
  have hcases := composeOf_diffs la lb lc
  have D1 : Hid (∀ w, Bts w A a → Bts w B b → Calls Try.prog 36 #[.slice A a.length ca, .slice B b.length cb] w (OpRet2 w (diffed a b) 0)) := fun w h1 h2 => diff_calls A B ca cb a b w la lb h1 h2
  have D2 : Hid (∀ w, Bts w B b → Bts w C c → Calls Try.prog 36 #[.slice B b.length cb, .slice C c.length cc] w (OpRet2 w (diffed b c) 0)) := fun w h1 h2 => diff_calls B C cb cc b c w lb lc h1 h2
  have K1 : Hid (∀ L lc' M mc w, Sps w L (diffed a b) → Sps w M (diffed b c) → Calls Try.prog 23 #[.slice L (diffed a b).length lc', .slice M (diffed b c).length mc, iv (a.length : Int), iv (b.length : Int), iv (c.length : Int)] w (OpRet2 w (composeOf (diffed a b) (diffed b c) a.length b.length c.length).1 (composeOf (diffed a b) (diffed b c) a.length b.length c.length).2)) := fun L lc' M mc w q1 q2 =>
    composeOf_calls (d := lc') (f := mc) (by omega) q1 (by omega) q2
  have K0 := Lib.hid composed_calls
  have RA := Lib.hid ra
  have RB := Lib.hid rb
  have RC := Lib.hid rc
  clear ra rb rc
  have K2 : Hid ((composeOf (diffed a b) (diffed b c) a.length b.length c.length).2 = 0 → ∀ X xc w, Bts w A a → Sps w X (composeOf (diffed a b) (diffed b c) a.length b.length c.length).1 → Calls Try.prog 15 #[.slice A a.length ca, .slice X (composeOf (diffed a b) (diffed b c) a.length b.length c.length).1.length xc, iv (c.length : Int)] w (ByRet2 w c 0)) := fun h0 X xc w q1 q2 => by
    rcases hcases with ⟨-, hm, hok⟩ | h1
    · have := deltaApply_ok A ca a X xc _ c.length w ca1 q1 (by have := hok.many; omega) q2 (deltaCheck_ok.2 hok)
      rwa [hm] at this
    · rw [h1] at h0; cases h0
  have hc2 : (composeOf (diffed a b) (diffed b c) a.length b.length c.length).2 = 0 ∨ (composeOf (diffed a b) (diffed b c) a.length b.length c.length).2 = 1 := by
    rcases hcases with ⟨h, -, -⟩ | h
    · exact .inl h
    · exact .inr h
  have HC2 := Lib.hid hc2
  clear hcases hc2
  generalize composeOf (diffed a b) (diffed b c) a.length b.length c.length = r at *
  generalize diffed a b = l at *
  generalize diffed b c = m at *
  obtain ⟨x, e⟩ := r
  dsimp only at *
  go_enter Try.func11, Try.ntmps11
  go_wp2_with fail
  refine (I1.out _).mono ?_
  rintro e0 w1 ⟨rfl, rfl⟩
  go_wp2_with fail
  refine (I2.out _).mono ?_
  rintro e0 w1 ⟨rfl, rfl⟩
  go_wp2_with fail
  refine (I3.out _).mono ?_
  rintro e0 w1 ⟨rfl, rfl⟩
  go_wp2_with fail
  refine (D1.out _ RA.out RB.out).mono ?_
  rintro e0 w1 ⟨L, lc1, rfl, hs1, hlc, hb1⟩
  have HB1 := Lib.hid hb1
  have HS1 := Lib.hid hs1
  clear hb1 hs1
  go_wp2_with fail
  refine (D2.out _ (RB.out.stays HB1.out) (RC.out.stays HB1.out)).mono ?_
  rintro e0 w2 ⟨M, mc1, rfl, hs2, hmc, hb2⟩
  have HB2 : Hid (Below W.heap.size W w2) := Lib.hid (HB1.out.trans (hb2.mono HB1.out.size))
  have HS2 := Lib.hid (HS1.out.stays hb2)
  have HM2 := Lib.hid hs2
  clear hb2 hs2
  go_wp2_with fail
  refine (K0.out _).mono ?_
  rintro e0 w3 ⟨rfl, hb3⟩
  have HB3 : Hid (Below W.heap.size W w3) := Lib.hid (HB2.out.trans (hb3.mono HB2.out.size))
  have HS3 := Lib.hid (HS2.out.stays hb3)
  have HM3 := Lib.hid (HM2.out.stays hb3)
  clear hb3
  go_wp2_with fail
  refine (K1.out _ _ _ _ _ HS3.out HM3.out).mono ?_
  rintro e0 w4 ⟨X, xc, rfl, hs4, hxc, hb4⟩
  have HB4 : Hid (Below W.heap.size W w4) := Lib.hid (HB3.out.trans (hb4.mono HB3.out.size))
  have HS4 := Lib.hid hs4
  clear hb4 hs4
  rcases HC2.out with rfl | rfl
  · have K9 := Lib.hid (K2.out rfl)
    clear K2 HC2
    go_wp2_with fail
    refine (K9.out _ _ _ (RA.out.stays HB4.out) HS4.out).mono ?_
    rintro e0 w5 ⟨V, vc, rfl, hs5, hvc, hb5⟩
    have HB5 : Hid (Below W.heap.size W w5) := Lib.hid (HB4.out.trans (hb5.mono HB4.out.size))
    have HE5 := Lib.hid (bytesEqual_calls V C vc cc c c w5 hvc cc1 hs5 (RC.out.stays HB5.out))
    clear hb5 hs5
    go_wp2_with fail
    refine HE5.out.mono ?_
    rintro e0 w6 ⟨rfl, rfl⟩
    go_wp2_with fail
    go_ret
    exact ⟨rfl, HB5.out⟩
  · clear K2 HC2
    go_wp2_with fail
    go_ret
    exact ⟨rfl, HB4.out⟩
end Go.Proofs.Ytefkfglkpebbmab
