/- The walk of the law RouteSays. Printed by gen_routesays.py. No conditions. -/
import Derived.Test.YtefkfglkpebbmaaBestWay
namespace Go.Proofs.Ytefkfglkpebbmaa
open Go.RowKit
set_option linter.unusedVariables false
set_option linter.unusedSimpArgs false

set_option maxRecDepth 100000 in
set_option maxHeartbeats 8000000 in
theorem RouteSays_walk (W : World) (v0 v1 v2 : Value) (l : List Edg) (f t : Int) (g0 : ArgEdges W v0 l) (g1 : ArgInt v1 f) (g2 : ArgInt v2 t) :
    Calls Try.prog 10 #[v0, v1, v2] W (RetB W (.bool true)) := by
  obtain ⟨A, c, rfl, hc, hl, hr, -⟩ := g0
  obtain ⟨rfl, hf1, hf2⟩ := g1
  obtain ⟨rfl, ht1, ht2⟩ := g2
  clear hf1 hf2 ht1 ht2
  have HR := Lib.hid hr
  clear hr
  have h1 := fun w hr => best_calls A c l f t w hl hr
  have he := fun w hr => refEdges_calls A c l w hl hr
  have hcc := fun w hr => routeCheck_calls A c l w hl hr
  by_cases hch : routeCheck l = 0
  · rw [hch] at he hcc
    have HE := Lib.hid he
    have HC := Lib.hid hcc
    clear he hcc
    by_cases hft : (1 ≤ f ∧ f ≤ 30) ∧ (1 ≤ t ∧ t ≤ 30)
    · rw [says_ok hch hft.1 hft.2] at h1
      obtain ⟨⟨f1, f2⟩, t1, t2⟩ := hft
      obtain ⟨nf, rfl⟩ := Int.eq_ofNat_of_zero_le (show 0 ≤ f by omega)
      obtain ⟨nt, rfl⟩ := Int.eq_ofNat_of_zero_le (show 0 ≤ t by omega)
      have hw := fun w hr => bestWay_calls A c l nf nt w hr hch (by omega) (by omega) (by omega) (by omega)
      have hok := (routeCheck_zero hch).2
      have hto := bestOf_told hok (s := (nf : Int)) ⟨f1, f2⟩ (nt : Int)
      have h30 := best_len hok (f := (nf : Int)) ⟨f1, f2⟩ (nt : Int)
      generalize bestOf l nf nt = U at *
      by_cases hU : U.at_ = []
      · have e1 := (hto.2 hU).1
        subst e1
        have hw' : ∀ w, Eds w A l → Calls Try.prog 43 #[.slice A l.length c, iv nf, iv nt] w (BwRet w Way.none false) := fun w hr => hw w hr
        have h1' : ∀ w, Eds w A l → Calls Try.prog 39 #[.slice A l.length c, iv nf, iv nt] w (WayRet w Way.none 4) := fun w hr => h1 w hr
        have H1 := Lib.hid h1'
        have HW := Lib.hid hw'
        clear h1 h1' hw hw' hto hU hok hch h30
        go_enter Try.func10, Try.ntmps10
        go_wp2_with fail
        refine (H1.out _ HR.out).mono ?_
        rintro e w1 ⟨A1, c1, rfl, hn1, hl1, hb1⟩
        have HB1 := Lib.hid hb1
        have HN1 := Lib.hid hn1
        clear hb1 hn1
        go_wp2_with fail
        refine (HE.out _ (HR.out.stays HB1.out)).mono ?_
        rintro e w2 ⟨rfl, hb2⟩
        have HB2 : Hid (Below W.heap.size W w2) := Lib.hid (HB1.out.trans (hb2.mono HB1.out.size))
        have HN1 := Lib.hid (HN1.out.stays hb2)
        clear hb2
        go_wp2_with fail
        refine (routed_calls _).mono ?_
        rintro e w3 ⟨rfl, hb3⟩
        have HB3 : Hid (Below W.heap.size W w3) := Lib.hid (HB2.out.trans (hb3.mono HB2.out.size))
        have HN1 := Lib.hid (HN1.out.stays hb3)
        clear hb3
        go_wp2_with fail
        refine (HC.out _ (HR.out.stays HB3.out)).mono ?_
        rintro e w4 ⟨rfl, hb4⟩
        have HB4 : Hid (Below W.heap.size W w4) := Lib.hid (HB3.out.trans (hb4.mono HB3.out.size))
        have HN1 := Lib.hid (HN1.out.stays hb4)
        clear hb4
        go_wp2_with fail
        refine (HW.out _ (HR.out.stays HB4.out)).mono ?_
        rintro e w5 ⟨A2, c2, rfl, hn5, hl5, hb5⟩
        have HB5 : Hid (Below W.heap.size W w5) := Lib.hid (HB4.out.trans (hb5.mono HB4.out.size))
        clear hb5 hn5 hl5
        have e1 : ((Way.none.at_.length : Int) == 0) = true := rfl
        have e2 : (Way.none.cost == 0) = true := rfl
        go_wp2_with fail
        go_ret
        exact ⟨rfl, HB5.out⟩
      · have hw' : ∀ w, Eds w A l → Calls Try.prog 43 #[.slice A l.length c, iv nf, iv nt] w (BwRet w U true) := fun w hr => by
          have := hw w hr
          rwa [decide_eq_true hU] at this
        have h1' : ∀ w, Eds w A l → Calls Try.prog 39 #[.slice A l.length c, iv nf, iv nt] w (WayRet w U 0) := fun w hr => by
          have := h1 w hr
          rw [if_neg hU] at this
          exact this
        have H1 := Lib.hid h1'
        have HW := Lib.hid hw'
        clear h1 h1' hw hw' hto hU hok hch
        go_enter Try.func10, Try.ntmps10
        go_wp2_with fail
        refine (H1.out _ HR.out).mono ?_
        rintro e w1 ⟨A1, c1, rfl, hn1, hl1, hb1⟩
        have HB1 := Lib.hid hb1
        have HN1 := Lib.hid hn1
        clear hb1 hn1
        go_wp2_with fail
        refine (HE.out _ (HR.out.stays HB1.out)).mono ?_
        rintro e w2 ⟨rfl, hb2⟩
        have HB2 : Hid (Below W.heap.size W w2) := Lib.hid (HB1.out.trans (hb2.mono HB1.out.size))
        have HN1 := Lib.hid (HN1.out.stays hb2)
        clear hb2
        go_wp2_with fail
        refine (routed_calls _).mono ?_
        rintro e w3 ⟨rfl, hb3⟩
        have HB3 : Hid (Below W.heap.size W w3) := Lib.hid (HB2.out.trans (hb3.mono HB2.out.size))
        have HN1 := Lib.hid (HN1.out.stays hb3)
        clear hb3
        go_wp2_with fail
        refine (HC.out _ (HR.out.stays HB3.out)).mono ?_
        rintro e w4 ⟨rfl, hb4⟩
        have HB4 : Hid (Below W.heap.size W w4) := Lib.hid (HB3.out.trans (hb4.mono HB3.out.size))
        have HN1 := Lib.hid (HN1.out.stays hb4)
        clear hb4
        go_wp2_with fail
        refine (HW.out _ (HR.out.stays HB4.out)).mono ?_
        rintro e w5 ⟨A2, c2, rfl, hn5, hl5, hb5⟩
        have HB5 : Hid (Below W.heap.size W w5) := Lib.hid (HB4.out.trans (hb5.mono HB4.out.size))
        have HN1 := Lib.hid (HN1.out.stays hb5)
        have HN5 := Lib.hid hn5
        clear hb5 hn5 hl5
        go_wp2_with fail
        refine (equalInts_calls A1 A2 c1 c2 U.at_ U.at_ _ (by omega) (by omega) HN1.out HN5.out).mono ?_
        rintro e w6 ⟨rfl, n6, rfl⟩
        go_wp2_with fail
        go_ret
        exact ⟨rfl, Below.drewN' HB5.out n6⟩
    · have e : bestSays l f t = (Way.none, 2) := by unfold bestSays; rw [if_neg (by simp [hch]), if_pos hft]
      rw [e] at h1
      have H1 := Lib.hid h1
      have e1 : ((Way.none.at_.length : Int) == 0) = true := rfl
      have e2 : (Way.none.cost == 0) = true := rfl
      clear h1 e hch
      by_cases q1 : f < 1
      · clear hft
        go_enter Try.func10, Try.ntmps10
        go_wp2_with fail
        refine (H1.out _ HR.out).mono ?_
        rintro e w1 ⟨A1, c1, rfl, hn1, hl1, hb1⟩
        have HB1 := Lib.hid hb1
        have HN1 := Lib.hid hn1
        clear hb1 hn1
        go_wp2_with fail
        refine (HE.out _ (HR.out.stays HB1.out)).mono ?_
        rintro e w2 ⟨rfl, hb2⟩
        have HB2 : Hid (Below W.heap.size W w2) := Lib.hid (HB1.out.trans (hb2.mono HB1.out.size))
        have HN1 := Lib.hid (HN1.out.stays hb2)
        clear hb2
        go_wp2_with fail
        refine (routed_calls _).mono ?_
        rintro e w3 ⟨rfl, hb3⟩
        have HB3 : Hid (Below W.heap.size W w3) := Lib.hid (HB2.out.trans (hb3.mono HB2.out.size))
        have HN1 := Lib.hid (HN1.out.stays hb3)
        clear hb3
        go_wp2_with fail
        refine (HC.out _ (HR.out.stays HB3.out)).mono ?_
        rintro e w4 ⟨rfl, hb4⟩
        have HB4 : Hid (Below W.heap.size W w4) := Lib.hid (HB3.out.trans (hb4.mono HB3.out.size))
        have HN1 := Lib.hid (HN1.out.stays hb4)
        clear hb4
        go_wp2_with fail
        go_ret
        exact ⟨rfl, HB4.out⟩
      by_cases q2 : 30 < f
      · clear hft
        go_enter Try.func10, Try.ntmps10
        go_wp2_with fail
        refine (H1.out _ HR.out).mono ?_
        rintro e w1 ⟨A1, c1, rfl, hn1, hl1, hb1⟩
        have HB1 := Lib.hid hb1
        have HN1 := Lib.hid hn1
        clear hb1 hn1
        go_wp2_with fail
        refine (HE.out _ (HR.out.stays HB1.out)).mono ?_
        rintro e w2 ⟨rfl, hb2⟩
        have HB2 : Hid (Below W.heap.size W w2) := Lib.hid (HB1.out.trans (hb2.mono HB1.out.size))
        have HN1 := Lib.hid (HN1.out.stays hb2)
        clear hb2
        go_wp2_with fail
        refine (routed_calls _).mono ?_
        rintro e w3 ⟨rfl, hb3⟩
        have HB3 : Hid (Below W.heap.size W w3) := Lib.hid (HB2.out.trans (hb3.mono HB2.out.size))
        have HN1 := Lib.hid (HN1.out.stays hb3)
        clear hb3
        go_wp2_with fail
        refine (HC.out _ (HR.out.stays HB3.out)).mono ?_
        rintro e w4 ⟨rfl, hb4⟩
        have HB4 : Hid (Below W.heap.size W w4) := Lib.hid (HB3.out.trans (hb4.mono HB3.out.size))
        have HN1 := Lib.hid (HN1.out.stays hb4)
        clear hb4
        go_wp2_with fail
        go_ret
        exact ⟨rfl, HB4.out⟩
      by_cases q3 : t < 1
      · clear hft
        go_enter Try.func10, Try.ntmps10
        go_wp2_with fail
        refine (H1.out _ HR.out).mono ?_
        rintro e w1 ⟨A1, c1, rfl, hn1, hl1, hb1⟩
        have HB1 := Lib.hid hb1
        have HN1 := Lib.hid hn1
        clear hb1 hn1
        go_wp2_with fail
        refine (HE.out _ (HR.out.stays HB1.out)).mono ?_
        rintro e w2 ⟨rfl, hb2⟩
        have HB2 : Hid (Below W.heap.size W w2) := Lib.hid (HB1.out.trans (hb2.mono HB1.out.size))
        have HN1 := Lib.hid (HN1.out.stays hb2)
        clear hb2
        go_wp2_with fail
        refine (routed_calls _).mono ?_
        rintro e w3 ⟨rfl, hb3⟩
        have HB3 : Hid (Below W.heap.size W w3) := Lib.hid (HB2.out.trans (hb3.mono HB2.out.size))
        have HN1 := Lib.hid (HN1.out.stays hb3)
        clear hb3
        go_wp2_with fail
        refine (HC.out _ (HR.out.stays HB3.out)).mono ?_
        rintro e w4 ⟨rfl, hb4⟩
        have HB4 : Hid (Below W.heap.size W w4) := Lib.hid (HB3.out.trans (hb4.mono HB3.out.size))
        have HN1 := Lib.hid (HN1.out.stays hb4)
        clear hb4
        go_wp2_with fail
        go_ret
        exact ⟨rfl, HB4.out⟩
      have q4 : 30 < t := by omega
      clear hft
      go_enter Try.func10, Try.ntmps10
      go_wp2_with fail
      refine (H1.out _ HR.out).mono ?_
      rintro e w1 ⟨A1, c1, rfl, hn1, hl1, hb1⟩
      have HB1 := Lib.hid hb1
      have HN1 := Lib.hid hn1
      clear hb1 hn1
      go_wp2_with fail
      refine (HE.out _ (HR.out.stays HB1.out)).mono ?_
      rintro e w2 ⟨rfl, hb2⟩
      have HB2 : Hid (Below W.heap.size W w2) := Lib.hid (HB1.out.trans (hb2.mono HB1.out.size))
      have HN1 := Lib.hid (HN1.out.stays hb2)
      clear hb2
      go_wp2_with fail
      refine (routed_calls _).mono ?_
      rintro e w3 ⟨rfl, hb3⟩
      have HB3 : Hid (Below W.heap.size W w3) := Lib.hid (HB2.out.trans (hb3.mono HB2.out.size))
      have HN1 := Lib.hid (HN1.out.stays hb3)
      clear hb3
      go_wp2_with fail
      refine (HC.out _ (HR.out.stays HB3.out)).mono ?_
      rintro e w4 ⟨rfl, hb4⟩
      have HB4 : Hid (Below W.heap.size W w4) := Lib.hid (HB3.out.trans (hb4.mono HB3.out.size))
      have HN1 := Lib.hid (HN1.out.stays hb4)
      clear hb4
      go_wp2_with fail
      go_ret
      exact ⟨rfl, HB4.out⟩
  · have e : bestSays l f t = (Way.none, routeCheck l) := by unfold bestSays; rw [if_pos hch]
    rw [e] at h1
    have hz : (routeCheck l != 0) = true := by simp [hch]
    have hz2 : (routeCheck l == 0) = false := by simp [hch]
    have H1 := Lib.hid h1
    have HE := Lib.hid he
    have HC := Lib.hid hcc
    have e1 : ((Way.none.at_.length : Int) == 0) = true := rfl
    have e2 : (Way.none.cost == 0) = true := rfl
    clear h1 he hcc e hch
    generalize routeCheck l = rc at *
    go_enter Try.func10, Try.ntmps10
    go_wp2_with fail
    refine (H1.out _ HR.out).mono ?_
    rintro e w1 ⟨A1, c1, rfl, hn1, hl1, hb1⟩
    have HB1 := Lib.hid hb1
    have HN1 := Lib.hid hn1
    clear hb1 hn1
    go_wp2_with fail
    refine (HE.out _ (HR.out.stays HB1.out)).mono ?_
    rintro e w2 ⟨rfl, hb2⟩
    have HB2 : Hid (Below W.heap.size W w2) := Lib.hid (HB1.out.trans (hb2.mono HB1.out.size))
    have HN1 := Lib.hid (HN1.out.stays hb2)
    clear hb2
    go_wp2_with fail
    refine (routed_calls _).mono ?_
    rintro e w3 ⟨rfl, hb3⟩
    have HB3 : Hid (Below W.heap.size W w3) := Lib.hid (HB2.out.trans (hb3.mono HB2.out.size))
    have HN1 := Lib.hid (HN1.out.stays hb3)
    clear hb3
    go_wp2_with fail
    refine (HC.out _ (HR.out.stays HB3.out)).mono ?_
    rintro e w4 ⟨rfl, hb4⟩
    have HB4 : Hid (Below W.heap.size W w4) := Lib.hid (HB3.out.trans (hb4.mono HB3.out.size))
    have HN1 := Lib.hid (HN1.out.stays hb4)
    clear hb4
    go_wp2_with fail
    go_ret
    exact ⟨rfl, HB4.out⟩
end Go.Proofs.Ytefkfglkpebbmaa
