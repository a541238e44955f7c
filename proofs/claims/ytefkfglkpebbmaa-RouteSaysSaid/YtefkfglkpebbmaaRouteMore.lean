/- The walk of the law RouteMore. No conditions. -/
import Derived.Test.YtefkfglkpebbmaaRevEdges
import Derived.Test.YtefkfglkpebbmaaAux
import Derived.Test.YtefkfglkpebbmaaArgs
namespace Go.Proofs.Ytefkfglkpebbmaa
open Go.RowKit
set_option linter.unusedVariables false
set_option linter.unusedSimpArgs false

theorem check_mem {l k : List Edg} (h : routeCheck l = 0) (hl : k.length ≤ l.length) (hk : ∀ x ∈ k, x ∈ l) : routeCheck k = 0 := by
  obtain ⟨h1, h2⟩ := routeCheck_zero h
  exact routeCheck_ok (by omega) (fun x hx => h2 x (hk x hx))
theorem best_same {l k : List Edg} (hl : ∀ x ∈ l, EdgOk x) (h : ∀ x, x ∈ k ↔ x ∈ l) {f : Int} (hf : 1 ≤ f ∧ f ≤ 30) (t : Int) : bestOf k f t = bestOf l f t := by
  have h1 := bestOf_told (l := k) (fun x hx => hl x ((h x).1 hx)) hf t
  exact (h1.same h).unique (bestOf_told hl hf t)
theorem best_more {l k : List Edg} (hl : ∀ x ∈ l, EdgOk x) (h : ∀ x ∈ k, x ∈ l) {f : Int} (hf : 1 ≤ f ∧ f ≤ 30) (t : Int) (e : (bestOf k f t).at_ ≠ []) : (bestOf l f t).at_ ≠ [] ∧ (bestOf l f t).cost ≤ (bestOf k f t).cost := by
  have h1 := (bestOf_told (l := k) (fun x hx => hl x (h x hx)) hf t).1 e
  have h2 := bestOf_told hl hf t
  have hw := h1.1.mono h
  by_cases g : (bestOf l f t).at_ = []
  · exact absurd hw ((h2.2 g).2 _)
  · exact ⟨g, (h2.1 g).le hw⟩
theorem best_len {l : List Edg} (hl : ∀ x ∈ l, EdgOk x) {f : Int} (hf : 1 ≤ f ∧ f ≤ 30) (t : Int) : (bestOf l f t).at_.length ≤ 30 := by
  have h := bestOf_told hl hf t
  by_cases e : (bestOf l f t).at_ = []
  · rw [e]; simp
  · rcases best_or_not hl hf t with ⟨w, hw, h30⟩ | hno
    · have := (h.1 e).unique hw
      rw [this]; exact h30
    · exact absurd (h.1 e).1 (hno _)
/-- A number brought among the versions. -/
theorem ver_of (k : Int) : ∃ n : Nat, k % 30 = n ∧ n < 30 := by
  have h1 := Int.emod_nonneg k (show (30 : Int) ≠ 0 by omega)
  have h2 := Int.emod_lt_of_pos k (show 0 < (30 : Int) by omega)
  exact ⟨(k % 30).toNat, by omega, by omega⟩
set_option maxRecDepth 100000 in
set_option maxHeartbeats 4000000 in
theorem RouteMore_walk (W : World) (v0 v1 v2 v3 : Value) (l : List Edg) (f0 t0 k0 : Int) (g0 : ArgEdges W v0 l) (g1 : ArgInt v1 f0) (g2 : ArgInt v2 t0) (g3 : ArgInt v3 k0) :
    Calls Try.prog 12 #[v0, v1, v2, v3] W (RetB W (.bool true)) := by
  obtain ⟨A, c, rfl, hc, hl, hr, -⟩ := g0
  obtain ⟨rfl, hf1, hf2⟩ := g1
  obtain ⟨rfl, ht1, ht2⟩ := g2
  obtain ⟨rfl, hk1, hk2⟩ := g3
  have a1 := fun w => at_calls f0 30 w hf1 hf2 (by omega) (by omega)
  have a2 := fun w => at_calls t0 30 w ht1 ht2 (by omega) (by omega)
  obtain ⟨F, hF, hF2⟩ := ver_of f0
  obtain ⟨T, hT, hT2⟩ := ver_of t0
  rw [hF] at a1
  rw [hT] at a2
  have HA1 := Lib.hid a1
  have HA2 := Lib.hid a2
  clear a1 a2 hF hT hf1 hf2 ht1 ht2
  have HR := Lib.hid hr
  clear hr
  by_cases hch : routeCheck l = 0
  · have hsm : l.length ≤ 60 := by
      have h9 := hch
      unfold routeCheck at h9
      split at h9 <;> omega
    have a3 := fun w => at_calls k0 ((l.length : Int) + 1) w hk1 hk2 (by omega) (by omega)
    obtain ⟨k, hk⟩ : ∃ k : Nat, k0 % ((l.length : Int) + 1) = k := ⟨(k0 % ((l.length : Int) + 1)).toNat, by have := Int.emod_nonneg k0 (show (l.length : Int) + 1 ≠ 0 by omega); omega⟩
    have hkb : k ≤ l.length := by have := Int.emod_lt_of_pos k0 (show 0 < (l.length : Int) + 1 by omega); omega
    rw [hk] at a3
    have HA3 := Lib.hid a3
    obtain ⟨h60, hok⟩ := routeCheck_zero hch
    have fr : 1 ≤ 1 + (F : Int) ∧ 1 + (F : Int) ≤ 30 := by omega
    have tr : 1 ≤ 1 + (T : Int) ∧ 1 + (T : Int) ≤ 30 := by omega
    have hck := check_mem (k := l.take k) hch (by rw [List.length_take]; omega) (fun x hx => List.mem_of_mem_take hx)
    have b1 := fun w hr => best_calls A c (l.take k) (1 + F) (1 + T) w (by rw [List.length_take]; omega) hr
    have b2 := fun w hr => best_calls A c l (1 + F) (1 + T) w hl hr
    have b3 := fun B d ys w (hp : ys.Perm l) hr => best_calls B d ys (1 + F) (1 + T) w (by rw [hp.length_eq]; exact hl) hr
    have hsame : ∀ ys, ys.Perm l → bestSays ys (1 + F) (1 + T) = bestSays l (1 + F) (1 + T) := fun ys hp => by
      rw [says_ok hch fr tr, says_ok (check_mem hch (by rw [hp.length_eq]; exact Nat.le_refl _) (fun x hx => hp.mem_iff.1 hx)) fr tr, best_same hok (fun x => hp.mem_iff) fr]
    have hmore := fun e => best_more hok (k := l.take k) (fun x hx => List.mem_of_mem_take hx) fr (1 + (T : Int)) e
    have hlk : (l.take k).length = k := by rw [List.length_take]; omega
    rw [hlk, says_ok hck fr tr] at b1
    have b3' : ∀ (B : Option Addr) (d : Nat) (ys : List Edg) (w : World), ys.Perm l → Eds w B ys → Calls Try.prog 39 #[.slice B l.length d, iv (1 + F), iv (1 + T)] w (WayRet w (bestSays l (1 + F) (1 + T)).1 (bestSays l (1 + F) (1 + T)).2) := fun B d ys w hp hr => by
      have := b3 B d ys w hp hr
      rwa [hsame ys hp, hp.length_eq] at this
    rw [says_ok hch fr tr] at b2 b3'
    have hcc := fun w hr => routeCheck_calls A c l w hl hr
    rw [hch] at hcc
    have hlen2 := best_len hok fr (1 + (T : Int))
    generalize bestOf (l.take k) (1 + F) (1 + T) = u1 at *
    generalize bestOf l (1 + F) (1 + T) = u2 at *
    dsimp only at b1 b2 b3'
    have hn : ∃ n1 n2 : Int, (if u1.at_ = [] then (4 : Int) else 0) = n1 ∧ (if u2.at_ = [] then (4 : Int) else 0) = n2 ∧ ((n1 = 4 ∧ u1.at_ = []) ∨ (n1 = 0 ∧ n2 = 0 ∧ u2.cost ≤ u1.cost)) := by
      refine ⟨_, _, rfl, rfl, ?_⟩
      by_cases e : u1.at_ = []
      · exact .inl ⟨if_pos e, e⟩
      · obtain ⟨h1, h2⟩ := hmore e
        exact .inr ⟨if_neg e, if_neg h1, h2⟩
    obtain ⟨n1, n2, hn1, hn2, hn3⟩ := hn
    rw [hn1] at b1
    rw [hn2] at b2
    simp only [hn2] at b3'
    have HN := Lib.hid hn3
    clear hn1 hn2 hn3
    have H1 := Lib.hid b1
    have H2 := Lib.hid b2
    have H3 := Lib.hid b3'
    have HC := Lib.hid hcc
    have HM := Lib.hid hmore
    have HRT := Lib.hid (HR.out.take k)
    have HRV := Lib.hid (fun base A c w ho hb => revEdges_calls base A c l w hl ho hb)
    clear a3 hk hch h60 hok fr tr hck b1 b2 b3 hsame hmore b3' hcc hk1 hk2 hlk
    go_enter Try.func12, Try.ntmps12
    go_wp2_with fail
    refine (HA1.out _).mono ?_
    rintro e w1 ⟨rfl, rfl⟩
    go_wp2_with fail
    refine (HA2.out _).mono ?_
    rintro e w1 ⟨rfl, rfl⟩
    go_wp2_with fail
    refine (routed_calls _).mono ?_
    rintro e w1 ⟨rfl, hb1⟩
    have HB1 := Lib.hid hb1
    clear hb1
    go_wp2_with fail
    refine (HC.out _ (HR.out.stays HB1.out)).mono ?_
    rintro e w2 ⟨rfl, hb2⟩
    have HB2 : Hid (Below W.heap.size W w2) := Lib.hid (HB1.out.trans (hb2.mono HB1.out.size))
    clear hb2
    go_wp2_with fail
    refine (HA3.out _).mono ?_
    rintro e w3 ⟨rfl, rfl⟩
    go_wp2_with fail
    refine (H1.out _ (HRT.out.stays HB2.out)).mono ?_
    rintro e w3 ⟨A1, c1, rfl, hn1, hl1, hb3⟩
    have HB3 : Hid (Below W.heap.size W w3) := Lib.hid (HB2.out.trans (hb3.mono HB2.out.size))
    clear hb3 hn1 hl1
    go_wp2_with fail
    refine (H2.out _ (HR.out.stays HB3.out)).mono ?_
    rintro e w4 ⟨A2, c2, rfl, hn2, hl2, hb4⟩
    have HB4 : Hid (Below W.heap.size W w4) := Lib.hid (HB3.out.trans (hb4.mono HB3.out.size))
    have HN2 := Lib.hid hn2
    clear hb4 hl2 hn2
    go_wp2_with fail
    refine (cloneEdges_calls A l.length c (edgs l) _ (edgs_len l) (by omega) (eds_src (HR.out.stays HB4.out)) (edgs_one l)).mono ?_
    rintro e w5 ⟨A3, c3, rfl, ho5, hb5⟩
    have HB5 : Hid (Below W.heap.size W w5) := Lib.hid (HB4.out.trans (hb5.mono HB4.out.size))
    have HB45 := Lib.hid hb5
    have HO5 := Lib.hid ho5
    have hs45 := hb5.size
    have hs4 := HB4.out.size
    clear ho5 hb5
    go_wp2_with fail
    refine (HRV.out _ A3 c3 _ HO5.out hs45).mono ?_
    rintro e w6 ⟨ys, rfl, hp6, ho6, hb6⟩
    have HB6 : Hid (Below W.heap.size W w6) := Lib.hid (HB5.out.trans (hb6.mono hs4))
    have HE6 : Hid (Eds w6 A3 ys) := Lib.hid (own_eds ho6)
    have HP6 := Lib.hid hp6
    have HN2 := Lib.hid (HN2.out.stays (HB45.out.trans hb6))
    clear hp6 ho6 hb6
    go_wp2_with fail
    refine (H3.out A3 c3 ys _ HP6.out HE6.out).mono ?_
    rintro e w7 ⟨A4, c4, rfl, hn4, hl4, hb7⟩
    have HB7 : Hid (Below W.heap.size W w7) := Lib.hid (HB6.out.trans (hb7.mono HB6.out.size))
    have HN2 := Lib.hid (HN2.out.stays hb7)
    have HN4 := Lib.hid hn4
    clear hb7 hn4 hl4
    go_wp2_with fail
    refine (equalInts_calls A2 A4 c2 c4 u2.at_ u2.at_ _ (by omega) (by omega) HN2.out HN4.out).mono ?_
    rintro e w8 ⟨rfl, n8, rfl⟩
    rcases HN.out with ⟨rfl, e1⟩ | ⟨rfl, rfl, e1⟩
    · have e2 : ((u1.at_.length : Int) == 0) = true := by simp [e1]
      clear e1 HN
      go_wp2_with fail
      go_ret
      exact ⟨rfl, Below.drewN' HB7.out n8⟩
    · clear HN
      go_wp2_with fail
      go_ret
      exact ⟨rfl, Below.drewN' HB7.out n8⟩
  · have hc0 := fun w hr => routeCheck_calls A c l w hl hr
    have hz : (routeCheck l != 0) = true := by simp [hch]
    have HC := Lib.hid hc0
    clear hch hc0
    go_enter Try.func12, Try.ntmps12
    go_wp2_with fail
    refine (HA1.out _).mono ?_
    rintro e w1 ⟨rfl, rfl⟩
    go_wp2_with fail
    refine (HA2.out _).mono ?_
    rintro e w1 ⟨rfl, rfl⟩
    go_wp2_with fail
    refine (routed_calls _).mono ?_
    rintro e w1 ⟨rfl, hb1⟩
    have HB1 := Lib.hid hb1
    clear hb1
    go_wp2_with fail
    refine (HC.out _ (HR.out.stays HB1.out)).mono ?_
    rintro e w2 ⟨rfl, hb2⟩
    have HB2 : Hid (Below W.heap.size W w2) := Lib.hid (HB1.out.trans (hb2.mono HB1.out.size))
    clear hb2
    go_wp2_with fail
    refine (routed_calls _).mono ?_
    rintro e w3 ⟨rfl, hb3⟩
    go_wp2_with fail
    go_ret
    exact ⟨rfl, HB2.out.trans (hb3.mono HB2.out.size)⟩
end Go.Proofs.Ytefkfglkpebbmaa
