/- The walk of the law RouteLeast. No conditions. -/
import Derived.Test.YtefkfglkpebbmaaRouteMore
namespace Go.Proofs.Ytefkfglkpebbmaa
open Go.RowKit
set_option linter.unusedVariables false
set_option linter.unusedSimpArgs false

theorem best_bounds {l : List Edg} (hl : ∀ x ∈ l, EdgOk x) {f : Int} (hf : 1 ≤ f ∧ f ≤ 30) (t : Int) (e : (bestOf l f t).at_ ≠ []) : 0 ≤ (bestOf l f t).cost ∧ (bestOf l f t).cost ≤ 30000 := by
  obtain ⟨h1, h2⟩ := ends_still hl hf (total (St.first f) 30 + 1) (St.first f) (first_good l f) (by omega)
  by_cases g : (ends l (total (St.first f) 30 + 1) (St.first f) t).at_ = []
  · rw [told_empty hl hf h1 h2 g] at e; exact absurd rfl e
  · rw [told_ne hl hf h1 h2 g]; exact h1.cost hl hf t g
theorem says_zero {l : List Edg} {f t : Int} (h : (bestSays l f t).2 = 0) : routeCheck l = 0 ∧ (1 ≤ f ∧ f ≤ 30) ∧ (1 ≤ t ∧ t ≤ 30) ∧ (bestSays l f t).1 = bestOf l f t ∧ (bestOf l f t).at_ ≠ [] := by
  unfold bestSays at *
  by_cases h1 : routeCheck l ≠ 0
  · rw [if_pos h1] at h; exact absurd h h1
  · rw [if_neg h1] at h ⊢
    by_cases h2 : ¬ ((1 ≤ f ∧ f ≤ 30) ∧ (1 ≤ t ∧ t ≤ 30))
    · rw [if_pos h2] at h; cases h
    · rw [if_neg h2] at h ⊢
      have h2' := Decidable.not_not.1 h2
      refine ⟨by simpa using h1, h2'.1, h2'.2, rfl, fun e => ?_⟩
      dsimp only at h
      rw [if_pos e] at h; cases h
theorem says_best {l : List Edg} {f t : Int} {w : Way} (hl : ∀ x ∈ l, EdgOk x) (hc : routeCheck l = 0) (hf : 1 ≤ f ∧ f ≤ 30) (ht : 1 ≤ t ∧ t ≤ 30) (h : Best l f t w) : bestSays l f t = (w, 0) := by
  have e : bestOf l f t = w := (bestOf_told hl hf t).unique ⟨fun _ => h, fun e => absurd e h.1.ne⟩
  rw [says_ok hc hf ht, e, if_neg h.1.ne]
theorem walk_range {l : List Edg} (hl : ∀ x ∈ l, EdgOk x) {s v : Int} (hs : 1 ≤ s ∧ s ≤ 30) {w : Way} (h : Walk l s v w) : ∀ u ∈ w.at_, 1 ≤ u ∧ u ≤ 30 := by
  induction h with
  | nil => intro u hu; simp at hu; subst hu; exact hs
  | @snoc w x hw hx ih =>
    intro u hu
    simp only [Way.on, List.mem_append, List.mem_singleton] at hu
    rcases hu with hu | rfl
    · exact ih u hu
    · have := hl x hx; unfold EdgOk at this; omega
theorem least_append (l m : List Edg) (f t n : Int) : least (l ++ m) f t n = least m f t (least l f t n) := by
  induction l generalizing n with
  | nil => rfl
  | cons x l ih => simp only [List.cons_append, least]; rw [ih]
theorem least_bd : ∀ (l : List Edg) (f t n : Int), (∀ x ∈ l, EdgOk x) → 0 ≤ n ∧ n ≤ 1000 → 0 ≤ least l f t n ∧ least l f t n ≤ 1000
  | [], _, _, n, _, h => h
  | x :: l, f, t, n, hl, h => by
    unfold least
    have hx := hl x (by simp)
    unfold EdgOk at hx
    refine least_bd l f t _ (fun y hy => hl y (by simp [hy])) ?_
    split <;> omega
theorem least_snoc {l : List Edg} {k : Nat} (hk : k < l.length) (f t : Int) : least (l.take (k + 1)) f t 0 = if l[k].f = f ∧ l[k].t = t ∧ (least (l.take k) f t 0 = 0 ∨ l[k].c < least (l.take k) f t 0) then l[k].c else least (l.take k) f t 0 := by
  rw [List.take_succ_eq_append_getElem hk, least_append]; rfl
theorem legs_bd {l : List Edg} (hl : ∀ x ∈ l, EdgOk x) (a : List Int) : ∀ k : Nat, 0 ≤ legs l a k ∧ legs l a k ≤ 1000 * (k : Int)
  | 0 => by simp [legs]
  | k + 1 => by
    have h1 := legs_bd hl a k
    have h2 := least_bd l (a.getD k 0) (a.getD (k + 1) 0) 0 hl (by omega)
    unfold legs
    omega
theorem nts_take {w : World} {A : Option Addr} {l : List Int} (h : Nts w A l) (n : Nat) : Nts w A (l.take n) := by
  intro i hi
  obtain ⟨b, o, hA, hs, hc⟩ := h i (by simp only [List.length_take] at hi; omega)
  exact ⟨b, o, hA, hs, by rw [hc]; simp⟩
theorem nts_drop {w : World} {b o : Nat} {l : List Int} (h : Nts w (some ⟨b, o, none⟩) l) (k : Nat) : Nts w (some ⟨b, o + k, none⟩) (l.drop k) := by
  intro i hi
  simp only [List.length_drop] at hi
  obtain ⟨b', o', hA, hlt, hc⟩ := h (k + i) (by omega)
  injection hA with hA
  injection hA with e1 e2
  subst e1 e2
  refine ⟨b, o + k, rfl, hlt, ?_⟩
  rw [Nat.add_assoc, hc]; simp
set_option maxRecDepth 100000 in
set_option maxHeartbeats 8000000 in
theorem RouteLeast_walk (W : World) (v0 v1 v2 v3 : Value) (l : List Edg) (f0 t0 k0 : Int) (g0 : ArgEdges W v0 l) (g1 : ArgInt v1 f0) (g2 : ArgInt v2 t0) (g3 : ArgInt v3 k0) :
    Calls Try.prog 11 #[v0, v1, v2, v3] W (RetB W (.bool true)) := by
  obtain ⟨A, c, rfl, hc, hl, hr, -⟩ := g0
  obtain ⟨rfl, hf1, hf2⟩ := g1
  obtain ⟨rfl, ht1, ht2⟩ := g2
  obtain ⟨rfl, hk1, hk2⟩ := g3
  have a1 := fun w => at_calls f0 30 w hf1 hf2 (by omega) (by omega)
  have a2 := fun w => at_calls t0 30 w ht1 ht2 (by omega) (by omega)
  obtain ⟨F, hF, hF2⟩ := ver_of f0
  obtain ⟨T, hT, hT2⟩ := ver_of t0
  rw [hF] at a1
  rw [hT] at a2
  have HA1 := Lib.hid a1
  have HA2 := Lib.hid a2
  clear a1 a2 hF hT hf1 hf2 ht1 ht2
  have HR := Lib.hid hr
  clear hr
  have b1 := fun w hr => best_calls A c l (1 + F) (1 + T) w hl hr
  by_cases hz : (bestSays l (1 + F) (1 + T)).2 = 0
  · obtain ⟨hch, fr, tr, hu, hne⟩ := says_zero hz
    obtain ⟨h60, hok⟩ := routeCheck_zero hch
    have hbest := (bestOf_told hok fr (1 + (T : Int))).1 hne
    have hu30 := best_len hok fr (1 + (T : Int))
    have hub := best_bounds hok fr (1 + (T : Int)) hne
    rw [hz, hu] at b1
    have hbb := fun x w hr => best_calls A c l (1 + F) x w hl hr
    have hb2 := fun x w hr => best_calls A c l x (1 + T) w hl hr
    generalize bestOf l (1 + F) (1 + T) = u at *
    have hsum := hbest.sum hok
    have hlegs := hbest.legs hok
    obtain ⟨rh, hhead⟩ := hbest.1.head
    obtain ⟨rt, hlast⟩ := hbest.1.last
    have hrange := walk_range hok fr hbest.1
    have hlen : 1 ≤ u.at_.length := by rw [hhead]; simp
    have hat0 : u.at_[0] = 1 + (F : Int) := by simp [hhead]
    have hatl : u.at_[u.at_.length - 1] = 1 + (T : Int) := by simp [hlast]
    have H1 := Lib.hid b1
    have HBB := Lib.hid hbb
    have HB2 := Lib.hid hb2
    have HBE := Lib.hid hbest
    have HOK := Lib.hid hok
    have HSUM := Lib.hid hsum
    have HLEG := Lib.hid hlegs
    have HRG := Lib.hid hrange
    have HA0 := Lib.hid hat0
    have HAL := Lib.hid hatl
    have HCH := Lib.hid hch
    clear b1 hbb hb2 hbest hok hsum hlegs hrange hat0 hatl hz hu hne hch hhead hlast
    go_enter Try.func11, Try.ntmps11
    go_wp2_with fail
    refine (HA1.out _).mono ?_
    rintro e w1 ⟨rfl, rfl⟩
    go_wp2_with fail
    refine (HA2.out _).mono ?_
    rintro e w1 ⟨rfl, rfl⟩
    go_wp2_with fail
    refine (H1.out _ HR.out).mono ?_
    rintro e w1 ⟨A1, c1, rfl, hn1, hl1, hb1⟩
    have HB1 := Lib.hid hb1
    have HN1 := Lib.hid hn1
    clear hb1 hn1
    go_wp2_with fail
    refine (routed_calls _).mono ?_
    rintro e w2 ⟨rfl, hb2⟩
    have HN2 := Lib.hid (HN1.out.stays hb2)
    have HW2 : Hid (Below W.heap.size W w2) := Lib.hid (HB1.out.trans (hb2.mono HB1.out.size))
    clear hb2 HN1 HB1
    have hs2 := HW2.out.size
    go_wp2_with fail
    go_loopw [12, 13] (fun y i wr => ∃ j : Nat, j + 1 ≤ u.at_.length ∧ i = .int .i64 ((j : Int) + 1) ∧ y = iv (legs l u.at_ j) ∧ Hid (Below w2.heap.size w2 wr)) (fun _ i _ => u.at_.length - (intOf i).toNat)
    case atStart => exact ⟨0, hlen, rfl, rfl, Lib.hid (Below.refl _ _)⟩
    case round =>
      rename World => wo
      obtain ⟨j, hj, rfl, rfl, HB⟩ := hrel
      have hlb := legs_bd HOK.out u.at_ j
      by_cases hlt : j + 1 < u.at_.length
      · obtain ⟨b1, o1, rfl, hs1, hc1⟩ := (HN2.out.stays HB.out) j (by omega)
        have hc2 : wo.cell? ⟨b1, o1 + (j + 1), none⟩ = some (iv u.at_[j + 1]) := by
          obtain ⟨b, o, e, _, hc⟩ := (HN2.out.stays HB.out) (j + 1) hlt
          injection e with e
          injection e with e1 e2
          subst e1 e2
          exact hc
        have hleg := HLEG.out (j + 1) hlt (by omega)
        have hsu : legs l u.at_ (j + 1) = legs l u.at_ j + least l (u.at_.getD j 0) (u.at_.getD (j + 1) 0) 0 := rfl
        rw [Nat.add_sub_cancel] at hleg
        have g1 : u.at_.getD j 0 = u.at_[j] := by simp [List.getD_eq_getElem?_getD, show j < u.at_.length by omega]
        have g2 : u.at_.getD (j + 1) 0 = u.at_[j + 1] := by simp [List.getD_eq_getElem?_getD, hlt]
        rw [g1, g2] at hleg hsu
        have hr1 := HRG.out u.at_[j] (List.getElem_mem _)
        have hr2 := HRG.out u.at_[j + 1] (List.getElem_mem _)
        have HSU := Lib.hid hsu
        clear hsu g1 g2
        generalize hpf : u.at_[j] = pf at *
        generalize hpt : u.at_[j + 1] = pt at *
        clear hpf hpt
        have hb2' : b1 < wo.heap.size := hs1
        have dj : decide ((j : Int) + 1 < (u.at_.length : Int)) = true := by simp; omega
        go_wp2_with fail
        go_loopw [14, 56] (fun y i wr => ∃ k : Nat, k ≤ l.length ∧ i = .int .i64 k ∧ y = iv (least (l.take k) pf pt 0) ∧ Hid (Below wo.heap.size wo wr)) (fun _ i _ => l.length - (intOf i).toNat)
        case atStart => exact ⟨0, Nat.zero_le _, rfl, rfl, Lib.hid (Below.refl _ _)⟩
        case round =>
          rename World => wi
          have HBo := HB
          clear HB
          obtain ⟨k, hk, rfl, rfl, HB⟩ := hrel
          have hsz := HB.out.size
          have hd1 : wi.cell? ⟨b1, o1 + j, none⟩ = some (iv pf) := (HB.out.cell (p := ⟨b1, _, none⟩) hs1).trans hc1
          have hd2 : wi.cell? ⟨b1, o1 + (j + 1), none⟩ = some (iv pt) := (HB.out.cell (p := ⟨b1, _, none⟩) hs1).trans hc2
          have hb3 : b1 < wi.heap.size := by omega
          have hlbd := least_bd (l.take k) pf pt 0 (fun x hx => HOK.out x (List.mem_of_mem_take hx)) (by omega)
          by_cases hkl : k < l.length
          · obtain ⟨xb, xo, rfl, xs, xc0, xc1, xc2⟩ := HR.out.stays (HW2.out.trans ((HBo.out.trans (HB.out.mono HBo.out.size)).mono hs2)) k hkl
            have hsn := least_snoc hkl pf pt
            have hxo := HOK.out _ (List.getElem_mem hkl)
            unfold EdgOk at hxo
            have HS := Lib.hid hsn
            clear hsn hc1 hc2
            generalize l[k] = x at *
            obtain ⟨xf, xt, xc⟩ := x
            dsimp only at *
            generalize least (l.take k) pf pt 0 = z at *
            have hw1 : IntKind.i64.wrap ((j : Int) + 1 - 1) = (j : Int) := by rw [IntWalk.i64_in _ (by omega)]; omega
            by_cases c1 : xf = pf
            · subst c1
              by_cases c2 : xt = pt
              · subst c2
                by_cases c3 : z = 0
                · subst c3
                  have d1 : (xf == xf) = true := by simp
                  have d2 : (xt == xt) = true := by simp
                  have HX : Hid (least (l.take (k + 1)) xf xt 0 = xc) := Lib.hid (by rw [HS.out]; simp)
                  clear HS 
                  go_wp2_with fail
                  go_quiet (fail)
                  go_wp2_with fail
                  go_roundw
                  case rel => first | exact ⟨k + 1, by omega, by go_num, by rw [HX.out], Lib.hid (Below.drewN' (HB.out.alloc hsz _) _)⟩ | ((repeat apply Exists.intro); exact ⟨⟨k + 1, by omega, by go_num, by rw [HX.out], Lib.hid (Below.drewN' (HB.out.alloc hsz _) _)⟩, rfl⟩)
                  case measure => simp [intOf]; omega
                · have d3 : (z == 0) = false := by simp [c3]
                  have d1 : (xf == xf) = true := by simp
                  have d2 : (xt == xt) = true := by simp
                  by_cases c4 : xc < z
                  · have d4 : decide (xc < z) = true := by simp [c4]
                    have HX : Hid (least (l.take (k + 1)) xf xt 0 = xc) := Lib.hid (by rw [HS.out]; simp [c4])
                    clear HS c3
                    go_wp2_with fail
                    go_quiet (fail)
                    go_wp2_with fail
                    go_roundw
                    case rel => first | exact ⟨k + 1, by omega, by go_num, by rw [HX.out], Lib.hid (Below.drewN' (HB.out.alloc hsz _) _)⟩ | ((repeat apply Exists.intro); exact ⟨⟨k + 1, by omega, by go_num, by rw [HX.out], Lib.hid (Below.drewN' (HB.out.alloc hsz _) _)⟩, rfl⟩)
                    case measure => simp [intOf]; omega
                  · have d4 : decide (xc < z) = false := by simp [c4]
                    have HX : Hid (least (l.take (k + 1)) xf xt 0 = z) := Lib.hid (by rw [HS.out]; simp [c3, c4])
                    clear HS c3
                    go_wp2_with fail
                    go_quiet (fail)
                    go_wp2_with fail
                    go_roundw
                    case rel => first | exact ⟨k + 1, by omega, by go_num, by rw [HX.out], Lib.hid (Below.drewN' (HB.out.alloc hsz _) _)⟩ | ((repeat apply Exists.intro); exact ⟨⟨k + 1, by omega, by go_num, by rw [HX.out], Lib.hid (Below.drewN' (HB.out.alloc hsz _) _)⟩, rfl⟩)
                    case measure => simp [intOf]; omega
              · have d1 : (xf == xf) = true := by simp
                have d2 : (xt == pt) = false := by simp [c2]
                have HX : Hid (least (l.take (k + 1)) xf pt 0 = z) := Lib.hid (by rw [HS.out]; simp [c2])
                clear HS c2
                go_wp2_with fail
                go_quiet (fail)
                go_wp2_with fail
                go_roundw
                case rel => first | exact ⟨k + 1, by omega, by go_num, by rw [HX.out], Lib.hid (Below.drewN' (HB.out.alloc hsz _) _)⟩ | ((repeat apply Exists.intro); exact ⟨⟨k + 1, by omega, by go_num, by rw [HX.out], Lib.hid (Below.drewN' (HB.out.alloc hsz _) _)⟩, rfl⟩)
                case measure => simp [intOf]; omega
            · have d1 : (xf == pf) = false := by simp [c1]
              have HX : Hid (least (l.take (k + 1)) pf pt 0 = z) := Lib.hid (by rw [HS.out]; simp [c1])
              clear HS c1
              go_wp2_with fail
              go_quiet (fail)
              go_wp2_with fail
              go_roundw
              case rel => first | exact ⟨k + 1, by omega, by go_num, by rw [HX.out], Lib.hid (Below.drewN' (HB.out.alloc hsz _) _)⟩ | ((repeat apply Exists.intro); exact ⟨⟨k + 1, by omega, by go_num, by rw [HX.out], Lib.hid (Below.drewN' (HB.out.alloc hsz _) _)⟩, rfl⟩)
              case measure => simp [intOf]; omega
          · obtain rfl : k = l.length := by omega
            rw [List.take_length] at *
            have d0 : (least l pf pt 0 == 0) = false := by simp; omega
            have HB2 : Hid (Below w2.heap.size w2 wi) := Lib.hid (HBo.out.trans (HB.out.mono HBo.out.size))
            generalize least l pf pt 0 = z at *
            go_wp2_with fail
            go_roundw
            case rel => exact ⟨j + 1, by omega, by go_num, by rw [HSU.out], HB2⟩
            case measure => simp [intOf]; omega
      · obtain rfl : j = u.at_.length - 1 := by omega
        rw [HSUM.out] at *
        clear hlb HLEG HSUM
        have d1 : (u.cost != u.cost) = false := by simp
        obtain ⟨b1, o1, rfl, hs1, hc1⟩ := (HN2.out.stays HB.out) 0 (by omega)
        have hc2 : wo.cell? ⟨b1, o1 + (u.at_.length - 1), none⟩ = some (iv u.at_[u.at_.length - 1]) := by
          obtain ⟨b, o, e, _, hc⟩ := (HN2.out.stays HB.out) (u.at_.length - 1) (by omega)
          injection e with e
          injection e with e1 e2
          subst e1 e2
          exact hc
        rw [HA0.out] at hc1
        rw [HAL.out] at hc2
        simp only [Nat.add_zero] at hc1
        have d2 : ((1 : Int) + F != 1 + F) = false := by simp
        have d3 : ((1 : Int) + T != 1 + T) = false := by simp
        go_wp2_with fail
        have HBo := HB
        clear HB hc1 hc2
        go_loopw [117] (fun i wr => ∃ k : Nat, k ≤ l.length ∧ i = .int .i64 k ∧ Hid (Below w2.heap.size w2 wr)) (fun i _ => l.length - (intOf i).toNat)
        case atStart => exact ⟨0, Nat.zero_le _, rfl, HBo⟩
        case round =>
          clear HBo
          rename World => wi
          obtain ⟨k, hk, rfl, HB⟩ := hrel
          have hsz := HB.out.size
          have HWi : Hid (Below W.heap.size W wi) := Lib.hid (HW2.out.trans (HB.out.mono hs2))
          by_cases hkl : k < l.length
          · obtain ⟨xb, xo, rfl, xs, xc0, xc1, xc2⟩ := HR.out.stays HWi.out k hkl
            have hxm := List.getElem_mem hkl
            have hxo := HOK.out _ hxm
            unfold EdgOk at hxo
            generalize l[k] = x at *
            obtain ⟨xf, xt, xc⟩ := x
            dsimp only at *
            by_cases ct : xt = 1 + (T : Int)
            · subst ct
              have e1 : ((1 : Int) + T != 1 + T) = false := by simp
              have hbx := HBB.out xf
              have hcx : (bestSays l (1 + F) xf).2 = 0 → 0 ≤ (bestSays l (1 + F) xf).1.cost ∧ (bestSays l (1 + F) xf).1.cost ≤ 30000 ∧ u.cost ≤ (bestSays l (1 + F) xf).1.cost + xc := fun hz => by
                obtain ⟨q1, q2, q3, q4, q5⟩ := says_zero hz
                rw [q4]
                have q6 := best_bounds HOK.out fr xf q5
                have q7 := (bestOf_told HOK.out fr xf).1 q5
                exact ⟨q6.1, q6.2, HBE.out.edge q7.1 hxm⟩
              generalize bestSays l (1 + F) xf = p at *
              obtain ⟨v, n⟩ := p
              dsimp only at *
              have HCX := Lib.hid hcx
              have HBX := Lib.hid hbx
              clear hcx hbx hxm
              go_wp2_with fail
              have hbl : Below wi.heap.size wi (wi.alloc (.cells #[iv xf, iv (1 + T), iv xc] 74)) := (Below.refl _ _).alloc (Nat.le_refl _) _
              refine (HBX.out _ (HR.out.stays (HWi.out.trans (hbl.mono HWi.out.size)))).mono ?_
              rintro e w3 ⟨A3, c3, rfl, hn3, hl3, hb3⟩
              have HB3 : Hid (Below w2.heap.size w2 w3) := Lib.hid (HB.out.trans ((hbl.trans (hb3.mono (by simp))).mono hsz))
              have hbk := blk_below (blk_top (w := wi) (o := .cells #[iv xf, iv (1 + T), iv xc] 74) rfl) hb3
              have hc2 : w3.cell? ⟨wi.heap.size, 2, none⟩ = some (iv xc) := by rw [cell_of_row _ _ _ _ _ _ hbk]; rfl
              clear hn3 hl3 hb3 hbl hbk
              by_cases hz : n = 0
              · subst hz
                obtain ⟨q1, q2, q3⟩ := HCX.out rfl
                have e2 : ¬ v.cost + xc < u.cost := by omega
                clear q3
                go_wp2_with fail
                go_roundw
                case rel => exact ⟨k + 1, by omega, by go_num, HB3⟩
                case measure => simp [intOf]; omega
              · have e2 : (n == 0) = false := by simp [hz]
                clear hz HCX
                go_wp2_with fail
                go_roundw
                case rel => exact ⟨k + 1, by omega, by go_num, HB3⟩
                case measure => simp [intOf]; omega
            · have e1 : (xt != 1 + (T : Int)) = true := by simp [ct]
              clear ct
              go_wp2_with fail
              go_roundw
              case rel => exact ⟨k + 1, by omega, by go_num, Lib.hid (HB.out.alloc hsz _)⟩
              case measure => simp [intOf]; omega
          · clear hk
            have a3 := at_calls k0 (u.at_.length : Int) wi hk1 hk2 (by omega) (by omega)
            obtain ⟨m, hm⟩ : ∃ m : Nat, k0 % (u.at_.length : Int) = m := ⟨(k0 % (u.at_.length : Int)).toNat, by have := Int.emod_nonneg k0 (show (u.at_.length : Int) ≠ 0 by omega); omega⟩
            have hmb : m < u.at_.length := by have := Int.emod_lt_of_pos k0 (show 0 < (u.at_.length : Int) by omega); omega
            rw [hm] at a3
            obtain ⟨x, y, hbx, hby, hxy, hx, hy⟩ := HBE.out.split m hmb
            have hrm := HRG.out _ (List.getElem_mem hmb)
            have b1 := HBB.out u.at_[m]
            have b2 := HB2.out u.at_[m]
            rw [says_best HOK.out HCH.out fr hrm hbx] at b1
            rw [says_best HOK.out HCH.out hrm tr hby] at b2
            obtain ⟨b0, o0, e0, hs0, hcm⟩ := (HN2.out.stays HB.out) m hmb
            injection e0 with e0
            injection e0 with e1 e2
            subst e1 e2
            have lx : x.at_.length = m + 1 := by rw [hx, List.length_take]; omega
            have ly : y.at_.length = u.at_.length - m := by rw [hy, List.length_drop]
            have HA3 := Lib.hid a3
            have HX := Lib.hid hx
            have HY := Lib.hid hy
            have K1 := Lib.hid b1
            have K2 := Lib.hid b2
            have hcb : 0 ≤ x.cost ∧ x.cost ≤ 30000 ∧ 0 ≤ y.cost ∧ y.cost ≤ 30000 := by
              have q1 := (bestOf_told HOK.out fr u.at_[m]).unique ⟨fun _ => hbx, fun e => absurd e hbx.1.ne⟩
              have q2 := (bestOf_told HOK.out hrm (1 + (T : Int))).unique ⟨fun _ => hby, fun e => absurd e hby.1.ne⟩
              have q3 := best_bounds HOK.out fr u.at_[m] (by rw [q1]; exact hbx.1.ne)
              have q4 := best_bounds HOK.out hrm (1 + (T : Int)) (by rw [q2]; exact hby.1.ne)
              rw [q1] at q3
              rw [q2] at q4
              exact ⟨q3.1, q3.2, q4.1, q4.2⟩
            have HXY := Lib.hid hxy
            generalize u.at_[m] = am at *
            clear a3 hm hbx hby hxy hx hy b1 b2 hrm HBE
            go_wp2_with fail
            refine HA3.out.mono ?_
            rintro e w3 ⟨rfl, rfl⟩
            have HBi : Hid (Below w2.heap.size w2 wi) := HB
            go_wp2_with fail
            refine (K1.out _ (HR.out.stays HWi.out)).mono ?_
            rintro e w4 ⟨A4, c4, rfl, hn4, hl4, hb4⟩
            have HB4 := Lib.hid hb4
            have HN4 := Lib.hid hn4
            have hcm4 : w4.cell? ⟨b1, o1 + m, none⟩ = some (iv am) := (hb4.cell (p := ⟨b1, _, none⟩) hs0).trans hcm
            have hs4 : b1 < w4.heap.size := Nat.lt_of_lt_of_le hs0 hb4.size
            clear hb4 hn4 hcm
            go_wp2_with fail
            refine (K2.out _ (HR.out.stays (HWi.out.trans (HB4.out.mono HWi.out.size)))).mono ?_
            rintro e w5 ⟨A5, c5, rfl, hn5, hl5, hb5⟩
            have HB5 : Hid (Below wi.heap.size wi w5) := Lib.hid (HB4.out.trans (hb5.mono HB4.out.size))
            have HN5 := Lib.hid hn5
            have HN4 := Lib.hid (HN4.out.stays hb5)
            have HU5 : Hid (Nts w5 (some ⟨b1, o1, none⟩) u.at_) := Lib.hid (HN2.out.stays (HBi.out.trans (HB5.out.mono (HBi.out.size))))
            clear hb5 hn5 hcm4
            have e3 : ((x.cost + y.cost) == u.cost) = true := by have := HXY.out; simp; omega
            have hck : ¬ c1 = m := by omega
            have hnt : Nts w5 (some ⟨b1, o1, none⟩) x.at_ := by rw [HX.out]; exact nts_take HU5.out _
            have hnd : Nts w5 (some ⟨b1, o1 + m, none⟩) y.at_ := by rw [HY.out]; exact nts_drop HU5.out _
            have E1 := Lib.hid (equalInts_calls A4 (some ⟨b1, o1, none⟩) c4 c1 x.at_ x.at_ w5 (by omega) (by omega) HN4.out hnt)
            have E2 := Lib.hid (fun n => equalInts_calls A5 (some ⟨b1, o1 + m, none⟩) c5 (c1 - m) y.at_ y.at_ (w5.drewN n) (by omega) (by omega) (HN5.out.drewN n) (hnd.drewN n))
            rw [lx] at E1
            rw [ly] at E2
            clear hnt hnd
            go_wp2_with fail
            refine E1.out.mono ?_
            rintro e w6 ⟨rfl, n6, rfl⟩
            go_wp2_with fail
            refine (E2.out n6).mono ?_
            rintro e w6 ⟨rfl, n7, rfl⟩
            go_wp2_with fail
            go_ret
            exact ⟨rfl, Below.drewN' (HWi.out.trans (HB5.out.mono HWi.out.size)) _⟩
  · have hz' : ((bestSays l (1 + F) (1 + T)).2 != 0) = true := by simp [hz]
    have H1 := Lib.hid b1
    clear b1 hz
    generalize bestSays l (1 + F) (1 + T) = p at *
    obtain ⟨u, n⟩ := p
    dsimp only at hz'
    go_enter Try.func11, Try.ntmps11
    go_wp2_with fail
    refine (HA1.out _).mono ?_
    rintro e w1 ⟨rfl, rfl⟩
    go_wp2_with fail
    refine (HA2.out _).mono ?_
    rintro e w1 ⟨rfl, rfl⟩
    go_wp2_with fail
    refine (H1.out _ HR.out).mono ?_
    rintro e w1 ⟨A1, c1, rfl, hn1, hl1, hb1⟩
    have HB1 := Lib.hid hb1
    clear hb1 hn1 hl1
    go_wp2_with fail
    refine (routed_calls _).mono ?_
    rintro e w2 ⟨rfl, hb2⟩
    have HB2 : Hid (Below W.heap.size W w2) := Lib.hid (HB1.out.trans (hb2.mono HB1.out.size))
    clear hb2
    go_wp2_with fail
    refine (routed_calls _).mono ?_
    rintro e w3 ⟨rfl, hb3⟩
    go_wp2_with fail
    go_ret
    exact ⟨rfl, HB2.out.trans (hb3.mono HB2.out.size)⟩
end Go.Proofs.Ytefkfglkpebbmaa
