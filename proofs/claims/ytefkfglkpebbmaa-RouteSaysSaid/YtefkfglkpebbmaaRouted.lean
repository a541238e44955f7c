/- route.Best at whatever edges and versions; the laws' closed fact on ways. No conditions. -/
import Derived.Test.YtefkfglkpebbmaaRouteWalk
import Derived.Test.YtefkfglkpebbmaaEqInts
namespace Go.Proofs.Ytefkfglkpebbmaa
open Go.RowKit
set_option linter.unusedVariables false
set_option linter.unusedSimpArgs false

/-- What Best says: a way (none: no versions), and an error. -/
noncomputable def bestSays (l : List Edg) (f t : Int) : Way × Int :=
  if routeCheck l ≠ 0 then (Way.none, routeCheck l) else if ¬ ((1 ≤ f ∧ f ≤ 30) ∧ (1 ≤ t ∧ t ≤ 30)) then (Way.none, 2) else (bestOf l f t, if (bestOf l f t).at_ = [] then 4 else 0)
theorem says_ok {l : List Edg} {f t : Int} (h : routeCheck l = 0) (hf : 1 ≤ f ∧ f ≤ 30) (ht : 1 ≤ t ∧ t ≤ 30) : bestSays l f t = (bestOf l f t, if (bestOf l f t).at_ = [] then 4 else 0) := by
  unfold bestSays; rw [if_neg (by simp [h]), if_neg (by simp [hf, ht])]
theorem best_calls (A : Option Addr) (c : Nat) (l : List Edg) (f t : Int) (w : World) (hl : l.length ≤ 140737488351232) (hr : Eds w A l) :
    Calls Try.prog 39 #[.slice A l.length c, iv f, iv t] w (WayRet w (bestSays l f t).1 (bestSays l f t).2) := by
  by_cases h : routeCheck l = 0
  · by_cases hft : (1 ≤ f ∧ f ≤ 30) ∧ (1 ≤ t ∧ t ≤ 30)
    · rw [says_ok h hft.1 hft.2]
      obtain ⟨nf, rfl⟩ := Int.eq_ofNat_of_zero_le (show 0 ≤ f by omega)
      obtain ⟨nt, rfl⟩ := Int.eq_ofNat_of_zero_le (show 0 ≤ t by omega)
      exact best_ok A c l nf nt w hr h (by omega) (by omega) (by omega) (by omega)
    · have e : bestSays l f t = (Way.none, 2) := by unfold bestSays; rw [if_neg (by simp [h]), if_pos hft]
      rw [e]
      exact best_range A c l f t w hl hr h hft
  · have e : bestSays l f t = (Way.none, routeCheck l) := by unfold bestSays; rw [if_pos h]
    rw [e]
    exact best_bad A c l f t w hl hr h
theorem ends_good {l : List Edg} (hl : ∀ x ∈ l, EdgOk x) {s : Int} : ∀ (n : Nat) (b : St), Good l s b → Good l s (ends l n b)
  | 0, b, h => h
  | n + 1, b, h => by
    have h1 := rounds_good hl l b false (fun _ h => h) h
    unfold ends
    split
    · exact ends_good hl n _ h1
    · exact h1
theorem edgs_at : ∀ (l : List Edg) (i j : Nat) (x : Edg), l[i]? = some x → j < 3 → (l.flatMap edgV)[i * 3 + j]? = (edgV x)[j]?
  | [], i, j, x, h, _ => by simp at h
  | y :: l, i, j, x, h, hj => by
    rw [List.flatMap_cons]
    match i with
    | 0 =>
      have e : y = x := by simpa using h
      subst e
      rw [Nat.zero_mul, Nat.zero_add, List.getElem?_append_left (by simpa [edgV] using hj)]
    | i + 1 =>
      have := edgs_at l i j x (by simpa using h) hj
      rw [List.getElem?_append_right (by simp [edgV]; omega), ← this]
      congr 1
      simp [edgV]; omega
theorem eds_blk {w : World} {g : Nat} {l : List Edg} {cs : Array Value} {t : TypeId} {fr : Nat × Nat} (h : w.heap[g]? = some (.cells cs t fr)) (hc : cs = (l.flatMap edgV).toArray) : Eds w (some ⟨g, 0, none⟩) l := by
  subst hc
  intro i hi
  have hx : l[i]? = some l[i] := List.getElem?_eq_getElem hi
  have key : ∀ j, j < 3 → w.cell? ⟨g, 0 + i * 3 + j, none⟩ = (edgV l[i])[j]? := fun j hj => by
    rw [cell_of_row _ _ _ _ _ _ h, Nat.zero_add]
    rw [List.getElem?_toArray, edgs_at l i j _ hx hj]
  exact ⟨g, 0, rfl, blk_lt h, key 0 (by omega), key 1 (by omega), key 2 (by omega)⟩
def rl : List Edg := [⟨1, 2, 3⟩, ⟨2, 4, 3⟩, ⟨1, 3, 2⟩, ⟨3, 4, 4⟩, ⟨1, 4, 7⟩]
instance (x : Edg) : Decidable (EdgOk x) := by unfold EdgOk; infer_instance
theorem rl_ok : ∀ x ∈ rl, EdgOk x := by decide
theorem rl_check : routeCheck rl = 0 := by decide
instance (l : List Edg) (b : St) : Decidable (Still l b) := by unfold Still; infer_instance
theorem rl14 : bestSays rl 1 4 = (⟨6, [1, 2, 4]⟩, 0) := by
  have e : bestOf rl 1 4 = ⟨6, [1, 2, 4]⟩ := told_ne rl_ok (by decide) (ends_good rl_ok 4 (St.first 1) (first_good rl 1)) (by decide +kernel) (by decide +kernel)
  rw [says_ok rl_check (by decide) (by decide), e]; rfl
theorem rl22 : bestSays rl 2 2 = (⟨0, [2]⟩, 0) := by
  have e : bestOf rl 2 2 = ⟨0, [2]⟩ := told_ne rl_ok (by decide) (ends_good rl_ok 4 (St.first 2) (first_good rl 2)) (by decide +kernel) (by decide +kernel)
  rw [says_ok rl_check (by decide) (by decide), e]; rfl
theorem rl41 : bestSays rl 4 1 = (Way.none, 4) := by
  have e : bestOf rl 4 1 = Way.none := told_empty rl_ok (by decide) (ends_good rl_ok 4 (St.first 4) (first_good rl 4)) (by decide +kernel) (by decide +kernel)
  rw [says_ok rl_check (by decide) (by decide), e]; rfl
set_option maxRecDepth 100000 in
set_option maxHeartbeats 1000000 in
theorem routed_calls (w : World) : Calls Try.prog 41 #[] w (RetB w (.bool true)) := by
  have k1 := fun A w hr => best_calls A 5 rl 1 4 w (by decide) hr
  have k2 := fun A w hr => best_calls A 5 rl 2 2 w (by decide) hr
  have k3 := fun A w hr => best_calls A 5 rl 4 1 w (by decide) hr
  rw [rl14] at k1
  rw [rl22] at k2
  rw [rl41] at k3
  have K1 := Lib.hid k1
  have K2 := Lib.hid k2
  have K3 := Lib.hid k3
  clear k1 k2 k3
  go_enter Try.func41, Try.ntmps41
  go_wp2_with fail
  have he : Eds (w.alloc (.cells #[.int .i64 1, .int .i64 2, .int .i64 3, .int .i64 2, .int .i64 4, .int .i64 3, .int .i64 1, .int .i64 3, .int .i64 2, .int .i64 3, .int .i64 4, .int .i64 4, .int .i64 1, .int .i64 4, .int .i64 7] 74)) (some ⟨w.heap.size, 0, none⟩) rl := eds_blk (blk_top rfl) rfl
  have HE := Lib.hid he
  have HB0 : Hid (Below w.heap.size w (w.alloc (.cells #[.int .i64 1, .int .i64 2, .int .i64 3, .int .i64 2, .int .i64 4, .int .i64 3, .int .i64 1, .int .i64 3, .int .i64 2, .int .i64 3, .int .i64 4, .int .i64 4, .int .i64 1, .int .i64 4, .int .i64 7] 74))) := Lib.hid ((Below.refl _ _).alloc (Nat.le_refl _) _)
  clear he
  refine (K1.out _ _ HE.out).mono ?_
  rintro e w1 ⟨A1, c1, rfl, hn1, hl1, hb1⟩
  have HE1 := Lib.hid (HE.out.stays hb1)
  have HB1 : Hid (Below w.heap.size w w1) := Lib.hid (HB0.out.trans (hb1.mono HB0.out.size))
  have HN1 := Lib.hid hn1
  clear hn1 hb1 HB0 HE
  go_wp2_with fail
  refine (K2.out _ _ HE1.out).mono ?_
  rintro e w2 ⟨A2, c2, rfl, hn2, hl2, hb2⟩
  have HE2 := Lib.hid (HE1.out.stays hb2)
  have HB2 : Hid (Below w.heap.size w w2) := Lib.hid (HB1.out.trans (hb2.mono HB1.out.size))
  have HN2 := Lib.hid hn2
  have HN1 := Lib.hid (HN1.out.stays hb2)
  clear hn2 hb2 HB1 HE1
  go_wp2_with fail
  refine (K3.out _ _ HE2.out).mono ?_
  rintro e w3 ⟨A3, c3, rfl, hn3, hl3, hb3⟩
  have HB3 : Hid (Below w.heap.size w w3) := Lib.hid (HB2.out.trans (hb3.mono HB2.out.size))
  have HN2 := Lib.hid (HN2.out.stays hb3)
  have HN1 := Lib.hid (HN1.out.stays hb3)
  clear hn3 hb3 HB2 HE2
  go_wp2_with fail
  have hb4 : Below w3.heap.size w3 (w3.alloc (.cells #[.int .i64 1, .int .i64 2, .int .i64 4] 3)) := (Below.refl _ _).alloc (Nat.le_refl _) _
  refine (equalInts_calls A1 (some ⟨w3.heap.size, 0, none⟩) c1 3 [1, 2, 4] [1, 2, 4] _ (by decide) (by decide) (HN1.out.stays hb4) (nts_top rfl rfl)).mono ?_
  rintro e w4 ⟨rfl, n4, rfl⟩
  go_wp2_with fail
  have hb5 : Below w3.heap.size w3 (((w3.alloc (.cells #[.int .i64 1, .int .i64 2, .int .i64 4] 3)).drewN n4).alloc (.cells #[.int .i64 2] 3)) := (Below.drewN' hb4 n4).alloc (by simp) _
  refine (equalInts_calls A2 (some ⟨w3.heap.size + 1, 0, none⟩) c2 1 [2] [2] _ (by decide) (by decide) (HN2.out.stays hb5) (nts_top (by simp) rfl)).mono ?_
  rintro e w5 ⟨rfl, n5, rfl⟩
  go_wp2_with fail
  go_ret
  exact ⟨rfl, Below.drewN' (HB3.out.trans (hb5.mono HB3.out.size)) n5⟩
end Go.Proofs.Ytefkfglkpebbmaa
