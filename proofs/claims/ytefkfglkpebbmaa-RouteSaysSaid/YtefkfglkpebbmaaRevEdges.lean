/- The walk of the library's slices.Reverse over edges of the call's own: they are the same ones. Printed by gen_revedges.py. No conditions. -/
import Derived.Test.YtefkfglkpebbmaaRouted
import Derived.Test.YtefkfglkpebbmaaCloneEdges
namespace Go.Proofs.Ytefkfglkpebbmaa
open Go.RowKit
set_option linter.unusedVariables false
set_option linter.unusedSimpArgs false

abbrev edgs (l : List Edg) : List Value := l.flatMap edgV
theorem edgs_len (l : List Edg) : (edgs l).length = l.length * 3 := by
  induction l with
  | nil => rfl
  | cons x l ih => rw [edgs, List.flatMap_cons, List.length_append]; simp [edgV] at ih ⊢; omega
theorem edgs_set : ∀ (l : List Edg) (i : Nat) (y : Edg), i < l.length → (((edgs l).set (i * 3) (iv y.f)).set (i * 3 + 1) (iv y.t)).set (i * 3 + 2) (iv y.c) = edgs (l.set i y)
  | [], i, y, h => by simp at h
  | x :: l, 0, y, _ => by simp [edgs, edgV]
  | x :: l, i + 1, y, h => by
    have ih := edgs_set l i y (by simpa using h)
    have e : edgs (x :: l) = iv x.f :: iv x.t :: iv x.c :: edgs l := by simp [edgs, edgV]
    have e2 : edgs ((x :: l).set (i + 1) y) = iv x.f :: iv x.t :: iv x.c :: edgs (l.set i y) := by simp [edgs, edgV]
    rw [e, List.set_cons_succ, show (i + 1) * 3 = i * 3 + 3 by omega, show edgs (x :: l.set i y) = iv x.f :: iv x.t :: iv x.c :: edgs (l.set i y) by simp [edgs, edgV]]
    simp only [List.set_cons_succ]
    exact congrArg (fun z => iv x.f :: iv x.t :: iv x.c :: z) ih
theorem own_edgs_at {w : World} {base g n c : Nat} {ys : List Edg} (h : Own w base 74 3 (some ⟨g, 0, none⟩) n c (edgs ys)) {i : Nat} (hi : i < ys.length) :
    w.cell? ⟨g, i * 3, none⟩ = some (iv ys[i].f) ∧ w.cell? ⟨g, i * 3 + 1, none⟩ = some (iv ys[i].t) ∧ w.cell? ⟨g, i * 3 + 2, none⟩ = some (iv ys[i].c) := by
  have hl := h.len
  rw [edgs_len] at hl
  have key : ∀ j, j < 3 → w.cell? ⟨g, i * 3 + j, none⟩ = (edgV ys[i])[j]? := fun j hj => by
    rw [h.cellAt _ (by omega)]
    exact edgs_at ys i j _ (List.getElem?_eq_getElem hi) hj
  exact ⟨key 0 (by omega), key 1 (by omega), key 2 (by omega)⟩
theorem own_eds {w : World} {base n c : Nat} {A : Option Addr} {ys : List Edg} (h : Own w base 74 3 A n c (edgs ys)) : Eds w A ys := by
  intro i hi
  have hs := h.src
  obtain ⟨b, o, rfl, hlt, _⟩ := hs (i * 3) (by rw [edgs_len]; omega)
  have key : ∀ j, j < 3 → w.cell? ⟨b, o + i * 3 + j, none⟩ = (edgV ys[i])[j]? := fun j hj => by
    obtain ⟨b', o', e, _, hc⟩ := hs (i * 3 + j) (by rw [edgs_len]; omega)
    injection e with e
    injection e with e1 e2
    subst e1 e2
    rw [show o + i * 3 + j = o + (i * 3 + j) by omega, hc]
    have := edgs_at ys i j _ (List.getElem?_eq_getElem hi) hj
    rw [← this, List.getElem?_eq_getElem]
  exact ⟨b, o, rfl, hlt, key 0 (by omega), key 1 (by omega), key 2 (by omega)⟩
theorem eds_src {w : World} {A : Option Addr} {ys : List Edg} (h : Eds w A ys) : Src w A (edgs ys) := by
  intro k hk
  rw [edgs_len] at hk
  obtain ⟨b, o, rfl, hlt, c0, c1, c2⟩ := h (k / 3) (by omega)
  refine ⟨b, o, rfl, hlt, ?_⟩
  have hx := edgs_at ys (k / 3) (k % 3) _ (List.getElem?_eq_getElem (by omega)) (by omega)
  rw [show k / 3 * 3 + k % 3 = k by omega, List.getElem?_eq_getElem (by rw [edgs_len]; omega)] at hx
  rw [hx]
  have h3 : k % 3 = 0 ∨ k % 3 = 1 ∨ k % 3 = 2 := by omega
  rcases h3 with e | e | e <;> rw [e]
  · rw [show o + k = o + k / 3 * 3 by omega, c0]; rfl
  · rw [show o + k = o + k / 3 * 3 + 1 by omega, c1]; rfl
  · rw [show o + k = o + k / 3 * 3 + 2 by omega, c2]; rfl
theorem edgs_one (l : List Edg) : ∀ u ∈ edgs l, u.oneCell' = true := by
  intro u hu
  obtain ⟨x, _, hx⟩ := List.mem_flatMap.1 hu
  simp [edgV] at hx
  rcases hx with rfl | rfl | rfl <;> rfl
theorem wp_setEdge {a : Act} {w : World} {K : Act → World → Prop} {Q : Exit → Act → World → Prop} {t : TypeId} {p : String} {af : Array Edge} {gd : Option (Nat × Bool)} {s1 s2 : Tmp} {base g n c i : Nat} {ys : List Edg} {y : Edg}
    (h : Own w base 74 3 (some ⟨g, 0, none⟩) n c (edgs ys)) (hi : i < ys.length) (h1 : a.tmps[s1]? = some (.pointer (some ⟨g, i * 3, none⟩))) (h2 : a.tmps[s2]? = some (.agg #[iv y.f, iv y.t, iv y.c]))
    (hk : ∀ w', Own w' base 74 3 (some ⟨g, 0, none⟩) n c (edgs (ys.set i y)) → (∀ B w0, B ≤ g → Below B w0 w → Below B w0 w') → K a w') :
    Oper.wp Try.prog ⟨none, .store 74 (.tmp s1) (.tmp s2), t, p, af, gd⟩ a w K Q := by
  have e1 : a.eval (.tmp s1) = .pointer (some ⟨g, i * 3, none⟩) := by simp [Act.eval, h1]
  have e2 : a.eval (.tmp s2) = .agg #[iv y.f, iv y.t, iv y.c] := by simp [Act.eval, h2]
  obtain ⟨c0, c1, c2⟩ := own_edgs_at h hi
  have f0 := h.frozenAt (i * 3)
  have f1 := h.frozenAt (i * 3 + 1)
  have f2 := h.frozenAt (i * 3 + 2)
  have o := ((h.stored (i * 3) (iv y.f)).stored (i * 3 + 1) (iv y.t)).stored (i * 3 + 2) (iv y.c)
  rw [edgs_set ys i y hi] at o
  have key := hk _ o (fun B w0 hB hb => ((hb.setCell (p := ⟨g, _, none⟩) hB _).setCell (p := ⟨g, _, none⟩) hB _).setCell (p := ⟨g, _, none⟩) hB _)
  clear o hk h
  unfold Oper.wp execOp
  simp only [e1, e2]
  go_simp
  exact key
def revJ (wo : World) (base g n c : Nat) (ys : List Edg) (i j : Nat) (x y : Edg) : Nat → (Nat → Value) → World → Prop
  | 0, _, w => w = wo.drew
  | 1, _, w => Own w base 74 3 (some ⟨g, 0, none⟩) n c (edgs (ys.set i y)) ∧ ∀ B w0, B ≤ g → Below B w0 wo → Below B w0 w
  | _, _, w => Own w base 74 3 (some ⟨g, 0, none⟩) n c (edgs ((ys.set i y).set j x)) ∧ ∀ B w0, B ≤ g → Below B w0 wo → Below B w0 w
def RevRet (w : World) (base : Nat) (A : Option Addr) (c : Nat) (xs : List Edg) : Ending → World → Prop := fun e w' =>
  ∃ ys, e = .returned (.tuple #[]) ∧ ys.Perm xs ∧ Own w' base 74 3 A xs.length c (edgs ys) ∧ Below base w w'
set_option maxRecDepth 100000 in
set_option maxHeartbeats 4000000 in
theorem revEdges_calls (base : Nat) (A : Option Addr) (c : Nat) (xs : List Edg) (w : World) (hl : xs.length ≤ 140737488351232) (ho : Own w base 74 3 A xs.length c (edgs xs)) (hb : base ≤ w.heap.size) :
    Calls Try.prog 45 #[.slice A xs.length c] w (RevRet w base A c xs) := by
  have hle := ho.le
  have hfo : 0 < xs.length → ∃ g, A = some ⟨g, 0, none⟩ ∧ base ≤ g ∧ g < w.heap.size := fun h => ho.form h
  have HF := Lib.hid hfo
  have HO := Lib.hid ho
  clear ho hfo
  go_enter Try.func45, Try.ntmps45
  go_wp2_with fail
  go_loopw [2, 3] (fun x y wr => ∃ (k : Nat) (ys : List Edg) (j : Int), x = .int .i64 k ∧ y = .int .i64 j ∧ j + k + 1 = xs.length ∧ (k : Int) ≤ j + 2 ∧ Hid (ys.Perm xs) ∧ Hid (Own wr base 74 3 A xs.length c (edgs ys)) ∧ Hid (Below base w wr)) (fun x y _ => (intOf y - intOf x + 1).toNat)
  case atStart => exact ⟨0, xs, _, rfl, rfl, by omega, by omega, Lib.hid (List.Perm.refl _), HO, Lib.hid (Below.refl _ _)⟩
  case round =>
    rename World => wo
    obtain ⟨i, ys, j, rfl, rfl, hj, hk, HP, HOW, HB⟩ := hrel
    have HJ := Lib.hid hj
    by_cases hlt : (i : Int) < j
    · obtain ⟨g, rfl, hg1, hg2⟩ := HF.out (by omega)
      have hpl := HP.out.length_eq
      obtain ⟨j, rfl⟩ := Int.eq_ofNat_of_zero_le (show 0 ≤ j by omega)
      have hil : i < ys.length := by omega
      have hjl : j < ys.length := by omega
      have HCI := Lib.hid (own_edgs_at HOW.out hil)
      have HCJ := Lib.hid (own_edgs_at HOW.out hjl)
      have HPS := Lib.hid ((List.set_set_perm hil hjl).trans HP.out)
      have j1 : (j : Int) < (xs.length : Int) := by omega
      have j2 : (i : Int) < (xs.length : Int) := by omega
      have j3 : ¬ (xs.length : Int) ≤ (j : Int) := by omega
      have j4 : ¬ (xs.length : Int) ≤ (i : Int) := by omega
      clear hpl hj HF
      go_wp2_with fail
      refine wp_region_mix (by kernel_rfl) (some 14 :: some 15 :: some 16 :: some 17 :: some 18 :: some 19 :: some 20 :: some 21 :: some 22 :: some 23 :: some 24 :: some 25 :: some 26 :: none :: some 27 :: none :: []) (none :: none :: none :: none :: none :: none :: none :: none :: none :: none :: none :: none :: none :: some 0 :: none :: some 1 :: []) (.slice (some ⟨g, 0, none⟩) xs.length c :: .int .i64 (i : Int) :: .slice (some ⟨g, 0, none⟩) xs.length c :: .int .i64 (j : Int) :: .slice (some ⟨g, 0, none⟩) xs.length c :: .int .i64 (j : Int) :: .pointer (some ⟨g, j * 3, none⟩) :: .agg #[iv ys[j].f, iv ys[j].t, iv ys[j].c] :: .slice (some ⟨g, 0, none⟩) xs.length c :: .int .i64 (i : Int) :: .pointer (some ⟨g, i * 3, none⟩) :: .agg #[iv ys[i].f, iv ys[i].t, iv ys[i].c] :: .pointer (some ⟨g, i * 3, none⟩) :: undef :: .pointer (some ⟨g, j * 3, none⟩) :: undef :: []) 2 (revJ wo base g xs.length c ys i j ys[i] ys[j]) 28 rfl rfl (by decide +kernel) (by decide +kernel) (by decide +kernel) (by decide +kernel) rfl rfl (by decide +kernel) (by decide +kernel) (rfl) ?_ ?_
      · refine ⟨?_, ?_⟩
        · intro done cv k a wq hw h hJ hn
          have e0 := mx_old (t := 0) (v := .slice (some ⟨g, 0, none⟩) xs.length c) h rfl rfl
          exact mx_move (ch_ev e0)
        refine ⟨?_, ?_⟩
        · intro done cv k a wq hw h hJ hn
          have e2 := mx_old (t := 2) (v := .int .i64 (i : Int)) h rfl rfl
          exact mx_move (ch_ev e2)
        refine ⟨?_, ?_⟩
        · intro done cv k a wq hw h hJ hn
          have e0 := mx_old (t := 0) (v := .slice (some ⟨g, 0, none⟩) xs.length c) h rfl rfl
          exact mx_move (ch_ev e0)
        refine ⟨?_, ?_⟩
        · intro done cv k a wq hw h hJ hn
          have e3 := mx_old (t := 3) (v := .int .i64 (j : Int)) h rfl rfl
          exact mx_move (ch_ev e3)
        refine ⟨?_, ?_⟩
        · intro done cv k a wq hw h hJ hn
          have e0 := mx_old (t := 0) (v := .slice (some ⟨g, 0, none⟩) xs.length c) h rfl rfl
          exact mx_move (ch_ev e0)
        refine ⟨?_, ?_⟩
        · intro done cv k a wq hw h hJ hn
          have e3 := mx_old (t := 3) (v := .int .i64 (j : Int)) h rfl rfl
          exact mx_move (ch_ev e3)
        refine ⟨?_, ?_⟩
        · intro done cv k a wq hw h hJ hn
          have e18 := mx_new (i := 4) (t := 18) h (hw 4 (by decide)) rfl rfl rfl; have e19 := mx_new (i := 5) (t := 19) h (hw 5 (by decide)) rfl rfl rfl
          go_simp
        refine ⟨?_, ?_⟩
        · intro done cv k a wq hw h hJ hn
          have e20 := mx_new (i := 6) (t := 20) h (hw 6 (by decide)) rfl rfl rfl
          have hk := hn 13 _ 0 rfl rfl (by decide)
          obtain rfl : k = 0 := by omega
          obtain rfl : wq = wo.drew := hJ
          obtain ⟨r0, r1, r2⟩ := HCJ.out
          go_simp
        refine ⟨?_, ?_⟩
        · intro done cv k a wq hw h hJ hn
          have e0 := mx_old (t := 0) (v := .slice (some ⟨g, 0, none⟩) xs.length c) h rfl rfl
          exact mx_move (ch_ev e0)
        refine ⟨?_, ?_⟩
        · intro done cv k a wq hw h hJ hn
          have e2 := mx_old (t := 2) (v := .int .i64 (i : Int)) h rfl rfl
          exact mx_move (ch_ev e2)
        refine ⟨?_, ?_⟩
        · intro done cv k a wq hw h hJ hn
          have e22 := mx_new (i := 8) (t := 22) h (hw 8 (by decide)) rfl rfl rfl; have e23 := mx_new (i := 9) (t := 23) h (hw 9 (by decide)) rfl rfl rfl
          go_simp
        refine ⟨?_, ?_⟩
        · intro done cv k a wq hw h hJ hn
          have e24 := mx_new (i := 10) (t := 24) h (hw 10 (by decide)) rfl rfl rfl
          have hk := hn 13 _ 0 rfl rfl (by decide)
          obtain rfl : k = 0 := by omega
          obtain rfl : wq = wo.drew := hJ
          obtain ⟨r0, r1, r2⟩ := HCI.out
          go_simp
        refine ⟨?_, ?_⟩
        · intro done cv k a wq hw h hJ hn
          have e14 := mx_new (i := 0) (t := 14) h (hw 0 (by decide)) rfl rfl rfl; have e15 := mx_new (i := 1) (t := 15) h (hw 1 (by decide)) rfl rfl rfl
          go_simp
        refine ⟨?_, ?_⟩
        · intro done cv a wq hw h hJ
          have e26 := mx_new (i := 12) (t := 26) h (hw 12 (by decide)) rfl rfl rfl; have e21 := mx_new (i := 7) (t := 21) h (hw 7 (by decide)) rfl rfl rfl
          obtain rfl : wq = wo.drew := hJ
          refine wp_setEdge HOW.out.drew hil e26 e21 ?_
          intro w2 h1 h2
          exact ⟨undef, rfl, h1, fun B w0 hB hb => h2 B w0 hB (hb.drew)⟩
        refine ⟨?_, ?_⟩
        · intro done cv k a wq hw h hJ hn
          have e16 := mx_new (i := 2) (t := 16) h (hw 2 (by decide)) rfl rfl rfl; have e17 := mx_new (i := 3) (t := 17) h (hw 3 (by decide)) rfl rfl rfl
          go_simp
        refine ⟨?_, ?_⟩
        · intro done cv a wq hw h hJ
          have e27 := mx_new (i := 14) (t := 27) h (hw 14 (by decide)) rfl rfl rfl; have e25 := mx_new (i := 11) (t := 25) h (hw 11 (by decide)) rfl rfl rfl
          obtain ⟨h1, h2⟩ := hJ
          refine wp_setEdge h1 (by simpa using hjl) e27 e25 ?_
          intro w2 h3 h4
          exact ⟨undef, rfl, h3, fun B w0 hB hb => h4 B w0 hB (h2 B w0 hB hb)⟩
        exact trivial
      · rintro cv w2 ⟨h1, h2⟩
        have HO2 := Lib.hid h1
        have HB2 := Lib.hid (h2 base w hg1 HB.out)
        clear h1 h2
        simp only [mixAll, putAll_some, putAll_none, putAll_nil, List.getElem?_cons_zero, List.getElem?_cons_succ, Nat.zero_add, Nat.reduceAdd, List.setIfInBounds_toArray, List.set_cons_zero, List.set_cons_succ]
        go_wp2_with fail
        go_roundw
        case rel => exact ⟨i + 1, _, (j : Int) - 1, by go_num, rfl, by have := HJ.out; omega, by omega, HPS, HO2, HB2⟩
        case measure => simp [intOf]; omega
    · go_wp2_with fail
      exact bodyPost_end (results_none rfl _ _ _) rfl ⟨ys, rfl, HP.out, HOW.out, HB.out⟩
end Go.Proofs.Ytefkfglkpebbmaa
