/- Walks of functions, and plain words. No conditions. -/
import Derived.Test.YtefkfglkpebbmadGreatP5
set_option linter.unusedVariables false
set_option linter.unusedSimpArgs false
set_option maxRecDepth 100000
set_option maxHeartbeats 40000000
namespace Go.Proofs.YtefkfglkpebbmadGreat
open Go.RowKit
theorem refChkCheckX_calls (A : Option Addr) (c : Nat) (x : Chk) (w : World) (h : I64 x.n ∧ I64 x.of_) :
  Calls Tryz.prog 18 #[.agg (chkA x.from_ x.to_ x.n x.of_ A x.data.length c)] w (RetB w (iv (chkCheck x))) := refChkCheck_calls A c x.from_ x.to_ x.n x.of_ x.data w h.1 h.2
theorem refChkList_calls (A : Option Addr) (c : Nat) (l : List Chk) (w : World) (hl : l.length ≤ 1048576) (hs : Chs w A l) :
  Calls Tryz.prog 49 #[.slice A l.length c] w (RetB w (iv (chkList l))) := by
 have HS := Lib.hid hs
 clear hs
 obtain ⟨r, hr⟩ : ∃ r, chkList l = r := ⟨_, rfl⟩
 rw [hr]
 have HR : Hid (listGo none l = r) := Lib.hid hr
 clear hr
 go_enter Tryz.func49, Tryz.ntmps49
 go_wp2_with fail
 go_loopw [9, 3] (fun i z wr => ∃ (k : Nat) (m : Int), k ≤ l.length ∧ i = .int .i64 k ∧ z = .int .i64 m ∧ Hid (listGo ((l.take k).getLast?) (l.drop k) = r) ∧ Hid (k = 0 → m = -1) ∧ Hid (∀ q, (l.take k).getLast? = some q → q.n = m ∧ ∀ x0, l[0]? = some x0 → kin x0 q) ∧ Hid (Below w.heap.size w wr)) (fun i _ _ => l.length - (intOf i).toNat)
 case atStart => exact ⟨0, -1, Nat.zero_le _, rfl, rfl, Lib.hid HR.out, Lib.hid (fun _ => rfl), Lib.hid (fun q e => by simp at e), Lib.hid (Below.refl _ _)⟩
 case round =>
  rename World => wr
  obtain ⟨k, m, hk, rfl, rfl, HE, HM0, HQ, HB⟩ := hrel
  have hsz := HB.out.size
  by_cases hlt : k < l.length
  ·obtain ⟨b, o, B, cx, rfl, hb, hat, hin⟩ := HS.out.chk hlt
   have hdr : l.drop k = l[k] :: l.drop (k + 1) := List.drop_eq_getElem_cons hlt
   have hlast : (l.take (k + 1)).getLast? = some l[k] := by rw [List.take_succ_eq_append_getElem hlt, List.getLast?_concat]
   obtain ⟨x0, hx0⟩ : ∃ x0, l[0]? = some x0 := ⟨_, List.getElem?_eq_getElem (by omega)⟩
   have hat0 : ∃ D d, ChkAt w b o x0 D d := by
    obtain ⟨b', o', D, d, e, _, h1, _⟩ := HS.out.chk (i := 0) (by omega)
    injection e with e
    injection e with e1 e2
    subst e1 e2
    rw [List.getElem?_eq_getElem (by omega)] at hx0
    injection hx0 with hx0
    rw [hx0] at h1
    exact ⟨D, d, by simpa using h1⟩
   obtain ⟨D0, d0, hat0⟩ := hat0
   have h00 : k = 0 → l[k] = x0 := fun e => by
    subst e
    rw [List.getElem?_eq_getElem (by omega)] at hx0
    injection hx0
   obtain ⟨x, hx⟩ : ∃ x, l[k] = x := ⟨_, rfl⟩
   rw [hx] at hdr hlast hat hin h00
   rw [hdr] at HE
   obtain ⟨p, hp⟩ : ∃ p, (l.take k).getLast? = p := ⟨_, rfl⟩
   rw [hp] at HE HQ
   have HX0 := Lib.hid hx0
   have HFOL : Hid (chkCheck x = 0 → (follows p x ↔ kin x0 x ∧ m < x.n)) := Lib.hid (fun hck => by
    by_cases hk0 : k = 0
    ·have e1 : p = none := by rw [← hp, hk0]; simp
     have e2 := HM0.out hk0
     have e3 := h00 hk0
     obtain ⟨⟨_, _, _, _, _, _, h7, _⟩, _⟩ := chkCheck_ok.1 hck
     subst e1 e2 e3
     exact ⟨fun _ => ⟨kin_refl _, by omega⟩, fun _ q e => by cases e⟩
    ·obtain ⟨q, hq⟩ : ∃ q, p = some q := by
      rw [← hp, List.getLast?_take, if_neg hk0, List.getElem?_eq_getElem (by omega)]
      exact ⟨_, rfl⟩
     obtain ⟨g1, g2⟩ := HQ.out q hq
     have g3 := g2 x0 hx0
     subst hq g1
     constructor
     ·intro h
      obtain ⟨h1, h2⟩ := h q rfl
      exact ⟨kin_trans g3 h1, h2⟩
     ·rintro ⟨h1, h2⟩ z e
      injection e with e
      subst e
      exact ⟨kin_trans (kin_symm g3) h1, h2⟩)
   have HLAST := Lib.hid hlast
   have hat2 := hat.stays hb HB.out
   have hat3 := hat0.stays hb HB.out
   obtain ⟨c0, c1, c2, c3, c4⟩ := hat2
   obtain ⟨y0, y1, y2, y3, y4⟩ := hat3
   have HK := Lib.hid (fun w => refChkCheckX_calls B cx x w ⟨hin.i2, hin.i3⟩)
   have hblt : b < wr.heap.size := by omega
   have dl : decide ((k : Int) < (l.length : Int)) = true := decide_eq_true (by omega)
   have hwk : IntKind.i64.wrap ((k : Int) + 1) = (k : Int) + 1 := IntWalk.i64_in _ (by omega)
   have hl0 : ¬ (l.length : Int) ≤ 0 := by omega
   have hne : ¬ l = [] := fun e => by rw [e] at hlt; simp at hlt
   clear hdr hlast hx hp hat hin hat0 h00 hx0 HM0 HQ
   by_cases hck : chkCheck x ≠ 0
   ·have hz : r = chkCheck x := by rw [← HE.out, listGo_bad hck]
    have q : (chkCheck x != 0) = true := by simp [hck]
    have HZ := Lib.hid hz
    clear hck hz
    go_wp2_with fail
    refine (HK.out _).mono ?_
    rintro e w1 ⟨rfl, hb1⟩
    have HB1 : Hid (Below w.heap.size w w1) := by
     refine Lib.hid (HB.out.trans (Below.trans ?_ (hb1.mono (by first | omega | (simp <;> omega)))))
     repeat (first | exact Below.refl _ _ | refine Below.alloc ?_ (by first | omega | (simp <;> omega)) _)
    clear hb1
    go_wp2_with fail
    go_ret
    exact ⟨ret_int HZ.out.symm, HB1.out⟩
   have hck := Decidable.not_not.1 hck
   have HCK := Lib.hid hck
   have HFO := Lib.hid (HFOL.out hck)
   rw [hck] at HK
   clear hck HFOL
   go_wp2_with fail
   refine (HK.out _).mono ?_
   rintro e w1 ⟨rfl, hb1⟩
   obtain ⟨a0r, a0f, a0n, a0c, a0z, a0l⟩ := keep1 (g := wr.heap.size) (cs := chkA x.from_ x.to_ x.n x.of_ B x.data.length cx) hb1 (by first | (go_simp; done) | (go_simp; rfl)) (by go_simp) (by go_simp)
   have hbb : Below wr.heap.size wr w1 := by
    refine Below.trans ?_ (hb1.mono (by first | omega | (simp <;> omega)))
    repeat (first | exact Below.refl _ _ | refine Below.alloc ?_ (by first | omega | (simp <;> omega)) _)
   have HB1 : Hid (Below w.heap.size w w1) := Lib.hid (HB.out.trans (hbb.mono hsz))
   have y0 := (hbb.cell (p := ⟨b, o, none⟩) hblt).trans y0
   have y1 := (hbb.cell (p := ⟨b, o + 1, none⟩) hblt).trans y1
   have y3 := (hbb.cell (p := ⟨b, o + 3, none⟩) hblt).trans y3
   have hs1 := HB1.out.size
   have hs2 := hbb.size
   have hbl1 : b < w1.heap.size := by omega
   clear hb1 hbb c0 c1 c2 c3 c4 y2 y4
   go_wp2_with fail
   by_cases t0 : ¬ x.from_ = x0.from_
   ·have HZ : Hid (r = 3) := Lib.hid (by rw [← HE.out, listGo_form HCK.out (by rw [HFO.out]; exact fun h => t0 h.1.1.symm)])
    have T0 := Lib.hid t0
    clear t0
    refine wp_region_chain (by kernel_rfl) (some 18 :: some 19 :: some 20 :: some 21 :: some 22 :: some 23 :: some 24 :: some 25 :: some 26 :: some 27 :: some 28 :: some 29 :: some 30 :: some 31 :: some 32 :: some 33 :: some 34 :: some 35 :: some 36 :: some 37 :: some 38 :: some 39 :: some 40 :: some 41 :: some 42 :: some 43 :: some 44 :: some 45 :: some 46 :: some 47 :: some 48 :: []) (.pointer (some ⟨wr.heap.size, 0, none⟩) :: iv x.from_ :: .slice (some ⟨b, o, none⟩) l.length c :: .pointer (some ⟨b, o, none⟩) :: .pointer (some ⟨b, o, none⟩) :: iv x0.from_ :: .bool true :: .bool true :: undef :: undef :: undef :: undef :: undef :: undef :: undef :: .bool true :: .bool true :: undef :: undef :: undef :: undef :: undef :: undef :: undef :: .bool true :: .bool true :: undef :: undef :: undef :: undef :: .bool true :: []) 52 rfl rfl (by decide +kernel) (by decide +kernel) (by decide +kernel) rfl ?_ ?_
    ·refine ⟨.inl ⟨rfl, fun done a wq hw h => ?_⟩, ?_⟩
     ·have e5 := ch_old (t := 5) (v := .pointer (some ⟨wr.heap.size, 0, none⟩)) h rfl rfl; refine ch_pure ?_; go_simp
     refine ⟨.inl ⟨rfl, fun done a wq hw h => ?_⟩, ?_⟩
     ·have e18 := ch_new (i := 0) (t := 18) h (hw 0 (by decide)) rfl rfl; obtain ⟨r_, f_, n_, c_, z_, l_⟩ := keep1 h.bel a0r (by go_simp) a0f; refine ch_pure ?_; go_simp
     refine ⟨.inl ⟨rfl, fun done a wq hw h => ?_⟩, ?_⟩
     ·have e0 := ch_old (t := 0) (v := .slice (some ⟨b, o, none⟩) l.length c) h rfl rfl; exact ch_move (ch_ev e0)
     refine ⟨.inl ⟨rfl, fun done a wq hw h => ?_⟩, ?_⟩
     ·have e20 := ch_new (i := 2) (t := 20) h (hw 2 (by decide)) rfl rfl; refine ch_pure ?_; go_simp
     refine ⟨.inl ⟨rfl, fun done a wq hw h => ?_⟩, ?_⟩
     ·have e21 := ch_new (i := 3) (t := 21) h (hw 3 (by decide)) rfl rfl; refine ch_pure ?_; go_simp
     refine ⟨.inl ⟨rfl, fun done a wq hw h => ?_⟩, ?_⟩
     ·have e22 := ch_new (i := 4) (t := 22) h (hw 4 (by decide)) rfl rfl; have hc := (h.bel.cell (p := ⟨b, o, none⟩) (by simp; omega)).trans (show w1.cell? _ = some (iv x0.from_) from y0); refine ch_pure ?_; go_simp
     refine ⟨.inl ⟨rfl, fun done a wq hw h => ?_⟩, ?_⟩
     ·have e19 := ch_new (i := 1) (t := 19) h (hw 1 (by decide)) rfl rfl; have e23 := ch_new (i := 5) (t := 23) h (hw 5 (by decide)) rfl rfl; exact ch_neq_int (by kernel_rfl) (ch_ev e19) (ch_ev e23) (by have hq := T0.out; simp [hq])
     refine ⟨.inl ⟨rfl, fun done a wq hw h => ?_⟩, ?_⟩
     ·have e24 := ch_new (i := 6) (t := 24) h (hw 6 (by decide)) rfl rfl; exact ch_move (ch_ev e24)
     iterate 7 refine ⟨.inr ⟨rfl, rfl⟩, ?_⟩
     refine ⟨.inl ⟨rfl, fun done a wq hw h => ?_⟩, ?_⟩
     ·have e25 := ch_new (i := 7) (t := 25) h (hw 7 (by decide)) rfl rfl; exact ch_pick_t e25 rfl
     refine ⟨.inl ⟨rfl, fun done a wq hw h => ?_⟩, ?_⟩
     ·have e33 := ch_new (i := 15) (t := 33) h (hw 15 (by decide)) rfl rfl; exact ch_move (ch_ev e33)
     iterate 7 refine ⟨.inr ⟨rfl, rfl⟩, ?_⟩
     refine ⟨.inl ⟨rfl, fun done a wq hw h => ?_⟩, ?_⟩
     ·have e34 := ch_new (i := 16) (t := 34) h (hw 16 (by decide)) rfl rfl; exact ch_pick_t e34 rfl
     refine ⟨.inl ⟨rfl, fun done a wq hw h => ?_⟩, ?_⟩
     ·have e42 := ch_new (i := 24) (t := 42) h (hw 24 (by decide)) rfl rfl; exact ch_move (ch_ev e42)
     iterate 4 refine ⟨.inr ⟨rfl, rfl⟩, ?_⟩
     refine ⟨.inl ⟨rfl, fun done a wq hw h => ?_⟩, ?_⟩
     ·have e43 := ch_new (i := 25) (t := 43) h (hw 25 (by decide)) rfl rfl; exact ch_pick_t e43 rfl
     exact trivial
    ·intro w2 hb2
     simp only [putAll_some, putAll_none, putAll_nil, List.setIfInBounds_toArray, List.set_cons_zero, List.set_cons_succ]
     have HB2 : Hid (Below w.heap.size w w2) := Lib.hid (HB1.out.trans (hb2.mono HB1.out.size))
     clear hb2 a0r a0f a0n a0c a0z a0l
     go_wp2_with fail
     go_ret
     exact ⟨ret_int HZ.out.symm, HB2.out⟩
   have T0 := Lib.hid (Decidable.not_not.1 t0)
   clear t0
   by_cases t1 : ¬ x.to_ = x0.to_
   ·have HZ : Hid (r = 3) := Lib.hid (by rw [← HE.out, listGo_form HCK.out (by rw [HFO.out]; exact fun h => t1 h.1.2.1.symm)])
    have T1 := Lib.hid t1
    clear t1
    refine wp_region_chain (by kernel_rfl) (some 18 :: some 19 :: some 20 :: some 21 :: some 22 :: some 23 :: some 24 :: some 25 :: some 26 :: some 27 :: some 28 :: some 29 :: some 30 :: some 31 :: some 32 :: some 33 :: some 34 :: some 35 :: some 36 :: some 37 :: some 38 :: some 39 :: some 40 :: some 41 :: some 42 :: some 43 :: some 44 :: some 45 :: some 46 :: some 47 :: some 48 :: []) (.pointer (some ⟨wr.heap.size, 0, none⟩) :: iv x.from_ :: .slice (some ⟨b, o, none⟩) l.length c :: .pointer (some ⟨b, o, none⟩) :: .pointer (some ⟨b, o, none⟩) :: iv x0.from_ :: .bool false :: .bool false :: .pointer (some ⟨wr.heap.size, 1, none⟩) :: iv x.to_ :: .slice (some ⟨b, o, none⟩) l.length c :: .pointer (some ⟨b, o, none⟩) :: .pointer (some ⟨b, o + 1, none⟩) :: iv x0.to_ :: .bool true :: .bool true :: .bool true :: undef :: undef :: undef :: undef :: undef :: undef :: undef :: .bool true :: .bool true :: undef :: undef :: undef :: undef :: .bool true :: []) 52 rfl rfl (by decide +kernel) (by decide +kernel) (by decide +kernel) rfl ?_ ?_
    ·refine ⟨.inl ⟨rfl, fun done a wq hw h => ?_⟩, ?_⟩
     ·have e5 := ch_old (t := 5) (v := .pointer (some ⟨wr.heap.size, 0, none⟩)) h rfl rfl; refine ch_pure ?_; go_simp
     refine ⟨.inl ⟨rfl, fun done a wq hw h => ?_⟩, ?_⟩
     ·have e18 := ch_new (i := 0) (t := 18) h (hw 0 (by decide)) rfl rfl; obtain ⟨r_, f_, n_, c_, z_, l_⟩ := keep1 h.bel a0r (by go_simp) a0f; refine ch_pure ?_; go_simp
     refine ⟨.inl ⟨rfl, fun done a wq hw h => ?_⟩, ?_⟩
     ·have e0 := ch_old (t := 0) (v := .slice (some ⟨b, o, none⟩) l.length c) h rfl rfl; exact ch_move (ch_ev e0)
     refine ⟨.inl ⟨rfl, fun done a wq hw h => ?_⟩, ?_⟩
     ·have e20 := ch_new (i := 2) (t := 20) h (hw 2 (by decide)) rfl rfl; refine ch_pure ?_; go_simp
     refine ⟨.inl ⟨rfl, fun done a wq hw h => ?_⟩, ?_⟩
     ·have e21 := ch_new (i := 3) (t := 21) h (hw 3 (by decide)) rfl rfl; refine ch_pure ?_; go_simp
     refine ⟨.inl ⟨rfl, fun done a wq hw h => ?_⟩, ?_⟩
     ·have e22 := ch_new (i := 4) (t := 22) h (hw 4 (by decide)) rfl rfl; have hc := (h.bel.cell (p := ⟨b, o, none⟩) (by simp; omega)).trans (show w1.cell? _ = some (iv x0.from_) from y0); refine ch_pure ?_; go_simp
     refine ⟨.inl ⟨rfl, fun done a wq hw h => ?_⟩, ?_⟩
     ·have e19 := ch_new (i := 1) (t := 19) h (hw 1 (by decide)) rfl rfl; have e23 := ch_new (i := 5) (t := 23) h (hw 5 (by decide)) rfl rfl; exact ch_neq_int (by kernel_rfl) (ch_ev e19) (ch_ev e23) (by have hq := T0.out; simp [hq])
     refine ⟨.inl ⟨rfl, fun done a wq hw h => ?_⟩, ?_⟩
     ·have e24 := ch_new (i := 6) (t := 24) h (hw 6 (by decide)) rfl rfl; exact ch_move (ch_ev e24)
     refine ⟨.inl ⟨rfl, fun done a wq hw h => ?_⟩, ?_⟩
     ·have e5 := ch_old (t := 5) (v := .pointer (some ⟨wr.heap.size, 0, none⟩)) h rfl rfl; refine ch_pure ?_; go_simp
     refine ⟨.inl ⟨rfl, fun done a wq hw h => ?_⟩, ?_⟩
     ·have e26 := ch_new (i := 8) (t := 26) h (hw 8 (by decide)) rfl rfl; obtain ⟨r_, f_, n_, c_, z_, l_⟩ := keep1 h.bel a0r (by go_simp) a0f; refine ch_pure ?_; go_simp
     refine ⟨.inl ⟨rfl, fun done a wq hw h => ?_⟩, ?_⟩
     ·have e0 := ch_old (t := 0) (v := .slice (some ⟨b, o, none⟩) l.length c) h rfl rfl; exact ch_move (ch_ev e0)
     refine ⟨.inl ⟨rfl, fun done a wq hw h => ?_⟩, ?_⟩
     ·have e28 := ch_new (i := 10) (t := 28) h (hw 10 (by decide)) rfl rfl; refine ch_pure ?_; go_simp
     refine ⟨.inl ⟨rfl, fun done a wq hw h => ?_⟩, ?_⟩
     ·have e29 := ch_new (i := 11) (t := 29) h (hw 11 (by decide)) rfl rfl; refine ch_pure ?_; go_simp
     refine ⟨.inl ⟨rfl, fun done a wq hw h => ?_⟩, ?_⟩
     ·have e30 := ch_new (i := 12) (t := 30) h (hw 12 (by decide)) rfl rfl; have hc := (h.bel.cell (p := ⟨b, o + 1, none⟩) (by simp; omega)).trans (show w1.cell? _ = some (iv x0.to_) from y1); refine ch_pure ?_; go_simp
     refine ⟨.inl ⟨rfl, fun done a wq hw h => ?_⟩, ?_⟩
     ·have e27 := ch_new (i := 9) (t := 27) h (hw 9 (by decide)) rfl rfl; have e31 := ch_new (i := 13) (t := 31) h (hw 13 (by decide)) rfl rfl; exact ch_neq_int (by kernel_rfl) (ch_ev e27) (ch_ev e31) (by have hq := T1.out; simp [hq])
     refine ⟨.inl ⟨rfl, fun done a wq hw h => ?_⟩, ?_⟩
     ·have e25 := ch_new (i := 7) (t := 25) h (hw 7 (by decide)) rfl rfl; have e32 := ch_new (i := 14) (t := 32) h (hw 14 (by decide)) rfl rfl; exact ch_pick_f e25 (ch_ev e32)
     refine ⟨.inl ⟨rfl, fun done a wq hw h => ?_⟩, ?_⟩
     ·have e33 := ch_new (i := 15) (t := 33) h (hw 15 (by decide)) rfl rfl; exact ch_move (ch_ev e33)
     iterate 7 refine ⟨.inr ⟨rfl, rfl⟩, ?_⟩
     refine ⟨.inl ⟨rfl, fun done a wq hw h => ?_⟩, ?_⟩
     ·have e34 := ch_new (i := 16) (t := 34) h (hw 16 (by decide)) rfl rfl; exact ch_pick_t e34 rfl
     refine ⟨.inl ⟨rfl, fun done a wq hw h => ?_⟩, ?_⟩
     ·have e42 := ch_new (i := 24) (t := 42) h (hw 24 (by decide)) rfl rfl; exact ch_move (ch_ev e42)
     iterate 4 refine ⟨.inr ⟨rfl, rfl⟩, ?_⟩
     refine ⟨.inl ⟨rfl, fun done a wq hw h => ?_⟩, ?_⟩
     ·have e43 := ch_new (i := 25) (t := 43) h (hw 25 (by decide)) rfl rfl; exact ch_pick_t e43 rfl
     exact trivial
    ·intro w2 hb2
     simp only [putAll_some, putAll_none, putAll_nil, List.setIfInBounds_toArray, List.set_cons_zero, List.set_cons_succ]
     have HB2 : Hid (Below w.heap.size w w2) := Lib.hid (HB1.out.trans (hb2.mono HB1.out.size))
     clear hb2 a0r a0f a0n a0c a0z a0l
     go_wp2_with fail
     go_ret
     exact ⟨ret_int HZ.out.symm, HB2.out⟩
   have T1 := Lib.hid (Decidable.not_not.1 t1)
   clear t1
   by_cases t2 : ¬ x.of_ = x0.of_
   ·have HZ : Hid (r = 3) := Lib.hid (by rw [← HE.out, listGo_form HCK.out (by rw [HFO.out]; exact fun h => t2 h.1.2.2.symm)])
    have T2 := Lib.hid t2
    clear t2
    refine wp_region_chain (by kernel_rfl) (some 18 :: some 19 :: some 20 :: some 21 :: some 22 :: some 23 :: some 24 :: some 25 :: some 26 :: some 27 :: some 28 :: some 29 :: some 30 :: some 31 :: some 32 :: some 33 :: some 34 :: some 35 :: some 36 :: some 37 :: some 38 :: some 39 :: some 40 :: some 41 :: some 42 :: some 43 :: some 44 :: some 45 :: some 46 :: some 47 :: some 48 :: []) (.pointer (some ⟨wr.heap.size, 0, none⟩) :: iv x.from_ :: .slice (some ⟨b, o, none⟩) l.length c :: .pointer (some ⟨b, o, none⟩) :: .pointer (some ⟨b, o, none⟩) :: iv x0.from_ :: .bool false :: .bool false :: .pointer (some ⟨wr.heap.size, 1, none⟩) :: iv x.to_ :: .slice (some ⟨b, o, none⟩) l.length c :: .pointer (some ⟨b, o, none⟩) :: .pointer (some ⟨b, o + 1, none⟩) :: iv x0.to_ :: .bool false :: .bool false :: .bool false :: .pointer (some ⟨wr.heap.size, 3, none⟩) :: iv x.of_ :: .slice (some ⟨b, o, none⟩) l.length c :: .pointer (some ⟨b, o, none⟩) :: .pointer (some ⟨b, o + 3, none⟩) :: iv x0.of_ :: .bool true :: .bool true :: .bool true :: undef :: undef :: undef :: undef :: .bool true :: []) 52 rfl rfl (by decide +kernel) (by decide +kernel) (by decide +kernel) rfl ?_ ?_
    ·refine ⟨.inl ⟨rfl, fun done a wq hw h => ?_⟩, ?_⟩
     ·have e5 := ch_old (t := 5) (v := .pointer (some ⟨wr.heap.size, 0, none⟩)) h rfl rfl; refine ch_pure ?_; go_simp
     refine ⟨.inl ⟨rfl, fun done a wq hw h => ?_⟩, ?_⟩
     ·have e18 := ch_new (i := 0) (t := 18) h (hw 0 (by decide)) rfl rfl; obtain ⟨r_, f_, n_, c_, z_, l_⟩ := keep1 h.bel a0r (by go_simp) a0f; refine ch_pure ?_; go_simp
     refine ⟨.inl ⟨rfl, fun done a wq hw h => ?_⟩, ?_⟩
     ·have e0 := ch_old (t := 0) (v := .slice (some ⟨b, o, none⟩) l.length c) h rfl rfl; exact ch_move (ch_ev e0)
     refine ⟨.inl ⟨rfl, fun done a wq hw h => ?_⟩, ?_⟩
     ·have e20 := ch_new (i := 2) (t := 20) h (hw 2 (by decide)) rfl rfl; refine ch_pure ?_; go_simp
     refine ⟨.inl ⟨rfl, fun done a wq hw h => ?_⟩, ?_⟩
     ·have e21 := ch_new (i := 3) (t := 21) h (hw 3 (by decide)) rfl rfl; refine ch_pure ?_; go_simp
     refine ⟨.inl ⟨rfl, fun done a wq hw h => ?_⟩, ?_⟩
     ·have e22 := ch_new (i := 4) (t := 22) h (hw 4 (by decide)) rfl rfl; have hc := (h.bel.cell (p := ⟨b, o, none⟩) (by simp; omega)).trans (show w1.cell? _ = some (iv x0.from_) from y0); refine ch_pure ?_; go_simp
     refine ⟨.inl ⟨rfl, fun done a wq hw h => ?_⟩, ?_⟩
     ·have e19 := ch_new (i := 1) (t := 19) h (hw 1 (by decide)) rfl rfl; have e23 := ch_new (i := 5) (t := 23) h (hw 5 (by decide)) rfl rfl; exact ch_neq_int (by kernel_rfl) (ch_ev e19) (ch_ev e23) (by have hq := T0.out; simp [hq])
     refine ⟨.inl ⟨rfl, fun done a wq hw h => ?_⟩, ?_⟩
     ·have e24 := ch_new (i := 6) (t := 24) h (hw 6 (by decide)) rfl rfl; exact ch_move (ch_ev e24)
     refine ⟨.inl ⟨rfl, fun done a wq hw h => ?_⟩, ?_⟩
     ·have e5 := ch_old (t := 5) (v := .pointer (some ⟨wr.heap.size, 0, none⟩)) h rfl rfl; refine ch_pure ?_; go_simp
     refine ⟨.inl ⟨rfl, fun done a wq hw h => ?_⟩, ?_⟩
     ·have e26 := ch_new (i := 8) (t := 26) h (hw 8 (by decide)) rfl rfl; obtain ⟨r_, f_, n_, c_, z_, l_⟩ := keep1 h.bel a0r (by go_simp) a0f; refine ch_pure ?_; go_simp
     refine ⟨.inl ⟨rfl, fun done a wq hw h => ?_⟩, ?_⟩
     ·have e0 := ch_old (t := 0) (v := .slice (some ⟨b, o, none⟩) l.length c) h rfl rfl; exact ch_move (ch_ev e0)
     refine ⟨.inl ⟨rfl, fun done a wq hw h => ?_⟩, ?_⟩
     ·have e28 := ch_new (i := 10) (t := 28) h (hw 10 (by decide)) rfl rfl; refine ch_pure ?_; go_simp
     refine ⟨.inl ⟨rfl, fun done a wq hw h => ?_⟩, ?_⟩
     ·have e29 := ch_new (i := 11) (t := 29) h (hw 11 (by decide)) rfl rfl; refine ch_pure ?_; go_simp
     refine ⟨.inl ⟨rfl, fun done a wq hw h => ?_⟩, ?_⟩
     ·have e30 := ch_new (i := 12) (t := 30) h (hw 12 (by decide)) rfl rfl; have hc := (h.bel.cell (p := ⟨b, o + 1, none⟩) (by simp; omega)).trans (show w1.cell? _ = some (iv x0.to_) from y1); refine ch_pure ?_; go_simp
     refine ⟨.inl ⟨rfl, fun done a wq hw h => ?_⟩, ?_⟩
     ·have e27 := ch_new (i := 9) (t := 27) h (hw 9 (by decide)) rfl rfl; have e31 := ch_new (i := 13) (t := 31) h (hw 13 (by decide)) rfl rfl; exact ch_neq_int (by kernel_rfl) (ch_ev e27) (ch_ev e31) (by have hq := T1.out; simp [hq])
     refine ⟨.inl ⟨rfl, fun done a wq hw h => ?_⟩, ?_⟩
     ·have e25 := ch_new (i := 7) (t := 25) h (hw 7 (by decide)) rfl rfl; have e32 := ch_new (i := 14) (t := 32) h (hw 14 (by decide)) rfl rfl; exact ch_pick_f e25 (ch_ev e32)
     refine ⟨.inl ⟨rfl, fun done a wq hw h => ?_⟩, ?_⟩
     ·have e33 := ch_new (i := 15) (t := 33) h (hw 15 (by decide)) rfl rfl; exact ch_move (ch_ev e33)
     refine ⟨.inl ⟨rfl, fun done a wq hw h => ?_⟩, ?_⟩
     ·have e5 := ch_old (t := 5) (v := .pointer (some ⟨wr.heap.size, 0, none⟩)) h rfl rfl; refine ch_pure ?_; go_simp
     refine ⟨.inl ⟨rfl, fun done a wq hw h => ?_⟩, ?_⟩
     ·have e35 := ch_new (i := 17) (t := 35) h (hw 17 (by decide)) rfl rfl; obtain ⟨r_, f_, n_, c_, z_, l_⟩ := keep1 h.bel a0r (by go_simp) a0f; refine ch_pure ?_; go_simp
     refine ⟨.inl ⟨rfl, fun done a wq hw h => ?_⟩, ?_⟩
     ·have e0 := ch_old (t := 0) (v := .slice (some ⟨b, o, none⟩) l.length c) h rfl rfl; exact ch_move (ch_ev e0)
     refine ⟨.inl ⟨rfl, fun done a wq hw h => ?_⟩, ?_⟩
     ·have e37 := ch_new (i := 19) (t := 37) h (hw 19 (by decide)) rfl rfl; refine ch_pure ?_; go_simp
     refine ⟨.inl ⟨rfl, fun done a wq hw h => ?_⟩, ?_⟩
     ·have e38 := ch_new (i := 20) (t := 38) h (hw 20 (by decide)) rfl rfl; refine ch_pure ?_; go_simp
     refine ⟨.inl ⟨rfl, fun done a wq hw h => ?_⟩, ?_⟩
     ·have e39 := ch_new (i := 21) (t := 39) h (hw 21 (by decide)) rfl rfl; have hc := (h.bel.cell (p := ⟨b, o + 3, none⟩) (by simp; omega)).trans (show w1.cell? _ = some (iv x0.of_) from y3); refine ch_pure ?_; go_simp
     refine ⟨.inl ⟨rfl, fun done a wq hw h => ?_⟩, ?_⟩
     ·have e36 := ch_new (i := 18) (t := 36) h (hw 18 (by decide)) rfl rfl; have e40 := ch_new (i := 22) (t := 40) h (hw 22 (by decide)) rfl rfl; exact ch_neq_int (by kernel_rfl) (ch_ev e36) (ch_ev e40) (by have hq := T2.out; simp [hq])
     refine ⟨.inl ⟨rfl, fun done a wq hw h => ?_⟩, ?_⟩
     ·have e34 := ch_new (i := 16) (t := 34) h (hw 16 (by decide)) rfl rfl; have e41 := ch_new (i := 23) (t := 41) h (hw 23 (by decide)) rfl rfl; exact ch_pick_f e34 (ch_ev e41)
     refine ⟨.inl ⟨rfl, fun done a wq hw h => ?_⟩, ?_⟩
     ·have e42 := ch_new (i := 24) (t := 42) h (hw 24 (by decide)) rfl rfl; exact ch_move (ch_ev e42)
     iterate 4 refine ⟨.inr ⟨rfl, rfl⟩, ?_⟩
     refine ⟨.inl ⟨rfl, fun done a wq hw h => ?_⟩, ?_⟩
     ·have e43 := ch_new (i := 25) (t := 43) h (hw 25 (by decide)) rfl rfl; exact ch_pick_t e43 rfl
     exact trivial
    ·intro w2 hb2
     simp only [putAll_some, putAll_none, putAll_nil, List.setIfInBounds_toArray, List.set_cons_zero, List.set_cons_succ]
     have HB2 : Hid (Below w.heap.size w w2) := Lib.hid (HB1.out.trans (hb2.mono HB1.out.size))
     clear hb2 a0r a0f a0n a0c a0z a0l
     go_wp2_with fail
     go_ret
     exact ⟨ret_int HZ.out.symm, HB2.out⟩
   have T2 := Lib.hid (Decidable.not_not.1 t2)
   clear t2
   by_cases t3 : ¬ m < x.n
   ·have HZ : Hid (r = 3) := Lib.hid (by rw [← HE.out, listGo_form HCK.out (by rw [HFO.out]; exact fun h => t3 h.2)])
    have T3 := Lib.hid t3
    clear t3
    refine wp_region_chain (by kernel_rfl) (some 18 :: some 19 :: some 20 :: some 21 :: some 22 :: some 23 :: some 24 :: some 25 :: some 26 :: some 27 :: some 28 :: some 29 :: some 30 :: some 31 :: some 32 :: some 33 :: some 34 :: some 35 :: some 36 :: some 37 :: some 38 :: some 39 :: some 40 :: some 41 :: some 42 :: some 43 :: some 44 :: some 45 :: some 46 :: some 47 :: some 48 :: []) (.pointer (some ⟨wr.heap.size, 0, none⟩) :: iv x.from_ :: .slice (some ⟨b, o, none⟩) l.length c :: .pointer (some ⟨b, o, none⟩) :: .pointer (some ⟨b, o, none⟩) :: iv x0.from_ :: .bool false :: .bool false :: .pointer (some ⟨wr.heap.size, 1, none⟩) :: iv x.to_ :: .slice (some ⟨b, o, none⟩) l.length c :: .pointer (some ⟨b, o, none⟩) :: .pointer (some ⟨b, o + 1, none⟩) :: iv x0.to_ :: .bool false :: .bool false :: .bool false :: .pointer (some ⟨wr.heap.size, 3, none⟩) :: iv x.of_ :: .slice (some ⟨b, o, none⟩) l.length c :: .pointer (some ⟨b, o, none⟩) :: .pointer (some ⟨b, o + 3, none⟩) :: iv x0.of_ :: .bool false :: .bool false :: .bool false :: .pointer (some ⟨wr.heap.size, 2, none⟩) :: iv x.n :: .int .i64 m :: .bool true :: .bool true :: []) 52 rfl rfl (by decide +kernel) (by decide +kernel) (by decide +kernel) rfl ?_ ?_
    ·refine ⟨.inl ⟨rfl, fun done a wq hw h => ?_⟩, ?_⟩
     ·have e5 := ch_old (t := 5) (v := .pointer (some ⟨wr.heap.size, 0, none⟩)) h rfl rfl; refine ch_pure ?_; go_simp
     refine ⟨.inl ⟨rfl, fun done a wq hw h => ?_⟩, ?_⟩
     ·have e18 := ch_new (i := 0) (t := 18) h (hw 0 (by decide)) rfl rfl; obtain ⟨r_, f_, n_, c_, z_, l_⟩ := keep1 h.bel a0r (by go_simp) a0f; refine ch_pure ?_; go_simp
     refine ⟨.inl ⟨rfl, fun done a wq hw h => ?_⟩, ?_⟩
     ·have e0 := ch_old (t := 0) (v := .slice (some ⟨b, o, none⟩) l.length c) h rfl rfl; exact ch_move (ch_ev e0)
     refine ⟨.inl ⟨rfl, fun done a wq hw h => ?_⟩, ?_⟩
     ·have e20 := ch_new (i := 2) (t := 20) h (hw 2 (by decide)) rfl rfl; refine ch_pure ?_; go_simp
     refine ⟨.inl ⟨rfl, fun done a wq hw h => ?_⟩, ?_⟩
     ·have e21 := ch_new (i := 3) (t := 21) h (hw 3 (by decide)) rfl rfl; refine ch_pure ?_; go_simp
     refine ⟨.inl ⟨rfl, fun done a wq hw h => ?_⟩, ?_⟩
     ·have e22 := ch_new (i := 4) (t := 22) h (hw 4 (by decide)) rfl rfl; have hc := (h.bel.cell (p := ⟨b, o, none⟩) (by simp; omega)).trans (show w1.cell? _ = some (iv x0.from_) from y0); refine ch_pure ?_; go_simp
     refine ⟨.inl ⟨rfl, fun done a wq hw h => ?_⟩, ?_⟩
     ·have e19 := ch_new (i := 1) (t := 19) h (hw 1 (by decide)) rfl rfl; have e23 := ch_new (i := 5) (t := 23) h (hw 5 (by decide)) rfl rfl; exact ch_neq_int (by kernel_rfl) (ch_ev e19) (ch_ev e23) (by have hq := T0.out; simp [hq])
     refine ⟨.inl ⟨rfl, fun done a wq hw h => ?_⟩, ?_⟩
     ·have e24 := ch_new (i := 6) (t := 24) h (hw 6 (by decide)) rfl rfl; exact ch_move (ch_ev e24)
     refine ⟨.inl ⟨rfl, fun done a wq hw h => ?_⟩, ?_⟩
     ·have e5 := ch_old (t := 5) (v := .pointer (some ⟨wr.heap.size, 0, none⟩)) h rfl rfl; refine ch_pure ?_; go_simp
     refine ⟨.inl ⟨rfl, fun done a wq hw h => ?_⟩, ?_⟩
     ·have e26 := ch_new (i := 8) (t := 26) h (hw 8 (by decide)) rfl rfl; obtain ⟨r_, f_, n_, c_, z_, l_⟩ := keep1 h.bel a0r (by go_simp) a0f; refine ch_pure ?_; go_simp
     refine ⟨.inl ⟨rfl, fun done a wq hw h => ?_⟩, ?_⟩
     ·have e0 := ch_old (t := 0) (v := .slice (some ⟨b, o, none⟩) l.length c) h rfl rfl; exact ch_move (ch_ev e0)
     refine ⟨.inl ⟨rfl, fun done a wq hw h => ?_⟩, ?_⟩
     ·have e28 := ch_new (i := 10) (t := 28) h (hw 10 (by decide)) rfl rfl; refine ch_pure ?_; go_simp
     refine ⟨.inl ⟨rfl, fun done a wq hw h => ?_⟩, ?_⟩
     ·have e29 := ch_new (i := 11) (t := 29) h (hw 11 (by decide)) rfl rfl; refine ch_pure ?_; go_simp
     refine ⟨.inl ⟨rfl, fun done a wq hw h => ?_⟩, ?_⟩
     ·have e30 := ch_new (i := 12) (t := 30) h (hw 12 (by decide)) rfl rfl; have hc := (h.bel.cell (p := ⟨b, o + 1, none⟩) (by simp; omega)).trans (show w1.cell? _ = some (iv x0.to_) from y1); refine ch_pure ?_; go_simp
     refine ⟨.inl ⟨rfl, fun done a wq hw h => ?_⟩, ?_⟩
     ·have e27 := ch_new (i := 9) (t := 27) h (hw 9 (by decide)) rfl rfl; have e31 := ch_new (i := 13) (t := 31) h (hw 13 (by decide)) rfl rfl; exact ch_neq_int (by kernel_rfl) (ch_ev e27) (ch_ev e31) (by have hq := T1.out; simp [hq])
     refine ⟨.inl ⟨rfl, fun done a wq hw h => ?_⟩, ?_⟩
     ·have e25 := ch_new (i := 7) (t := 25) h (hw 7 (by decide)) rfl rfl; have e32 := ch_new (i := 14) (t := 32) h (hw 14 (by decide)) rfl rfl; exact ch_pick_f e25 (ch_ev e32)
     refine ⟨.inl ⟨rfl, fun done a wq hw h => ?_⟩, ?_⟩
     ·have e33 := ch_new (i := 15) (t := 33) h (hw 15 (by decide)) rfl rfl; exact ch_move (ch_ev e33)
     refine ⟨.inl ⟨rfl, fun done a wq hw h => ?_⟩, ?_⟩
     ·have e5 := ch_old (t := 5) (v := .pointer (some ⟨wr.heap.size, 0, none⟩)) h rfl rfl; refine ch_pure ?_; go_simp
     refine ⟨.inl ⟨rfl, fun done a wq hw h => ?_⟩, ?_⟩
     ·have e35 := ch_new (i := 17) (t := 35) h (hw 17 (by decide)) rfl rfl; obtain ⟨r_, f_, n_, c_, z_, l_⟩ := keep1 h.bel a0r (by go_simp) a0f; refine ch_pure ?_; go_simp
     refine ⟨.inl ⟨rfl, fun done a wq hw h => ?_⟩, ?_⟩
     ·have e0 := ch_old (t := 0) (v := .slice (some ⟨b, o, none⟩) l.length c) h rfl rfl; exact ch_move (ch_ev e0)
     refine ⟨.inl ⟨rfl, fun done a wq hw h => ?_⟩, ?_⟩
     ·have e37 := ch_new (i := 19) (t := 37) h (hw 19 (by decide)) rfl rfl; refine ch_pure ?_; go_simp
     refine ⟨.inl ⟨rfl, fun done a wq hw h => ?_⟩, ?_⟩
     ·have e38 := ch_new (i := 20) (t := 38) h (hw 20 (by decide)) rfl rfl; refine ch_pure ?_; go_simp
     refine ⟨.inl ⟨rfl, fun done a wq hw h => ?_⟩, ?_⟩
     ·have e39 := ch_new (i := 21) (t := 39) h (hw 21 (by decide)) rfl rfl; have hc := (h.bel.cell (p := ⟨b, o + 3, none⟩) (by simp; omega)).trans (show w1.cell? _ = some (iv x0.of_) from y3); refine ch_pure ?_; go_simp
     refine ⟨.inl ⟨rfl, fun done a wq hw h => ?_⟩, ?_⟩
     ·have e36 := ch_new (i := 18) (t := 36) h (hw 18 (by decide)) rfl rfl; have e40 := ch_new (i := 22) (t := 40) h (hw 22 (by decide)) rfl rfl; exact ch_neq_int (by kernel_rfl) (ch_ev e36) (ch_ev e40) (by have hq := T2.out; simp [hq])
     refine ⟨.inl ⟨rfl, fun done a wq hw h => ?_⟩, ?_⟩
     ·have e34 := ch_new (i := 16) (t := 34) h (hw 16 (by decide)) rfl rfl; have e41 := ch_new (i := 23) (t := 41) h (hw 23 (by decide)) rfl rfl; exact ch_pick_f e34 (ch_ev e41)
     refine ⟨.inl ⟨rfl, fun done a wq hw h => ?_⟩, ?_⟩
     ·have e42 := ch_new (i := 24) (t := 42) h (hw 24 (by decide)) rfl rfl; exact ch_move (ch_ev e42)
     refine ⟨.inl ⟨rfl, fun done a wq hw h => ?_⟩, ?_⟩
     ·have e5 := ch_old (t := 5) (v := .pointer (some ⟨wr.heap.size, 0, none⟩)) h rfl rfl; refine ch_pure ?_; go_simp
     refine ⟨.inl ⟨rfl, fun done a wq hw h => ?_⟩, ?_⟩
     ·have e44 := ch_new (i := 26) (t := 44) h (hw 26 (by decide)) rfl rfl; obtain ⟨r_, f_, n_, c_, z_, l_⟩ := keep1 h.bel a0r (by go_simp) a0f; refine ch_pure ?_; go_simp
     refine ⟨.inl ⟨rfl, fun done a wq hw h => ?_⟩, ?_⟩
     ·have e3 := ch_old (t := 3) (v := .int .i64 m) h rfl rfl; exact ch_move (ch_ev e3)
     refine ⟨.inl ⟨rfl, fun done a wq hw h => ?_⟩, ?_⟩
     ·have e45 := ch_new (i := 27) (t := 45) h (hw 27 (by decide)) rfl rfl; have e46 := ch_new (i := 28) (t := 46) h (hw 28 (by decide)) rfl rfl; exact ch_leq_int (by kernel_rfl) (ch_ev e45) (ch_ev e46) (by have hq := T3.out; simp; omega)
     refine ⟨.inl ⟨rfl, fun done a wq hw h => ?_⟩, ?_⟩
     ·have e43 := ch_new (i := 25) (t := 43) h (hw 25 (by decide)) rfl rfl; have e47 := ch_new (i := 29) (t := 47) h (hw 29 (by decide)) rfl rfl; exact ch_pick_f e43 (ch_ev e47)
     exact trivial
    ·intro w2 hb2
     simp only [putAll_some, putAll_none, putAll_nil, List.setIfInBounds_toArray, List.set_cons_zero, List.set_cons_succ]
     have HB2 : Hid (Below w.heap.size w w2) := Lib.hid (HB1.out.trans (hb2.mono HB1.out.size))
     clear hb2 a0r a0f a0n a0c a0z a0l
     go_wp2_with fail
     go_ret
     exact ⟨ret_int HZ.out.symm, HB2.out⟩
   have T3 := Lib.hid (Decidable.not_not.1 t3)
   clear t3
   have HKI : Hid (kin x0 x) := Lib.hid ⟨T0.out.symm, T1.out.symm, T2.out.symm⟩
   have HZ : Hid (listGo (some x) (l.drop (k + 1)) = r) := Lib.hid (by rw [← HE.out, listGo_next HCK.out (HFO.out.2 ⟨HKI.out, T3.out⟩)])
   refine wp_region_chain (by kernel_rfl) (some 18 :: some 19 :: some 20 :: some 21 :: some 22 :: some 23 :: some 24 :: some 25 :: some 26 :: some 27 :: some 28 :: some 29 :: some 30 :: some 31 :: some 32 :: some 33 :: some 34 :: some 35 :: some 36 :: some 37 :: some 38 :: some 39 :: some 40 :: some 41 :: some 42 :: some 43 :: some 44 :: some 45 :: some 46 :: some 47 :: some 48 :: []) (.pointer (some ⟨wr.heap.size, 0, none⟩) :: iv x.from_ :: .slice (some ⟨b, o, none⟩) l.length c :: .pointer (some ⟨b, o, none⟩) :: .pointer (some ⟨b, o, none⟩) :: iv x0.from_ :: .bool false :: .bool false :: .pointer (some ⟨wr.heap.size, 1, none⟩) :: iv x.to_ :: .slice (some ⟨b, o, none⟩) l.length c :: .pointer (some ⟨b, o, none⟩) :: .pointer (some ⟨b, o + 1, none⟩) :: iv x0.to_ :: .bool false :: .bool false :: .bool false :: .pointer (some ⟨wr.heap.size, 3, none⟩) :: iv x.of_ :: .slice (some ⟨b, o, none⟩) l.length c :: .pointer (some ⟨b, o, none⟩) :: .pointer (some ⟨b, o + 3, none⟩) :: iv x0.of_ :: .bool false :: .bool false :: .bool false :: .pointer (some ⟨wr.heap.size, 2, none⟩) :: iv x.n :: .int .i64 m :: .bool false :: .bool false :: []) 52 rfl rfl (by decide +kernel) (by decide +kernel) (by decide +kernel) rfl ?_ ?_
   ·refine ⟨.inl ⟨rfl, fun done a wq hw h => ?_⟩, ?_⟩
    ·have e5 := ch_old (t := 5) (v := .pointer (some ⟨wr.heap.size, 0, none⟩)) h rfl rfl; refine ch_pure ?_; go_simp
    refine ⟨.inl ⟨rfl, fun done a wq hw h => ?_⟩, ?_⟩
    ·have e18 := ch_new (i := 0) (t := 18) h (hw 0 (by decide)) rfl rfl; obtain ⟨r_, f_, n_, c_, z_, l_⟩ := keep1 h.bel a0r (by go_simp) a0f; refine ch_pure ?_; go_simp
    refine ⟨.inl ⟨rfl, fun done a wq hw h => ?_⟩, ?_⟩
    ·have e0 := ch_old (t := 0) (v := .slice (some ⟨b, o, none⟩) l.length c) h rfl rfl; exact ch_move (ch_ev e0)
    refine ⟨.inl ⟨rfl, fun done a wq hw h => ?_⟩, ?_⟩
    ·have e20 := ch_new (i := 2) (t := 20) h (hw 2 (by decide)) rfl rfl; refine ch_pure ?_; go_simp
    refine ⟨.inl ⟨rfl, fun done a wq hw h => ?_⟩, ?_⟩
    ·have e21 := ch_new (i := 3) (t := 21) h (hw 3 (by decide)) rfl rfl; refine ch_pure ?_; go_simp
    refine ⟨.inl ⟨rfl, fun done a wq hw h => ?_⟩, ?_⟩
    ·have e22 := ch_new (i := 4) (t := 22) h (hw 4 (by decide)) rfl rfl; have hc := (h.bel.cell (p := ⟨b, o, none⟩) (by simp; omega)).trans (show w1.cell? _ = some (iv x0.from_) from y0); refine ch_pure ?_; go_simp
    refine ⟨.inl ⟨rfl, fun done a wq hw h => ?_⟩, ?_⟩
    ·have e19 := ch_new (i := 1) (t := 19) h (hw 1 (by decide)) rfl rfl; have e23 := ch_new (i := 5) (t := 23) h (hw 5 (by decide)) rfl rfl; exact ch_neq_int (by kernel_rfl) (ch_ev e19) (ch_ev e23) (by have hq := T0.out; simp [hq])
    refine ⟨.inl ⟨rfl, fun done a wq hw h => ?_⟩, ?_⟩
    ·have e24 := ch_new (i := 6) (t := 24) h (hw 6 (by decide)) rfl rfl; exact ch_move (ch_ev e24)
    refine ⟨.inl ⟨rfl, fun done a wq hw h => ?_⟩, ?_⟩
    ·have e5 := ch_old (t := 5) (v := .pointer (some ⟨wr.heap.size, 0, none⟩)) h rfl rfl; refine ch_pure ?_; go_simp
    refine ⟨.inl ⟨rfl, fun done a wq hw h => ?_⟩, ?_⟩
    ·have e26 := ch_new (i := 8) (t := 26) h (hw 8 (by decide)) rfl rfl; obtain ⟨r_, f_, n_, c_, z_, l_⟩ := keep1 h.bel a0r (by go_simp) a0f; refine ch_pure ?_; go_simp
    refine ⟨.inl ⟨rfl, fun done a wq hw h => ?_⟩, ?_⟩
    ·have e0 := ch_old (t := 0) (v := .slice (some ⟨b, o, none⟩) l.length c) h rfl rfl; exact ch_move (ch_ev e0)
    refine ⟨.inl ⟨rfl, fun done a wq hw h => ?_⟩, ?_⟩
    ·have e28 := ch_new (i := 10) (t := 28) h (hw 10 (by decide)) rfl rfl; refine ch_pure ?_; go_simp
    refine ⟨.inl ⟨rfl, fun done a wq hw h => ?_⟩, ?_⟩
    ·have e29 := ch_new (i := 11) (t := 29) h (hw 11 (by decide)) rfl rfl; refine ch_pure ?_; go_simp
    refine ⟨.inl ⟨rfl, fun done a wq hw h => ?_⟩, ?_⟩
    ·have e30 := ch_new (i := 12) (t := 30) h (hw 12 (by decide)) rfl rfl; have hc := (h.bel.cell (p := ⟨b, o + 1, none⟩) (by simp; omega)).trans (show w1.cell? _ = some (iv x0.to_) from y1); refine ch_pure ?_; go_simp
    refine ⟨.inl ⟨rfl, fun done a wq hw h => ?_⟩, ?_⟩
    ·have e27 := ch_new (i := 9) (t := 27) h (hw 9 (by decide)) rfl rfl; have e31 := ch_new (i := 13) (t := 31) h (hw 13 (by decide)) rfl rfl; exact ch_neq_int (by kernel_rfl) (ch_ev e27) (ch_ev e31) (by have hq := T1.out; simp [hq])
    refine ⟨.inl ⟨rfl, fun done a wq hw h => ?_⟩, ?_⟩
    ·have e25 := ch_new (i := 7) (t := 25) h (hw 7 (by decide)) rfl rfl; have e32 := ch_new (i := 14) (t := 32) h (hw 14 (by decide)) rfl rfl; exact ch_pick_f e25 (ch_ev e32)
    refine ⟨.inl ⟨rfl, fun done a wq hw h => ?_⟩, ?_⟩
    ·have e33 := ch_new (i := 15) (t := 33) h (hw 15 (by decide)) rfl rfl; exact ch_move (ch_ev e33)
    refine ⟨.inl ⟨rfl, fun done a wq hw h => ?_⟩, ?_⟩
    ·have e5 := ch_old (t := 5) (v := .pointer (some ⟨wr.heap.size, 0, none⟩)) h rfl rfl; refine ch_pure ?_; go_simp
    refine ⟨.inl ⟨rfl, fun done a wq hw h => ?_⟩, ?_⟩
    ·have e35 := ch_new (i := 17) (t := 35) h (hw 17 (by decide)) rfl rfl; obtain ⟨r_, f_, n_, c_, z_, l_⟩ := keep1 h.bel a0r (by go_simp) a0f; refine ch_pure ?_; go_simp
    refine ⟨.inl ⟨rfl, fun done a wq hw h => ?_⟩, ?_⟩
    ·have e0 := ch_old (t := 0) (v := .slice (some ⟨b, o, none⟩) l.length c) h rfl rfl; exact ch_move (ch_ev e0)
    refine ⟨.inl ⟨rfl, fun done a wq hw h => ?_⟩, ?_⟩
    ·have e37 := ch_new (i := 19) (t := 37) h (hw 19 (by decide)) rfl rfl; refine ch_pure ?_; go_simp
    refine ⟨.inl ⟨rfl, fun done a wq hw h => ?_⟩, ?_⟩
    ·have e38 := ch_new (i := 20) (t := 38) h (hw 20 (by decide)) rfl rfl; refine ch_pure ?_; go_simp
    refine ⟨.inl ⟨rfl, fun done a wq hw h => ?_⟩, ?_⟩
    ·have e39 := ch_new (i := 21) (t := 39) h (hw 21 (by decide)) rfl rfl; have hc := (h.bel.cell (p := ⟨b, o + 3, none⟩) (by simp; omega)).trans (show w1.cell? _ = some (iv x0.of_) from y3); refine ch_pure ?_; go_simp
    refine ⟨.inl ⟨rfl, fun done a wq hw h => ?_⟩, ?_⟩
    ·have e36 := ch_new (i := 18) (t := 36) h (hw 18 (by decide)) rfl rfl; have e40 := ch_new (i := 22) (t := 40) h (hw 22 (by decide)) rfl rfl; exact ch_neq_int (by kernel_rfl) (ch_ev e36) (ch_ev e40) (by have hq := T2.out; simp [hq])
    refine ⟨.inl ⟨rfl, fun done a wq hw h => ?_⟩, ?_⟩
    ·have e34 := ch_new (i := 16) (t := 34) h (hw 16 (by decide)) rfl rfl; have e41 := ch_new (i := 23) (t := 41) h (hw 23 (by decide)) rfl rfl; exact ch_pick_f e34 (ch_ev e41)
    refine ⟨.inl ⟨rfl, fun done a wq hw h => ?_⟩, ?_⟩
    ·have e42 := ch_new (i := 24) (t := 42) h (hw 24 (by decide)) rfl rfl; exact ch_move (ch_ev e42)
    refine ⟨.inl ⟨rfl, fun done a wq hw h => ?_⟩, ?_⟩
    ·have e5 := ch_old (t := 5) (v := .pointer (some ⟨wr.heap.size, 0, none⟩)) h rfl rfl; refine ch_pure ?_; go_simp
    refine ⟨.inl ⟨rfl, fun done a wq hw h => ?_⟩, ?_⟩
    ·have e44 := ch_new (i := 26) (t := 44) h (hw 26 (by decide)) rfl rfl; obtain ⟨r_, f_, n_, c_, z_, l_⟩ := keep1 h.bel a0r (by go_simp) a0f; refine ch_pure ?_; go_simp
    refine ⟨.inl ⟨rfl, fun done a wq hw h => ?_⟩, ?_⟩
    ·have e3 := ch_old (t := 3) (v := .int .i64 m) h rfl rfl; exact ch_move (ch_ev e3)
    refine ⟨.inl ⟨rfl, fun done a wq hw h => ?_⟩, ?_⟩
    ·have e45 := ch_new (i := 27) (t := 45) h (hw 27 (by decide)) rfl rfl; have e46 := ch_new (i := 28) (t := 46) h (hw 28 (by decide)) rfl rfl; exact ch_leq_int (by kernel_rfl) (ch_ev e45) (ch_ev e46) (by have hq := T3.out; simp; omega)
    refine ⟨.inl ⟨rfl, fun done a wq hw h => ?_⟩, ?_⟩
    ·have e43 := ch_new (i := 25) (t := 43) h (hw 25 (by decide)) rfl rfl; have e47 := ch_new (i := 29) (t := 47) h (hw 29 (by decide)) rfl rfl; exact ch_pick_f e43 (ch_ev e47)
    exact trivial
   ·intro w2 hb2
    simp only [putAll_some, putAll_none, putAll_nil, List.setIfInBounds_toArray, List.set_cons_zero, List.set_cons_succ]
    obtain ⟨a0r, a0f, a0n, a0c, a0z, a0l⟩ := keep1 (g := wr.heap.size) (cs := chkA x.from_ x.to_ x.n x.of_ B x.data.length cx) hb2 a0r (by go_simp) a0f
    have HB2 : Hid (Below w.heap.size w w2) := Lib.hid (HB1.out.trans (hb2.mono HB1.out.size))
    clear hb2
    go_wp2_with fail
    go_roundw
    case rel => exact ⟨k + 1, x.n, by omega, by go_num, rfl, Lib.hid (by rw [HLAST.out]; exact HZ.out), Lib.hid (fun e => by omega), Lib.hid (fun q e => by rw [HLAST.out] at e; injection e with e; subst e; exact ⟨rfl, fun z hz => by rw [HX0.out] at hz; injection hz with hz; subst hz; exact HKI.out⟩), HB2⟩
    case measure => simp [intOf]; omega
  ·have hz : r = 0 := by rw [← HE.out, List.drop_of_length_le (by omega)]; rfl
   have HZ := Lib.hid hz
   clear hz
   go_wp2_with fail
   go_ret
   exact ⟨ret_int HZ.out.symm, HB.out⟩
end Go.Proofs.YtefkfglkpebbmadGreat
