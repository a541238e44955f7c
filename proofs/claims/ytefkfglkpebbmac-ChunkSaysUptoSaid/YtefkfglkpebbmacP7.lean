/- Walks of functions, and plain words. No conditions. -/
import Derived.Test.YtefkfglkpebbmacP6
import Derived.Deep.DeepCutAuto
import Derived.Lib.MakeNoZero
set_option linter.unusedVariables false
set_option linter.unusedSimpArgs false
set_option maxRecDepth 100000
set_option maxHeartbeats 40000000
namespace Go.Proofs.Ytefkfglkpebbmac
open Go.RowKit
variable {k : Nat} {R : List Value}
theorem refChkCheckX_calls (A : Option Addr) (c : Nat) (x : Chk) (w : World) (h : I64 x.n ∧ I64 x.of_) :
  Calls Try.prog 48 #[.agg (chkA x.from_ x.to_ x.n x.of_ A x.data.length c)] w (RetB w (iv (chkCheck x))) := refChkCheck_calls A c x.from_ x.to_ x.n x.of_ x.data w h.1 h.2
theorem refChkList_calls (A : Option Addr) (c : Nat) (l : List Chk) (w : World) (hl : l.length ≤ 1048576) (hs : Chs w A l) :
  Calls Try.prog 49 #[.slice A l.length c] w (RetB w (iv (chkList l))) := by
 have HS := Lib.hid hs
 clear hs
 obtain ⟨r, hr⟩ : ∃ r, chkList l = r := ⟨_, rfl⟩
 rw [hr]
 have HR : Hid (listGo none l = r) := Lib.hid hr
 clear hr
 go_enter Try.func49, Try.ntmps49
 go_wp2_with fail
 go_loopw [9, 3] (fun i z wr => ∃ (k : Nat) (m : Int), k ≤ l.length ∧ i = .int .i64 k ∧ z = .int .i64 m ∧ Hid (listGo ((l.take k).getLast?) (l.drop k) = r) ∧ Hid (k = 0 → m = -1) ∧ Hid (∀ q, (l.take k).getLast? = some q → q.n = m ∧ ∀ x0, l[0]? = some x0 → kin x0 q) ∧ Hid (Below w.heap.size w wr)) (fun i _ _ => l.length - (intOf i).toNat)
 case atStart => exact ⟨0, -1, Nat.zero_le _, rfl, rfl, Lib.hid HR.out, Lib.hid (fun _ => rfl), Lib.hid (fun q e => by simp at e), Lib.hid (Below.refl _ _)⟩
 case round =>
  rename World => wr
  obtain ⟨k, m, hk, rfl, rfl, HE, HM0, HQ, HB⟩ := hrel
  have hsz := HB.out.size
  by_cases hlt : k < l.length
  ·obtain ⟨b, o, B, cx, rfl, hb, hat, hin⟩ := HS.out.chk hlt
   have hdr : l.drop k = l[k] :: l.drop (k + 1) := List.drop_eq_getElem_cons hlt
   have hlast : (l.take (k + 1)).getLast? = some l[k] := by rw [List.take_succ_eq_append_getElem hlt, List.getLast?_concat]
   obtain ⟨x0, hx0⟩ : ∃ x0, l[0]? = some x0 := ⟨_, List.getElem?_eq_getElem (by omega)⟩
   have hat0 : ∃ D d, ChkAt w b o x0 D d := by
    obtain ⟨b', o', D, d, e, _, h1, _⟩ := HS.out.chk (i := 0) (by omega)
    injection e with e
    injection e with e1 e2
    subst e1 e2
    rw [List.getElem?_eq_getElem (by omega)] at hx0
    injection hx0 with hx0
    rw [hx0] at h1
    exact ⟨D, d, by simpa using h1⟩
   obtain ⟨D0, d0, hat0⟩ := hat0
   have h00 : k = 0 → l[k] = x0 := fun e => by
    subst e
    rw [List.getElem?_eq_getElem (by omega)] at hx0
    injection hx0
   obtain ⟨x, hx⟩ : ∃ x, l[k] = x := ⟨_, rfl⟩
   rw [hx] at hdr hlast hat hin h00
   rw [hdr] at HE
   obtain ⟨p, hp⟩ : ∃ p, (l.take k).getLast? = p := ⟨_, rfl⟩
   rw [hp] at HE HQ
   have HX0 := Lib.hid hx0
   have HFOL : Hid (chkCheck x = 0 → (follows p x ↔ kin x0 x ∧ m < x.n)) := Lib.hid (fun hck => by
    by_cases hk0 : k = 0
    ·have e1 : p = none := by rw [← hp, hk0]; simp
     have e2 := HM0.out hk0
     have e3 := h00 hk0
     obtain ⟨⟨_, _, _, _, _, _, h7, _⟩, _⟩ := chkCheck_ok.1 hck
     subst e1 e2 e3
     exact ⟨fun _ => ⟨kin_refl _, by omega⟩, fun _ q e => by cases e⟩
    ·obtain ⟨q, hq⟩ : ∃ q, p = some q := by
      rw [← hp, List.getLast?_take, if_neg hk0, List.getElem?_eq_getElem (by omega)]
      exact ⟨_, rfl⟩
     obtain ⟨g1, g2⟩ := HQ.out q hq
     have g3 := g2 x0 hx0
     subst hq g1
     constructor
     ·intro h
      obtain ⟨h1, h2⟩ := h q rfl
      exact ⟨kin_trans g3 h1, h2⟩
     ·rintro ⟨h1, h2⟩ z e
      injection e with e
      subst e
      exact ⟨kin_trans (kin_symm g3) h1, h2⟩)
   have HLAST := Lib.hid hlast
   have hat2 := hat.stays hb HB.out
   have hat3 := hat0.stays hb HB.out
   obtain ⟨c0, c1, c2, c3, c4⟩ := hat2
   obtain ⟨y0, y1, y2, y3, y4⟩ := hat3
   have HK := Lib.hid (fun w => refChkCheckX_calls B cx x w ⟨hin.i2, hin.i3⟩)
   have hblt : b < wr.heap.size := by omega
   have dl : decide ((k : Int) < (l.length : Int)) = true := decide_eq_true (by omega)
   have hwk : IntKind.i64.wrap ((k : Int) + 1) = (k : Int) + 1 := IntWalk.i64_in _ (by omega)
   have hl0 : ¬ (l.length : Int) ≤ 0 := by omega
   have hne : ¬ l = [] := fun e => by rw [e] at hlt; simp at hlt
   clear hdr hlast hx hp hat hin hat0 h00 hx0 HM0 HQ
   by_cases hck : chkCheck x ≠ 0
   ·have hz : r = chkCheck x := by rw [← HE.out, listGo_bad hck]
    have q : (chkCheck x != 0) = true := by simp [hck]
    have HZ := Lib.hid hz
    clear hck hz
    go_wp2_with fail
    refine (HK.out _).mono ?_
    rintro e w1 ⟨rfl, hb1⟩
    have HB1 : Hid (Below w.heap.size w w1) := by
     refine Lib.hid (HB.out.trans (Below.trans ?_ (hb1.mono (by first | omega | (simp <;> omega)))))
     repeat (first | exact Below.refl _ _ | refine Below.alloc ?_ (by first | omega | (simp <;> omega)) _)
    clear hb1
    go_wp2_with fail
    go_ret
    exact ⟨ret_int HZ.out.symm, HB1.out⟩
   have hck := Decidable.not_not.1 hck
   have HCK := Lib.hid hck
   have HFO := Lib.hid (HFOL.out hck)
   rw [hck] at HK
   clear hck HFOL
   go_wp2_with fail
   refine (HK.out _).mono ?_
   rintro e w1 ⟨rfl, hb1⟩
   obtain ⟨a0r, a0f, a0n, a0c, a0z, a0l⟩ := keep1 (g := wr.heap.size) (cs := chkA x.from_ x.to_ x.n x.of_ B x.data.length cx) hb1 (by first | (go_simp; done) | (go_simp; rfl)) (by go_simp) (by go_simp)
   have hbb : Below wr.heap.size wr w1 := by
    refine Below.trans ?_ (hb1.mono (by first | omega | (simp <;> omega)))
    repeat (first | exact Below.refl _ _ | refine Below.alloc ?_ (by first | omega | (simp <;> omega)) _)
   have HB1 : Hid (Below w.heap.size w w1) := Lib.hid (HB.out.trans (hbb.mono hsz))
   have y0 := (hbb.cell (p := ⟨b, o, none⟩) hblt).trans y0
   have y1 := (hbb.cell (p := ⟨b, o + 1, none⟩) hblt).trans y1
   have y3 := (hbb.cell (p := ⟨b, o + 3, none⟩) hblt).trans y3
   have hs1 := HB1.out.size
   have hs2 := hbb.size
   have hbl1 : b < w1.heap.size := by omega
   clear hb1 hbb c0 c1 c2 c3 c4 y2 y4
   go_wp2_with fail
   by_cases t0 : ¬ x.from_ = x0.from_
   ·have HZ : Hid (r = 3) := Lib.hid (by rw [← HE.out, listGo_form HCK.out (by rw [HFO.out]; exact fun h => t0 h.1.1.symm)])
    have T0 := Lib.hid t0
    clear t0
    refine wp_region_chain (by kernel_rfl) (some 18 :: some 19 :: some 20 :: some 21 :: some 22 :: some 23 :: some 24 :: some 25 :: some 26 :: some 27 :: some 28 :: some 29 :: some 30 :: some 31 :: some 32 :: some 33 :: some 34 :: some 35 :: some 36 :: some 37 :: some 38 :: some 39 :: some 40 :: some 41 :: some 42 :: some 43 :: some 44 :: some 45 :: some 46 :: some 47 :: some 48 :: []) (.pointer (some ⟨wr.heap.size, 0, none⟩) :: iv x.from_ :: .slice (some ⟨b, o, none⟩) l.length c :: .pointer (some ⟨b, o, none⟩) :: .pointer (some ⟨b, o, none⟩) :: iv x0.from_ :: .bool true :: .bool true :: undef :: undef :: undef :: undef :: undef :: undef :: undef :: .bool true :: .bool true :: undef :: undef :: undef :: undef :: undef :: undef :: undef :: .bool true :: .bool true :: undef :: undef :: undef :: undef :: .bool true :: []) 52 rfl rfl (by decide +kernel) (by decide +kernel) (by decide +kernel) rfl ?_ ?_
    ·refine ⟨.inl ⟨rfl, fun done a wq hw h => ?_⟩, ?_⟩
     ·have e5 := ch_old (t := 5) (v := .pointer (some ⟨wr.heap.size, 0, none⟩)) h rfl rfl; refine ch_pure ?_; go_simp
     refine ⟨.inl ⟨rfl, fun done a wq hw h => ?_⟩, ?_⟩
     ·have e18 := ch_new (i := 0) (t := 18) h (hw 0 (by decide)) rfl rfl; obtain ⟨r_, f_, n_, c_, z_, l_⟩ := keep1 h.bel a0r (by go_simp) a0f; refine ch_pure ?_; go_simp
     refine ⟨.inl ⟨rfl, fun done a wq hw h => ?_⟩, ?_⟩
     ·have e0 := ch_old (t := 0) (v := .slice (some ⟨b, o, none⟩) l.length c) h rfl rfl; exact ch_move (ch_ev e0)
     refine ⟨.inl ⟨rfl, fun done a wq hw h => ?_⟩, ?_⟩
     ·have e20 := ch_new (i := 2) (t := 20) h (hw 2 (by decide)) rfl rfl; refine ch_pure ?_; go_simp
     refine ⟨.inl ⟨rfl, fun done a wq hw h => ?_⟩, ?_⟩
     ·have e21 := ch_new (i := 3) (t := 21) h (hw 3 (by decide)) rfl rfl; refine ch_pure ?_; go_simp
     refine ⟨.inl ⟨rfl, fun done a wq hw h => ?_⟩, ?_⟩
     ·have e22 := ch_new (i := 4) (t := 22) h (hw 4 (by decide)) rfl rfl; have hc := (h.bel.cell (p := ⟨b, o, none⟩) (by simp; omega)).trans (show w1.cell? _ = some (iv x0.from_) from y0); refine ch_pure ?_; go_simp
     refine ⟨.inl ⟨rfl, fun done a wq hw h => ?_⟩, ?_⟩
     ·have e19 := ch_new (i := 1) (t := 19) h (hw 1 (by decide)) rfl rfl; have e23 := ch_new (i := 5) (t := 23) h (hw 5 (by decide)) rfl rfl; exact ch_neq_int (by kernel_rfl) (ch_ev e19) (ch_ev e23) (by have hq := T0.out; simp [hq])
     refine ⟨.inl ⟨rfl, fun done a wq hw h => ?_⟩, ?_⟩
     ·have e24 := ch_new (i := 6) (t := 24) h (hw 6 (by decide)) rfl rfl; exact ch_move (ch_ev e24)
     iterate 7 refine ⟨.inr ⟨rfl, rfl⟩, ?_⟩
     refine ⟨.inl ⟨rfl, fun done a wq hw h => ?_⟩, ?_⟩
     ·have e25 := ch_new (i := 7) (t := 25) h (hw 7 (by decide)) rfl rfl; exact ch_pick_t e25 rfl
     refine ⟨.inl ⟨rfl, fun done a wq hw h => ?_⟩, ?_⟩
     ·have e33 := ch_new (i := 15) (t := 33) h (hw 15 (by decide)) rfl rfl; exact ch_move (ch_ev e33)
     iterate 7 refine ⟨.inr ⟨rfl, rfl⟩, ?_⟩
     refine ⟨.inl ⟨rfl, fun done a wq hw h => ?_⟩, ?_⟩
     ·have e34 := ch_new (i := 16) (t := 34) h (hw 16 (by decide)) rfl rfl; exact ch_pick_t e34 rfl
     refine ⟨.inl ⟨rfl, fun done a wq hw h => ?_⟩, ?_⟩
     ·have e42 := ch_new (i := 24) (t := 42) h (hw 24 (by decide)) rfl rfl; exact ch_move (ch_ev e42)
     iterate 4 refine ⟨.inr ⟨rfl, rfl⟩, ?_⟩
     refine ⟨.inl ⟨rfl, fun done a wq hw h => ?_⟩, ?_⟩
     ·have e43 := ch_new (i := 25) (t := 43) h (hw 25 (by decide)) rfl rfl; exact ch_pick_t e43 rfl
     exact trivial
    ·intro w2 hb2
     simp only [putAll_some, putAll_none, putAll_nil, List.setIfInBounds_toArray, List.set_cons_zero, List.set_cons_succ]
     have HB2 : Hid (Below w.heap.size w w2) := Lib.hid (HB1.out.trans (hb2.mono HB1.out.size))
     clear hb2 a0r a0f a0n a0c a0z a0l
     go_wp2_with fail
     go_ret
     exact ⟨ret_int HZ.out.symm, HB2.out⟩
   have T0 := Lib.hid (Decidable.not_not.1 t0)
   clear t0
   by_cases t1 : ¬ x.to_ = x0.to_
   ·have HZ : Hid (r = 3) := Lib.hid (by rw [← HE.out, listGo_form HCK.out (by rw [HFO.out]; exact fun h => t1 h.1.2.1.symm)])
    have T1 := Lib.hid t1
    clear t1
    refine wp_region_chain (by kernel_rfl) (some 18 :: some 19 :: some 20 :: some 21 :: some 22 :: some 23 :: some 24 :: some 25 :: some 26 :: some 27 :: some 28 :: some 29 :: some 30 :: some 31 :: some 32 :: some 33 :: some 34 :: some 35 :: some 36 :: some 37 :: some 38 :: some 39 :: some 40 :: some 41 :: some 42 :: some 43 :: some 44 :: some 45 :: some 46 :: some 47 :: some 48 :: []) (.pointer (some ⟨wr.heap.size, 0, none⟩) :: iv x.from_ :: .slice (some ⟨b, o, none⟩) l.length c :: .pointer (some ⟨b, o, none⟩) :: .pointer (some ⟨b, o, none⟩) :: iv x0.from_ :: .bool false :: .bool false :: .pointer (some ⟨wr.heap.size, 1, none⟩) :: iv x.to_ :: .slice (some ⟨b, o, none⟩) l.length c :: .pointer (some ⟨b, o, none⟩) :: .pointer (some ⟨b, o + 1, none⟩) :: iv x0.to_ :: .bool true :: .bool true :: .bool true :: undef :: undef :: undef :: undef :: undef :: undef :: undef :: .bool true :: .bool true :: undef :: undef :: undef :: undef :: .bool true :: []) 52 rfl rfl (by decide +kernel) (by decide +kernel) (by decide +kernel) rfl ?_ ?_
    ·refine ⟨.inl ⟨rfl, fun done a wq hw h => ?_⟩, ?_⟩
     ·have e5 := ch_old (t := 5) (v := .pointer (some ⟨wr.heap.size, 0, none⟩)) h rfl rfl; refine ch_pure ?_; go_simp
     refine ⟨.inl ⟨rfl, fun done a wq hw h => ?_⟩, ?_⟩
     ·have e18 := ch_new (i := 0) (t := 18) h (hw 0 (by decide)) rfl rfl; obtain ⟨r_, f_, n_, c_, z_, l_⟩ := keep1 h.bel a0r (by go_simp) a0f; refine ch_pure ?_; go_simp
     refine ⟨.inl ⟨rfl, fun done a wq hw h => ?_⟩, ?_⟩
     ·have e0 := ch_old (t := 0) (v := .slice (some ⟨b, o, none⟩) l.length c) h rfl rfl; exact ch_move (ch_ev e0)
     refine ⟨.inl ⟨rfl, fun done a wq hw h => ?_⟩, ?_⟩
     ·have e20 := ch_new (i := 2) (t := 20) h (hw 2 (by decide)) rfl rfl; refine ch_pure ?_; go_simp
     refine ⟨.inl ⟨rfl, fun done a wq hw h => ?_⟩, ?_⟩
     ·have e21 := ch_new (i := 3) (t := 21) h (hw 3 (by decide)) rfl rfl; refine ch_pure ?_; go_simp
     refine ⟨.inl ⟨rfl, fun done a wq hw h => ?_⟩, ?_⟩
     ·have e22 := ch_new (i := 4) (t := 22) h (hw 4 (by decide)) rfl rfl; have hc := (h.bel.cell (p := ⟨b, o, none⟩) (by simp; omega)).trans (show w1.cell? _ = some (iv x0.from_) from y0); refine ch_pure ?_; go_simp
     refine ⟨.inl ⟨rfl, fun done a wq hw h => ?_⟩, ?_⟩
     ·have e19 := ch_new (i := 1) (t := 19) h (hw 1 (by decide)) rfl rfl; have e23 := ch_new (i := 5) (t := 23) h (hw 5 (by decide)) rfl rfl; exact ch_neq_int (by kernel_rfl) (ch_ev e19) (ch_ev e23) (by have hq := T0.out; simp [hq])
     refine ⟨.inl ⟨rfl, fun done a wq hw h => ?_⟩, ?_⟩
     ·have e24 := ch_new (i := 6) (t := 24) h (hw 6 (by decide)) rfl rfl; exact ch_move (ch_ev e24)
     refine ⟨.inl ⟨rfl, fun done a wq hw h => ?_⟩, ?_⟩
     ·have e5 := ch_old (t := 5) (v := .pointer (some ⟨wr.heap.size, 0, none⟩)) h rfl rfl; refine ch_pure ?_; go_simp
     refine ⟨.inl ⟨rfl, fun done a wq hw h => ?_⟩, ?_⟩
     ·have e26 := ch_new (i := 8) (t := 26) h (hw 8 (by decide)) rfl rfl; obtain ⟨r_, f_, n_, c_, z_, l_⟩ := keep1 h.bel a0r (by go_simp) a0f; refine ch_pure ?_; go_simp
     refine ⟨.inl ⟨rfl, fun done a wq hw h => ?_⟩, ?_⟩
     ·have e0 := ch_old (t := 0) (v := .slice (some ⟨b, o, none⟩) l.length c) h rfl rfl; exact ch_move (ch_ev e0)
     refine ⟨.inl ⟨rfl, fun done a wq hw h => ?_⟩, ?_⟩
     ·have e28 := ch_new (i := 10) (t := 28) h (hw 10 (by decide)) rfl rfl; refine ch_pure ?_; go_simp
     refine ⟨.inl ⟨rfl, fun done a wq hw h => ?_⟩, ?_⟩
     ·have e29 := ch_new (i := 11) (t := 29) h (hw 11 (by decide)) rfl rfl; refine ch_pure ?_; go_simp
     refine ⟨.inl ⟨rfl, fun done a wq hw h => ?_⟩, ?_⟩
     ·have e30 := ch_new (i := 12) (t := 30) h (hw 12 (by decide)) rfl rfl; have hc := (h.bel.cell (p := ⟨b, o + 1, none⟩) (by simp; omega)).trans (show w1.cell? _ = some (iv x0.to_) from y1); refine ch_pure ?_; go_simp
     refine ⟨.inl ⟨rfl, fun done a wq hw h => ?_⟩, ?_⟩
     ·have e27 := ch_new (i := 9) (t := 27) h (hw 9 (by decide)) rfl rfl; have e31 := ch_new (i := 13) (t := 31) h (hw 13 (by decide)) rfl rfl; exact ch_neq_int (by kernel_rfl) (ch_ev e27) (ch_ev e31) (by have hq := T1.out; simp [hq])
     refine ⟨.inl ⟨rfl, fun done a wq hw h => ?_⟩, ?_⟩
     ·have e25 := ch_new (i := 7) (t := 25) h (hw 7 (by decide)) rfl rfl; have e32 := ch_new (i := 14) (t := 32) h (hw 14 (by decide)) rfl rfl; exact ch_pick_f e25 (ch_ev e32)
     refine ⟨.inl ⟨rfl, fun done a wq hw h => ?_⟩, ?_⟩
     ·have e33 := ch_new (i := 15) (t := 33) h (hw 15 (by decide)) rfl rfl; exact ch_move (ch_ev e33)
     iterate 7 refine ⟨.inr ⟨rfl, rfl⟩, ?_⟩
     refine ⟨.inl ⟨rfl, fun done a wq hw h => ?_⟩, ?_⟩
     ·have e34 := ch_new (i := 16) (t := 34) h (hw 16 (by decide)) rfl rfl; exact ch_pick_t e34 rfl
     refine ⟨.inl ⟨rfl, fun done a wq hw h => ?_⟩, ?_⟩
     ·have e42 := ch_new (i := 24) (t := 42) h (hw 24 (by decide)) rfl rfl; exact ch_move (ch_ev e42)
     iterate 4 refine ⟨.inr ⟨rfl, rfl⟩, ?_⟩
     refine ⟨.inl ⟨rfl, fun done a wq hw h => ?_⟩, ?_⟩
     ·have e43 := ch_new (i := 25) (t := 43) h (hw 25 (by decide)) rfl rfl; exact ch_pick_t e43 rfl
     exact trivial
    ·intro w2 hb2
     simp only [putAll_some, putAll_none, putAll_nil, List.setIfInBounds_toArray, List.set_cons_zero, List.set_cons_succ]
     have HB2 : Hid (Below w.heap.size w w2) := Lib.hid (HB1.out.trans (hb2.mono HB1.out.size))
     clear hb2 a0r a0f a0n a0c a0z a0l
     go_wp2_with fail
     go_ret
     exact ⟨ret_int HZ.out.symm, HB2.out⟩
   have T1 := Lib.hid (Decidable.not_not.1 t1)
   clear t1
   by_cases t2 : ¬ x.of_ = x0.of_
   ·have HZ : Hid (r = 3) := Lib.hid (by rw [← HE.out, listGo_form HCK.out (by rw [HFO.out]; exact fun h => t2 h.1.2.2.symm)])
    have T2 := Lib.hid t2
    clear t2
    refine wp_region_chain (by kernel_rfl) (some 18 :: some 19 :: some 20 :: some 21 :: some 22 :: some 23 :: some 24 :: some 25 :: some 26 :: some 27 :: some 28 :: some 29 :: some 30 :: some 31 :: some 32 :: some 33 :: some 34 :: some 35 :: some 36 :: some 37 :: some 38 :: some 39 :: some 40 :: some 41 :: some 42 :: some 43 :: some 44 :: some 45 :: some 46 :: some 47 :: some 48 :: []) (.pointer (some ⟨wr.heap.size, 0, none⟩) :: iv x.from_ :: .slice (some ⟨b, o, none⟩) l.length c :: .pointer (some ⟨b, o, none⟩) :: .pointer (some ⟨b, o, none⟩) :: iv x0.from_ :: .bool false :: .bool false :: .pointer (some ⟨wr.heap.size, 1, none⟩) :: iv x.to_ :: .slice (some ⟨b, o, none⟩) l.length c :: .pointer (some ⟨b, o, none⟩) :: .pointer (some ⟨b, o + 1, none⟩) :: iv x0.to_ :: .bool false :: .bool false :: .bool false :: .pointer (some ⟨wr.heap.size, 3, none⟩) :: iv x.of_ :: .slice (some ⟨b, o, none⟩) l.length c :: .pointer (some ⟨b, o, none⟩) :: .pointer (some ⟨b, o + 3, none⟩) :: iv x0.of_ :: .bool true :: .bool true :: .bool true :: undef :: undef :: undef :: undef :: .bool true :: []) 52 rfl rfl (by decide +kernel) (by decide +kernel) (by decide +kernel) rfl ?_ ?_
    ·refine ⟨.inl ⟨rfl, fun done a wq hw h => ?_⟩, ?_⟩
     ·have e5 := ch_old (t := 5) (v := .pointer (some ⟨wr.heap.size, 0, none⟩)) h rfl rfl; refine ch_pure ?_; go_simp
     refine ⟨.inl ⟨rfl, fun done a wq hw h => ?_⟩, ?_⟩
     ·have e18 := ch_new (i := 0) (t := 18) h (hw 0 (by decide)) rfl rfl; obtain ⟨r_, f_, n_, c_, z_, l_⟩ := keep1 h.bel a0r (by go_simp) a0f; refine ch_pure ?_; go_simp
     refine ⟨.inl ⟨rfl, fun done a wq hw h => ?_⟩, ?_⟩
     ·have e0 := ch_old (t := 0) (v := .slice (some ⟨b, o, none⟩) l.length c) h rfl rfl; exact ch_move (ch_ev e0)
     refine ⟨.inl ⟨rfl, fun done a wq hw h => ?_⟩, ?_⟩
     ·have e20 := ch_new (i := 2) (t := 20) h (hw 2 (by decide)) rfl rfl; refine ch_pure ?_; go_simp
     refine ⟨.inl ⟨rfl, fun done a wq hw h => ?_⟩, ?_⟩
     ·have e21 := ch_new (i := 3) (t := 21) h (hw 3 (by decide)) rfl rfl; refine ch_pure ?_; go_simp
     refine ⟨.inl ⟨rfl, fun done a wq hw h => ?_⟩, ?_⟩
     ·have e22 := ch_new (i := 4) (t := 22) h (hw 4 (by decide)) rfl rfl; have hc := (h.bel.cell (p := ⟨b, o, none⟩) (by simp; omega)).trans (show w1.cell? _ = some (iv x0.from_) from y0); refine ch_pure ?_; go_simp
     refine ⟨.inl ⟨rfl, fun done a wq hw h => ?_⟩, ?_⟩
     ·have e19 := ch_new (i := 1) (t := 19) h (hw 1 (by decide)) rfl rfl; have e23 := ch_new (i := 5) (t := 23) h (hw 5 (by decide)) rfl rfl; exact ch_neq_int (by kernel_rfl) (ch_ev e19) (ch_ev e23) (by have hq := T0.out; simp [hq])
     refine ⟨.inl ⟨rfl, fun done a wq hw h => ?_⟩, ?_⟩
     ·have e24 := ch_new (i := 6) (t := 24) h (hw 6 (by decide)) rfl rfl; exact ch_move (ch_ev e24)
     refine ⟨.inl ⟨rfl, fun done a wq hw h => ?_⟩, ?_⟩
     ·have e5 := ch_old (t := 5) (v := .pointer (some ⟨wr.heap.size, 0, none⟩)) h rfl rfl; refine ch_pure ?_; go_simp
     refine ⟨.inl ⟨rfl, fun done a wq hw h => ?_⟩, ?_⟩
     ·have e26 := ch_new (i := 8) (t := 26) h (hw 8 (by decide)) rfl rfl; obtain ⟨r_, f_, n_, c_, z_, l_⟩ := keep1 h.bel a0r (by go_simp) a0f; refine ch_pure ?_; go_simp
     refine ⟨.inl ⟨rfl, fun done a wq hw h => ?_⟩, ?_⟩
     ·have e0 := ch_old (t := 0) (v := .slice (some ⟨b, o, none⟩) l.length c) h rfl rfl; exact ch_move (ch_ev e0)
     refine ⟨.inl ⟨rfl, fun done a wq hw h => ?_⟩, ?_⟩
     ·have e28 := ch_new (i := 10) (t := 28) h (hw 10 (by decide)) rfl rfl; refine ch_pure ?_; go_simp
     refine ⟨.inl ⟨rfl, fun done a wq hw h => ?_⟩, ?_⟩
     ·have e29 := ch_new (i := 11) (t := 29) h (hw 11 (by decide)) rfl rfl; refine ch_pure ?_; go_simp
     refine ⟨.inl ⟨rfl, fun done a wq hw h => ?_⟩, ?_⟩
     ·have e30 := ch_new (i := 12) (t := 30) h (hw 12 (by decide)) rfl rfl; have hc := (h.bel.cell (p := ⟨b, o + 1, none⟩) (by simp; omega)).trans (show w1.cell? _ = some (iv x0.to_) from y1); refine ch_pure ?_; go_simp
     refine ⟨.inl ⟨rfl, fun done a wq hw h => ?_⟩, ?_⟩
     ·have e27 := ch_new (i := 9) (t := 27) h (hw 9 (by decide)) rfl rfl; have e31 := ch_new (i := 13) (t := 31) h (hw 13 (by decide)) rfl rfl; exact ch_neq_int (by kernel_rfl) (ch_ev e27) (ch_ev e31) (by have hq := T1.out; simp [hq])
     refine ⟨.inl ⟨rfl, fun done a wq hw h => ?_⟩, ?_⟩
     ·have e25 := ch_new (i := 7) (t := 25) h (hw 7 (by decide)) rfl rfl; have e32 := ch_new (i := 14) (t := 32) h (hw 14 (by decide)) rfl rfl; exact ch_pick_f e25 (ch_ev e32)
     refine ⟨.inl ⟨rfl, fun done a wq hw h => ?_⟩, ?_⟩
     ·have e33 := ch_new (i := 15) (t := 33) h (hw 15 (by decide)) rfl rfl; exact ch_move (ch_ev e33)
     refine ⟨.inl ⟨rfl, fun done a wq hw h => ?_⟩, ?_⟩
     ·have e5 := ch_old (t := 5) (v := .pointer (some ⟨wr.heap.size, 0, none⟩)) h rfl rfl; refine ch_pure ?_; go_simp
     refine ⟨.inl ⟨rfl, fun done a wq hw h => ?_⟩, ?_⟩
     ·have e35 := ch_new (i := 17) (t := 35) h (hw 17 (by decide)) rfl rfl; obtain ⟨r_, f_, n_, c_, z_, l_⟩ := keep1 h.bel a0r (by go_simp) a0f; refine ch_pure ?_; go_simp
     refine ⟨.inl ⟨rfl, fun done a wq hw h => ?_⟩, ?_⟩
     ·have e0 := ch_old (t := 0) (v := .slice (some ⟨b, o, none⟩) l.length c) h rfl rfl; exact ch_move (ch_ev e0)
     refine ⟨.inl ⟨rfl, fun done a wq hw h => ?_⟩, ?_⟩
     ·have e37 := ch_new (i := 19) (t := 37) h (hw 19 (by decide)) rfl rfl; refine ch_pure ?_; go_simp
     refine ⟨.inl ⟨rfl, fun done a wq hw h => ?_⟩, ?_⟩
     ·have e38 := ch_new (i := 20) (t := 38) h (hw 20 (by decide)) rfl rfl; refine ch_pure ?_; go_simp
     refine ⟨.inl ⟨rfl, fun done a wq hw h => ?_⟩, ?_⟩
     ·have e39 := ch_new (i := 21) (t := 39) h (hw 21 (by decide)) rfl rfl; have hc := (h.bel.cell (p := ⟨b, o + 3, none⟩) (by simp; omega)).trans (show w1.cell? _ = some (iv x0.of_) from y3); refine ch_pure ?_; go_simp
     refine ⟨.inl ⟨rfl, fun done a wq hw h => ?_⟩, ?_⟩
     ·have e36 := ch_new (i := 18) (t := 36) h (hw 18 (by decide)) rfl rfl; have e40 := ch_new (i := 22) (t := 40) h (hw 22 (by decide)) rfl rfl; exact ch_neq_int (by kernel_rfl) (ch_ev e36) (ch_ev e40) (by have hq := T2.out; simp [hq])
     refine ⟨.inl ⟨rfl, fun done a wq hw h => ?_⟩, ?_⟩
     ·have e34 := ch_new (i := 16) (t := 34) h (hw 16 (by decide)) rfl rfl; have e41 := ch_new (i := 23) (t := 41) h (hw 23 (by decide)) rfl rfl; exact ch_pick_f e34 (ch_ev e41)
     refine ⟨.inl ⟨rfl, fun done a wq hw h => ?_⟩, ?_⟩
     ·have e42 := ch_new (i := 24) (t := 42) h (hw 24 (by decide)) rfl rfl; exact ch_move (ch_ev e42)
     iterate 4 refine ⟨.inr ⟨rfl, rfl⟩, ?_⟩
     refine ⟨.inl ⟨rfl, fun done a wq hw h => ?_⟩, ?_⟩
     ·have e43 := ch_new (i := 25) (t := 43) h (hw 25 (by decide)) rfl rfl; exact ch_pick_t e43 rfl
     exact trivial
    ·intro w2 hb2
     simp only [putAll_some, putAll_none, putAll_nil, List.setIfInBounds_toArray, List.set_cons_zero, List.set_cons_succ]
     have HB2 : Hid (Below w.heap.size w w2) := Lib.hid (HB1.out.trans (hb2.mono HB1.out.size))
     clear hb2 a0r a0f a0n a0c a0z a0l
     go_wp2_with fail
     go_ret
     exact ⟨ret_int HZ.out.symm, HB2.out⟩
   have T2 := Lib.hid (Decidable.not_not.1 t2)
   clear t2
   by_cases t3 : ¬ m < x.n
   ·have HZ : Hid (r = 3) := Lib.hid (by rw [← HE.out, listGo_form HCK.out (by rw [HFO.out]; exact fun h => t3 h.2)])
    have T3 := Lib.hid t3
    clear t3
    refine wp_region_chain (by kernel_rfl) (some 18 :: some 19 :: some 20 :: some 21 :: some 22 :: some 23 :: some 24 :: some 25 :: some 26 :: some 27 :: some 28 :: some 29 :: some 30 :: some 31 :: some 32 :: some 33 :: some 34 :: some 35 :: some 36 :: some 37 :: some 38 :: some 39 :: some 40 :: some 41 :: some 42 :: some 43 :: some 44 :: some 45 :: some 46 :: some 47 :: some 48 :: []) (.pointer (some ⟨wr.heap.size, 0, none⟩) :: iv x.from_ :: .slice (some ⟨b, o, none⟩) l.length c :: .pointer (some ⟨b, o, none⟩) :: .pointer (some ⟨b, o, none⟩) :: iv x0.from_ :: .bool false :: .bool false :: .pointer (some ⟨wr.heap.size, 1, none⟩) :: iv x.to_ :: .slice (some ⟨b, o, none⟩) l.length c :: .pointer (some ⟨b, o, none⟩) :: .pointer (some ⟨b, o + 1, none⟩) :: iv x0.to_ :: .bool false :: .bool false :: .bool false :: .pointer (some ⟨wr.heap.size, 3, none⟩) :: iv x.of_ :: .slice (some ⟨b, o, none⟩) l.length c :: .pointer (some ⟨b, o, none⟩) :: .pointer (some ⟨b, o + 3, none⟩) :: iv x0.of_ :: .bool false :: .bool false :: .bool false :: .pointer (some ⟨wr.heap.size, 2, none⟩) :: iv x.n :: .int .i64 m :: .bool true :: .bool true :: []) 52 rfl rfl (by decide +kernel) (by decide +kernel) (by decide +kernel) rfl ?_ ?_
    ·refine ⟨.inl ⟨rfl, fun done a wq hw h => ?_⟩, ?_⟩
     ·have e5 := ch_old (t := 5) (v := .pointer (some ⟨wr.heap.size, 0, none⟩)) h rfl rfl; refine ch_pure ?_; go_simp
     refine ⟨.inl ⟨rfl, fun done a wq hw h => ?_⟩, ?_⟩
     ·have e18 := ch_new (i := 0) (t := 18) h (hw 0 (by decide)) rfl rfl; obtain ⟨r_, f_, n_, c_, z_, l_⟩ := keep1 h.bel a0r (by go_simp) a0f; refine ch_pure ?_; go_simp
     refine ⟨.inl ⟨rfl, fun done a wq hw h => ?_⟩, ?_⟩
     ·have e0 := ch_old (t := 0) (v := .slice (some ⟨b, o, none⟩) l.length c) h rfl rfl; exact ch_move (ch_ev e0)
     refine ⟨.inl ⟨rfl, fun done a wq hw h => ?_⟩, ?_⟩
     ·have e20 := ch_new (i := 2) (t := 20) h (hw 2 (by decide)) rfl rfl; refine ch_pure ?_; go_simp
     refine ⟨.inl ⟨rfl, fun done a wq hw h => ?_⟩, ?_⟩
     ·have e21 := ch_new (i := 3) (t := 21) h (hw 3 (by decide)) rfl rfl; refine ch_pure ?_; go_simp
     refine ⟨.inl ⟨rfl, fun done a wq hw h => ?_⟩, ?_⟩
     ·have e22 := ch_new (i := 4) (t := 22) h (hw 4 (by decide)) rfl rfl; have hc := (h.bel.cell (p := ⟨b, o, none⟩) (by simp; omega)).trans (show w1.cell? _ = some (iv x0.from_) from y0); refine ch_pure ?_; go_simp
     refine ⟨.inl ⟨rfl, fun done a wq hw h => ?_⟩, ?_⟩
     ·have e19 := ch_new (i := 1) (t := 19) h (hw 1 (by decide)) rfl rfl; have e23 := ch_new (i := 5) (t := 23) h (hw 5 (by decide)) rfl rfl; exact ch_neq_int (by kernel_rfl) (ch_ev e19) (ch_ev e23) (by have hq := T0.out; simp [hq])
     refine ⟨.inl ⟨rfl, fun done a wq hw h => ?_⟩, ?_⟩
     ·have e24 := ch_new (i := 6) (t := 24) h (hw 6 (by decide)) rfl rfl; exact ch_move (ch_ev e24)
     refine ⟨.inl ⟨rfl, fun done a wq hw h => ?_⟩, ?_⟩
     ·have e5 := ch_old (t := 5) (v := .pointer (some ⟨wr.heap.size, 0, none⟩)) h rfl rfl; refine ch_pure ?_; go_simp
     refine ⟨.inl ⟨rfl, fun done a wq hw h => ?_⟩, ?_⟩
     ·have e26 := ch_new (i := 8) (t := 26) h (hw 8 (by decide)) rfl rfl; obtain ⟨r_, f_, n_, c_, z_, l_⟩ := keep1 h.bel a0r (by go_simp) a0f; refine ch_pure ?_; go_simp
     refine ⟨.inl ⟨rfl, fun done a wq hw h => ?_⟩, ?_⟩
     ·have e0 := ch_old (t := 0) (v := .slice (some ⟨b, o, none⟩) l.length c) h rfl rfl; exact ch_move (ch_ev e0)
     refine ⟨.inl ⟨rfl, fun done a wq hw h => ?_⟩, ?_⟩
     ·have e28 := ch_new (i := 10) (t := 28) h (hw 10 (by decide)) rfl rfl; refine ch_pure ?_; go_simp
     refine ⟨.inl ⟨rfl, fun done a wq hw h => ?_⟩, ?_⟩
     ·have e29 := ch_new (i := 11) (t := 29) h (hw 11 (by decide)) rfl rfl; refine ch_pure ?_; go_simp
     refine ⟨.inl ⟨rfl, fun done a wq hw h => ?_⟩, ?_⟩
     ·have e30 := ch_new (i := 12) (t := 30) h (hw 12 (by decide)) rfl rfl; have hc := (h.bel.cell (p := ⟨b, o + 1, none⟩) (by simp; omega)).trans (show w1.cell? _ = some (iv x0.to_) from y1); refine ch_pure ?_; go_simp
     refine ⟨.inl ⟨rfl, fun done a wq hw h => ?_⟩, ?_⟩
     ·have e27 := ch_new (i := 9) (t := 27) h (hw 9 (by decide)) rfl rfl; have e31 := ch_new (i := 13) (t := 31) h (hw 13 (by decide)) rfl rfl; exact ch_neq_int (by kernel_rfl) (ch_ev e27) (ch_ev e31) (by have hq := T1.out; simp [hq])
     refine ⟨.inl ⟨rfl, fun done a wq hw h => ?_⟩, ?_⟩
     ·have e25 := ch_new (i := 7) (t := 25) h (hw 7 (by decide)) rfl rfl; have e32 := ch_new (i := 14) (t := 32) h (hw 14 (by decide)) rfl rfl; exact ch_pick_f e25 (ch_ev e32)
     refine ⟨.inl ⟨rfl, fun done a wq hw h => ?_⟩, ?_⟩
     ·have e33 := ch_new (i := 15) (t := 33) h (hw 15 (by decide)) rfl rfl; exact ch_move (ch_ev e33)
     refine ⟨.inl ⟨rfl, fun done a wq hw h => ?_⟩, ?_⟩
     ·have e5 := ch_old (t := 5) (v := .pointer (some ⟨wr.heap.size, 0, none⟩)) h rfl rfl; refine ch_pure ?_; go_simp
     refine ⟨.inl ⟨rfl, fun done a wq hw h => ?_⟩, ?_⟩
     ·have e35 := ch_new (i := 17) (t := 35) h (hw 17 (by decide)) rfl rfl; obtain ⟨r_, f_, n_, c_, z_, l_⟩ := keep1 h.bel a0r (by go_simp) a0f; refine ch_pure ?_; go_simp
     refine ⟨.inl ⟨rfl, fun done a wq hw h => ?_⟩, ?_⟩
     ·have e0 := ch_old (t := 0) (v := .slice (some ⟨b, o, none⟩) l.length c) h rfl rfl; exact ch_move (ch_ev e0)
     refine ⟨.inl ⟨rfl, fun done a wq hw h => ?_⟩, ?_⟩
     ·have e37 := ch_new (i := 19) (t := 37) h (hw 19 (by decide)) rfl rfl; refine ch_pure ?_; go_simp
     refine ⟨.inl ⟨rfl, fun done a wq hw h => ?_⟩, ?_⟩
     ·have e38 := ch_new (i := 20) (t := 38) h (hw 20 (by decide)) rfl rfl; refine ch_pure ?_; go_simp
     refine ⟨.inl ⟨rfl, fun done a wq hw h => ?_⟩, ?_⟩
     ·have e39 := ch_new (i := 21) (t := 39) h (hw 21 (by decide)) rfl rfl; have hc := (h.bel.cell (p := ⟨b, o + 3, none⟩) (by simp; omega)).trans (show w1.cell? _ = some (iv x0.of_) from y3); refine ch_pure ?_; go_simp
     refine ⟨.inl ⟨rfl, fun done a wq hw h => ?_⟩, ?_⟩
     ·have e36 := ch_new (i := 18) (t := 36) h (hw 18 (by decide)) rfl rfl; have e40 := ch_new (i := 22) (t := 40) h (hw 22 (by decide)) rfl rfl; exact ch_neq_int (by kernel_rfl) (ch_ev e36) (ch_ev e40) (by have hq := T2.out; simp [hq])
     refine ⟨.inl ⟨rfl, fun done a wq hw h => ?_⟩, ?_⟩
     ·have e34 := ch_new (i := 16) (t := 34) h (hw 16 (by decide)) rfl rfl; have e41 := ch_new (i := 23) (t := 41) h (hw 23 (by decide)) rfl rfl; exact ch_pick_f e34 (ch_ev e41)
     refine ⟨.inl ⟨rfl, fun done a wq hw h => ?_⟩, ?_⟩
     ·have e42 := ch_new (i := 24) (t := 42) h (hw 24 (by decide)) rfl rfl; exact ch_move (ch_ev e42)
     refine ⟨.inl ⟨rfl, fun done a wq hw h => ?_⟩, ?_⟩
     ·have e5 := ch_old (t := 5) (v := .pointer (some ⟨wr.heap.size, 0, none⟩)) h rfl rfl; refine ch_pure ?_; go_simp
     refine ⟨.inl ⟨rfl, fun done a wq hw h => ?_⟩, ?_⟩
     ·have e44 := ch_new (i := 26) (t := 44) h (hw 26 (by decide)) rfl rfl; obtain ⟨r_, f_, n_, c_, z_, l_⟩ := keep1 h.bel a0r (by go_simp) a0f; refine ch_pure ?_; go_simp
     refine ⟨.inl ⟨rfl, fun done a wq hw h => ?_⟩, ?_⟩
     ·have e3 := ch_old (t := 3) (v := .int .i64 m) h rfl rfl; exact ch_move (ch_ev e3)
     refine ⟨.inl ⟨rfl, fun done a wq hw h => ?_⟩, ?_⟩
     ·have e45 := ch_new (i := 27) (t := 45) h (hw 27 (by decide)) rfl rfl; have e46 := ch_new (i := 28) (t := 46) h (hw 28 (by decide)) rfl rfl; exact ch_leq_int (by kernel_rfl) (ch_ev e45) (ch_ev e46) (by have hq := T3.out; simp; omega)
     refine ⟨.inl ⟨rfl, fun done a wq hw h => ?_⟩, ?_⟩
     ·have e43 := ch_new (i := 25) (t := 43) h (hw 25 (by decide)) rfl rfl; have e47 := ch_new (i := 29) (t := 47) h (hw 29 (by decide)) rfl rfl; exact ch_pick_f e43 (ch_ev e47)
     exact trivial
    ·intro w2 hb2
     simp only [putAll_some, putAll_none, putAll_nil, List.setIfInBounds_toArray, List.set_cons_zero, List.set_cons_succ]
     have HB2 : Hid (Below w.heap.size w w2) := Lib.hid (HB1.out.trans (hb2.mono HB1.out.size))
     clear hb2 a0r a0f a0n a0c a0z a0l
     go_wp2_with fail
     go_ret
     exact ⟨ret_int HZ.out.symm, HB2.out⟩
   have T3 := Lib.hid (Decidable.not_not.1 t3)
   clear t3
   have HKI : Hid (kin x0 x) := Lib.hid ⟨T0.out.symm, T1.out.symm, T2.out.symm⟩
   have HZ : Hid (listGo (some x) (l.drop (k + 1)) = r) := Lib.hid (by rw [← HE.out, listGo_next HCK.out (HFO.out.2 ⟨HKI.out, T3.out⟩)])
   refine wp_region_chain (by kernel_rfl) (some 18 :: some 19 :: some 20 :: some 21 :: some 22 :: some 23 :: some 24 :: some 25 :: some 26 :: some 27 :: some 28 :: some 29 :: some 30 :: some 31 :: some 32 :: some 33 :: some 34 :: some 35 :: some 36 :: some 37 :: some 38 :: some 39 :: some 40 :: some 41 :: some 42 :: some 43 :: some 44 :: some 45 :: some 46 :: some 47 :: some 48 :: []) (.pointer (some ⟨wr.heap.size, 0, none⟩) :: iv x.from_ :: .slice (some ⟨b, o, none⟩) l.length c :: .pointer (some ⟨b, o, none⟩) :: .pointer (some ⟨b, o, none⟩) :: iv x0.from_ :: .bool false :: .bool false :: .pointer (some ⟨wr.heap.size, 1, none⟩) :: iv x.to_ :: .slice (some ⟨b, o, none⟩) l.length c :: .pointer (some ⟨b, o, none⟩) :: .pointer (some ⟨b, o + 1, none⟩) :: iv x0.to_ :: .bool false :: .bool false :: .bool false :: .pointer (some ⟨wr.heap.size, 3, none⟩) :: iv x.of_ :: .slice (some ⟨b, o, none⟩) l.length c :: .pointer (some ⟨b, o, none⟩) :: .pointer (some ⟨b, o + 3, none⟩) :: iv x0.of_ :: .bool false :: .bool false :: .bool false :: .pointer (some ⟨wr.heap.size, 2, none⟩) :: iv x.n :: .int .i64 m :: .bool false :: .bool false :: []) 52 rfl rfl (by decide +kernel) (by decide +kernel) (by decide +kernel) rfl ?_ ?_
   ·refine ⟨.inl ⟨rfl, fun done a wq hw h => ?_⟩, ?_⟩
    ·have e5 := ch_old (t := 5) (v := .pointer (some ⟨wr.heap.size, 0, none⟩)) h rfl rfl; refine ch_pure ?_; go_simp
    refine ⟨.inl ⟨rfl, fun done a wq hw h => ?_⟩, ?_⟩
    ·have e18 := ch_new (i := 0) (t := 18) h (hw 0 (by decide)) rfl rfl; obtain ⟨r_, f_, n_, c_, z_, l_⟩ := keep1 h.bel a0r (by go_simp) a0f; refine ch_pure ?_; go_simp
    refine ⟨.inl ⟨rfl, fun done a wq hw h => ?_⟩, ?_⟩
    ·have e0 := ch_old (t := 0) (v := .slice (some ⟨b, o, none⟩) l.length c) h rfl rfl; exact ch_move (ch_ev e0)
    refine ⟨.inl ⟨rfl, fun done a wq hw h => ?_⟩, ?_⟩
    ·have e20 := ch_new (i := 2) (t := 20) h (hw 2 (by decide)) rfl rfl; refine ch_pure ?_; go_simp
    refine ⟨.inl ⟨rfl, fun done a wq hw h => ?_⟩, ?_⟩
    ·have e21 := ch_new (i := 3) (t := 21) h (hw 3 (by decide)) rfl rfl; refine ch_pure ?_; go_simp
    refine ⟨.inl ⟨rfl, fun done a wq hw h => ?_⟩, ?_⟩
    ·have e22 := ch_new (i := 4) (t := 22) h (hw 4 (by decide)) rfl rfl; have hc := (h.bel.cell (p := ⟨b, o, none⟩) (by simp; omega)).trans (show w1.cell? _ = some (iv x0.from_) from y0); refine ch_pure ?_; go_simp
    refine ⟨.inl ⟨rfl, fun done a wq hw h => ?_⟩, ?_⟩
    ·have e19 := ch_new (i := 1) (t := 19) h (hw 1 (by decide)) rfl rfl; have e23 := ch_new (i := 5) (t := 23) h (hw 5 (by decide)) rfl rfl; exact ch_neq_int (by kernel_rfl) (ch_ev e19) (ch_ev e23) (by have hq := T0.out; simp [hq])
    refine ⟨.inl ⟨rfl, fun done a wq hw h => ?_⟩, ?_⟩
    ·have e24 := ch_new (i := 6) (t := 24) h (hw 6 (by decide)) rfl rfl; exact ch_move (ch_ev e24)
    refine ⟨.inl ⟨rfl, fun done a wq hw h => ?_⟩, ?_⟩
    ·have e5 := ch_old (t := 5) (v := .pointer (some ⟨wr.heap.size, 0, none⟩)) h rfl rfl; refine ch_pure ?_; go_simp
    refine ⟨.inl ⟨rfl, fun done a wq hw h => ?_⟩, ?_⟩
    ·have e26 := ch_new (i := 8) (t := 26) h (hw 8 (by decide)) rfl rfl; obtain ⟨r_, f_, n_, c_, z_, l_⟩ := keep1 h.bel a0r (by go_simp) a0f; refine ch_pure ?_; go_simp
    refine ⟨.inl ⟨rfl, fun done a wq hw h => ?_⟩, ?_⟩
    ·have e0 := ch_old (t := 0) (v := .slice (some ⟨b, o, none⟩) l.length c) h rfl rfl; exact ch_move (ch_ev e0)
    refine ⟨.inl ⟨rfl, fun done a wq hw h => ?_⟩, ?_⟩
    ·have e28 := ch_new (i := 10) (t := 28) h (hw 10 (by decide)) rfl rfl; refine ch_pure ?_; go_simp
    refine ⟨.inl ⟨rfl, fun done a wq hw h => ?_⟩, ?_⟩
    ·have e29 := ch_new (i := 11) (t := 29) h (hw 11 (by decide)) rfl rfl; refine ch_pure ?_; go_simp
    refine ⟨.inl ⟨rfl, fun done a wq hw h => ?_⟩, ?_⟩
    ·have e30 := ch_new (i := 12) (t := 30) h (hw 12 (by decide)) rfl rfl; have hc := (h.bel.cell (p := ⟨b, o + 1, none⟩) (by simp; omega)).trans (show w1.cell? _ = some (iv x0.to_) from y1); refine ch_pure ?_; go_simp
    refine ⟨.inl ⟨rfl, fun done a wq hw h => ?_⟩, ?_⟩
    ·have e27 := ch_new (i := 9) (t := 27) h (hw 9 (by decide)) rfl rfl; have e31 := ch_new (i := 13) (t := 31) h (hw 13 (by decide)) rfl rfl; exact ch_neq_int (by kernel_rfl) (ch_ev e27) (ch_ev e31) (by have hq := T1.out; simp [hq])
    refine ⟨.inl ⟨rfl, fun done a wq hw h => ?_⟩, ?_⟩
    ·have e25 := ch_new (i := 7) (t := 25) h (hw 7 (by decide)) rfl rfl; have e32 := ch_new (i := 14) (t := 32) h (hw 14 (by decide)) rfl rfl; exact ch_pick_f e25 (ch_ev e32)
    refine ⟨.inl ⟨rfl, fun done a wq hw h => ?_⟩, ?_⟩
    ·have e33 := ch_new (i := 15) (t := 33) h (hw 15 (by decide)) rfl rfl; exact ch_move (ch_ev e33)
    refine ⟨.inl ⟨rfl, fun done a wq hw h => ?_⟩, ?_⟩
    ·have e5 := ch_old (t := 5) (v := .pointer (some ⟨wr.heap.size, 0, none⟩)) h rfl rfl; refine ch_pure ?_; go_simp
    refine ⟨.inl ⟨rfl, fun done a wq hw h => ?_⟩, ?_⟩
    ·have e35 := ch_new (i := 17) (t := 35) h (hw 17 (by decide)) rfl rfl; obtain ⟨r_, f_, n_, c_, z_, l_⟩ := keep1 h.bel a0r (by go_simp) a0f; refine ch_pure ?_; go_simp
    refine ⟨.inl ⟨rfl, fun done a wq hw h => ?_⟩, ?_⟩
    ·have e0 := ch_old (t := 0) (v := .slice (some ⟨b, o, none⟩) l.length c) h rfl rfl; exact ch_move (ch_ev e0)
    refine ⟨.inl ⟨rfl, fun done a wq hw h => ?_⟩, ?_⟩
    ·have e37 := ch_new (i := 19) (t := 37) h (hw 19 (by decide)) rfl rfl; refine ch_pure ?_; go_simp
    refine ⟨.inl ⟨rfl, fun done a wq hw h => ?_⟩, ?_⟩
    ·have e38 := ch_new (i := 20) (t := 38) h (hw 20 (by decide)) rfl rfl; refine ch_pure ?_; go_simp
    refine ⟨.inl ⟨rfl, fun done a wq hw h => ?_⟩, ?_⟩
    ·have e39 := ch_new (i := 21) (t := 39) h (hw 21 (by decide)) rfl rfl; have hc := (h.bel.cell (p := ⟨b, o + 3, none⟩) (by simp; omega)).trans (show w1.cell? _ = some (iv x0.of_) from y3); refine ch_pure ?_; go_simp
    refine ⟨.inl ⟨rfl, fun done a wq hw h => ?_⟩, ?_⟩
    ·have e36 := ch_new (i := 18) (t := 36) h (hw 18 (by decide)) rfl rfl; have e40 := ch_new (i := 22) (t := 40) h (hw 22 (by decide)) rfl rfl; exact ch_neq_int (by kernel_rfl) (ch_ev e36) (ch_ev e40) (by have hq := T2.out; simp [hq])
    refine ⟨.inl ⟨rfl, fun done a wq hw h => ?_⟩, ?_⟩
    ·have e34 := ch_new (i := 16) (t := 34) h (hw 16 (by decide)) rfl rfl; have e41 := ch_new (i := 23) (t := 41) h (hw 23 (by decide)) rfl rfl; exact ch_pick_f e34 (ch_ev e41)
    refine ⟨.inl ⟨rfl, fun done a wq hw h => ?_⟩, ?_⟩
    ·have e42 := ch_new (i := 24) (t := 42) h (hw 24 (by decide)) rfl rfl; exact ch_move (ch_ev e42)
    refine ⟨.inl ⟨rfl, fun done a wq hw h => ?_⟩, ?_⟩
    ·have e5 := ch_old (t := 5) (v := .pointer (some ⟨wr.heap.size, 0, none⟩)) h rfl rfl; refine ch_pure ?_; go_simp
    refine ⟨.inl ⟨rfl, fun done a wq hw h => ?_⟩, ?_⟩
    ·have e44 := ch_new (i := 26) (t := 44) h (hw 26 (by decide)) rfl rfl; obtain ⟨r_, f_, n_, c_, z_, l_⟩ := keep1 h.bel a0r (by go_simp) a0f; refine ch_pure ?_; go_simp
    refine ⟨.inl ⟨rfl, fun done a wq hw h => ?_⟩, ?_⟩
    ·have e3 := ch_old (t := 3) (v := .int .i64 m) h rfl rfl; exact ch_move (ch_ev e3)
    refine ⟨.inl ⟨rfl, fun done a wq hw h => ?_⟩, ?_⟩
    ·have e45 := ch_new (i := 27) (t := 45) h (hw 27 (by decide)) rfl rfl; have e46 := ch_new (i := 28) (t := 46) h (hw 28 (by decide)) rfl rfl; exact ch_leq_int (by kernel_rfl) (ch_ev e45) (ch_ev e46) (by have hq := T3.out; simp; omega)
    refine ⟨.inl ⟨rfl, fun done a wq hw h => ?_⟩, ?_⟩
    ·have e43 := ch_new (i := 25) (t := 43) h (hw 25 (by decide)) rfl rfl; have e47 := ch_new (i := 29) (t := 47) h (hw 29 (by decide)) rfl rfl; exact ch_pick_f e43 (ch_ev e47)
    exact trivial
   ·intro w2 hb2
    simp only [putAll_some, putAll_none, putAll_nil, List.setIfInBounds_toArray, List.set_cons_zero, List.set_cons_succ]
    obtain ⟨a0r, a0f, a0n, a0c, a0z, a0l⟩ := keep1 (g := wr.heap.size) (cs := chkA x.from_ x.to_ x.n x.of_ B x.data.length cx) hb2 a0r (by go_simp) a0f
    have HB2 : Hid (Below w.heap.size w w2) := Lib.hid (HB1.out.trans (hb2.mono HB1.out.size))
    clear hb2
    go_wp2_with fail
    go_roundw
    case rel => exact ⟨k + 1, x.n, by omega, by go_num, rfl, Lib.hid (by rw [HLAST.out]; exact HZ.out), Lib.hid (fun e => by omega), Lib.hid (fun q e => by rw [HLAST.out] at e; injection e with e; subst e; exact ⟨rfl, fun z hz => by rw [HX0.out] at hz; injection hz with hz; subst hz; exact HKI.out⟩), HB2⟩
    case measure => simp [intOf]; omega
  ·have hz : r = 0 := by rw [← HE.out, List.drop_of_length_le (by omega)]; rfl
   have HZ := Lib.hid hz
   clear hz
   go_wp2_with fail
   go_ret
   exact ⟨ret_int HZ.out.symm, HB.out⟩
theorem row_add {w2 w' : World} {base B0 : Nat} {out : List Chk} {ds : List (Option Addr × Nat)} {C : Option Addr} {cc : Nat} {y : Chk} {D : Option Addr} {d : Nat} {C1 : Option Addr} {cc1 : Nat} {o : Obj} (h : GRow kChk w2 base out ds C cc) (hE : Each kChk out ds (fun q => q < B0)) (hB0 : B0 ≤ base) (hy : ChkIn w2 y D d) (hD : kChk.dat y ≠ [] → ∀ q, D.map (·.block) = some q → q < B0)
  (hown : Own w' base 49 5 C1 (out.length + 1) cc1 (kChk.cells out ds ++ kChk.cell y (D, d))) (hgr : (w2.alloc o).grownBy w' (C.map (·.block))) (hbel : Below base (w2.alloc o) w') (hor : C1.map (·.block) = C.map (·.block) ∨ C1.map (·.block) = some (w2.alloc o).heap.size) :
  GRow kChk w' base (out ++ [y]) (ds ++ [(D, d)]) C1 cc1 ∧ Each kChk (out ++ [y]) (ds ++ [(D, d)]) (fun q => q < B0) := by
 have hb := (Below.refl w2.heap.size w2).alloc (Nat.le_refl _) o
 refine ⟨(h.below hb).push (o := y) (d := (D, d)) hown hbel (fun k hk hn => hgr.block k hk (fun e => hn e.symm)) ?_ (hy.data.stays hb) hy.cap (fun hx q e e2 => by have h1 := hD hx q e; have h2 := (h.row.block q e2).1; omega), hE.push h.len hD⟩
 rcases hor with h | h
 ·exact .inl h
 ·exact .inr (fun k hk => by rw [h] at hk; injection hk with hk; omega)
theorem pick_succ (l : List Chk) (c : Chk) (k : Nat) : (List.range (k + 1)).flatMap (fun (j : Nat) => pickN l c (j : Int)) = (List.range k).flatMap (fun (j : Nat) => pickN l c (j : Int)) ++ pickN l c (k : Int) := by
 rw [List.range_succ, List.flatMap_append]; simp
theorem GRow.freshB {α : Type} {K : Kd α} {w v : World} {base B0 : Nat} {l : List α} {ds : List (Option Addr × Nat)} {A : Option Addr} {c : Nat} (h : GRow K w base l ds A c) (hn : Each K l ds (fun k => k < B0)) (hv : ∀ k, k < B0 ∨ base ≤ k → k < w.heap.size → v.heap[k]? = w.heap[k]?) : GRow K v base l ds A c := by
 have hlt : ∀ k, k < B0 ∨ base ≤ k → k < w.heap.size → k < v.heap.size := fun k h1 h2 => by
  have e := hv k h1 h2
  rcases Nat.lt_or_ge k v.heap.size with h | h
  ·exact h
  ·rw [Array.getElem?_eq_none h, Array.getElem?_eq_getElem h2] at e; cases e
 refine ⟨h.len, own_fresh h.row (fun k h1 => hv k (.inr h1)), fun i o d h1 h2 => ⟨fun j hj => ?_, (h.data i o d h1 h2).2⟩, h.off⟩
 obtain ⟨b, o2, e1, hl2, hc⟩ := (h.data i o d h1 h2).1 j hj
 have hx : K.dat o ≠ [] := fun e => by rw [e] at hj; simp at hj
 have hbb := hn i o d h1 h2 hx b (by rw [e1]; rfl)
 exact ⟨b, o2, e1, hlt b (.inl hbb) hl2, (World.cell?_of_block (hv b (.inl hbb) hl2)).trans hc⟩
def AdRet (W w : World) (l : List Chk) (n : Int) : Ending → World → Prop := fun en w' =>
 ∃ A c, en = .returned (.tuple #[.slice A l.length c, iv n]) ∧ l.length ≤ c ∧ Below w.heap.size w w' ∧ ∀ v : World, (∀ k, k < W.heap.size ∨ w.heap.size ≤ k → k < w'.heap.size → v.heap[k]? = w'.heap[k]?) → Chs v A l
def otherB (l : List Chk) (x : Chk) : Bool := match l with
 | [] => false
 | y :: _ => decide (¬ kin y x)
theorem otherB_at {l : List Chk} {x y : Chk} (h : l[0]? = some y) : otherB l x = decide (¬ kin y x) := by
 rcases l with _ | ⟨z, r⟩
 ·simp at h
 ·simp at h; subst h; rfl
theorem refAdded_calls (A B : Option Addr) (c d : Nat) (l : List Chk) (x : Chk) (W w : World) (hl : l.length ≤ 1048576) (hs : Chs W A l) (hx : ChkIn W x B d) (hw : Below W.heap.size W w) :
  Calls Try.prog 45 #[.slice A l.length c, .agg (chkA x.from_ x.to_ x.n x.of_ B x.data.length d)] w (AdRet W w (chkAdd l x).1 (chkAdd l x).2) := by
 have HS := hD hs
 have HX := hD hx
 have HTW : Hid (∀ v, Below w.heap.size w v → Below W.heap.size W v) := hD (fun v h => hw.trans (h.mono hw.size))
 have HWS := hD hw.size
 have K1 := hD (fun w h => refChkList_calls A c l w hl h)
 have K2 := hD (fun w => refChkCheckX_calls B d x w ⟨hx.i2, hx.i3⟩)
 have hba := (Below.refl w.heap.size w).alloc (Nat.le_refl _) (.cells (chkA x.from_ x.to_ x.n x.of_ B x.data.length d) 49)
 have HBA := hD hba
 clear hs hx hba hw
 obtain ⟨r, hr⟩ : ∃ r, chkAdd l x = r := ⟨_, rfl⟩
 rw [hr]
 have HR := hD hr
 clear hr
 go_enter Try.func45, Try.ntmps45
 go_wp2_with fail
 refine (K1.out _ (HS.out.stays (HTW.out _ HBA.out))).mono ?_
 rintro e w1 ⟨rfl, hb⟩
 obtain ⟨a0r, a0f, a0n, a0c, a0z, a0l⟩ := kp (w.heap.size) (chkA x.from_ x.to_ x.n x.of_ B x.data.length d) hb
 have HB1 := hD (HBA.out.trans (hb.mono (by simp)))
 clear hb
 by_cases he1 : chkList l ≠ 0
 ·have hz := HR.out.symm.trans (chkAdd_err1 (c := x) he1)
  have q : (chkList l != 0) = true := by simp [he1]
  generalize chkList l = e1 at *
  clear he1 HR
  go_wp2_with fail
  go_ret2
  rw [hz]
  exact ⟨none, 0, rfl, Nat.le_refl _, HB1.out, fun v _ => Chs.nil _ _⟩
 have he1 := Decidable.not_not.1 he1
 rw [he1]
 go_wp2_with fail
 refine (K2.out _).mono ?_
 rintro e w2 ⟨rfl, hb⟩
 obtain ⟨a0r, a0f, a0n, a0c, a0z, a0l⟩ := kp (w.heap.size) (chkA x.from_ x.to_ x.n x.of_ B x.data.length d) hb
 have HB2 := hD (HB1.out.trans (hb.mono HB1.out.size))
 clear hb HB1
 by_cases he2 : chkCheck x ≠ 0
 ·have hz := HR.out.symm.trans (chkAdd_err2 he1 he2)
  have q : (chkCheck x != 0) = true := by simp [he2]
  generalize chkCheck x = e2 at *
  clear he1 he2 HR
  go_wp2_with fail
  go_ret2
  rw [hz]
  exact ⟨none, 0, rfl, Nat.le_refl _, HB2.out, fun v _ => Chs.nil _ _⟩
 have he2 := Decidable.not_not.1 he2
 rw [he2]
 have hr1 := refAdd_is he1 he2
 have hbd : ∀ y ∈ (chkAdd l x).1, ChkB y := by
  obtain ⟨k1, _, _⟩ := add_again he1 he2
  intro y hy
  obtain ⟨⟨h1, h2, h3, h4, h5, h6, h7, h8⟩, _, h9, _⟩ := chkCheck_ok.1 ((chkList_ok.1 k1).1 y hy)
  refine ⟨by omega, ⟨?_, ?_⟩, ⟨?_, ?_⟩, ⟨?_, ?_⟩, ⟨?_, ?_⟩⟩ <;> omega
 rw [← hr1] at hbd
 have hres : r = (refAdd l x, 0) := by rw [← HR.out]; exact Prod.ext hr1.symm (chkAdd_ok he1 he2).1
 have HRES := hD hres
 unfold refAdd at hbd HRES
 have HBD := hD hbd
 have hll := chkList_len he1
 have hxn : I64 x.n := HX.out.i2
 clear hbd hr1 he1 he2 hl HR K1 K2 hres
 have HRF := hD (And.intro a0r a0f)
 go_upto_region 7 with fail
 go_cut [50] (fun v wx => v = .bool (otherB l x) ∧ Hid (Below w2.heap.size w2 wx))
 case first =>
  rcases Nat.eq_zero_or_pos l.length with hl0 | hlp
  ·have hn := List.eq_nil_of_length_eq_zero hl0
   have hres : otherB l x = false := by rw [hn]; rfl
   subst hn
   go_quiet (fail)
   go_wp2_with fail
   go_meet
   case rel => exact ⟨by rw [hres], hD (below_drewN _ _)⟩
  ·obtain ⟨b, o, By, dy, rfl, hbl, hat, -⟩ := HS.out.chk hlp
   have h0 : l[0]? = some l[0] := List.getElem?_eq_getElem hlp
   have HO := hD (otherB_at (x := x) h0)
   obtain ⟨y, hy⟩ : ∃ y, l[0] = y := ⟨_, rfl⟩
   rw [hy] at hat HO
   rw [Nat.zero_mul, Nat.add_zero] at hat
   obtain ⟨y0, y1, y2, y3, y4⟩ := hat.stays hbl (HTW.out _ HB2.out)
   have q0 : (0 : Int) < (l.length : Int) := by omega
   have q9 : ¬ (l.length : Int) ≤ 0 := by omega
   have nb0 : ¬ l.length = 0 := by omega
   have nb1 : ¬ l = [] := fun e => by rw [e] at hlp; simp at hlp
   clear hy h0 hat
   by_cases c1 : x.from_ = y.from_
   ·by_cases c2 : x.to_ = y.to_
    ·by_cases c3 : x.of_ = y.of_
     ·have hres : otherB l x = false := by rw [HO.out]; exact decide_eq_false (fun h => h ⟨c1.symm, c2.symm, c3.symm⟩)
      have q1 : (x.from_ != y.from_) = false := by simp [c1]
      have q2 : (x.to_ != y.to_) = false := by simp [c2]
      have q3 : (x.of_ != y.of_) = false := by simp [c3]
      clear c1 c2 c3
      go_quiet (fail)
      go_wp2_with fail
      go_meet
      case rel => exact ⟨by rw [hres], hD (below_drewN _ _)⟩
     ·have hres : otherB l x = true := by rw [HO.out]; exact decide_eq_true (fun h => c3 h.2.2.symm)
      have q1 : (x.from_ != y.from_) = false := by simp [c1]
      have q2 : (x.to_ != y.to_) = false := by simp [c2]
      have q3 : (x.of_ != y.of_) = true := by simp [c3]
      clear c1 c2 c3
      go_quiet (fail)
      go_wp2_with fail
      go_meet
      case rel => exact ⟨by rw [hres], hD (below_drewN _ _)⟩
    ·have hres : otherB l x = true := by rw [HO.out]; exact decide_eq_true (fun h => c2 h.2.1.symm)
     have q1 : (x.from_ != y.from_) = false := by simp [c1]
     have q2 : (x.to_ != y.to_) = true := by simp [c2]
     clear c1 c2
     go_quiet (fail)
     go_wp2_with fail
     go_meet
     case rel => exact ⟨by rw [hres], hD (below_drewN _ _)⟩
   ·have hres : otherB l x = true := by rw [HO.out]; exact decide_eq_true (fun h => c1 h.1.symm)
    have q1 : (x.from_ != y.from_) = true := by simp [c1]
    clear c1
    go_quiet (fail)
    go_wp2_with fail
    go_meet
    case rel => exact ⟨by rw [hres], hD (below_drewN _ _)⟩
 case rest =>
 obtain ⟨rfl, hb⟩ := hcut
 have HB3 : Hid (Below w.heap.size w wc) := hD (HB2.out.trans (hb.out.mono HB2.out.size))
 have HRF3 : Hid (rowOf wc w.heap.size = chkA x.from_ x.to_ x.n x.of_ B x.data.length d ∧ frOf wc w.heap.size = (0, 0)) := hD (by
  obtain ⟨q1, q2, _⟩ := keep1 (g := w.heap.size) (cs := chkA x.from_ x.to_ x.n x.of_ B x.data.length d) hb.out HRF.out.1 (by go_simp) HRF.out.2
  exact ⟨q1, q2⟩)
 clear hb HB2 HRF a0r a0f a0n a0c a0z a0l
 obtain ⟨w3, hw3⟩ : ∃ w3, wc = w3 := ⟨_, rfl⟩
 subst hw3
 obtain ⟨m, hm⟩ : ∃ m, ofKin l x = m := ⟨_, rfl⟩
 rw [hm] at HBD HRES
 have HMK := hD hm
 clear hm
 go_upto_if 50 with fail
 go_cut [0] (fun v wx => wc = wx ∧ ∃ A' c', v = .slice A' m.length c' ∧ m.length ≤ 1048576 ∧ Hid (Chs W A' m))
 case first =>
  cases hob : otherB l x
  ·go_wp2_with fail
   go_meet
   case rel =>
    have hm : l = m := by
     rw [← HMK.out]
     rcases l with _ | ⟨y, t⟩
     ·rfl
     ·exact (if_pos (by simpa [otherB] using hob)).symm
    exact ⟨rfl, A, c, by rw [hm], by rw [← hm]; omega, by rw [← hm]; exact HS⟩
  ·go_wp2_with fail
   go_meet
   case rel =>
    have hm : m = [] := by
     rw [← HMK.out]
     rcases l with _ | ⟨y, t⟩
     ·rfl
     ·exact if_neg (by simpa [otherB] using hob)
    exact ⟨rfl, none, 0, by rw [hm]; rfl, by rw [hm]; simp, by rw [hm]; exact hD (Chs.nil _ _)⟩
 case rest =>
 obtain ⟨hwx, A', c', rfl, hml, HM⟩ := hcut
 subst hwx
 rename World => w3
 have hs3 := HB3.out.size
 have hsw : W.heap.size ≤ w3.heap.size := by have := HWS.out; omega
 clear HS HMK
 go_wp2_with fail
 go_loopw [51, 8] (fun i v wr => ∃ (k : Nat) (out : List Chk) (ds : List (Option Addr × Nat)) (C : Option Addr) (cc : Nat), k ≤ 52 ∧ i = .int .i64 k ∧ v = .slice C out.length cc ∧ Hid (out = (List.range k).flatMap (fun (j : Nat) => pickN m x (j : Int))) ∧ out.length ≤ k ∧ Hid (GRow kChk wr w3.heap.size out ds C cc) ∧ Hid (Each kChk out ds (fun q => q < W.heap.size)) ∧ Hid (Below w3.heap.size w3 wr)) (fun i _ _ => 52 - (intOf i).toNat)
 case atStart => exact ⟨0, [], [], none, 0, by omega, rfl, rfl, hD rfl, by simp, hD (GRow.nil _ _), hD Each.nil, hD (Below.refl _ _)⟩
 case round =>
  rename World => wr
  obtain ⟨k, out, ds, C, cc, hk, rfl, rfl, HO, hol, HR, HE, HB⟩ := hrel
  have hsr := HB.out.size
  have HBW := hD (HB3.out.trans (HB.out.mono hs3))
  obtain ⟨a0r, a0f, a0n, a0c, a0z, a0l⟩ := keep1 (g := w.heap.size) (cs := chkA x.from_ x.to_ x.n x.of_ B x.data.length d) HB.out HRF3.out.1 (by go_simp) HRF3.out.2
  by_cases hlt : k < 52
  ·have dl : decide ((k : Int) < 52) = true := decide_eq_true (by omega)
   have hwk : IntKind.i64.wrap ((k : Int) + 1) = (k : Int) + 1 := IntWalk.i64_in _ (by omega)
   have hbn := (Below.refl wr.heap.size wr).alloc (Nat.le_refl _) (.cells #[iv (k : Int)] 3)
   have HBN := hD (HB.out.trans (hbn.mono hsr))
   have K3 := hD (raN_idx A' c' wr.heap.size m (k : Int) (wr.alloc (.cells #[iv (k : Int)] 3)) hml (HM.out.stays (HTW.out _ (HBW.out.trans (hbn.mono HBW.out.size)))) (by simp) (by rw [cell_of_row _ _ _ _ _ _ (blk_top rfl)]; rfl))
   have HR0 := hD (HR.out.below hbn)
   have HPS := hD (pick_succ m x k)
   clear hbn
   rcases idxR_spec (fun z => isN z (k : Int)) m 0 with ⟨hf1, hf2⟩ | ⟨j, y, hj, hf2, hf1⟩
   ·rw [hf2] at K3
    have hpk : pickN m x (k : Int) = if (k : Int) = x.n then [x] else [] := by unfold pickN; rw [atN_isN, hf1]
    rw [hpk] at HPS
    clear hpk hf1 hf2
    go_wp2_with fail
    refine K3.out.mono ?_
    rintro e w4 ⟨rfl, hb4⟩
    obtain ⟨b0r, b0f, b0n, b0c, b0z, b0l⟩ := kp (w.heap.size) (chkA x.from_ x.to_ x.n x.of_ B x.data.length d) hb4
    obtain ⟨n0r, n0f, n0n, n0c, n0z, n0l⟩ := kp (wr.heap.size) (#[iv (k : Int)]) hb4
    have HB4 := hD (HBN.out.trans (hb4.mono HBN.out.size))
    have HR4 := hD (HR0.out.below hb4)
    have hs4 := HB4.out.size
    clear hb4 a0r a0f a0n a0c a0z a0l
    by_cases hkn : (k : Int) = x.n
    ·rw [if_pos hkn] at HPS
     have q9 : ((k : Int) == x.n) = true := by simp [hkn]
     clear hkn
     have hoa := HR4.out.row.alloc (.cells (chkA x.from_ x.to_ x.n x.of_ B x.data.length d) 49)
     have hsd : Src (w4.alloc (.cells (chkA x.from_ x.to_ x.n x.of_ B x.data.length d) 49)) (some ⟨w4.heap.size, 0, none⟩) (kChk.cell x (B, d)) := by
      have := src_blk (w := w4.alloc (.cells (chkA x.from_ x.to_ x.n x.of_ B x.data.length d) 49)) (g := w4.heap.size) (blk_top rfl)
      rwa [chkA_list] at this
     have hob : out.length + 1 ≤ 1073741824 := by omega
     have hle : w3.heap.size ≤ (w4.alloc (.cells (chkA x.from_ x.to_ x.n x.of_ B x.data.length d) 49)).heap.size := by simp; omega
     go_wp2_with (at_builtin; go_must (refine wpList_app (w4.alloc (.cells (chkA x.from_ x.to_ x.n x.of_ B x.data.length d) 49)) rfl _ _ 43 rfl elChunks w3.heap.size C out.length cc (kChk.cells out ds) rfl hoa (some ⟨w4.heap.size, 0, none⟩) 1 1 (kChk.cell x (B, d)) rfl hsd (by simp [kChk]) (kChk.one _ _) hob hle ?_; intro C1 cc1 w5 hown hgr hbel hor))
     have hra := row_add HR4.out HE.out hsw (HX.out.stays (HTW.out _ (HB3.out.trans (HB4.out.mono hs3)))) (fun h => bts_block HX.out.data h) hown hgr hbel hor
     have HR5 := hD hra.1
     have HE5 := hD hra.2
     have HB5 : Hid (Below w3.heap.size w3 w5) := hD ((HB4.out.alloc hs4 _).trans hbel)
     have HL : Hid (out.length + 1 = (out ++ [x]).length) := hD (by simp)
     clear hra hown hgr hbel hor hoa hsd hob hle
     go_roundw
     case rel => exact ⟨k + 1, out ++ [x], ds ++ [(B, d)], C1, cc1, by omega, by go_num, by rw [HL.out], hD (by rw [HPS.out, ← HO.out]), by simp; omega, HR5, HE5, HB5⟩
     case measure => simp [intOf]; omega
    ·rw [if_neg hkn, List.append_nil] at HPS
     have q9 : ((k : Int) == x.n) = false := by simp [hkn]
     clear hkn
     go_wp2_with fail
     go_roundw
     case rel => exact ⟨k + 1, out, ds, C, cc, by omega, by go_num, rfl, hD (by rw [HPS.out]; exact HO.out), by omega, HR4, HE, HB4⟩
     case measure => simp [intOf]; omega
   ·rw [hf2] at K3
    have hpk : pickN m x (k : Int) = [y] := by unfold pickN; rw [atN_isN, hf1]
    rw [hpk] at HPS
    clear hpk hf1 hf2
    have hjl : j < m.length := (List.getElem?_eq_some_iff.1 hj).1
    have hyj : m[j] = y := by rw [List.getElem?_eq_getElem hjl] at hj; injection hj
    obtain ⟨b, o, B1, d1, rfl, hbl, hat, hin⟩ := HM.out.chk hjl
    rw [hyj] at hat hin
    have HYI := hD hin
    have HYA : Hid (∀ v, Below W.heap.size W v → ChkAt v b (o + j * 5) y B1 d1) := hD (fun v hv => hat.stays hbl hv)
    have hj0 : (0 : Int) ≤ ((0 + j : Nat) : Int) := by omega
    rw [Nat.zero_add] at K3
    clear hj hyj hat hin hj0
    go_wp2_with fail
    refine K3.out.mono ?_
    rintro e w4 ⟨rfl, hb4⟩
    obtain ⟨b0r, b0f, b0n, b0c, b0z, b0l⟩ := kp (w.heap.size) (chkA x.from_ x.to_ x.n x.of_ B x.data.length d) hb4
    have HB4 := hD (HBN.out.trans (hb4.mono HBN.out.size))
    have HR4 := hD (HR0.out.below hb4)
    have hs4 := HB4.out.size
    obtain ⟨z0, z1, z2, z3, z4⟩ := HYA.out w4 (HTW.out _ (HB3.out.trans (HB4.out.mono hs3)))
    clear hb4 a0r a0f a0n a0c a0z a0l
    have hoa := HR4.out.row.alloc (.cells (chkA y.from_ y.to_ y.n y.of_ B1 y.data.length d1) 49)
    have hsd : Src (w4.alloc (.cells (chkA y.from_ y.to_ y.n y.of_ B1 y.data.length d1) 49)) (some ⟨w4.heap.size, 0, none⟩) (kChk.cell y (B1, d1)) := by
     have := src_blk (w := w4.alloc (.cells (chkA y.from_ y.to_ y.n y.of_ B1 y.data.length d1) 49)) (g := w4.heap.size) (blk_top rfl)
     rwa [chkA_list] at this
    have hob : out.length + 1 ≤ 1073741824 := by omega
    have hle : w3.heap.size ≤ (w4.alloc (.cells (chkA y.from_ y.to_ y.n y.of_ B1 y.data.length d1) 49)).heap.size := by simp; omega
    go_wp2_with (at_builtin; go_must (refine wpList_app (w4.alloc (.cells (chkA y.from_ y.to_ y.n y.of_ B1 y.data.length d1) 49)) rfl _ _ 43 rfl elChunks w3.heap.size C out.length cc (kChk.cells out ds) rfl hoa (some ⟨w4.heap.size, 0, none⟩) 1 1 (kChk.cell y (B1, d1)) rfl hsd (by simp [kChk]) (kChk.one _ _) hob hle ?_; intro C1 cc1 w5 hown hgr hbel hor))
    have hra := row_add HR4.out HE.out hsw (HYI.out.stays (HTW.out _ (HB3.out.trans (HB4.out.mono hs3)))) (fun h => bts_block HYI.out.data h) hown hgr hbel hor
    have HR5 := hD hra.1
    have HE5 := hD hra.2
    have HB5 : Hid (Below w3.heap.size w3 w5) := hD ((HB4.out.alloc hs4 _).trans hbel)
    have HL : Hid (out.length + 1 = (out ++ [y]).length) := hD (by simp)
    clear hra hown hgr hbel hor hoa hsd hob hle
    go_roundw
    case rel => exact ⟨k + 1, out ++ [y], ds ++ [(B1, d1)], C1, cc1, by omega, by go_num, by rw [HL.out], hD (by rw [HPS.out, ← HO.out]), by simp; omega, HR5, HE5, HB5⟩
    case measure => simp [intOf]; omega
  ·obtain rfl : k = 52 := by omega
   have hfin := HO.out
   have hrs := HRES.out
   rw [← hfin] at hrs
   go_wp2_with fail
   go_ret2
   rw [hrs]
   exact ⟨C, cc, rfl, HR.out.row.le, HBW.out, fun v hv => (HR.out.freshB HE.out (fun k h1 h2 => hv k (h1.imp id (fun h => by omega)) h2)).src.chs (by rw [hfin]; exact HBD.out)⟩
def filledR (x : UInt8) (k : Nat) (R : List Value) : List Value := List.replicate k (bv x) ++ R.drop k
theorem filledR_len (x : UInt8) (h : k ≤ R.length) : (filledR x k R).length = R.length := by unfold filledR; simp; omega
theorem filledR_zero (x : UInt8) (R : List Value) : filledR x 0 R = R := by simp [filledR]
theorem filledR_more (x : UInt8) {m : Nat} (h : k + m ≤ R.length) : Go.splice (filledR x k R) k (List.replicate m (bv x)) = filledR x (k + m) R := by
 unfold filledR Go.splice
 rw [List.take_append_of_le_length (by simp), List.length_replicate, List.drop_append, List.length_replicate, List.take_of_length_le (by simp), List.drop_eq_nil_of_le (by simp), List.nil_append, ← List.append_assoc, List.replicate_append_replicate, List.drop_drop]
 congr 2; omega
theorem filledR_at (x : UInt8) {j : Nat} (h : j < k) : (filledR x k R)[j]? = some (bv x) := by
 unfold filledR; rw [List.getElem?_append_left (by simpa using h), List.getElem?_replicate]; simp [h]
def rbJ (wo : World) (g : Nat) (x : UInt8) (k m : Nat) (R : List Value) (done : Nat → Bool) (cv : Nat → Value) (w : World) : Prop :=
 if done 7 = true then cv 7 = .int .i64 (m : Int) ∧ w.heap[g]? = some (.cells (filledR x (k + m) R).toArray 5 (0, 0)) ∧ Below g wo w else w = wo.drew
def BsRet (w : World) (l : List UInt8) : Ending → World → Prop := fun en w' => ∃ A c, en = .returned (.slice A l.length c) ∧ l.length ≤ c ∧ Bts w' A l ∧ Below w.heap.size w w'
theorem bts_filledR {w : World} {g n : Nat} {x : UInt8} (h : w.heap[g]? = some (.cells (filledR x n R).toArray 5 (0, 0))) : Bts w (some ⟨g, 0, none⟩) (List.replicate n x) := by
 intro i hi
 rw [List.length_replicate] at hi
 refine ⟨g, 0, rfl, blk_lt h, ?_⟩
 rw [Nat.zero_add, cell_of_row _ _ _ _ _ _ h, List.getElem?_toArray, filledR_at x hi, List.getElem_replicate]
theorem repeatB_calls (A : Option Addr) (c : Nat) (x : UInt8) (n : Nat) (w : World) (hn : 1 ≤ n) (hn2 : n ≤ 1000) (hA : Bts w A [x]) :
  Calls Try.prog 148 #[.slice A 1 c, iv n] w (BsRet w (List.replicate n x)) := by
 obtain ⟨a, o, rfl, hlt, hc⟩ := hA 0 (by simp)
 simp only [Nat.add_zero, List.getElem_cons_zero] at hc
 have HC := hD hc
 clear hA hc
 have d0 : ((n : Int) == 0) = false := by simp; omega
 have d1 : ¬ (n : Int) < 0 := by omega
 have u1 : IntKind.u64.wrap (n : Int) = (n : Int) := by rw [IntKind.wrap_u64]; omega
 have i1 : IntKind.i64.wrap (n : Int) = (n : Int) := IntWalk.i64_in _ (by omega)
 obtain ⟨cs, hrunM, hle, _⟩ := Lib.run_makeNoZero (P := Try.prog) w #[3] 22 5 Try.underlying22 n (by omega)
 have hcall : (callFunc 163 #[.int .i64 (n : Int)]).run Try.prog w = .ok (.value (.slice (some ⟨w.heap.size, 0, none⟩) n cs.size)) ((w.alloc (.cells cs 5)).drewN 2) := by
  rw [run_callFunc_extern Try.func163 (by kernel_rfl) (by kernel_rfl) (by kernel_rfl) (e := Extern.BytealgMakeNoZero.makeNoZero #[3] #[22]) (by kernel_rfl), hrunM]
  rfl
 clear hrunM
 have s1 : (n : Int) ≤ (cs.size : Int) := by omega
 have s0 : (0 : Int) ≤ (n : Int) := by omega
 have s2 : decide ((8192 : Int) < (n : Int)) = false := by simp; omega
 go_enter Try.func148, Try.ntmps148
 go_wp2_with fail
 refine (mul1_calls n w (by omega)).mono ?_
 rintro e w1 ⟨rfl, rfl⟩
 have d2 : decide ((9223372036854775807 : Int) < (n : Int)) = false := by simp; omega
 have hb0 : Below w.heap.size w ((w.alloc (.cells cs 5)).drewN 2) := Below.drewN' ((Below.refl _ _).alloc (Nat.le_refl _) _) 2
 have hg0 : ((w.alloc (.cells cs 5)).drewN 2).heap[w.heap.size]? = some (.cells cs 5 (0, 0)) := blk_top rfl
 have hca := (hb0.cell (p := ⟨a, o, none⟩) hlt).trans HC.out
 obtain ⟨R, hR⟩ : ∃ R, R = cs.toList := ⟨_, rfl⟩
 have hcs : cs = R.toArray := by rw [hR, Array.toArray_toList]
 have hRl : n ≤ R.length := by rw [hR]; simpa using hle
 have hcp : (Builtin.copy_ #[22, 22] 3 #[.slice (some ⟨w.heap.size, 0, none⟩) n n, .slice (some ⟨a, o, none⟩) 1 c]).run Try.prog ((w.alloc (.cells cs 5)).drewN 2) = .ok (.int .i64 1) (((w.alloc (.cells cs 5)).drewN 2).setRow w.heap.size (filledR x 1 R).toArray) := by
  have := run_copy_row (P := Try.prog) ((w.alloc (.cells cs 5)).drewN 2) 22 22 3 5 w.heap.size 0 n n ⟨a, o, none⟩ 1 c cs 5 [bv x] Try.underlying22 (by kernel_rfl) hg0 (by simp [Nat.min_def]; omega)
   (fun j v hv => by
     obtain ⟨hj, rfl⟩ := List.getElem?_eq_some_iff.1 hv
     have e0 : j = 0 := by simp at hj; omega
     subst e0
     simpa [Addr.add] using hca) (by simp; omega) (by simp [Value.oneCell'])
  rw [this]
  have e := filledR_more x (k := 0) (m := 1) (R := R) (by omega)
  unfold Go.splice at e
  rw [filledR_zero] at e
  simp only [Nat.zero_add] at e ⊢
  rw [show (List.replicate 1 (bv x)) = [bv x] from rfl] at e
  rw [← hR, List.append_assoc, e]
  rfl
 have hf2 : Hid ((((w.alloc (.cells cs 5)).drewN 2).setRow w.heap.size (filledR x 1 R).toArray).heap[w.heap.size]? = some (.cells (filledR x 1 R).toArray 5 (0, 0))) := hD (setRow_heap _ _ _ _ _ _ hg0)
 have HB2 : Hid (Below w.heap.size w (((w.alloc (.cells cs 5)).drewN 2).setRow w.heap.size (filledR x 1 R).toArray)) := hD (below_row hb0 (Nat.le_refl _) _)
 clear hg0 hb0 hca hR hcs
 go_wp2_with fail
 clear hcp hcall
 generalize ((w.alloc (.cells cs 5)).drewN 2).setRow w.heap.size (filledR x 1 R).toArray = w2 at *
 generalize hgg : w.heap.size = g at *
 go_loopw [10] (fun y wr => ∃ (k : Nat), y = .int .i64 (k : Int) ∧ 1 ≤ k ∧ k ≤ n ∧ Hid (wr.heap[g]? = some (.cells (filledR x k R).toArray 5 (0, 0))) ∧ Hid (Below g w wr)) (fun y _ => n - (intOf y).toNat)
 case atStart => exact ⟨1, rfl, by omega, hn, hf2, HB2⟩
 case round =>
  rename World => wo
  obtain ⟨k, rfl, hk1, hkn, HF, HB⟩ := hrel
  by_cases hlt : k < n
  ·obtain ⟨m, hm⟩ : ∃ m, m = Nat.min k (n - k) := ⟨_, rfl⟩
   have hm1 : 1 ≤ m ∧ k + m ≤ n := by rw [hm]; simp only [Nat.min_def]; split <;> omega
   have HM := hD hm
   have HMK : Hid ((k : Int) ≤ (n : Int)) := hD (by omega)
   have HMK2 : Hid (m ≤ k) := hD (by rw [hm]; exact Nat.min_le_left _ _)
   have HMN : Hid (k + m ≤ R.length) := hD (by omega)
   have HK : Hid (k ≤ R.length) := hD (by omega)
   have HNK : Hid (¬ n = k) := hD (by omega)
   have HKN : Hid ((k : Int) ≤ (n : Int)) := hD (by omega)
   have HI : Hid (IntKind.i64.wrap ((k : Int) + (m : Int)) = (k : Int) + (m : Int)) := hD (IntWalk.i64_in _ (by omega))
   have dk : decide ((k : Int) < (n : Int)) = true := by simp; omega
   have dm : min (k : Int) (n : Int) = (k : Int) := by omega
   clear hm hf2 HB2
   go_wp2_with fail
   refine wp_region_free (by kernel_rfl) (some 67 :: some 68 :: some 69 :: some 70 :: some 71 :: some 72 :: some 73 :: some 74 :: some 75 :: some 10 :: []) (false :: false :: false :: false :: false :: false :: false :: true :: false :: false :: []) (.int .i64 ((k : Nat) : Int) :: .slice (some ⟨g, 0, none⟩) n n :: .int .i64 ((k : Nat) : Int) :: .slice (some ⟨g, (k : Nat), none⟩) (n - k) (n - k) :: .slice (some ⟨g, 0, none⟩) n n :: .int .i64 ((k : Nat) : Int) :: .slice (some ⟨g, 0, none⟩) k n :: undef :: .int .i64 ((k + m : Nat) : Int) :: .int .i64 ((k + m : Nat) : Int) :: []) (rbJ wo g x k m R) 77 rfl rfl (by decide +kernel) (by decide +kernel) (by decide +kernel) rfl rfl (by rw [rbJ, if_neg (by simp)]) ?_ ?_
   ·refine ⟨?_, ?_⟩
    ·intro done cv a wq hn hw hcl h hJ
     have e10 := fr_un (t := 10) (i := 0) (i0 := 9) (v := .int .i64 ((k : Nat) : Int)) h hcl hn rfl (by decide) (by decide) rfl
     exact mx_move (ch_ev e10)
    refine ⟨?_, ?_⟩
    ·intro done cv a wq hn hw hcl h hJ
     have e9 := fO 9 (.slice (some ⟨g, 0, none⟩) n n) h
     exact mx_move (ch_ev e9)
    refine ⟨?_, ?_⟩
    ·intro done cv a wq hn hw hcl h hJ
     have e10 := fr_un (t := 10) (i := 2) (i0 := 9) (v := .int .i64 ((k : Nat) : Int)) h hcl hn rfl (by decide) (by decide) rfl
     exact mx_move (ch_ev e10)
    refine ⟨?_, ?_⟩
    ·intro done cv a wq hn hw hcl h hJ
     have e68 := fN 1 68 h hw; have e69 := fN 2 69 h hw
     have hnk := HNK.out
     have hkn := HKN.out
     go_simp
    refine ⟨?_, ?_⟩
    ·intro done cv a wq hn hw hcl h hJ
     have e9 := fO 9 (.slice (some ⟨g, 0, none⟩) n n) h
     exact mx_move (ch_ev e9)
    refine ⟨?_, ?_⟩
    ·intro done cv a wq hn hw hcl h hJ
     have e11 := fO 11 (.int .i64 ((k : Nat) : Int)) h
     exact mx_move (ch_ev e11)
    refine ⟨?_, ?_⟩
    ·intro done cv a wq hn hw hcl h hJ
     have e71 := fN 4 71 h hw; have e72 := fN 5 72 h hw
     have hnk := HNK.out
     have hkn := HKN.out
     have hmn := HMK.out
     go_simp
    refine ⟨?_, ?_⟩
    ·intro done cv a wq hn hw hcl h hJ
     have e70 := fN 3 70 h hw; have e73 := fN 6 73 h hw
     have hd : ¬ maskB [false, false, false, false, false, false, false, true, false, false] done 7 = true := by unfold maskB; rw [hn]; simp
     rw [rbJ, if_neg hd] at hJ
     obtain rfl : wq = wo.drew := hJ
     refine wp_copy rfl (.tmp 70) (.tmp 73) 22 22 rfl 5 Try.underlying22 (by kernel_rfl) _ _ _ _ _ _ (ch_ev e70) (ch_ev e73) g k (filledR x k R) 5 HF.out (List.replicate m (bv x)) (by rw [List.length_replicate]; exact HM.out) (fun _ => ⟨rfl, _, rfl, fun j v hv => ?_⟩) (by rw [filledR_len x HK.out, List.length_replicate]; exact HMN.out) (fun v hv => by rw [List.eq_of_mem_replicate hv]; rfl) g wo ((Below.refl _ _).drew) (Nat.le_refl _) ?_
     ·obtain ⟨hj, rfl⟩ := List.getElem?_eq_some_iff.1 hv
      rw [List.length_replicate] at hj
      have e1 := filledR_at x (R := R) (show j < k by have := HMK2.out; omega)
      have e2 : (⟨g, 0, none⟩ : Addr).add j = ⟨g, j, none⟩ := by unfold Addr.add; split <;> simp_all
      rw [e2, List.getElem_replicate]
      refine (cell_of_row _ _ _ _ _ _ HF.out).trans ?_
      rw [List.getElem?_toArray, e1]
     ·intro w' hg' hb'
      rw [filledR_more x HMN.out] at hg'
      exact ⟨_, rfl, by rw [rbJ, if_pos (by simp)]; exact ⟨by simp [goInt], hg', hb'⟩⟩
    refine ⟨?_, ?_⟩
    ·intro done cv a wq hn hw hcl h hJ
     have e67 := fN 0 67 h hw; have e74 := fr_cv (i := 7) (t := 74) h (hw 7 (by decide)) rfl rfl
     have hd : maskB [false, false, false, false, false, false, false, true, false, false] done 7 = true := by unfold maskB; rw [hw 7 (by decide)]; rfl
     rw [rbJ, if_pos hd] at hJ
     rw [hJ.1] at e74
     have hi := HI.out
     go_simp
    refine ⟨?_, ?_⟩
    ·intro done cv a wq hn hw hcl h hJ
     have e75 := fN 8 75 h hw
     exact mx_assign (ch_ev e75)
    exact trivial
   ·intro d cv w3 hall hJ
    rw [rbJ, if_pos (hall 7 rfl (by decide))] at hJ
    obtain ⟨_, g1, g2⟩ := hJ
    have HF3 := hD g1
    have HB3 : Hid (Below g w w3) := hD (HB.out.trans g2)
    clear g1 g2
    simp only [freeAll, putAll_some, putAll_none, putAll_nil, List.getD_cons_zero, List.getD_cons_succ, Bool.false_eq_true, if_true, if_false, reduceIte, Nat.zero_add, Nat.reduceAdd, List.setIfInBounds_toArray, List.set_cons_zero, List.set_cons_succ]
    go_wp2_with fail
    go_roundw
    case rel => exact ⟨k + m, rfl, by omega, hm1.2, HF3, HB3⟩
    case measure => simp [intOf]; omega
  ·obtain rfl : k = n := by omega
   have dk : decide ((k : Int) < (k : Int)) = false := by simp
   go_wp2_with fail
   go_ret
   exact ⟨some ⟨g, 0, none⟩, k, by simp, by simp, bts_filledR HF.out, hgg ▸ HB.out⟩
end Go.Proofs.Ytefkfglkpebbmac
