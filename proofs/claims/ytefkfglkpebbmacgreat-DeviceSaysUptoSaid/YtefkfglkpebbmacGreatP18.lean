/- Walks of functions, and plain words. No conditions. -/
import Derived.Test.YtefkfglkpebbmacGreatP7
import Derived.Test.YtefkfglkpebbmacGreatP17
set_option linter.unusedVariables false
set_option linter.unusedSimpArgs false
set_option maxRecDepth 100000
set_option maxHeartbeats 40000000
namespace Go.Proofs.YtefkfglkpebbmacGreat
open Go.RowKit
theorem x3 {p : Prop} (h : p := by
 refine ⟨.inl ⟨rfl, ?_⟩, .inl ⟨rfl, ?_⟩, .inl ⟨rfl, ?_⟩, .inl ⟨rfl, ?_⟩, .inl ⟨rfl, ?_⟩, .inl ⟨rfl, ?_⟩, .inl ⟨rfl, ?_⟩, .inl ⟨rfl, ?_⟩, .inl ⟨rfl, ?_⟩, .inl ⟨rfl, ?_⟩, .inl ⟨rfl, ?_⟩, .inl ⟨rfl, ?_⟩, .inl ⟨rfl, ?_⟩, .inl ⟨rfl, ?_⟩, .inl ⟨rfl, ?_⟩, .inl ⟨rfl, ?_⟩, .inl ⟨rfl, ?_⟩, .inl ⟨rfl, ?_⟩, .inl ⟨rfl, ?_⟩, .inl ⟨rfl, ?_⟩, .inl ⟨rfl, ?_⟩, .inl ⟨rfl, ?_⟩, .inl ⟨rfl, ?_⟩, .inl ⟨rfl, ?_⟩, .inl ⟨rfl, ?_⟩, .inl ⟨rfl, ?_⟩, .inl ⟨rfl, ?_⟩, .inl ⟨rfl, ?_⟩, .inl ⟨rfl, ?_⟩, .inl ⟨rfl, ?_⟩, .inl ⟨rfl, ?_⟩, trivial⟩
 all_goals intro done a wq hw h
 ·have e5 := cO 5 (.pointer (some ⟨wr.heap.size, 0, none⟩)) h; refine ch_pure ?_; go_simp
 ·have e18 := cN 0 18 h hw; obtain ⟨r_, f_, n_, c_, z_, l_⟩ := keep1 h.bel a0r (by go_simp) a0f; refine ch_pure ?_; go_simp
 ·have e0 := cO 0 (.slice (some ⟨b, o, none⟩) l.length c) h; exact ch_move (ch_ev e0)
 ·have e20 := cN 2 20 h hw; refine ch_pure ?_; go_simp
 ·have e21 := cN 3 21 h hw; refine ch_pure ?_; go_simp
 ·have e22 := cN 4 22 h hw; have hc := (h.bel.cell (p := ⟨b, o, none⟩) (by simp; omega)).trans (show w1.cell? _ = some (iv x0.from_) from y0); refine ch_pure ?_; go_simp
 ·have e19 := cN 1 19 h hw; have e23 := cN 5 23 h hw; exact ch_neq_int (by kernel_rfl) (ch_ev e19) (ch_ev e23) (by have hq := T0.out; simp [hq])
 ·have e24 := cN 6 24 h hw; exact ch_move (ch_ev e24)
 ·have e5 := cO 5 (.pointer (some ⟨wr.heap.size, 0, none⟩)) h; refine ch_pure ?_; go_simp
 ·have e26 := cN 8 26 h hw; obtain ⟨r_, f_, n_, c_, z_, l_⟩ := keep1 h.bel a0r (by go_simp) a0f; refine ch_pure ?_; go_simp
 ·have e0 := cO 0 (.slice (some ⟨b, o, none⟩) l.length c) h; exact ch_move (ch_ev e0)
 ·have e28 := cN 10 28 h hw; refine ch_pure ?_; go_simp
 ·have e29 := cN 11 29 h hw; refine ch_pure ?_; go_simp
 ·have e30 := cN 12 30 h hw; have hc := (h.bel.cell (p := ⟨b, o + 1, none⟩) (by simp; omega)).trans (show w1.cell? _ = some (iv x0.to_) from y1); refine ch_pure ?_; go_simp
 ·have e27 := cN 9 27 h hw; have e31 := cN 13 31 h hw; exact ch_neq_int (by kernel_rfl) (ch_ev e27) (ch_ev e31) (by have hq := T1.out; simp [hq])
 ·have e25 := cN 7 25 h hw; have e32 := cN 14 32 h hw; exact ch_pick_f e25 (ch_ev e32)
 ·have e33 := cN 15 33 h hw; exact ch_move (ch_ev e33)
 ·have e5 := cO 5 (.pointer (some ⟨wr.heap.size, 0, none⟩)) h; refine ch_pure ?_; go_simp
 ·have e35 := cN 17 35 h hw; obtain ⟨r_, f_, n_, c_, z_, l_⟩ := keep1 h.bel a0r (by go_simp) a0f; refine ch_pure ?_; go_simp
 ·have e0 := cO 0 (.slice (some ⟨b, o, none⟩) l.length c) h; exact ch_move (ch_ev e0)
 ·have e37 := cN 19 37 h hw; refine ch_pure ?_; go_simp
 ·have e38 := cN 20 38 h hw; refine ch_pure ?_; go_simp
 ·have e39 := cN 21 39 h hw; have hc := (h.bel.cell (p := ⟨b, o + 3, none⟩) (by simp; omega)).trans (show w1.cell? _ = some (iv x0.of_) from y3); refine ch_pure ?_; go_simp
 ·have e36 := cN 18 36 h hw; have e40 := cN 22 40 h hw; exact ch_neq_int (by kernel_rfl) (ch_ev e36) (ch_ev e40) (by have hq := T2.out; simp [hq])
 ·have e34 := cN 16 34 h hw; have e41 := cN 23 41 h hw; exact ch_pick_f e34 (ch_ev e41)
 ·have e42 := cN 24 42 h hw; exact ch_move (ch_ev e42)
 ·have e5 := cO 5 (.pointer (some ⟨wr.heap.size, 0, none⟩)) h; refine ch_pure ?_; go_simp
 ·have e44 := cN 26 44 h hw; obtain ⟨r_, f_, n_, c_, z_, l_⟩ := keep1 h.bel a0r (by go_simp) a0f; refine ch_pure ?_; go_simp
 ·have e3 := cO 3 (.int .i64 m) h; exact ch_move (ch_ev e3)
 ·have e45 := cN 27 45 h hw; have e46 := cN 28 46 h hw; exact ch_leq_int (by kernel_rfl) (ch_ev e45) (ch_ev e46) (by have hq := T3.out; simp; omega)
 ·have e43 := cN 25 43 h hw; have e47 := cN 29 47 h hw; exact ch_pick_f e43 (ch_ev e47)) : p := h
theorem x24 {p : Prop} (h : p := by
 have e5 := cO 5 (.pointer (some ⟨wr.heap.size, 0, none⟩)) h; refine ch_pure ?_; go_simp) : p := h
theorem x37 {p : Prop} (h : p := by
 intro w2 hb2
 simp only [putAll_some, putAll_none, putAll_nil, List.setIfInBounds_toArray, List.set_cons_zero, List.set_cons_succ]
 have HB2 := bT HB1 hb2
 clear hb2 a0r a0f a0n a0c a0z a0l
 go_wp2_with fail
 go_ret
 exact ⟨ret_int HZ.out.symm, HB2.out⟩) : p := h
theorem x40 {p : Prop} (h : p := by
 have e22 := cN 4 22 h hw; have hc := (h.bel.cell (p := ⟨b, o, none⟩) (by simp; omega)).trans (show w1.cell? _ = some (iv x0.from_) from y0); refine ch_pure ?_; go_simp) : p := h
theorem x53 {p : Prop} (h : p := by
 have e19 := cN 1 19 h hw; have e23 := cN 5 23 h hw; exact ch_neq_int (by kernel_rfl) (ch_ev e19) (ch_ev e23) (by have hq := T0.out; simp [hq])) : p := h
theorem x56 {p : Prop} (h : p := by
 have e30 := cN 12 30 h hw; have hc := (h.bel.cell (p := ⟨b, o + 1, none⟩) (by simp; omega)).trans (show w1.cell? _ = some (iv x0.to_) from y1); refine ch_pure ?_; go_simp) : p := h
theorem x63 {p : Prop} (h : p := by
 have e18 := cN 0 18 h hw; obtain ⟨r_, f_, n_, c_, z_, l_⟩ := keep1 h.bel a0r (by go_simp) a0f; refine ch_pure ?_; go_simp) : p := h
theorem x69 {p : Prop} (h : p := by
 have e27 := cN 9 27 h hw; have e31 := cN 13 31 h hw; exact ch_neq_int (by kernel_rfl) (ch_ev e27) (ch_ev e31) (by have hq := T1.out; simp [hq])) : p := h
theorem x76 {p : Prop} (h : p := by
 have e26 := cN 8 26 h hw; obtain ⟨r_, f_, n_, c_, z_, l_⟩ := keep1 h.bel a0r (by go_simp) a0f; refine ch_pure ?_; go_simp) : p := h
theorem x120 {p : Prop} (h : p := by
 have e25 := cN 7 25 h hw; have e32 := cN 14 32 h hw; exact ch_pick_f e25 (ch_ev e32)) : p := h
theorem x156 {p : Prop} (h : p := by
 have e20 := cN 2 20 h hw; refine ch_pure ?_; go_simp) : p := h
theorem x157 {p : Prop} (h : p := by
 have e21 := cN 3 21 h hw; refine ch_pure ?_; go_simp) : p := h
theorem x158 {p : Prop} (h : p := by
 have e33 := cN 15 33 h hw; exact ch_move (ch_ev e33)) : p := h
theorem x159 {p : Prop} (h : p := by
 have e42 := cN 24 42 h hw; exact ch_move (ch_ev e42)) : p := h
theorem x162 {p : Prop} (h : p := by
 have e24 := cN 6 24 h hw; exact ch_move (ch_ev e24)) : p := h
theorem x223 {p : Prop} (h : p := by
 have e43 := cN 25 43 h hw; exact ch_pick_t e43 rfl) : p := h
theorem refChkCheckX_calls (A : Option Addr) (c : Nat) (x : Chk) (w : World) (h : I64 x.n ∧ I64 x.of_) :
  Calls Tryz.prog 64 #[.agg (chkA x.from_ x.to_ x.n x.of_ A x.data.length c)] w (RetB w (iv (chkCheck x))) := refChkCheck_calls A c x.from_ x.to_ x.n x.of_ x.data w h.1 h.2
theorem refChkList_calls (A : Option Addr) (c : Nat) (l : List Chk) (w : World) (hl : l.length <= 1048576) (hs : Chs w A l) :
  Calls Tryz.prog 26 #[.slice A l.length c] w (RetB w (iv (chkList l))) := by
 have HS := hD hs
 clear hs
 obtain ⟨r, hr⟩ : ∃ r, chkList l = r := ⟨_, rfl⟩
 rw [hr]
 have HR : Hid (listGo none l = r) := hD hr
 clear hr
 go_enter Tryz.func26, Tryz.ntmps26
 go_wp2_with fail
 go_loopw [9, 3] (fun i z wr => ∃ (k : Nat) (m : Int), k <= l.length ∧ i = .int .i64 k ∧ z = .int .i64 m ∧ Hid (listGo ((l.take k).getLast?) (l.drop k) = r) ∧ Hid (k = 0 -> m = -1) ∧ Hid (∀ q, (l.take k).getLast? = some q -> q.n = m ∧ ∀ x0, l[0]? = some x0 -> kin x0 q) ∧ Hid (Below w.heap.size w wr)) (fun i _ _ => l.length - (intOf i).toNat)
 case atStart => exact ⟨0, -1, Nat.zero_le _, rfl, rfl, hD HR.out, hD (fun _ => rfl), hD (fun q e => by simp at e), hD (Below.refl _ _)⟩
 case round =>
  rename World => wr
  obtain ⟨k, m, hk, rfl, rfl, HE, HM0, HQ, HB⟩ := hrel
  have hsz := HB.out.size
  by_cases hlt : k < l.length
  ·obtain ⟨b, o, B, cx, rfl, hb, hat, hin⟩ := HS.out.chk hlt
   have hdr : l.drop k = l[k] :: l.drop (k + 1) := List.drop_eq_getElem_cons hlt
   have hlast : (l.take (k + 1)).getLast? = some l[k] := by rw [List.take_succ_eq_append_getElem hlt, List.getLast?_concat]
   obtain ⟨x0, hx0⟩ : ∃ x0, l[0]? = some x0 := ⟨_, List.getElem?_eq_getElem (by omega)⟩
   have hat0 : ∃ D d, ChkAt w b o x0 D d := by
    obtain ⟨b', o', D, d, e, _, h1, _⟩ := HS.out.chk (i := 0) (by omega)
    injection e with e
    injection e with e1 e2
    subst e1 e2
    rw [List.getElem?_eq_getElem (by omega)] at hx0
    injection hx0 with hx0
    rw [hx0] at h1
    exact ⟨D, d, by simpa using h1⟩
   obtain ⟨D0, d0, hat0⟩ := hat0
   have h00 : k = 0 -> l[k] = x0 := fun e => by
    subst e
    rw [List.getElem?_eq_getElem (by omega)] at hx0
    injection hx0
   obtain ⟨x, hx⟩ : ∃ x, l[k] = x := ⟨_, rfl⟩
   rw [hx] at hdr hlast hat hin h00
   rw [hdr] at HE
   obtain ⟨p, hp⟩ : ∃ p, (l.take k).getLast? = p := ⟨_, rfl⟩
   rw [hp] at HE HQ
   have HX0 := hD hx0
   have HFOL : Hid (chkCheck x = 0 -> (follows p x ↔ kin x0 x ∧ m < x.n)) := hD (fun hck => by
    by_cases hk0 : k = 0
    ·have e1 : p = none := by rw [← hp, hk0]; simp
     have e2 := HM0.out hk0
     have e3 := h00 hk0
     obtain ⟨⟨_, _, _, _, _, _, h7, _⟩, _⟩ := chkCheck_ok.1 hck
     subst e1 e2 e3
     exact ⟨fun _ => ⟨kin_refl _, by omega⟩, fun _ q e => by cases e⟩
    obtain ⟨q, hq⟩ : ∃ q, p = some q := by
     rw [← hp, List.getLast?_take, if_neg hk0, List.getElem?_eq_getElem (by omega)]
     exact ⟨_, rfl⟩
    obtain ⟨g1, g2⟩ := HQ.out q hq
    have g3 := g2 x0 hx0
    subst hq g1
    constructor
    ·intro h
     obtain ⟨h1, h2⟩ := h q rfl
     exact ⟨kin_trans g3 h1, h2⟩
    rintro ⟨h1, h2⟩ z e
    injection e with e
    subst e
    exact ⟨kin_trans (kin_symm g3) h1, h2⟩)
   have HLAST := hD hlast
   have hat2 := hat.stays hb HB.out
   have hat3 := hat0.stays hb HB.out
   obtain ⟨c0, c1, c2, c3, c4⟩ := hat2
   obtain ⟨y0, y1, y2, y3, y4⟩ := hat3
   have HK := hD (fun w => refChkCheckX_calls B cx x w ⟨hin.i2, hin.i3⟩)
   have hblt : b < wr.heap.size := by omega
   have dl : decide ((k : Int) < (l.length : Int)) = true := decide_eq_true (by omega)
   have hwk : IntKind.i64.wrap ((k : Int) + 1) = (k : Int) + 1 := IntWalk.i64_in _ (by omega)
   have hl0 : ¬ (l.length : Int) <= 0 := by omega
   have hne : ¬ l = [] := fun e => by rw [e] at hlt; simp at hlt
   clear hdr hlast hx hp hat hin hat0 h00 hx0 HM0 HQ
   by_cases hck : chkCheck x ≠ 0
   ·exact x55
   have hck := Decidable.not_not.1 hck
   have HCK := hD hck
   have HFO := hD (HFOL.out hck)
   rw [hck] at HK
   clear hck HFOL
   go_wp2_with fail
   refine (HK.out _).mono ?_
   rintro e w1 ⟨rfl, hb1⟩
   obtain ⟨a0r, a0f, a0n, a0c, a0z, a0l⟩ := kp (wr.heap.size) (chkA x.from_ x.to_ x.n x.of_ B x.data.length cx) hb1
   have hbb : Below wr.heap.size wr w1 := by
    refine Below.trans ?_ (hb1.mono (by first | omega | (simp <;> omega)))
    exact x66
   have HB1 : Hid (Below w.heap.size w w1) := hD (HB.out.trans (hbb.mono hsz))
   have y0 := (hbb.cell (p := ⟨b, o, none⟩) hblt).trans y0
   have y1 := (hbb.cell (p := ⟨b, o + 1, none⟩) hblt).trans y1
   have y3 := (hbb.cell (p := ⟨b, o + 3, none⟩) hblt).trans y3
   have hs1 := HB1.out.size
   have hs2 := hbb.size
   have hbl1 : b < w1.heap.size := by omega
   clear hb1 hbb c0 c1 c2 c3 c4 y2 y4
   go_wp2_with fail
   by_cases t0 : ¬ x.from_ = x0.from_
   ·have HZ : Hid (r = 3) := hD (by rw [← HE.out, listGo_form HCK.out (by rw [HFO.out]; exact fun h => t0 h.1.1.symm)])
    have T0 := hD t0
    clear t0
    refine wp_region_chain (by kernel_rfl) (some 18 :: some 19 :: some 20 :: some 21 :: some 22 :: some 23 :: some 24 :: some 25 :: some 26 :: some 27 :: some 28 :: some 29 :: some 30 :: some 31 :: some 32 :: some 33 :: some 34 :: some 35 :: some 36 :: some 37 :: some 38 :: some 39 :: some 40 :: some 41 :: some 42 :: some 43 :: some 44 :: some 45 :: some 46 :: some 47 :: some 48 :: []) (.pointer (some ⟨wr.heap.size, 0, none⟩) :: iv x.from_ :: .slice (some ⟨b, o, none⟩) l.length c :: .pointer (some ⟨b, o, none⟩) :: .pointer (some ⟨b, o, none⟩) :: iv x0.from_ :: .bool true :: .bool true :: undef :: undef :: undef :: undef :: undef :: undef :: undef :: .bool true :: .bool true :: undef :: undef :: undef :: undef :: undef :: undef :: undef :: .bool true :: .bool true :: undef :: undef :: undef :: undef :: .bool true :: []) 52 rfl rfl (by decide +kernel) (by decide +kernel) (by decide +kernel) rfl ?_ ?_
    ·refine ⟨.inl ⟨rfl, ?_⟩, .inl ⟨rfl, ?_⟩, .inl ⟨rfl, ?_⟩, .inl ⟨rfl, ?_⟩, .inl ⟨rfl, ?_⟩, .inl ⟨rfl, ?_⟩, .inl ⟨rfl, ?_⟩, .inl ⟨rfl, ?_⟩, .inr ⟨rfl, rfl⟩, .inr ⟨rfl, rfl⟩, .inr ⟨rfl, rfl⟩, .inr ⟨rfl, rfl⟩, .inr ⟨rfl, rfl⟩, .inr ⟨rfl, rfl⟩, .inr ⟨rfl, rfl⟩, .inl ⟨rfl, ?_⟩, .inl ⟨rfl, ?_⟩, .inr ⟨rfl, rfl⟩, .inr ⟨rfl, rfl⟩, .inr ⟨rfl, rfl⟩, .inr ⟨rfl, rfl⟩, .inr ⟨rfl, rfl⟩, .inr ⟨rfl, rfl⟩, .inr ⟨rfl, rfl⟩, .inl ⟨rfl, ?_⟩, .inl ⟨rfl, ?_⟩, .inr ⟨rfl, rfl⟩, .inr ⟨rfl, rfl⟩, .inr ⟨rfl, rfl⟩, .inr ⟨rfl, rfl⟩, .inl ⟨rfl, ?_⟩, trivial⟩
     all_goals intro done a wq hw h
     ·exact x24
     ·exact x63
     ·exact x30
     ·exact x156
     ·exact x157
     ·exact x40
     ·exact x53
     ·exact x162
     ·have e25 := cN 7 25 h hw; exact ch_pick_t e25 rfl
     ·exact x158
     ·have e34 := cN 16 34 h hw; exact ch_pick_t e34 rfl
     ·exact x159
     ·exact x223
    exact x37
   have T0 := hD (Decidable.not_not.1 t0)
   clear t0
   by_cases t1 : ¬ x.to_ = x0.to_
   ·have HZ : Hid (r = 3) := hD (by rw [← HE.out, listGo_form HCK.out (by rw [HFO.out]; exact fun h => t1 h.1.2.1.symm)])
    have T1 := hD t1
    clear t1
    refine wp_region_chain (by kernel_rfl) (some 18 :: some 19 :: some 20 :: some 21 :: some 22 :: some 23 :: some 24 :: some 25 :: some 26 :: some 27 :: some 28 :: some 29 :: some 30 :: some 31 :: some 32 :: some 33 :: some 34 :: some 35 :: some 36 :: some 37 :: some 38 :: some 39 :: some 40 :: some 41 :: some 42 :: some 43 :: some 44 :: some 45 :: some 46 :: some 47 :: some 48 :: []) (.pointer (some ⟨wr.heap.size, 0, none⟩) :: iv x.from_ :: .slice (some ⟨b, o, none⟩) l.length c :: .pointer (some ⟨b, o, none⟩) :: .pointer (some ⟨b, o, none⟩) :: iv x0.from_ :: .bool false :: .bool false :: .pointer (some ⟨wr.heap.size, 1, none⟩) :: iv x.to_ :: .slice (some ⟨b, o, none⟩) l.length c :: .pointer (some ⟨b, o, none⟩) :: .pointer (some ⟨b, o + 1, none⟩) :: iv x0.to_ :: .bool true :: .bool true :: .bool true :: undef :: undef :: undef :: undef :: undef :: undef :: undef :: .bool true :: .bool true :: undef :: undef :: undef :: undef :: .bool true :: []) 52 rfl rfl (by decide +kernel) (by decide +kernel) (by decide +kernel) rfl ?_ ?_
    ·refine ⟨.inl ⟨rfl, ?_⟩, .inl ⟨rfl, ?_⟩, .inl ⟨rfl, ?_⟩, .inl ⟨rfl, ?_⟩, .inl ⟨rfl, ?_⟩, .inl ⟨rfl, ?_⟩, .inl ⟨rfl, ?_⟩, .inl ⟨rfl, ?_⟩, .inl ⟨rfl, ?_⟩, .inl ⟨rfl, ?_⟩, .inl ⟨rfl, ?_⟩, .inl ⟨rfl, ?_⟩, .inl ⟨rfl, ?_⟩, .inl ⟨rfl, ?_⟩, .inl ⟨rfl, ?_⟩, .inl ⟨rfl, ?_⟩, .inl ⟨rfl, ?_⟩, .inr ⟨rfl, rfl⟩, .inr ⟨rfl, rfl⟩, .inr ⟨rfl, rfl⟩, .inr ⟨rfl, rfl⟩, .inr ⟨rfl, rfl⟩, .inr ⟨rfl, rfl⟩, .inr ⟨rfl, rfl⟩, .inl ⟨rfl, ?_⟩, .inl ⟨rfl, ?_⟩, .inr ⟨rfl, rfl⟩, .inr ⟨rfl, rfl⟩, .inr ⟨rfl, rfl⟩, .inr ⟨rfl, rfl⟩, .inl ⟨rfl, ?_⟩, trivial⟩
     all_goals intro done a wq hw h
     ·exact x24
     ·exact x63
     ·exact x30
     ·exact x156
     ·exact x157
     ·exact x40
     ·exact x53
     ·exact x162
     ·exact x24
     ·exact x76
     ·exact x30
     ·have e28 := cN 10 28 h hw; refine ch_pure ?_; go_simp
     ·have e29 := cN 11 29 h hw; refine ch_pure ?_; go_simp
     ·exact x56
     ·exact x69
     ·exact x120
     ·exact x158
     ·have e34 := cN 16 34 h hw; exact ch_pick_t e34 rfl
     ·exact x159
     ·exact x223
    exact x37
   have T1 := hD (Decidable.not_not.1 t1)
   clear t1
   by_cases t2 : ¬ x.of_ = x0.of_
   ·have HZ : Hid (r = 3) := hD (by rw [← HE.out, listGo_form HCK.out (by rw [HFO.out]; exact fun h => t2 h.1.2.2.symm)])
    have T2 := hD t2
    clear t2
    refine wp_region_chain (by kernel_rfl) (some 18 :: some 19 :: some 20 :: some 21 :: some 22 :: some 23 :: some 24 :: some 25 :: some 26 :: some 27 :: some 28 :: some 29 :: some 30 :: some 31 :: some 32 :: some 33 :: some 34 :: some 35 :: some 36 :: some 37 :: some 38 :: some 39 :: some 40 :: some 41 :: some 42 :: some 43 :: some 44 :: some 45 :: some 46 :: some 47 :: some 48 :: []) (.pointer (some ⟨wr.heap.size, 0, none⟩) :: iv x.from_ :: .slice (some ⟨b, o, none⟩) l.length c :: .pointer (some ⟨b, o, none⟩) :: .pointer (some ⟨b, o, none⟩) :: iv x0.from_ :: .bool false :: .bool false :: .pointer (some ⟨wr.heap.size, 1, none⟩) :: iv x.to_ :: .slice (some ⟨b, o, none⟩) l.length c :: .pointer (some ⟨b, o, none⟩) :: .pointer (some ⟨b, o + 1, none⟩) :: iv x0.to_ :: .bool false :: .bool false :: .bool false :: .pointer (some ⟨wr.heap.size, 3, none⟩) :: iv x.of_ :: .slice (some ⟨b, o, none⟩) l.length c :: .pointer (some ⟨b, o, none⟩) :: .pointer (some ⟨b, o + 3, none⟩) :: iv x0.of_ :: .bool true :: .bool true :: .bool true :: undef :: undef :: undef :: undef :: .bool true :: []) 52 rfl rfl (by decide +kernel) (by decide +kernel) (by decide +kernel) rfl ?_ ?_
    ·refine ⟨.inl ⟨rfl, ?_⟩, .inl ⟨rfl, ?_⟩, .inl ⟨rfl, ?_⟩, .inl ⟨rfl, ?_⟩, .inl ⟨rfl, ?_⟩, .inl ⟨rfl, ?_⟩, .inl ⟨rfl, ?_⟩, .inl ⟨rfl, ?_⟩, .inl ⟨rfl, ?_⟩, .inl ⟨rfl, ?_⟩, .inl ⟨rfl, ?_⟩, .inl ⟨rfl, ?_⟩, .inl ⟨rfl, ?_⟩, .inl ⟨rfl, ?_⟩, .inl ⟨rfl, ?_⟩, .inl ⟨rfl, ?_⟩, .inl ⟨rfl, ?_⟩, .inl ⟨rfl, ?_⟩, .inl ⟨rfl, ?_⟩, .inl ⟨rfl, ?_⟩, .inl ⟨rfl, ?_⟩, .inl ⟨rfl, ?_⟩, .inl ⟨rfl, ?_⟩, .inl ⟨rfl, ?_⟩, .inl ⟨rfl, ?_⟩, .inl ⟨rfl, ?_⟩, .inr ⟨rfl, rfl⟩, .inr ⟨rfl, rfl⟩, .inr ⟨rfl, rfl⟩, .inr ⟨rfl, rfl⟩, .inl ⟨rfl, ?_⟩, trivial⟩
     all_goals intro done a wq hw h
     ·exact x24
     ·exact x63
     ·exact x30
     ·exact x156
     ·exact x157
     ·exact x40
     ·exact x53
     ·exact x162
     ·exact x24
     ·exact x76
     ·exact x30
     ·have e28 := cN 10 28 h hw; refine ch_pure ?_; go_simp
     ·have e29 := cN 11 29 h hw; refine ch_pure ?_; go_simp
     ·exact x56
     ·exact x69
     ·exact x120
     ·exact x158
     ·exact x24
     ·have e35 := cN 17 35 h hw; obtain ⟨r_, f_, n_, c_, z_, l_⟩ := keep1 h.bel a0r (by go_simp) a0f; refine ch_pure ?_; go_simp
     ·exact x30
     ·have e37 := cN 19 37 h hw; refine ch_pure ?_; go_simp
     ·have e38 := cN 20 38 h hw; refine ch_pure ?_; go_simp
     ·have e39 := cN 21 39 h hw; have hc := (h.bel.cell (p := ⟨b, o + 3, none⟩) (by simp; omega)).trans (show w1.cell? _ = some (iv x0.of_) from y3); refine ch_pure ?_; go_simp
     ·have e36 := cN 18 36 h hw; have e40 := cN 22 40 h hw; exact ch_neq_int (by kernel_rfl) (ch_ev e36) (ch_ev e40) (by have hq := T2.out; simp [hq])
     ·have e34 := cN 16 34 h hw; have e41 := cN 23 41 h hw; exact ch_pick_f e34 (ch_ev e41)
     ·exact x159
     ·exact x223
    exact x37
   have T2 := hD (Decidable.not_not.1 t2)
   clear t2
   by_cases t3 : ¬ m < x.n
   ·have HZ : Hid (r = 3) := hD (by rw [← HE.out, listGo_form HCK.out (by rw [HFO.out]; exact fun h => t3 h.2)])
    have T3 := hD t3
    clear t3
    refine wp_region_chain (by kernel_rfl) (some 18 :: some 19 :: some 20 :: some 21 :: some 22 :: some 23 :: some 24 :: some 25 :: some 26 :: some 27 :: some 28 :: some 29 :: some 30 :: some 31 :: some 32 :: some 33 :: some 34 :: some 35 :: some 36 :: some 37 :: some 38 :: some 39 :: some 40 :: some 41 :: some 42 :: some 43 :: some 44 :: some 45 :: some 46 :: some 47 :: some 48 :: []) (.pointer (some ⟨wr.heap.size, 0, none⟩) :: iv x.from_ :: .slice (some ⟨b, o, none⟩) l.length c :: .pointer (some ⟨b, o, none⟩) :: .pointer (some ⟨b, o, none⟩) :: iv x0.from_ :: .bool false :: .bool false :: .pointer (some ⟨wr.heap.size, 1, none⟩) :: iv x.to_ :: .slice (some ⟨b, o, none⟩) l.length c :: .pointer (some ⟨b, o, none⟩) :: .pointer (some ⟨b, o + 1, none⟩) :: iv x0.to_ :: .bool false :: .bool false :: .bool false :: .pointer (some ⟨wr.heap.size, 3, none⟩) :: iv x.of_ :: .slice (some ⟨b, o, none⟩) l.length c :: .pointer (some ⟨b, o, none⟩) :: .pointer (some ⟨b, o + 3, none⟩) :: iv x0.of_ :: .bool false :: .bool false :: .bool false :: .pointer (some ⟨wr.heap.size, 2, none⟩) :: iv x.n :: .int .i64 m :: .bool true :: .bool true :: []) 52 rfl rfl (by decide +kernel) (by decide +kernel) (by decide +kernel) rfl ?_ ?_
    ·exact x3
    exact x37
   have T3 := hD (Decidable.not_not.1 t3)
   clear t3
   have HKI : Hid (kin x0 x) := hD ⟨T0.out.symm, T1.out.symm, T2.out.symm⟩
   have HZ : Hid (listGo (some x) (l.drop (k + 1)) = r) := hD (by rw [← HE.out, listGo_next HCK.out (HFO.out.2 ⟨HKI.out, T3.out⟩)])
   refine wp_region_chain (by kernel_rfl) (some 18 :: some 19 :: some 20 :: some 21 :: some 22 :: some 23 :: some 24 :: some 25 :: some 26 :: some 27 :: some 28 :: some 29 :: some 30 :: some 31 :: some 32 :: some 33 :: some 34 :: some 35 :: some 36 :: some 37 :: some 38 :: some 39 :: some 40 :: some 41 :: some 42 :: some 43 :: some 44 :: some 45 :: some 46 :: some 47 :: some 48 :: []) (.pointer (some ⟨wr.heap.size, 0, none⟩) :: iv x.from_ :: .slice (some ⟨b, o, none⟩) l.length c :: .pointer (some ⟨b, o, none⟩) :: .pointer (some ⟨b, o, none⟩) :: iv x0.from_ :: .bool false :: .bool false :: .pointer (some ⟨wr.heap.size, 1, none⟩) :: iv x.to_ :: .slice (some ⟨b, o, none⟩) l.length c :: .pointer (some ⟨b, o, none⟩) :: .pointer (some ⟨b, o + 1, none⟩) :: iv x0.to_ :: .bool false :: .bool false :: .bool false :: .pointer (some ⟨wr.heap.size, 3, none⟩) :: iv x.of_ :: .slice (some ⟨b, o, none⟩) l.length c :: .pointer (some ⟨b, o, none⟩) :: .pointer (some ⟨b, o + 3, none⟩) :: iv x0.of_ :: .bool false :: .bool false :: .bool false :: .pointer (some ⟨wr.heap.size, 2, none⟩) :: iv x.n :: .int .i64 m :: .bool false :: .bool false :: []) 52 rfl rfl (by decide +kernel) (by decide +kernel) (by decide +kernel) rfl ?_ ?_
   ·exact x3
   intro w2 hb2
   simp only [putAll_some, putAll_none, putAll_nil, List.setIfInBounds_toArray, List.set_cons_zero, List.set_cons_succ]
   obtain ⟨a0r, a0f, a0n, a0c, a0z, a0l⟩ := keep1 (g := wr.heap.size) (cs := chkA x.from_ x.to_ x.n x.of_ B x.data.length cx) hb2 a0r (by go_simp) a0f
   have HB2 := bT HB1 hb2
   clear hb2
   go_wp2_with fail
   go_roundw
   case rel => exact ⟨k + 1, x.n, by omega, by go_num, rfl, hD (by rw [HLAST.out]; exact HZ.out), hD (fun e => by omega), hD (fun q e => by rw [HLAST.out] at e; injection e with e; subst e; exact ⟨rfl, fun z hz => by rw [HX0.out] at hz; injection hz with hz; subst hz; exact HKI.out⟩), HB2⟩
   case measure => simp [intOf]; omega
  have hz : r = 0 := by rw [← HE.out, List.drop_of_length_le (by omega)]; rfl
  exact x209
theorem x17 {p : Prop} (h : p := by
 go_quiet (fail)
 go_wp2_with fail
 go_meet
 case rel => exact ⟨by rw [hres], hD (below_drewN _ _)⟩) : p := h
theorem x44 {p : Prop} (h : p := by
 clear c1
 go_wp2_with fail
 go_ret
 have hgg := HG.out
 have hs := HB2.out.size
 refine ⟨ret_int hz.out.symm, ?_⟩
 repeat (first | exact HB2.out | refine bA ?_ _)) : p := h
theorem x92 {p : Prop} (h : p := by
 go_wp2_with fail
 go_ret
 have hgg := HG.out
 have hs := HB6.out.size
 refine ⟨ret_int hz.out.symm, ?_⟩
 repeat (first | exact HB6.out | refine bA ?_ _)) : p := h
theorem x150 {p : Prop} (h : p := by
 go_wp2_with fail
 go_ret
 have hgg := HG.out
 have hs := HB10.out.size
 refine ⟨ret_int hz.out.symm, ?_⟩
 repeat (first | exact HB10.out | refine bA ?_ _)) : p := h
theorem x152 {p : Prop} (h : p := by
 go_wp2_with fail
 go_ret
 have hgg := HG.out
 have hs := HBA.out.size
 refine ⟨ret_int hz.out.symm, ?_⟩
 repeat (first | exact HBA.out | refine bA ?_ _)) : p := h
theorem refPatSameZ_calls (p : Pat) (B : Option Addr) (c : Nat) (w : World) (hp : PatIn w p B c) : Calls Tryz.prog 23 #[.agg (patA p.from_ p.to_ p.old p.new_ p.size B p.ops.length c), .agg (patA 0 0 0 0 0 none 0 0)] w (RetB w (.bool (decide (p = Pat.zero)))) :=
 refPatSameA_calls B none c 0 p.from_ p.to_ p.old p.new_ p.size 0 0 0 0 0 p.ops [] w hp.len (by simp) hp.ops (Sps.nil _ _)
theorem run_min64 (n : Int) (w : World) : (Builtin.min_ #[3, 3] 3 #[.int .i64 64, .int .i64 n]).run Tryz.prog w = .ok (.int .i64 (min 64 n)) w := by
 by_cases h : n < (64 : Int)
 ·have e : min 64 n = n := by omega
  rw [e]
  go_simp <;> omega
 have e : min 64 n = 64 := by omega
 rw [e]
 go_simp <;> omega
theorem refDevCheck_calls (d : Dev) (L : DLoc) (w : World) (h : DevIn w d L) : Calls Tryz.prog 5 #[.agg (devA d L)] w (RetB w (iv (devCheck d))) := by
 have HIN := hD h
 clear h
 obtain ⟨n, hn⟩ : ∃ n, devCheck d = n := ⟨_, rfl⟩
 rw [hn]
 have HN := hD hn
 clear hn
 have HBA := hD ((Below.refl w.heap.size w).alloc (Nat.le_refl _) (.cells (devA d L) 37))
 obtain ⟨g, hg⟩ : ∃ g, w.heap.size = g := ⟨_, rfl⟩
 have HG := hD hg
 clear hg
 go_enter Tryz.func5, Tryz.ntmps5
 by_cases l0 : d.s0.length = 64
 case neg =>
  have q0 : ((d.s0.length : Int) != 64) = true := by simp; omega
  have hz : Hid (n = 3) := hD (HN.out.symm.trans (devCheck_is_len (.inl l0)))
  clear l0
  exact x152
 have q0 : ((d.s0.length : Int) != 64) = false := by simp; omega
 by_cases l1 : d.s1.length = 64
 case neg =>
  have q1 : ((d.s1.length : Int) != 64) = true := by simp; omega
  have hz : Hid (n = 3) := hD (HN.out.symm.trans (devCheck_is_len (.inr l1)))
  clear l1 l0
  exact x152
 have q1 : ((d.s1.length : Int) != 64) = false := by simp; omega
 have HL0 := hD l0
 have HL1 := hD l1
 clear l0 l1
 go_wp2_with fail
 refine (refCopies_calls d.c0 d.c1 _).mono ?_
 rintro e w1 ⟨rfl, hb⟩
 have a0r : rowOf (w.alloc (.cells (devA d L) 37)) w.heap.size = devA d L := by rw [rowOf_alloc, if_pos rfl]
 have a0f : frOf (w.alloc (.cells (devA d L) 37)) w.heap.size = (0, 0) := by rw [frOf_alloc, if_pos rfl]
 have HB1 : Hid (Below w.heap.size w w1) := hD (HBA.out.trans (hb.mono (by simp)))
 rw [HG.out] at a0r a0f ⊢
 obtain ⟨a0r, a0f, a0n, a0c, a0z, a0l⟩ := keep1 (g := g) (cs := devA d L) hb a0r (by go_simp) a0f
 clear hb q0 q1 HBA
 by_cases hc : copCheck d.c0 d.c1 = 0
 case neg =>
  have q : (copCheck d.c0 d.c1 != 0) = true := by simp [hc]
  have hz : Hid (n = copCheck d.c0 d.c1) := hD (HN.out.symm.trans (devCheck_is_cop HL0.out HL1.out hc))
  generalize copCheck d.c0 d.c1 = e1 at *
  clear hc
  go_wp2_with fail
  go_ret
  have hgg := HG.out
  have hs := HB1.out.size
  refine ⟨ret_int hz.out.symm, ?_⟩
  repeat (first | exact HB1.out | refine bA ?_ _)
 rw [hc]
 have HC := hD hc
 clear hc
 go_upto_region 6 with fail
 obtain ⟨idle, hidle⟩ : ∃ b, decide (d.done = 0 ∧ d.job = Pat.zero) = b := ⟨_, rfl⟩
 have HID := hD hidle
 clear hidle
 go_cut [4] (fun v wx => v = .bool idle ∧ Hid (Below w1.heap.size w1 wx))
 case first =>
  by_cases hd : d.done = 0
  ·have q1 : (d.done == 0) = true := by simp [hd]
   have hres : decide (d.job = Pat.zero) = idle := by rw [← HID.out]; simp [hd]
   clear hd
   go_wp2_with fail
   refine (refPatSameZ_calls d.job L.aj L.cj w1 (HIN.out.job.stays HB1.out)).mono ?_
   rintro e w2 ⟨rfl, hb⟩
   rw [hres]
   have HB2 := hD hb
   clear hb
   go_wp2_with fail
   go_meet
   case rel => exact ⟨rfl, HB2⟩
  have q1 : (d.done == 0) = false := by simp [hd]
  have hres : idle = false := by rw [← HID.out]; simp [hd]
  clear hd
  exact x15
 case rest =>
 obtain ⟨rfl, hb⟩ := hcut
 obtain ⟨a0r, a0f, a0n, a0c, a0z, a0l⟩ := keep1 (g := g) (cs := devA d L) hb.out a0r (by go_simp) a0f
 have HB2 := bT HB1 hb.out
 clear hb HB1
 have HIZ : Hid (idle = false -> d.done ≠ 0 ∨ d.job ≠ Pat.zero) := hD (fun e => by
  have := HID.out
  rw [e] at this
  by_cases h1 : d.done = 0
  ·exact .inr (fun h2 => of_decide_eq_false this ⟨h1, h2⟩)
  exact .inl h1)
 have HIO : Hid (idle = true -> d.done = 0 ∧ d.job = Pat.zero) := hD (fun e => by have := HID.out; rw [e] at this; exact of_decide_eq_true this)
 clear HID
 cases hu : d.up
 ·have E := hD (HN.out.symm.trans (devCheck_is_off HL0.out HL1.out HC.out hu))
  by_cases c1 : d.running = 0
  ·have q1 : (d.running != 0) = false := by simp [c1]
   by_cases c2 : d.got = []
   ·have q2 : decide ((0 : Int) < (d.got.length : Int)) = false := by rw [c2]; simp
    cases c3 : d.busy
    ·cases c4 : idle
     ·have hz : Hid (n = 3) := hD (E.out.trans (if_pos (.inr (.inr (.inr (HIZ.out c4))))))
      exact x44
     ·have hz : Hid (n = 0) := hD (E.out.trans (if_neg (by rintro (h | h | h | h | h); exact h c1; exact h c2; rw [c3] at h; cases h; exact h (HIO.out c4).1; exact h (HIO.out c4).2)))
      exact x44
    have hz : Hid (n = 3) := hD (E.out.trans (if_pos (.inr (.inr (.inl c3)))))
    exact x44
   have q2 : decide ((0 : Int) < (d.got.length : Int)) = true := decide_eq_true (by have := List.length_pos_iff.2 c2; omega)
   have hz : Hid (n = 3) := hD (E.out.trans (if_pos (.inr (.inl c2))))
   have c2n : 0 < d.got.length := List.length_pos_iff.2 c2
   exact x44
  have q1 : (d.running != 0) = true := by simp [c1]
  have hz : Hid (n = 3) := hD (E.out.trans (if_pos (.inl c1)))
  exact x44
 have hact := rec_active (recRead_ok HC.out)
 have hok := recRead_ok HC.out
 have hnw := refNewest_ok HC.out
 have KN := hD (fun w => newest_calls d.c0 d.c1 w)
 rw [hnw] at KN
 have HIM := hD (fun w h => imageOf_calls d L w h HL0.out HL1.out HC.out)
 have hrec : (recRead d.c0 d.c1).1 = d.rec_ := rfl
 have E := hD (HN.out.symm.trans (devCheck_is_up HL0.out HL1.out HC.out hu))
 rw [hrec] at KN hact hok E
 obtain ⟨rk, hrk⟩ : ∃ rk, (recRead d.c0 d.c1).2 = rk := ⟨_, rfl⟩
 rw [hrk] at KN
 generalize d.rec_ = r at *
 obtain ⟨a, ha, ha1⟩ : ∃ a : Nat, r.active = (a : Int) ∧ a <= 1 := ⟨r.active.toNat, by omega, by omega⟩
 have HOK := hD hok
 have HA := hD ha
 clear hrec hrk hnw hok hact ha HN
 go_wp2_with fail
 refine (KN.out _).mono ?_
 rintro e w3 ⟨rfl, hb⟩
 obtain ⟨a0r, a0f, a0n, a0c, a0z, a0l⟩ := keep1 (g := g) (cs := devA d L) hb a0r (by go_simp) a0f
 have HB3 := bT HB2 hb
 clear hb KN HB2
 go_upto_region 12 with fail
 obtain ⟨w4, hw4⟩ : ∃ w4, w3.alloc (.cells (recA r) 28) = w4 := ⟨_, rfl⟩
 have hb : Below w3.heap.size w3 w4 := by rw [← hw4]; exact (Below.refl _ _).alloc (Nat.le_refl _) _
 have r0r : rowOf w4 w3.heap.size = recA r := by rw [← hw4, rowOf_alloc, if_pos rfl]
 have r0f : frOf w4 w3.heap.size = (0, 0) := by rw [← hw4, frOf_alloc, if_pos rfl]
 obtain ⟨a0r, a0f, a0n, a0c, a0z, a0l⟩ := keep1 (g := g) (cs := devA d L) hb a0r (by go_simp) a0f
 have HB4 := bT HB3 hb
 rw [hw4]
 obtain ⟨gr, hgr⟩ : ∃ gr, w3.heap.size = gr := ⟨_, rfl⟩
 rw [hgr] at r0r r0f ⊢
 clear hw4 hb hgr HB3
 obtain ⟨r0r, r0f, r0n, r0c, r0z, r0l⟩ := keep1 (Below.refl w4.heap.size w4) r0r (by simp [recA]) r0f
 go_cut [78] (fun v wx => v = .bool (decide (d.running < 0 ∨ 1 < d.running ∨ (d.running ≠ r.active ∧ r.trying = false))) ∧ Hid (Below w4.heap.size w4 wx))
 case first =>
  by_cases c1 : 0 <= d.running ∧ d.running <= 1
  ·have KI := hD (fun w => refIn_t (n := d.running) (a := 0) (b := 1) c1 w)
   cases c2 : r.trying
   ·by_cases c3 : d.running = r.active
    ·have q3 : (d.running != r.active) = false := by simp [c3]
     have hres : decide (d.running < 0 ∨ 1 < d.running ∨ (d.running ≠ r.active ∧ r.trying = false)) = false := decide_eq_false (by rintro (h | h | h); omega; omega; exact h.1 c3)
     clear c1 c3
     go_wp2_with fail
     refine (KI.out _).mono ?_
     rintro e w5 ⟨rfl, rfl⟩
     exact x15
    ·have q3 : (d.running != r.active) = true := by simp [c3]
     have hres : decide (d.running < 0 ∨ 1 < d.running ∨ (d.running ≠ r.active ∧ r.trying = false)) = true := decide_eq_true (.inr (.inr ⟨c3, c2⟩))
     clear c1 c3
     go_wp2_with fail
     refine (KI.out _).mono ?_
     rintro e w5 ⟨rfl, rfl⟩
     exact x15
   have hres : decide (d.running < 0 ∨ 1 < d.running ∨ (d.running ≠ r.active ∧ r.trying = false)) = false := decide_eq_false (by rintro (h | h | h); omega; omega; rw [c2] at h; cases h.2)
   clear c1
   go_wp2_with fail
   refine (KI.out _).mono ?_
   rintro e w5 ⟨rfl, rfl⟩
   exact x15
  have KI := hD (fun w => refIn_f (n := d.running) (a := 0) (b := 1) (by omega) w)
  have hres : decide (d.running < 0 ∨ 1 < d.running ∨ (d.running ≠ r.active ∧ r.trying = false)) = true := decide_eq_true (by omega)
  clear c1
  go_wp2_with fail
  refine (KI.out _).mono ?_
  rintro e w5 ⟨rfl, rfl⟩
  exact x15
 case rest =>
 obtain ⟨rfl, hb⟩ := hcut
 obtain ⟨a0r, a0f, a0n, a0c, a0z, a0l⟩ := keep1 (g := g) (cs := devA d L) hb.out a0r (by go_simp) a0f
 obtain ⟨r0r, r0f, r0n, r0c, r0z, r0l⟩ := keep1 (g := gr) (cs := recA r) hb.out r0r (by simp [recA]) r0f
 have HB5 := bT HB4 hb.out
 clear hb HB4
 by_cases c1 : d.running < 0 ∨ 1 < d.running ∨ (d.running ≠ r.active ∧ r.trying = false)
 ·have q : decide (d.running < 0 ∨ 1 < d.running ∨ (d.running ≠ r.active ∧ r.trying = false)) = true := decide_eq_true c1
  have hz : Hid (n = 2) := hD (E.out.trans (devUp_range c1))
  rw [q]
  clear c1 q
  go_wp2_with fail
  go_ret
  have hgg := HG.out
  have hs := HB5.out.size
  refine ⟨ret_int hz.out.symm, ?_⟩
  repeat (first | exact HB5.out | refine bA ?_ _)
 have q : decide (d.running < 0 ∨ 1 < d.running ∨ (d.running ≠ r.active ∧ r.trying = false)) = false := decide_eq_false c1
 have HRG := hD c1
 rw [q]
 clear c1 q
 go_wp2_with fail
 refine (refChkList_calls L.ag L.cg d.got _ HIN.out.lg (HIN.out.got.stays HB5.out)).mono ?_
 rintro e w6 ⟨rfl, hb⟩
 obtain ⟨a0r, a0f, a0n, a0c, a0z, a0l⟩ := keep1 (g := g) (cs := devA d L) hb a0r (by go_simp) a0f
 obtain ⟨r0r, r0f, r0n, r0c, r0z, r0l⟩ := keep1 (g := gr) (cs := recA r) hb r0r (by simp [recA]) r0f
 have HB6 := bT HB5 hb
 clear hb HB5
 by_cases c1 : chkList d.got = 0
 case neg =>
  have q : (chkList d.got != 0) = true := by simp [c1]
  have hz : Hid (n = chkList d.got) := hD (E.out.trans (devUp_list HRG.out c1))
  generalize chkList d.got = e1 at *
  clear c1
  exact x92
 rw [c1]
 have HGT := hD c1
 clear c1
 cases c2 : d.busy
 ·have E2 := hD (E.out.trans (devUp_idle HRG.out HGT.out c2))
  cases c4 : idle
  ·have hz : Hid (n = 3) := hD (E2.out.trans (if_pos (HIZ.out c4)))
   clear c4
   exact x92
  have hz : Hid (n = 0) := hD (E2.out.trans (if_neg (by rintro (h | h); exact h (HIO.out c4).1; exact h (HIO.out c4).2)))
  clear c4
  exact x92
 have E2 := hD (E.out.trans (devUp_busy HRG.out HGT.out c2))
 clear E HRG HGT HIZ HIO
 go_upto_region 21 with fail
 obtain ⟨a', ha', ha2⟩ : ∃ a' : Nat, a + a' = 1 ∧ a' <= 1 := ⟨1 - a, by omega, by omega⟩
 have hsub : (1 : Int) - (a : Int) = (a' : Int) := by omega
 have hwr : IntKind.i64.wrap ((1 : Int) - (a : Int)) = (a' : Int) := by rw [hsub]; exact IntWalk.i64_in _ (by omega)
 obtain ⟨bad, hbad⟩ : ∃ b, decide (r.trying = true ∨ d.job.to_ < r.floor ∨ d.job.from_ ≠ (r.at_ r.active).ver ∨ (r.at_ (1 - r.active)).ver ≠ 0) = b := ⟨_, rfl⟩
 have HBAD := hD hbad
 have hbad2 := hbad
 rw [HA.out, hsub] at hbad2
 have HBAD2 := hD hbad2
 clear hbad hbad2
 go_cut [121] (fun v wx => v = .bool bad ∧ Hid (Below w6.heap.size w6 wx))
 case first =>
  have ha := HA.out
  have pv := recA_ver r ha1
  have pv2 := recA_ver r ha2
  have z3 := (at_sizes HOK.out (a' : Int)).2.2
  have k1 : (0 : Int) <= (a : Int) := by omega
  have k2 : (a : Int) < 2 := by omega
  have k3 : ¬ (2 : Int) <= (a : Int) := by omega
  have k4 : (0 : Int) <= (a' : Int) := by omega
  have k5 : (a' : Int) < 2 := by omega
  have k6 : ¬ (2 : Int) <= (a' : Int) := by omega
  clear HBAD
  cases c3 : r.trying
  ·by_cases c4 : d.job.to_ < r.floor
   ·have hres : bad = true := by rw [← HBAD2.out]; exact decide_eq_true (.inr (.inl c4))
    have q4 : decide (d.job.to_ < r.floor) = true := decide_eq_true c4
    clear c4 pv pv2
    exact x17
   ·have q4 : decide (d.job.to_ < r.floor) = false := decide_eq_false c4
    generalize (r.at_ (a : Int)).ver = x1 at *
    generalize (r.at_ (a' : Int)).ver = x2 at *
    by_cases c5 : d.job.from_ = x1
    ·have q5 : (d.job.from_ != x1) = false := by simp [c5]
     by_cases c6 : x2 = 0
     ·have hres : bad = false := by rw [← HBAD2.out]; exact decide_eq_false (by rintro (h | h | h | h); rw [c3] at h; cases h; exact c4 h; exact h c5; exact h c6)
      have q6 : decide (0 < x2) = false := decide_eq_false (by omega)
      clear c4 c5 c6
      exact x17
     have hres : bad = true := by rw [← HBAD2.out]; exact decide_eq_true (.inr (.inr (.inr c6)))
     have q6 : decide (0 < x2) = true := decide_eq_true (by omega)
     clear c4 c5 c6
     exact x17
    have q5 : (d.job.from_ != x1) = true := by simp [c5]
    have hres : bad = true := by rw [← HBAD2.out]; exact decide_eq_true (.inr (.inr (.inl c5)))
    clear c4 c5 pv2
    exact x17
  have hres : bad = true := by rw [← HBAD2.out]; exact decide_eq_true (.inl c3)
  clear pv pv2
  exact x17
 case rest =>
 obtain ⟨rfl, hb⟩ := hcut
 obtain ⟨a0r, a0f, a0n, a0c, a0z, a0l⟩ := keep1 (g := g) (cs := devA d L) hb.out a0r (by go_simp) a0f
 obtain ⟨r0r, r0f, r0n, r0c, r0z, r0l⟩ := keep1 (g := gr) (cs := recA r) hb.out r0r (by simp [recA]) r0f
 have HB7 := bT HB6 hb.out
 clear hb HB6 HBAD2
 cases hbd : bad
 case true =>
  have hz : Hid (n = 3) := hD (E2.out.trans (devBusy_form (of_decide_eq_true (HBAD.out.trans hbd))))
  clear hbd
  go_wp2_with fail
  go_ret
  have hgg := HG.out
  have hs := HB7.out.size
  refine ⟨ret_int hz.out.symm, ?_⟩
  repeat (first | exact HB7.out | refine bA ?_ _)
 have hnf := of_decide_eq_false (HBAD.out.trans hbd)
 have hrest := E2.out.trans (devBusy_rest hnf)
 clear hbd HBAD E2 hnf
 obtain ⟨img, himg⟩ : ∃ img, d.image r.active r = img := ⟨_, rfl⟩
 rw [himg] at hrest HIM
 have hil : img.length <= 64 := by
  exact x191
 rw [HA.out, hsub] at hrest
 have hpok := @patDo_ok (sumOn 1) d.job img
 obtain ⟨⟨b, en⟩, hpd⟩ : ∃ x, patDo (sumOn 1) d.job img = x := ⟨_, rfl⟩
 rw [hpd] at hrest hpok
 have HBL : Hid (en = 0 -> b.length <= 64 ∧ (b.length : Int) = d.job.size ∧ d.job.size <= 64) := hD (fun e => by
  exact x154)
 dsimp only at hrest
 have HR3 := hD hrest
 have HPD := hD hpd
 clear hrest hpok hpd himg hsub
 have RD : Hid (rowOf wc g = devA d L) := hD a0r
 have FD : Hid (frOf wc g = (0, 0)) := hD a0f
 have KI : Hid (∀ wq, Below wc.heap.size wc wq -> Calls Tryz.prog 28 #[.agg (devA d L)] wq (ImRet wq img)) := hD (fun wq h => HIM.out wq ((HIN.out.stays HB7.out).stays h))
 have KD : Hid (∀ wq A c, Below wc.heap.size wc wq -> img.length <= c -> Bts wq A img -> Calls Tryz.prog 27 #[.agg (patA d.job.from_ d.job.to_ d.job.old d.job.new_ d.job.size L.aj d.job.ops.length L.cj), .slice A img.length c] wq (ByRet2 wq b en)) := hD (fun wq A c h hc hb => by
  have hq := refDone_calls L.aj A L.cj c d.job img wq hc (by omega) hb ((HIN.out.job.stays HB7.out).stays h)
  rw [HPD.out] at hq
  exact hq)
 go_wp2_with fail
 refine wp_region_free (by kernel_rfl) (some 123 :: some 124 :: some 125 :: some 126 :: some 127 :: some 122 :: some 128 :: some 129 :: some 8 :: some 9 :: []) (false :: false :: false :: true :: true :: true :: true :: true :: true :: true :: []) (.pointer (some ⟨g, 30, none⟩) :: .agg (patA d.job.from_ d.job.to_ d.job.old d.job.new_ d.job.size L.aj d.job.ops.length L.cj) :: .agg (devA d L) :: undef :: undef :: undef :: undef :: undef :: undef :: undef :: []) (imJ wc 3 4 5 6 7 8 9 img b en) 164 rfl rfl (by decide +kernel) (by decide +kernel) (by decide +kernel) rfl rfl (rfl) ?_ ?_
 ·refine ⟨?_, ?_, ?_, ?_, ?_, ?_, ?_, ?_, ?_, ?_, trivial⟩
  all_goals intro done cv a wq hn hw hcl h hJ
  ·have e1 := fO 1 (.pointer (some ⟨g, 0, none⟩)) h
   go_simp
  ·have e123 := fN 0 123 h hw
   exact x61
  ·have e1 := fO 1 (.pointer (some ⟨g, 0, none⟩)) h
   exact x61
  ·have e125 := fN 2 125 h hw
   have n3 := hn
   have n4 := nW 4 3 hcl n3
   obtain rfl : wq = wc.drew := imJ_0 (by simp [maskB, n3]) (by simp [maskB, n4]) hJ
   refine wp_call (vals := #[.agg (devA d L)]) (by rw [List.map_toArray, List.map_cons, List.map_nil, ch_ev e125]) (enters_of Tryz.func28 (by kernel_rfl) rfl _ _) (KI.out _ ((Below.refl _ _).drew)) ?_
   rintro e w' ⟨A1, c1, rfl, h3, h4, h5⟩
   exact ⟨_, rfl, _, rfl, imJ_i (by decide) (by simp [maskB, n4]) h3 h4 ((Below.refl _ _).drew.trans h5)⟩
  ·have e124 := fN 1 124 h hw; have e126 := fr_cv (i := 3) (t := 126) h (hw 3 (by decide)) rfl rfl
   have n4 := hn
   have m3 := hw 3 (by decide)
   have n5 := nW 5 4 hcl n4
   have n6 := nW 6 5 hcl n5
   have n7 := nW 7 5 hcl n5
   have n8 := nW 8 4 hcl n4
   have n9 := nW 9 4 hcl n4
   obtain ⟨A1, c1, y1, h3, h4, h5⟩ := imJ_1 (by simp [maskB, m3]) (by simp [maskB, n4]) hJ
   rw [y1] at e126
   refine wp_call (vals := #[.agg (patA d.job.from_ d.job.to_ d.job.old d.job.new_ d.job.size L.aj d.job.ops.length L.cj), .slice A1 (img).length c1]) (by rw [List.map_toArray, List.map_cons, List.map_cons, List.map_nil, ch_ev e124, ch_ev e126]) (enters_of Tryz.func27 (by kernel_rfl) rfl _ _) (KD.out _ _ _ h5 h3 h4) ?_
   rintro e w' ⟨A2, c2, rfl, g1, g2, g3⟩
   exact ⟨_, rfl, _, rfl, imJ_d (by simp [maskB, n5]) (by simp [maskB, n6]) (by simp [maskB, n7]) (by simp [maskB, n8]) (by simp [maskB, n9]) (by decide) (by decide) (by decide) (by decide) (by decide) g1 g2 (h5.trans (g3.mono h5.size))⟩
  ·have e127 := fr_cv (i := 4) (t := 127) h (hw 4 (by decide)) rfl rfl
   have m4 := hw 4 (by decide)
   refine wp_val (v := cv 4) (mx_move (ch_ev e127)) ⟨_, rfl, imJ_k (by simp [maskB, m4]) (by decide) hJ (fun A2 c2 _ _ _ q => ⟨fun _ => q, fun h => absurd h (by decide), fun h => absurd h (by decide), fun h => absurd h (by decide), fun h => absurd h (by decide)⟩)⟩
  ·have e122 := fr_cv (i := 5) (t := 122) h (hw 5 (by decide)) rfl rfl
   have m5 := hw 5 (by decide)
   have m4 := hcl 5 _ rfl m5 4 (by decide)
   obtain ⟨A2, c2, y1, _, _, _, g5, _⟩ := imJ_2 (by simp [maskB, m4]) hJ
   have y := g5 (by simp [maskB, m5])
   rw [y] at e122
   refine wp_val (v := .slice A2 (b).length c2) (by go_simp) ⟨_, rfl, imJ_k (by simp [maskB, m4]) (by decide) hJ (fun A3 c3 h8 _ _ _ => ⟨fun h => absurd h (by decide), fun _ => by have q := h8 (by simp [maskB, m5]); rw [y] at q; simp at q ⊢; exact q, fun h => absurd h (by decide), fun h => absurd h (by decide), fun h => absurd h (by decide)⟩)⟩
  ·have e122 := fr_cv (i := 5) (t := 122) h (hw 5 (by decide)) rfl rfl
   have m5 := hw 5 (by decide)
   have m4 := hcl 5 _ rfl m5 4 (by decide)
   obtain ⟨A2, c2, y1, _, _, _, g5, _⟩ := imJ_2 (by simp [maskB, m4]) hJ
   have y := g5 (by simp [maskB, m5])
   rw [y] at e122
   refine wp_val (v := iv en) (by go_simp) ⟨_, rfl, imJ_k (by simp [maskB, m4]) (by decide) hJ (fun A3 c3 h8 _ _ _ => ⟨fun h => absurd h (by decide), fun h => absurd h (by decide), fun _ => rfl, fun h => absurd h (by decide), fun h => absurd h (by decide)⟩)⟩
  ·have e128 := fr_cv (i := 6) (t := 128) h (hw 6 (by decide)) rfl rfl
   have m4 := hw 4 (by decide)
   have m6 := hw 6 (by decide)
   obtain ⟨A2, c2, y1, _, _, _, _, g6, _⟩ := imJ_2 (by simp [maskB, m4]) hJ
   have y := g6 (by simp [maskB, m6])
   rw [y] at e128
   refine wp_asg (v := .slice A2 (b).length c2) (ch_ev e128) ⟨_, rfl, imJ_k (by simp [maskB, m4]) (by decide) hJ (fun A3 c3 _ h9 _ _ => ⟨fun h => absurd h (by decide), fun h => absurd h (by decide), fun h => absurd h (by decide), fun _ => by have q := h9 (by simp [maskB, m6]); rw [y] at q; exact q, fun h => absurd h (by decide)⟩)⟩
  ·have e129 := fr_cv (i := 7) (t := 129) h (hw 7 (by decide)) rfl rfl
   have m4 := hw 4 (by decide)
   have m7 := hw 7 (by decide)
   obtain ⟨A2, c2, y1, _, _, _, _, _, g7, _⟩ := imJ_2 (by simp [maskB, m4]) hJ
   have y := g7 (by simp [maskB, m7])
   rw [y] at e129
   refine wp_asg (v := iv en) (ch_ev e129) ⟨_, rfl, imJ_k (by simp [maskB, m4]) (by decide) hJ (fun A3 c3 _ _ _ _ => ⟨fun h => absurd h (by decide), fun h => absurd h (by decide), fun h => absurd h (by decide), fun h => absurd h (by decide), fun _ => rfl⟩)⟩
 intro dn cv w8 hall hJ
 obtain ⟨A2, c2', y4, g1, g2, g3, g5, g6, g7, g8, g9⟩ := imJ_2 (hall 4 rfl (by decide)) hJ
 replace g5 := g5 (hall 5 rfl (by decide))
 replace g6 := g6 (hall 6 rfl (by decide))
 replace g7 := g7 (hall 7 rfl (by decide))
 replace g8 := g8 (hall 8 rfl (by decide))
 replace g9 := g9 (hall 9 rfl (by decide))
 simp only [freeAll, putAll_some, putAll_none, putAll_nil, List.getD_cons_zero, List.getD_cons_succ, Bool.false_eq_true, if_true, if_false, reduceIte, Nat.zero_add, Nat.reduceAdd, List.setIfInBounds_toArray, List.set_cons_zero, List.set_cons_succ]
 rw [y4, g5, g6, g7, g8, g9]
 obtain ⟨a0r, a0f, a0n, a0c, a0z, a0l⟩ := keep1 (g := g) (cs := devA d L) g3 a0r (by go_simp) a0f
 obtain ⟨r0r, r0f, r0n, r0c, r0z, r0l⟩ := keep1 (g := gr) (cs := recA r) g3 r0r (by simp [recA]) r0f
 have HB8 : Hid (Below w.heap.size w w8) := hD (HB7.out.trans (g3.mono HB7.out.size))
 have HBB := hD g1
 have HC2 := hD g2
 clear hJ hall y4 g5 g6 g7 g8 g9 g1 g2 g3 KI KD RD FD HIM HB7 HPD
 by_cases c1 : en = 0
 case neg =>
  have q : (en != 0) = true := by simp [c1]
  have hz : Hid (n = en) := hD (HR3.out.trans (if_pos c1))
  clear c1
  go_wp2_with fail
  go_ret
  have hgg := HG.out
  have hs := HB8.out.size
  refine ⟨ret_int hz.out.symm, ?_⟩
  repeat (first | exact HB8.out | refine bA ?_ _)
 subst c1
 obtain ⟨b1, b2, b3⟩ := HBL.out rfl
 have HR4 := hD (HR3.out.trans (if_neg (by decide)))
 have hw7 : IntKind.i64.wrap (d.job.size + 7) = d.job.size + 7 := IntWalk.i64_in _ (by omega)
 have hmn := run_min64 (d.job.size + 7)
 have HSZ := hD b3
 have HB1 := hD b1
 clear HR3 HBL b2
 go_upto_region 26 with fail
 obtain ⟨bad2, hbad2⟩ : ∃ b, decide (d.done < 0 ∨ 64 < d.done ∨ d.done % 8 ≠ 0 ∨ d.job.size + 8 <= d.done) = b := ⟨_, rfl⟩
 have HBAD := hD hbad2
 clear hbad2 b1 b3
 go_cut [147] (fun v wx => v = .bool bad2 ∧ Hid (Below w8.heap.size w8 wx))
 case first =>
  have hsz := HSZ.out
  by_cases c1 : 0 <= d.done ∧ d.done <= min 64 (d.job.size + 7)
  ·have KI := hD (fun w => refIn_t (n := d.done) (a := 0) (b := min 64 (d.job.size + 7)) c1 w)
   have hmod : d.done.tmod 8 = d.done % 8 := Int.tmod_eq_emod_of_nonneg c1.1
   by_cases c3 : d.done % 8 = 0
   ·have q3 : (d.done.tmod 8 != 0) = false := by rw [hmod]; simp [c3]
    have hres : bad2 = false := by rw [← HBAD.out]; exact decide_eq_false (by omega)
    clear c1 c3 hmod hsz
    go_wp2_with fail
    refine (KI.out _).mono ?_
    rintro e w9 ⟨rfl, rfl⟩
    exact x15
   have q3 : (d.done.tmod 8 != 0) = true := by rw [hmod]; simp [c3]
   have hres : bad2 = true := by rw [← HBAD.out]; exact decide_eq_true (.inr (.inr (.inl c3)))
   clear c1 c3 hmod hsz
   go_wp2_with fail
   refine (KI.out _).mono ?_
   rintro e w9 ⟨rfl, rfl⟩
   exact x15
  have KI := hD (fun w => refIn_f (n := d.done) (a := 0) (b := min 64 (d.job.size + 7)) (by omega) w)
  have hres : bad2 = true := by rw [← HBAD.out]; exact decide_eq_true (by omega)
  clear c1 hsz
  go_wp2_with fail
  refine (KI.out _).mono ?_
  rintro e w9 ⟨rfl, rfl⟩
  exact x15
 case rest =>
 obtain ⟨rfl, hb⟩ := hcut
 obtain ⟨a0r, a0f, a0n, a0c, a0z, a0l⟩ := keep1 (g := g) (cs := devA d L) hb.out a0r (by go_simp) a0f
 obtain ⟨r0r, r0f, r0n, r0c, r0z, r0l⟩ := keep1 (g := gr) (cs := recA r) hb.out r0r (by simp [recA]) r0f
 have HB9 := bT HB8 hb.out
 have HBB := hD (HBB.out.stays hb.out)
 clear hb HB8 hw7 hmn
 cases hbd : bad2
 case true =>
  have hz : Hid (n = 2) := hD (HR4.out.trans (if_pos (of_decide_eq_true (HBAD.out.trans hbd))))
  clear hbd
  go_wp2_with fail
  go_ret
  have hgg := HG.out
  have hs := HB9.out.size
  refine ⟨ret_int hz.out.symm, ?_⟩
  repeat (first | exact HB9.out | refine bA ?_ _)
 have hnb := of_decide_eq_false (HBAD.out.trans hbd)
 have HR5 := hD (HR4.out.trans (if_neg hnb))
 obtain ⟨dn', hdn⟩ : ∃ dn' : Nat, d.done = (dn' : Int) := ⟨d.done.toNat, by omega⟩
 have hdt : d.done.toNat = dn' := by omega
 rw [hdt] at HR5
 have hd64 : dn' <= 64 := by omega
 have HDN := hD hdn
 clear hbd HBAD HR4 hnb hdt
 have hsl := slot_len HL0.out HL1.out (a' : Int)
 obtain ⟨A6, c6, p1, p2, p3⟩ := devSlotA (HIN.out.stays HB9.out) ha2
 generalize d.slot (a' : Int) = sl at *
 have HP1 := hD p1
 have HX := hD p3
 obtain ⟨bx, ox, hax, -⟩ := p3 0 (by omega)
 have HSL := hD (pre_slice (A := A6) (n := sl.length) (c := c6) dn' hdn p2 (by omega) (by omega) ⟨bx, ox, hax⟩)
 have hrl := room_len HB1.out
 obtain ⟨eq, heq⟩ : ∃ eq, decide (sl.take dn' = (room b).take dn') = eq := ⟨_, rfl⟩
 have hlt1 : (sl.take dn').length = dn' := by rw [List.length_take, hsl]; omega
 have hlt2 : ((room b).take dn').length = dn' := by rw [List.length_take, hrl]; omega
 have KQ : Hid (∀ wq A c, Below wc.heap.size wc wq -> dn' <= c -> Bts wq A ((room b).take dn') -> Calls Tryz.prog 29 #[.slice A6 dn' c6, .slice A dn' c] wq (RetB wq (.bool eq))) := hD (fun wq A c h hc hb => by
  have hq := (bytesEqual_calls A6 A c6 c (sl.take dn') ((room b).take dn') wq (by omega) (by omega) (mid_take (HX.out.stays h) dn') hb).mono (fun _ _ h => h.to)
  rw [heq, hlt1, hlt2] at hq
  exact hq)
 have HQ := hD heq
 have HRL := hD hrl
 obtain ⟨rb, hrb⟩ : ∃ rb, room b = rb := ⟨_, rfl⟩
 rw [hrb] at KQ HQ HRL HR5
 have HRB := hD hrb
 have HKS : Hid ((0 : Int) <= (a' : Int) ∧ (a' : Int) < 2 ∧ ¬ (2 : Int) <= (a' : Int) ∧ IntKind.i64.wrap ((1 : Int) - (a : Int)) = (a' : Int)) := hD ⟨by omega, by omega, by omega, hwr⟩
 clear hsl p1 p2 p3 hax hrl heq hlt1 hlt2 hrb hwr hdn
 go_wp2_with fail
 have RD : Hid (rowOf wc g = devA d L) := hD a0r
 have FD : Hid (frOf wc g = (0, 0)) := hD a0f
 have RR : Hid (rowOf wc gr = recA r) := hD r0r
 have FR : Hid (frOf wc gr = (0, 0)) := hD r0f
 refine wp_region_mix (by kernel_rfl) (some 148 :: some 149 :: some 150 :: some 151 :: some 152 :: some 153 :: some 154 :: some 155 :: some 156 :: some 157 :: some 158 :: some 159 :: some 160 :: some 161 :: some 162 :: some 163 :: []) (none :: none :: none :: none :: none :: none :: none :: none :: none :: none :: some 0 :: none :: none :: some 1 :: some 2 :: some 3 :: []) (.pointer (some ⟨gr, 1, none⟩) :: iv (a : Int) :: iv (a' : Int) :: .pointer (some ⟨g, 0, none⟩) :: .pointer (some ⟨g, a', none⟩) :: .slice A6 sl.length c6 :: .pointer (some ⟨g, 36, none⟩) :: iv d.done :: .slice A6 dn' c6 :: .slice A2 b.length c2' :: undef :: .pointer (some ⟨g, 36, none⟩) :: iv d.done :: undef :: undef :: undef :: []) 4 (rmJ wc rb dn' eq) 164 rfl rfl (by decide +kernel) (by decide +kernel) (by decide +kernel) (by decide +kernel) rfl rfl (by decide +kernel) (by decide +kernel) (rfl) ?_ ?_
 ·refine ⟨?_, ?_, ?_, ?_, ?_, ?_, ?_, ?_, ?_, ?_, ?_, ?_, ?_, ?_, ?_, ?_, trivial⟩
  ·exact x204
  ·intro done cv k0 a wq hw h hJ hn
   have e148 := mN 0 148 h hw
   exact x177
  ·intro done cv k0 a wq hw h hJ hn
   have e149 := mN 1 149 h hw
   exact x184
  ·exact x25
  ·intro done cv k0 a wq hw h hJ hn
   have e151 := mN 3 151 h hw; have e150 := mN 2 150 h hw
   exact x184
  ·intro done cv k0 a wq hw h hJ hn
   have e152 := mN 4 152 h hw
   exact x213
  ·exact x25
  ·intro done cv k0 a wq hw h hJ hn
   have e154 := mN 6 154 h hw
   exact x144
  ·intro done cv k0 a wq hw h hJ hn
   have e153 := mN 5 153 h hw; have e155 := mN 7 155 h hw
   have hs_ := HSL.out
   go_simp
  ·intro done cv k0 a wq hw h hJ hn
   have e8 := mO 8 (.slice A2 b.length c2') h
   exact mx_move (ch_ev e8)
  ·intro done cv a wq hw h hJ
   have e157 := mN 9 157 h hw
   obtain rfl : wq = wc.drew := hJ
   refine wp_call (vals := #[.slice A2 b.length c2']) (by rw [List.map_toArray, List.map_cons, List.map_nil, ch_ev e157]) (enters_of Tryz.func30 (by kernel_rfl) rfl _ _) (filled_calls A2 c2' b _ HB1.out (HBB.out.stays (Below.refl _ _).drew)) ?_
   exact x140
  ·exact x25
  ·intro done cv k0 a wq hw h hJ hn
   have e159 := mN 11 159 h hw
   exact x144
  ·intro done cv a wq hw h hJ
   have e158 := mx_cv (i := 10) (t := 158) h (hw 10 (by decide)) rfl rfl; have e160 := mN 12 160 h hw
   obtain ⟨A5, c5, y1, g1, g2, g3⟩ := hJ
   rw [y1] at e158
   exact x79
  ·intro done cv a wq hw h hJ
   have e156 := mN 8 156 h hw; have e161 := mx_cv (i := 13) (t := 161) h (hw 13 (by decide)) rfl rfl
   obtain ⟨A5, c5, y1, g1, g2, g3⟩ := hJ
   rw [y1] at e161
   refine wp_call (vals := #[.slice A6 dn' c6, .slice A5 dn' c5]) (by rw [List.map_toArray, List.map_cons, List.map_cons, List.map_nil, ch_ev e156, ch_ev e161]) (enters_of Tryz.func29 (by kernel_rfl) rfl _ _) (KQ.out _ _ _ g3 g2 g1) ?_
   rintro e w' ⟨rfl, hbel⟩
   exact ⟨_, rfl, _, rfl, by simp, g3.trans (hbel.mono g3.size)⟩
  ·intro done cv a wq hw h hJ
   have e162 := mx_cv (i := 14) (t := 162) h (hw 14 (by decide)) rfl rfl
   obtain ⟨y1, g3⟩ := hJ
   rw [y1] at e162
   refine wp_val (v := .bool (!eq)) (by go_simp) ⟨_, rfl, by simp, g3⟩
 intro cv5 w10 hJ
 obtain ⟨y15, hb⟩ := hJ
 simp only [mixAll, putAll_some, putAll_none, putAll_nil, List.getElem?_cons_zero, List.getElem?_cons_succ, Nat.zero_add, Nat.reduceAdd, List.setIfInBounds_toArray, List.set_cons_zero, List.set_cons_succ]
 rw [y15]
 have HB10 := bT HB9 hb
 clear hb y15
 cases eq
 ·have hz : Hid (n = 3) := hD (HR5.out.trans (if_pos (by have := HQ.out; simpa using this)))
  exact x150
 have hz : Hid (n = 0) := hD (HR5.out.trans (if_neg (by have := HQ.out; simpa using this)))
 exact x150
end Go.Proofs.YtefkfglkpebbmacGreat
