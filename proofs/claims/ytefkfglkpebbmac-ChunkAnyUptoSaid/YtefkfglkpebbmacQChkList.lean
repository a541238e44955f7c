/- The walk of chunk.List. Printed by gen_chklist.py. No conditions. -/
import Derived.Test.YtefkfglkpebbmacQChkCheck
import Derived.Test.YtefkfglkpebbmacQBase
namespace Go.Proofs.Ytefkfglkpebbmac
open Go.RowKit
set_option linter.unusedVariables false
set_option linter.unusedSimpArgs false

theorem listGo_bad {p : Option Chk} {x : Chk} {l : List Chk} (h : chkCheck x ≠ 0) : listGo p (x :: l) = chkCheck x := by unfold listGo; rw [if_pos h]
theorem listGo_form {p : Option Chk} {x : Chk} {l : List Chk} (h : chkCheck x = 0) (g : ¬ follows p x) : listGo p (x :: l) = 3 := by unfold listGo; rw [if_neg (by simpa using h), if_pos g]
theorem listGo_next {p : Option Chk} {x : Chk} {l : List Chk} (h : chkCheck x = 0) (g : follows p x) : listGo p (x :: l) = listGo (some x) l := by conv => lhs; unfold listGo
                                                                                                                                                   rw [if_neg (by simpa using h), if_neg (by simpa using g)]
theorem chkCheckX_calls (A : Option Addr) (c : Nat) (x : Chk) (w : World) (h : I64 x.n ∧ I64 x.of_) :
    Calls Try.prog 47 #[.agg (chkA x.from_ x.to_ x.n x.of_ A x.data.length c)] w (RetB w (iv (chkCheck x))) := chkCheck_calls A c x.from_ x.to_ x.n x.of_ x.data w h.1 h.2
theorem kinY_calls (A B : Option Addr) (c d : Nat) (x y : Chk) (w : World) :
    Calls Try.prog 102 #[.agg (chkA x.from_ x.to_ x.n x.of_ A x.data.length c), .agg (chkA y.from_ y.to_ y.n y.of_ B y.data.length d)] w (RetB w (.bool (decide (kin x y)))) :=
  kin_calls A B c d x.data.length y.data.length x.from_ x.to_ x.n x.of_ y.from_ y.to_ y.n y.of_ x.data y.data w
/-- The cells of a chunk in a row, as one fact that a call keeps. -/
def ChkAt (w : World) (b o : Nat) (x : Chk) (B : Option Addr) (c : Nat) : Prop :=
  w.cell? ⟨b, o, none⟩ = some (iv x.from_) ∧ w.cell? ⟨b, o + 1, none⟩ = some (iv x.to_) ∧ w.cell? ⟨b, o + 2, none⟩ = some (iv x.n) ∧ w.cell? ⟨b, o + 3, none⟩ = some (iv x.of_) ∧ w.cell? ⟨b, o + 4, none⟩ = some (.slice B x.data.length c)
theorem ChkAt.stays {w w' : World} {b o : Nat} {x : Chk} {B : Option Addr} {c : Nat} (h : ChkAt w b o x B c) (hlt : b < w.heap.size) (hb : Below w.heap.size w w') : ChkAt w' b o x B c :=
  ⟨(hb.cell (p := ⟨b, o, none⟩) hlt).trans h.1, (hb.cell (p := ⟨b, o + 1, none⟩) hlt).trans h.2.1, (hb.cell (p := ⟨b, o + 2, none⟩) hlt).trans h.2.2.1, (hb.cell (p := ⟨b, o + 3, none⟩) hlt).trans h.2.2.2.1, (hb.cell (p := ⟨b, o + 4, none⟩) hlt).trans h.2.2.2.2⟩
/-- Chunk i of a row that starts at ⟨b, o⟩. -/
theorem Chs.chk {w : World} {A : Option Addr} {l : List Chk} (h : Chs w A l) {i : Nat} (hi : i < l.length) : ∃ b o B c, A = some ⟨b, o, none⟩ ∧ b < w.heap.size ∧ ChkAt w b (o + i * 5) l[i] B c ∧ ChkIn w l[i] B c := by
  obtain ⟨b, o, B, c, h1, h2, h3, h4, h5, h6, h7, h8⟩ := h.at_ hi
  exact ⟨b, o, B, c, h1, h2, ⟨h3, h4, h5, h6, h7⟩, h8⟩
set_option maxRecDepth 100000 in
set_option maxHeartbeats 8000000 in
theorem chkList_calls (A : Option Addr) (c : Nat) (l : List Chk) (w : World) (hl : l.length ≤ 1048576) (hs : Chs w A l) :
    Calls Try.prog 40 #[.slice A l.length c] w (RetB w (iv (chkList l))) := by
  have HS := Lib.hid hs
  clear hs
  obtain ⟨r, hr⟩ : ∃ r, chkList l = r := ⟨_, rfl⟩
  rw [hr]
  have HR : Hid (listGo none l = r) := Lib.hid hr
  clear hr
  go_enter Try.func40, Try.ntmps40
  go_wp2_with fail
  go_loopw [8] (fun i wr => ∃ k : Nat, k ≤ l.length ∧ i = .int .i64 k ∧ Hid (listGo ((l.take k).getLast?) (l.drop k) = r) ∧ Hid (Below w.heap.size w wr)) (fun i _ => l.length - (intOf i).toNat)
  case atStart => exact ⟨0, Nat.zero_le _, rfl, Lib.hid HR.out, Lib.hid (Below.refl _ _)⟩
  case round =>
    rename World => wr
    obtain ⟨k, hk, rfl, HE, HB⟩ := hrel
    have hsz := HB.out.size
    by_cases hlt : k < l.length
    · obtain ⟨b, o, B, cx, rfl, hb, hat, hin⟩ := HS.out.chk hlt
      have hdr : l.drop k = l[k] :: l.drop (k + 1) := List.drop_eq_getElem_cons hlt
      have hlast : (l.take (k + 1)).getLast? = some l[k] := by rw [List.take_succ_eq_append_getElem hlt, List.getLast?_concat]
      have hpre : ∀ (h0 : 0 < k), ∃ q D d, (l.take k).getLast? = some q ∧ ChkAt w b (o + (k - 1) * 5) q D d := fun h0 => by
        obtain ⟨b', o', D, d, e, _, h1, _⟩ := HS.out.chk (i := k - 1) (by omega)
        injection e with e
        injection e with e1 e2
        subst e1 e2
        refine ⟨l[k - 1], D, d, ?_, h1⟩
        rw [List.getLast?_take, if_neg (by omega), List.getElem?_eq_getElem (by omega)]
        rfl
      obtain ⟨x, hx⟩ : ∃ x, l[k] = x := ⟨_, rfl⟩
      rw [hx] at hdr hlast hat hin
      rw [hdr] at HE
      obtain ⟨p, hp⟩ : ∃ p, (l.take k).getLast? = p := ⟨_, rfl⟩
      rw [hp] at HE hpre
      have HLAST := Lib.hid hlast
      have hat2 := hat.stays hb HB.out
      obtain ⟨c0, c1, c2, c3, c4⟩ := hat2
      have HAT := Lib.hid hat
      have HP0 : Hid (k = 0 → p = none) := Lib.hid (fun e => by rw [← hp, e]; simp)
      have HPR := Lib.hid hpre
      have HK := Lib.hid (fun w => chkCheckX_calls B cx x w ⟨hin.i2, hin.i3⟩)
      have hblt : b < wr.heap.size := by omega
      have dl : decide ((k : Int) < (l.length : Int)) = true := decide_eq_true (by omega)
      have hwk : IntKind.i64.wrap ((k : Int) + 1) = (k : Int) + 1 := IntWalk.i64_in _ (by omega)
      clear hdr hlast hx hp hpre hat hin
      by_cases hck : chkCheck x ≠ 0
      · have hz : r = chkCheck x := by rw [← HE.out, listGo_bad hck]
        have q : (chkCheck x != 0) = true := by simp [hck]
        have HZ := Lib.hid hz
        clear hck hz
        go_wp2_with fail
        refine (HK.out _).mono ?_
        rintro e w1 ⟨rfl, hb1⟩
        have HB1 : Hid (Below w.heap.size w w1) := by
          refine Lib.hid (HB.out.trans (Below.trans ?_ (hb1.mono (by first | omega | (simp <;> omega)))))
          repeat (first | exact Below.refl _ _ | refine Below.alloc ?_ (by first | omega | (simp <;> omega)) _)
        clear hb1
        go_wp2_with fail
        go_ret
        exact ⟨ret_int HZ.out.symm, HB1.out⟩
      have hck := Decidable.not_not.1 hck
      have HCK := Lib.hid hck
      rw [hck] at HK
      clear hck
      go_wp2_with fail
      refine (HK.out _).mono ?_
      rintro e w1 ⟨rfl, hb1⟩
      obtain ⟨a0r, a0f, a0n, a0c, a0z, a0l⟩ := keep1 (g := wr.heap.size) (cs := chkA x.from_ x.to_ x.n x.of_ B x.data.length cx) hb1 (by first | (go_simp; done) | (go_simp; rfl)) (by go_simp) (by go_simp)
      have HB1 : Hid (Below w.heap.size w w1) := by
        refine Lib.hid (HB.out.trans (Below.trans ?_ (hb1.mono (by first | omega | (simp <;> omega)))))
        repeat (first | exact Below.refl _ _ | refine Below.alloc ?_ (by first | omega | (simp <;> omega)) _)
      have hs1 := HB1.out.size
      clear hb1 c0 c1 c2 c3 c4
      have HD : Hid (∀ wq, Below w1.drew.heap.size w1.drew wq → Below w1.heap.size w1 wq) := Lib.hid (fun wq h => (Below.refl w1.heap.size w1).drew.trans h)
      have R4 : rowOf w1.drew wr.heap.size = chkA x.from_ x.to_ x.n x.of_ B x.data.length cx := by go_simp
      have F4 : frOf w1.drew wr.heap.size = (0, 0) := by go_simp
      go_wp2_with fail
      by_cases hk0 : k = 0
      · have hz : listGo (some x) (l.drop (k + 1)) = r := by rw [← HE.out, listGo_next HCK.out (by rw [HP0.out hk0]; intro q e; cases e)]
        have HZ := Lib.hid hz
        have HKP := Lib.hid hk0
        clear hz hk0
        refine wp_region_chain (by kernel_rfl) (some 18 :: some 19 :: some 20 :: some 21 :: some 22 :: some 23 :: some 24 :: some 25 :: some 26 :: some 27 :: some 28 :: some 29 :: some 30 :: some 31 :: some 32 :: some 33 :: some 34 :: some 35 :: some 36 :: some 37 :: some 38 :: some 39 :: some 40 :: []) (.int .i64 (k : Int) :: .bool false :: .bool false :: undef :: undef :: undef :: undef :: undef :: undef :: undef :: undef :: undef :: undef :: undef :: undef :: undef :: undef :: undef :: undef :: undef :: undef :: undef :: .bool false :: []) 42 rfl rfl (by decide +kernel) (by decide +kernel) (by decide +kernel) rfl ?_ ?_
        · refine ⟨.inl ⟨rfl, fun done a wq hw h => ?_⟩, ?_⟩
          · have e3 := ch_old (t := 3) (v := .int .i64 (k : Int)) h rfl rfl; exact ch_move (ch_ev e3)
          refine ⟨.inl ⟨rfl, fun done a wq hw h => ?_⟩, ?_⟩
          · have e18 := ch_new (i := 0) (t := 18) h (hw 0 (by decide)) rfl rfl; have hp := HKP.out; refine ch_pure ?_; go_simp
          refine ⟨.inl ⟨rfl, fun done a wq hw h => ?_⟩, ?_⟩
          · have e19 := ch_new (i := 1) (t := 19) h (hw 1 (by decide)) rfl rfl; exact ch_move (ch_ev e19)
          refine ⟨.inr ⟨rfl, rfl⟩, ?_⟩
          refine ⟨.inr ⟨rfl, rfl⟩, ?_⟩
          refine ⟨.inr ⟨rfl, rfl⟩, ?_⟩
          refine ⟨.inr ⟨rfl, rfl⟩, ?_⟩
          refine ⟨.inr ⟨rfl, rfl⟩, ?_⟩
          refine ⟨.inr ⟨rfl, rfl⟩, ?_⟩
          refine ⟨.inr ⟨rfl, rfl⟩, ?_⟩
          refine ⟨.inr ⟨rfl, rfl⟩, ?_⟩
          refine ⟨.inr ⟨rfl, rfl⟩, ?_⟩
          refine ⟨.inr ⟨rfl, rfl⟩, ?_⟩
          refine ⟨.inr ⟨rfl, rfl⟩, ?_⟩
          refine ⟨.inr ⟨rfl, rfl⟩, ?_⟩
          refine ⟨.inr ⟨rfl, rfl⟩, ?_⟩
          refine ⟨.inr ⟨rfl, rfl⟩, ?_⟩
          refine ⟨.inr ⟨rfl, rfl⟩, ?_⟩
          refine ⟨.inr ⟨rfl, rfl⟩, ?_⟩
          refine ⟨.inr ⟨rfl, rfl⟩, ?_⟩
          refine ⟨.inr ⟨rfl, rfl⟩, ?_⟩
          refine ⟨.inr ⟨rfl, rfl⟩, ?_⟩
          refine ⟨.inl ⟨rfl, fun done a wq hw h => ?_⟩, ?_⟩
          · have e20 := ch_new (i := 2) (t := 20) h (hw 2 (by decide)) rfl rfl; exact ch_pick_f e20 rfl
          exact trivial
        · intro w2 hb2
          simp only [putAll_some, putAll_none, putAll_nil, List.setIfInBounds_toArray, List.set_cons_zero, List.set_cons_succ]
          have HB2 : Hid (Below w.heap.size w w2) := Lib.hid (HB1.out.trans (hb2.mono HB1.out.size))
          clear hb2 R4 F4 a0r a0f a0n a0c a0z a0l
          go_wp2_with fail
          go_roundw
          case rel => exact ⟨k + 1, by omega, by go_num, Lib.hid (by rw [HLAST.out]; exact HZ.out), HB2⟩
          case measure => simp [intOf]; omega
      · obtain ⟨q, D, dq, hpq, hq⟩ := HPR.out (by omega)
        have HQ : Hid (∀ wq, Below w1.heap.size w1 wq → ChkAt wq b (o + (k - 1) * 5) q D dq) := Lib.hid (fun wq h => hq.stays hb (HB1.out.trans (h.mono hs1)))
        have HKP : Hid (0 < k) := Lib.hid (by omega)
        have HI4 : Hid (¬ (k : Int) < 1) := Lib.hid (by omega)
        have hkp : 0 < k := by omega
        clear hk0
        have HW : Hid (IntKind.i64.wrap ((k : Int) - 1) = (k : Int) - 1) := Lib.hid (IntWalk.i64_in _ (by omega))
        have HI1 : Hid (((k : Int) - 1).toNat = k - 1) := Lib.hid (by omega)
        have HI2 : Hid (¬ (k : Int) - 1 < 0) := Lib.hid (by omega)
        have HI3 : Hid (¬ (l.length : Int) ≤ (k : Int) - 1) := Lib.hid (by omega)
        have HF : Hid (follows p x ↔ kin q x ∧ q.n < x.n) := Lib.hid (by rw [hpq]; exact ⟨fun h => h q rfl, fun h z e => by injection e with e; subst e; exact h⟩)
        clear hpq hq
        by_cases hkn : kin q x
        · have HKN : Hid (decide (kin q x) = true) := Lib.hid (decide_eq_true hkn)
          by_cases hge : x.n ≤ q.n
          · have hz : r = 3 := by rw [← HE.out, listGo_form HCK.out (by rw [HF.out]; omega)]
            have HZ := Lib.hid hz
            have HGE : Hid (decide (x.n ≤ q.n) = true) := Lib.hid (decide_eq_true hge)
            clear hz hkn hge
            refine wp_region_chain (by kernel_rfl) (some 18 :: some 19 :: some 20 :: some 21 :: some 22 :: some 23 :: some 24 :: some 25 :: some 26 :: some 27 :: some 28 :: some 29 :: some 30 :: some 31 :: some 32 :: some 33 :: some 34 :: some 35 :: some 36 :: some 37 :: some 38 :: some 39 :: some 40 :: []) (.int .i64 (k : Int) :: .bool true :: .bool true :: .slice (some ⟨b, o, none⟩) l.length c :: .int .i64 (k : Int) :: .int .i64 ((k : Int) - 1) :: .pointer (some ⟨b, o + (k - 1) * 5, none⟩) :: .agg (chkA q.from_ q.to_ q.n q.of_ D q.data.length dq) :: .agg (chkA x.from_ x.to_ x.n x.of_ B x.data.length cx) :: .bool true :: .bool false :: .bool false :: .slice (some ⟨b, o, none⟩) l.length c :: .int .i64 (k : Int) :: .int .i64 ((k : Int) - 1) :: .pointer (some ⟨b, o + (k - 1) * 5, none⟩) :: .pointer (some ⟨b, o + (k - 1) * 5 + 2, none⟩) :: iv q.n :: .pointer (some ⟨wr.heap.size, 2, none⟩) :: iv x.n :: .bool true :: .bool true :: .bool true :: []) 42 rfl rfl (by decide +kernel) (by decide +kernel) (by decide +kernel) rfl ?_ ?_
            · refine ⟨.inl ⟨rfl, fun done a wq hw h => ?_⟩, ?_⟩
              · have e3 := ch_old (t := 3) (v := .int .i64 (k : Int)) h rfl rfl; exact ch_move (ch_ev e3)
              refine ⟨.inl ⟨rfl, fun done a wq hw h => ?_⟩, ?_⟩
              · have e18 := ch_new (i := 0) (t := 18) h (hw 0 (by decide)) rfl rfl; have hp := HKP.out; refine ch_pure ?_; go_simp
              refine ⟨.inl ⟨rfl, fun done a wq hw h => ?_⟩, ?_⟩
              · have e19 := ch_new (i := 1) (t := 19) h (hw 1 (by decide)) rfl rfl; exact ch_move (ch_ev e19)
              refine ⟨.inl ⟨rfl, fun done a wq hw h => ?_⟩, ?_⟩
              · have e0 := ch_old (t := 0) (v := .slice (some ⟨b, o, none⟩) l.length c) h rfl rfl; exact ch_move (ch_ev e0)
              refine ⟨.inl ⟨rfl, fun done a wq hw h => ?_⟩, ?_⟩
              · have e3 := ch_old (t := 3) (v := .int .i64 (k : Int)) h rfl rfl; exact ch_move (ch_ev e3)
              refine ⟨.inl ⟨rfl, fun done a wq hw h => ?_⟩, ?_⟩
              · have e22 := ch_new (i := 4) (t := 22) h (hw 4 (by decide)) rfl rfl; have hw := HW.out; refine ch_pure ?_; go_simp
              refine ⟨.inl ⟨rfl, fun done a wq hw h => ?_⟩, ?_⟩
              · have e21 := ch_new (i := 3) (t := 21) h (hw 3 (by decide)) rfl rfl; have e23 := ch_new (i := 5) (t := 23) h (hw 5 (by decide)) rfl rfl; have h1 := HI1.out; have h2 := HI2.out; have h3 := HI3.out; have h4 := HI4.out; refine ch_pure ?_; go_simp
              refine ⟨.inl ⟨rfl, fun done a wq hw h => ?_⟩, ?_⟩
              · have e24 := ch_new (i := 6) (t := 24) h (hw 6 (by decide)) rfl rfl; obtain ⟨c0, c1, c2, c3, c4⟩ := HQ.out wq (HD.out wq h.bel); refine ch_pure ?_; go_simp
              refine ⟨.inl ⟨rfl, fun done a wq hw h => ?_⟩, ?_⟩
              · have e4 := ch_old (t := 4) (v := .pointer (some ⟨wr.heap.size, 0, none⟩)) h rfl rfl; obtain ⟨r_, f_, n_, c_, z_, l_⟩ := keep1 h.bel R4 (by go_simp) F4; refine ch_pure ?_; go_simp
              refine ⟨.inl ⟨rfl, fun done a wq hw h => ?_⟩, ?_⟩
              · have e25 := ch_new (i := 7) (t := 25) h (hw 7 (by decide)) rfl rfl; have e26 := ch_new (i := 8) (t := 26) h (hw 8 (by decide)) rfl rfl; exact ch_call (vals := #[.agg (chkA q.from_ q.to_ q.n q.of_ D q.data.length dq), .agg (chkA x.from_ x.to_ x.n x.of_ B x.data.length cx)]) (by go_simp) (by go_simp) (by have := kinY_calls D B dq cx q x wq; rwa [HKN.out] at this)
              refine ⟨.inl ⟨rfl, fun done a wq hw h => ?_⟩, ?_⟩
              · have e27 := ch_new (i := 9) (t := 27) h (hw 9 (by decide)) rfl rfl; refine ch_pure ?_; go_simp
              refine ⟨.inl ⟨rfl, fun done a wq hw h => ?_⟩, ?_⟩
              · have e28 := ch_new (i := 10) (t := 28) h (hw 10 (by decide)) rfl rfl; exact ch_move (ch_ev e28)
              refine ⟨.inl ⟨rfl, fun done a wq hw h => ?_⟩, ?_⟩
              · have e0 := ch_old (t := 0) (v := .slice (some ⟨b, o, none⟩) l.length c) h rfl rfl; exact ch_move (ch_ev e0)
              refine ⟨.inl ⟨rfl, fun done a wq hw h => ?_⟩, ?_⟩
              · have e3 := ch_old (t := 3) (v := .int .i64 (k : Int)) h rfl rfl; exact ch_move (ch_ev e3)
              refine ⟨.inl ⟨rfl, fun done a wq hw h => ?_⟩, ?_⟩
              · have e31 := ch_new (i := 13) (t := 31) h (hw 13 (by decide)) rfl rfl; have hw := HW.out; refine ch_pure ?_; go_simp
              refine ⟨.inl ⟨rfl, fun done a wq hw h => ?_⟩, ?_⟩
              · have e30 := ch_new (i := 12) (t := 30) h (hw 12 (by decide)) rfl rfl; have e32 := ch_new (i := 14) (t := 32) h (hw 14 (by decide)) rfl rfl; have h1 := HI1.out; have h2 := HI2.out; have h3 := HI3.out; have h4 := HI4.out; refine ch_pure ?_; go_simp
              refine ⟨.inl ⟨rfl, fun done a wq hw h => ?_⟩, ?_⟩
              · have e33 := ch_new (i := 15) (t := 33) h (hw 15 (by decide)) rfl rfl; refine ch_pure ?_; go_simp
              refine ⟨.inl ⟨rfl, fun done a wq hw h => ?_⟩, ?_⟩
              · have e34 := ch_new (i := 16) (t := 34) h (hw 16 (by decide)) rfl rfl; obtain ⟨c0, c1, c2, c3, c4⟩ := HQ.out wq (HD.out wq h.bel); refine ch_pure ?_; go_simp
              refine ⟨.inl ⟨rfl, fun done a wq hw h => ?_⟩, ?_⟩
              · have e4 := ch_old (t := 4) (v := .pointer (some ⟨wr.heap.size, 0, none⟩)) h rfl rfl; refine ch_pure ?_; go_simp
              refine ⟨.inl ⟨rfl, fun done a wq hw h => ?_⟩, ?_⟩
              · have e36 := ch_new (i := 18) (t := 36) h (hw 18 (by decide)) rfl rfl; obtain ⟨r_, f_, n_, c_, z_, l_⟩ := keep1 h.bel R4 (by go_simp) F4; refine ch_pure ?_; go_simp
              refine ⟨.inl ⟨rfl, fun done a wq hw h => ?_⟩, ?_⟩
              · have e35 := ch_new (i := 17) (t := 35) h (hw 17 (by decide)) rfl rfl; have e37 := ch_new (i := 19) (t := 37) h (hw 19 (by decide)) rfl rfl; have hg := HGE.out; refine ch_pure ?_; go_simp
              refine ⟨.inl ⟨rfl, fun done a wq hw h => ?_⟩, ?_⟩
              · have e29 := ch_new (i := 11) (t := 29) h (hw 11 (by decide)) rfl rfl; have e38 := ch_new (i := 20) (t := 38) h (hw 20 (by decide)) rfl rfl; exact ch_pick_f e29 (ch_ev e38)
              refine ⟨.inl ⟨rfl, fun done a wq hw h => ?_⟩, ?_⟩
              · have e20 := ch_new (i := 2) (t := 20) h (hw 2 (by decide)) rfl rfl; have e39 := ch_new (i := 21) (t := 39) h (hw 21 (by decide)) rfl rfl; exact ch_pick_t e20 (ch_ev e39)
              exact trivial
            · intro w2 hb2
              simp only [putAll_some, putAll_none, putAll_nil, List.setIfInBounds_toArray, List.set_cons_zero, List.set_cons_succ]
              have HB2 : Hid (Below w.heap.size w w2) := Lib.hid (HB1.out.trans (hb2.mono HB1.out.size))
              clear hb2 R4 F4 a0r a0f a0n a0c a0z a0l
              go_wp2_with fail
              go_ret
              exact ⟨ret_int HZ.out.symm, HB2.out⟩
          · have hz : listGo (some x) (l.drop (k + 1)) = r := by rw [← HE.out, listGo_next HCK.out (by rw [HF.out]; exact ⟨hkn, by omega⟩)]
            have HZ := Lib.hid hz
            have HGE : Hid (decide (x.n ≤ q.n) = false) := Lib.hid (decide_eq_false hge)
            clear hz hkn hge
            refine wp_region_chain (by kernel_rfl) (some 18 :: some 19 :: some 20 :: some 21 :: some 22 :: some 23 :: some 24 :: some 25 :: some 26 :: some 27 :: some 28 :: some 29 :: some 30 :: some 31 :: some 32 :: some 33 :: some 34 :: some 35 :: some 36 :: some 37 :: some 38 :: some 39 :: some 40 :: []) (.int .i64 (k : Int) :: .bool true :: .bool true :: .slice (some ⟨b, o, none⟩) l.length c :: .int .i64 (k : Int) :: .int .i64 ((k : Int) - 1) :: .pointer (some ⟨b, o + (k - 1) * 5, none⟩) :: .agg (chkA q.from_ q.to_ q.n q.of_ D q.data.length dq) :: .agg (chkA x.from_ x.to_ x.n x.of_ B x.data.length cx) :: .bool true :: .bool false :: .bool false :: .slice (some ⟨b, o, none⟩) l.length c :: .int .i64 (k : Int) :: .int .i64 ((k : Int) - 1) :: .pointer (some ⟨b, o + (k - 1) * 5, none⟩) :: .pointer (some ⟨b, o + (k - 1) * 5 + 2, none⟩) :: iv q.n :: .pointer (some ⟨wr.heap.size, 2, none⟩) :: iv x.n :: .bool false :: .bool false :: .bool false :: []) 42 rfl rfl (by decide +kernel) (by decide +kernel) (by decide +kernel) rfl ?_ ?_
            · refine ⟨.inl ⟨rfl, fun done a wq hw h => ?_⟩, ?_⟩
              · have e3 := ch_old (t := 3) (v := .int .i64 (k : Int)) h rfl rfl; exact ch_move (ch_ev e3)
              refine ⟨.inl ⟨rfl, fun done a wq hw h => ?_⟩, ?_⟩
              · have e18 := ch_new (i := 0) (t := 18) h (hw 0 (by decide)) rfl rfl; have hp := HKP.out; refine ch_pure ?_; go_simp
              refine ⟨.inl ⟨rfl, fun done a wq hw h => ?_⟩, ?_⟩
              · have e19 := ch_new (i := 1) (t := 19) h (hw 1 (by decide)) rfl rfl; exact ch_move (ch_ev e19)
              refine ⟨.inl ⟨rfl, fun done a wq hw h => ?_⟩, ?_⟩
              · have e0 := ch_old (t := 0) (v := .slice (some ⟨b, o, none⟩) l.length c) h rfl rfl; exact ch_move (ch_ev e0)
              refine ⟨.inl ⟨rfl, fun done a wq hw h => ?_⟩, ?_⟩
              · have e3 := ch_old (t := 3) (v := .int .i64 (k : Int)) h rfl rfl; exact ch_move (ch_ev e3)
              refine ⟨.inl ⟨rfl, fun done a wq hw h => ?_⟩, ?_⟩
              · have e22 := ch_new (i := 4) (t := 22) h (hw 4 (by decide)) rfl rfl; have hw := HW.out; refine ch_pure ?_; go_simp
              refine ⟨.inl ⟨rfl, fun done a wq hw h => ?_⟩, ?_⟩
              · have e21 := ch_new (i := 3) (t := 21) h (hw 3 (by decide)) rfl rfl; have e23 := ch_new (i := 5) (t := 23) h (hw 5 (by decide)) rfl rfl; have h1 := HI1.out; have h2 := HI2.out; have h3 := HI3.out; have h4 := HI4.out; refine ch_pure ?_; go_simp
              refine ⟨.inl ⟨rfl, fun done a wq hw h => ?_⟩, ?_⟩
              · have e24 := ch_new (i := 6) (t := 24) h (hw 6 (by decide)) rfl rfl; obtain ⟨c0, c1, c2, c3, c4⟩ := HQ.out wq (HD.out wq h.bel); refine ch_pure ?_; go_simp
              refine ⟨.inl ⟨rfl, fun done a wq hw h => ?_⟩, ?_⟩
              · have e4 := ch_old (t := 4) (v := .pointer (some ⟨wr.heap.size, 0, none⟩)) h rfl rfl; obtain ⟨r_, f_, n_, c_, z_, l_⟩ := keep1 h.bel R4 (by go_simp) F4; refine ch_pure ?_; go_simp
              refine ⟨.inl ⟨rfl, fun done a wq hw h => ?_⟩, ?_⟩
              · have e25 := ch_new (i := 7) (t := 25) h (hw 7 (by decide)) rfl rfl; have e26 := ch_new (i := 8) (t := 26) h (hw 8 (by decide)) rfl rfl; exact ch_call (vals := #[.agg (chkA q.from_ q.to_ q.n q.of_ D q.data.length dq), .agg (chkA x.from_ x.to_ x.n x.of_ B x.data.length cx)]) (by go_simp) (by go_simp) (by have := kinY_calls D B dq cx q x wq; rwa [HKN.out] at this)
              refine ⟨.inl ⟨rfl, fun done a wq hw h => ?_⟩, ?_⟩
              · have e27 := ch_new (i := 9) (t := 27) h (hw 9 (by decide)) rfl rfl; refine ch_pure ?_; go_simp
              refine ⟨.inl ⟨rfl, fun done a wq hw h => ?_⟩, ?_⟩
              · have e28 := ch_new (i := 10) (t := 28) h (hw 10 (by decide)) rfl rfl; exact ch_move (ch_ev e28)
              refine ⟨.inl ⟨rfl, fun done a wq hw h => ?_⟩, ?_⟩
              · have e0 := ch_old (t := 0) (v := .slice (some ⟨b, o, none⟩) l.length c) h rfl rfl; exact ch_move (ch_ev e0)
              refine ⟨.inl ⟨rfl, fun done a wq hw h => ?_⟩, ?_⟩
              · have e3 := ch_old (t := 3) (v := .int .i64 (k : Int)) h rfl rfl; exact ch_move (ch_ev e3)
              refine ⟨.inl ⟨rfl, fun done a wq hw h => ?_⟩, ?_⟩
              · have e31 := ch_new (i := 13) (t := 31) h (hw 13 (by decide)) rfl rfl; have hw := HW.out; refine ch_pure ?_; go_simp
              refine ⟨.inl ⟨rfl, fun done a wq hw h => ?_⟩, ?_⟩
              · have e30 := ch_new (i := 12) (t := 30) h (hw 12 (by decide)) rfl rfl; have e32 := ch_new (i := 14) (t := 32) h (hw 14 (by decide)) rfl rfl; have h1 := HI1.out; have h2 := HI2.out; have h3 := HI3.out; have h4 := HI4.out; refine ch_pure ?_; go_simp
              refine ⟨.inl ⟨rfl, fun done a wq hw h => ?_⟩, ?_⟩
              · have e33 := ch_new (i := 15) (t := 33) h (hw 15 (by decide)) rfl rfl; refine ch_pure ?_; go_simp
              refine ⟨.inl ⟨rfl, fun done a wq hw h => ?_⟩, ?_⟩
              · have e34 := ch_new (i := 16) (t := 34) h (hw 16 (by decide)) rfl rfl; obtain ⟨c0, c1, c2, c3, c4⟩ := HQ.out wq (HD.out wq h.bel); refine ch_pure ?_; go_simp
              refine ⟨.inl ⟨rfl, fun done a wq hw h => ?_⟩, ?_⟩
              · have e4 := ch_old (t := 4) (v := .pointer (some ⟨wr.heap.size, 0, none⟩)) h rfl rfl; refine ch_pure ?_; go_simp
              refine ⟨.inl ⟨rfl, fun done a wq hw h => ?_⟩, ?_⟩
              · have e36 := ch_new (i := 18) (t := 36) h (hw 18 (by decide)) rfl rfl; obtain ⟨r_, f_, n_, c_, z_, l_⟩ := keep1 h.bel R4 (by go_simp) F4; refine ch_pure ?_; go_simp
              refine ⟨.inl ⟨rfl, fun done a wq hw h => ?_⟩, ?_⟩
              · have e35 := ch_new (i := 17) (t := 35) h (hw 17 (by decide)) rfl rfl; have e37 := ch_new (i := 19) (t := 37) h (hw 19 (by decide)) rfl rfl; have hg := HGE.out; refine ch_pure ?_; go_simp
              refine ⟨.inl ⟨rfl, fun done a wq hw h => ?_⟩, ?_⟩
              · have e29 := ch_new (i := 11) (t := 29) h (hw 11 (by decide)) rfl rfl; have e38 := ch_new (i := 20) (t := 38) h (hw 20 (by decide)) rfl rfl; exact ch_pick_f e29 (ch_ev e38)
              refine ⟨.inl ⟨rfl, fun done a wq hw h => ?_⟩, ?_⟩
              · have e20 := ch_new (i := 2) (t := 20) h (hw 2 (by decide)) rfl rfl; have e39 := ch_new (i := 21) (t := 39) h (hw 21 (by decide)) rfl rfl; exact ch_pick_t e20 (ch_ev e39)
              exact trivial
            · intro w2 hb2
              simp only [putAll_some, putAll_none, putAll_nil, List.setIfInBounds_toArray, List.set_cons_zero, List.set_cons_succ]
              have HB2 : Hid (Below w.heap.size w w2) := Lib.hid (HB1.out.trans (hb2.mono HB1.out.size))
              clear hb2 R4 F4 a0r a0f a0n a0c a0z a0l
              go_wp2_with fail
              go_roundw
              case rel => exact ⟨k + 1, by omega, by go_num, Lib.hid (by rw [HLAST.out]; exact HZ.out), HB2⟩
              case measure => simp [intOf]; omega
        · have HKN : Hid (decide (kin q x) = false) := Lib.hid (decide_eq_false hkn)
          have hz : r = 3 := by rw [← HE.out, listGo_form HCK.out (by rw [HF.out]; exact fun h => hkn h.1)]
          have HZ := Lib.hid hz
          clear hz hkn
          refine wp_region_chain (by kernel_rfl) (some 18 :: some 19 :: some 20 :: some 21 :: some 22 :: some 23 :: some 24 :: some 25 :: some 26 :: some 27 :: some 28 :: some 29 :: some 30 :: some 31 :: some 32 :: some 33 :: some 34 :: some 35 :: some 36 :: some 37 :: some 38 :: some 39 :: some 40 :: []) (.int .i64 (k : Int) :: .bool true :: .bool true :: .slice (some ⟨b, o, none⟩) l.length c :: .int .i64 (k : Int) :: .int .i64 ((k : Int) - 1) :: .pointer (some ⟨b, o + (k - 1) * 5, none⟩) :: .agg (chkA q.from_ q.to_ q.n q.of_ D q.data.length dq) :: .agg (chkA x.from_ x.to_ x.n x.of_ B x.data.length cx) :: .bool false :: .bool true :: .bool true :: undef :: undef :: undef :: undef :: undef :: undef :: undef :: undef :: undef :: .bool true :: .bool true :: []) 42 rfl rfl (by decide +kernel) (by decide +kernel) (by decide +kernel) rfl ?_ ?_
          · refine ⟨.inl ⟨rfl, fun done a wq hw h => ?_⟩, ?_⟩
            · have e3 := ch_old (t := 3) (v := .int .i64 (k : Int)) h rfl rfl; exact ch_move (ch_ev e3)
            refine ⟨.inl ⟨rfl, fun done a wq hw h => ?_⟩, ?_⟩
            · have e18 := ch_new (i := 0) (t := 18) h (hw 0 (by decide)) rfl rfl; have hp := HKP.out; refine ch_pure ?_; go_simp
            refine ⟨.inl ⟨rfl, fun done a wq hw h => ?_⟩, ?_⟩
            · have e19 := ch_new (i := 1) (t := 19) h (hw 1 (by decide)) rfl rfl; exact ch_move (ch_ev e19)
            refine ⟨.inl ⟨rfl, fun done a wq hw h => ?_⟩, ?_⟩
            · have e0 := ch_old (t := 0) (v := .slice (some ⟨b, o, none⟩) l.length c) h rfl rfl; exact ch_move (ch_ev e0)
            refine ⟨.inl ⟨rfl, fun done a wq hw h => ?_⟩, ?_⟩
            · have e3 := ch_old (t := 3) (v := .int .i64 (k : Int)) h rfl rfl; exact ch_move (ch_ev e3)
            refine ⟨.inl ⟨rfl, fun done a wq hw h => ?_⟩, ?_⟩
            · have e22 := ch_new (i := 4) (t := 22) h (hw 4 (by decide)) rfl rfl; have hw := HW.out; refine ch_pure ?_; go_simp
            refine ⟨.inl ⟨rfl, fun done a wq hw h => ?_⟩, ?_⟩
            · have e21 := ch_new (i := 3) (t := 21) h (hw 3 (by decide)) rfl rfl; have e23 := ch_new (i := 5) (t := 23) h (hw 5 (by decide)) rfl rfl; have h1 := HI1.out; have h2 := HI2.out; have h3 := HI3.out; have h4 := HI4.out; refine ch_pure ?_; go_simp
            refine ⟨.inl ⟨rfl, fun done a wq hw h => ?_⟩, ?_⟩
            · have e24 := ch_new (i := 6) (t := 24) h (hw 6 (by decide)) rfl rfl; obtain ⟨c0, c1, c2, c3, c4⟩ := HQ.out wq (HD.out wq h.bel); refine ch_pure ?_; go_simp
            refine ⟨.inl ⟨rfl, fun done a wq hw h => ?_⟩, ?_⟩
            · have e4 := ch_old (t := 4) (v := .pointer (some ⟨wr.heap.size, 0, none⟩)) h rfl rfl; obtain ⟨r_, f_, n_, c_, z_, l_⟩ := keep1 h.bel R4 (by go_simp) F4; refine ch_pure ?_; go_simp
            refine ⟨.inl ⟨rfl, fun done a wq hw h => ?_⟩, ?_⟩
            · have e25 := ch_new (i := 7) (t := 25) h (hw 7 (by decide)) rfl rfl; have e26 := ch_new (i := 8) (t := 26) h (hw 8 (by decide)) rfl rfl; exact ch_call (vals := #[.agg (chkA q.from_ q.to_ q.n q.of_ D q.data.length dq), .agg (chkA x.from_ x.to_ x.n x.of_ B x.data.length cx)]) (by go_simp) (by go_simp) (by have := kinY_calls D B dq cx q x wq; rwa [HKN.out] at this)
            refine ⟨.inl ⟨rfl, fun done a wq hw h => ?_⟩, ?_⟩
            · have e27 := ch_new (i := 9) (t := 27) h (hw 9 (by decide)) rfl rfl; refine ch_pure ?_; go_simp
            refine ⟨.inl ⟨rfl, fun done a wq hw h => ?_⟩, ?_⟩
            · have e28 := ch_new (i := 10) (t := 28) h (hw 10 (by decide)) rfl rfl; exact ch_move (ch_ev e28)
            refine ⟨.inr ⟨rfl, rfl⟩, ?_⟩
            refine ⟨.inr ⟨rfl, rfl⟩, ?_⟩
            refine ⟨.inr ⟨rfl, rfl⟩, ?_⟩
            refine ⟨.inr ⟨rfl, rfl⟩, ?_⟩
            refine ⟨.inr ⟨rfl, rfl⟩, ?_⟩
            refine ⟨.inr ⟨rfl, rfl⟩, ?_⟩
            refine ⟨.inr ⟨rfl, rfl⟩, ?_⟩
            refine ⟨.inr ⟨rfl, rfl⟩, ?_⟩
            refine ⟨.inr ⟨rfl, rfl⟩, ?_⟩
            refine ⟨.inl ⟨rfl, fun done a wq hw h => ?_⟩, ?_⟩
            · have e29 := ch_new (i := 11) (t := 29) h (hw 11 (by decide)) rfl rfl; exact ch_pick_t e29 rfl
            refine ⟨.inl ⟨rfl, fun done a wq hw h => ?_⟩, ?_⟩
            · have e20 := ch_new (i := 2) (t := 20) h (hw 2 (by decide)) rfl rfl; have e39 := ch_new (i := 21) (t := 39) h (hw 21 (by decide)) rfl rfl; exact ch_pick_t e20 (ch_ev e39)
            exact trivial
          · intro w2 hb2
            simp only [putAll_some, putAll_none, putAll_nil, List.setIfInBounds_toArray, List.set_cons_zero, List.set_cons_succ]
            have HB2 : Hid (Below w.heap.size w w2) := Lib.hid (HB1.out.trans (hb2.mono HB1.out.size))
            clear hb2 R4 F4 a0r a0f a0n a0c a0z a0l
            go_wp2_with fail
            go_ret
            exact ⟨ret_int HZ.out.symm, HB2.out⟩
    · obtain rfl : k = l.length := by omega
      have dl : decide ((l.length : Int) < (l.length : Int)) = false := by simp
      have hz : r = 0 := by rw [← HE.out, List.drop_length]; unfold listGo; rfl
      have HZ := Lib.hid hz
      clear hz
      go_wp2_with fail
      go_ret
      exact ⟨ret_int HZ.out.symm, HB.out⟩
end Go.Proofs.Ytefkfglkpebbmac
