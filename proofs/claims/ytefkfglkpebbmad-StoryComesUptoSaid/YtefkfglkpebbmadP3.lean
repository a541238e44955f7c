/- Walks of functions, and plain words. No conditions. -/
import Derived.Test.YtefkfglkpebbmadP2
import Derived.Laws.OwnMore
set_option linter.unusedVariables false
set_option linter.unusedSimpArgs false
set_option maxRecDepth 100000
set_option maxHeartbeats 40000000
namespace Go.Proofs.Ytefkfglkpebbmad
open Go.RowKit
variable {x : Chk} {l : List Chk} {w : World} {c : Nat} {d : Dev} {r : Rec}
theorem listGo_bad {p : Option Chk} (h : chkCheck x ≠ 0) : listGo p (x :: l) = chkCheck x := by unfold listGo; rw [if_pos h]
theorem listGo_form {p : Option Chk} (h : chkCheck x = 0) (g : ¬ follows p x) : listGo p (x :: l) = 3 := by unfold listGo; rw [if_neg (by simpa using h), if_pos g]
theorem listGo_next {p : Option Chk} (h : chkCheck x = 0) (g : follows p x) : listGo p (x :: l) = listGo (some x) l := by
 conv => lhs; unfold listGo
 rw [if_neg (by simpa using h), if_neg (by simpa using g)]
theorem chkCheckX_calls (A : Option Addr) (c : Nat) (x : Chk) (w : World) (h : I64 x.n ∧ I64 x.of_) :
  Calls Try.prog 32 #[.agg (chkA x.from_ x.to_ x.n x.of_ A x.data.length c)] w (RetB w (iv (chkCheck x))) := chkCheck_calls A c x.from_ x.to_ x.n x.of_ x.data w h.1 h.2
theorem kinY_calls (A B : Option Addr) (c d : Nat) (x y : Chk) (w : World) :
  Calls Try.prog 64 #[.agg (chkA x.from_ x.to_ x.n x.of_ A x.data.length c), .agg (chkA y.from_ y.to_ y.n y.of_ B y.data.length d)] w (RetB w (.bool (decide (kin x y)))) :=
 kin_calls A B c d x.data.length y.data.length x.from_ x.to_ x.n x.of_ y.from_ y.to_ y.n y.of_ x.data y.data w
def ChkAt (w : World) (b o : Nat) (x : Chk) (B : Option Addr) (c : Nat) : Prop :=
 w.cell? ⟨b, o, none⟩ = some (iv x.from_) ∧ w.cell? ⟨b, o + 1, none⟩ = some (iv x.to_) ∧ w.cell? ⟨b, o + 2, none⟩ = some (iv x.n) ∧ w.cell? ⟨b, o + 3, none⟩ = some (iv x.of_) ∧ w.cell? ⟨b, o + 4, none⟩ = some (.slice B x.data.length c)
theorem ChkAt.stays {w' : World} {b o : Nat} {B : Option Addr} (h : ChkAt w b o x B c) (hlt : b < w.heap.size) (hb : Below w.heap.size w w') : ChkAt w' b o x B c :=
 ⟨(hb.cell (p := ⟨b, o, none⟩) hlt).trans h.1, (hb.cell (p := ⟨b, o + 1, none⟩) hlt).trans h.2.1, (hb.cell (p := ⟨b, o + 2, none⟩) hlt).trans h.2.2.1, (hb.cell (p := ⟨b, o + 3, none⟩) hlt).trans h.2.2.2.1, (hb.cell (p := ⟨b, o + 4, none⟩) hlt).trans h.2.2.2.2⟩
theorem Chs.chk {A : Option Addr} (h : Chs w A l) {i : Nat} (hi : i < l.length) : ∃ b o B c, A = some ⟨b, o, none⟩ ∧ b < w.heap.size ∧ ChkAt w b (o + i * 5) l[i] B c ∧ ChkIn w l[i] B c := by
 obtain ⟨b, o, B, c, h1, h2, h3, h4, h5, h6, h7, h8⟩ := h.at_ hi
 exact ⟨b, o, B, c, h1, h2, ⟨h3, h4, h5, h6, h7⟩, h8⟩
theorem chkList_calls (A : Option Addr) (c : Nat) (l : List Chk) (w : World) (hl : l.length ≤ 1048576) (hs : Chs w A l) :
  Calls Try.prog 50 #[.slice A l.length c] w (RetB w (iv (chkList l))) := by
 have HS := Lib.hid hs
 clear hs
 obtain ⟨r, hr⟩ : ∃ r, chkList l = r := ⟨_, rfl⟩
 rw [hr]
 have HR : Hid (listGo none l = r) := Lib.hid hr
 clear hr
 go_enter Try.func50, Try.ntmps50
 go_wp2_with fail
 go_loopw [8] (fun i wr => ∃ k : Nat, k ≤ l.length ∧ i = .int .i64 k ∧ Hid (listGo ((l.take k).getLast?) (l.drop k) = r) ∧ Hid (Below w.heap.size w wr)) (fun i _ => l.length - (intOf i).toNat)
 case atStart => exact ⟨0, Nat.zero_le _, rfl, Lib.hid HR.out, Lib.hid (Below.refl _ _)⟩
 case round =>
  rename World => wr
  obtain ⟨k, hk, rfl, HE, HB⟩ := hrel
  have hsz := HB.out.size
  by_cases hlt : k < l.length
  ·obtain ⟨b, o, B, cx, rfl, hb, hat, hin⟩ := HS.out.chk hlt
   have hdr : l.drop k = l[k] :: l.drop (k + 1) := List.drop_eq_getElem_cons hlt
   have hlast : (l.take (k + 1)).getLast? = some l[k] := by rw [List.take_succ_eq_append_getElem hlt, List.getLast?_concat]
   have hpre : ∀ (h0 : 0 < k), ∃ q D d, (l.take k).getLast? = some q ∧ ChkAt w b (o + (k - 1) * 5) q D d := fun h0 => by
    obtain ⟨b', o', D, d, e, _, h1, _⟩ := HS.out.chk (i := k - 1) (by omega)
    injection e with e
    injection e with e1 e2
    subst e1 e2
    refine ⟨l[k - 1], D, d, ?_, h1⟩
    rw [List.getLast?_take, if_neg (by omega), List.getElem?_eq_getElem (by omega)]
    rfl
   obtain ⟨x, hx⟩ : ∃ x, l[k] = x := ⟨_, rfl⟩
   rw [hx] at hdr hlast hat hin
   rw [hdr] at HE
   obtain ⟨p, hp⟩ : ∃ p, (l.take k).getLast? = p := ⟨_, rfl⟩
   rw [hp] at HE hpre
   have HLAST := Lib.hid hlast
   have hat2 := hat.stays hb HB.out
   obtain ⟨c0, c1, c2, c3, c4⟩ := hat2
   have HAT := Lib.hid hat
   have HP0 : Hid (k = 0 → p = none) := Lib.hid (fun e => by rw [← hp, e]; simp)
   have HPR := Lib.hid hpre
   have HK := Lib.hid (fun w => chkCheckX_calls B cx x w ⟨hin.i2, hin.i3⟩)
   have hblt : b < wr.heap.size := by omega
   have dl : decide ((k : Int) < (l.length : Int)) = true := decide_eq_true (by omega)
   have hwk : IntKind.i64.wrap ((k : Int) + 1) = (k : Int) + 1 := IntWalk.i64_in _ (by omega)
   clear hdr hlast hx hp hpre hat hin
   by_cases hck : chkCheck x ≠ 0
   ·have hz : r = chkCheck x := by rw [← HE.out, listGo_bad hck]
    have q : (chkCheck x != 0) = true := by simp [hck]
    have HZ := Lib.hid hz
    clear hck hz
    go_wp2_with fail
    refine (HK.out _).mono ?_
    rintro e w1 ⟨rfl, hb1⟩
    have HB1 : Hid (Below w.heap.size w w1) := by
     refine Lib.hid (HB.out.trans (Below.trans ?_ (hb1.mono (by first | omega | (simp <;> omega)))))
     repeat (first | exact Below.refl _ _ | refine Below.alloc ?_ (by first | omega | (simp <;> omega)) _)
    clear hb1
    go_wp2_with fail
    go_ret
    exact ⟨ret_int HZ.out.symm, HB1.out⟩
   have hck := Decidable.not_not.1 hck
   have HCK := Lib.hid hck
   rw [hck] at HK
   clear hck
   go_wp2_with fail
   refine (HK.out _).mono ?_
   rintro e w1 ⟨rfl, hb1⟩
   obtain ⟨a0r, a0f, a0n, a0c, a0z, a0l⟩ := keep1 (g := wr.heap.size) (cs := chkA x.from_ x.to_ x.n x.of_ B x.data.length cx) hb1 (by first | (go_simp; done) | (go_simp; rfl)) (by go_simp) (by go_simp)
   have HB1 : Hid (Below w.heap.size w w1) := by
    refine Lib.hid (HB.out.trans (Below.trans ?_ (hb1.mono (by first | omega | (simp <;> omega)))))
    repeat (first | exact Below.refl _ _ | refine Below.alloc ?_ (by first | omega | (simp <;> omega)) _)
   have hs1 := HB1.out.size
   clear hb1 c0 c1 c2 c3 c4
   have HD : Hid (∀ wq, Below w1.drew.heap.size w1.drew wq → Below w1.heap.size w1 wq) := Lib.hid (fun wq h => (Below.refl w1.heap.size w1).drew.trans h)
   have R4 : rowOf w1.drew wr.heap.size = chkA x.from_ x.to_ x.n x.of_ B x.data.length cx := by go_simp
   have F4 : frOf w1.drew wr.heap.size = (0, 0) := by go_simp
   go_wp2_with fail
   by_cases hk0 : k = 0
   ·have hz : listGo (some x) (l.drop (k + 1)) = r := by rw [← HE.out, listGo_next HCK.out (by rw [HP0.out hk0]; intro q e; cases e)]
    have HZ := Lib.hid hz
    have HKP := Lib.hid hk0
    clear hz hk0
    refine wp_region_chain (by kernel_rfl) (some 18 :: some 19 :: some 20 :: some 21 :: some 22 :: some 23 :: some 24 :: some 25 :: some 26 :: some 27 :: some 28 :: some 29 :: some 30 :: some 31 :: some 32 :: some 33 :: some 34 :: some 35 :: some 36 :: some 37 :: some 38 :: some 39 :: some 40 :: []) (.int .i64 (k : Int) :: .bool false :: .bool false :: undef :: undef :: undef :: undef :: undef :: undef :: undef :: undef :: undef :: undef :: undef :: undef :: undef :: undef :: undef :: undef :: undef :: undef :: undef :: .bool false :: []) 42 rfl rfl (by decide +kernel) (by decide +kernel) (by decide +kernel) rfl ?_ ?_
    ·refine ⟨.inl ⟨rfl, fun done a wq hw h => ?_⟩, ?_⟩
     ·have e3 := ch_old (t := 3) (v := .int .i64 (k : Int)) h rfl rfl; exact ch_move (ch_ev e3)
     refine ⟨.inl ⟨rfl, fun done a wq hw h => ?_⟩, ?_⟩
     ·have e18 := ch_new (i := 0) (t := 18) h (hw 0 (by decide)) rfl rfl; have hp := HKP.out; refine ch_pure ?_; go_simp
     refine ⟨.inl ⟨rfl, fun done a wq hw h => ?_⟩, ?_⟩
     ·have e19 := ch_new (i := 1) (t := 19) h (hw 1 (by decide)) rfl rfl; exact ch_move (ch_ev e19)
     iterate 19 refine ⟨.inr ⟨rfl, rfl⟩, ?_⟩
     refine ⟨.inl ⟨rfl, fun done a wq hw h => ?_⟩, ?_⟩
     ·have e20 := ch_new (i := 2) (t := 20) h (hw 2 (by decide)) rfl rfl; exact ch_pick_f e20 rfl
     exact trivial
    ·intro w2 hb2
     simp only [putAll_some, putAll_none, putAll_nil, List.setIfInBounds_toArray, List.set_cons_zero, List.set_cons_succ]
     have HB2 : Hid (Below w.heap.size w w2) := Lib.hid (HB1.out.trans (hb2.mono HB1.out.size))
     clear hb2 R4 F4 a0r a0f a0n a0c a0z a0l
     go_wp2_with fail
     go_roundw
     case rel => exact ⟨k + 1, by omega, by go_num, Lib.hid (by rw [HLAST.out]; exact HZ.out), HB2⟩
     case measure => simp [intOf]; omega
   ·obtain ⟨q, D, dq, hpq, hq⟩ := HPR.out (by omega)
    have HQ : Hid (∀ wq, Below w1.heap.size w1 wq → ChkAt wq b (o + (k - 1) * 5) q D dq) := Lib.hid (fun wq h => hq.stays hb (HB1.out.trans (h.mono hs1)))
    have HKP : Hid (0 < k) := Lib.hid (by omega)
    have HI4 : Hid (¬ (k : Int) < 1) := Lib.hid (by omega)
    have hkp : 0 < k := by omega
    clear hk0
    have HW : Hid (IntKind.i64.wrap ((k : Int) - 1) = (k : Int) - 1) := Lib.hid (IntWalk.i64_in _ (by omega))
    have HI1 : Hid (((k : Int) - 1).toNat = k - 1) := Lib.hid (by omega)
    have HI2 : Hid (¬ (k : Int) - 1 < 0) := Lib.hid (by omega)
    have HI3 : Hid (¬ (l.length : Int) ≤ (k : Int) - 1) := Lib.hid (by omega)
    have HF : Hid (follows p x ↔ kin q x ∧ q.n < x.n) := Lib.hid (by rw [hpq]; exact ⟨fun h => h q rfl, fun h z e => by injection e with e; subst e; exact h⟩)
    clear hpq hq
    by_cases hkn : kin q x
    ·have HKN : Hid (decide (kin q x) = true) := Lib.hid (decide_eq_true hkn)
     by_cases hge : x.n ≤ q.n
     first | case' inl => have T10 : Hid True := Lib.hid trivial | case' pos => have T10 : Hid True := Lib.hid trivial | case' refine_1 => have T10 : Hid True := Lib.hid trivial
     iterate 2
      ·first
        |
         revert T10; intro T10
         have hz : r = 3 := by rw [← HE.out, listGo_form HCK.out (by rw [HF.out]; omega)]
        | have hz : listGo (some x) (l.drop (k + 1)) = r := by rw [← HE.out, listGo_next HCK.out (by rw [HF.out]; exact ⟨hkn, by omega⟩)]
       have HZ := Lib.hid hz
       first
        |
         revert T10; intro T10
         have HGE : Hid (decide (x.n ≤ q.n) = true) := Lib.hid (decide_eq_true hge)
        | have HGE : Hid (decide (x.n ≤ q.n) = false) := Lib.hid (decide_eq_false hge)
       clear hz hkn hge
       first
        |
         revert T10; intro T10
         refine wp_region_chain (by kernel_rfl) (some 18 :: some 19 :: some 20 :: some 21 :: some 22 :: some 23 :: some 24 :: some 25 :: some 26 :: some 27 :: some 28 :: some 29 :: some 30 :: some 31 :: some 32 :: some 33 :: some 34 :: some 35 :: some 36 :: some 37 :: some 38 :: some 39 :: some 40 :: []) (.int .i64 (k : Int) :: .bool true :: .bool true :: .slice (some ⟨b, o, none⟩) l.length c :: .int .i64 (k : Int) :: .int .i64 ((k : Int) - 1) :: .pointer (some ⟨b, o + (k - 1) * 5, none⟩) :: .agg (chkA q.from_ q.to_ q.n q.of_ D q.data.length dq) :: .agg (chkA x.from_ x.to_ x.n x.of_ B x.data.length cx) :: .bool true :: .bool false :: .bool false :: .slice (some ⟨b, o, none⟩) l.length c :: .int .i64 (k : Int) :: .int .i64 ((k : Int) - 1) :: .pointer (some ⟨b, o + (k - 1) * 5, none⟩) :: .pointer (some ⟨b, o + (k - 1) * 5 + 2, none⟩) :: iv q.n :: .pointer (some ⟨wr.heap.size, 2, none⟩) :: iv x.n :: .bool true :: .bool true :: .bool true :: []) 42 rfl rfl (by decide +kernel) (by decide +kernel) (by decide +kernel) rfl ?_ ?_
        | refine wp_region_chain (by kernel_rfl) (some 18 :: some 19 :: some 20 :: some 21 :: some 22 :: some 23 :: some 24 :: some 25 :: some 26 :: some 27 :: some 28 :: some 29 :: some 30 :: some 31 :: some 32 :: some 33 :: some 34 :: some 35 :: some 36 :: some 37 :: some 38 :: some 39 :: some 40 :: []) (.int .i64 (k : Int) :: .bool true :: .bool true :: .slice (some ⟨b, o, none⟩) l.length c :: .int .i64 (k : Int) :: .int .i64 ((k : Int) - 1) :: .pointer (some ⟨b, o + (k - 1) * 5, none⟩) :: .agg (chkA q.from_ q.to_ q.n q.of_ D q.data.length dq) :: .agg (chkA x.from_ x.to_ x.n x.of_ B x.data.length cx) :: .bool true :: .bool false :: .bool false :: .slice (some ⟨b, o, none⟩) l.length c :: .int .i64 (k : Int) :: .int .i64 ((k : Int) - 1) :: .pointer (some ⟨b, o + (k - 1) * 5, none⟩) :: .pointer (some ⟨b, o + (k - 1) * 5 + 2, none⟩) :: iv q.n :: .pointer (some ⟨wr.heap.size, 2, none⟩) :: iv x.n :: .bool false :: .bool false :: .bool false :: []) 42 rfl rfl (by decide +kernel) (by decide +kernel) (by decide +kernel) rfl ?_ ?_
       ·refine ⟨.inl ⟨rfl, fun done a wq hw h => ?_⟩, ?_⟩
        ·have e3 := ch_old (t := 3) (v := .int .i64 (k : Int)) h rfl rfl; exact ch_move (ch_ev e3)
        refine ⟨.inl ⟨rfl, fun done a wq hw h => ?_⟩, ?_⟩
        ·have e18 := ch_new (i := 0) (t := 18) h (hw 0 (by decide)) rfl rfl; have hp := HKP.out; refine ch_pure ?_; go_simp
        refine ⟨.inl ⟨rfl, fun done a wq hw h => ?_⟩, ?_⟩
        ·have e19 := ch_new (i := 1) (t := 19) h (hw 1 (by decide)) rfl rfl; exact ch_move (ch_ev e19)
        refine ⟨.inl ⟨rfl, fun done a wq hw h => ?_⟩, ?_⟩
        ·have e0 := ch_old (t := 0) (v := .slice (some ⟨b, o, none⟩) l.length c) h rfl rfl; exact ch_move (ch_ev e0)
        refine ⟨.inl ⟨rfl, fun done a wq hw h => ?_⟩, ?_⟩
        ·have e3 := ch_old (t := 3) (v := .int .i64 (k : Int)) h rfl rfl; exact ch_move (ch_ev e3)
        refine ⟨.inl ⟨rfl, fun done a wq hw h => ?_⟩, ?_⟩
        ·have e22 := ch_new (i := 4) (t := 22) h (hw 4 (by decide)) rfl rfl; have hw := HW.out; refine ch_pure ?_; go_simp
        refine ⟨.inl ⟨rfl, fun done a wq hw h => ?_⟩, ?_⟩
        ·have e21 := ch_new (i := 3) (t := 21) h (hw 3 (by decide)) rfl rfl; have e23 := ch_new (i := 5) (t := 23) h (hw 5 (by decide)) rfl rfl; have h1 := HI1.out; have h2 := HI2.out; have h3 := HI3.out; have h4 := HI4.out; refine ch_pure ?_; go_simp
        refine ⟨.inl ⟨rfl, fun done a wq hw h => ?_⟩, ?_⟩
        ·have e24 := ch_new (i := 6) (t := 24) h (hw 6 (by decide)) rfl rfl; obtain ⟨c0, c1, c2, c3, c4⟩ := HQ.out wq (HD.out wq h.bel); refine ch_pure ?_; go_simp
        refine ⟨.inl ⟨rfl, fun done a wq hw h => ?_⟩, ?_⟩
        ·have e4 := ch_old (t := 4) (v := .pointer (some ⟨wr.heap.size, 0, none⟩)) h rfl rfl; obtain ⟨r_, f_, n_, c_, z_, l_⟩ := keep1 h.bel R4 (by go_simp) F4; refine ch_pure ?_; go_simp
        refine ⟨.inl ⟨rfl, fun done a wq hw h => ?_⟩, ?_⟩
        ·have e25 := ch_new (i := 7) (t := 25) h (hw 7 (by decide)) rfl rfl; have e26 := ch_new (i := 8) (t := 26) h (hw 8 (by decide)) rfl rfl; exact ch_call (vals := #[.agg (chkA q.from_ q.to_ q.n q.of_ D q.data.length dq), .agg (chkA x.from_ x.to_ x.n x.of_ B x.data.length cx)]) (by go_simp) (by go_simp) (by have := kinY_calls D B dq cx q x wq; rwa [HKN.out] at this)
        refine ⟨.inl ⟨rfl, fun done a wq hw h => ?_⟩, ?_⟩
        ·have e27 := ch_new (i := 9) (t := 27) h (hw 9 (by decide)) rfl rfl; refine ch_pure ?_; go_simp
        refine ⟨.inl ⟨rfl, fun done a wq hw h => ?_⟩, ?_⟩
        ·have e28 := ch_new (i := 10) (t := 28) h (hw 10 (by decide)) rfl rfl; exact ch_move (ch_ev e28)
        refine ⟨.inl ⟨rfl, fun done a wq hw h => ?_⟩, ?_⟩
        ·have e0 := ch_old (t := 0) (v := .slice (some ⟨b, o, none⟩) l.length c) h rfl rfl; exact ch_move (ch_ev e0)
        refine ⟨.inl ⟨rfl, fun done a wq hw h => ?_⟩, ?_⟩
        ·have e3 := ch_old (t := 3) (v := .int .i64 (k : Int)) h rfl rfl; exact ch_move (ch_ev e3)
        refine ⟨.inl ⟨rfl, fun done a wq hw h => ?_⟩, ?_⟩
        ·have e31 := ch_new (i := 13) (t := 31) h (hw 13 (by decide)) rfl rfl; have hw := HW.out; refine ch_pure ?_; go_simp
        refine ⟨.inl ⟨rfl, fun done a wq hw h => ?_⟩, ?_⟩
        ·have e30 := ch_new (i := 12) (t := 30) h (hw 12 (by decide)) rfl rfl; have e32 := ch_new (i := 14) (t := 32) h (hw 14 (by decide)) rfl rfl; have h1 := HI1.out; have h2 := HI2.out; have h3 := HI3.out; have h4 := HI4.out; refine ch_pure ?_; go_simp
        refine ⟨.inl ⟨rfl, fun done a wq hw h => ?_⟩, ?_⟩
        ·have e33 := ch_new (i := 15) (t := 33) h (hw 15 (by decide)) rfl rfl; refine ch_pure ?_; go_simp
        refine ⟨.inl ⟨rfl, fun done a wq hw h => ?_⟩, ?_⟩
        ·have e34 := ch_new (i := 16) (t := 34) h (hw 16 (by decide)) rfl rfl; obtain ⟨c0, c1, c2, c3, c4⟩ := HQ.out wq (HD.out wq h.bel); refine ch_pure ?_; go_simp
        refine ⟨.inl ⟨rfl, fun done a wq hw h => ?_⟩, ?_⟩
        ·have e4 := ch_old (t := 4) (v := .pointer (some ⟨wr.heap.size, 0, none⟩)) h rfl rfl; refine ch_pure ?_; go_simp
        refine ⟨.inl ⟨rfl, fun done a wq hw h => ?_⟩, ?_⟩
        ·have e36 := ch_new (i := 18) (t := 36) h (hw 18 (by decide)) rfl rfl; obtain ⟨r_, f_, n_, c_, z_, l_⟩ := keep1 h.bel R4 (by go_simp) F4; refine ch_pure ?_; go_simp
        refine ⟨.inl ⟨rfl, fun done a wq hw h => ?_⟩, ?_⟩
        ·have e35 := ch_new (i := 17) (t := 35) h (hw 17 (by decide)) rfl rfl; have e37 := ch_new (i := 19) (t := 37) h (hw 19 (by decide)) rfl rfl; have hg := HGE.out; refine ch_pure ?_; go_simp
        refine ⟨.inl ⟨rfl, fun done a wq hw h => ?_⟩, ?_⟩
        ·have e29 := ch_new (i := 11) (t := 29) h (hw 11 (by decide)) rfl rfl; have e38 := ch_new (i := 20) (t := 38) h (hw 20 (by decide)) rfl rfl; exact ch_pick_f e29 (ch_ev e38)
        refine ⟨.inl ⟨rfl, fun done a wq hw h => ?_⟩, ?_⟩
        ·have e20 := ch_new (i := 2) (t := 20) h (hw 2 (by decide)) rfl rfl; have e39 := ch_new (i := 21) (t := 39) h (hw 21 (by decide)) rfl rfl; exact ch_pick_t e20 (ch_ev e39)
        exact trivial
       ·intro w2 hb2
        simp only [putAll_some, putAll_none, putAll_nil, List.setIfInBounds_toArray, List.set_cons_zero, List.set_cons_succ]
        have HB2 : Hid (Below w.heap.size w w2) := Lib.hid (HB1.out.trans (hb2.mono HB1.out.size))
        clear hb2 R4 F4 a0r a0f a0n a0c a0z a0l
        go_wp2_with fail
        first
         |
          revert T10; intro T10
          go_ret
          exact ⟨ret_int HZ.out.symm, HB2.out⟩
         |
          go_roundw
          case rel => exact ⟨k + 1, by omega, by go_num, Lib.hid (by rw [HLAST.out]; exact HZ.out), HB2⟩
          case measure => simp [intOf]; omega
    ·have HKN : Hid (decide (kin q x) = false) := Lib.hid (decide_eq_false hkn)
     have hz : r = 3 := by rw [← HE.out, listGo_form HCK.out (by rw [HF.out]; exact fun h => hkn h.1)]
     have HZ := Lib.hid hz
     clear hz hkn
     refine wp_region_chain (by kernel_rfl) (some 18 :: some 19 :: some 20 :: some 21 :: some 22 :: some 23 :: some 24 :: some 25 :: some 26 :: some 27 :: some 28 :: some 29 :: some 30 :: some 31 :: some 32 :: some 33 :: some 34 :: some 35 :: some 36 :: some 37 :: some 38 :: some 39 :: some 40 :: []) (.int .i64 (k : Int) :: .bool true :: .bool true :: .slice (some ⟨b, o, none⟩) l.length c :: .int .i64 (k : Int) :: .int .i64 ((k : Int) - 1) :: .pointer (some ⟨b, o + (k - 1) * 5, none⟩) :: .agg (chkA q.from_ q.to_ q.n q.of_ D q.data.length dq) :: .agg (chkA x.from_ x.to_ x.n x.of_ B x.data.length cx) :: .bool false :: .bool true :: .bool true :: undef :: undef :: undef :: undef :: undef :: undef :: undef :: undef :: undef :: .bool true :: .bool true :: []) 42 rfl rfl (by decide +kernel) (by decide +kernel) (by decide +kernel) rfl ?_ ?_
     ·refine ⟨.inl ⟨rfl, fun done a wq hw h => ?_⟩, ?_⟩
      ·have e3 := ch_old (t := 3) (v := .int .i64 (k : Int)) h rfl rfl; exact ch_move (ch_ev e3)
      refine ⟨.inl ⟨rfl, fun done a wq hw h => ?_⟩, ?_⟩
      ·have e18 := ch_new (i := 0) (t := 18) h (hw 0 (by decide)) rfl rfl; have hp := HKP.out; refine ch_pure ?_; go_simp
      refine ⟨.inl ⟨rfl, fun done a wq hw h => ?_⟩, ?_⟩
      ·have e19 := ch_new (i := 1) (t := 19) h (hw 1 (by decide)) rfl rfl; exact ch_move (ch_ev e19)
      refine ⟨.inl ⟨rfl, fun done a wq hw h => ?_⟩, ?_⟩
      ·have e0 := ch_old (t := 0) (v := .slice (some ⟨b, o, none⟩) l.length c) h rfl rfl; exact ch_move (ch_ev e0)
      refine ⟨.inl ⟨rfl, fun done a wq hw h => ?_⟩, ?_⟩
      ·have e3 := ch_old (t := 3) (v := .int .i64 (k : Int)) h rfl rfl; exact ch_move (ch_ev e3)
      refine ⟨.inl ⟨rfl, fun done a wq hw h => ?_⟩, ?_⟩
      ·have e22 := ch_new (i := 4) (t := 22) h (hw 4 (by decide)) rfl rfl; have hw := HW.out; refine ch_pure ?_; go_simp
      refine ⟨.inl ⟨rfl, fun done a wq hw h => ?_⟩, ?_⟩
      ·have e21 := ch_new (i := 3) (t := 21) h (hw 3 (by decide)) rfl rfl; have e23 := ch_new (i := 5) (t := 23) h (hw 5 (by decide)) rfl rfl; have h1 := HI1.out; have h2 := HI2.out; have h3 := HI3.out; have h4 := HI4.out; refine ch_pure ?_; go_simp
      refine ⟨.inl ⟨rfl, fun done a wq hw h => ?_⟩, ?_⟩
      ·have e24 := ch_new (i := 6) (t := 24) h (hw 6 (by decide)) rfl rfl; obtain ⟨c0, c1, c2, c3, c4⟩ := HQ.out wq (HD.out wq h.bel); refine ch_pure ?_; go_simp
      refine ⟨.inl ⟨rfl, fun done a wq hw h => ?_⟩, ?_⟩
      ·have e4 := ch_old (t := 4) (v := .pointer (some ⟨wr.heap.size, 0, none⟩)) h rfl rfl; obtain ⟨r_, f_, n_, c_, z_, l_⟩ := keep1 h.bel R4 (by go_simp) F4; refine ch_pure ?_; go_simp
      refine ⟨.inl ⟨rfl, fun done a wq hw h => ?_⟩, ?_⟩
      ·have e25 := ch_new (i := 7) (t := 25) h (hw 7 (by decide)) rfl rfl; have e26 := ch_new (i := 8) (t := 26) h (hw 8 (by decide)) rfl rfl; exact ch_call (vals := #[.agg (chkA q.from_ q.to_ q.n q.of_ D q.data.length dq), .agg (chkA x.from_ x.to_ x.n x.of_ B x.data.length cx)]) (by go_simp) (by go_simp) (by have := kinY_calls D B dq cx q x wq; rwa [HKN.out] at this)
      refine ⟨.inl ⟨rfl, fun done a wq hw h => ?_⟩, ?_⟩
      ·have e27 := ch_new (i := 9) (t := 27) h (hw 9 (by decide)) rfl rfl; refine ch_pure ?_; go_simp
      refine ⟨.inl ⟨rfl, fun done a wq hw h => ?_⟩, ?_⟩
      ·have e28 := ch_new (i := 10) (t := 28) h (hw 10 (by decide)) rfl rfl; exact ch_move (ch_ev e28)
      iterate 9 refine ⟨.inr ⟨rfl, rfl⟩, ?_⟩
      refine ⟨.inl ⟨rfl, fun done a wq hw h => ?_⟩, ?_⟩
      ·have e29 := ch_new (i := 11) (t := 29) h (hw 11 (by decide)) rfl rfl; exact ch_pick_t e29 rfl
      refine ⟨.inl ⟨rfl, fun done a wq hw h => ?_⟩, ?_⟩
      ·have e20 := ch_new (i := 2) (t := 20) h (hw 2 (by decide)) rfl rfl; have e39 := ch_new (i := 21) (t := 39) h (hw 21 (by decide)) rfl rfl; exact ch_pick_t e20 (ch_ev e39)
      exact trivial
     ·intro w2 hb2
      simp only [putAll_some, putAll_none, putAll_nil, List.setIfInBounds_toArray, List.set_cons_zero, List.set_cons_succ]
      have HB2 : Hid (Below w.heap.size w w2) := Lib.hid (HB1.out.trans (hb2.mono HB1.out.size))
      clear hb2 R4 F4 a0r a0f a0n a0c a0z a0l
      go_wp2_with fail
      go_ret
      exact ⟨ret_int HZ.out.symm, HB2.out⟩
  ·obtain rfl : k = l.length := by omega
   have dl : decide ((l.length : Int) < (l.length : Int)) = false := by simp
   have hz : r = 0 := by rw [← HE.out, List.drop_length]; unfold listGo; rfl
   have HZ := Lib.hid hz
   clear hz
   go_wp2_with fail
   go_ret
   exact ⟨ret_int HZ.out.symm, HB.out⟩
theorem devCheck_is_len (h : d.s0.length ≠ 64 ∨ d.s1.length ≠ 64) : devCheck d = 3 := by unfold devCheck; rw [if_pos h]
theorem devCheck_is_cop (h0 : d.s0.length = 64) (h1 : d.s1.length = 64) (hc : copCheck d.c0 d.c1 ≠ 0) : devCheck d = copCheck d.c0 d.c1 := by unfold devCheck; rw [if_neg (by omega), if_pos hc]
theorem devCheck_is_off (h0 : d.s0.length = 64) (h1 : d.s1.length = 64) (hc : copCheck d.c0 d.c1 = 0) (hu : d.up = false) : devCheck d = if d.running ≠ 0 ∨ d.got ≠ [] ∨ d.busy = true ∨ d.done ≠ 0 ∨ d.job ≠ Pat.zero then 3 else 0 := by unfold devCheck; rw [if_neg (by omega), if_neg (by omega), if_pos hu]
theorem devCheck_is_up (h0 : d.s0.length = 64) (h1 : d.s1.length = 64) (hc : copCheck d.c0 d.c1 = 0) (hu : d.up = true) : devCheck d = devUpCheck d (recRead d.c0 d.c1).1 := by unfold devCheck; rw [if_neg (by omega), if_neg (by omega), if_neg (by rw [hu]; simp)]; rfl
theorem patSameZ_calls (p : Pat) (B : Option Addr) (c : Nat) (w : World) (hp : PatIn w p B c) : Calls Try.prog 49 #[.agg (patA p.from_ p.to_ p.old p.new_ p.size B p.ops.length c), .agg (patA 0 0 0 0 0 none 0 0)] w (RetB w (.bool (decide (p = Pat.zero)))) :=
 patSameA_calls B none c 0 p.from_ p.to_ p.old p.new_ p.size 0 0 0 0 0 p.ops [] w hp.len (by simp) hp.ops (Sps.nil _ _)
theorem devCheck_len (d : Dev) (L : DLoc) (w : World) (h : d.s0.length ≠ 64 ∨ d.s1.length ≠ 64) : Calls Try.prog 31 #[.agg (devA d L)] w (RetB w (iv 3)) := by
 have i0 : ∀ w, (Instr.index 25 (.agg (slotsA L.a0 d.s0.length L.c0 L.a1 d.s1.length L.c1)) (.int .i64 0)).run Try.prog w = .ok (.slice L.a0 d.s0.length L.c0) w := fun _ => by kernel_rfl
 have i1 : ∀ w, (Instr.index 25 (.agg (slotsA L.a0 d.s0.length L.c0 L.a1 d.s1.length L.c1)) (.int .i64 1)).run Try.prog w = .ok (.slice L.a1 d.s1.length L.c1) w := fun _ => by kernel_rfl
 have HBA := Lib.hid ((Below.refl w.heap.size w).alloc (Nat.le_refl _) (.cells (devA d L) 39))
 go_enter Try.func31, Try.ntmps31
 go_wp2_with fail
 go_loopw [12] (fun i wr => ∃ k : Nat, k ≤ 2 ∧ i = .int .i64 k ∧ (0 < k → d.s0.length = 64) ∧ k < 2 ∧ wr = w.alloc (.cells (devA d L) 39)) (fun i _ => (2 - intOf i).toNat)
 case atStart => exact ⟨0, by omega, rfl, by omega, by omega, rfl⟩
 case round =>
  obtain ⟨k, hk, rfl, hz, hlt, rfl⟩ := hrel
  have HZ := Lib.hid hz
  have HH := Lib.hid h
  clear hz h
  rcases (show k = 0 ∨ k = 1 by omega) with rfl | rfl
  ·by_cases e : d.s0.length = 64
   ·have q : ((d.s0.length : Int) != 64) = false := by simp; omega
    have HE := Lib.hid e
    clear e
    go_wp2_with fail
    go_roundw
    case rel => exact ⟨1, by omega, rfl, fun _ => HE.out, by omega, by first | rfl | trivial⟩
    case measure => simp [intOf] <;> omega
   ·have q : ((d.s0.length : Int) != 64) = true := by simp; omega
    clear e
    go_wp2_with fail
    go_ret
    exact ⟨rfl, HBA.out⟩
  ·have q : ((d.s1.length : Int) != 64) = true := by have h1 := HZ.out (by omega); have h2 := HH.out; simp; omega
   go_wp2_with fail
   go_ret
   exact ⟨rfl, HBA.out⟩
theorem devCheck_cop (d : Dev) (L : DLoc) (w : World) (h0 : d.s0.length = 64) (h1 : d.s1.length = 64) (hc : copCheck d.c0 d.c1 ≠ 0) : Calls Try.prog 31 #[.agg (devA d L)] w (RetB w (iv (copCheck d.c0 d.c1))) := by
 have l0 : ((d.s0.length : Int) != 64) = false := by simp; omega
 have l1 : ((d.s1.length : Int) != 64) = false := by simp; omega
 have i0 : ∀ w, (Instr.index 25 (.agg (slotsA L.a0 d.s0.length L.c0 L.a1 d.s1.length L.c1)) (.int .i64 0)).run Try.prog w = .ok (.slice L.a0 d.s0.length L.c0) w := fun _ => by kernel_rfl
 have i1 : ∀ w, (Instr.index 25 (.agg (slotsA L.a0 d.s0.length L.c0 L.a1 d.s1.length L.c1)) (.int .i64 1)).run Try.prog w = .ok (.slice L.a1 d.s1.length L.c1) w := fun _ => by kernel_rfl
 have HBA := Lib.hid ((Below.refl w.heap.size w).alloc (Nat.le_refl _) (.cells (devA d L) 39))
 have KR := Lib.hid (fun w => read_bad d.c0 d.c1 w hc)
 have q : (copCheck d.c0 d.c1 != 0) = true := by simp [hc]
 generalize copCheck d.c0 d.c1 = n at *
 clear h0 h1 hc
 go_enter Try.func31, Try.ntmps31
 go_wp2_with fail
 go_loopw [12] (fun i wr => ∃ k : Nat, k ≤ 2 ∧ i = .int .i64 k ∧ wr = w.alloc (.cells (devA d L) 39)) (fun i _ => (2 - intOf i).toNat)
 case atStart => exact ⟨0, by omega, rfl, rfl⟩
 case round =>
  obtain ⟨k, hk, rfl, rfl⟩ := hrel
  by_cases hlt : k < 2
  ·rcases (show k = 0 ∨ k = 1 by omega) with rfl | rfl
   ·go_wp2_with fail
    go_roundw
    case rel => exact ⟨1, by omega, rfl, by first | rfl | trivial⟩
    case measure => simp [intOf] <;> omega
   ·go_wp2_with fail
    go_roundw
    case rel => exact ⟨2, by omega, rfl, by first | rfl | trivial⟩
    case measure => simp [intOf] <;> omega
  ·obtain rfl : k = 2 := by omega
   clear hk hlt i0 i1 l0 l1
   go_wp2_with fail
   refine (KR.out _).mono ?_
   rintro e w1 ⟨rfl, hb1⟩
   obtain ⟨a0r, a0f, a0n, a0c, a0z, a0l⟩ := keep1 (g := w.heap.size) (cs := devA d L) hb1 (by first | (go_simp; done) | (go_simp; rfl)) (by go_simp) (by go_simp)
   have HB1 := Lib.hid (HBA.out.trans (hb1.mono (by simp)))
   clear hb1
   go_wp2_with fail
   go_ret
   have hs := HB1.out.size
   refine ⟨rfl, ?_⟩
   repeat (first | exact HB1.out | refine below_row ?_ (by omega) _ | refine Below.setCell ?_ (by simp <;> omega) _ | refine Below.alloc ?_ (by first | omega | (simp <;> omega)) _)
theorem devCheck_off (d : Dev) (L : DLoc) (w : World) (h : DevIn w d L) (h0 : d.s0.length = 64) (h1 : d.s1.length = 64) (hc : copCheck d.c0 d.c1 = 0) (hu : d.up = false) : Calls Try.prog 31 #[.agg (devA d L)] w (RetB w (iv (devCheck d))) := by
 have E := Lib.hid (devCheck_is_off h0 h1 hc hu)
 obtain ⟨n, hn⟩ : ∃ n, devCheck d = n := ⟨_, rfl⟩
 rw [hn] at E
 rw [hn]
 have HJ := Lib.hid h.job
 clear hn h
 have l0 : ((d.s0.length : Int) != 64) = false := by simp; omega
 have l1 : ((d.s1.length : Int) != 64) = false := by simp; omega
 have i0 : ∀ w, (Instr.index 25 (.agg (slotsA L.a0 d.s0.length L.c0 L.a1 d.s1.length L.c1)) (.int .i64 0)).run Try.prog w = .ok (.slice L.a0 d.s0.length L.c0) w := fun _ => by kernel_rfl
 have i1 : ∀ w, (Instr.index 25 (.agg (slotsA L.a0 d.s0.length L.c0 L.a1 d.s1.length L.c1)) (.int .i64 1)).run Try.prog w = .ok (.slice L.a1 d.s1.length L.c1) w := fun _ => by kernel_rfl
 have HBA := Lib.hid ((Below.refl w.heap.size w).alloc (Nat.le_refl _) (.cells (devA d L) 39))
 have KR := Lib.hid (fun w => read_ok d.c0 d.c1 w hc)
 obtain ⟨r, hr⟩ : ∃ r, (recRead d.c0 d.c1).1 = r := ⟨_, rfl⟩
 obtain ⟨rk, hrk⟩ : ∃ rk, (recRead d.c0 d.c1).2 = rk := ⟨_, rfl⟩
 rw [hr, hrk] at KR
 clear hr
 clear h0 h1 hc hrk
 go_enter Try.func31, Try.ntmps31
 go_wp2_with fail
 go_loopw [12] (fun i wr => ∃ k : Nat, k ≤ 2 ∧ i = .int .i64 k ∧ wr = w.alloc (.cells (devA d L) 39)) (fun i _ => (2 - intOf i).toNat)
 case atStart => exact ⟨0, by omega, rfl, rfl⟩
 case round =>
  obtain ⟨k, hk, rfl, rfl⟩ := hrel
  by_cases hlt : k < 2
  ·rcases (show k = 0 ∨ k = 1 by omega) with rfl | rfl
   ·go_wp2_with fail
    go_roundw
    case rel => exact ⟨1, by omega, rfl, by first | rfl | trivial⟩
    case measure => simp [intOf] <;> omega
   ·go_wp2_with fail
    go_roundw
    case rel => exact ⟨2, by omega, rfl, by first | rfl | trivial⟩
    case measure => simp [intOf] <;> omega
  ·obtain rfl : k = 2 := by omega
   clear hk hlt i0 i1 l0 l1
   go_wp2_with fail
   refine (KR.out _).mono ?_
   rintro e w1 ⟨rfl, hb1⟩
   obtain ⟨a0r, a0f, a0n, a0c, a0z, a0l⟩ := keep1 (g := w.heap.size) (cs := devA d L) hb1 (by first | (go_simp; done) | (go_simp; rfl)) (by go_simp) (by go_simp)
   have HB1 := Lib.hid (HBA.out.trans (hb1.mono (by simp)))
   clear hb1
   by_cases c1 : d.running ≠ 0
   ·have hz : Hid (n = 3) := Lib.hid (E.out.trans (if_pos (.inl c1)))
    have q : (d.running != 0) = true := by simp [c1]
    clear c1
    go_wp2_with fail
    go_ret
    have hs := HB1.out.size
    refine ⟨ret_int hz.out.symm, ?_⟩
    repeat (first | exact HB1.out | refine below_row ?_ (by omega) _ | refine Below.setCell ?_ (by simp <;> omega) _ | refine Below.alloc ?_ (by first | omega | (simp <;> omega)) _)
   have q1 : (d.running != 0) = false := by simpa using c1
   by_cases c2 : d.got ≠ []
   ·have hz : Hid (n = 3) := Lib.hid (E.out.trans (if_pos (.inr (.inl c2))))
    have q : decide ((0 : Int) < (d.got.length : Int)) = true := decide_eq_true (by have := List.length_pos_iff.2 c2; omega)
    have q' : 0 < d.got.length := List.length_pos_iff.2 c2
    clear c1 c2
    go_wp2_with fail
    go_ret
    have hs := HB1.out.size
    refine ⟨ret_int hz.out.symm, ?_⟩
    repeat (first | exact HB1.out | refine below_row ?_ (by omega) _ | refine Below.setCell ?_ (by simp <;> omega) _ | refine Below.alloc ?_ (by first | omega | (simp <;> omega)) _)
   have q2 : ¬ 0 < d.got.length := by rw [List.length_pos_iff]; exact c2
   cases hbz : d.busy
   case true =>
    have hz : Hid (n = 3) := Lib.hid (E.out.trans (if_pos (.inr (.inr (.inl hbz)))))
    clear c1 c2
    go_wp2_with fail
    go_ret
    have hs := HB1.out.size
    refine ⟨ret_int hz.out.symm, ?_⟩
    repeat (first | exact HB1.out | refine below_row ?_ (by omega) _ | refine Below.setCell ?_ (by simp <;> omega) _ | refine Below.alloc ?_ (by first | omega | (simp <;> omega)) _)
   by_cases c4 : d.done ≠ 0
   ·have hz : Hid (n = 3) := Lib.hid (E.out.trans (if_pos (.inr (.inr (.inr (.inl c4))))))
    have q : (d.done != 0) = true := by simp [c4]
    clear c1 c2 c4
    go_wp2_with fail
    go_ret
    have hs := HB1.out.size
    refine ⟨ret_int hz.out.symm, ?_⟩
    repeat (first | exact HB1.out | refine below_row ?_ (by omega) _ | refine Below.setCell ?_ (by simp <;> omega) _ | refine Below.alloc ?_ (by first | omega | (simp <;> omega)) _)
   have q4 : (d.done != 0) = false := by simpa using c4
   have E2 : Hid (n = if d.job ≠ Pat.zero then 3 else 0) := Lib.hid (by
    rw [E.out]
    by_cases c5 : d.job ≠ Pat.zero
    ·rw [if_pos (.inr (.inr (.inr (.inr c5)))), if_pos c5]
    ·rw [if_neg (fun a => ?_), if_neg c5]
     rcases a with a | a | a | a | a
     ·exact c1 a
     ·exact c2 a
     ·rw [hbz] at a; cases a
     ·exact c4 a
     ·exact c5 a)
   clear c1 c2 c4
   go_wp2_with fail
   have hbx := (HB1.out.alloc HB1.out.size (.cells (recA r) 30))
   refine (patSameZ_calls d.job L.aj L.cj _ (HJ.out.stays hbx)).mono ?_
   rintro e w2 ⟨rfl, hb2⟩
   have HB2 := Lib.hid (hbx.trans (hb2.mono (by simp; have := HB1.out.size; omega)))
   clear hb2 hbx
   by_cases c5 : d.job = Pat.zero
   ·have hz : Hid (n = 0) := Lib.hid (E2.out.trans (if_neg (by simpa using c5)))
    have q5 : decide (d.job = Pat.zero) = true := decide_eq_true c5
    clear c5
    go_wp2_with fail
    go_ret
    have hs := HB2.out.size
    refine ⟨ret_int hz.out.symm, ?_⟩
    repeat (first | exact HB2.out | refine below_row ?_ (by omega) _ | refine Below.setCell ?_ (by simp <;> omega) _ | refine Below.alloc ?_ (by first | omega | (simp <;> omega)) _)
   ·have hz : Hid (n = 3) := Lib.hid (E2.out.trans (if_pos c5))
    have q5 : decide (d.job = Pat.zero) = false := decide_eq_false c5
    clear c5
    go_wp2_with fail
    go_ret
    have hs := HB2.out.size
    refine ⟨ret_int hz.out.symm, ?_⟩
    repeat (first | exact HB2.out | refine below_row ?_ (by omega) _ | refine Below.setCell ?_ (by simp <;> omega) _ | refine Below.alloc ?_ (by first | omega | (simp <;> omega)) _)
theorem devUp_range (h : d.running < 0 ∨ 1 < d.running ∨ (d.running ≠ r.active ∧ r.trying = false)) : devUpCheck d r = 2 := by unfold devUpCheck; rw [if_pos h]
theorem devUp_list (h : ¬ (d.running < 0 ∨ 1 < d.running ∨ (d.running ≠ r.active ∧ r.trying = false))) (g : chkList d.got ≠ 0) : devUpCheck d r = chkList d.got := by unfold devUpCheck; rw [if_neg h, if_pos g]
theorem devUp_idle (h : ¬ (d.running < 0 ∨ 1 < d.running ∨ (d.running ≠ r.active ∧ r.trying = false))) (g : chkList d.got = 0) (b : d.busy = false) : devUpCheck d r = if d.done ≠ 0 ∨ d.job ≠ Pat.zero then 3 else 0 := by unfold devUpCheck; rw [if_neg h, if_neg (by omega), if_pos b]
theorem devUp_busy (h : ¬ (d.running < 0 ∨ 1 < d.running ∨ (d.running ≠ r.active ∧ r.trying = false))) (g : chkList d.got = 0) (b : d.busy = true) : devUpCheck d r = devBusyCheck d r := by unfold devUpCheck; rw [if_neg h, if_neg (by omega), if_neg (by rw [b]; simp)]
theorem devCheck_range (d : Dev) (L : DLoc) (w : World) (h : DevIn w d L) (h0 : d.s0.length = 64) (h1 : d.s1.length = 64) (hc : copCheck d.c0 d.c1 = 0) (hu : d.up = true) (hx : d.running < 0 ∨ 1 < d.running ∨ (d.running ≠ (recRead d.c0 d.c1).1.active ∧ (recRead d.c0 d.c1).1.trying = false)) : Calls Try.prog 31 #[.agg (devA d L)] w (RetB w (iv (devCheck d))) := by
 have E := Lib.hid (devCheck_is_up h0 h1 hc hu)
 obtain ⟨n, hn⟩ : ∃ n, devCheck d = n := ⟨_, rfl⟩
 rw [hn] at E
 rw [hn]
 have HIN := Lib.hid h
 clear hn h
 have hz : Hid (n = 2) := Lib.hid (E.out.trans (devUp_range hx))
 have l0 : ((d.s0.length : Int) != 64) = false := by simp; omega
 have l1 : ((d.s1.length : Int) != 64) = false := by simp; omega
 have i0 : ∀ w, (Instr.index 25 (.agg (slotsA L.a0 d.s0.length L.c0 L.a1 d.s1.length L.c1)) (.int .i64 0)).run Try.prog w = .ok (.slice L.a0 d.s0.length L.c0) w := fun _ => by kernel_rfl
 have i1 : ∀ w, (Instr.index 25 (.agg (slotsA L.a0 d.s0.length L.c0 L.a1 d.s1.length L.c1)) (.int .i64 1)).run Try.prog w = .ok (.slice L.a1 d.s1.length L.c1) w := fun _ => by kernel_rfl
 have HBA := Lib.hid ((Below.refl w.heap.size w).alloc (Nat.le_refl _) (.cells (devA d L) 39))
 have KR := Lib.hid (fun w => read_ok d.c0 d.c1 w hc)
 obtain ⟨r, hr⟩ : ∃ r, (recRead d.c0 d.c1).1 = r := ⟨_, rfl⟩
 obtain ⟨rk, hrk⟩ : ∃ rk, (recRead d.c0 d.c1).2 = rk := ⟨_, rfl⟩
 rw [hr, hrk] at KR
 rw [hr] at hx E
 clear hr
 clear h0 h1 hc hrk
 go_enter Try.func31, Try.ntmps31
 go_wp2_with fail
 go_loopw [12] (fun i wr => ∃ k : Nat, k ≤ 2 ∧ i = .int .i64 k ∧ wr = w.alloc (.cells (devA d L) 39)) (fun i _ => (2 - intOf i).toNat)
 case atStart => exact ⟨0, by omega, rfl, rfl⟩
 case round =>
  obtain ⟨k, hk, rfl, rfl⟩ := hrel
  by_cases hlt : k < 2
  ·rcases (show k = 0 ∨ k = 1 by omega) with rfl | rfl
   ·go_wp2_with fail
    go_roundw
    case rel => exact ⟨1, by omega, rfl, by first | rfl | trivial⟩
    case measure => simp [intOf] <;> omega
   ·go_wp2_with fail
    go_roundw
    case rel => exact ⟨2, by omega, rfl, by first | rfl | trivial⟩
    case measure => simp [intOf] <;> omega
  ·obtain rfl : k = 2 := by omega
   clear hk hlt i0 i1 l0 l1
   go_wp2_with fail
   refine (KR.out _).mono ?_
   rintro e w1 ⟨rfl, hb1⟩
   obtain ⟨a0r, a0f, a0n, a0c, a0z, a0l⟩ := keep1 (g := w.heap.size) (cs := devA d L) hb1 (by first | (go_simp; done) | (go_simp; rfl)) (by go_simp) (by go_simp)
   have HB1 := Lib.hid (HBA.out.trans (hb1.mono (by simp)))
   clear hb1
   by_cases c1 : d.running < 0
   ·skip
    go_wp2_with fail
    go_ret
    have hs := HB1.out.size
    refine ⟨ret_int hz.out.symm, ?_⟩
    repeat (first | exact HB1.out | refine below_row ?_ (by omega) _ | refine Below.setCell ?_ (by simp <;> omega) _ | refine Below.alloc ?_ (by first | omega | (simp <;> omega)) _)
   by_cases c2 : 1 < d.running
   ·skip
    go_wp2_with fail
    go_ret
    have hs := HB1.out.size
    refine ⟨ret_int hz.out.symm, ?_⟩
    repeat (first | exact HB1.out | refine below_row ?_ (by omega) _ | refine Below.setCell ?_ (by simp <;> omega) _ | refine Below.alloc ?_ (by first | omega | (simp <;> omega)) _)
   obtain ⟨c3, c4⟩ := (hx.resolve_left c1).resolve_left c2
   have q3 : (d.running != r.active) = true := by simp [c3]
   clear hx c3
   go_wp2_with fail
   go_ret
   have hs := HB1.out.size
   refine ⟨ret_int hz.out.symm, ?_⟩
   repeat (first | exact HB1.out | refine below_row ?_ (by omega) _ | refine Below.setCell ?_ (by simp <;> omega) _ | refine Below.alloc ?_ (by first | omega | (simp <;> omega)) _)
theorem devCheck_idleEq_ : (∀ (d : Dev) (L : DLoc) (w : World) (h : DevIn w d L) (h0 : d.s0.length = 64) (h1 : d.s1.length = 64) (hc : copCheck d.c0 d.c1 = 0) (hu : d.up = true) (hx : d.running = (recRead d.c0 d.c1).1.active) (hg : chkList d.got = 0) (hbz : d.busy = false), Calls Try.prog 31 #[.agg (devA d L)] w (RetB w (iv (devCheck d)))) ∧ (∀ (d : Dev) (L : DLoc) (w : World) (h : DevIn w d L) (h0 : d.s0.length = 64) (h1 : d.s1.length = 64) (hc : copCheck d.c0 d.c1 = 0) (hu : d.up = true) (hx : d.running ≠ (recRead d.c0 d.c1).1.active) (ht : (recRead d.c0 d.c1).1.trying = true) (hv : d.running = 0 ∨ d.running = 1) (hg : chkList d.got = 0) (hbz : d.busy = false), Calls Try.prog 31 #[.agg (devA d L)] w (RetB w (iv (devCheck d)))) ∧ (∀ (d : Dev) (L : DLoc) (w : World) (h : DevIn w d L) (h0 : d.s0.length = 64) (h1 : d.s1.length = 64) (hc : copCheck d.c0 d.c1 = 0) (hu : d.up = true) (hx : d.running = (recRead d.c0 d.c1).1.active) (hg : chkList d.got ≠ 0), Calls Try.prog 31 #[.agg (devA d L)] w (RetB w (iv (devCheck d)))) ∧ (∀ (d : Dev) (L : DLoc) (w : World) (h : DevIn w d L) (h0 : d.s0.length = 64) (h1 : d.s1.length = 64) (hc : copCheck d.c0 d.c1 = 0) (hu : d.up = true) (hx : d.running ≠ (recRead d.c0 d.c1).1.active) (ht : (recRead d.c0 d.c1).1.trying = true) (hv : d.running = 0 ∨ d.running = 1) (hg : chkList d.got ≠ 0), Calls Try.prog 31 #[.agg (devA d L)] w (RetB w (iv (devCheck d)))) := by
 refine ⟨?_, ?_, ?_, ?_⟩
 case' refine_1 => have U01 : Hid True := Lib.hid trivial; have U02 : Hid True := Lib.hid trivial; have U03 : Hid True := Lib.hid trivial; intro d L w h h0 h1 hc hu hx hg hbz
 case' refine_2 => have U02 : Hid True := Lib.hid trivial; have U03 : Hid True := Lib.hid trivial; intro d L w h h0 h1 hc hu hx ht hv hg hbz
 case' refine_3 => have U03 : Hid True := Lib.hid trivial; intro d L w h h0 h1 hc hu hx hg
 case' refine_4 => intro d L w h h0 h1 hc hu hx ht hv hg
 all_goals
  have E := Lib.hid (devCheck_is_up h0 h1 hc hu)
  obtain ⟨n, hn⟩ : ∃ n, devCheck d = n := ⟨_, rfl⟩
  rw [hn] at E
  rw [hn]
  have HIN := Lib.hid h
  clear hn h
  have l0 : ((d.s0.length : Int) != 64) = false := by simp; omega
  have l1 : ((d.s1.length : Int) != 64) = false := by simp; omega
  have i0 : ∀ w, (Instr.index 25 (.agg (slotsA L.a0 d.s0.length L.c0 L.a1 d.s1.length L.c1)) (.int .i64 0)).run Try.prog w = .ok (.slice L.a0 d.s0.length L.c0) w := fun _ => by kernel_rfl
  have i1 : ∀ w, (Instr.index 25 (.agg (slotsA L.a0 d.s0.length L.c0 L.a1 d.s1.length L.c1)) (.int .i64 1)).run Try.prog w = .ok (.slice L.a1 d.s1.length L.c1) w := fun _ => by kernel_rfl
  have HBA := Lib.hid ((Below.refl w.heap.size w).alloc (Nat.le_refl _) (.cells (devA d L) 39))
  have KR := Lib.hid (fun w => read_ok d.c0 d.c1 w hc)
  obtain ⟨r, hr⟩ : ∃ r, (recRead d.c0 d.c1).1 = r := ⟨_, rfl⟩
  obtain ⟨rk, hrk⟩ : ∃ rk, (recRead d.c0 d.c1).2 = rk := ⟨_, rfl⟩
  rw [hr, hrk] at KR
  first
   |
    revert U03; intro U03
    first
     |
      revert U02; intro U02
      first
       |
        revert U01; intro U01
        rw [hr] at E hx
       | rw [hr] at E hx ht
     | rw [hr] at E hx
   | rw [hr] at E hx ht
  have hrec := recRead_ok hc
  rw [hr] at hrec
  have hact := rec_active hrec
  clear hr
  first
   |
    revert U03; intro U03
    first
     |
      revert U02; intro U02
      first
       |
        revert U01; intro U01
        have hng : ¬ (d.running < 0 ∨ 1 < d.running ∨ (d.running ≠ r.active ∧ r.trying = false)) := fun a => a.elim (fun a => by omega) (fun a => a.elim (fun a => by omega) (fun a => a.1 hx))
       | have hng : ¬ (d.running < 0 ∨ 1 < d.running ∨ (d.running ≠ r.active ∧ r.trying = false)) := fun a => a.elim (fun a => by omega) (fun a => a.elim (fun a => by omega) (fun a => by rw [ht] at a; exact absurd a.2 (by decide)))
     | have hng : ¬ (d.running < 0 ∨ 1 < d.running ∨ (d.running ≠ r.active ∧ r.trying = false)) := fun a => a.elim (fun a => by omega) (fun a => a.elim (fun a => by omega) (fun a => a.1 hx))
   | have hng : ¬ (d.running < 0 ∨ 1 < d.running ∨ (d.running ≠ r.active ∧ r.trying = false)) := fun a => a.elim (fun a => by omega) (fun a => a.elim (fun a => by omega) (fun a => by rw [ht] at a; exact absurd a.2 (by decide)))
  have z1 : ¬ d.running < 0 := by omega
  have z2 : ¬ (1 : Int) < d.running := by omega
  first
   |
    revert U03; intro U03
    first
     |
      revert U02; intro U02
      first
       |
        revert U01; intro U01
        have q3 : (d.running != r.active) = false := by simp [hx]
       | have q3 : (d.running != r.active) = true := by simp [hx]
     | have q3 : (d.running != r.active) = false := by simp [hx]
   | have q3 : (d.running != r.active) = true := by simp [hx]
  first
   |
    revert U03; intro U03
    first
     |
      revert U02; intro U02
      have HE2 : Hid (n = if d.done ≠ 0 ∨ d.job ≠ Pat.zero then 3 else 0) := Lib.hid (E.out.trans (devUp_idle hng hg hbz))
     | have hz : Hid (n = chkList d.got) := Lib.hid (E.out.trans (devUp_list hng hg))
   | have hz : Hid (n = chkList d.got) := Lib.hid (E.out.trans (devUp_list hng hg))
  first
   |
    revert U03; intro U03
    first
     |
      revert U02; intro U02
      first
       |
        revert U01; intro U01
        clear hx hact hng
       | clear hx hact hng hv
     | clear hx hact hng
   | clear hx hact hng hv
  have HLG := Lib.hid HIN.out.lg
  first
   |
    revert U03; intro U03
    first
     |
      revert U02; intro U02
      have HG := Lib.hid hg
     | have qg : (chkList d.got != 0) = true := by simp [hg]
   | have qg : (chkList d.got != 0) = true := by simp [hg]
  clear hg E
  clear h0 h1 hc hrk
  go_enter Try.func31, Try.ntmps31
  go_wp2_with fail
  go_loopw [12] (fun i wr => ∃ k : Nat, k ≤ 2 ∧ i = .int .i64 k ∧ wr = w.alloc (.cells (devA d L) 39)) (fun i _ => (2 - intOf i).toNat)
  case atStart => exact ⟨0, by omega, rfl, rfl⟩
  case round =>
   obtain ⟨k, hk, rfl, rfl⟩ := hrel
   by_cases hlt : k < 2
   ·rcases (show k = 0 ∨ k = 1 by omega) with rfl | rfl
    ·go_wp2_with fail
     go_roundw
     case rel => exact ⟨1, by omega, rfl, by first | rfl | trivial⟩
     case measure => simp [intOf] <;> omega
    ·go_wp2_with fail
     go_roundw
     case rel => exact ⟨2, by omega, rfl, by first | rfl | trivial⟩
     case measure => simp [intOf] <;> omega
   ·obtain rfl : k = 2 := by omega
    clear hk hlt i0 i1 l0 l1
    go_wp2_with fail
    refine (KR.out _).mono ?_
    rintro e w1 ⟨rfl, hb1⟩
    obtain ⟨a0r, a0f, a0n, a0c, a0z, a0l⟩ := keep1 (g := w.heap.size) (cs := devA d L) hb1 (by first | (go_simp; done) | (go_simp; rfl)) (by go_simp) (by go_simp)
    have HB1 := Lib.hid (HBA.out.trans (hb1.mono (by simp)))
    clear hb1
    go_wp2_with fail
    have hbx := HB1.out.alloc HB1.out.size (.cells (recA r) 30)
    refine (chkList_calls L.ag L.cg d.got _ HLG.out (HIN.out.got.stays hbx)).mono ?_
    rintro e w2 ⟨rfl, hb2⟩
    first
     |
      revert U03; intro U03
      first
       |
        revert U02; intro U02
        rw [HG.out]
       | skip
     | skip
    obtain ⟨a0r, a0f, a0n, a0c, a0z, a0l⟩ := keep1 (g := w.heap.size) (cs := devA d L) hb2 (by first | (go_simp; done) | (go_simp; rfl)) (by go_simp) (by go_simp)
    obtain ⟨a1r, a1f, a1n, a1c, a1z, a1l⟩ := keep1 (g := w1.heap.size) (cs := recA r) hb2 (by first | (go_simp; done) | (go_simp; rfl)) (by go_simp) (by go_simp)
    have HB2 := Lib.hid (hbx.trans (hb2.mono (by simp; have := HB1.out.size; omega)))
    first
     |
      revert U03; intro U03
      first
       |
        revert U02; intro U02
        clear hb2 hbx

        by_cases c4 : d.done ≠ 0
        ·have hz : Hid (n = 3) := Lib.hid (HE2.out.trans (if_pos (.inl c4)))
         have q : (d.done != 0) = true := by simp [c4]
         clear c4
         go_wp2_with fail
         go_ret
         have hs := HB2.out.size
         refine ⟨ret_int hz.out.symm, ?_⟩
         repeat (first | exact HB2.out | refine below_row ?_ (by omega) _ | refine Below.setCell ?_ (by simp <;> omega) _ | refine Below.alloc ?_ (by first | omega | (simp <;> omega)) _)
        have q4 : (d.done != 0) = false := by simpa using c4
        have E2 : Hid (n = if d.job ≠ Pat.zero then 3 else 0) := Lib.hid (by
         rw [HE2.out]
         by_cases c5 : d.job ≠ Pat.zero
         ·rw [if_pos (.inr c5), if_pos c5]
         ·rw [if_neg (fun a => ?_), if_neg c5]
          rcases a with a | a
          ·exact c4 a
          ·exact c5 a)
        clear c4
       | clear hb2 hbx
     | clear hb2 hbx
    go_wp2_with fail
    first
     |
      revert U03; intro U03
      first
       |
        revert U02; intro U02
        refine (patSameZ_calls d.job L.aj L.cj _ (HIN.out.job.stays HB2.out)).mono ?_
        rintro e w3 ⟨rfl, hb3⟩
        have HB3 := Lib.hid (HB2.out.trans (hb3.mono HB2.out.size))
        clear hb3
        by_cases c5 : d.job = Pat.zero
        ·have hz : Hid (n = 0) := Lib.hid (E2.out.trans (if_neg (by simpa using c5)))
         have q5 : decide (d.job = Pat.zero) = true := decide_eq_true c5
         clear c5
         go_wp2_with fail
         go_ret
         have hs := HB3.out.size
         refine ⟨ret_int hz.out.symm, ?_⟩
         repeat (first | exact HB3.out | refine below_row ?_ (by omega) _ | refine Below.setCell ?_ (by simp <;> omega) _ | refine Below.alloc ?_ (by first | omega | (simp <;> omega)) _)
        ·have hz : Hid (n = 3) := Lib.hid (E2.out.trans (if_pos c5))
         have q5 : decide (d.job = Pat.zero) = false := decide_eq_false c5
         clear c5
         go_wp2_with fail
         go_ret
         have hs := HB3.out.size
         refine ⟨ret_int hz.out.symm, ?_⟩
         repeat (first | exact HB3.out | refine below_row ?_ (by omega) _ | refine Below.setCell ?_ (by simp <;> omega) _ | refine Below.alloc ?_ (by first | omega | (simp <;> omega)) _)
       |
        go_ret
        have hs := HB2.out.size
        refine ⟨ret_int hz.out.symm, ?_⟩
        repeat (first | exact HB2.out | refine below_row ?_ (by omega) _ | refine Below.setCell ?_ (by simp <;> omega) _ | refine Below.alloc ?_ (by first | omega | (simp <;> omega)) _)
     |
      go_ret
      have hs := HB2.out.size
      refine ⟨ret_int hz.out.symm, ?_⟩
      repeat (first | exact HB2.out | refine below_row ?_ (by omega) _ | refine Below.setCell ?_ (by simp <;> omega) _ | refine Below.alloc ?_ (by first | omega | (simp <;> omega)) _)
def ImRet (w : World) (l : List UInt8) : Ending → World → Prop := fun en w' =>
 ∃ A c, en = .returned (.slice A l.length c) ∧ l.length ≤ c ∧ Bts w' A l ∧ Below w.heap.size w w'
theorem pre_slice {A : Option Addr} {n : Nat} {z : Int} (y : Nat) (h1 : z = (y : Int)) (hc : n ≤ c) (hy : y ≤ n) (h0 : 0 < n) (hA : ∃ b o, A = some ⟨b, o, none⟩) (W : World) : (Instr.slice 24 (.slice A n c) none (some (.int .i64 z)) none).run Try.prog W = .ok (.slice A y c) W := by
 obtain ⟨b, o, rfl⟩ := hA
 subst h1
 have q1 : (y : Int) ≤ (c : Int) := by omega
 have q2 : ¬ c = 0 := by omega
 go_simp
theorem image_calls0 (d : Dev) (L : DLoc) (r : Rec) (w : World) (h : DevIn w d L) (hl : d.s0.length = 64) (h0 : 0 ≤ r.a.size) (h1 : r.a.size ≤ 64) :
  Calls Try.prog 52 #[.agg (devA d L), iv 0, .agg (recA r)] w (ImRet w (d.image 0 r)) := by
 obtain ⟨y, hy⟩ : ∃ y : Nat, r.a.size = (y : Int) := ⟨r.a.size.toNat, by omega⟩
 have himg : d.image 0 r = d.s0.take y := by
  unfold Dev.image Dev.slot Rec.at_
  rw [if_pos rfl, if_pos rfl, hy]
  rfl
 have hlen : (d.s0.take y).length = y := by rw [List.length_take]; omega
 obtain ⟨b, o, hA, -⟩ := h.b0 0 (by omega)
 have HSL : Hid (∀ W, (Instr.slice 24 (.slice L.a0 d.s0.length L.c0) none (some (iv r.a.size)) none).run Try.prog W = .ok (.slice L.a0 y L.c0) W) := hD (pre_slice y hy h.k0 (by omega) (by omega) ⟨b, o, hA⟩)
 have HB : Hid (Bts w L.a0 (d.s0.take y)) := hD (mid_take h.b0 y)
 have HC : Hid (y ≤ L.c0) := hD (by have := h.k0; omega)
 rw [himg]
 have HLEN := hD hlen
 clear h hl h0 h1 hy himg hA hlen
 go_enter Try.func52, Try.ntmps52
 go_wp2_with fail
 have RD : Hid (rowOf ((w.alloc (.cells (devA d L) 39)).alloc (.cells (recA r) 30)).drew w.heap.size = devA d L) := hD (by go_simp)
 have FD : Hid (frOf ((w.alloc (.cells (devA d L) 39)).alloc (.cells (recA r) 30)).drew w.heap.size = (0, 0)) := hD (by go_simp)
 have RR : Hid (rowOf ((w.alloc (.cells (devA d L) 39)).alloc (.cells (recA r) 30)).drew (w.heap.size + 1) = recA r) := hD (by go_simp)
 have FR : Hid (frOf ((w.alloc (.cells (devA d L) 39)).alloc (.cells (recA r) 30)).drew (w.heap.size + 1) = (0, 0)) := hD (by go_simp)
 have HBA : Hid (Below w.heap.size w ((w.alloc (.cells (devA d L) 39)).alloc (.cells (recA r) 30))) := hD (((Below.refl _ _).alloc (Nat.le_refl _) _).alloc (by simp) _)
 obtain ⟨g, hg⟩ : ∃ g, w.heap.size = g := ⟨_, rfl⟩
 have HG := hD hg
 rw [hg] at RD FD RR FR ⊢
 clear hg
 refine wp_region_chain (by kernel_rfl) (some 7 :: some 8 :: some 9 :: some 10 :: some 11 :: some 12 :: some 13 :: some 14 :: some 15 :: some 16 :: some 6 :: []) (iv 0 :: .pointer (some ⟨g, 0, none⟩) :: .pointer (some ⟨g, 0, none⟩) :: .slice L.a0 d.s0.length L.c0 :: iv 0 :: .pointer (some ⟨g + 1, 5, none⟩) :: .pointer (some ⟨g + 1, 5, none⟩) :: .pointer (some ⟨g + 1, 6, none⟩) :: iv r.a.size :: .slice L.a0 y L.c0 :: .slice L.a0 y L.c0 :: []) 17 rfl rfl (by decide +kernel) (by decide +kernel) (by decide +kernel) rfl ?_ ?_
 ·refine ⟨.inl ⟨rfl, fun done a wq hw h => ?_⟩, ?_⟩
  ·have e1 := cO 1 (iv 0) h; exact ch_move (ch_ev e1)
  refine ⟨.inl ⟨rfl, fun done a wq hw h => ?_⟩, ?_⟩
  ·have e3 := cO 3 (.pointer (some ⟨g, 0, none⟩)) h; refine ch_pure ?_; go_simp
  refine ⟨.inl ⟨rfl, fun done a wq hw h => ?_⟩, ?_⟩
  ·have e8 := cN 1 8 h hw; have e7 := cN 0 7 h hw; refine ch_pure ?_; go_simp
  refine ⟨.inl ⟨rfl, fun done a wq hw h => ?_⟩, ?_⟩
  ·have e9 := cN 2 9 h hw; obtain ⟨r_, f_, n_, c_, z_, l_⟩ := keep1 h.bel RD.out (by go_simp) FD.out; refine ch_pure ?_; go_simp
  refine ⟨.inl ⟨rfl, fun done a wq hw h => ?_⟩, ?_⟩
  ·have e1 := cO 1 (iv 0) h; exact ch_move (ch_ev e1)
  refine ⟨.inl ⟨rfl, fun done a wq hw h => ?_⟩, ?_⟩
  ·have e5 := cO 5 (.pointer (some ⟨g + 1, 0, none⟩)) h; refine ch_pure ?_; go_simp
  refine ⟨.inl ⟨rfl, fun done a wq hw h => ?_⟩, ?_⟩
  ·have e12 := cN 5 12 h hw; have e11 := cN 4 11 h hw; refine ch_pure ?_; go_simp
  refine ⟨.inl ⟨rfl, fun done a wq hw h => ?_⟩, ?_⟩
  ·have e13 := cN 6 13 h hw; refine ch_pure ?_; go_simp
  refine ⟨.inl ⟨rfl, fun done a wq hw h => ?_⟩, ?_⟩
  ·have e14 := cN 7 14 h hw; obtain ⟨r_, f_, n_, c_, z_, l_⟩ := keep1 h.bel RR.out (by go_simp) FR.out; refine ch_pure ?_; go_simp
  refine ⟨.inl ⟨rfl, fun done a wq hw h => ?_⟩, ?_⟩
  ·have e10 := cN 3 10 h hw; have e15 := cN 8 15 h hw; have hs := HSL.out; refine ch_pure ?_; go_simp
  refine ⟨.inl ⟨rfl, fun done a wq hw h => ?_⟩, ?_⟩
  ·have e16 := cN 9 16 h hw; exact ch_assign (ch_ev e16)
  exact trivial
 ·intro w5 hb
  simp only [putAll_some, putAll_none, putAll_nil, List.setIfInBounds_toArray, List.set_cons_zero, List.set_cons_succ]
  have HB5 : Hid (Below w.heap.size w w5) := hD (HBA.out.trans (hb.mono (by simp <;> omega)))
  go_wp2_with fail
  go_ret
  exact ⟨L.a0, L.c0, by rw [HLEN.out]; rfl, by rw [HLEN.out]; exact HC.out, HB.out.stays HB5.out, HB5.out⟩
theorem image_calls1 (d : Dev) (L : DLoc) (r : Rec) (w : World) (h : DevIn w d L) (hl : d.s1.length = 64) (h0 : 0 ≤ r.b.size) (h1 : r.b.size ≤ 64) :
  Calls Try.prog 52 #[.agg (devA d L), iv 1, .agg (recA r)] w (ImRet w (d.image 1 r)) := by
 obtain ⟨y, hy⟩ : ∃ y : Nat, r.b.size = (y : Int) := ⟨r.b.size.toNat, by omega⟩
 have himg : d.image 1 r = d.s1.take y := by
  unfold Dev.image Dev.slot Rec.at_
  rw [if_neg (by omega), if_neg (by omega), hy]
  rfl
 have hlen : (d.s1.take y).length = y := by rw [List.length_take]; omega
 obtain ⟨b, o, hA, -⟩ := h.b1 0 (by omega)
 have HSL : Hid (∀ W, (Instr.slice 24 (.slice L.a1 d.s1.length L.c1) none (some (iv r.b.size)) none).run Try.prog W = .ok (.slice L.a1 y L.c1) W) := hD (pre_slice y hy h.k1 (by omega) (by omega) ⟨b, o, hA⟩)
 have HB : Hid (Bts w L.a1 (d.s1.take y)) := hD (mid_take h.b1 y)
 have HC : Hid (y ≤ L.c1) := hD (by have := h.k1; omega)
 rw [himg]
 have HLEN := hD hlen
 clear h hl h0 h1 hy himg hA hlen
 go_enter Try.func52, Try.ntmps52
 go_wp2_with fail
 have RD : Hid (rowOf ((w.alloc (.cells (devA d L) 39)).alloc (.cells (recA r) 30)).drew w.heap.size = devA d L) := hD (by go_simp)
 have FD : Hid (frOf ((w.alloc (.cells (devA d L) 39)).alloc (.cells (recA r) 30)).drew w.heap.size = (0, 0)) := hD (by go_simp)
 have RR : Hid (rowOf ((w.alloc (.cells (devA d L) 39)).alloc (.cells (recA r) 30)).drew (w.heap.size + 1) = recA r) := hD (by go_simp)
 have FR : Hid (frOf ((w.alloc (.cells (devA d L) 39)).alloc (.cells (recA r) 30)).drew (w.heap.size + 1) = (0, 0)) := hD (by go_simp)
 have HBA : Hid (Below w.heap.size w ((w.alloc (.cells (devA d L) 39)).alloc (.cells (recA r) 30))) := hD (((Below.refl _ _).alloc (Nat.le_refl _) _).alloc (by simp) _)
 obtain ⟨g, hg⟩ : ∃ g, w.heap.size = g := ⟨_, rfl⟩
 have HG := hD hg
 rw [hg] at RD FD RR FR ⊢
 clear hg
 refine wp_region_chain (by kernel_rfl) (some 7 :: some 8 :: some 9 :: some 10 :: some 11 :: some 12 :: some 13 :: some 14 :: some 15 :: some 16 :: some 6 :: []) (iv 1 :: .pointer (some ⟨g, 0, none⟩) :: .pointer (some ⟨g, 1, none⟩) :: .slice L.a1 d.s1.length L.c1 :: iv 1 :: .pointer (some ⟨g + 1, 5, none⟩) :: .pointer (some ⟨g + 1, 8, none⟩) :: .pointer (some ⟨g + 1, 9, none⟩) :: iv r.b.size :: .slice L.a1 y L.c1 :: .slice L.a1 y L.c1 :: []) 17 rfl rfl (by decide +kernel) (by decide +kernel) (by decide +kernel) rfl ?_ ?_
 ·refine ⟨.inl ⟨rfl, fun done a wq hw h => ?_⟩, ?_⟩
  ·have e1 := cO 1 (iv 1) h; exact ch_move (ch_ev e1)
  refine ⟨.inl ⟨rfl, fun done a wq hw h => ?_⟩, ?_⟩
  ·have e3 := cO 3 (.pointer (some ⟨g, 0, none⟩)) h; refine ch_pure ?_; go_simp
  refine ⟨.inl ⟨rfl, fun done a wq hw h => ?_⟩, ?_⟩
  ·have e8 := cN 1 8 h hw; have e7 := cN 0 7 h hw; refine ch_pure ?_; go_simp
  refine ⟨.inl ⟨rfl, fun done a wq hw h => ?_⟩, ?_⟩
  ·have e9 := cN 2 9 h hw; obtain ⟨r_, f_, n_, c_, z_, l_⟩ := keep1 h.bel RD.out (by go_simp) FD.out; refine ch_pure ?_; go_simp
  refine ⟨.inl ⟨rfl, fun done a wq hw h => ?_⟩, ?_⟩
  ·have e1 := cO 1 (iv 1) h; exact ch_move (ch_ev e1)
  refine ⟨.inl ⟨rfl, fun done a wq hw h => ?_⟩, ?_⟩
  ·have e5 := cO 5 (.pointer (some ⟨g + 1, 0, none⟩)) h; refine ch_pure ?_; go_simp
  refine ⟨.inl ⟨rfl, fun done a wq hw h => ?_⟩, ?_⟩
  ·have e12 := cN 5 12 h hw; have e11 := cN 4 11 h hw; refine ch_pure ?_; go_simp
  refine ⟨.inl ⟨rfl, fun done a wq hw h => ?_⟩, ?_⟩
  ·have e13 := cN 6 13 h hw; refine ch_pure ?_; go_simp
  refine ⟨.inl ⟨rfl, fun done a wq hw h => ?_⟩, ?_⟩
  ·have e14 := cN 7 14 h hw; obtain ⟨r_, f_, n_, c_, z_, l_⟩ := keep1 h.bel RR.out (by go_simp) FR.out; refine ch_pure ?_; go_simp
  refine ⟨.inl ⟨rfl, fun done a wq hw h => ?_⟩, ?_⟩
  ·have e10 := cN 3 10 h hw; have e15 := cN 8 15 h hw; have hs := HSL.out; refine ch_pure ?_; go_simp
  refine ⟨.inl ⟨rfl, fun done a wq hw h => ?_⟩, ?_⟩
  ·have e16 := cN 9 16 h hw; exact ch_assign (ch_ev e16)
  exact trivial
 ·intro w5 hb
  simp only [putAll_some, putAll_none, putAll_nil, List.setIfInBounds_toArray, List.set_cons_zero, List.set_cons_succ]
  have HB5 : Hid (Below w.heap.size w w5) := hD (HBA.out.trans (hb.mono (by simp <;> omega)))
  go_wp2_with fail
  go_ret
  exact ⟨L.a1, L.c1, by rw [HLEN.out]; rfl, by rw [HLEN.out]; exact HC.out, HB.out.stays HB5.out, HB5.out⟩
theorem patDo_calls (B A : Option Addr) (d c : Nat) (p : Pat) (old : List UInt8) (w : World) (hc : old.length ≤ c) (ho : old.length ≤ 1048576) (hA : Bts w A old) (hp : PatIn w p B d) :
  Calls Try.prog 51 #[.agg (patA p.from_ p.to_ p.old p.new_ p.size B p.ops.length d), .slice A old.length c] w (ByRet2 w (patDo (sumOn 1) p old).1 (patDo (sumOn 1) p old).2) := by
 obtain ⟨f, t, o, n, sz, l⟩ := p
 obtain ⟨hcap, hlen, hops, -, -, -, -, -⟩ := hp
 dsimp only at *
 have hba := (Below.refl w.heap.size w).alloc (Nat.le_refl _) (.cells (patA f t o n sz B l.length d) 37)
 have K1 := Lib.hid (fun w h => patCheck_calls B d f t o n sz l w hlen h)
 have K2 := Lib.hid (fun w h => sumOf_calls A c old w (by omega) h)
 have HA := Lib.hid hA
 have HO := Lib.hid hops
 have HBA := Lib.hid hba
 clear hA hops hba
 obtain ⟨r, hr⟩ : ∃ r, patDo (sumOn 1) ⟨f, t, o, n, sz, l⟩ old = r := ⟨_, rfl⟩
 rw [hr]
 have HR := Lib.hid hr
 clear hr
 obtain ⟨ck, hck⟩ : ∃ ck, patCheck ⟨f, t, o, n, sz, l⟩ = ck := ⟨_, rfl⟩
 rw [hck] at K1
 have HCK := Lib.hid hck
 clear hck
 go_enter Try.func51, Try.ntmps51
 go_wp2_with fail
 refine (K1.out _ (HO.out.stays HBA.out)).mono ?_
 rintro e w1 ⟨rfl, hb1⟩
 obtain ⟨a0r, a0f, a0n, a0c, a0z, a0l⟩ := keep1 (g := w.heap.size) (cs := patA f t o n sz B l.length d) hb1 (by first | (go_simp; done) | (go_simp; rfl)) (by go_simp) (by go_simp)
 have HB1 := Lib.hid (HBA.out.trans (hb1.mono (by simp)))
 clear hb1
 by_cases h0 : ck ≠ 0
 ·have hz : r = ([], ck) := by rw [← HR.out]; unfold patDo; rw [HCK.out, if_pos h0]
  subst hz
  have q : (ck != 0) = true := by simp [h0]
  clear h0
  go_wp2_with fail
  go_ret2
  exact ⟨none, 0, rfl, Bts.nil _ _, Nat.le_refl _, HB1.out⟩
 have h0 := Decidable.not_not.1 h0
 subst h0
 by_cases h1 : 64 < old.length
 ·have hz : r = ([], 1) := by rw [← HR.out]; unfold patDo; rw [HCK.out, if_neg (by simp), if_pos h1]
  subst hz
  have q : (64 : Int) < (old.length : Int) := by omega
  go_wp2_with fail
  go_ret2
  exact ⟨none, 0, rfl, Bts.nil _ _, Nat.le_refl _, HB1.out⟩
 have q1 : ¬ (64 : Int) < (old.length : Int) := by omega
 obtain ⟨s, hs⟩ : ∃ s, sumOn 1 old = s := ⟨_, rfl⟩
 rw [hs] at K2
 have HS := Lib.hid hs
 clear hs
 have HK1 := Lib.hid (fun n => K2.out (w1.drewN n) ((HA.out.stays HB1.out).drewN n))
 by_cases h2 : s ≠ o
 ·have hz : r = ([], 6) := by rw [← HR.out]; unfold patDo; rw [HCK.out, if_neg (by simp), if_neg h1, HS.out, if_pos h2]
  subst hz
  have q : (s != o) = true := by simp [h2]
  clear h2
  go_wp2_with fail
  go_quiet ((go_at_call 46; with_reducible exact quietRet (HK1.out _)))
  go_wp2_with fail
  go_ret2
  exact ⟨none, 0, rfl, Bts.nil _ _, Nat.le_refl _, Below.drewN' HB1.out _⟩
 have h2 := Decidable.not_not.1 h2
 subst h2
 have q2 : (s != s) = false := by simp
 obtain ⟨y, e0, hy⟩ : ∃ y e0, axOf old l sz = (y, e0) := ⟨_, _, rfl⟩
 have K3 := Lib.hid (fun w h1 h2 => applyAny_calls A c old B d l sz w hc ho h1 hlen h2)
 rw [hy] at K3
 dsimp only at K3
 have HY := Lib.hid hy
 clear hy
 have HK3 := Lib.hid (fun n => K3.out (w1.drewN n) ((HA.out.stays HB1.out).drewN n) ((HO.out.stays HB1.out).stays (below_drewN _ _)))
 have hyl : y.length ≤ 1048576 := by
  have := HY.out
  unfold axOf at this
  by_cases h9 : deltaCheck l old.length sz ≠ 0
  ·rw [if_pos h9] at this; injection this with h; rw [← h]; simp
  ·rw [if_neg h9] at this
   injection this with h
   have hd := deltaCheck_ok.1 (Decidable.not_not.1 h9)
   have := applied_len (old := old) (l := l) (fun o ho => (hd.each o ho).2)
   have h7 := hd.sum; have h8 := hd.s1
   rw [← h]; omega
 go_wp2_with fail
 go_quiet ((go_at_call 46; with_reducible exact quietRet (HK1.out _)))
 go_wp2_with fail
 refine (HK3.out nq).mono ?_
 rintro e w2 ⟨A2, c2, rfl, hy2, hc2, hb2⟩
 obtain ⟨b0r, b0f, b0n, b0c, b0z, b0l⟩ := keep1 (g := w.heap.size) (cs := patA f t s n sz B l.length d) hb2 (by first | (go_simp; done) | (go_simp; rfl)) (by go_simp) (by go_simp)
 have HB2 : Hid (Below w.heap.size w w2) := Lib.hid ((Below.drewN' HB1.out nq).trans (hb2.mono (by have := HB1.out.size; simp; omega)))
 have HY2 := Lib.hid hy2
 clear hb2 hy2
 by_cases h3 : e0 ≠ 0
 ·have hz : r = ([], e0) := by
   rw [← HR.out]; unfold patDo
   have := HY.out
   unfold axOf at this
   rw [HCK.out, if_neg (by simp), if_neg h1, HS.out, if_neg (by simp)]
   by_cases h9 : deltaCheck l old.length sz ≠ 0
   ·rw [if_pos h9] at this ⊢; injection this with _ h; rw [h]
   ·rw [if_neg h9] at this; injection this with _ h; exact absurd h.symm h3
  subst hz
  have q : (e0 != 0) = true := by simp [h3]
  clear h3 HY
  go_wp2_with fail
  go_ret2
  exact ⟨none, 0, rfl, Bts.nil _ _, Nat.le_refl _, HB2.out⟩
 have h3 := Decidable.not_not.1 h3
 subst h3
 have hyy : deltaCheck l old.length sz = 0 ∧ y = applied old l := by
  have := HY.out
  unfold axOf at this
  by_cases h9 : deltaCheck l old.length sz ≠ 0
  ·rw [if_pos h9] at this; injection this with _ h; exact absurd h h9
  ·rw [if_neg h9] at this; injection this with h _; exact ⟨Decidable.not_not.1 h9, h.symm⟩
 have K4 := Lib.hid (fun m => sumOf_calls A2 c2 y (w2.drewN m) (by omega) (HY2.out.drewN m))
 have hrr : r = if sumOn 1 y ≠ n then ([], 6) else (y, 0) := by
  rw [← HR.out]; unfold patDo
  rw [HCK.out, if_neg (by simp), if_neg h1, HS.out, if_neg (by simp), hyy.1, if_neg (by simp), ← hyy.2]
 obtain ⟨s2, hs2⟩ : ∃ s2, sumOn 1 y = s2 := ⟨_, rfl⟩
 rw [hs2] at K4 hrr
 have HRR := Lib.hid hrr
 clear hrr hs2 hyy HY
 by_cases h4 : s2 ≠ n
 ·have hz : r = ([], 6) := by rw [HRR.out, if_pos h4]
  subst hz
  have q : (s2 != n) = true := by simp [h4]
  clear h4
  go_wp2_with fail
  go_quiet ((go_at_call 46; with_reducible exact quietRet (K4.out _)))
  go_wp2_with fail
  go_ret2
  exact ⟨none, 0, rfl, Bts.nil _ _, Nat.le_refl _, Below.drewN' HB2.out _⟩
 ·have h4 := Decidable.not_not.1 h4
  subst h4
  have hz : r = (y, 0) := by rw [HRR.out, if_neg (by simp)]
  subst hz
  have q : (s2 != s2) = false := by simp
  go_wp2_with fail
  go_quiet ((go_at_call 46; with_reducible exact quietRet (K4.out _)))
  go_wp2_with fail
  go_ret2
  exact ⟨A2, c2, rfl, HY2.out.drewN _, hc2, Below.drewN' HB2.out _⟩
def imJ (w0 : World) (ci cd cm e0 e1 a0 a1 : Nat) (img b : List UInt8) (n : Int) (dn : Nat → Bool) (cv : Nat → Value) (w : World) : Prop :=
 if dn cd = true then ∃ A2 c2, cv cd = .tuple #[.slice A2 b.length c2, iv n] ∧ Bts w A2 b ∧ b.length ≤ c2 ∧ Below w0.heap.size w0 w ∧
  (dn cm = true → cv cm = .tuple #[.slice A2 b.length c2, iv n]) ∧ (dn e0 = true → cv e0 = .slice A2 b.length c2) ∧ (dn e1 = true → cv e1 = iv n) ∧ (dn a0 = true → cv a0 = .slice A2 b.length c2) ∧ (dn a1 = true → cv a1 = iv n)
 else if dn ci = true then ∃ A1 c1, cv ci = .slice A1 img.length c1 ∧ img.length ≤ c1 ∧ Bts w A1 img ∧ Below w0.heap.size w0 w
 else w = w0.drew
section
variable {w0 w : World} {ci cd cm e0 e1 a0 a1 : Nat} {img b : List UInt8} {n : Int} {dn : Nat → Bool} {cv : Nat → Value}
theorem imJ_bel (h : imJ w0 ci cd cm e0 e1 a0 a1 img b n dn cv w) : Below w0.heap.size w0 w := by
 unfold imJ at h
 split at h
 ·obtain ⟨_, _, _, _, _, h, _⟩ := h; exact h
 ·split at h
  ·obtain ⟨_, _, _, _, _, h⟩ := h; exact h
  ·subst h; exact (Below.refl _ _).drew
theorem imJ_0 (h1 : dn ci = false) (h2 : dn cd = false) (h : imJ w0 ci cd cm e0 e1 a0 a1 img b n dn cv w) : w = w0.drew := by
 unfold imJ at h
 rw [if_neg (by simp [h2]), if_neg (by simp [h1])] at h
 exact h
theorem imJ_1 (h1 : dn ci = true) (h2 : dn cd = false) (h : imJ w0 ci cd cm e0 e1 a0 a1 img b n dn cv w) : ∃ A1 c1, cv ci = .slice A1 img.length c1 ∧ img.length ≤ c1 ∧ Bts w A1 img ∧ Below w0.heap.size w0 w := by
 unfold imJ at h
 rw [if_neg (by simp [h2]), if_pos h1] at h
 exact h
theorem imJ_2 (h2 : dn cd = true) (h : imJ w0 ci cd cm e0 e1 a0 a1 img b n dn cv w) : ∃ A2 c2, cv cd = .tuple #[.slice A2 b.length c2, iv n] ∧ Bts w A2 b ∧ b.length ≤ c2 ∧ Below w0.heap.size w0 w ∧
  (dn cm = true → cv cm = .tuple #[.slice A2 b.length c2, iv n]) ∧ (dn e0 = true → cv e0 = .slice A2 b.length c2) ∧ (dn e1 = true → cv e1 = iv n) ∧ (dn a0 = true → cv a0 = .slice A2 b.length c2) ∧ (dn a1 = true → cv a1 = iv n) := by
 unfold imJ at h
 rw [if_pos h2] at h
 exact h
theorem imJ_i (hne : cd ≠ ci) (h2 : dn cd = false) {A1 : Option Addr} {c1 : Nat} (h3 : img.length ≤ c1) (h4 : Bts w A1 img) (h5 : Below w0.heap.size w0 w) :
  imJ w0 ci cd cm e0 e1 a0 a1 img b n (fun j => if j = ci then true else dn j) (fun j => if j = ci then .slice A1 img.length c1 else cv j) w := by
 unfold imJ
 rw [if_neg (by simp [hne, h2]), if_pos (by simp)]
 exact ⟨A1, c1, by simp, h3, h4, h5⟩
theorem imJ_d (h1 : dn cm = false) (h2 : dn e0 = false) (h3 : dn e1 = false) (h4 : dn a0 = false) (h5 : dn a1 = false) (n1 : cm ≠ cd) (n2 : e0 ≠ cd) (n3 : e1 ≠ cd) (n4 : a0 ≠ cd) (n5 : a1 ≠ cd) {A2 : Option Addr} {c2 : Nat} (g1 : Bts w A2 b) (g2 : b.length ≤ c2) (g3 : Below w0.heap.size w0 w) :
  imJ w0 ci cd cm e0 e1 a0 a1 img b n (fun j => if j = cd then true else dn j) (fun j => if j = cd then .tuple #[.slice A2 b.length c2, iv n] else cv j) w := by
 unfold imJ
 rw [if_pos (by simp)]
 exact ⟨A2, c2, by simp, g1, g2, g3, by simp [n1, h1], by simp [n2, h2], by simp [n3, h3], by simp [n4, h4], by simp [n5, h5]⟩
theorem imJ_k {k : Nat} {v : Value} (hd : dn cd = true) (hne : cd ≠ k) (h : imJ w0 ci cd cm e0 e1 a0 a1 img b n dn cv w)
  (hv : ∀ A2 c2, (dn cm = true → cv cm = .tuple #[.slice A2 b.length c2, iv n]) → (dn e0 = true → cv e0 = .slice A2 b.length c2) → (dn e1 = true → cv e1 = iv n) → cv cd = .tuple #[.slice A2 b.length c2, iv n] → (cm = k → v = .tuple #[.slice A2 b.length c2, iv n]) ∧ (e0 = k → v = .slice A2 b.length c2) ∧ (e1 = k → v = iv n) ∧ (a0 = k → v = .slice A2 b.length c2) ∧ (a1 = k → v = iv n)) :
  imJ w0 ci cd cm e0 e1 a0 a1 img b n (fun j => if j = k then true else dn j) (fun j => if j = k then v else cv j) w := by
 obtain ⟨A2, c2, g1, g2, g3, g4, g5, g6, g7, g8, g9⟩ := imJ_2 hd h
 obtain ⟨v1, v2, v3, v4, v5⟩ := hv A2 c2 g5 g6 g7 g1
 unfold imJ
 rw [if_pos (by simp [hd])]
 have key : ∀ (q : Nat) (x : Value), (dn q = true → cv q = x) → (q = k → v = x) → ((if q = k then true else dn q) = true → (if q = k then v else cv q) = x) := by
  intro q x h1 h2 h3
  by_cases e : q = k
  ·rw [if_pos e]; exact h2 e
  ·rw [if_neg e] at h3 ⊢; exact h1 h3
 refine ⟨A2, c2, by simp only [hne, if_false]; exact g1, g2, g3, g4, key _ _ g5 v1, key _ _ g6 v2, key _ _ g7 v3, key _ _ g8 v4, key _ _ g9 v5⟩
end
theorem bts_zeros {g n : Nat} {t : TypeId} {fr : Nat × Nat} (h : w.heap[g]? = some (.cells (Array.replicate n (.int .u8 0)) t fr)) : Bts w (some ⟨g, 0, none⟩) (List.replicate n 0) := by
 intro j hj
 refine ⟨g, 0, rfl, blk_lt h, ?_⟩
 rw [cell_of_row _ _ _ _ _ _ h]
 have hj' : j < n := by simpa using hj
 simp [hj', bv]
theorem made_zeros (n : Nat) : madeCells #[Value.int .u8 0] n = Array.replicate n (.int .u8 0) := by
 apply Array.ext'
 rw [toList_madeCells_one]
 simp
theorem room_calls (A : Option Addr) (c : Nat) (b : List UInt8) (w : World) (hb : b.length ≤ 64) (hB : Bts w A b) :
  Calls Try.prog 47 #[.slice A b.length c] w (BtRet w (room b)) := by
 obtain ⟨m, hm⟩ : ∃ m : Nat, 64 - b.length = m := ⟨_, rfl⟩
 have hm2 : (64 : Int) - (b.length : Int) = (m : Int) := by omega
 have hwr : IntKind.i64.wrap ((64 : Int) - (b.length : Int)) = (m : Int) := by rw [hm2]; exact IntWalk.i64_in _ (by omega)
 have hmk : ∀ w : World, (Instr.makeSlice 24 (.int .i64 (m : Int)) (.int .i64 (m : Int))).run Try.prog w = .ok (.slice (some ⟨w.heap.size, 0, none⟩) m m) (w.alloc (.cells (Array.replicate m (.int .u8 0)) 5)) := fun w => by
  have := run_make_row' (P := Try.prog) 24 5 (.int .u8 0) 1 Try.underlying24 (by kernel_rfl) rfl .i64 .i64 m (by omega) (by omega) w
  rw [made_zeros] at this
  exact this
 have HM : Hid (room b = b ++ List.replicate m 0) := Lib.hid (by unfold room; rw [hm])
 have HMB : Hid (b.length + m ≤ 64) := Lib.hid (by omega)
 have hba := ((Below.refl w.heap.size w).alloc (Nat.le_refl _) (.cells (Array.replicate m (.int .u8 0)) 5)).alloc (by simp) (.cells #[.slice A b.length c, .slice (some ⟨w.heap.size, 0, none⟩) m m] 24)
 have K := Lib.hid (concat2_calls (w := (w.alloc (.cells (Array.replicate m (.int .u8 0)) 5)).alloc (.cells #[.slice A b.length c, .slice (some ⟨w.heap.size, 0, none⟩) m m] 24)) (g := w.heap.size + 1) (A := A) (B := some ⟨w.heap.size, 0, none⟩) (a := b) (b := List.replicate m 0) (c := c) (d := m)
  (t := 24) (fr := (0, 0)) (by rw [List.length_replicate]; exact blk_top (by simp)) (by rw [List.length_replicate]; omega) (hB.stays hba) ((bts_zeros (n := m) (w := w.alloc (.cells (Array.replicate m (.int .u8 0)) 5)) (blk_top rfl)).stays ((Below.refl _ _).alloc (Nat.le_refl _) _)))
 have HBA := Lib.hid hba
 rw [HM.out]
 clear hm hm2 hb hB hba
 go_enter Try.func47, Try.ntmps47
 go_wp2_with fail
 refine K.out.mono ?_
 rintro e w1 ⟨A1, c1, rfl, hown, hb1⟩
 have HO := Lib.hid hown
 have HB1 := Lib.hid (HBA.out.trans (hb1.mono (by simp; omega)))
 clear hown hb1
 go_wp2_with fail
 go_ret
 exact ⟨A1, c1, by simp, HO.out.mono (by simp; omega), HB1.out⟩
theorem mid_slice {ab ao : Nat} {l : List UInt8} {z1 z2 : Int} (i y : Nat) (h1 : z1 = (i : Int)) (h2 : z2 = (i : Int) + (y : Int)) (hc : l.length ≤ c) (hy : i + y ≤ l.length) (hB : Bts w (some ⟨ab, ao, none⟩) l) : ∃ o' c', y ≤ c' ∧ Bts w (some ⟨ab, o', none⟩) ((l.drop i).take y) ∧
  ∀ W, (Instr.slice 24 (.slice (some ⟨ab, ao, none⟩) l.length c) (some (.int .i64 z1)) (some (.int .i64 z2)) none).run Try.prog W = .ok (.slice (some ⟨ab, o', none⟩) y c') W := by
 subst h1 h2
 have q1 : (i : Int) + (y : Int) ≤ (c : Int) := by omega
 have q2 : (i : Int) ≤ (i : Int) + (y : Int) := by omega
 have q3 : i + y - i = y := by omega
 by_cases e : c = i
 ·have hy0 : y = 0 := by omega
  subst hy0
  refine ⟨ao, c - i, by omega, by simpa using Bts.nil _ _, fun W => ?_⟩
  go_simp
 ·refine ⟨ao + i, c - i, by omega, mid_take (mid_at hB i) y, fun W => ?_⟩
  go_simp
  omega
end Go.Proofs.Ytefkfglkpebbmad
