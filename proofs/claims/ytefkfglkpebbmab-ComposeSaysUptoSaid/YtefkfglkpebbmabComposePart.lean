/- The walk of compose.part. No conditions. -/
import Derived.Test.YtefkfglkpebbmabComposeAdd
import Derived.Test.YtefkfglkpebbmabCloneBytes
import Derived.Test.YtefkfglkpebbmabDeltaApply
namespace Go.Proofs.Ytefkfglkpebbmab
open Go.RowKit
set_option linter.unusedVariables false
set_option linter.unusedSimpArgs false

def Stp.lim (o : Stp) : Prop := 0 ≤ o.at_ ∧ 0 ≤ o.len ∧ o.at_ + o.len ≤ 64 ∧ o.data.length ≤ 64
/-- Steps put behind one another k times. -/
def Lim (k : Nat) (l : List Stp) : Prop := l.length ≤ k ∧ ∀ p ∈ l, 0 ≤ p.at_ ∧ 0 ≤ p.len ∧ p.at_ + p.len ≤ 64 ∧ p.data.length ≤ 64 * k
theorem lim_add {k : Nat} {l : List Stp} {o : Stp} (h : Lim k l) (ho : o.lim) : Lim (k + 1) (addStp l o) := by
  obtain ⟨h1, h2⟩ := h
  obtain ⟨o1, o2, o3, o4⟩ := ho
  have hl := addStp_len l o
  refine ⟨by omega, ?_⟩
  rcases List.eq_nil_or_concat l with rfl | ⟨r, p, rfl⟩
  · intro q hq
    have e : q = o := by simpa [addStp] using hq
    subst e
    exact ⟨o1, o2, o3, by omega⟩
  · rw [List.concat_eq_append] at *
    rw [addStp_snoc]
    obtain ⟨p1, p2, p3, p4⟩ := h2 p (by simp)
    have hr : ∀ q ∈ r, 0 ≤ q.at_ ∧ 0 ≤ q.len ∧ q.at_ + q.len ≤ 64 ∧ q.data.length ≤ 64 * (k + 1) := fun q hq => by
      obtain ⟨q1, q2, q3, q4⟩ := h2 q (by simp [hq])
      exact ⟨q1, q2, q3, by omega⟩
    unfold meets
    split
    · rename_i q e
      intro x hx
      rcases List.mem_append.1 hx with hx | hx
      · exact hr x hx
      · obtain rfl : x = q := by simpa using hx
        by_cases c1 : o.len = 0 ∧ p.len = 0
        · rw [if_pos c1] at e
          injection e with e; subst e
          refine ⟨p1, p2, p3, ?_⟩
          simp only [List.length_append]; omega
        · rw [if_neg c1] at e
          by_cases c2 : 0 < o.len ∧ 0 < p.len ∧ p.at_ + p.len = o.at_
          · rw [if_pos c2] at e
            injection e with e; subst e
            refine ⟨p1, by simp only; omega, by simp only; omega, by simp only; omega⟩
          · rw [if_neg c2] at e; cases e
    · intro x hx
      simp only [List.mem_append, List.mem_cons, List.not_mem_nil, or_false] at hx
      rcases hx with hx | rfl | rfl
      · exact hr x hx
      · exact ⟨p1, p2, p3, by omega⟩
      · exact ⟨o1, o2, o3, by omega⟩
theorem Lim.mono {k m : Nat} {l : List Stp} (h : Lim k l) (hm : k ≤ m) : Lim m l := ⟨by have := h.1; omega, fun p hp => by obtain ⟨a, b, c, d⟩ := h.2 p hp; exact ⟨a, b, c, by omega⟩⟩
/-- What steps that may be cut are. -/
def Stp.cuts (o : Stp) : Prop := o.lim ∧ (0 < o.len → o.data = [])
theorem cut_lim {o : Stp} {a b : Int} (h : o.cuts) (ha : 0 ≤ a) (hab : a < b) (hb : b ≤ o.n) : (cutStp o a b).lim := by
  obtain ⟨⟨h1, h2, h3, h4⟩, h5⟩ := h
  unfold Stp.n at hb
  unfold cutStp
  by_cases h : 0 < o.len
  · rw [if_pos h]
    have := h5 h
    rw [this] at hb
    simp at hb
    exact ⟨by simp only; omega, by simp only; omega, by simp only; omega, by simp⟩
  · rw [if_neg h]
    exact ⟨by simp, by simp, by simp, by simp only [List.length_take, List.length_drop]; omega⟩
theorem partGo_lim : ∀ (first : List Stp) (at_ n : Int) (l : List Stp) (m : Nat), (∀ o ∈ first, o.cuts) → Lim m l → Lim (m + first.length) (partGo first at_ n l)
  | [], at_, n, l, m, _, h => h
  | o :: r, at_, n, l, m, hf, h => by
    unfold partGo
    have hr : ∀ x ∈ r, x.cuts := fun x hx => hf x (by simp [hx])
    split
    · rename_i hc
      have := partGo_lim r (at_ - o.n) n _ (m + 1) hr (lim_add h (cut_lim (hf o (by simp)) (by omega) hc (by omega)))
      simpa [Nat.add_comm, Nat.add_left_comm] using this
    · have := partGo_lim r (at_ - o.n) n _ m hr h
      exact this.mono (by simp)
theorem partGo_cons (o : Stp) (r : List Stp) (at_ n : Int) (l : List Stp) : partGo (o :: r) at_ n l = partGo r (at_ - o.n) n (if max 0 at_ < min o.n (at_ + n) then addStp l (cutStp o (max 0 at_) (min o.n (at_ + n))) else l) := rfl
theorem composeAdd_calls2 {w : World} {base : Nat} {l : List Stp} {ds : List (Option Addr × Nat)} {A : Option Addr} {c n : Nat} {o : Stp} {D : Option Addr} {dd : Nat} (hn : n = o.data.length) (h : AddIn w base l ds A c o D dd) :
    Calls Try.prog 52 #[.slice A l.length c, .agg #[iv o.at_, iv o.len, .slice D n dd]] w (AddRet w base (addStp l o)) := by
  subst hn
  exact composeAdd_calls h
set_option maxRecDepth 100000 in
set_option maxHeartbeats 4000000 in
theorem composePart_calls {w : World} {base : Nat} {l first : List Stp} {ds : List (Option Addr × Nat)} {A B : Option Addr} {c d m : Nat} {at_ n : Int} (hb : base ≤ w.heap.size) (hrow : CRow w base l ds A c) (hr : ∀ w', Below base w w' → Sps w' B first) (hf : first.length ≤ 64) (hc : ∀ o ∈ first, o.cuts)
    (hl : Lim m l) (hm : m ≤ 8192) (ha : 0 ≤ at_ ∧ at_ ≤ 64) (hn : 0 ≤ n ∧ n ≤ 64) :
    Calls Try.prog 51 #[.slice A l.length c, .slice B first.length d, iv at_, iv n] w (AddRet w base (partGo first at_ n l)) := by
  have HR := Lib.hid hr
  have HW := Lib.hid hrow
  have HL := Lib.hid hl
  clear hr hrow hl
  go_enter Try.func51, Try.ntmps51
  go_wp2_with fail
  go_loopw [0, 2, 16] (fun v a i wr => ∃ (k : Nat) (l' : List Stp) (ds' : List (Option Addr × Nat)) (A' : Option Addr) (c' : Nat) (at' : Int), k ≤ first.length ∧ i = .int .i64 k ∧ a = iv at' ∧ v = .slice A' l'.length c' ∧ (at' ≤ 64 ∧ -128 * (k : Int) ≤ at') ∧ Hid (Lim (m + k) l') ∧ Hid (partGo (first.drop k) at' n l' = partGo first at_ n l) ∧ Hid (CRow wr base l' ds' A' c') ∧ Hid (Below base w wr)) (fun _ _ i _ => first.length - (intOf i).toNat)
  case atStart => exact ⟨0, l, ds, A, c, at_, Nat.zero_le _, rfl, rfl, rfl, ⟨ha.2, by omega⟩, HL, Lib.hid rfl, HW, Lib.hid (Below.refl _ _)⟩
  case round =>
    obtain ⟨k, l', ds', A', c', at', hk, rfl, rfl, rfl, ⟨ha1, ha2⟩, HL, HP, HW, HB⟩ := hrel
    have hsz := HB.out.size
    by_cases hlt : k < first.length
    · obtain ⟨b, o, D, dd, rfl, hs, hc0, hc1, hc2, hd1, hd2, hD, hi0, hi1⟩ := (HR.out _ HB.out).at_ hlt
      have hxc := hc _ (List.getElem_mem hlt)
      have hdrop : first.drop k = first[k] :: first.drop (k + 1) := List.drop_eq_getElem_cons hlt
      have HP2 := HP.out
      rw [hdrop, partGo_cons] at HP2
      have hsm : ∀ q ∈ l', q.small := fun q hq => by
        obtain ⟨z1, z2, z3, z4⟩ := HL.out.2 q hq
        exact ⟨z1, z2, by omega, by omega⟩
      have HSM := Lib.hid hsm
      generalize hx : first[k] = x at *
      clear hx hdrop hsm
      obtain ⟨oa, ol, od⟩ := x
      obtain ⟨⟨x1, x2, x3, x4⟩, x5⟩ := hxc
      unfold Stp.n at HP2
      dsimp only at *
      have HLM := Lib.hid (fun h1 => @cut_lim ⟨oa, ol, od⟩ (max 0 at') (min (ol + (od.length : Int)) (at' + n)) ⟨⟨x1, x2, x3, x4⟩, x5⟩ (by omega) h1 (by unfold Stp.n; dsimp only; omega))
      have HP2 := Lib.hid HP2
      have w1 : IntKind.i64.wrap (ol + (od.length : Int)) = ol + (od.length : Int) := IntWalk.i64_in _ (by omega)
      have w2 : IntKind.i64.wrap (at' + n) = at' + n := IntWalk.i64_in _ (by omega)
      have w3 : IntKind.i64.wrap (at' - (ol + (od.length : Int))) = at' - (ol + (od.length : Int)) := IntWalk.i64_in _ (by omega)
      have hL1 := HL.out.1
      have HD := Lib.hid hD
      clear HP hD
      have hbx : Below base w (wr.alloc (.cells #[iv oa, iv ol, .slice D od.length dd] 31)) := HB.out.alloc (by omega) _
      have hbr : Below wr.heap.size wr (wr.alloc (.cells #[iv oa, iv ol, .slice D od.length dd] 31)) := (Below.refl _ _).alloc (Nat.le_refl _) _
      have HBX := Lib.hid hbx
      have HBR := Lib.hid hbr
      clear hbx hbr
      by_cases hcut : max 0 at' < min (ol + (od.length : Int)) (at' + n)
      · have HP3 := HP2.out
        rw [if_pos hcut] at HP3
        have HLM3 := HLM.out hcut
        clear HP2 HLM
        by_cases hol : 0 < ol
        · have hod := x5 hol
          subst hod
          clear x5
          simp only [List.length_nil, Int.natCast_zero, Int.add_zero] at *
          by_cases hp : 0 < at'
          · by_cases he : ol ≤ at' + n
            · have hct : cutStp ⟨oa, ol, []⟩ (max 0 at') (min ol (at' + n)) = (⟨oa + at', ol - at', []⟩ : Stp) := by
                unfold cutStp
                rw [if_pos hol]
                simp only [Stp.mk.injEq, and_true]
                omega
              rw [hct] at HP3 HLM3
              have HP4 := Lib.hid HP3
              obtain ⟨y1, y2, y3, y4⟩ := HLM3
              dsimp only at y1 y2 y3
              clear HP3 hct y4
              have w4 : IntKind.i64.wrap (oa + at') = oa + at' := IntWalk.i64_in _ (by omega)
              have w5 : IntKind.i64.wrap (ol - at') = ol - at' := IntWalk.i64_in _ (by omega)
              go_wp2_with fail
              refine (composeAdd_calls (base := base) (l := l') (ds := ds') (o := (⟨oa + at', ol - at', []⟩ : Stp)) (D := none) (dd := 0) ⟨by simp; omega, HW.out.below HBR.out, Bts.nil _ _, Nat.le_refl _, fun k hk => (by cases hk), by omega, ⟨by dsimp only; omega, by dsimp only; omega, by dsimp only; omega, by simp⟩, HSM.out⟩).mono ?_
              rintro e w2 ⟨A2, c2, ds2, rfl, hrow2, hb2⟩
              have HW2 := Lib.hid hrow2
              have HB2 := Lib.hid (HBX.out.trans hb2)
              clear hrow2 hb2
              go_wp2_with fail
              go_roundw
              case rel =>
                refine ⟨k + 1, addStp l' (⟨oa + at', ol - at', []⟩ : Stp), ds2, A2, c2, at' - ol, by omega, by go_num, ?_, ?_, ⟨by omega, by omega⟩, ?_, HP4, HW2, HB2⟩
                · first | rfl | (go_num; done) | skip
                · rfl
                · exact Lib.hid (lim_add HL.out ⟨y1, y2, y3, by simp⟩)
              case measure => simp [intOf]; omega
            · have hct : cutStp ⟨oa, ol, []⟩ (max 0 at') (min ol (at' + n)) = (⟨oa + at', at' + n - at', []⟩ : Stp) := by
                unfold cutStp
                rw [if_pos hol]
                simp only [Stp.mk.injEq, and_true]
                omega
              rw [hct] at HP3 HLM3
              have HP4 := Lib.hid HP3
              obtain ⟨y1, y2, y3, y4⟩ := HLM3
              dsimp only at y1 y2 y3
              clear HP3 hct y4
              have w4 : IntKind.i64.wrap (oa + at') = oa + at' := IntWalk.i64_in _ (by omega)
              have w5 : IntKind.i64.wrap (at' + n - at') = at' + n - at' := IntWalk.i64_in _ (by omega)
              go_wp2_with fail
              refine (composeAdd_calls (base := base) (l := l') (ds := ds') (o := (⟨oa + at', at' + n - at', []⟩ : Stp)) (D := none) (dd := 0) ⟨by simp; omega, HW.out.below HBR.out, Bts.nil _ _, Nat.le_refl _, fun k hk => (by cases hk), by omega, ⟨by dsimp only; omega, by dsimp only; omega, by dsimp only; omega, by simp⟩, HSM.out⟩).mono ?_
              rintro e w2 ⟨A2, c2, ds2, rfl, hrow2, hb2⟩
              have HW2 := Lib.hid hrow2
              have HB2 := Lib.hid (HBX.out.trans hb2)
              clear hrow2 hb2
              go_wp2_with fail
              go_roundw
              case rel =>
                refine ⟨k + 1, addStp l' (⟨oa + at', at' + n - at', []⟩ : Stp), ds2, A2, c2, at' - ol, by omega, by go_num, ?_, ?_, ⟨by omega, by omega⟩, ?_, HP4, HW2, HB2⟩
                · first | rfl | (go_num; done) | skip
                · rfl
                · exact Lib.hid (lim_add HL.out ⟨y1, y2, y3, by simp⟩)
              case measure => simp [intOf]; omega
          · by_cases he : ol ≤ at' + n
            · have hct : cutStp ⟨oa, ol, []⟩ (max 0 at') (min ol (at' + n)) = (⟨oa, ol, []⟩ : Stp) := by
                unfold cutStp
                rw [if_pos hol]
                simp only [Stp.mk.injEq, and_true]
                omega
              rw [hct] at HP3 HLM3
              have HP4 := Lib.hid HP3
              obtain ⟨y1, y2, y3, y4⟩ := HLM3
              dsimp only at y1 y2 y3
              clear HP3 hct y4
              go_wp2_with fail
              refine (composeAdd_calls (base := base) (l := l') (ds := ds') (o := (⟨oa, ol, []⟩ : Stp)) (D := none) (dd := 0) ⟨by simp; omega, HW.out.below HBR.out, Bts.nil _ _, Nat.le_refl _, fun k hk => (by cases hk), by omega, ⟨by dsimp only; omega, by dsimp only; omega, by dsimp only; omega, by simp⟩, HSM.out⟩).mono ?_
              rintro e w2 ⟨A2, c2, ds2, rfl, hrow2, hb2⟩
              have HW2 := Lib.hid hrow2
              have HB2 := Lib.hid (HBX.out.trans hb2)
              clear hrow2 hb2
              go_wp2_with fail
              go_roundw
              case rel =>
                refine ⟨k + 1, addStp l' (⟨oa, ol, []⟩ : Stp), ds2, A2, c2, at' - ol, by omega, by go_num, ?_, ?_, ⟨by omega, by omega⟩, ?_, HP4, HW2, HB2⟩
                · first | rfl | (go_num; done) | skip
                · rfl
                · exact Lib.hid (lim_add HL.out ⟨y1, y2, y3, by simp⟩)
              case measure => simp [intOf]; omega
            · have hct : cutStp ⟨oa, ol, []⟩ (max 0 at') (min ol (at' + n)) = (⟨oa, at' + n, []⟩ : Stp) := by
                unfold cutStp
                rw [if_pos hol]
                simp only [Stp.mk.injEq, and_true]
                omega
              rw [hct] at HP3 HLM3
              have HP4 := Lib.hid HP3
              obtain ⟨y1, y2, y3, y4⟩ := HLM3
              dsimp only at y1 y2 y3
              clear HP3 hct y4
              go_wp2_with fail
              refine (composeAdd_calls (base := base) (l := l') (ds := ds') (o := (⟨oa, at' + n, []⟩ : Stp)) (D := none) (dd := 0) ⟨by simp; omega, HW.out.below HBR.out, Bts.nil _ _, Nat.le_refl _, fun k hk => (by cases hk), by omega, ⟨by dsimp only; omega, by dsimp only; omega, by dsimp only; omega, by simp⟩, HSM.out⟩).mono ?_
              rintro e w2 ⟨A2, c2, ds2, rfl, hrow2, hb2⟩
              have HW2 := Lib.hid hrow2
              have HB2 := Lib.hid (HBX.out.trans hb2)
              clear hrow2 hb2
              go_wp2_with fail
              go_roundw
              case rel =>
                refine ⟨k + 1, addStp l' (⟨oa, at' + n, []⟩ : Stp), ds2, A2, c2, at' - ol, by omega, by go_num, ?_, ?_, ⟨by omega, by omega⟩, ?_, HP4, HW2, HB2⟩
                · first | rfl | (go_num; done) | skip
                · rfl
                · exact Lib.hid (lim_add HL.out ⟨y1, y2, y3, by simp⟩)
              case measure => simp [intOf]; omega
        · obtain rfl : ol = 0 := by omega
          clear x5
          simp only [Int.zero_add] at *
          by_cases hp : 0 < at'
          · obtain ⟨a, rfl⟩ := Int.eq_ofNat_of_zero_le (Int.le_of_lt hp)
            by_cases he : (od.length : Int) ≤ a + n
            · have hct : cutStp ⟨oa, 0, od⟩ (max 0 (a : Int)) (min (od.length : Int) ((a : Int) + n)) = (⟨0, 0, (od.drop a).take (od.length - a)⟩ : Stp) := by
                have e1 : (max 0 (a : Int)).toNat = a := by omega
                have e2 : (min (od.length : Int) ((a : Int) + n) - max 0 (a : Int)).toNat = od.length - a := by omega
                unfold cutStp
                rw [if_neg (show ¬ (0 : Int) < 0 by decide), e1, e2]
              rw [hct] at HP3 HLM3
              have j4 : a + (od.length - a) ≤ od.length := by omega
              have hMM : ∀ w', Below wr.heap.size wr w' → Bts w' (Option.map (fun x => x.add a) D) ((od.drop a).take (od.length - a)) := fun w' hb => by
                have := mid_bts dd (HD.out.stays hb) hd1 j4; rwa [if_neg (by omega)] at this
              have hml : od.length - a = ((od.drop a).take (od.length - a)).length := by simp <;> omega
              have hy := HLM3
              clear hct HLM3
              have HP4 := Lib.hid HP3
              clear HP3
              generalize (od.drop a).take (od.length - a) = cu at *
              have HM := Lib.hid hMM
              have HML := Lib.hid hml
              have HY := Lib.hid hy
              clear hMM hml hy
              have v3 : (0 : Int) ≤ (a : Int) := by omega
              have v4 : (a : Int) ≤ (od.length : Int) := by omega
              have v5 : (od.length : Int) ≤ (dd : Int) := by omega
              go_wp2_with fail
              refine (cloneBytes_calls (Option.map (fun x => x.add a) D) (od.length - a) (dd - a) (cu.map bv) _ (by rw [HML.out]; simp) (by omega) (HM.out _ HBR.out).src (bv_one _)).mono ?_
              rintro e9 w2 ⟨A3, c3, rfl, hown, hb3⟩
              have HB3 : Hid (Below wr.heap.size wr w2) := Lib.hid (HBR.out.trans (hb3.mono (by simp)))
              have HO := Lib.hid hown
              clear hown hb3
              go_wp2_with fail
              have hs3 := HB3.out.size
              refine (composeAdd_calls2 (base := base) (l := l') (ds := ds') (o := ⟨0, 0, cu⟩) (D := A3) (dd := c3) HML.out ⟨by omega, HW.out.below HB3.out, HO.out.src.bts, by have := HO.out.le; have := HML.out; dsimp only at *; omega, fun k9 hk9 => ?_, by omega, ⟨by simp, by simp, by simp, ?_⟩, HSM.out⟩).mono ?_
              · have h9 := HO.out.block k9 hk9
                refine ⟨fun e8 => ?_, h9.2⟩
                have := (HW.out.row.block k9 e8).2
                have := h9.1
                simp at this
                omega
              · have := HY.out.2.2.2
                dsimp only at this ⊢
                omega
              rintro e9 w3 ⟨A2, c2, ds2, rfl, hrow2, hb2⟩
              have HW2 := Lib.hid hrow2
              have HB2 := Lib.hid ((HB.out.trans (HB3.out.mono (by omega))).trans hb2)
              clear hrow2 hb2
              go_wp2_with fail
              go_roundw
              case rel =>
                refine ⟨k + 1, addStp l' ⟨0, 0, cu⟩, ds2, A2, c2, (a : Int) - (od.length : Int), by omega, by go_num, ?_, ?_, ⟨by omega, by omega⟩, ?_, HP4, HW2, HB2⟩
                · first | rfl | (go_num; done) | skip
                · rfl
                · exact Lib.hid (lim_add HL.out HY.out)
              case measure => simp [intOf]; omega
            · obtain ⟨e, hen⟩ := Int.eq_ofNat_of_zero_le (a := (a : Int) + n) (by omega)
              rw [hen] at w2
              have hct : cutStp ⟨oa, 0, od⟩ (max 0 (a : Int)) (min (od.length : Int) ((a : Int) + n)) = (⟨0, 0, (od.drop a).take (e - a)⟩ : Stp) := by
                have e1 : (max 0 (a : Int)).toNat = a := by omega
                have e2 : (min (od.length : Int) ((a : Int) + n) - max 0 (a : Int)).toNat = e - a := by omega
                unfold cutStp
                rw [if_neg (show ¬ (0 : Int) < 0 by decide), e1, e2]
              rw [hct] at HP3 HLM3
              have j4 : a + (e - a) ≤ od.length := by omega
              have hMM : ∀ w', Below wr.heap.size wr w' → Bts w' (Option.map (fun x => x.add a) D) ((od.drop a).take (e - a)) := fun w' hb => by
                have := mid_bts dd (HD.out.stays hb) hd1 j4; rwa [if_neg (by omega)] at this
              have hml : e - a = ((od.drop a).take (e - a)).length := by simp <;> omega
              have hy := HLM3
              clear hct HLM3
              have HP4 := Lib.hid HP3
              clear HP3
              generalize (od.drop a).take (e - a) = cu at *
              have HM := Lib.hid hMM
              have HML := Lib.hid hml
              have HY := Lib.hid hy
              clear hMM hml hy
              have v3 : (0 : Int) ≤ (a : Int) := by omega
              have v4 : (a : Int) ≤ (e : Int) := by omega
              have v5 : (e : Int) ≤ (dd : Int) := by omega
              go_wp2_with fail
              refine (cloneBytes_calls (Option.map (fun x => x.add a) D) (e - a) (dd - a) (cu.map bv) _ (by rw [HML.out]; simp) (by omega) (HM.out _ HBR.out).src (bv_one _)).mono ?_
              rintro e9 w2 ⟨A3, c3, rfl, hown, hb3⟩
              have HB3 : Hid (Below wr.heap.size wr w2) := Lib.hid (HBR.out.trans (hb3.mono (by simp)))
              have HO := Lib.hid hown
              clear hown hb3
              go_wp2_with fail
              have hs3 := HB3.out.size
              refine (composeAdd_calls2 (base := base) (l := l') (ds := ds') (o := ⟨0, 0, cu⟩) (D := A3) (dd := c3) HML.out ⟨by omega, HW.out.below HB3.out, HO.out.src.bts, by have := HO.out.le; have := HML.out; dsimp only at *; omega, fun k9 hk9 => ?_, by omega, ⟨by simp, by simp, by simp, ?_⟩, HSM.out⟩).mono ?_
              · have h9 := HO.out.block k9 hk9
                refine ⟨fun e8 => ?_, h9.2⟩
                have := (HW.out.row.block k9 e8).2
                have := h9.1
                simp at this
                omega
              · have := HY.out.2.2.2
                dsimp only at this ⊢
                omega
              rintro e9 w3 ⟨A2, c2, ds2, rfl, hrow2, hb2⟩
              have HW2 := Lib.hid hrow2
              have HB2 := Lib.hid ((HB.out.trans (HB3.out.mono (by omega))).trans hb2)
              clear hrow2 hb2
              go_wp2_with fail
              go_roundw
              case rel =>
                refine ⟨k + 1, addStp l' ⟨0, 0, cu⟩, ds2, A2, c2, (a : Int) - (od.length : Int), by omega, by go_num, ?_, ?_, ⟨by omega, by omega⟩, ?_, HP4, HW2, HB2⟩
                · first | rfl | (go_num; done) | skip
                · rfl
                · exact Lib.hid (lim_add HL.out HY.out)
              case measure => simp [intOf]; omega
          · by_cases he : (od.length : Int) ≤ at' + n
            · have hct : cutStp ⟨oa, 0, od⟩ (max 0 at') (min (od.length : Int) (at' + n)) = (⟨0, 0, (od.drop 0).take (od.length - 0)⟩ : Stp) := by
                have e1 : (max 0 at').toNat = 0 := by omega
                have e2 : (min (od.length : Int) (at' + n) - max 0 at').toNat = od.length - 0 := by omega
                unfold cutStp
                rw [if_neg (show ¬ (0 : Int) < 0 by decide), e1, e2]
              rw [hct] at HP3 HLM3
              have j4 : 0 + (od.length - 0) ≤ od.length := by omega
              have hMM : ∀ w', Below wr.heap.size wr w' → Bts w' D ((od.drop 0).take (od.length - 0)) := fun w' hb => by
                exact (HD.out.stays hb).take od.length
              have hml : od.length = ((od.drop 0).take (od.length - 0)).length := by simp <;> omega
              have hy := HLM3
              clear hct HLM3
              have HP4 := Lib.hid HP3
              clear HP3
              generalize (od.drop 0).take (od.length - 0) = cu at *
              have HM := Lib.hid hMM
              have HML := Lib.hid hml
              have HY := Lib.hid hy
              clear hMM hml hy
              have v3 : (0 : Int) ≤ 0 := by omega
              have v4 : (0 : Int) ≤ (od.length : Int) := by omega
              have v5 : (od.length : Int) ≤ (dd : Int) := by omega
              go_wp2_with fail
              refine (cloneBytes_calls D (od.length) dd (cu.map bv) _ (by rw [HML.out]; simp) (by omega) (HM.out _ HBR.out).src (bv_one _)).mono ?_
              rintro e9 w2 ⟨A3, c3, rfl, hown, hb3⟩
              have HB3 : Hid (Below wr.heap.size wr w2) := Lib.hid (HBR.out.trans (hb3.mono (by simp)))
              have HO := Lib.hid hown
              clear hown hb3
              go_wp2_with fail
              have hs3 := HB3.out.size
              refine (composeAdd_calls2 (base := base) (l := l') (ds := ds') (o := ⟨0, 0, cu⟩) (D := A3) (dd := c3) HML.out ⟨by omega, HW.out.below HB3.out, HO.out.src.bts, by have := HO.out.le; have := HML.out; dsimp only at *; omega, fun k9 hk9 => ?_, by omega, ⟨by simp, by simp, by simp, ?_⟩, HSM.out⟩).mono ?_
              · have h9 := HO.out.block k9 hk9
                refine ⟨fun e8 => ?_, h9.2⟩
                have := (HW.out.row.block k9 e8).2
                have := h9.1
                simp at this
                omega
              · have := HY.out.2.2.2
                dsimp only at this ⊢
                omega
              rintro e9 w3 ⟨A2, c2, ds2, rfl, hrow2, hb2⟩
              have HW2 := Lib.hid hrow2
              have HB2 := Lib.hid ((HB.out.trans (HB3.out.mono (by omega))).trans hb2)
              clear hrow2 hb2
              go_wp2_with fail
              go_roundw
              case rel =>
                refine ⟨k + 1, addStp l' ⟨0, 0, cu⟩, ds2, A2, c2, at' - (od.length : Int), by omega, by go_num, ?_, ?_, ⟨by omega, by omega⟩, ?_, HP4, HW2, HB2⟩
                · first | rfl | (go_num; done) | skip
                · rfl
                · exact Lib.hid (lim_add HL.out HY.out)
              case measure => simp [intOf]; omega
            · obtain ⟨e, hen⟩ := Int.eq_ofNat_of_zero_le (a := at' + n) (by omega)
              rw [hen] at w2
              have hct : cutStp ⟨oa, 0, od⟩ (max 0 at') (min (od.length : Int) (at' + n)) = (⟨0, 0, (od.drop 0).take (e - 0)⟩ : Stp) := by
                have e1 : (max 0 at').toNat = 0 := by omega
                have e2 : (min (od.length : Int) (at' + n) - max 0 at').toNat = e - 0 := by omega
                unfold cutStp
                rw [if_neg (show ¬ (0 : Int) < 0 by decide), e1, e2]
              rw [hct] at HP3 HLM3
              have j4 : 0 + (e - 0) ≤ od.length := by omega
              have hMM : ∀ w', Below wr.heap.size wr w' → Bts w' D ((od.drop 0).take (e - 0)) := fun w' hb => by
                exact (HD.out.stays hb).take e
              have hml : e = ((od.drop 0).take (e - 0)).length := by simp <;> omega
              have hy := HLM3
              clear hct HLM3
              have HP4 := Lib.hid HP3
              clear HP3
              generalize (od.drop 0).take (e - 0) = cu at *
              have HM := Lib.hid hMM
              have HML := Lib.hid hml
              have HY := Lib.hid hy
              clear hMM hml hy
              have v3 : (0 : Int) ≤ 0 := by omega
              have v4 : (0 : Int) ≤ (e : Int) := by omega
              have v5 : (e : Int) ≤ (dd : Int) := by omega
              go_wp2_with fail
              refine (cloneBytes_calls D (e) dd (cu.map bv) _ (by rw [HML.out]; simp) (by omega) (HM.out _ HBR.out).src (bv_one _)).mono ?_
              rintro e9 w2 ⟨A3, c3, rfl, hown, hb3⟩
              have HB3 : Hid (Below wr.heap.size wr w2) := Lib.hid (HBR.out.trans (hb3.mono (by simp)))
              have HO := Lib.hid hown
              clear hown hb3
              go_wp2_with fail
              have hs3 := HB3.out.size
              refine (composeAdd_calls2 (base := base) (l := l') (ds := ds') (o := ⟨0, 0, cu⟩) (D := A3) (dd := c3) HML.out ⟨by omega, HW.out.below HB3.out, HO.out.src.bts, by have := HO.out.le; have := HML.out; dsimp only at *; omega, fun k9 hk9 => ?_, by omega, ⟨by simp, by simp, by simp, ?_⟩, HSM.out⟩).mono ?_
              · have h9 := HO.out.block k9 hk9
                refine ⟨fun e8 => ?_, h9.2⟩
                have := (HW.out.row.block k9 e8).2
                have := h9.1
                simp at this
                omega
              · have := HY.out.2.2.2
                dsimp only at this ⊢
                omega
              rintro e9 w3 ⟨A2, c2, ds2, rfl, hrow2, hb2⟩
              have HW2 := Lib.hid hrow2
              have HB2 := Lib.hid ((HB.out.trans (HB3.out.mono (by omega))).trans hb2)
              clear hrow2 hb2
              go_wp2_with fail
              go_roundw
              case rel =>
                refine ⟨k + 1, addStp l' ⟨0, 0, cu⟩, ds2, A2, c2, at' - (od.length : Int), by omega, by go_num, ?_, ?_, ⟨by omega, by omega⟩, ?_, HP4, HW2, HB2⟩
                · first | rfl | (go_num; done) | skip
                · rfl
                · exact Lib.hid (lim_add HL.out HY.out)
              case measure => simp [intOf]; omega
      · have HP3 := HP2.out
        rw [if_neg hcut] at HP3
        have HP4 := Lib.hid HP3
        clear HP2 HLM HP3 x5
        by_cases hp : 0 < at'
        · by_cases he : ol + (od.length : Int) ≤ at' + n
          · go_wp2_with fail
            go_roundw
            case rel =>
              refine ⟨k + 1, l', ds', A', c', at' - (ol + (od.length : Int)), by omega, by go_num, ?_, ?_, ⟨by omega, by omega⟩, ?_, HP4, Lib.hid (HW.out.below HBR.out), HBX⟩
              · first | rfl | (go_num; done) | skip
              · rfl
              · exact Lib.hid (HL.out.mono (by omega))
            case measure => simp [intOf]; omega
          · go_wp2_with fail
            go_roundw
            case rel =>
              refine ⟨k + 1, l', ds', A', c', at' - (ol + (od.length : Int)), by omega, by go_num, ?_, ?_, ⟨by omega, by omega⟩, ?_, HP4, Lib.hid (HW.out.below HBR.out), HBX⟩
              · first | rfl | (go_num; done) | skip
              · rfl
              · exact Lib.hid (HL.out.mono (by omega))
            case measure => simp [intOf]; omega
        · by_cases he : ol + (od.length : Int) ≤ at' + n
          · go_wp2_with fail
            go_roundw
            case rel =>
              refine ⟨k + 1, l', ds', A', c', at' - (ol + (od.length : Int)), by omega, by go_num, ?_, ?_, ⟨by omega, by omega⟩, ?_, HP4, Lib.hid (HW.out.below HBR.out), HBX⟩
              · first | rfl | (go_num; done) | skip
              · rfl
              · exact Lib.hid (HL.out.mono (by omega))
            case measure => simp [intOf]; omega
          · go_wp2_with fail
            go_roundw
            case rel =>
              refine ⟨k + 1, l', ds', A', c', at' - (ol + (od.length : Int)), by omega, by go_num, ?_, ?_, ⟨by omega, by omega⟩, ?_, HP4, Lib.hid (HW.out.below HBR.out), HBX⟩
              · first | rfl | (go_num; done) | skip
              · rfl
              · exact Lib.hid (HL.out.mono (by omega))
            case measure => simp [intOf]; omega
    · obtain rfl : k = first.length := by omega
      have HP2 := HP.out
      rw [List.drop_length] at HP2
      have HP3 : Hid (l' = partGo first at_ n l) := Lib.hid HP2
      clear HP2
      go_wp2_with fail
      refine bodyPost_ret (results_tmp rfl _ _ _) rfl ⟨A', c', ds', ?_, ?_, HB.out⟩
      · rw [← HP3.out]; rfl
      · rw [← HP3.out]; exact HW.out
end Go.Proofs.Ytefkfglkpebbmab
