/- The walk of compose.Of. No conditions. -/
import Derived.Test.YtefkfglkpebbmabComposePart
namespace Go.Proofs.Ytefkfglkpebbmab
open Go.RowKit
set_option linter.unusedVariables false
set_option linter.unusedSimpArgs false

theorem composeGo_cons (first : List Stp) (o : Stp) (r l : List Stp) : composeGo first (o :: r) l = composeGo first r (if 0 < o.len then partGo first o.at_ o.len l else addStp l ⟨0, 0, o.data⟩) := rfl
theorem cuts_of {o : Stp} {old : Int} (h : o.form ∧ o.in_ old) (ho : old ≤ 64) : o.cuts := by
  obtain ⟨⟨f1, f2⟩, h2⟩ := h
  unfold Stp.in_ at h2
  refine ⟨⟨h2.2.1, h2.1, by omega, ?_⟩, fun hp => f2 (by omega)⟩
  by_cases e : o.len = 0
  · exact (f1 e).2.2
  · rw [f2 e]; simp
set_option maxRecDepth 100000 in
set_option maxHeartbeats 4000000 in
theorem composeOf_bad1 {w : World} {B E : Option Addr} {d f : Nat} {first second : List Stp} {old mid size : Int} (h1 : first.length ≤ 140737488351232) (r1 : Sps w B first) (hb : deltaCheck first old mid ≠ 0) :
    Calls Try.prog 23 #[.slice B first.length d, .slice E second.length f, iv old, iv mid, iv size] w (OpRet2 w [] (deltaCheck first old mid)) := by
  have h : (deltaCheck first old mid != 0) = true := by simp [hb]
  clear hb
  go_enter Try.func23, Try.ntmps23
  go_wp2_with fail
  refine (deltaCheck_calls B d first old mid w h1 r1).mono ?_
  rintro e w1 ⟨rfl, hb1⟩
  go_wp2_with fail
  go_ret2
  exact ⟨none, 0, rfl, Sps.nil _ _, Nat.le_refl _, hb1⟩
set_option maxRecDepth 100000 in
set_option maxHeartbeats 4000000 in
theorem composeOf_bad2 {w : World} {B E : Option Addr} {d f : Nat} {first second : List Stp} {old mid size : Int} (h1 : first.length ≤ 140737488351232) (r1 : Sps w B first) (h2 : second.length ≤ 140737488351232) (r2 : Sps w E second) (hb : deltaCheck first old mid = 0) (hb2 : deltaCheck second mid size ≠ 0) :
    Calls Try.prog 23 #[.slice B first.length d, .slice E second.length f, iv old, iv mid, iv size] w (OpRet2 w [] (deltaCheck second mid size)) := by
  have h : (deltaCheck second mid size != 0) = true := by simp [hb2]
  have hd : ∀ w, Sps w B first → Calls Try.prog 46 #[.slice B first.length d, iv old, iv mid] w (RetB w (iv 0)) := fun w hs => by
    have := deltaCheck_calls B d first old mid w h1 hs
    rwa [hb] at this
  have HD := Lib.hid hd
  clear hb hb2 hd
  go_enter Try.func23, Try.ntmps23
  go_wp2_with fail
  refine (HD.out w r1).mono ?_
  rintro e w1 ⟨rfl, hb1⟩
  go_wp2_with fail
  refine (deltaCheck_calls E f second mid size w1 h2 (r2.stays hb1)).mono ?_
  rintro e w2 ⟨rfl, hb2⟩
  go_wp2_with fail
  go_ret2
  exact ⟨none, 0, rfl, Sps.nil _ _, Nat.le_refl _, hb1.trans (hb2.mono hb1.size)⟩
set_option maxRecDepth 100000 in
set_option maxHeartbeats 4000000 in
theorem composeOf_ok_calls {w : World} {B E : Option Addr} {d f : Nat} {first second : List Stp} {old mid size : Int} (r1 : Sps w B first) (r2 : Sps w E second) (d1 : DOk first old mid) (d2 : DOk second mid size) :
    Calls Try.prog 23 #[.slice B first.length d, .slice E second.length f, iv old, iv mid, iv size] w (OpRet2 w (if deltaCheck (composeGo first second []) old size ≠ 0 then [] else composeGo first second []) (deltaCheck (composeGo first second []) old size)) := by
  have hd1 : ∀ w, Sps w B first → Calls Try.prog 46 #[.slice B first.length d, iv old, iv mid] w (RetB w (iv 0)) := fun w hs => by
    have := deltaCheck_calls B d first old mid w (by have := d1.many; omega) hs
    rwa [deltaCheck_ok.2 d1] at this
  have hd2 : ∀ w, Sps w E second → Calls Try.prog 46 #[.slice E second.length f, iv mid, iv size] w (RetB w (iv 0)) := fun w hs => by
    have := deltaCheck_calls E f second mid size w (by have := d2.many; omega) hs
    rwa [deltaCheck_ok.2 d2] at this
  have hr1 : ∀ w', Below w.heap.size w w' → Sps w' B first := fun w' hb => r1.stays hb
  have hr2 : ∀ w', Below w.heap.size w w' → Sps w' E second := fun w' hb => r2.stays hb
  have m1 := d1.many
  have m2 := d2.many
  have hc1 : ∀ o ∈ first, o.cuts := fun o ho => cuts_of (d1.each o ho) d1.o1
  have hc2 : ∀ o ∈ second, o.cuts := fun o ho => cuts_of (d2.each o ho) d2.o1
  have HD1 := Lib.hid hd1
  have HD2 := Lib.hid hd2
  have HR1 := Lib.hid hr1
  have HR2 := Lib.hid hr2
  have HC1 := Lib.hid hc1
  have HC2 := Lib.hid hc2
  clear hd1 hd2 hr1 hr2 r1 r2 d1 d2 hc1 hc2
  generalize hres : (if deltaCheck (composeGo first second []) old size ≠ 0 then [] else composeGo first second []) = res
  generalize hrz : deltaCheck (composeGo first second []) old size = rz
  have HRES := Lib.hid hres
  have HRZ := Lib.hid hrz
  clear hres hrz
  go_enter Try.func23, Try.ntmps23
  go_wp2_with fail
  refine (HD1.out w (HR1.out _ (Below.refl _ _))).mono ?_
  rintro e w1 ⟨rfl, hb1⟩
  have HB1 := Lib.hid hb1
  clear hb1
  go_wp2_with fail
  refine (HD2.out w1 (HR2.out _ HB1.out)).mono ?_
  rintro e w2 ⟨rfl, hb2⟩
  have HB2 : Hid (Below w.heap.size w w2) := Lib.hid (HB1.out.trans (hb2.mono HB1.out.size))
  clear hb2
  go_wp2_with fail
  go_loopw [14, 34] (fun v i wr => ∃ (k : Nat) (l' : List Stp) (ds' : List (Option Addr × Nat)) (A' : Option Addr) (c' : Nat), k ≤ second.length ∧ i = .int .i64 k ∧ v = .slice A' l'.length c' ∧ Hid (Lim (41 * k) l') ∧ Hid (composeGo first (second.drop k) l' = composeGo first second []) ∧ Hid (CRow wr w.heap.size l' ds' A' c') ∧ Hid (Below w.heap.size w wr)) (fun _ i _ => second.length - (intOf i).toNat)
  case atStart => exact ⟨0, [], [], none, 0, Nat.zero_le _, rfl, rfl, Lib.hid ⟨Nat.le_refl _, fun p hp => by cases hp⟩, Lib.hid rfl, Lib.hid (CRow.nil _ _), HB2⟩
  case round =>
    obtain ⟨k, l', ds', A', c', hk, rfl, rfl, HL, HP, HW, HB⟩ := hrel
    have hsz := HB.out.size
    have hL1 := HL.out.1
    have hsm : ∀ q ∈ l', q.small := fun q hq => by
      obtain ⟨z1, z2, z3, z4⟩ := HL.out.2 q hq
      exact ⟨z1, z2, by omega, by omega⟩
    have HSM := Lib.hid hsm
    clear hsm
    by_cases hlt : k < second.length
    · obtain ⟨b, o, D, dd, rfl, hs, hc0, hc1, hc2, hd1, hd2, hD, hi0, hi1⟩ := (HR2.out _ HB.out).at_ hlt
      have hxc := HC2.out _ (List.getElem_mem hlt)
      have hdrop : second.drop k = second[k] :: second.drop (k + 1) := List.drop_eq_getElem_cons hlt
      have HP2 := HP.out
      rw [hdrop, composeGo_cons] at HP2
      generalize hx : second[k] = x at *
      clear hx hdrop
      obtain ⟨oa, ol, od⟩ := x
      obtain ⟨⟨x1, x2, x3, x4⟩, x5⟩ := hxc
      dsimp only at *
      have HP2 := Lib.hid HP2
      have HD := Lib.hid hD
      clear HP hD
      have hbx : Below w.heap.size w (wr.alloc (.cells #[iv oa, iv ol, .slice D od.length dd] 31)) := HB.out.alloc (by omega) _
      have hbr : Below wr.heap.size wr (wr.alloc (.cells #[iv oa, iv ol, .slice D od.length dd] 31)) := (Below.refl _ _).alloc (Nat.le_refl _) _
      have HBX := Lib.hid hbx
      have HBR := Lib.hid hbr
      clear hbx hbr
      by_cases hol : 0 < ol
      · have HP3 := HP2.out
        rw [if_pos hol] at HP3
        have HP4 := Lib.hid HP3
        clear HP2 HP3 x5
        have HPL := Lib.hid (partGo_lim first oa ol l' (41 * k) HC1.out HL.out)
        go_wp2_with fail
        refine (composePart_calls (base := w.heap.size) (l := l') (ds := ds') (first := first) (m := 41 * k) (by simp; omega) (HW.out.below HBR.out) (fun w' hb => HR1.out _ (HBX.out.trans hb)) (by omega) HC1.out HL.out (by omega) ⟨x1, by omega⟩ ⟨x2, by omega⟩).mono ?_
        rintro e9 w3 ⟨A2, c2, ds2, rfl, hrow2, hb2⟩
        have HW2 := Lib.hid hrow2
        have HBN := Lib.hid (HBX.out.trans hb2)
        clear hrow2 hb2
        go_wp2_with fail
        go_roundw
        case rel =>
          refine ⟨k + 1, partGo first oa ol l', ds2, A2, c2, by omega, by go_num, rfl, ?_, HP4, HW2, HBN⟩
          exact Lib.hid (HPL.out.mono (by omega))
        case measure => simp [intOf]; omega
      · obtain rfl : ol = 0 := by omega
        have HP3 := HP2.out
        rw [if_neg (by omega)] at HP3
        have HP4 := Lib.hid HP3
        clear HP2 HP3 x5
        go_wp2_with fail
        refine (cloneBytes_calls D od.length dd (od.map bv) _ (by simp) (by omega) (HD.out.stays HBR.out).src (bv_one _)).mono ?_
        rintro e9 w2' ⟨A3, c3, rfl, hown, hb3⟩
        have HB3 : Hid (Below wr.heap.size wr w2') := Lib.hid (HBR.out.trans (hb3.mono (by simp)))
        have HO := Lib.hid hown
        clear hown hb3
        go_wp2_with fail
        have hs3 := HB3.out.size
        refine (composeAdd_calls2 (base := w.heap.size) (l := l') (ds := ds') (o := ⟨0, 0, od⟩) (D := A3) (dd := c3) rfl ⟨by omega, HW.out.below HB3.out, HO.out.src.bts, HO.out.le, fun k9 hk9 => ?_, by omega, ⟨by simp, by simp, by simp, by simp; omega⟩, HSM.out⟩).mono ?_
        · have h9 := HO.out.block k9 hk9
          refine ⟨fun e8 => ?_, h9.2⟩
          have := (HW.out.row.block k9 e8).2
          have := h9.1
          simp at this
          omega
        rintro e9 w3 ⟨A2, c2, ds2, rfl, hrow2, hb2⟩
        have HW2 := Lib.hid hrow2
        have HBN := Lib.hid ((HB.out.trans (HB3.out.mono (by omega))).trans hb2)
        clear hrow2 hb2
        go_wp2_with fail
        go_roundw
        case rel =>
          refine ⟨k + 1, addStp l' ⟨0, 0, od⟩, ds2, A2, c2, by omega, by go_num, rfl, ?_, HP4, HW2, HBN⟩
          exact Lib.hid ((lim_add HL.out ⟨by simp, by simp, by simp, x4⟩).mono (by omega))
        case measure => simp [intOf]; omega
    · obtain rfl : k = second.length := by omega
      have HP2 := HP.out
      rw [List.drop_length] at HP2
      have HP3 : Hid (l' = composeGo first second []) := Lib.hid HP2
      have hsps : Sps wr A' l' := HW.out.sps (fun q hq => by
        obtain ⟨z1, z2, z3, z4⟩ := HL.out.2 q hq
        exact ⟨⟨by omega, by omega⟩, ⟨by omega, by omega⟩, by omega⟩)
      have HS := Lib.hid hsps
      have hle := HW.out.row.le
      clear HP2 HP hsps
      have hcalls := deltaCheck_calls A' c' l' old size wr (by omega) HS.out
      by_cases hz : deltaCheck l' old size = 0
      · rw [hz] at hcalls
        have HCC := Lib.hid hcalls
        have HZ := Lib.hid hz
        clear hcalls hz
        go_wp2_with fail
        refine HCC.out.mono ?_
        rintro e9 w3 ⟨rfl, hb3⟩
        have HB3 := Lib.hid hb3
        clear hb3
        go_wp2_with fail
        refine bodyPost_ret (results_tmp2 rfl _ _ _) rfl ⟨A', c', ?_, ?_, ?_, HB.out.trans (HB3.out.mono hsz)⟩
        · rw [← HRES.out, ← HRZ.out, ← HP3.out, HZ.out]; rfl
        · rw [← HRES.out, ← HP3.out, HZ.out]; exact HS.out.stays HB3.out
        · rw [← HRES.out, ← HP3.out, HZ.out]; exact hle
      · have hz2 : (deltaCheck l' old size != 0) = true := by simp [hz]
        have HZ := Lib.hid hz
        clear hz
        generalize hz3 : deltaCheck l' old size = z at *
        have HZ3 := Lib.hid hz3
        clear hz3
        have HCC := Lib.hid hcalls
        clear hcalls
        go_wp2_with fail
        refine HCC.out.mono ?_
        rintro e9 w3 ⟨rfl, hb3⟩
        have HB3 := Lib.hid hb3
        clear hb3
        go_wp2_with fail
        refine bodyPost_ret (results_tmp2 rfl _ _ _) rfl ⟨none, 0, ?_, ?_, ?_, HB.out.trans (HB3.out.mono hsz)⟩
        · rw [← HRES.out, ← HRZ.out, ← HP3.out, HZ3.out, if_pos HZ.out]; rfl
        · rw [← HRES.out, ← HP3.out, HZ3.out, if_pos HZ.out]; exact Sps.nil _ _
        · rw [← HRES.out, ← HP3.out, HZ3.out, if_pos HZ.out]; exact Nat.le_refl _
end Go.Proofs.Ytefkfglkpebbmab
