/- The walk of the law DeltaParts. No conditions. -/
import Derived.Test.YtefkfglkpebbmabParted
import Derived.Test.YtefkfglkpebbmabBytesEqual
import Derived.Test.YtefkfglkpebbmabAux
namespace Go.Proofs.Ytefkfglkpebbmab
open Go.RowKit
set_option linter.unusedVariables false
set_option linter.unusedSimpArgs false

theorem made_take {l : List Stp} {k : Nat} (hk : k < l.length) : made (l.take (k + 1)) = made (l.take k) + (l[k].len + l[k].data.length) := by
  rw [List.take_succ_eq_append_getElem hk, made_append, made_cons, made_nil]
  unfold Stp.n
  omega
set_option maxRecDepth 100000 in
set_option maxHeartbeats 4000000 in
theorem parts_bad (A : Option Addr) (c : Nat) (old0 : List UInt8) (B : Option Addr) (d : Nat) (l : List Stp) (size k0 : Int) (W : World) (hc : old0.length ≤ c) (hl : old0.length ≤ 140737488351232) (hm : l.length ≤ 140737488351232) (hr : Bts W A old0) (hs : Sps W B l) (h : deltaCheck l (img old0).length size ≠ 0) :
    Calls Try.prog 3 #[.slice A old0.length c, .slice B l.length d, iv size, iv k0] W (RetB W (.bool true)) := by
  have HI := Lib.hid (lawImage_calls A c old0 W hc hl)
  have l1 := img_len old0
  have H1 := Lib.hid (fun w (hs : Sps w B l) => deltaApply_bad A c (img old0) B d l size w (by omega) hm hs h)
  have hb : (deltaCheck l (img old0).length size != 0) = true := by simp [h]
  have K0 := Lib.hid parted_calls
  clear h hl hc hr
  go_enter Try.func3, Try.ntmps3
  go_wp2_with fail
  refine HI.out.mono ?_
  rintro e w1 ⟨rfl, rfl⟩
  go_wp2_with fail
  refine (H1.out _ hs).mono ?_
  rintro e w1 ⟨rfl, hb1⟩
  have HB1 := Lib.hid hb1
  clear hb1
  go_wp2_with fail
  refine (K0.out _).mono ?_
  rintro e w2 ⟨rfl, hb2⟩
  have HB2 : Hid (Below W.heap.size W w2) := Lib.hid (HB1.out.trans (hb2.mono HB1.out.size))
  clear hb2
  go_wp2_with fail
  refine (K0.out _).mono ?_
  rintro e w3 ⟨rfl, hb3⟩
  have HB3 : Hid (Below W.heap.size W w3) := Lib.hid (HB2.out.trans (hb3.mono HB2.out.size))
  clear hb3
  go_wp2_with fail
  go_ret
  exact ⟨rfl, HB3.out⟩
set_option maxRecDepth 100000 in
set_option maxHeartbeats 8000000 in
theorem parts_ok (A : Option Addr) (c : Nat) (old0 : List UInt8) (B : Option Addr) (d : Nat) (l : List Stp) (size k0 : Int) (W : World) (hc : old0.length ≤ c) (hl : old0.length ≤ 140737488351232) (hm : l.length ≤ 140737488351232) (hmd : l.length ≤ d) (hk1 : -9223372036854775808 ≤ k0) (hk2 : k0 ≤ 9223372036854775807) (hr : Bts W A old0) (hs : Sps W B l) (h : deltaCheck l (img old0).length size = 0) :
    Calls Try.prog 3 #[.slice A old0.length c, .slice B l.length d, iv size, iv k0] W (RetB W (.bool true)) := by
  have HI := Lib.hid (lawImage_calls A c old0 W hc hl)
  have l1 := img_len old0
  have r1 := img_bts hr
  have c1 : (img old0).length ≤ c := by unfold img; rw [List.length_take]; omega
  clear hr hl hc
  generalize img old0 = old at *
  obtain ⟨k, hk⟩ : ∃ k : Nat, k0 % ((l.length : Int) + 1) = k := ⟨(k0 % ((l.length : Int) + 1)).toNat, by have := Int.emod_nonneg k0 (show (l.length : Int) + 1 ≠ 0 by omega); omega⟩
  have hkl : k ≤ l.length := by have := Int.emod_lt_of_pos k0 (show 0 < (l.length : Int) + 1 by omega); omega
  have a1 := fun w => at_calls k0 ((l.length : Int) + 1) w hk1 hk2 (by omega) (by omega)
  rw [hk] at a1
  have hok := deltaCheck_ok.1 h
  obtain ⟨t1, t2, t3, t4⟩ := hok.take k
  have many := hok.many
  have hs0 := hok.s0
  have hs1 := hok.s1
  have happ : applied old (l.take k) ++ applied old (l.drop k) = applied old l := by rw [← applied_append, List.take_append_drop]
  have hbd : ∀ j, 0 ≤ made (l.take j) ∧ made (l.take j) ≤ 64 := fun j => by
    have := hok.take j
    exact ⟨this.2.2.1, by have := this.2.2.2; omega⟩
  have hlt : (l.take k).length = k := by rw [List.length_take]; omega
  have hld : (l.drop k).length = l.length - k := by rw [List.length_drop]
  have K1 := Lib.hid (fun w (h1 : Bts w A old) (h2 : Sps w B l) => deltaApply_ok A c old B d l size w c1 h1 hm h2 h)
  have K2 : Hid (∀ w, Bts w A old → Sps w B l → Calls Try.prog 15 #[.slice A old.length c, .slice B k d, iv (made (l.take k))] w (ByRet2 w (applied old (l.take k)) 0)) := fun w h1 h2 => by
    have := deltaApply_ok A c old B d (l.take k) (made (l.take k)) w c1 h1 (by rw [hlt]; omega) (Elems.take h2 k) (deltaCheck_ok.2 t1)
    rwa [hlt] at this
  have K3 : Hid (∀ D e w, Bts w A old → Sps w D (l.drop k) → Calls Try.prog 15 #[.slice A old.length c, .slice D (l.length - k) e, iv (size - made (l.take k))] w (ByRet2 w (applied old (l.drop k)) 0)) := fun D e w h1 h2 => by
    have := deltaApply_ok A c old D e (l.drop k) (size - made (l.take k)) w c1 h1 (by rw [hld]; omega) h2 (deltaCheck_ok.2 t2)
    rwa [hld] at this
  have K0 := Lib.hid parted_calls
  have HA := Lib.hid a1
  have HP := Lib.hid happ
  have HB := Lib.hid hbd
  have R1 := Lib.hid r1
  have HS := Lib.hid hs
  have hlen1 : (applied old (l.take k)).length ≤ 64 := by
    have := applied_len (old := old) (l := l.take k) (fun o ho => (hok.each o (List.mem_of_mem_take ho)).2)
    omega
  have hlen2 : (applied old (l.drop k)).length ≤ 64 := by
    have := applied_len (old := old) (l := l.drop k) (fun o ho => (hok.each o (List.mem_of_mem_drop ho)).2)
    have := t2.sum
    omega
  have HE : Hid (∀ o ∈ l, 0 ≤ o.len ∧ o.len ≤ 64 ∧ o.data.length ≤ 64) := Lib.hid fun o ho => by
    have h2 := (hok.each o ho).2
    have h1 := (hok.each o ho).1
    unfold Stp.in_ at h2
    unfold Stp.form at h1
    refine ⟨h2.1, by omega, ?_⟩
    by_cases e : o.len = 0
    · exact (h1.1 e).2.2
    · rw [h1.2 e]; simp
  clear hk a1 hok t1 t2 happ hbd hlt hld r1 hs h
  go_enter Try.func3, Try.ntmps3
  go_wp2_with fail
  refine HI.out.mono ?_
  rintro e w1 ⟨rfl, rfl⟩
  go_wp2_with fail
  refine (K1.out _ R1.out HS.out).mono ?_
  rintro e w1 ⟨D1, d1, rfl, hs1', hd1, hb1⟩
  have HS1 := Lib.hid hs1'
  have HB1 := Lib.hid hb1
  clear hs1' hb1
  go_wp2_with fail
  refine (K0.out _).mono ?_
  rintro e w2 ⟨rfl, hb2⟩
  have HB2 : Hid (Below W.heap.size W w2) := Lib.hid (HB1.out.trans (hb2.mono HB1.out.size))
  have HS2 := Lib.hid (HS1.out.stays hb2)
  clear hb2
  go_wp2_with fail
  refine (HA.out _).mono ?_
  rintro e w3 ⟨rfl, rfl⟩
  go_wp2_with fail
  go_loopw [11, 42] (fun z i wr => ∃ j : Nat, j ≤ k ∧ i = .int .i64 j ∧ z = .int .i64 (made (l.take j)) ∧ Hid (Below w2.heap.size w2 wr)) (fun _ i _ => k - (intOf i).toNat)
  case atStart => exact ⟨0, Nat.zero_le _, rfl, by simp [made_nil], Lib.hid (Below.refl _ _)⟩
  case round =>
    obtain ⟨j, hj, rfl, rfl, HBr⟩ := hrel
    have hsz := HBr.out.size
    have hbj := HB.out j
    obtain ⟨hbj1, hbj2⟩ := hbj
    by_cases hlt : j < k
    · have hjl : j < l.length := by omega
      obtain ⟨bb, bo, E, ec, rfl, hsx, p0, p1, p2, p3, p4, -, -, -⟩ := (HS.out.stays (HB2.out.trans (HBr.out.mono HB2.out.size))).at_ hjl
      have hmt := made_take hjl
      obtain ⟨e1, e2, e3⟩ := HE.out _ (List.getElem_mem hjl)
      have HM := Lib.hid hmt
      clear hmt
      generalize l[j] = o at *
      generalize hmj : made (l.take j) = mj at *
      go_wp2_with fail
      go_roundw
      case rel => exact ⟨j + 1, by omega, by go_num, by rw [HM.out], Lib.hid (HBr.out.alloc hsz _)⟩
      case measure => simp [intOf]; omega
    · obtain rfl : j = k := by omega
      have HB3 : Hid (Below W.heap.size W wr) := Lib.hid (HB2.out.trans (HBr.out.mono HB2.out.size))
      go_wp2_with fail
      refine (K2.out _ (R1.out.stays HB3.out) (HS.out.stays HB3.out)).mono ?_
      rintro e w4 ⟨D4, d4, rfl, hs4, hd4, hb4⟩
      have HS4 := Lib.hid hs4
      have HB4 : Hid (Below W.heap.size W w4) := Lib.hid (HB3.out.trans (hb4.mono HB3.out.size))
      have HT4 := Lib.hid ((HS2.out.stays HBr.out).stays hb4)
      clear hs4 hb4
      by_cases hdj : d = j
      · have hnil : l.drop j = [] := List.drop_eq_nil_of_le (by omega)
        have HN := Lib.hid hnil
        clear hnil
        go_wp2_with fail
        refine (K3.out _ _ _ (R1.out.stays HB4.out) (by rw [HN.out]; exact Sps.nil _ _)).mono ?_
        rintro e w5 ⟨D5, d5, rfl, hs5, hd5, hb5⟩
        have HS5 := Lib.hid hs5
        have HB5 : Hid (Below W.heap.size W w5) := Lib.hid (HB4.out.trans (hb5.mono HB4.out.size))
        have HT5 := Lib.hid (HT4.out.stays hb5)
        have HQ5 := Lib.hid (HS4.out.stays hb5)
        have hz5 := HB5.out.size
        clear hs5 hb5
        go_wp2_with fail
        have hb6 := (Below.refl w5.heap.size w5).alloc (Nat.le_refl _) (.cells #[.slice D4 (applied old (l.take j)).length d4, .slice D5 (applied old (l.drop j)).length d5] 22)
        refine (concat2_calls (a := applied old (l.take j)) (b := applied old (l.drop j)) (blk_top rfl) (by omega) (HQ5.out.stays hb6) (HS5.out.stays hb6)).mono ?_
        rintro e w6 ⟨D6, d6, rfl, hown, hb7⟩
        have HO := Lib.hid hown
        have HB6 : Hid (Below W.heap.size W w6) := Lib.hid ((HB5.out.trans (hb6.mono hz5)).trans (hb7.mono (by simp; omega)))
        have HT6 := Lib.hid ((HT5.out.stays hb6).stays hb7)
        clear hown hb6 hb7
        rw [HP.out] at HO ⊢
        go_wp2_with fail
        refine (bytesEqual_calls D6 D1 d6 d1 (applied old l) (applied old l) w6 HO.out.le hd1 HO.out.src.bts HT6.out).mono ?_
        rintro e w7 ⟨rfl, rfl⟩
        go_wp2_with fail
        go_ret
        exact ⟨rfl, HB6.out⟩
      · have hsp : Sps w4 (Option.map (fun x => x.add (j * 3)) B) (l.drop j) := by
          rcases Nat.lt_or_ge j l.length with h | h
          · obtain ⟨bb, bo, rfl, -⟩ := (HS.out.stays HB4.out) j h
            have e2 : Option.map (fun x : Addr => x.add (j * 3)) (some ⟨bb, bo, none⟩) = some ⟨bb, bo + j * 3, none⟩ := by simp [Addr.add]
            rw [e2]
            exact (HS.out.stays HB4.out).drop j
          · rw [List.drop_eq_nil_of_le (by omega)]; exact Sps.nil _ _
        have HSP := Lib.hid hsp
        clear hsp
        go_wp2_with fail
        refine (K3.out _ _ _ (R1.out.stays HB4.out) (HSP.out)).mono ?_
        rintro e w5 ⟨D5, d5, rfl, hs5, hd5, hb5⟩
        have HS5 := Lib.hid hs5
        have HB5 : Hid (Below W.heap.size W w5) := Lib.hid (HB4.out.trans (hb5.mono HB4.out.size))
        have HT5 := Lib.hid (HT4.out.stays hb5)
        have HQ5 := Lib.hid (HS4.out.stays hb5)
        have hz5 := HB5.out.size
        clear hs5 hb5
        go_wp2_with fail
        have hb6 := (Below.refl w5.heap.size w5).alloc (Nat.le_refl _) (.cells #[.slice D4 (applied old (l.take j)).length d4, .slice D5 (applied old (l.drop j)).length d5] 22)
        refine (concat2_calls (a := applied old (l.take j)) (b := applied old (l.drop j)) (blk_top rfl) (by omega) (HQ5.out.stays hb6) (HS5.out.stays hb6)).mono ?_
        rintro e w6 ⟨D6, d6, rfl, hown, hb7⟩
        have HO := Lib.hid hown
        have HB6 : Hid (Below W.heap.size W w6) := Lib.hid ((HB5.out.trans (hb6.mono hz5)).trans (hb7.mono (by simp; omega)))
        have HT6 := Lib.hid ((HT5.out.stays hb6).stays hb7)
        clear hown hb6 hb7
        rw [HP.out] at HO ⊢
        go_wp2_with fail
        refine (bytesEqual_calls D6 D1 d6 d1 (applied old l) (applied old l) w6 HO.out.le hd1 HO.out.src.bts HT6.out).mono ?_
        rintro e w7 ⟨rfl, rfl⟩
        go_wp2_with fail
        go_ret
        exact ⟨rfl, HB6.out⟩
theorem DeltaParts_walk (W : World) (v0 v1 v2 v3 : Value) (old0 : List UInt8) (l : List Stp) (size k0 : Int) (g0 : ArgBytes W v0 old0) (g1 : ArgOps W v1 l) (g2 : ArgInt v2 size) (g3 : ArgInt v3 k0) :
    Calls Try.prog 3 #[v0, v1, v2, v3] W (RetB W (.bool true)) := by
  obtain ⟨A, c, rfl, hc, hl, hr⟩ := g0
  obtain ⟨B, d, rfl, hd, hm, hs⟩ := g1
  obtain ⟨rfl, -, -⟩ := g2
  obtain ⟨rfl, hk1, hk2⟩ := g3
  by_cases h : deltaCheck l (img old0).length size = 0
  · exact parts_ok A c old0 B d l size k0 W hc hl hm hd hk1 hk2 hr hs h
  · exact parts_bad A c old0 B d l size k0 W hc hl hm hr hs h
end Go.Proofs.Ytefkfglkpebbmab
