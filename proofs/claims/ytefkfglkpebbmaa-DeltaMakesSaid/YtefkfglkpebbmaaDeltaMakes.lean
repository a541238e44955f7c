/- The walk of the law DeltaMakes. No conditions. -/
import Derived.Test.YtefkfglkpebbmaaParted
import Derived.Test.YtefkfglkpebbmaaBytesEqual
import Derived.Test.YtefkfglkpebbmaaAux
namespace Go.Proofs.Ytefkfglkpebbmaa
open Go.RowKit
set_option linter.unusedVariables false
set_option linter.unusedSimpArgs false

theorem apart_at : ∀ (l : List Stp) (k : Nat) (h : k + 1 < l.length), apart l → l[k].len = 0 → l[k + 1].len ≠ 0
  | [], _, h, _, _ => by simp at h
  | [_], k, h, _, _ => by simp at h
  | o :: p :: l, 0, _, g, e => g.1 e
  | o :: p :: l, k + 1, h, g, e => apart_at (p :: l) k (by simpa using h) g.2 e
set_option maxRecDepth 100000 in
set_option maxHeartbeats 8000000 in
theorem DeltaMakes_walk (W : World) (v0 v1 : Value) (old0 b0 : List UInt8) (g0 : ArgBytes W v0 old0) (g1 : ArgBytes W v1 b0) :
    Calls Try.prog 13 #[v0, v1] W (RetB W (.bool true)) := by
  obtain ⟨A, c, rfl, hc, hl, hr⟩ := g0
  obtain ⟨B, d, rfl, hd, hm, hs⟩ := g1
  have HI := Lib.hid (lawImage_calls A c old0 W hc hl)
  have HJ := Lib.hid (fun w => lawImage_calls B d b0 w hd hm)
  have r1 := img_bts hr
  have r2 := img_bts hs
  have l1 := img_len old0
  have l2 := img_len b0
  have c1 : (img old0).length ≤ c := by unfold img; rw [List.length_take]; omega
  have c2 : (img b0).length ≤ d := by unfold img; rw [List.length_take]; omega
  clear hr hs hl hm hc hd
  generalize img old0 = old at *
  generalize img b0 = b at *
  have hok := diffed_ok old b l1 l2
  have hch := deltaCheck_ok.2 hok
  have happ := diffed_makes old b
  have hinv := diffed_inv old b
  have hself := diffed_self b
  have K1 : Hid (∀ w, Bts w A old → Bts w B b → Calls Try.prog 46 #[.slice A old.length c, .slice B b.length d] w (OpRet2 w (diffed old b) 0)) := fun w h1 h2 => diff_calls A B c d old b w l1 l2 h1 h2
  have K2 : Hid (∀ D e w, Sps w D (diffed old b) → Calls Try.prog 48 #[.slice D (diffed old b).length e, iv (old.length : Int), iv (b.length : Int)] w (RetB w (iv 0))) := fun D e w h => by
    have := deltaCheck_calls D e (diffed old b) old.length b.length w (by have := hok.many; omega) h
    rwa [hch] at this
  have K3 : Hid (∀ D e w, Bts w A old → Sps w D (diffed old b) → Calls Try.prog 49 #[.slice A old.length c, .slice D (diffed old b).length e, iv (b.length : Int)] w (ByRet2 w b 0)) := fun D e w h1 h2 => by
    have := deltaApply_ok A c old D e (diffed old b) b.length w c1 h1 (by have := hok.many; omega) h2 hch
    rwa [happ] at this
  have K4 : Hid (∀ w, Bts w B b → Calls Try.prog 46 #[.slice B b.length d, .slice B b.length d] w (OpRet2 w (diffed b b) 0)) := fun w h => diff_calls B B d d b b w l2 l2 h h
  have K0 := Lib.hid parted_calls
  have HV := Lib.hid hinv
  have HO := Lib.hid hok
  have HSF := Lib.hid hself
  have R1 := Lib.hid r1
  have R2 := Lib.hid r2
  have many := hok.many
  clear hok hch happ hinv hself r1 r2
  generalize diffed old b = l at *
  generalize diffed b b = m at *
  go_enter Try.func13, Try.ntmps13
  go_wp2_with fail
  refine HI.out.mono ?_
  rintro e w1 ⟨rfl, rfl⟩
  go_wp2_with fail
  refine (HJ.out _).mono ?_
  rintro e w1 ⟨rfl, rfl⟩
  go_wp2_with fail
  refine (K1.out _ R1.out R2.out).mono ?_
  rintro e w1 ⟨L, lc, rfl, hs1, hlc, hb1⟩
  have HS1 := Lib.hid hs1
  have HB1 := Lib.hid hb1
  clear hs1 hb1
  go_wp2_with fail
  refine (K0.out _).mono ?_
  rintro e w2 ⟨rfl, hb2⟩
  have HB2 : Hid (Below W.heap.size W w2) := Lib.hid (HB1.out.trans (hb2.mono HB1.out.size))
  have HS2 := Lib.hid (HS1.out.stays hb2)
  clear hb2
  go_wp2_with fail
  refine (K2.out _ _ _ HS2.out).mono ?_
  rintro e w3 ⟨rfl, hb3⟩
  have HB3 : Hid (Below W.heap.size W w3) := Lib.hid (HB2.out.trans (hb3.mono HB2.out.size))
  have HS3 := Lib.hid (HS2.out.stays hb3)
  clear hb3
  go_wp2_with fail
  refine (K3.out _ _ _ (R1.out.stays HB3.out) HS3.out).mono ?_
  rintro e w4 ⟨D, dc, rfl, hs4, hdc, hb4⟩
  have HB4 : Hid (Below W.heap.size W w4) := Lib.hid (HB3.out.trans (hb4.mono HB3.out.size))
  have HS4 := Lib.hid (HS3.out.stays hb4)
  have HE4 := Lib.hid (bytesEqual_calls D B dc d b b w4 hdc c2 hs4 (R2.out.stays HB4.out))
  clear hb4 hs4
  go_wp2_with fail
  refine HE4.out.mono ?_
  rintro e w5 ⟨rfl, rfl⟩
  go_wp2_with fail
  go_loopw [54] (fun i wr => ∃ k : Nat, k ≤ l.length ∧ i = .int .i64 k ∧ Hid (Below w4.heap.size w4 wr)) (fun i _ => l.length - (intOf i).toNat)
  case atStart => exact ⟨0, Nat.zero_le _, rfl, Lib.hid (Below.refl _ _)⟩
  case round =>
    obtain ⟨k, hk, rfl, HB⟩ := hrel
    have hsz := HB.out.size
    by_cases hlt : k < l.length
    · obtain ⟨bb, bo, E, ec, rfl, hs, p0, p1, p2, p3, p4, -, -, -⟩ := (HS4.out.stays HB.out).at_ hlt
      have heach := HV.out.each _ (List.getElem_mem hlt)
      rcases heach with ⟨e1, e2, e3⟩ | ⟨e1, e2, e3, e4⟩
      · rcases k with _ | k
        · simp only [Nat.zero_mul, Nat.add_zero] at p0 p1 p2
          generalize l[0] = o at *
          obtain ⟨at_, len, data⟩ := o
          dsimp only at *
          subst e1 e2
          clear e3
          go_wp2_with fail
          go_roundw
          case rel => exact ⟨1, by omega, by go_num, Lib.hid (HB.out.alloc hsz _)⟩
          case measure => simp [intOf]; omega
        · obtain ⟨bb2, bo2, E2, ec2, hbe, hs', q0, q1, -, -, -, -, -, -⟩ := (HS4.out.stays HB.out).at_ (i := k) (by omega)
          injection hbe with hbe
          injection hbe with hb1 hb2
          subst hb1 hb2
          have hne : l[k].len ≠ 0 := fun e => apart_at l k hlt HV.out.apart e e1
          have hf : (l[k].len == 0) = false := by simp [hne]
          have hadd : bo + (k + 1) * 3 = bo + k * 3 + 3 := by omega
          generalize l[k + 1] = o at *
          obtain ⟨at_, len, data⟩ := o
          dsimp only at *
          subst e1 e2
          clear e3 hne hadd
          have hk0 : (0 : Int) < (k : Int) + 1 := by omega
          go_wp2_with fail
          go_roundw
          case rel => exact ⟨k + 1 + 1, by omega, by go_num, Lib.hid (HB.out.alloc hsz _)⟩
          case measure => simp [intOf]; omega
      · generalize l[k] = o at *
        obtain ⟨at_, len, data⟩ := o
        dsimp only at *
        subst e4
        have f1 : (0 : Int) < len := by omega
        have f2 : ¬ len < 4 := by omega
        have f3 : (len == 0) = false := by simp; omega
        clear e2 e3
        by_cases hk0 : (0 : Int) < (k : Int)
        · go_wp2_with fail
          go_roundw
          case rel => exact ⟨k + 1, by omega, by go_num, Lib.hid (HB.out.alloc hsz _)⟩
          case measure => simp [intOf]; omega
        · go_wp2_with fail
          go_roundw
          case rel => exact ⟨k + 1, by omega, by go_num, Lib.hid (HB.out.alloc hsz _)⟩
          case measure => simp [intOf]; omega
    · have HBr : Hid (Below W.heap.size W wr) := Lib.hid (HB4.out.trans (HB.out.mono HB4.out.size))
      go_wp2_with fail
      refine (K4.out _ (R2.out.stays HBr.out)).mono ?_
      rintro e w5 ⟨M, mc, rfl, hs5, hmc, hb5⟩
      have HB5 : Hid (Below W.heap.size W w5) := Lib.hid (HBr.out.trans (hb5.mono HBr.out.size))
      have HS5 := Lib.hid hs5
      clear hb5 hs5
      by_cases h4 : 4 ≤ b.length
      · have hm := HSF.out h4
        have h4' : ¬ (b.length : Int) < 4 := by omega
        subst hm
        obtain ⟨b6, o6, E6, c6, rfl, hs6, t0, t1, -⟩ := HS5.out.at_ (i := 0) (by simp)
        simp only [List.getElem_cons_zero, List.length_cons, List.length_nil, Nat.zero_mul, Nat.add_zero, Nat.zero_add] at *
        go_wp2_with fail
        go_ret
        exact ⟨rfl, HB5.out⟩
      · have h4' : (b.length : Int) < 4 := by omega
        go_wp2_with fail
        go_ret
        exact ⟨rfl, HB5.out⟩
end Go.Proofs.Ytefkfglkpebbmaa
