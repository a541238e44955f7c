/- Walks of functions, and plain words. No conditions. -/
import Derived.Test.YtefkfglkpebbmacPE3
import Derived.Test.YtefkfglkpebbmacP8
set_option linter.unusedVariables false
set_option linter.unusedSimpArgs false
set_option maxRecDepth 100000
set_option maxHeartbeats 40000000
namespace Go.Proofs.Ytefkfglkpebbmac
open Go.RowKit
theorem plainTo_step {l : List UInt8} {k : Nat} (h : k < l.length) (h7 : k < 127) (h3 : alike (l.drop k) < 3) : plainTo l.length l k = plainTo l.length l (k + 1) := by
 obtain ⟨f, hf⟩ : ∃ f, l.length = f + 1 := ⟨l.length - 1, by omega⟩
 have e : plainTo l.length l k = plainTo f l (k + 1) := by
  rw [hf]
  conv => lhs; unfold plainTo
  rw [if_pos ⟨by omega, h7, h3⟩]
 rw [e]
 exact plainTo_fuel f l.length l (k + 1) (by omega) (by omega)
theorem plainTo_stop {l : List UInt8} {k : Nat} (h : ¬ (k < l.length ∧ k < 127 ∧ alike (l.drop k) < 3)) : plainTo l.length l k = k := by
 cases hl : l.length with
 | zero => rfl
 | succ f => unfold plainTo; rw [if_neg h]
theorem packAt_one {x : UInt8} {r : List UInt8} (h3 : ¬ 3 ≤ alike (x :: r)) : packAt (x :: r) [] = UInt8.ofNat (plainTo (x :: r).length (x :: r) 1) :: ((x :: r).take (plainTo (x :: r).length (x :: r) 1) ++ packAt ((x :: r).drop (plainTo (x :: r).length (x :: r) 1)) []) := by
 rw [packAt_byte h3 (by simp)]
 have := packAt_plain (x :: r).length (x :: r) 1 (by simp) (by omega) (by simp) (by omega)
 simpa using this
theorem refPacked_calls (Ab : Option Addr) (cb : Nat) (b : List UInt8) (w : World) (hc : b.length ≤ cb) (hl : b.length ≤ 1048576) (hB : Bts w Ab b) :
  Calls Try.prog 111 #[.slice Ab b.length cb] w (BtRet w (packed b)) := by
 have hpl := packed_len b
 have HPL : Hid (∀ (out r : List UInt8), out ++ packAt r [] = packed b → out.length ≤ 67108000) := hD (fun out r e => by have := congrArg List.length e; simp at this; omega)
 have HB0 := hD hB
 have HBB : Hid (Below w.heap.size w w) := hD (Below.refl _ _)
 have HO0 : Hid (Own w w.heap.size 5 1 none 0 0 (([] : List UInt8).map bv)) := hD (Own.nil_ _ _ _ _)
 clear hB hpl
 go_enter Try.func111, Try.ntmps111
 go_wp2_with fail
 generalize hbase : w.heap.size = base at *
 have HBE := hD hbase
 clear hbase
 go_loopg [0, 3] b.length (fun g y o wr => ∃ (l out : List UInt8) (A B : Option Addr) (c d : Nat), y = .slice A l.length c ∧ o = .slice B out.length d ∧ l.length ≤ c ∧ l.length ≤ g ∧ l.length ≤ 1048576 ∧ Hid (out ++ packAt l [] = packed b) ∧ Hid (Bts w A l) ∧ Hid (Own wr base 5 1 B out.length d (out.map bv)) ∧ Hid (Below base w wr))
 case atStart => exact ⟨b, [], Ab, none, cb, 0, rfl, rfl, hc, Nat.le_refl _, hl, hD rfl, HB0, HO0, HBB⟩
 case round =>
  clear HB0 HO0 HBB
  rename World => wo
  obtain ⟨l, out, A, B, c, d, rfl, rfl, hlc, hlg, hll, HE, HBt, HO, HB⟩ := hrel
  rcases l with _ | ⟨x, r⟩
  ·have hz : out = packed b := by rw [← HE.out, packAt_nil]; simp [flushed]
   have HZ := hD hz
   simp only [List.length_nil, Int.ofNat_eq_natCast, Int.natCast_zero] at *
   clear hz
   go_wp2_with fail
   go_ret
   exact ⟨B, d, by rw [← HZ.out]; rfl, by rw [← HZ.out]; exact HBE.out ▸ HO.out, HBE.out ▸ HB.out⟩
  ·obtain ⟨ln, hln⟩ : ∃ ln, (x :: r).length = ln := ⟨_, rfl⟩
   have hln0 : 0 < ln := by rw [← hln]; simp
   have HBW : Hid (∀ w1, Below base w w1 → Bts w1 A (x :: r)) := hD (fun w1 h => HBt.out.stays (HBE.out ▸ h))
   have hab := (HBW.out wo HB.out) 0 (by simp)
   obtain ⟨ab, ao, rfl, hab, hx⟩ := hab
   simp only [Nat.add_zero, List.getElem_cons_zero] at hx
   have hal := alike_le (x :: r)
   have hK : 1 ≤ plainTo (x :: r).length (x :: r) 1 ∧ plainTo (x :: r).length (x :: r) 1 ≤ (x :: r).length ∧ plainTo (x :: r).length (x :: r) 1 ≤ 127 := by
    have h1 := plainTo_ge (x :: r).length (x :: r) 1
    have h2 := plainTo_le (x :: r).length (x :: r) 1 (by simp) (by omega)
    exact ⟨h1, h2⟩
   have HCA : Hid (∀ (w1 : World) (A1 : Option Addr) (c1 : Nat) (l1 : List UInt8), 0 < l1.length → l1.length ≤ c1 → l1.length ≤ ln → Bts w1 A1 l1 → Calls Try.prog 147 #[.slice A1 l1.length c1] w1 (RetN w1 (iv (alike l1 : Nat)))) := hD (fun w1 A1 c1 l1 h0 h1 h2 h3 => refAlike_calls A1 c1 l1 w1 h0 h1 (by omega) h3)
   have hb1 := HBW.out wo HB.out
   have hca0 := HCA.out wo _ c (x :: r) (by simp) hlc (Nat.le_of_eq hln) hb1
   rw [hln] at hlc hlg hll hal hK hca0 ⊢
   clear hb1
   have HCA0 := hD hca0
   clear hca0
   have HLN := hD hln
   clear hln
   obtain ⟨n, hn⟩ : ∃ n, alike (x :: r) = n := ⟨_, rfl⟩
   obtain ⟨K, hKe⟩ : ∃ K, plainTo ln (x :: r) 1 = K := ⟨_, rfl⟩
   rw [hn] at hal HCA0
   rw [hKe] at hK
   have HNE := hD hn
   have HKE := hD hKe
   clear hn hKe
   obtain ⟨hal1, hal2⟩ := hal
   obtain ⟨hK1, hK2, hK3⟩ := hK
   have dl : decide ((0 : Int) < (ln : Int)) = true := decide_eq_true (by omega)
   go_wp2_with fail
   refine HCA0.out.mono ?_
   rintro e w1 ⟨rfl, nd, rfl⟩
   have HBd : Hid (Below base w (wo.drewN nd)) := hD (Below.drewN' HB.out nd)
   have HOd := hD (HO.out.drewN nd)
   have hxd : (wo.drewN nd).cell? ⟨ab, ao, none⟩ = some (bv x) := hx
   have hsd : base ≤ (wo.drewN nd).heap.size := Nat.le_trans (Nat.le_of_eq HBE.out.symm) HBd.out.size
   have habd : ab < (wo.drewN nd).heap.size := hab
   clear HB HO hx hab HCA0
   generalize wo.drewN nd = w1 at *
   by_cases h3 : 3 ≤ n
   ·have hrun := packAt_run (x := x) (r := r) (plain := []) (by rw [HNE.out]; exact h3)
    rw [HNE.out] at hrun
    have hE2 : (out ++ [UInt8.ofNat (128 + n), x]) ++ packAt ((x :: r).drop n) [] = packed b := by
     rw [← HE.out, hrun]; simp [flushed]
    have ho1 : out.length ≤ 67108000 := by have := HPL.out _ _ hE2; simp at this; omega
    have HE2 := hD hE2
    clear hE2 hrun HE
    have d3 : decide ((3 : Int) ≤ (n : Int)) = true := decide_eq_true (by omega)
    have HBV : Hid (bv (UInt8.ofNat (128 + n)) = .int .u8 (128 + (n : Int))) := hD (by unfold bv; rw [ofNat_toNat _ (by omega)]; simp)
    have hw1 : IntKind.i64.wrap (128 + (n : Int)) = 128 + (n : Int) := IntWalk.i64_in _ (by omega)
    have hw2 : IntKind.u8.wrap (128 + (n : Int)) = 128 + (n : Int) := by unfold IntKind.wrap; simp [IntKind.signed, IntKind.bits]; omega
    have j1 : (n : Int) ≤ (ln : Int) := by omega
    have HOA := hD (HOd.out.alloc (.cells #[bv (UInt8.ofNat (128 + n)), bv x] 5))
    rw [HBV.out] at HOA
    have hs1 : Src (w1.alloc (.cells #[.int .u8 (128 + (n : Int)), bv x] 5)) (some ⟨w1.heap.size, 0, none⟩) [.int .u8 (128 + (n : Int)), bv x] := src_blk (blk_top rfl)
    have hob1 : out.length + 2 ≤ 1073741824 := by omega
    have hle : base ≤ (w1.alloc (.cells #[.int .u8 (128 + (n : Int)), bv x] 5)).heap.size := by simp; omega
    have hoa := HOA.out
    go_wp2_with (at_builtin; go_must (refine wpList_app (w1.alloc (.cells #[.int .u8 (128 + (n : Int)), bv x] 5)) rfl _ _ 22 rfl elBytes base B out.length d (out.map bv) rfl hoa (some ⟨w1.heap.size, 0, none⟩) 2 2 [.int .u8 (128 + (n : Int)), bv x] rfl hs1 rfl (by simp [Value.oneCell']) hob1 hle ?_; intro A' c' w2 hown hgr hbel hor))
    all_goals (
     have HB2 : Hid (Below base w w2) := hD ((HBd.out.alloc hsd _).trans hbel)
     have HO2 : Hid (Own w2 base 5 1 A' (out ++ [UInt8.ofNat (128 + n), x]).length c' ((out ++ [UInt8.ofNat (128 + n), x]).map bv)) := hD (by rw [List.map_append, List.length_append]; show Own _ _ _ _ _ _ _ (_ ++ [bv _, bv x]); rw [HBV.out]; exact hown)
     have HLD : Hid (ln - n = ((x :: r).drop n).length) := hD (by rw [List.length_drop, HLN.out])
     have HLO : Hid (out.length + 2 = (out ++ [UInt8.ofNat (128 + n), x]).length) := hD (by rw [List.length_append]; rfl)
     clear hown hgr hbel hor hs1 hle hob1 hoa
     go_roundg (ln - n)
     case measure => omega
     case rel => first
      | (have h9 : ¬ c = n := by assumption
         exact ⟨(x :: r).drop n, out ++ [UInt8.ofNat (128 + n), x], some ⟨ab, ao + n, none⟩, A', c - n, c', by rw [HLD.out], by rw [HLO.out], by rw [← HLD.out]; omega, Nat.le_of_eq HLD.out.symm, by rw [← HLD.out]; omega, HE2, hD (mid_at HBt.out n), HO2, HB2⟩)
      | exact ⟨(x :: r).drop n, out ++ [UInt8.ofNat (128 + n), x], some ⟨ab, ao, none⟩, A', 0, c', by rw [HLD.out], by rw [HLO.out], by rw [← HLD.out]; omega, Nat.le_of_eq HLD.out.symm, by rw [← HLD.out]; omega, HE2, hD (by rw [List.eq_nil_of_length_eq_zero (show ((x :: r).drop n).length = 0 by rw [← HLD.out]; omega)]; exact Bts.nil _ _), HO2, HB2⟩)
   ·have hone := packAt_one (x := x) (r := r) (by rw [HNE.out]; exact h3)
    rw [HLN.out, HKE.out] at hone
    have hE2 : (out ++ [UInt8.ofNat K] ++ (x :: r).take K) ++ packAt ((x :: r).drop K) [] = packed b := by
     rw [← HE.out, hone]; simp
    have ho1 : out.length ≤ 67108000 := by have := HPL.out _ _ hE2; simp at this; omega
    have HE2 := hD hE2
    clear hE2 hone HE
    have d3 : decide ((3 : Int) ≤ (n : Int)) = false := decide_eq_false (by omega)
    have HBV : Hid (bv (UInt8.ofNat K) = .int .u8 (K : Int)) := hD (by unfold bv; rw [ofNat_toNat _ (by omega)])
    have HOX : Hid (∀ nd, Own (w1.drewN nd) base 5 1 B out.length d (out.map bv) ∧ Below base w (w1.drewN nd)) := hD (fun nd => ⟨HOd.out.drewN nd, Below.drewN' HBd.out nd⟩)
    go_wp2_with fail
    go_loopw [5] (fun y wr => ∃ (k nd : Nat), y = .int .i64 (k : Int) ∧ 1 ≤ k ∧ k ≤ K ∧ Hid (plainTo ln (x :: r) k = K) ∧ w1.drewN nd = wr) (fun y _ => K - (intOf y).toNat)
    case atStart => exact ⟨1, 0, rfl, by omega, hK1, HKE, rfl⟩
    case round =>
     obtain ⟨k, nd, rfl, hk1, hk2, HPK, rfl⟩ := hrel
     by_cases hcond : k < ln ∧ k < 127 ∧ alike ((x :: r).drop k) < 3
     ·obtain ⟨e1, e2, e3⟩ := hcond
      have hst := plainTo_step (l := x :: r) (k := k) (by rw [HLN.out]; exact e1) e2 e3
      rw [HLN.out, HPK.out] at hst
      have hge := plainTo_ge ln (x :: r) (k + 1)
      rw [← hst] at hge
      have HST := hD hst
      have hcal := HCA.out (w1.drewN nd) (some ⟨ab, ao + k, none⟩) (c - k) ((x :: r).drop k) (by rw [List.length_drop, HLN.out]; omega) (by rw [List.length_drop, HLN.out]; omega) (by rw [List.length_drop, HLN.out]; omega) (mid_at (HBW.out _ (HOX.out nd).2) k)
      rw [List.length_drop, HLN.out] at hcal
      have HCAL := hD hcal
      clear hst hcal HPK
      generalize alike ((x :: r).drop k) = m at *
      have d1 : k < ln := e1
      have d2 : decide ((k : Int) < 127) = true := decide_eq_true (by omega)
      have d4 : decide ((m : Int) < 3) = true := decide_eq_true (by omega)
      have hck : ¬ c = k := by omega
      have j1 : (k : Int) ≤ (ln : Int) := by omega
      have hw1 : IntKind.i64.wrap ((k : Int) + 1) = (k : Int) + 1 := IntWalk.i64_in _ (by omega)
      go_wp2_with fail
      refine HCAL.out.mono ?_
      rintro e w2 ⟨rfl, n2, rfl⟩
      go_wp2_with fail
      go_roundw
      case rel => exact ⟨k + 1, nd + n2, by go_num, by omega, by omega, hD HST.out.symm, by rw [← World.drewN_drewN]⟩
      case measure => simp [intOf]; omega
     ·have hst := plainTo_stop (l := x :: r) (k := k) (by rw [HLN.out]; exact hcond)
      rw [HLN.out, HPK.out] at hst
      subst hst
      have hu8 : IntKind.u8.wrap (K : Int) = (K : Int) := by unfold IntKind.wrap; simp [IntKind.signed, IntKind.bits]; omega
      have hob1 : out.length + 1 ≤ 1073741824 := by omega
      have hob2 : out.length + 1 + K ≤ 1073741824 := by omega
      have hls : (((x :: r).take K).map bv).length = K * 1 := by have := HLN.out; simp at this ⊢; omega
      have jK : (K : Int) ≤ (ln : Int) := by omega
      have jC : (K : Int) ≤ (c : Int) := by omega
      clear HPK
      by_cases e1 : K < ln
      ·by_cases e2 : K < 127
       ·have e3 : ¬ alike ((x :: r).drop K) < 3 := fun e => hcond ⟨e1, e2, e⟩
        have hcal := HCA.out (w1.drewN nd) (some ⟨ab, ao + K, none⟩) (c - K) ((x :: r).drop K) (by rw [List.length_drop, HLN.out]; omega) (by rw [List.length_drop, HLN.out]; omega) (by rw [List.length_drop, HLN.out]; omega) (mid_at (HBW.out _ (HOX.out nd).2) K)
        rw [List.length_drop, HLN.out] at hcal
        have HCAL := hD hcal
        clear hcal hcond
        generalize alike ((x :: r).drop K) = m at *
        have d2 : decide ((K : Int) < 127) = true := decide_eq_true (by omega)
        have d4 : decide ((m : Int) < 3) = false := decide_eq_false (by omega)
        have hck : ¬ c = K := by omega
        go_wp2_with fail
        refine HCAL.out.mono ?_
        rintro e w2 ⟨rfl, n2, rfl⟩
        simp only [World.drewN_drewN]
        obtain ⟨hox, hbx⟩ := HOX.out (nd + n2)
        have hsx : base ≤ (w1.drewN (nd + n2)).heap.size := Nat.le_trans (Nat.le_of_eq HBE.out.symm) hbx.size
        have hox1 := hox.alloc (.cells #[.int .u8 (K : Int)] 5)
        have hs1 : Src ((w1.drewN (nd + n2)).alloc (.cells #[.int .u8 (K : Int)] 5)) (some ⟨(w1.drewN (nd + n2)).heap.size, 0, none⟩) [.int .u8 (K : Int)] := src_blk (blk_top rfl)
        have hle : base ≤ ((w1.drewN (nd + n2)).alloc (.cells #[.int .u8 (K : Int)] 5)).heap.size := by simp at hsx ⊢; omega
        go_wp2_with (at_builtin; first
         | (refine wpList_app ((w1.drewN (nd + n2)).alloc (.cells #[.int .u8 (K : Int)] 5)) rfl _ _ 22 rfl elBytes base B out.length d (out.map bv) rfl hox1 (some ⟨(w1.drewN (nd + n2)).heap.size, 0, none⟩) 1 1 [.int .u8 (K : Int)] rfl hs1 rfl (by simp [Value.oneCell']) hob1 hle ?_; intro A1 c1 w2 hown1 hgr1 hbel1 hor1)
         | go_must (refine wpList_app w2 rfl _ _ 22 rfl elBytes base A1 (out.length + 1) c1 (out.map bv ++ [.int .u8 (K : Int)]) rfl hown1 (some ⟨ab, ao, none⟩) K c (((x :: r).take K).map bv) rfl ((mid_take (HBW.out w2 ((hbx.alloc hsx _).trans hbel1)) K).src) hls (bv_one _) hob2 (Nat.le_trans hle hbel1.size) ?_; intro A' c' w3 hown hgr hbel hor))
        all_goals (
         have HB3 : Hid (Below base w w3) := hD (((hbx.alloc hsx _).trans hbel1).trans hbel)
         have HLO : Hid (out.length + 1 + K = (out ++ [UInt8.ofNat K] ++ (x :: r).take K).length) := hD (by have := HLN.out; simp at this ⊢; omega)
         have HO3 : Hid (Own w3 base 5 1 A' (out ++ [UInt8.ofNat K] ++ (x :: r).take K).length c' ((out ++ [UInt8.ofNat K] ++ (x :: r).take K).map bv)) := hD (by rw [← HLO.out, List.map_append, List.map_append]; show Own _ _ _ _ _ _ _ (_ ++ [bv _] ++ _); rw [HBV.out]; exact hown)
         have HLD : Hid (ln - K = ((x :: r).drop K).length) := hD (by rw [List.length_drop, HLN.out])
         clear hown hgr hbel hor hown1 hgr1 hbel1 hor1 hs1 hle hox hbx hox1 hob1 hob2 hls
         go_roundg (ln - K)
         case measure => omega
         case rel => first
          | (have h9 : ¬ c = K := by assumption
             exact ⟨(x :: r).drop K, out ++ [UInt8.ofNat K] ++ (x :: r).take K, some ⟨ab, ao + K, none⟩, A', c - K, c', by rw [HLD.out], by rw [HLO.out], by rw [← HLD.out]; omega, Nat.le_of_eq HLD.out.symm, by rw [← HLD.out]; omega, HE2, hD (mid_at HBt.out K), HO3, HB3⟩)
          | exact ⟨(x :: r).drop K, out ++ [UInt8.ofNat K] ++ (x :: r).take K, some ⟨ab, ao, none⟩, A', 0, c', by rw [HLD.out], by rw [HLO.out], by rw [← HLD.out]; omega, Nat.le_of_eq HLD.out.symm, by rw [← HLD.out]; omega, HE2, hD (by rw [List.eq_nil_of_length_eq_zero (show ((x :: r).drop K).length = 0 by rw [← HLD.out]; omega)]; exact Bts.nil _ _), HO3, HB3⟩)
       ·have d2 : decide ((K : Int) < 127) = false := decide_eq_false (by omega)
        have hck : ¬ c = K := by omega
        clear hcond
        obtain ⟨hox, hbx⟩ := HOX.out (nd)
        have hsx : base ≤ (w1.drewN (nd)).heap.size := Nat.le_trans (Nat.le_of_eq HBE.out.symm) hbx.size
        have hox1 := hox.alloc (.cells #[.int .u8 (K : Int)] 5)
        have hs1 : Src ((w1.drewN (nd)).alloc (.cells #[.int .u8 (K : Int)] 5)) (some ⟨(w1.drewN (nd)).heap.size, 0, none⟩) [.int .u8 (K : Int)] := src_blk (blk_top rfl)
        have hle : base ≤ ((w1.drewN (nd)).alloc (.cells #[.int .u8 (K : Int)] 5)).heap.size := by simp at hsx ⊢; omega
        go_wp2_with (at_builtin; first
         | (refine wpList_app ((w1.drewN (nd)).alloc (.cells #[.int .u8 (K : Int)] 5)) rfl _ _ 22 rfl elBytes base B out.length d (out.map bv) rfl hox1 (some ⟨(w1.drewN (nd)).heap.size, 0, none⟩) 1 1 [.int .u8 (K : Int)] rfl hs1 rfl (by simp [Value.oneCell']) hob1 hle ?_; intro A1 c1 w2 hown1 hgr1 hbel1 hor1)
         | go_must (refine wpList_app w2 rfl _ _ 22 rfl elBytes base A1 (out.length + 1) c1 (out.map bv ++ [.int .u8 (K : Int)]) rfl hown1 (some ⟨ab, ao, none⟩) K c (((x :: r).take K).map bv) rfl ((mid_take (HBW.out w2 ((hbx.alloc hsx _).trans hbel1)) K).src) hls (bv_one _) hob2 (Nat.le_trans hle hbel1.size) ?_; intro A' c' w3 hown hgr hbel hor))
        all_goals (
         have HB3 : Hid (Below base w w3) := hD (((hbx.alloc hsx _).trans hbel1).trans hbel)
         have HLO : Hid (out.length + 1 + K = (out ++ [UInt8.ofNat K] ++ (x :: r).take K).length) := hD (by have := HLN.out; simp at this ⊢; omega)
         have HO3 : Hid (Own w3 base 5 1 A' (out ++ [UInt8.ofNat K] ++ (x :: r).take K).length c' ((out ++ [UInt8.ofNat K] ++ (x :: r).take K).map bv)) := hD (by rw [← HLO.out, List.map_append, List.map_append]; show Own _ _ _ _ _ _ _ (_ ++ [bv _] ++ _); rw [HBV.out]; exact hown)
         have HLD : Hid (ln - K = ((x :: r).drop K).length) := hD (by rw [List.length_drop, HLN.out])
         clear hown hgr hbel hor hown1 hgr1 hbel1 hor1 hs1 hle hox hbx hox1 hob1 hob2 hls
         go_roundg (ln - K)
         case measure => omega
         case rel => first
          | (have h9 : ¬ c = K := by assumption
             exact ⟨(x :: r).drop K, out ++ [UInt8.ofNat K] ++ (x :: r).take K, some ⟨ab, ao + K, none⟩, A', c - K, c', by rw [HLD.out], by rw [HLO.out], by rw [← HLD.out]; omega, Nat.le_of_eq HLD.out.symm, by rw [← HLD.out]; omega, HE2, hD (mid_at HBt.out K), HO3, HB3⟩)
          | exact ⟨(x :: r).drop K, out ++ [UInt8.ofNat K] ++ (x :: r).take K, some ⟨ab, ao, none⟩, A', 0, c', by rw [HLD.out], by rw [HLO.out], by rw [← HLD.out]; omega, Nat.le_of_eq HLD.out.symm, by rw [← HLD.out]; omega, HE2, hD (by rw [List.eq_nil_of_length_eq_zero (show ((x :: r).drop K).length = 0 by rw [← HLD.out]; omega)]; exact Bts.nil _ _), HO3, HB3⟩)
      ·have d2 : ¬ (K : Int) < (ln : Int) := by omega
       clear hcond
       obtain ⟨hox, hbx⟩ := HOX.out (nd)
       have hsx : base ≤ (w1.drewN (nd)).heap.size := Nat.le_trans (Nat.le_of_eq HBE.out.symm) hbx.size
       have hox1 := hox.alloc (.cells #[.int .u8 (K : Int)] 5)
       have hs1 : Src ((w1.drewN (nd)).alloc (.cells #[.int .u8 (K : Int)] 5)) (some ⟨(w1.drewN (nd)).heap.size, 0, none⟩) [.int .u8 (K : Int)] := src_blk (blk_top rfl)
       have hle : base ≤ ((w1.drewN (nd)).alloc (.cells #[.int .u8 (K : Int)] 5)).heap.size := by simp at hsx ⊢; omega
       go_wp2_with (at_builtin; first
        | (refine wpList_app ((w1.drewN (nd)).alloc (.cells #[.int .u8 (K : Int)] 5)) rfl _ _ 22 rfl elBytes base B out.length d (out.map bv) rfl hox1 (some ⟨(w1.drewN (nd)).heap.size, 0, none⟩) 1 1 [.int .u8 (K : Int)] rfl hs1 rfl (by simp [Value.oneCell']) hob1 hle ?_; intro A1 c1 w2 hown1 hgr1 hbel1 hor1)
        | go_must (refine wpList_app w2 rfl _ _ 22 rfl elBytes base A1 (out.length + 1) c1 (out.map bv ++ [.int .u8 (K : Int)]) rfl hown1 (some ⟨ab, ao, none⟩) K c (((x :: r).take K).map bv) rfl ((mid_take (HBW.out w2 ((hbx.alloc hsx _).trans hbel1)) K).src) hls (bv_one _) hob2 (Nat.le_trans hle hbel1.size) ?_; intro A' c' w3 hown hgr hbel hor))
       all_goals (
        have HB3 : Hid (Below base w w3) := hD (((hbx.alloc hsx _).trans hbel1).trans hbel)
        have HLO : Hid (out.length + 1 + K = (out ++ [UInt8.ofNat K] ++ (x :: r).take K).length) := hD (by have := HLN.out; simp at this ⊢; omega)
        have HO3 : Hid (Own w3 base 5 1 A' (out ++ [UInt8.ofNat K] ++ (x :: r).take K).length c' ((out ++ [UInt8.ofNat K] ++ (x :: r).take K).map bv)) := hD (by rw [← HLO.out, List.map_append, List.map_append]; show Own _ _ _ _ _ _ _ (_ ++ [bv _] ++ _); rw [HBV.out]; exact hown)
        have HLD : Hid (ln - K = ((x :: r).drop K).length) := hD (by rw [List.length_drop, HLN.out])
        clear hown hgr hbel hor hown1 hgr1 hbel1 hor1 hs1 hle hox hbx hox1 hob1 hob2 hls
        go_roundg (ln - K)
        case measure => omega
        case rel => first
         | (have h9 : ¬ c = K := by assumption
            exact ⟨(x :: r).drop K, out ++ [UInt8.ofNat K] ++ (x :: r).take K, some ⟨ab, ao + K, none⟩, A', c - K, c', by rw [HLD.out], by rw [HLO.out], by rw [← HLD.out]; omega, Nat.le_of_eq HLD.out.symm, by rw [← HLD.out]; omega, HE2, hD (mid_at HBt.out K), HO3, HB3⟩)
         | exact ⟨(x :: r).drop K, out ++ [UInt8.ofNat K] ++ (x :: r).take K, some ⟨ab, ao, none⟩, A', 0, c', by rw [HLD.out], by rw [HLO.out], by rw [← HLD.out]; omega, Nat.le_of_eq HLD.out.symm, by rw [← HLD.out]; omega, HE2, hD (by rw [List.eq_nil_of_length_eq_zero (show ((x :: r).drop K).length = 0 by rw [← HLD.out]; omega)]; exact Bts.nil _ _), HO3, HB3⟩)
theorem refChunks_bad (B : Option Addr) (d : Nat) (p : Pat) (w : World) (hp : PatIn w p B d) (h : patCheck p ≠ 0) :
  Calls Try.prog 44 #[.agg (patA p.from_ p.to_ p.old p.new_ p.size B p.ops.length d)] w (ChkRet2 w [] (patCheck p)) := by
 have K1 := hD (fun w hp => refPatPut_bad B d p w hp h)
 have HP := hD hp
 obtain ⟨ck, hck⟩ : ∃ ck, patCheck p = ck := ⟨_, rfl⟩
 rw [hck] at h K1
 rw [hck]
 have q : (ck != 0) = true := by simp [h]
 clear hp h hck
 go_enter Try.func44, Try.ntmps44
 go_wp2_with fail
 have hba := (Below.refl w.heap.size w).alloc (Nat.le_refl _) (.cells (patA p.from_ p.to_ p.old p.new_ p.size B p.ops.length d) 35)
 refine (K1.out _ (HP.out.stays hba)).mono ?_
 rintro e w1 ⟨rfl, hb1⟩
 have HB1 := hD (hba.trans (hb1.mono (by simp)))
 clear hb1
 go_wp2_with fail
 go_ret2
 exact ⟨none, 0, [], rfl, GRow.nil _ _, Each.nil, HB1.out⟩
theorem part_bts {w : World} {ab ao : Nat} {b : List UInt8} (h : Bts w (some ⟨ab, ao, none⟩) b) (k : Nat) : Bts w (some ⟨ab, ao + 16 * k, none⟩) ((b.drop (k * 16)).take 16) := by
 intro i hi
 have hi2 : k * 16 + i < b.length := by simp at hi; omega
 obtain ⟨b', o', e, hl, hc⟩ := h (k * 16 + i) hi2
 cases e
 refine ⟨_, _, rfl, hl, ?_⟩
 rw [show ao + 16 * k + i = ao + (k * 16 + i) by omega, hc]
 simp
theorem refChunks_fine (B : Option Addr) (d : Nat) (p : Pat) (w : World) (hp : PatIn w p B d) (h : patCheck p = 0) :
  Calls Try.prog 44 #[.agg (patA p.from_ p.to_ p.old p.new_ p.size B p.ops.length d)] w (ChkRet2 w (chunksOf p (packed (patBytes p))) 0) := by
 have K1 := hD (fun w hp => refPatPut_ok B d p w hp h)
 have HP := hD hp
 have hl1 := patBytes_len h
 obtain ⟨hl2, hl3⟩ := packed_patch_len h
 obtain ⟨pb, hpb⟩ : ∃ pb, patBytes p = pb := ⟨_, rfl⟩
 rw [hpb] at K1 hl1 hl2 hl3 ⊢
 have K2 := hD (fun A c w hc hb => refPacked_calls A c pb w hc (by omega) hb)
 obtain ⟨b, hb⟩ : ∃ b, packed pb = b := ⟨_, rfl⟩
 rw [hb] at K2 hl2 hl3 ⊢
 obtain ⟨m, hm⟩ : ∃ m, (b.length + 15) / 16 = m := ⟨_, rfl⟩
 have HCO : Hid (∀ k, k < m → (chunksOf p b)[k]? = some (chunkAt p b m k)) := hD (fun k hk => by unfold chunksOf; rw [hm]; simp [hk])
 have HCL0 : Hid ((chunksOf p b).length = m) := hD (by unfold chunksOf; rw [hm]; simp)
 have hm1 : m ≤ 10 := by omega
 have hm0 : 0 < m := by omega
 have HM := hD hm
 clear hp h hpb hb hm
 generalize chunksOf p b = cs at *
 have HCA : Hid (∀ k, chunkAt p b m k = ⟨p.from_, p.to_, k, m, (b.drop (k * 16)).take 16⟩) := hD (fun k => rfl)
 generalize chunkAt p b m = ca at *
 obtain ⟨f, t, o, n, sz, l⟩ := p
 dsimp only at *
 have j5 : decide ((52 : Int) < (m : Int)) = false := decide_eq_false (by omega)
 have j6 : ¬ 52 < m := by omega
 have hba := (Below.refl w.heap.size w).alloc (Nat.le_refl _) (.cells (patA f t o n sz B l.length d) 35)
 go_enter Try.func44, Try.ntmps44
 go_wp2_with fail
 refine (K1.out _ (HP.out.stays hba)).mono ?_
 rintro e w1 ⟨A1, c1, rfl, ho1, hb1⟩
 have hb1' := hba.trans (hb1.mono (by simp))
 obtain ⟨a0r, a0f, a0n, a0c, a0z, a0l⟩ := kp (w.heap.size) (patA f t o n sz B l.length d) hb1
 have HBT := hD ho1.src.bts
 have hc1 := ho1.le
 dsimp only at hc1
 have HB1 := hD hb1'
 clear ho1 hb1 hb1' hba
 go_wp2_with fail
 refine (K2.out _ _ _ hc1 HBT.out).mono ?_
 rintro e w2 ⟨A2, c2, rfl, ho2, hb2⟩
 obtain ⟨a0r, a0f, a0n, a0c, a0z, a0l⟩ := kp (w.heap.size) (patA f t o n sz B l.length d) hb2
 have HBB2 := hD ho2.src.bts
 have HO2 := hD ho2
 have hc2 := ho2.le
 have HB2 : Hid (Below w.heap.size w w2) := hD (HB1.out.trans (hb2.mono HB1.out.size))
 have hlb : 0 < b.length := by omega
 obtain ⟨ab, ao, rfl, hab, _⟩ := HBB2.out 0 hlb
 have hab2 : w1.heap.size ≤ ab := (ho2.block ab rfl).1
 clear ho2 hb2 HP K1 K2
 go_wp2_with fail
 refine (chunk_calls _ _ _ _).mono ?_
 rintro e w3 ⟨rfl, hw3⟩
 have hs3 : w3.heap.size = w2.heap.size + 2 := by rw [hw3]; simp
 have hb3 : Below w2.heap.size w2 w3 := by rw [hw3]; exact ((Below.refl _ _).alloc (Nat.le_refl _) _).alloc (by simp) _
 have k1 : w3.cell? ⟨w2.heap.size, 0, none⟩ = some (.slice (some ⟨ab, ao, none⟩) b.length c2) := by
  rw [hw3]
  exact ((Box.new w2 22 (.slice (some ⟨ab, ao, none⟩) b.length c2)).alloc _).cell
 have k2 : w3.cell? ⟨w2.heap.size + 1, 0, none⟩ = some (.int .i64 16) := by
  rw [hw3]
  have := (Box.new (w2.alloc (.cells #[.slice (some ⟨ab, ao, none⟩) b.length c2] 22)) 3 (.int .i64 16)).cell
  simp
 have K4 := hD (collectChunk_calls w2.heap.size (w2.heap.size + 1) ab ao b.length c2 hc2 (by omega) w3 (by omega) (by omega) k1 k2)
 obtain ⟨a0r, a0f, a0n, a0c, a0z, a0l⟩ := kp (w.heap.size) (patA f t o n sz B l.length d) hb3
 have HB3 : Hid (Below w.heap.size w w3) := hD (HB2.out.trans (hb3.mono HB2.out.size))
 have HB23 := hD hb3
 clear hw3 hb3 k1 k2
 go_wp2_with fail
 refine K4.out.mono ?_
 rintro e w4 ⟨v, rfl, hrow, hb4⟩
 rw [HM.out] at hrow
 obtain ⟨A4, c4, rfl⟩ : ∃ A4 c4, v = .slice A4 m c4 := by
  rcases hrow.2 with ⟨rfl, h0⟩ | ⟨g, cap, _, rfl, _⟩
  ·omega
  ·exact ⟨_, _, rfl⟩
 have ho4 : Own w4 w3.heap.size 22 1 A4 m c4 ((List.range m).map (partV ab ao b.length)) := hrow
 have hsr := ho4.src
 obtain ⟨gl, ol, rfl, hgl, _⟩ := hsr 0 (by simpa using hm0)
 have HLC : Hid (∀ k, k < m → w4.cell? ⟨gl, ol + k, none⟩ = some (partV ab ao b.length k)) := hD (fun k hk => by
  obtain ⟨b', o', e, _, hc⟩ := hsr k (by simpa using hk)
  cases e
  simpa using hc)
 have hmc : m ≤ c4 := ho4.le
 obtain ⟨a0r, a0f, a0n, a0c, a0z, a0l⟩ := kp (w.heap.size) (patA f t o n sz B l.length d) hb4
 have HB4 : Hid (Below w.heap.size w w4) := hD (HB3.out.trans (hb4.mono HB3.out.size))
 have HBB4 : Hid (Bts w4 (some ⟨ab, ao, none⟩) b) := hD ((HBB2.out.stays HB23.out).stays hb4)
 have HR4 : Hid (rowOf w4 w.heap.size = patA f t o n sz B l.length d ∧ frOf w4 w.heap.size = (0, 0)) := hD ⟨a0r, a0f⟩
 have hab4 : ab < w4.heap.size := Nat.lt_of_lt_of_le hab (by have h1 := HB23.out.size; have h2 := hb4.size; omega)
 have hab5 : w.heap.size ≤ ab := Nat.le_trans HB1.out.size hab2
 have hg04 := a0l
 clear hrow ho4 hsr hb4 K4 HBT HB1 HB2 HO2 HBB2 HB23 HB3 hab hab2 a0r a0f a0n a0c a0z a0l hs3
 go_wp2_with fail
 generalize hg0 : w.heap.size = g0 at *
 have HGE := hD hg0
 generalize hbase : w4.heap.size = base at *
 have HBE := hD hbase
 clear hg0 hbase
 go_loopw [7, 27] (fun v i wr => ∃ (k : Nat) (acc : List Chk) (ds : List (Option Addr × Nat)) (C : Option Addr) (cc : Nat), k ≤ m ∧ i = .int .i64 k ∧ v = .slice C acc.length cc ∧ acc.length = k ∧ Hid (acc = cs.take k) ∧ Hid (GRow kChk wr base acc ds C cc) ∧ Hid (Each kChk acc ds (fun q => q = ab)) ∧ Hid (Below base w4 wr)) (fun _ i _ => m - (intOf i).toNat)
 case atStart => exact ⟨0, [], [], none, 0, Nat.zero_le _, rfl, rfl, rfl, hD (by simp), hD (GRow.nil _ _), hD Each.nil, hD (Below.refl _ _)⟩
 case round =>
  rename World => wo
  obtain ⟨k, acc, ds, C, cc, hk, rfl, rfl, hal, HAC, HR, HE, HB⟩ := hrel
  have hbo : base ≤ wo.heap.size := Nat.le_trans (Nat.le_of_eq HBE.out.symm) HB.out.size
  have hbw : Below w4.heap.size w4 wo := HBE.out ▸ HB.out
  obtain ⟨a0r, a0f, a0n, a0c, a0z, a0l⟩ := keep1 (g := g0) (cs := patA f t o n sz B l.length d) hbw HR4.out.1 (by go_simp) HR4.out.2
  by_cases hlt : k < m
  ·have dl : decide ((k : Int) < (m : Int)) = true := decide_eq_true (by omega)
   have hwk : IntKind.i64.wrap ((k : Int) + 1) = (k : Int) + 1 := IntWalk.i64_in _ (by omega)
   obtain ⟨x, hx⟩ : ∃ x, ca k = x := ⟨_, rfl⟩
   have hxe := HCA.out k
   rw [hx] at hxe
   obtain ⟨y, hy⟩ : ∃ y, min 16 (b.length - 16 * k) = y := ⟨_, rfl⟩
   have hxd : x.data = (b.drop (k * 16)).take 16 := by rw [hxe]
   have hxl : x.data.length = y := by rw [hxd, ← hy]; simp; omega
   have hB3 := part_bts (HBB4.out.stays hbw) k
   rw [← hxd] at hB3
   have p0 : wo.cell? ⟨gl, ol + k, none⟩ = some (.slice (some ⟨ab, ao + 16 * k, none⟩) y y) := by
    have h1 := (World.cell?_of_block (HB.out.block gl hgl)).trans (HLC.out k hlt)
    rw [h1, ← hy]; rfl
   have HNXT : Hid (acc ++ [x] = cs.take (k + 1)) := hD (by
    have h1 := HCO.out k hlt
    rw [hx] at h1
    obtain ⟨h2, h3⟩ := List.getElem?_eq_some_iff.1 h1
    rw [List.take_succ_eq_append_getElem h2, h3, HAC.out])
   have HXE : Hid (kChk.cell x (some ⟨ab, ao + 16 * k, none⟩, y) = [iv f, iv t, iv k, iv m, .slice (some ⟨ab, ao + 16 * k, none⟩) y y]) := hD (by rw [show kChk.cell x (some ⟨ab, ao + 16 * k, none⟩, y) = chkC x (some ⟨ab, ao + 16 * k, none⟩) y from rfl]; unfold chkC; rw [hxl, hxe])
   have HBX := hD hB3
   have HXL := hD hxl
   have HAL := hD hal
   have hk10 : k ≤ 10 := by omega
   have hacl : acc.length ≤ 10 := by omega
   have hrow := HR.out.row
   have hbelA : Below wo.heap.size wo (wo.alloc (.cells #[iv f, iv t, iv k, iv m, .slice (some ⟨ab, ao + 16 * k, none⟩) y y] 49)) := (Below.refl _ _).alloc (Nat.le_refl _) _
   have hoa := hrow.below (B := 0) hbelA
   have hsd : Src (wo.alloc (.cells #[iv f, iv t, iv k, iv m, .slice (some ⟨ab, ao + 16 * k, none⟩) y y] 49)) (some ⟨wo.heap.size, 0, none⟩) [iv f, iv t, iv k, iv m, .slice (some ⟨ab, ao + 16 * k, none⟩) y y] := src_blk (blk_top rfl)
   have hone : ∀ u ∈ [iv f, iv t, iv k, iv m, Value.slice (some ⟨ab, ao + 16 * k, none⟩) y y], u.oneCell' = true := by simp [Value.oneCell']
   have hle : base ≤ (wo.alloc (.cells #[iv f, iv t, iv k, iv m, .slice (some ⟨ab, ao + 16 * k, none⟩) y y] 49)).heap.size := by simp; omega
   clear hx hxe hy hxd hxl hB3 hal hrow
   go_wp2_with (at_builtin; go_must (refine wpList_app (wo.alloc (.cells #[iv f, iv t, iv k, iv m, .slice (some ⟨ab, ao + 16 * k, none⟩) y y] 49)) rfl _ _ 43 rfl elChunks base C acc.length cc (kChk.cells acc ds) rfl hoa (some ⟨wo.heap.size, 0, none⟩) 1 1 [iv f, iv t, iv k, iv m, .slice (some ⟨ab, ao + 16 * k, none⟩) y y] rfl hsd rfl hone (by omega) hle ?_; intro C1 cc1 w5 hown hgr hbel hor))
   have HOWN := hD hown
   have HGR := hD hgr
   have HBEL := hD hbel
   have HOR := hD hor
   clear hown hgr hbel hor hoa hsd hone hle
   go_roundw
   case rel =>
    have hbA : Below wo.heap.size wo (wo.alloc (.cells #[iv f, iv t, iv k, iv m, .slice (some ⟨ab, ao + 16 * k, none⟩) y y] 49)) := (Below.refl _ _).alloc (Nat.le_refl _) _
    refine ⟨k + 1, acc ++ [x], ds ++ [(some ⟨ab, ao + 16 * k, none⟩, y)], C1, cc1, by omega, by go_num, by simp, by rw [List.length_append, HAL.out]; rfl, HNXT, hD ?_, hD ?_, hD ?_⟩
    ·refine (HR.out.below hbA).push (o := x) (d := (some ⟨ab, ao + 16 * k, none⟩, y)) (by rw [HXE.out]; exact HOWN.out) HBEL.out (fun q hq hn => HGR.out.block q hq (fun e => hn e.symm)) ?_ (HBX.out.stays hbA) (Nat.le_of_eq HXL.out) (fun _ q e e2 => ?_)
     ·rcases HOR.out with h | h
      ·exact .inl h
      ·exact .inr (fun q hq => by rw [h] at hq; injection hq with hq; omega)
     ·have h1 := (HR.out.row.block q e2).1
      have h2 : ab = q := by simpa using e
      omega
    ·exact HE.out.push HR.out.len (fun _ q e => by simpa using e.symm)
    ·exact (HB.out.alloc hbo _).trans HBEL.out
   case measure => simp [intOf]; omega
  ·obtain rfl : k = m := by omega
   have dl : decide ((k : Int) < (k : Int)) = false := by simp
   have hz : acc = cs := by rw [HAC.out, List.take_of_length_le (by rw [HCL0.out]; exact Nat.le_refl _)]
   have HZ := hD hz
   clear hz hal
   go_wp2_with fail
   go_ret2
   rw [← HZ.out]
   exact ⟨C, cc, ds, rfl, HR.out.mono (by rw [HGE.out]; omega), HE.out.imp (fun q hq => by rw [HGE.out, hq]; omega), by rw [HGE.out]; exact HB4.out.trans (HB.out.mono (by omega))⟩
theorem refChunks_calls (B : Option Addr) (d : Nat) (p : Pat) (w : World) (hp : PatIn w p B d) :
  Calls Try.prog 44 #[.agg (patA p.from_ p.to_ p.old p.new_ p.size B p.ops.length d)] w (ChkRet2 w (chkCut p).1 (chkCut p).2) := by
 unfold chkCut
 by_cases h : patCheck p = 0
 ·obtain ⟨h1, h2⟩ := packed_patch_len h
  rw [if_neg (by simpa using h), if_neg (by omega)]
  exact refChunks_fine B d p w hp h
 ·rw [if_pos h]
  exact refChunks_bad B d p w hp h
theorem refChkSame1_calls (x y : Chk) (B D : Option Addr) (c d : Nat) (w : World) (hx : ChkIn w x B c) (hy : ChkIn w y D d) :
  Calls Try.prog 115 #[.agg (chkA x.from_ x.to_ x.n x.of_ B x.data.length c), .agg (chkA y.from_ y.to_ y.n y.of_ D y.data.length d)] w (RetB w (.bool (decide (x = y)))) := by
 have bl := ((Below.refl w.heap.size w).alloc (Nat.le_refl _) (.cells (chkA x.from_ x.to_ x.n x.of_ B x.data.length c) 49)).alloc (by simp) (.cells (chkA y.from_ y.to_ y.n y.of_ D y.data.length d) 49)
 have HB := Lib.hid bl
 have HC := Lib.hid (bytesEqual_calls B D c d x.data y.data _ hx.cap hy.cap (hx.data.stays bl) (hy.data.stays bl))
 clear hx hy bl
 obtain ⟨r, hr⟩ : ∃ r, decide (x = y) = r := ⟨_, rfl⟩
 rw [hr]
 have HR := Lib.hid hr
 clear hr
 obtain ⟨f, t, n, o, l⟩ := x
 obtain ⟨f2, t2, n2, o2, l2⟩ := y
 dsimp only at *
 by_cases h0 : ¬ f = f2
 ·have hz : false = r := (decide_eq_false (fun e => by injection e; contradiction)).symm.trans HR.out
  have HZ := Lib.hid hz
  have q : (f == f2) = false := by simp [h0]
  clear HC hz h0
  go_enter Try.func115, Try.ntmps115
  go_wp2_with fail
  go_ret
  exact ⟨ret_bool HZ.out, HB.out⟩
 have h0 := Decidable.not_not.1 h0
 subst h0
 have q0 : (f == f) = true := by simp
 by_cases h1 : ¬ t = t2
 ·have hz : false = r := (decide_eq_false (fun e => by injection e; contradiction)).symm.trans HR.out
  have HZ := Lib.hid hz
  have q : (t == t2) = false := by simp [h1]
  clear HC hz h1
  go_enter Try.func115, Try.ntmps115
  go_wp2_with fail
  go_ret
  exact ⟨ret_bool HZ.out, HB.out⟩
 have h1 := Decidable.not_not.1 h1
 subst h1
 have q1 : (t == t) = true := by simp
 by_cases h2 : ¬ n = n2
 ·have hz : false = r := (decide_eq_false (fun e => by injection e; contradiction)).symm.trans HR.out
  have HZ := Lib.hid hz
  have q : (n == n2) = false := by simp [h2]
  clear HC hz h2
  go_enter Try.func115, Try.ntmps115
  go_wp2_with fail
  go_ret
  exact ⟨ret_bool HZ.out, HB.out⟩
 have h2 := Decidable.not_not.1 h2
 subst h2
 have q2 : (n == n) = true := by simp
 by_cases h3 : ¬ o = o2
 ·have hz : false = r := (decide_eq_false (fun e => by injection e; contradiction)).symm.trans HR.out
  have HZ := Lib.hid hz
  have q : (o == o2) = false := by simp [h3]
  clear HC hz h3
  go_enter Try.func115, Try.ntmps115
  go_wp2_with fail
  go_ret
  exact ⟨ret_bool HZ.out, HB.out⟩
 have h3 := Decidable.not_not.1 h3
 subst h3
 have q3 : (o == o) = true := by simp
 have hz : decide (l = l2) = r := by
  rw [← HR.out]
  by_cases e : l = l2
  ·subst e; simp
  ·rw [decide_eq_false e, decide_eq_false (fun h => e (by injection h))]
 have HZ := Lib.hid hz
 clear hz
 go_enter Try.func115, Try.ntmps115
 go_wp2_with fail
 refine HC.out.mono ?_
 rintro e w9 ⟨rfl, rfl⟩
 go_wp2_with fail
 go_ret
 exact ⟨ret_bool HZ.out, HB.out⟩
theorem refChkSame_eqf (A B : Option Addr) (c d : Nat) (l m : List Chk) (w : World) (hl : l.length ≤ 1048576) (hm : m.length ≤ 1048576) (ha : Chs w A l) (hb : Chs w B m) :
  Calls Try.prog 105 #[.slice A l.length c, .slice B m.length d, .func (Fn.func 115) #[] #[]] w (RetB w (.bool (decide (l = m)))) := by
 by_cases hne : l.length = m.length
 ·have hdl : ((l.length : Int) != (m.length : Int)) = false := by simp [hne]
  have HE := Lib.hid hne
  have hm1 : l.length ≤ m.length := by omega
  have hm2 : m.length ≤ l.length := by omega
  clear hne
  go_enter Try.func105, Try.ntmps105
  go_wp2_with fail
  go_loopw [17] (fun i wr => ∃ k : Nat, k ≤ l.length ∧ i = .int .i64 k ∧ Hid (l.take k = m.take k) ∧ Hid (Below w.heap.size w wr)) (fun i _ => l.length - (intOf i).toNat)
  case atStart => exact ⟨0, Nat.zero_le _, rfl, Lib.hid rfl, Lib.hid (Below.refl _ _)⟩
  case round =>
   obtain ⟨k, hk, rfl, HT, HB⟩ := hrel
   by_cases hlt : k < l.length
   ·obtain ⟨b1, o1, B1, c1, rfl, hs1, p0, p1, p2, p3, p4, p5⟩ := (ha.stays HB.out).at_ hlt
    obtain ⟨b2, o2, B2, c2, rfl, hs2, r0, r1, r2, r3, r4, r5⟩ := (hb.stays HB.out).at_ (i := k) (by omega)
    have hsz := HB.out.size
    have HX : Hid (∀ e : l[k] = m[k]'(by omega), l.take (k + 1) = m.take (k + 1)) := Lib.hid fun e => take_eq_succ HT.out hlt (by omega) e
    have HN : Hid (∀ e : l[k] ≠ m[k]'(by omega), l ≠ m) := Lib.hid fun e => ne_of_at hlt (by omega) e
    generalize l[k] = x at *
    generalize m[k]'(by omega) = y at *
    have hsb := fun w2 (h : Below wr.heap.size wr w2) => refChkSame1_calls x y B1 B2 c1 c2 w2 (p5.stays h) (r5.stays h)
    have HC := Lib.hid hsb
    clear hsb p5 r5
    go_wp2_with fail
    refine (HC.out _ ?_).mono ?_
    ·repeat (first | exact Below.refl _ _ | refine Below.alloc ?_ (by first | omega | (simp <;> omega)) _)
    rintro e w2 ⟨rfl, hb2⟩
    have HB2 : Hid (Below w.heap.size w w2) := by
     refine Lib.hid (HB.out.trans (Below.trans ?_ (hb2.mono (by first | omega | (simp <;> omega)))))
     repeat (first | exact Below.refl _ _ | refine Below.alloc ?_ (by first | omega | (simp <;> omega)) _)
    clear hb2
    by_cases hxy : x = y
    ·have hd : decide (x = y) = true := by simp [hxy]
     have HY := Lib.hid (HX.out hxy)
     clear hxy HX HN
     go_wp2_with fail
     go_roundw
     case rel => exact ⟨k + 1, by omega, by go_num, HY, HB2⟩
     case measure => simp [intOf] <;> omega
    ·have hd : decide (x = y) = false := by simp [hxy]
     have HY := Lib.hid (HN.out hxy)
     clear hxy HX HN
     go_wp2_with fail
     go_ret
     exact ⟨ret_bool (by rw [decide_eq_false HY.out]), HB2.out⟩
   ·go_wp2_with fail
    go_ret
    refine ⟨ret_bool ?_, HB.out⟩
    have h := HT.out
    rw [List.take_of_length_le (by omega), List.take_of_length_le (by omega)] at h
    rw [decide_eq_true h]
 ·have hdl : ((l.length : Int) != (m.length : Int)) = true := by simp; omega
  have HX := Lib.hid hne
  clear hne
  go_enter Try.func105, Try.ntmps105
  go_wp2_with fail
  go_ret
  exact ⟨ret_bool (by rw [decide_eq_false (fun e => HX.out (by rw [e]))]), Below.refl _ _⟩
theorem refChkSame_calls (A B : Option Addr) (c d : Nat) (l m : List Chk) (w : World) (hl : l.length ≤ 1048576) (hm : m.length ≤ 1048576) (ha : Chs w A l) (hb : Chs w B m) :
  Calls Try.prog 50 #[.slice A l.length c, .slice B m.length d] w (RetB w (.bool (decide (l = m)))) := by
 go_enter Try.func50, Try.ntmps50
 go_wp2_with fail
 refine (refChkSame_eqf A B c d l m w hl hm ha hb).mono ?_
 rintro e w1 ⟨rfl, hb1⟩
 go_wp2_with fail
 go_ret
 exact ⟨rfl, hb1⟩
theorem chk_eq_iff {x y : Chk} : x = y ↔ kin x y ∧ x.n = y.n ∧ x.data = y.data := by
 obtain ⟨f, t, n, o, l⟩ := x
 obtain ⟨f2, t2, n2, o2, l2⟩ := y
 unfold kin
 simp only [Chk.mk.injEq]
 constructor
 ·rintro ⟨h1, h2, h3, h4, h5⟩; exact ⟨⟨h1, h2, h4⟩, h3, h5⟩
 ·rintro ⟨⟨h1, h2, h4⟩, h3, h5⟩; exact ⟨h1, h2, h3, h4, h5⟩
theorem kinX_calls (A B : Option Addr) (c d : Nat) (x y : Chk) (w : World) :
  Calls Try.prog 102 #[.agg (chkA x.from_ x.to_ x.n x.of_ A x.data.length c), .agg (chkA y.from_ y.to_ y.n y.of_ B y.data.length d)] w (RetB w (.bool (decide (kin x y)))) :=
 kin_calls A B c d x.data.length y.data.length x.from_ x.to_ x.n x.of_ y.from_ y.to_ y.n y.of_ x.data y.data w
theorem chkSame1_calls (x y : Chk) (B D : Option Addr) (c d : Nat) (w : World) (hx : ChkIn w x B c) (hy : ChkIn w y D d) :
  Calls Try.prog 106 #[.agg (chkA x.from_ x.to_ x.n x.of_ B x.data.length c), .agg (chkA y.from_ y.to_ y.n y.of_ D y.data.length d)] w (RetB w (.bool (decide (x = y)))) := by
 have bl := ((Below.refl w.heap.size w).alloc (Nat.le_refl _) (.cells (chkA x.from_ x.to_ x.n x.of_ B x.data.length c) 49)).alloc (by simp) (.cells (chkA y.from_ y.to_ y.n y.of_ D y.data.length d) 49)
 have hl := hx.len
 have hl2 := hy.len
 have HB := hD bl
 have HK := hD (fun w => kinX_calls B D c d x y w)
 obtain ⟨r, hr⟩ : ∃ r, decide (x = y) = r := ⟨_, rfl⟩
 rw [hr]
 have hr2 : decide (kin x y ∧ x.n = y.n ∧ x.data = y.data) = r := by
  rw [← hr]
  exact decide_eq_decide.2 chk_eq_iff.symm
 have HR := hD hr2
 have HC := hD (fun w h1 h2 => equalBytes_calls B D c d x.data y.data w hl hl2 h1 h2)
 have HX := hD hx
 have HY := hD hy
 clear hx hy bl hr hr2
 by_cases hk : kin x y
 ·have dk : decide (kin x y) = true := decide_eq_true hk
  have HKK := hD hk
  clear hk
  by_cases hn : x.n = y.n
  ·have hz : decide (x.data = y.data) = r := by
    rw [← HR.out]
    by_cases e : x.data = y.data
    ·rw [decide_eq_true e, decide_eq_true ⟨HKK.out, hn, e⟩]
    ·rw [decide_eq_false e, decide_eq_false (fun h => e h.2.2)]
   have HZ := hD hz
   have q : (x.n == y.n) = true := by simp [hn]
   clear hn hz
   go_enter Try.func106, Try.ntmps106
   go_wp2_with fail
   refine (HK.out _).mono ?_
   rintro e w1 ⟨rfl, hb⟩
   obtain ⟨a0r, a0f, a0n, a0c, a0z, a0l⟩ := kp (w.heap.size) (chkA x.from_ x.to_ x.n x.of_ B x.data.length c) hb
   obtain ⟨a1r, a1f, a1n, a1c, a1z, a1l⟩ := kp (w.heap.size + 1) (chkA y.from_ y.to_ y.n y.of_ D y.data.length d) hb
   have HB1 : Hid (Below w.heap.size w w1) := hD (HB.out.trans (hb.mono (by simp; omega)))
   clear hb
   go_wp2_with fail
   refine (HC.out _ (HX.out.data.stays HB1.out) (HY.out.data.stays HB1.out)).mono ?_
   rintro e w2 ⟨rfl, n, rfl⟩
   go_wp2_with fail
   go_ret
   exact ⟨ret_bool HZ.out, Below.drewN' HB1.out n⟩
  ·have hz : false = r := by rw [← HR.out, decide_eq_false (fun h => hn h.2.1)]
   have HZ := hD hz
   have q : (x.n == y.n) = false := by simp [hn]
   clear hn hz
   go_enter Try.func106, Try.ntmps106
   go_wp2_with fail
   refine (HK.out _).mono ?_
   rintro e w1 ⟨rfl, hb⟩
   obtain ⟨a0r, a0f, a0n, a0c, a0z, a0l⟩ := kp (w.heap.size) (chkA x.from_ x.to_ x.n x.of_ B x.data.length c) hb
   obtain ⟨a1r, a1f, a1n, a1c, a1z, a1l⟩ := kp (w.heap.size + 1) (chkA y.from_ y.to_ y.n y.of_ D y.data.length d) hb
   have HB1 : Hid (Below w.heap.size w w1) := hD (HB.out.trans (hb.mono (by simp; omega)))
   clear hb
   go_wp2_with fail
   go_ret
   exact ⟨ret_bool HZ.out, HB1.out⟩
 ·have dk : decide (kin x y) = false := decide_eq_false hk
  have hz : false = r := by rw [← HR.out, decide_eq_false (fun h => hk h.1)]
  have HZ := hD hz
  clear hk hz
  go_enter Try.func106, Try.ntmps106
  go_wp2_with fail
  refine (HK.out _).mono ?_
  rintro e w1 ⟨rfl, hb⟩
  have HB1 : Hid (Below w.heap.size w w1) := hD (HB.out.trans (hb.mono (by simp; omega)))
  clear hb
  go_wp2_with fail
  go_ret
  exact ⟨ret_bool HZ.out, HB1.out⟩
theorem chkSame_eqf (A B : Option Addr) (c d : Nat) (l m : List Chk) (w : World) (hl : l.length ≤ 1048576) (hm : m.length ≤ 1048576) (ha : Chs w A l) (hb : Chs w B m) :
  Calls Try.prog 105 #[.slice A l.length c, .slice B m.length d, .func (Fn.func 106) #[] #[]] w (RetB w (.bool (decide (l = m)))) := by
 by_cases hne : l.length = m.length
 ·have hdl : ((l.length : Int) != (m.length : Int)) = false := by simp [hne]
  have HE := hD hne
  have hm1 : l.length ≤ m.length := by omega
  have hm2 : m.length ≤ l.length := by omega
  clear hne
  go_enter Try.func105, Try.ntmps105
  go_wp2_with fail
  go_loopw [17] (fun i wr => ∃ k : Nat, k ≤ l.length ∧ i = .int .i64 k ∧ Hid (l.take k = m.take k) ∧ Hid (Below w.heap.size w wr)) (fun i _ => l.length - (intOf i).toNat)
  case atStart => exact ⟨0, Nat.zero_le _, rfl, hD rfl, hD (Below.refl _ _)⟩
  case round =>
   obtain ⟨k, hk, rfl, HT, HB⟩ := hrel
   by_cases hlt : k < l.length
   ·obtain ⟨b1, o1, B1, c1, rfl, hs1, p0, p1, p2, p3, p4, p5⟩ := (ha.stays HB.out).at_ hlt
    obtain ⟨b2, o2, B2, c2, rfl, hs2, r0, r1, r2, r3, r4, r5⟩ := (hb.stays HB.out).at_ (i := k) (by omega)
    have hsz := HB.out.size
    have HX : Hid (∀ e : l[k] = m[k]'(by omega), l.take (k + 1) = m.take (k + 1)) := hD fun e => take_eq_succ HT.out hlt (by omega) e
    have HN : Hid (∀ e : l[k] ≠ m[k]'(by omega), l ≠ m) := hD fun e => ne_of_at hlt (by omega) e
    generalize l[k] = x at *
    generalize m[k]'(by omega) = y at *
    have hsb := fun w2 (h : Below wr.heap.size wr w2) => chkSame1_calls x y B1 B2 c1 c2 w2 (p5.stays h) (r5.stays h)
    have HC := hD hsb
    clear hsb p5 r5
    go_wp2_with fail
    refine (HC.out _ ?_).mono ?_
    ·repeat (first | exact Below.refl _ _ | refine bA ?_ _)
    rintro e w2 ⟨rfl, hb2⟩
    have HB2 : Hid (Below w.heap.size w w2) := by
     refine hD (HB.out.trans (Below.trans ?_ (hb2.mono (by first | omega | (simp <;> omega)))))
     repeat (first | exact Below.refl _ _ | refine bA ?_ _)
    clear hb2
    by_cases hxy : x = y
    ·have hd : decide (x = y) = true := by simp [hxy]
     have HY := hD (HX.out hxy)
     clear hxy HX HN
     go_wp2_with fail
     go_roundw
     case rel => exact ⟨k + 1, by omega, by go_num, HY, HB2⟩
     case measure => simp [intOf] <;> omega
    ·have hd : decide (x = y) = false := by simp [hxy]
     have HY := hD (HN.out hxy)
     clear hxy HX HN
     go_wp2_with fail
     go_ret
     exact ⟨ret_bool (by rw [decide_eq_false HY.out]), HB2.out⟩
   ·go_wp2_with fail
    go_ret
    refine ⟨ret_bool ?_, HB.out⟩
    have h := HT.out
    rw [List.take_of_length_le (by omega), List.take_of_length_le (by omega)] at h
    rw [decide_eq_true h]
 ·have hdl : ((l.length : Int) != (m.length : Int)) = true := by simp; omega
  have HX := hD hne
  clear hne
  go_enter Try.func105, Try.ntmps105
  go_wp2_with fail
  go_ret
  exact ⟨ret_bool (by rw [decide_eq_false (fun e => HX.out (by rw [e]))]), Below.refl _ _⟩
theorem chkSame_calls (A B : Option Addr) (c d : Nat) (l m : List Chk) (w : World) (hl : l.length ≤ 1048576) (hm : m.length ≤ 1048576) (ha : Chs w A l) (hb : Chs w B m) :
  Calls Try.prog 39 #[.slice A l.length c, .slice B m.length d] w (RetB w (.bool (decide (l = m)))) := by
 go_enter Try.func39, Try.ntmps39
 go_wp2_with fail
 refine (chkSame_eqf A B c d l m w hl hm ha hb).mono ?_
 rintro e w1 ⟨rfl, hb1⟩
 go_wp2_with fail
 go_ret
 exact ⟨rfl, hb1⟩
end Go.Proofs.Ytefkfglkpebbmac
