/- Walks of functions, and plain words. No conditions. -/
import Derived.Test.YtefkfglkpebbmacGreatP20
set_option linter.unusedVariables false
set_option linter.unusedSimpArgs false
set_option maxRecDepth 100000
set_option maxHeartbeats 40000000
namespace Go.Proofs.YtefkfglkpebbmacGreat
open Go.RowKit
theorem x35 {p : Prop} (h : p := by
 have HZ := hD hz
 clear hz
 go_wp2_with fail
 go_quiet (fail)
 go_wp2_with fail
 go_ret2
 exact ⟨none, 0, by rw [← HZ.out]; rfl, by rw [← HZ.out]; exact Own.nil_ _ _ _ _, HBE.out ▸ Below.drewN' HB.out _⟩) : p := h
theorem refUnpack_calls (Ab : Option Addr) (cb : Nat) (b : List UInt8) (most : Int) (w : World) (hc : b.length <= cb) (hl : b.length <= 4194304) (hm : I64 most) (hB : Bts w Ab b) :
  Calls Tryz.prog 91 #[.slice Ab b.length cb, iv most] w (UnRet w (unpacked b most)) := by
 obtain ⟨hm1, hm2⟩ := hm
 have HB0 := hD hB
 have HBB : Hid (Below w.heap.size w w) := hD (Below.refl _ _)
 have HO0 : Hid (Own w w.heap.size 5 1 none 0 0 (([] : List UInt8).map bv)) := hD (Own.nil_ _ _ _ _)
 clear hB
 go_enter Tryz.func91, Tryz.ntmps91
 go_wp2_with fail
 generalize hbase : w.heap.size = base at *
 have HBE := hD hbase
 clear hbase
 go_loopw [6, 7] (fun o i wr => ∃ (k : Nat) (out : List UInt8) (B : Option Addr) (d : Nat), o = .slice B out.length d ∧ i = .int .i64 (k : Int) ∧ k <= b.length ∧ Hid (unpackAt most (b.drop k) out = unpacked b most) ∧ out.length <= 127 * k ∧ Hid (Own wr base 5 1 B out.length d (out.map bv)) ∧ Hid (Below base w wr)) (fun _ i _ => b.length - (intOf i).toNat)
 case atStart => exact ⟨0, [], none, 0, rfl, rfl, Nat.zero_le _, hD rfl, by simp, HO0, HBB⟩
 case round =>
  clear HO0 HBB
  rename World => wo
  obtain ⟨k, out, B, d, rfl, rfl, hk, HE, hob, HO, HB⟩ := hrel
  by_cases hlt : k < b.length
  ·have dl : decide ((k : Int) < (b.length : Int)) = true := decide_eq_true (by omega)
   obtain ⟨ab, ao, rfl, hab, hx⟩ := (HB0.out.stays (HBE.out ▸ HB.out)) k hlt
   obtain ⟨x, hxe⟩ : ∃ x, b[k] = x := ⟨_, rfl⟩
   obtain ⟨r, hre⟩ : ∃ r, b.drop (k + 1) = r := ⟨_, rfl⟩
   have hdr : b.drop k = x :: r := by rw [List.drop_eq_getElem_cons hlt, hxe, hre]
   rw [hdr] at HE
   rw [hxe] at hx
   have hrl : r.length = b.length - (k + 1) := by rw [← hre, List.length_drop]
   have HRE := hD hre
   have hxl := x.toNat_lt
   obtain ⟨n, hn⟩ : ∃ n, n = x.toNat % 128 := ⟨_, rfl⟩
   have hxn : (x.toNat : Int) % 128 = (n : Int) := by omega
   have hxt : (x.toNat : Int).tmod 128 = (n : Int) := by rw [Int.tmod_eq_emod_of_nonneg (by omega)]; exact hxn
   have hn1 : n < 128 := by omega
   have HN := hD hn
   clear hn hre hdr hxe
   have hwk : IntKind.i64.wrap ((k : Int) + 1) = (k : Int) + 1 := IntWalk.i64_in _ (by omega)
   have hw1 : IntKind.i64.wrap ((b.length : Int) - ((k : Int) + 1)) = (b.length : Int) - ((k : Int) + 1) := IntWalk.i64_in _ (by omega)
   have hw2 : IntKind.i64.wrap ((out.length : Int) + (n : Int)) = (out.length : Int) + (n : Int) := IntWalk.i64_in _ (by omega)
   have hw3 : IntKind.i64.wrap ((k : Int) + 1 + (n : Int)) = (k : Int) + 1 + (n : Int) := IntWalk.i64_in _ (by omega)
   by_cases n0 : n = 0
   ·subst n0
    have hz : (([] : List UInt8), (3 : Int)) = unpacked b most := by rw [← HE.out, unpackAt_zero HN.out.symm]
    clear HE
    exact x35
   have dn : ((n : Int) == 0) = false := by simp; omega
   have hn0 : x.toNat % 128 ≠ 0 := by rw [← HN.out]; exact n0
   by_cases h8 : 128 <= x.toNat
   ·have hu := unpackAt_run (most := most) (r := r) (out := out) hn0 h8
    rw [HE.out, ← HN.out] at hu
    have d8 : decide ((128 : Int) <= (x.toNat : Int)) = true := decide_eq_true (by omega)
    clear HE
    by_cases h1 : r.length < 1
    ·have hz : (([] : List UInt8), (7 : Int)) = unpacked b most := by rw [hu, if_pos h1]
     have d1 : decide ((b.length : Int) - ((k : Int) + 1) < 1) = true := decide_eq_true (by omega)
     clear hu
     exact x35
    have d1 : decide ((b.length : Int) - ((k : Int) + 1) < 1) = false := decide_eq_false (by omega)
    rw [if_neg h1] at hu
    by_cases hgt : most - (out.length : Int) < (n : Int)
    ·have dg : decide (most < (out.length : Int) + (n : Int)) = true := decide_eq_true (by omega)
     have hz : (([] : List UInt8), (1 : Int)) = unpacked b most := by rw [hu, if_pos hgt]
     clear hu
     exact x35
    have dg : decide (most < (out.length : Int) + (n : Int)) = false := decide_eq_false (by omega)
    rw [if_neg hgt] at hu
    have hk1 : k + 1 < b.length := by omega
    obtain ⟨y, hy⟩ : ∃ y, b[k + 1] = y := ⟨_, rfl⟩
    have hr1 : r = y :: b.drop (k + 2) := by rw [← HRE.out, List.drop_eq_getElem_cons hk1, hy]
    rw [hr1, List.drop_succ_cons, List.drop_zero, List.headD_cons] at hu
    have HU := hD hu
    have HY : Hid (∀ nd, Bts (wo.drewN nd) (some ⟨ab, ao + (k + 1), none⟩) [y]) := hD (fun nd i hi => by
     have e0 : i = 0 := by simp at hi; omega
     subst e0
     obtain ⟨b', o', e3, h1, h2⟩ := (HB0.out.stays (HBE.out ▸ HB.out)) (k + 1) hk1
     injection e3 with e3
     injection e3 with e4 e5
     subst e4 e5
     rw [hy] at h2
     exact ⟨ab, ao + (k + 1), rfl, h1, by simpa using h2⟩)
    have hcc : ¬ cb = k + 1 := by omega
    have j1 : (k : Int) + 1 + 1 <= (cb : Int) := by omega
    have hob1 : out.length + n <= 1073741824 := by omega
    have HOX : Hid (∀ nd, Own (wo.drewN nd) base 5 1 B out.length d (out.map bv) ∧ Below base w (wo.drewN nd)) := hD (fun nd => ⟨HO.out.drewN nd, Below.drewN' HB.out nd⟩)
    clear hu hgt hr1
    go_wp2_with fail
    go_quiet (fail)
    go_wp2_with fail
    obtain ⟨hox, hbx⟩ := HOX.out nq
    refine (repeatB_calls (some ⟨ab, ao + (k + 1), none⟩) (cb - (k + 1)) y n (wo.drewN nq) (by omega) (by omega) (HY.out nq)).mono ?_
    rintro e w1 ⟨A1, c1, rfl, hc1, hs1, hb1⟩
    rw [List.length_replicate] at hc1
    have hs1 := hs1.src
    have hle : base <= w1.heap.size := Nat.le_trans (Nat.le_trans (Nat.le_of_eq HBE.out.symm) hbx.size) hb1.size
    have ho2 := hox.below hb1
    have hls : ((List.replicate n y).map bv).length = n * 1 := by simp
    have HB1 : Hid (Below base w w1) := hD (hbx.trans (hb1.mono (Nat.le_trans (Nat.le_of_eq HBE.out.symm) hbx.size)))
    simp only [List.length_replicate]
    go_wp2_with (at_builtin; go_must (refine wpList_app w1 rfl _ _ 22 rfl elBytes base B out.length d (out.map bv) rfl ho2 A1 n c1 ((List.replicate n y).map bv) rfl hs1 hls (bv_one _) hob1 hle ?_; intro A' c' w2 hown hgr hbel hor))
    have HO2 := hD hown
    have HB2 : Hid (Below base w w2) := hD (HB1.out.trans hbel)
    have HE0 : Hid (out.length + n = (out ++ List.replicate n y).length) := hD (by simp)
    clear hown hgr hbel hor hs1 ho2 hb1 hls hle hob1 hox hbx
    go_roundw
    case rel => exact ⟨k + 2, out ++ List.replicate n y, A', c', by rw [HE0.out], by go_num, by omega, hD HU.out.symm, by simp; omega, hD (by simpa using HO2.out), HB2⟩
    case measure => simp [intOf]; omega
   have hu := unpackAt_plain (most := most) (r := r) (out := out) hn0 h8
   rw [HE.out, ← HN.out] at hu
   have d8 : decide ((128 : Int) <= (x.toNat : Int)) = false := decide_eq_false (by omega)
   clear HE
   by_cases h1 : r.length < n
   ·have hz : (([] : List UInt8), (7 : Int)) = unpacked b most := by rw [hu, if_pos h1]
    have d1 : decide ((b.length : Int) - ((k : Int) + 1) < (n : Int)) = true := decide_eq_true (by omega)
    clear hu
    exact x35
   have d1 : decide ((b.length : Int) - ((k : Int) + 1) < (n : Int)) = false := decide_eq_false (by omega)
   rw [if_neg h1] at hu
   by_cases hgt : most - (out.length : Int) < (n : Int)
   ·have dg : decide (most < (out.length : Int) + (n : Int)) = true := decide_eq_true (by omega)
    have hz : (([] : List UInt8), (1 : Int)) = unpacked b most := by rw [hu, if_pos hgt]
    clear hu
    exact x35
   have dg : decide (most < (out.length : Int) + (n : Int)) = false := decide_eq_false (by omega)
   rw [if_neg hgt] at hu
   have hdd : r.drop n = b.drop (k + 1 + n) := by rw [← HRE.out, List.drop_drop]
   rw [hdd] at hu
   have HU := hD hu
   have hcc : ¬ cb = k + 1 := by omega
   have j1 : (k : Int) + 1 + (n : Int) <= (cb : Int) := by omega
   have j2 : (k : Int) + 1 <= (k : Int) + 1 + (n : Int) := by omega
   have hob1 : out.length + n <= 1073741824 := by omega
   have HS : Hid (∀ nd, Src (wo.drewN nd) (some ⟨ab, ao + (k + 1), none⟩) ((r.take n).map bv)) := hD (fun nd => by
    have := mid_at ((HB0.out.stays (HBE.out ▸ HB.out)).drewN nd) (k + 1)
    rw [HRE.out] at this
    exact (mid_take this n).src)
   have hls : ((r.take n).map bv).length = n * 1 := by simp; omega
   have HOX : Hid (∀ nd, Own (wo.drewN nd) base 5 1 B out.length d (out.map bv) ∧ Below base w (wo.drewN nd)) := hD (fun nd => ⟨HO.out.drewN nd, Below.drewN' HB.out nd⟩)
   have hlen : k + 1 + n - (k + 1) = n := by omega
   clear hu hgt hdd
   go_wp2_with fail
   go_quiet (fail)
   obtain ⟨hox, hbx⟩ := HOX.out nq
   have hs1 := HS.out nq
   have hle : base <= (wo.drewN nq).heap.size := Nat.le_trans (Nat.le_of_eq HBE.out.symm) hbx.size
   go_wp2_with (at_builtin; go_must (refine wpList_app (wo.drewN nq) rfl _ _ 22 rfl elBytes base B out.length d (out.map bv) rfl hox (some ⟨ab, ao + (k + 1), none⟩) (k + 1 + n - (k + 1)) (cb - (k + 1)) ((r.take n).map bv) rfl hs1 (by rw [hlen]; exact hls) (bv_one _) (by rw [hlen]; exact hob1) hle ?_; intro A' c' w2 hown hgr hbel hor))
   rw [hlen] at hown
   have HO2 := hD hown
   have HB2 : Hid (Below base w w2) := hD (hbx.trans hbel)
   have HE0 : Hid (out.length + n = (out ++ r.take n).length) := hD (by simp; omega)
   clear hown hgr hbel hor hs1 hls hle hob1 hox hbx
   go_roundw
   case rel => exact ⟨k + 1 + n, out ++ r.take n, A', c', by rw [HE0.out], by go_num, by omega, hD HU.out.symm, by simp; omega, hD (by rw [← HE0.out]; simpa using HO2.out), HB2⟩
   case measure => simp [intOf]; omega
  obtain rfl : k = b.length := by omega
  have dl : decide ((b.length : Int) < (b.length : Int)) = false := by simp
  have hz : (out, (0 : Int)) = unpacked b most := by rw [← HE.out, List.drop_length, unpackAt_nil]
  have HZ := hD hz
  clear hz HE
  go_wp2_with fail
  go_ret2
  exact x126
end Go.Proofs.YtefkfglkpebbmacGreat
