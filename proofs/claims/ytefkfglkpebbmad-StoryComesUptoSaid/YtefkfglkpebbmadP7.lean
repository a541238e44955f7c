/- Walks of functions, and plain words. No conditions. -/
import Derived.Test.YtefkfglkpebbmadP6
import Derived.ArgAppend
set_option linter.unusedVariables false
set_option linter.unusedSimpArgs false
set_option maxRecDepth 100000
set_option maxHeartbeats 40000000
namespace Go.Proofs.Ytefkfglkpebbmad
open Go.RowKit
variable {w : World} {l : List Chk}
theorem chkAdd_calls (A B : Option Addr) (c d : Nat) (l : List Chk) (x : Chk) (w : World) (hl : l.length ≤ 1048576) (hs : Chs w A l) (hx : ChkIn w x B d) :
  Calls Try.prog 71 #[.slice A l.length c, .agg (chkA x.from_ x.to_ x.n x.of_ B x.data.length d)] w (ChkRet2 w (chkAdd l x).1 (chkAdd l x).2) := by
 have HS := hD hs
 have HX := hD hx
 have K1 := hD (fun w h => chkList_calls A c l w hl h)
 have K2 := hD (fun w => chkCheckX_calls B d x w ⟨hx.i2, hx.i3⟩)
 have K3 := hD (fun w h => chkCopy_calls A c l w hl h)
 have K4 := hD (fun w h => cloneBytes_calls B x.data.length d (x.data.map bv) w (by simp) (by have := hx.len; omega) h (bv_one _))
 have hba := (Below.refl w.heap.size w).alloc (Nat.le_refl _) (.cells (chkA x.from_ x.to_ x.n x.of_ B x.data.length d) 80)
 have HBA := hD hba
 clear hs hx hba
 by_cases he1 : chkList l ≠ 0
 ·have hz := chkAdd_err1 (c := x) he1
  rw [hz]
  have q : (chkList l != 0) = true := by simp [he1]
  generalize chkList l = e1 at *
  clear he1 hz
  go_enter Try.func71, Try.ntmps71
  go_wp2_with fail
  refine (K1.out _ (HS.out.stays HBA.out)).mono ?_
  rintro e w1 ⟨rfl, hb1⟩
  have HB1 := hD (HBA.out.trans (hb1.mono (by simp)))
  clear hb1
  go_wp2_with fail
  go_ret2
  exact ⟨none, 0, [], rfl, GRow.nil _ _, Each.nil, HB1.out⟩
 have he1 := Decidable.not_not.1 he1
 rw [he1] at K1
 by_cases he2 : chkCheck x ≠ 0
 ·have hz := chkAdd_err2 he1 he2
  rw [hz]
  have q : (chkCheck x != 0) = true := by simp [he2]
  generalize chkCheck x = e2 at *
  clear he1 he2 hz
  go_enter Try.func71, Try.ntmps71
  go_wp2_with fail
  refine (K1.out _ (HS.out.stays HBA.out)).mono ?_
  rintro e w1 ⟨rfl, hb1⟩
  obtain ⟨a0r, a0f, a0n, a0c, a0z, a0l⟩ := kp (w.heap.size) (chkA x.from_ x.to_ x.n x.of_ B x.data.length d) hb1
  have HB1 := hD (HBA.out.trans (hb1.mono (by simp)))
  clear hb1
  go_wp2_with fail
  refine (K2.out _).mono ?_
  rintro e w2 ⟨rfl, hb2⟩
  have HB2 := hD (HB1.out.trans (hb2.mono HB1.out.size))
  clear hb2
  go_wp2_with fail
  go_ret2
  exact ⟨none, 0, [], rfl, GRow.nil _ _, Each.nil, HB2.out⟩
 have he2 := Decidable.not_not.1 he2
 rw [he2] at K2
 have hll := chkList_len he1
 have HE1 := hD he1
 have HE2 := hD he2
 clear he1 he2
 obtain ⟨r, hr⟩ : ∃ r, chkAdd l x = r := ⟨_, rfl⟩
 rw [hr]
 have HR := hD hr
 clear hr
 go_enter Try.func71, Try.ntmps71
 go_wp2_with fail
 refine (K1.out _ (HS.out.stays HBA.out)).mono ?_
 rintro e w1 ⟨rfl, hb1⟩
 obtain ⟨a0r, a0f, a0n, a0c, a0z, a0l⟩ := kp (w.heap.size) (chkA x.from_ x.to_ x.n x.of_ B x.data.length d) hb1
 have HB1 := hD (HBA.out.trans (hb1.mono (by simp)))
 clear hb1
 go_wp2_with fail
 refine (K2.out _).mono ?_
 rintro e w2 ⟨rfl, hb2⟩
 obtain ⟨b0r, b0f, b0n, b0c, b0z, b0l⟩ := keep1 (g := w.heap.size) (cs := chkA x.from_ x.to_ x.n x.of_ B x.data.length d) hb2 a0r (by go_simp) a0f
 have HB2 := hD (HB1.out.trans (hb2.mono HB1.out.size))
 clear hb2 a0r a0f a0n a0c a0z a0l
 go_wp2_with fail
 refine (K3.out _ (HS.out.stays HB2.out)).mono ?_
 rintro e w3 ⟨A1, c1, ds, rfl, hg3, hn3, hb3⟩
 obtain ⟨a0r, a0f, a0n, a0c, a0z, a0l⟩ := keep1 (g := w.heap.size) (cs := chkA x.from_ x.to_ x.n x.of_ B x.data.length d) hb3 b0r (by go_simp) b0f
 have HB3 := hD (HB2.out.trans (hb3.mono HB2.out.size))
 have HG3 := hD hg3
 have HN3 := hD hn3
 have hs2 := HB2.out.size
 have hg0 : w.heap.size < w2.heap.size := b0l
 have hs23 := hb3.size
 clear hb3 b0r b0f b0n b0c b0z b0l hg3 hn3
 go_wp2_with fail
 refine (K4.out _ (HX.out.data.stays HB3.out).src).mono ?_
 rintro e w4 ⟨B5, d5, rfl, ho4, hb4⟩
 obtain ⟨b0r, b0f, b0n, b0c, b0z, b0l⟩ := keep1 (g := w.heap.size) (cs := chkA x.from_ x.to_ x.n x.of_ B x.data.length d) hb4 a0r (by go_simp) a0f
 have HB4 := hD (HB3.out.trans (hb4.mono HB3.out.size))
 have HG4 := hD (HG3.out.below hb4)
 have hs3 := HB3.out.size
 have hs25 : w2.heap.size ≤ w4.heap.size := Nat.le_trans hs23 hb4.size
 have HO4 := hD ho4
 clear hb4 a0r a0f a0n a0c a0z a0l ho4
 go_wp2_with fail
 have hG5 : GRow kChk (w4.setCell ⟨w.heap.size, 4, none⟩ (.slice B5 x.data.length d5)) w2.heap.size l ds A1 c1 := HG4.out.setOther (fun e => by have := (HG4.out.row.block _ e).1; omega) (HN3.out.imp fun k hk => by omega) _
 have hD5 : Bts (w4.setCell ⟨w.heap.size, 4, none⟩ (.slice B5 x.data.length d5)) B5 x.data := (HO4.out.setCell_other (p := ⟨w.heap.size, 4, none⟩) (fun e => by have := (HO4.out.block _ e).1; have h2 : w.heap.size = w.heap.size := rfl; simp only at this; omega) _).src.bts
 have hs25' : w2.heap.size ≤ (w4.setCell ⟨w.heap.size, 4, none⟩ (.slice B5 x.data.length d5)).heap.size := by simpa using hs25
 have hb5 : Below w.heap.size w (w4.setCell ⟨w.heap.size, 4, none⟩ (.slice B5 x.data.length d5)) := HB4.out.setCell (p := ⟨w.heap.size, 4, none⟩) (Nat.le_refl _) _
 have R5 : rowOf (w4.setCell ⟨w.heap.size, 4, none⟩ (.slice B5 x.data.length d5)) w.heap.size = chkA x.from_ x.to_ x.n x.of_ B5 x.data.length d5 := by rw [rowOf_setCell, if_pos rfl, b0r, chkA_set4]
 have F5 : frOf (w4.setCell ⟨w.heap.size, 4, none⟩ (.slice B5 x.data.length d5)) w.heap.size = (0, 0) := by rw [frOf_setCell, b0f]
 have hB5b : ∀ k, B5.map (·.block) = some k → w3.heap.size ≤ k := fun k e => (HO4.out.block k e).1
 have hd5 : x.data.length ≤ d5 := HO4.out.le
 have HA1 : Hid (∀ k, A1.map (·.block) = some k → k < w3.heap.size) := hD (fun k e => (HG3.out.row.block k e).2)
 have HBL : Hid (∀ k, B5.map (·.block) = some k → k < (w4.setCell ⟨w.heap.size, 4, none⟩ (.slice B5 x.data.length d5)).heap.size) := hD (fun k e => by simpa using (HO4.out.block k e).2)
 have HG5 := hD hG5
 have HD5 := hD hD5
 have HB5 := hD hb5
 have HR5 := hD (And.intro R5 F5)
 have HBB := hD hB5b
 have HN5 := HN3
 clear hG5 hD5 hb5 R5 F5 hB5b b0r b0f b0n b0c b0z b0l HG4 HO4 HB4 HG3 HN3
 generalize w4.setCell ⟨w.heap.size, 4, none⟩ (.slice B5 x.data.length d5) = w5 at *
 generalize hg0e : w.heap.size = g0 at *
 have HGE := hD hg0e
 clear hg0e
 have HD : Hid (∀ wq, Below w5.drew.heap.size w5.drew wq → Below w5.heap.size w5 wq) := hD (fun wq h => (Below.refl w5.heap.size w5).drew.trans h)
 have R3 : rowOf w5.drew g0 = chkA x.from_ x.to_ x.n x.of_ B5 x.data.length d5 := HR5.out.1
 have F3 : frOf w5.drew g0 = (0, 0) := HR5.out.2
 have hs5 := HB5.out.size
 by_cases hl0 : l.length = 0
 ·have HL0 := hD hl0
  have HKN2 : Hid (∀ y, l[0]? = some y → kin y x) := hD (fun y h => by rw [List.getElem?_eq_none (by omega)] at h; cases h)
  clear hl0
  refine wp_region_chain (by kernel_rfl) (some 25 :: some 26 :: some 27 :: some 28 :: some 29 :: some 30 :: some 31 :: some 32 :: some 33 :: some 34 :: some 35 :: []) (.slice A1 l.length c1 :: .int .i64 (l.length : Int) :: .bool false :: .bool false :: undef :: undef :: undef :: undef :: undef :: undef :: .bool false :: []) 74 rfl rfl (by decide +kernel) (by decide +kernel) (by decide +kernel) rfl ?_ ?_
  ·refine ⟨.inl ⟨rfl, fun done a wq hw h => ?_⟩, ?_⟩
   ·have e0 := cO 0 (.slice A1 l.length c1) h; exact ch_move (ch_ev e0)
   refine ⟨.inl ⟨rfl, fun done a wq hw h => ?_⟩, ?_⟩
   ·have e25 := cN 0 25 h hw; refine ch_pure ?_; go_simp
   refine ⟨.inl ⟨rfl, fun done a wq hw h => ?_⟩, ?_⟩
   ·have e26 := cN 1 26 h hw; have h1 := HL0.out; refine ch_pure ?_; go_simp
   refine ⟨.inl ⟨rfl, fun done a wq hw h => ?_⟩, ?_⟩
   ·have e27 := cN 2 27 h hw; exact ch_move (ch_ev e27)
   iterate 6 refine ⟨.inr ⟨rfl, rfl⟩, ?_⟩
   refine ⟨.inl ⟨rfl, fun done a wq hw h => ?_⟩, ?_⟩
   ·have e28 := cN 3 28 h hw; exact ch_pick_f e28 rfl
   exact trivial
  ·intro w6 hb6
   simp only [putAll_some, putAll_none, putAll_nil, List.setIfInBounds_toArray, List.set_cons_zero, List.set_cons_succ]
   obtain ⟨a0r, a0f, a0n, a0c, a0z, a0l⟩ := keep1 (g := g0) (cs := chkA x.from_ x.to_ x.n x.of_ B5 x.data.length d5) hb6 R3 (by go_simp) F3
   have HB6 : Hid (Below g0 w w6) := hD (HB5.out.trans (hb6.mono (by omega)))
   have HG6 := hD (HG5.out.below hb6)
   have HD6 := hD (HD5.out.stays hb6)
   have hs6 := hb6.size
   have HRF := hD (And.intro a0r a0f)
   clear hb6 R3 F3 a0r a0f a0n a0c a0z
   go_wp2_with fail
   go_loopw [8] (fun i wr => ∃ k : Nat, k ≤ l.length ∧ i = .int .i64 k ∧ Hid (∀ (j : Nat) (h : j < l.length), j < k → l[j].n < x.n) ∧ Hid (Below w6.heap.size w6 wr)) (fun i _ => l.length - (intOf i).toNat)
   case atStart => exact ⟨0, Nat.zero_le _, rfl, hD (fun j h hj => by omega), hD (Below.refl _ _)⟩
   case round =>
    rename World => wr
    obtain ⟨k, hk, rfl, HLT, HBR⟩ := hrel
    obtain ⟨b0r, b0f, b0n, b0c, b0z, b0l⟩ := keep1 (g := g0) (cs := chkA x.from_ x.to_ x.n x.of_ B5 x.data.length d5) HBR.out HRF.out.1 (by go_simp) HRF.out.2
    have HGR := hD (HG6.out.below HBR.out)
    have HDR := hD (HD6.out.stays HBR.out)
    have HBW : Hid (Below g0 w wr) := hD (HB6.out.trans (HBR.out.mono (by omega)))
    have hsr := HBR.out.size
    by_cases hlt : k < l.length
    ·exfalso; have := HL0.out; omega
    ·obtain rfl : k = l.length := by omega
     have dl : decide ((l.length : Int) < (l.length : Int)) = false := by simp
     have hz := (chkAdd_is HE1.out HE2.out HKN2.out (Nat.le_refl _) (fun j h hj => HLT.out j h hj) (fun h => absurd h (Nat.lt_irrefl _))).2 (fun h => absurd h (Nat.lt_irrefl _))
     rw [HR.out] at hz
     have HZ := hD hz
     clear hz
     go_wp2_with fail
     go_quiet (fail)
     go_wp2_with fail
     obtain ⟨wx, hwx⟩ : ∃ wx, wr.drewN nq = wx := ⟨_, rfl⟩
     rw [hwx]
     have hbx : Below wr.heap.size wr wx := hwx ▸ below_drewN wr nq
     have HGR := hD (HGR.out.below hbx)
     have HDR := hD (HDR.out.stays hbx)
     have HBW : Hid (Below g0 w wx) := hD (HBW.out.trans (hbx.mono (by omega)))
     have hsr := Nat.le_trans hsr hbx.size
     obtain ⟨b0r, b0f, b0n, b0c, b0z, b0l⟩ := keep1 (g := g0) (cs := chkA x.from_ x.to_ x.n x.of_ B5 x.data.length d5) hbx b0r (by go_simp) b0f
     clear hwx hbx
     go_quiet (fail)
     obtain ⟨wy, hwx⟩ : ∃ wy, wx.drewN nq = wy := ⟨_, rfl⟩
     rw [hwx]
     have hbx : Below wx.heap.size wx wy := hwx ▸ below_drewN wx nq
     have HGR := hD (HGR.out.below hbx)
     have HDR := hD (HDR.out.stays hbx)
     have HBW : Hid (Below g0 w wy) := hD (HBW.out.trans (hbx.mono (by omega)))
     have hsr := Nat.le_trans hsr hbx.size
     obtain ⟨b0r, b0f, b0n, b0c, b0z, b0l⟩ := keep1 (g := g0) (cs := chkA x.from_ x.to_ x.n x.of_ B5 x.data.length d5) hbx b0r (by go_simp) b0f
     clear hwx hbx
     have HG7 := HGR
     have HD7 := HDR
     have HB7 := HBW
     have hO7 := HG7.out.row.alloc (.cells (chkA x.from_ x.to_ x.n x.of_ B5 x.data.length d5) 80)
     have hv7 : (wy.alloc (.cells (chkA x.from_ x.to_ x.n x.of_ B5 x.data.length d5) 80)).heap[wy.heap.size]? = some (.cells (kChk.cell x (B5, d5)).toArray 80 (0, 0)) := blk_top rfl
     have hvg7 : A1.map (·.block) ≠ some wy.heap.size := fun e => by have := (HG7.out.row.block _ e).2; omega
     have hbs7 : w2.heap.size ≤ (wy.alloc (.cells (chkA x.from_ x.to_ x.n x.of_ B5 x.data.length d5) 80)).heap.size := by simp; omega
     have HIN := hD (insChunks_calls A1 l.length c1 l.length (kChk.cells l ds) wy.heap.size (kChk.cell x (B5, d5)) 80 _ w2.heap.size hO7 rfl hv7 hvg7 (kChk.one _ _) (cells_oneCell _ _) hbs7 (by omega) (by omega))
     clear hO7 hv7 hvg7
     go_wp2_with fail
     refine HIN.out.mono ?_
     rintro e w9 ⟨A', c', rfl, hown, hb9, hk9, hor9⟩
     have hba7 := (Below.refl wy.heap.size wy).alloc (Nat.le_refl _) (.cells (chkA x.from_ x.to_ x.n x.of_ B5 x.data.length d5) 80)
     have hG9 := (HG7.out.below hba7).ins (x := x) (e := (B5, d5)) (k := l.length) (by omega) hown hb9 hk9 hor9 (HD7.out.stays hba7) hd5 (fun _ q e e2 => by have h5 := HBB.out q e; have h6 := HA1.out q e2; omega)
     have HG9 := hD hG9
     have HB9 : Hid (Below g0 w w9) := hD ((HB7.out.alloc (by omega) _).trans (hb9.mono (by omega)))
     clear hown hb9 hk9 hor9 hba7 hG9 HIN
     go_wp2_with fail
     go_ret2
     rw [HZ.out]
     have hlen : (l.take l.length ++ x :: l.drop l.length).length = l.length + 1 := by rw [List.length_append, List.length_take, List.length_cons, List.length_drop]; omega
     refine ⟨A', c', _, by rw [hlen]; rfl, HG9.out.mono (by rw [HGE.out]; omega), (HN5.out.imp fun q hq => by rw [HGE.out]; omega).ins HG7.out.len (by omega) (fun q e => by have := HBB.out q e; rw [HGE.out]; omega), HGE.out.symm ▸ HB9.out⟩
 ·have hlp : 0 < l.length := by omega
  obtain ⟨g, rfl, hgb, hgl⟩ := HG5.out.row.form hlp
  obtain ⟨q, hq⟩ : ∃ q, l[0]? = some q := ⟨_, List.getElem?_eq_getElem hlp⟩
  obtain ⟨D, dq, hat⟩ := HG5.out.chkAt hq
  rw [Nat.zero_mul] at hat
  have HQ : Hid (∀ wq, Below w5.heap.size w5 wq → ChkAt wq g 0 q D dq) := hD (fun wq h => hat.stays hgl h)
  have HL0 : Hid (0 < l.length) := hD hlp
  have HLN : Hid (¬ l = []) := hD (fun e => by rw [e] at hlp; simp at hlp)
  have HQE := hD hq
  clear hl0 hat hq
  by_cases hkn : kin q x
  ·have HKN : Hid (decide (kin q x) = true) := hD (decide_eq_true hkn)
   have HKN2 : Hid (∀ y, l[0]? = some y → kin y x) := hD (fun y h => by rw [HQE.out] at h; injection h with h; subst h; exact hkn)
   clear hkn
   refine wp_region_chain (by kernel_rfl) (some 25 :: some 26 :: some 27 :: some 28 :: some 29 :: some 30 :: some 31 :: some 32 :: some 33 :: some 34 :: some 35 :: []) (.slice (some ⟨g, 0, none⟩) l.length c1 :: .int .i64 (l.length : Int) :: .bool true :: .bool true :: .slice (some ⟨g, 0, none⟩) l.length c1 :: .pointer (some ⟨g, 0, none⟩) :: .agg (chkA q.from_ q.to_ q.n q.of_ D q.data.length dq) :: .agg (chkA x.from_ x.to_ x.n x.of_ B5 x.data.length d5) :: .bool true :: .bool false :: .bool false :: []) 74 rfl rfl (by decide +kernel) (by decide +kernel) (by decide +kernel) rfl ?_ ?_
   ·refine ⟨.inl ⟨rfl, fun done a wq hw h => ?_⟩, ?_⟩
    ·have e0 := cO 0 (.slice (some ⟨g, 0, none⟩) l.length c1) h; exact ch_move (ch_ev e0)
    refine ⟨.inl ⟨rfl, fun done a wq hw h => ?_⟩, ?_⟩
    ·have e25 := cN 0 25 h hw; refine ch_pure ?_; go_simp
    refine ⟨.inl ⟨rfl, fun done a wq hw h => ?_⟩, ?_⟩
    ·have e26 := cN 1 26 h hw; have h1 := HL0.out; have h2 := HLN.out; refine ch_pure ?_; go_simp
    refine ⟨.inl ⟨rfl, fun done a wq hw h => ?_⟩, ?_⟩
    ·have e27 := cN 2 27 h hw; exact ch_move (ch_ev e27)
    refine ⟨.inl ⟨rfl, fun done a wq hw h => ?_⟩, ?_⟩
    ·have e0 := cO 0 (.slice (some ⟨g, 0, none⟩) l.length c1) h; exact ch_move (ch_ev e0)
    refine ⟨.inl ⟨rfl, fun done a wq hw h => ?_⟩, ?_⟩
    ·have e29 := cN 4 29 h hw; have h1 := HL0.out; have h2 := HLN.out; refine ch_pure ?_; go_simp
    refine ⟨.inl ⟨rfl, fun done a wq hw h => ?_⟩, ?_⟩
    ·have e30 := cN 5 30 h hw; obtain ⟨c0, c1_, c2, c3, c4⟩ := HQ.out wq (HD.out wq h.bel); refine ch_pure ?_; go_simp
    refine ⟨.inl ⟨rfl, fun done a wq hw h => ?_⟩, ?_⟩
    ·have e3 := cO 3 (.pointer (some ⟨g0, 0, none⟩)) h; obtain ⟨r_, f_, n_, c_, z_, l_⟩ := keep1 h.bel R3 (by go_simp) F3; refine ch_pure ?_; go_simp
    refine ⟨.inl ⟨rfl, fun done a wq hw h => ?_⟩, ?_⟩
    ·have e31 := cN 6 31 h hw; have e32 := cN 7 32 h hw; exact ch_call (vals := #[.agg (chkA q.from_ q.to_ q.n q.of_ D q.data.length dq), .agg (chkA x.from_ x.to_ x.n x.of_ B5 x.data.length d5)]) (by go_simp) (by go_simp) (by have := kinY_calls D B5 dq d5 q x wq; rwa [HKN.out] at this)
    refine ⟨.inl ⟨rfl, fun done a wq hw h => ?_⟩, ?_⟩
    ·have e33 := cN 8 33 h hw; refine ch_pure ?_; go_simp
    refine ⟨.inl ⟨rfl, fun done a wq hw h => ?_⟩, ?_⟩
    ·have e28 := cN 3 28 h hw; have e34 := cN 9 34 h hw; exact ch_pick_t e28 (ch_ev e34)
    exact trivial
   ·intro w6 hb6
    simp only [putAll_some, putAll_none, putAll_nil, List.setIfInBounds_toArray, List.set_cons_zero, List.set_cons_succ]
    obtain ⟨a0r, a0f, a0n, a0c, a0z, a0l⟩ := keep1 (g := g0) (cs := chkA x.from_ x.to_ x.n x.of_ B5 x.data.length d5) hb6 R3 (by go_simp) F3
    have HB6 : Hid (Below g0 w w6) := hD (HB5.out.trans (hb6.mono (by omega)))
    have HG6 := hD (HG5.out.below hb6)
    have HD6 := hD (HD5.out.stays hb6)
    have hs6 := hb6.size
    have HRF := hD (And.intro a0r a0f)
    clear hb6 R3 F3 a0r a0f a0n a0c a0z
    go_wp2_with fail
    go_loopw [8] (fun i wr => ∃ k : Nat, k ≤ l.length ∧ i = .int .i64 k ∧ Hid (∀ (j : Nat) (h : j < l.length), j < k → l[j].n < x.n) ∧ Hid (Below w6.heap.size w6 wr)) (fun i _ => l.length - (intOf i).toNat)
    case atStart => exact ⟨0, Nat.zero_le _, rfl, hD (fun j h hj => by omega), hD (Below.refl _ _)⟩
    case round =>
     rename World => wr
     obtain ⟨k, hk, rfl, HLT, HBR⟩ := hrel
     obtain ⟨b0r, b0f, b0n, b0c, b0z, b0l⟩ := keep1 (g := g0) (cs := chkA x.from_ x.to_ x.n x.of_ B5 x.data.length d5) HBR.out HRF.out.1 (by go_simp) HRF.out.2
     have HGR := hD (HG6.out.below HBR.out)
     have HDR := hD (HD6.out.stays HBR.out)
     have HBW : Hid (Below g0 w wr) := hD (HB6.out.trans (HBR.out.mono (by omega)))
     have hsr := HBR.out.size
     by_cases hlt : k < l.length
     ·obtain ⟨D2, d2, hat⟩ := HGR.out.chkAt (List.getElem?_eq_getElem hlt)
      have hgr : g < wr.heap.size := (HGR.out.row.block g rfl).2
      obtain ⟨y, hy⟩ : ∃ y, l[k] = y := ⟨_, rfl⟩
      rw [hy] at hat
      have HAT := hD hat
      have HY := hD hy
      obtain ⟨c0, c1_, c2, c3, c4⟩ := hat
      have dl : decide ((k : Int) < (l.length : Int)) = true := decide_eq_true (by omega)
      have nb : ¬ (l.length : Int) ≤ (k : Int) := by omega
      have hwk : IntKind.i64.wrap ((k : Int) + 1) = (k : Int) + 1 := IntWalk.i64_in _ (by omega)
      clear hy
      by_cases hn : y.n < x.n
      ·have HN := hD hn
       go_wp2_with fail
       go_quiet (fail)
       go_wp2_with fail
       go_roundw
       case rel => exact ⟨k + 1, by omega, by go_num, hD (fun j h hj => by
        rcases Nat.lt_or_ge j k with h1 | h1
        ·exact HLT.out j h h1
        ·have e : j = k := by omega
         subst e
         rw [HY.out]; exact HN.out), hD (Below.drewN' HBR.out _)⟩
       case measure => simp [intOf]; omega
      ·have his := chkAdd_is HE1.out HE2.out HKN2.out hk (fun j h hj => HLT.out j h hj) (fun h => by rw [HY.out]; exact hn)
       by_cases he : y.n = x.n
       first | case' inl => have T14 : Hid True := hD trivial | case' pos => have T14 : Hid True := hD trivial | case' refine_1 => have T14 : Hid True := hD trivial
       iterate 2
        ·first
          |
           revert T14; intro T14
           have hz := his.1 hlt (by rw [HY.out]; exact he)
          | have hz := his.2 (fun h => by rw [HY.out]; exact he)
         rw [HR.out] at hz
         have HZ := hD hz
         first
          |
           revert T14; intro T14
           have de : (y.n == x.n) = true := by simp [he]
          | have de : (y.n == x.n) = false := by simp [he]
         clear hz his he
         go_wp2_with fail
         go_quiet (fail)
         go_wp2_with fail
         obtain ⟨wx, hwx⟩ : ∃ wx, wr.drewN nq = wx := ⟨_, rfl⟩
         rw [hwx]
         have hbx : Below wr.heap.size wr wx := hwx ▸ below_drewN wr nq
         have hat2 := HAT.out.stays hgr hbx
         have HAT := hD hat2
         have hgr : g < wx.heap.size := Nat.lt_of_lt_of_le hgr hbx.size
         have HGR := hD (HGR.out.below hbx)
         have HDR := hD (HDR.out.stays hbx)
         have HBW : Hid (Below g0 w wx) := hD (HBW.out.trans (hbx.mono (by omega)))
         have hsr := Nat.le_trans hsr hbx.size
         obtain ⟨b0r, b0f, b0n, b0c, b0z, b0l⟩ := keep1 (g := g0) (cs := chkA x.from_ x.to_ x.n x.of_ B5 x.data.length d5) hbx b0r (by go_simp) b0f
         clear hwx hbx
         obtain ⟨c0, c1_, c2, c3, c4⟩ := hat2
         go_quiet (fail)
         obtain ⟨wy, hwx⟩ : ∃ wy, wx.drewN nq = wy := ⟨_, rfl⟩
         rw [hwx]
         have hbx : Below wx.heap.size wx wy := hwx ▸ below_drewN wx nq
         have hat2 := HAT.out.stays hgr hbx
         have HAT := hD hat2
         have hgr : g < wy.heap.size := Nat.lt_of_lt_of_le hgr hbx.size
         have HGR := hD (HGR.out.below hbx)
         have HDR := hD (HDR.out.stays hbx)
         have HBW : Hid (Below g0 w wy) := hD (HBW.out.trans (hbx.mono (by omega)))
         have hsr := Nat.le_trans hsr hbx.size
         obtain ⟨b0r, b0f, b0n, b0c, b0z, b0l⟩ := keep1 (g := g0) (cs := chkA x.from_ x.to_ x.n x.of_ B5 x.data.length d5) hbx b0r (by go_simp) b0f
         clear hwx hbx
         clear hat2
         first
          | revert T14; intro T14
          |
           have HG7 := HGR
           have HD7 := HDR
           have HB7 := HBW
           have hO7 := HG7.out.row.alloc (.cells (chkA x.from_ x.to_ x.n x.of_ B5 x.data.length d5) 80)
           have hv7 : (wy.alloc (.cells (chkA x.from_ x.to_ x.n x.of_ B5 x.data.length d5) 80)).heap[wy.heap.size]? = some (.cells (kChk.cell x (B5, d5)).toArray 80 (0, 0)) := blk_top rfl
           have hvg7 : (some (⟨g, 0, none⟩ : Addr)).map (·.block) ≠ some wy.heap.size := fun e => by have := (HG7.out.row.block _ e).2; omega
           have hbs7 : w2.heap.size ≤ (wy.alloc (.cells (chkA x.from_ x.to_ x.n x.of_ B5 x.data.length d5) 80)).heap.size := by simp; omega
           have HIN := hD (insChunks_calls (some ⟨g, 0, none⟩) l.length c1 k (kChk.cells l ds) wy.heap.size (kChk.cell x (B5, d5)) 80 _ w2.heap.size hO7 rfl hv7 hvg7 (kChk.one _ _) (cells_oneCell _ _) hbs7 (by omega) (by omega))
           clear hO7 hv7 hvg7
           go_wp2_with fail
           refine HIN.out.mono ?_
           rintro e w9 ⟨A', c', rfl, hown, hb9, hk9, hor9⟩
           have hba7 := (Below.refl wy.heap.size wy).alloc (Nat.le_refl _) (.cells (chkA x.from_ x.to_ x.n x.of_ B5 x.data.length d5) 80)
           have hG9 := (HG7.out.below hba7).ins (x := x) (e := (B5, d5)) (k := k) (by omega) hown hb9 hk9 hor9 (HD7.out.stays hba7) hd5 (fun _ q e e2 => by have h5 := HBB.out q e; have h6 := HA1.out q e2; omega)
           have HG9 := hD hG9
           have HB9 : Hid (Below g0 w w9) := hD ((HB7.out.alloc (by omega) _).trans (hb9.mono (by omega)))
           clear hown hb9 hk9 hor9 hba7 hG9 HIN
         go_wp2_with fail
         go_ret2
         rw [HZ.out]
         first
          |
           revert T14; intro T14
           exact ⟨_, _, ds, rfl, HGR.out.mono (by rw [HGE.out]; omega), HN5.out.imp fun q hq => by rw [HGE.out]; omega, HGE.out.symm ▸ HBW.out⟩
          |
           have hlen : (l.take k ++ x :: l.drop k).length = l.length + 1 := by rw [List.length_append, List.length_take, List.length_cons, List.length_drop]; omega
           refine ⟨A', c', _, by rw [hlen]; rfl, HG9.out.mono (by rw [HGE.out]; omega), (HN5.out.imp fun q hq => by rw [HGE.out]; omega).ins HG7.out.len (by omega) (fun q e => by have := HBB.out q e; rw [HGE.out]; omega), HGE.out.symm ▸ HB9.out⟩
     ·obtain rfl : k = l.length := by omega
      have dl : decide ((l.length : Int) < (l.length : Int)) = false := by simp
      have hz := (chkAdd_is HE1.out HE2.out HKN2.out (Nat.le_refl _) (fun j h hj => HLT.out j h hj) (fun h => absurd h (Nat.lt_irrefl _))).2 (fun h => absurd h (Nat.lt_irrefl _))
      rw [HR.out] at hz
      have HZ := hD hz
      clear hz
      go_wp2_with fail
      go_quiet (fail)
      go_wp2_with fail
      obtain ⟨wx, hwx⟩ : ∃ wx, wr.drewN nq = wx := ⟨_, rfl⟩
      rw [hwx]
      have hbx : Below wr.heap.size wr wx := hwx ▸ below_drewN wr nq
      have HGR := hD (HGR.out.below hbx)
      have HDR := hD (HDR.out.stays hbx)
      have HBW : Hid (Below g0 w wx) := hD (HBW.out.trans (hbx.mono (by omega)))
      have hsr := Nat.le_trans hsr hbx.size
      obtain ⟨b0r, b0f, b0n, b0c, b0z, b0l⟩ := keep1 (g := g0) (cs := chkA x.from_ x.to_ x.n x.of_ B5 x.data.length d5) hbx b0r (by go_simp) b0f
      clear hwx hbx
      go_quiet (fail)
      obtain ⟨wy, hwx⟩ : ∃ wy, wx.drewN nq = wy := ⟨_, rfl⟩
      rw [hwx]
      have hbx : Below wx.heap.size wx wy := hwx ▸ below_drewN wx nq
      have HGR := hD (HGR.out.below hbx)
      have HDR := hD (HDR.out.stays hbx)
      have HBW : Hid (Below g0 w wy) := hD (HBW.out.trans (hbx.mono (by omega)))
      have hsr := Nat.le_trans hsr hbx.size
      obtain ⟨b0r, b0f, b0n, b0c, b0z, b0l⟩ := keep1 (g := g0) (cs := chkA x.from_ x.to_ x.n x.of_ B5 x.data.length d5) hbx b0r (by go_simp) b0f
      clear hwx hbx
      have HG7 := HGR
      have HD7 := HDR
      have HB7 := HBW
      have hO7 := HG7.out.row.alloc (.cells (chkA x.from_ x.to_ x.n x.of_ B5 x.data.length d5) 80)
      have hv7 : (wy.alloc (.cells (chkA x.from_ x.to_ x.n x.of_ B5 x.data.length d5) 80)).heap[wy.heap.size]? = some (.cells (kChk.cell x (B5, d5)).toArray 80 (0, 0)) := blk_top rfl
      have hvg7 : (some (⟨g, 0, none⟩ : Addr)).map (·.block) ≠ some wy.heap.size := fun e => by have := (HG7.out.row.block _ e).2; omega
      have hbs7 : w2.heap.size ≤ (wy.alloc (.cells (chkA x.from_ x.to_ x.n x.of_ B5 x.data.length d5) 80)).heap.size := by simp; omega
      have HIN := hD (insChunks_calls (some ⟨g, 0, none⟩) l.length c1 l.length (kChk.cells l ds) wy.heap.size (kChk.cell x (B5, d5)) 80 _ w2.heap.size hO7 rfl hv7 hvg7 (kChk.one _ _) (cells_oneCell _ _) hbs7 (by omega) (by omega))
      clear hO7 hv7 hvg7
      go_wp2_with fail
      refine HIN.out.mono ?_
      rintro e w9 ⟨A', c', rfl, hown, hb9, hk9, hor9⟩
      have hba7 := (Below.refl wy.heap.size wy).alloc (Nat.le_refl _) (.cells (chkA x.from_ x.to_ x.n x.of_ B5 x.data.length d5) 80)
      have hG9 := (HG7.out.below hba7).ins (x := x) (e := (B5, d5)) (k := l.length) (by omega) hown hb9 hk9 hor9 (HD7.out.stays hba7) hd5 (fun _ q e e2 => by have h5 := HBB.out q e; have h6 := HA1.out q e2; omega)
      have HG9 := hD hG9
      have HB9 : Hid (Below g0 w w9) := hD ((HB7.out.alloc (by omega) _).trans (hb9.mono (by omega)))
      clear hown hb9 hk9 hor9 hba7 hG9 HIN
      go_wp2_with fail
      go_ret2
      rw [HZ.out]
      have hlen : (l.take l.length ++ x :: l.drop l.length).length = l.length + 1 := by rw [List.length_append, List.length_take, List.length_cons, List.length_drop]; omega
      refine ⟨A', c', _, by rw [hlen]; rfl, HG9.out.mono (by rw [HGE.out]; omega), (HN5.out.imp fun q hq => by rw [HGE.out]; omega).ins HG7.out.len (by omega) (fun q e => by have := HBB.out q e; rw [HGE.out]; omega), HGE.out.symm ▸ HB9.out⟩
  ·have HKN : Hid (decide (kin q x) = false) := hD (decide_eq_false hkn)
   have hz := chkAdd_other HE1.out HE2.out HQE.out hkn
   rw [HR.out] at hz
   have HZ := hD hz
   clear hkn hz
   refine wp_region_chain (by kernel_rfl) (some 25 :: some 26 :: some 27 :: some 28 :: some 29 :: some 30 :: some 31 :: some 32 :: some 33 :: some 34 :: some 35 :: []) (.slice (some ⟨g, 0, none⟩) l.length c1 :: .int .i64 (l.length : Int) :: .bool true :: .bool true :: .slice (some ⟨g, 0, none⟩) l.length c1 :: .pointer (some ⟨g, 0, none⟩) :: .agg (chkA q.from_ q.to_ q.n q.of_ D q.data.length dq) :: .agg (chkA x.from_ x.to_ x.n x.of_ B5 x.data.length d5) :: .bool false :: .bool true :: .bool true :: []) 74 rfl rfl (by decide +kernel) (by decide +kernel) (by decide +kernel) rfl ?_ ?_
   ·refine ⟨.inl ⟨rfl, fun done a wq hw h => ?_⟩, ?_⟩
    ·have e0 := cO 0 (.slice (some ⟨g, 0, none⟩) l.length c1) h; exact ch_move (ch_ev e0)
    refine ⟨.inl ⟨rfl, fun done a wq hw h => ?_⟩, ?_⟩
    ·have e25 := cN 0 25 h hw; refine ch_pure ?_; go_simp
    refine ⟨.inl ⟨rfl, fun done a wq hw h => ?_⟩, ?_⟩
    ·have e26 := cN 1 26 h hw; have h1 := HL0.out; have h2 := HLN.out; refine ch_pure ?_; go_simp
    refine ⟨.inl ⟨rfl, fun done a wq hw h => ?_⟩, ?_⟩
    ·have e27 := cN 2 27 h hw; exact ch_move (ch_ev e27)
    refine ⟨.inl ⟨rfl, fun done a wq hw h => ?_⟩, ?_⟩
    ·have e0 := cO 0 (.slice (some ⟨g, 0, none⟩) l.length c1) h; exact ch_move (ch_ev e0)
    refine ⟨.inl ⟨rfl, fun done a wq hw h => ?_⟩, ?_⟩
    ·have e29 := cN 4 29 h hw; have h1 := HL0.out; have h2 := HLN.out; refine ch_pure ?_; go_simp
    refine ⟨.inl ⟨rfl, fun done a wq hw h => ?_⟩, ?_⟩
    ·have e30 := cN 5 30 h hw; obtain ⟨c0, c1_, c2, c3, c4⟩ := HQ.out wq (HD.out wq h.bel); refine ch_pure ?_; go_simp
    refine ⟨.inl ⟨rfl, fun done a wq hw h => ?_⟩, ?_⟩
    ·have e3 := cO 3 (.pointer (some ⟨g0, 0, none⟩)) h; obtain ⟨r_, f_, n_, c_, z_, l_⟩ := keep1 h.bel R3 (by go_simp) F3; refine ch_pure ?_; go_simp
    refine ⟨.inl ⟨rfl, fun done a wq hw h => ?_⟩, ?_⟩
    ·have e31 := cN 6 31 h hw; have e32 := cN 7 32 h hw; exact ch_call (vals := #[.agg (chkA q.from_ q.to_ q.n q.of_ D q.data.length dq), .agg (chkA x.from_ x.to_ x.n x.of_ B5 x.data.length d5)]) (by go_simp) (by go_simp) (by have := kinY_calls D B5 dq d5 q x wq; rwa [HKN.out] at this)
    refine ⟨.inl ⟨rfl, fun done a wq hw h => ?_⟩, ?_⟩
    ·have e33 := cN 8 33 h hw; refine ch_pure ?_; go_simp
    refine ⟨.inl ⟨rfl, fun done a wq hw h => ?_⟩, ?_⟩
    ·have e28 := cN 3 28 h hw; have e34 := cN 9 34 h hw; exact ch_pick_t e28 (ch_ev e34)
    exact trivial
   ·intro w6 hb6
    simp only [putAll_some, putAll_none, putAll_nil, List.setIfInBounds_toArray, List.set_cons_zero, List.set_cons_succ]
    obtain ⟨a0r, a0f, a0n, a0c, a0z, a0l⟩ := keep1 (g := g0) (cs := chkA x.from_ x.to_ x.n x.of_ B5 x.data.length d5) hb6 R3 (by go_simp) F3
    have HB6 : Hid (Below g0 w w6) := hD (HB5.out.trans (hb6.mono (by omega)))
    have HD6 := hD (HD5.out.stays hb6)
    have hs6 := hb6.size
    clear hb6 R3 F3
    go_wp2_with fail
    go_ret2
    rw [HZ.out]
    refine ⟨_, _, [(B5, d5)], rfl, grow_one (blk_top rfl) (by rw [HGE.out]; omega) (HD6.out.stays ((Below.refl _ _).alloc (Nat.le_refl _) _)) hd5 (fun k e => ?_), each_one (fun k e => by have := HBB.out k e; rw [HGE.out]; omega), (HGE.out.symm ▸ HB6.out.alloc (by omega) _)⟩
    have := HBL.out k e; omega
theorem DevIn.hear {d : Dev} {L : DLoc} (h : DevIn w d L) {A : Option Addr} {c : Nat} (h1 : l.length ≤ c) (h2 : l.length ≤ 1048576) (h3 : Chs w A l) : DevIn w { d with got := l } { L with ag := A, cg := c } := ⟨h.k0, h.l0, h.b0, h.k1, h.l1, h.b1, h1, h2, h3, h.job, h.ir, h.id⟩
theorem chkAdd_all {c x : Chk} (h : x ∈ (chkAdd l c).1) : x ∈ l ∨ x = c := by
 unfold chkAdd at h
 by_cases h1 : chkList l ≠ 0
 ·rw [if_pos h1] at h; simp at h
 rw [if_neg h1] at h
 by_cases h2 : chkCheck c ≠ 0
 ·rw [if_pos h2] at h; simp at h
 rw [if_neg h2] at h
 rcases l with _ | ⟨y, r⟩
 ·dsimp only at h; exact .inr (by simpa using h)
 dsimp only at h
 by_cases h3 : ¬ kin y c
 ·rw [if_pos h3] at h; exact .inr (by simpa using h)
 rw [if_neg h3] at h
 by_cases h4 : ∃ z ∈ y :: r, z.n = c.n
 ·rw [if_pos h4] at h; exact .inl h
 rw [if_neg h4] at h
 rcases List.mem_append.1 h with h | h
 ·exact .inl (List.mem_of_mem_take h)
 ·rcases List.mem_cons.1 h with h | h
  ·exact .inr h
  ·exact .inl (List.mem_of_mem_drop h)
theorem chkAdd_len {c : Chk} (h : (chkAdd l c).2 = 0) : (chkAdd l c).1.length ≤ 100 := by
 unfold chkAdd at h ⊢
 by_cases h1 : chkList l ≠ 0
 ·rw [if_pos h1] at h; exact absurd h h1
 rw [if_neg h1] at h ⊢
 have hl := chkList_len (Decidable.not_not.1 h1)
 by_cases h2 : chkCheck c ≠ 0
 ·rw [if_pos h2] at h; exact absurd h h2
 rw [if_neg h2] at h ⊢
 rcases l with _ | ⟨y, r⟩
 ·simp
 dsimp only
 split
 ·simp
 split
 ·dsimp only; omega
 ·simp only [List.length_append, List.length_take, List.length_cons, List.length_drop] at hl ⊢; omega
theorem Fresh.and {base : Nat} {P Q : World → Prop} (h : Fresh base w P) (g : Fresh base w Q) : Fresh base w (fun v => P v ∧ Q v) := fun v hv => ⟨h v hv, g v hv⟩
theorem devHear_bad (d : Dev) (L : DLoc) (x : Chk) (B : Option Addr) (e : Nat) (w : World) (h : DevIn w d L) (hx : ChkIn w x B e) (hne : devReady d ≠ 0) : Calls Try.prog 58 #[.agg (devA d L), .agg (chkA x.from_ x.to_ x.n x.of_ B x.data.length e)] w (DvRet w Dev.zero (devReady d)) := by
 have hba : Below w.heap.size w (((w.alloc (.cells (devA d L) 39)).alloc (.cells (chkA x.from_ x.to_ x.n x.of_ B x.data.length e) 80)).alloc (.cells (devA Dev.zero DLoc.zero) 39)) := (((Below.refl w.heap.size w).alloc (by first | omega | (simp <;> omega)) (.cells (devA d L) 39)).alloc (by first | omega | (simp <;> omega)) (.cells (chkA x.from_ x.to_ x.n x.of_ B x.data.length e) 80)).alloc (by first | omega | (simp <;> omega)) (.cells (devA Dev.zero DLoc.zero) 39)
 have HBA := hD hba
 have HIN := hD h
 have KB := hD (fun w h => ready_bad d L w h hne)
 have q : (devReady d != 0) = true := by simp [hne]
 generalize devReady d = n at *
 clear hne h hba
 go_enter Try.func58, Try.ntmps58
 go_wp2_with fail
 refine (KB.out _ (HIN.out.stays HBA.out)).mono ?_
 rintro e w1 ⟨rfl, hb1⟩
 obtain ⟨a0r, a0f, a0n, a0c, a0z, a0l⟩ := kp (w.heap.size) (devA d L) hb1
 obtain ⟨a1r, a1f, a1n, a1c, a1z, a1l⟩ := kp (w.heap.size + 1) (chkA x.from_ x.to_ x.n x.of_ B x.data.length e) hb1
 obtain ⟨a2r, a2f, a2n, a2c, a2z, a2l⟩ := kp (w.heap.size + 1 + 1) (devA Dev.zero DLoc.zero) hb1
 have HB1 := hD (HBA.out.trans (hb1.mono (by simp <;> omega)))
 clear hb1
 go_wp2_with fail
 refine bodyPost_ret (results_ct rfl rfl (cs := devA Dev.zero DLoc.zero) (by go_simp) (by go_simp) (by go_simp)) rfl ⟨DLoc.zero, rfl, .const fun v => DevIn.zero v, ?_⟩
 have hs := HB1.out.size
 repeat (first | exact HB1.out | refine bR ?_ _ | refine bC ?_ _ | refine bA ?_ _)
theorem devHear_ok (d : Dev) (L : DLoc) (x : Chk) (B : Option Addr) (e : Nat) (w : World) (h : DevIn w d L) (hx : ChkIn w x B e) (hz : devReady d = 0) : Calls Try.prog 58 #[.agg (devA d L), .agg (chkA x.from_ x.to_ x.n x.of_ B x.data.length e)] w (DvRet w (devHear d x).1 (devHear d x).2) := by
 have hba : Below w.heap.size w (((w.alloc (.cells (devA d L) 39)).alloc (.cells (chkA x.from_ x.to_ x.n x.of_ B x.data.length e) 80)).alloc (.cells (devA Dev.zero DLoc.zero) 39)) := (((Below.refl w.heap.size w).alloc (by first | omega | (simp <;> omega)) (.cells (devA d L) 39)).alloc (by first | omega | (simp <;> omega)) (.cells (chkA x.from_ x.to_ x.n x.of_ B x.data.length e) 80)).alloc (by first | omega | (simp <;> omega)) (.cells (devA Dev.zero DLoc.zero) 39)
 have HBA := hD hba
 have HIN := hD h
 have KR := hD (fun w h => ready_ok d L w h hz)
 have hdef : devHear d x = if d.busy = true then (Dev.zero, 5) else if (chkAdd d.got x).2 ≠ 0 then (Dev.zero, (chkAdd d.got x).2) else ({ d with got := (chkAdd d.got x).1 }, 0) := by unfold devHear; rw [if_neg (by omega)]
 have HLG := hD h.lg
 have HBD : Hid (∀ y ∈ (chkAdd d.got x).1, ChkB y) := hD (fun y hy => by
  rcases chkAdd_all hy with hy | hy
  ·exact h.got.bound y hy
  ·subst hy; exact ⟨hx.len, hx.i0, hx.i1, hx.i2, hx.i3⟩)
 have HLN : Hid ((chkAdd d.got x).2 = 0 → (chkAdd d.got x).1.length ≤ 100) := hD (fun e => chkAdd_len e)
 have HX := hD hx
 have K2 := hD (fun A c w h1 h2 => chkAdd_calls A B c e d.got x w HLG.out h1 h2)
 obtain ⟨⟨l2, e2⟩, hq⟩ : ∃ y, chkAdd d.got x = y := ⟨_, rfl⟩
 rw [hq] at hdef HBD HLN K2
 dsimp only at hdef
 have HD := hD hdef
 generalize devHear d x = res at *
 clear hz h hba hdef hq hx
 go_enter Try.func58, Try.ntmps58
 go_wp2_with fail
 refine (KR.out _ (HIN.out.stays HBA.out)).mono ?_
 rintro e w1 ⟨L1, rfl, hfr, hb1⟩
 obtain ⟨a0r, a0f, a0n, a0c, a0z, a0l⟩ := kp (w.heap.size) (devA d L) hb1
 obtain ⟨a1r, a1f, a1n, a1c, a1z, a1l⟩ := kp (w.heap.size + 1) (chkA x.from_ x.to_ x.n x.of_ B x.data.length e) hb1
 obtain ⟨a2r, a2f, a2n, a2c, a2z, a2l⟩ := kp (w.heap.size + 1 + 1) (devA Dev.zero DLoc.zero) hb1
 have HFR : Hid (Fresh (w.heap.size + 3) w1 (fun v => DvOwn v (w.heap.size + 3) d L1)) := hD (by simpa [Nat.add_assoc] using hfr)
 have HB1 := hD (HBA.out.trans (hb1.mono (by simp <;> omega)))
 have hsz1 : w.heap.size + 3 ≤ w1.heap.size := by have := hb1.size; simp at this; omega
 have HK1 : Hid (Kp (w.heap.size + 3) w1 w1) := hD (Kp.refl _ _)
 clear hb1 hfr
 by_cases c1 : d.busy = true
 ·have hz : res = (Dev.zero, 5) := HD.out.trans (if_pos c1)
  subst hz
  go_wp2_with fail
  refine bodyPost_ret (results_ct rfl rfl (cs := devA Dev.zero DLoc.zero) (by go_simp) (by go_simp) (by go_simp)) rfl ⟨DLoc.zero, rfl, .const fun v => DevIn.zero v, ?_⟩
  have hs := HB1.out.size
  repeat (first | exact HB1.out | refine bR ?_ _ | refine bC ?_ _ | refine bA ?_ _)
 have HD2 := hD (HD.out.trans (if_neg c1))
 have c1 : d.busy = false := by simpa using c1
 clear HD
 go_wp2_with fail
 refine (K2.out L1.ag L1.cg _ ?_ ?_).mono ?_
 ·refine (Fresh.kp (B := w.heap.size + 3) HFR.out ?_ (Nat.le_refl _) (by first | omega | (simp <;> omega))).now.devIn.got
  repeat (first | exact HK1.out | exact Kp.refl _ _ | refine Kp.row ?_ (by omega) _ | refine Kp.cell ?_ (by first | (show _ < _ ∨ _ ≤ _; omega) | (simp <;> omega)) _ | refine Kp.alloc ?_ (by first | omega | (simp <;> omega)) _)
 ·refine HX.out.stays ?_
  have hs := HB1.out.size
  repeat (first | exact HB1.out | refine bR ?_ _ | refine bC ?_ _ | refine bA ?_ _)
 rintro en w2 ⟨A2, c2, ds, rfl, hrow, heach, hb⟩
 have HS2 : Hid (w1.heap.size + 1 ≤ w2.heap.size) := hD (by have := hb.size; simpa using this)
 obtain ⟨a0r, a0f, a0n, a0c, a0z, a0l⟩ := kp (w.heap.size) (devA d L1) hb
 obtain ⟨a1r, a1f, a1n, a1c, a1z, a1l⟩ := kp (w.heap.size + 1 + 1) (devA Dev.zero DLoc.zero) hb
 have hbs2 := hb.size
 have hsz2 : w1.heap.size ≤ w2.heap.size := by first | omega | (simp at hbs2; omega)
 have HK2 : Hid (Kp (w.heap.size + 3) w1 w2) := hD (by
  refine Kp.below ?_ (by first | omega | (simp <;> omega)) hb
  repeat (first | exact HK1.out | exact Kp.refl _ _ | refine Kp.row ?_ (by omega) _ | refine Kp.cell ?_ (by first | (show _ < _ ∨ _ ≤ _; omega) | (simp <;> omega)) _ | refine Kp.alloc ?_ (by first | omega | (simp <;> omega)) _))
 have HB2 : Hid (Below w.heap.size w w2) := hD (by
  refine Below.trans ?_ (hb.mono (by first | omega | (simp <;> omega)))
  have hs := HB1.out.size
  repeat (first | exact HB1.out | refine bR ?_ _ | refine bC ?_ _ | refine bA ?_ _))
 clear hb hbs2
 have HGR : Hid (Fresh (w1.heap.size + 1) w2 (fun v => GRow kChk v (w1.heap.size + 1) l2 ds A2 c2)) := hD (by
  have h1 := hrow.fresh heach
  simpa using h1)
 have HC2 := hD hrow.row.le
 have hsz3 : w1.heap.size + 1 ≤ w2.heap.size := HS2.out
 clear hrow heach
 by_cases c2' : e2 ≠ 0
 ·have hz : res = (Dev.zero, e2) := HD2.out.trans (if_pos c2')
  subst hz
  have q : (e2 != 0) = true := by simp [c2']
  clear c2'
  go_wp2_with fail
  refine bodyPost_ret (results_ct rfl rfl (cs := devA Dev.zero DLoc.zero) (by go_simp) (by go_simp) (by go_simp)) rfl ⟨DLoc.zero, rfl, .const fun v => DevIn.zero v, ?_⟩
  have hs := HB2.out.size
  repeat (first | exact HB2.out | refine bR ?_ _ | refine bC ?_ _ | refine bA ?_ _)
 have c2' := Decidable.not_not.1 c2'
 subst c2'
 have hz : res = ({ d with got := l2 }, 0) := HD2.out.trans (if_neg (by decide))
 subst hz
 have HL2 : Hid (l2.length ≤ 1048576) := hD (by have := HLN.out rfl; omega)
 clear HLN HD2
 go_wp2_with fail
 refine bodyPost_ret (results_ct rfl rfl (cs := devA { d with got := l2 } { L1 with ag := A2, cg := c2 }) (by go_simp) (by go_simp) (by go_simp)) rfl ⟨{ L1 with ag := A2, cg := c2 }, rfl, ?_, ?_⟩
 ·refine Fresh.imp (P := fun v => DvOwn v (w.heap.size + 3) d L1 ∧ GRow kChk v (w1.heap.size + 1) l2 ds A2 c2) (Fresh.and (Fresh.kp HFR.out ?_ (by omega) (by first | omega | (simp <;> omega))) (Fresh.kp HGR.out ?_ (by omega) (by first | omega | (simp <;> omega)))) (fun v hv => hv.1.devIn.hear HC2.out HL2.out (hv.2.src.chs HBD.out))
  ·repeat (first | exact HK2.out | exact Kp.refl _ _ | refine Kp.row ?_ (by omega) _ | refine Kp.cell ?_ (by first | (show _ < _ ∨ _ ≤ _; omega) | (simp <;> omega)) _ | refine Kp.alloc ?_ (by first | omega | (simp <;> omega)) _)
  ·repeat (first | exact HK2.out | exact Kp.refl _ _ | refine Kp.row ?_ (by omega) _ | refine Kp.cell ?_ (by first | (show _ < _ ∨ _ ≤ _; omega) | (simp <;> omega)) _ | refine Kp.alloc ?_ (by first | omega | (simp <;> omega)) _)
 ·have hs := HB2.out.size
  repeat (first | exact HB2.out | refine bR ?_ _ | refine bC ?_ _ | refine bA ?_ _)
theorem devHear_calls (d : Dev) (L : DLoc) (x : Chk) (B : Option Addr) (e : Nat) (w : World) (h : DevIn w d L) (hx : ChkIn w x B e) : Calls Try.prog 58 #[.agg (devA d L), .agg (chkA x.from_ x.to_ x.n x.of_ B x.data.length e)] w (DvRet w (devHear d x).1 (devHear d x).2) := by
 by_cases hz : devReady d = 0
 ·exact devHear_ok d L x B e w h hx hz
 ·have e1 : devHear d x = (Dev.zero, devReady d) := by unfold devHear; rw [if_pos hz]
  rw [e1]; exact devHear_bad d L x B e w h hx hz
def DelRet (w : World) (base n c : Nat) (g : Nat) (out : List Value) : Ending → World → Prop := fun en w' =>
 en = .returned (.slice (some ⟨g, 0, none⟩) (n - 1) c) ∧ Own w' base 80 5 (some ⟨g, 0, none⟩) (n - 1) c out ∧ Below base w w' ∧ w'.heap.size = w.heap.size ∧ (∀ k, k ≠ g → w'.heap[k]? = w.heap[k]?)
def delJ (w0 : World) (g n c : Nat) (w1 : World) : Nat → (Nat → Value) → World → Prop
 | 0, _, w => w = w0.drew
 | 1, cv, w => w = w1.drew ∧ cv 6 = .slice (some ⟨g, 0, none⟩) (n - 1) c
 | _, cv, w => w = w1.drew ∧ cv 7 = .slice (some ⟨g, 0, none⟩) (n - 1) c
theorem wp_appN {P : Program} {o : Oper} {a : Act} {K : Act → World → Prop} {Q : Exit → Act → World → Prop} (d s : Operand) (t t' : TypeId)
  (ho : o.op = .call { callee := .builtin .append, args := #[d, s], argTypes := #[t, t'] }) (v u : Value) (hd : a.eval d = v) (hs : a.eval s = u) {v' : Value} {w' : World}
  (hr : (Builtin.append_ #[t, t'] o.type #[v, u]).run P w = .ok v' w') (h : K (a.put o.dst v') w') : o.wp P a w K Q := by
 unfold Oper.wp execOp
 simp only [ho, resolve, invoke, builtin, Sem.run_bind, Sem.run_pure, Result.andThen_ok, List.map_toArray, List.map_cons, List.map_nil, hd, hs, hr]
 exact h
theorem drew_setRowD (w : World) (g : Nat) (cs : Array Value) : w.drew.setRow g cs = (w.setRow g cs).drew := rfl
theorem del_list (L cs Z : List Value) (i n : Nat) (hL : n * 5 ≤ L.length) (hi : i < n) (hc : cs = (L.take (n * 5)).drop ((i + 1) * 5)) (hZ : Z.length = 5) :
  (over (over L (i * 5) cs) ((n - 1) * 5) Z).take ((n - 1) * 5) = (L.take (n * 5)).take (i * 5) ++ (L.take (n * 5)).drop ((i + 1) * 5) ∧ (over (over L (i * 5) cs) ((n - 1) * 5) Z).length = L.length := by
 have hcl : cs.length = (n - (i + 1)) * 5 := by rw [hc]; simp; omega
 have h1 : (over L (i * 5) cs).length = L.length := by unfold over; simp; omega
 constructor
 ·unfold over
  have e1 : (L.take (i * 5) ++ cs).length = (n - 1) * 5 := by simp; omega
  rw [List.append_assoc, List.take_append_of_le_length (by simp; omega), List.take_take, Nat.min_self, List.take_append_of_le_length (by omega), List.take_of_length_le (by omega), hc]
  congr 1
  rw [List.take_take]
  congr 1
  omega
 ·unfold over at h1 ⊢
  simp at h1 ⊢
  omega
theorem delChunk_calls (g n c i : Nat) (xs : List Value) (wo : World) (base : Nat) (hO : Own wo base 80 5 (some ⟨g, 0, none⟩) n c xs) (h2 : ∀ u ∈ xs, u.oneCell' = true) (hi : i < n) (hn : n ≤ 1000) :
  Calls Try.prog 59 #[.slice (some ⟨g, 0, none⟩) n c, iv (i : Int), iv ((i : Int) + 1)] wo (DelRet wo base n c g (xs.take (i * 5) ++ xs.drop ((i + 1) * 5))) := by
 have hle := hO.le
 obtain ⟨hxl, ⟨hv0, _⟩ | ⟨g', cap, cur, hv0, hbg, hgc, hncap, hmax, hcs, hxs0⟩⟩ := hO
 ·cases hv0
 injection hv0 with e1 e2 e3
 injection e1 with e1
 injection e1 with e1 e4
 subst e1 e3
 obtain ⟨L, hL⟩ : ∃ L, cur.toList = L := ⟨_, rfl⟩
 have hcur : cur = L.toArray := by rw [← hL]
 subst hcur
 simp only [List.size_toArray] at hcs
 have hxs : xs = L.take (n * 5) := by simpa using hxs0.symm
 subst hxs
 have hgl := blk_lt hgc
 obtain ⟨cs, hcs2⟩ : ∃ cs, (L.take (n * 5)).drop ((i + 1) * 5) = cs := ⟨_, rfl⟩
 have hcl : cs.length = (n - (i + 1)) * 5 := by rw [← hcs2]; simp; omega
 have h3 : ∀ u ∈ cs, u.oneCell' = true := fun u hu => h2 u (by rw [← hcs2] at hu; exact List.mem_of_mem_drop hu)
 have k0 : 0 < c := by omega
 have HS0 : ∀ wq, (Instr.slice 34 (.slice (some ⟨g, 0, none⟩) n c) (some (.int .i64 (i : Int))) (some (.int .i64 ((i : Int) + 1))) (some (.int .i64 (n : Int)))).run Try.prog wq = .ok (.slice (some ⟨g, i * 5, none⟩) 1 (n - i)) wq := fun wq => by
  have k1 : (i : Int) ≤ (i : Int) + 1 := by omega
  have k2 : (i : Int) + 1 ≤ (n : Int) := by omega
  have k3 : (n : Int) ≤ (c : Int) := by omega
  have k4 : ((i : Int) + 1).toNat = i + 1 := by omega
  have k5 : (0 : Int) ≤ (i : Int) + 1 := by omega
  have k6 : i + 1 - i = 1 := by omega
  have k7 : ¬ n = i := by omega
  go_simp
 have HS1 : Hid (∀ wq, (Instr.slice 34 (.slice (some ⟨g, 0, none⟩) n c) none (some (.int .i64 (i : Int))) none).run Try.prog wq = .ok (.slice (some ⟨g, 0, none⟩) i c) wq) := hD (fun wq => by
  have k1 : ¬ c = 0 := by omega
  have k2 : (i : Int) ≤ (c : Int) := by omega
  go_simp)
 obtain ⟨a2, c2, hs2, hcell⟩ : ∃ a2 c2, (∀ wq, (Instr.slice 34 (.slice (some ⟨g, 0, none⟩) n c) (some (.int .i64 ((i : Int) + 1))) none none).run Try.prog wq = .ok (.slice (some a2) (n - (i + 1)) c2) wq) ∧ (∀ j u, cs[j]? = some u → wo.cell? (a2.add j) = some u) := by
  have k2 : (i : Int) + 1 ≤ (n : Int) := by omega
  have k4 : ((i : Int) + 1).toNat = i + 1 := by omega
  have k5 : (0 : Int) ≤ (i : Int) + 1 := by omega
  by_cases e : c = i + 1
  ·refine ⟨⟨g, 0, none⟩, 0, fun wq => ?_, fun j u hu => ?_⟩
   ·have k6 : n = i + 1 := by omega
    subst k6
    subst e
    go_simp
   ·have : cs = [] := List.eq_nil_of_length_eq_zero (by rw [hcl]; omega)
    rw [this] at hu; simp at hu
  ·refine ⟨⟨g, (i + 1) * 5, none⟩, c - (i + 1), fun wq => ?_, fun j u hu => ?_⟩
   ·go_simp
   ·rw [← hcs2, List.getElem?_drop] at hu
    have hj : (i + 1) * 5 + j < (L.take (n * 5)).length := (List.getElem?_eq_some_iff.1 hu).1
    rw [List.length_take] at hj
    have e5 : (⟨g, (i + 1) * 5, none⟩ : Addr).add j = ⟨g, (i + 1) * 5 + j, none⟩ := by simp [Addr.add]
    rw [e5, cell_of_row _ _ _ _ _ _ hgc]
    rw [List.getElem?_take, if_pos (by omega)] at hu
    simpa using hu
 have HS2 := hD hs2
 obtain ⟨w1, hw1⟩ : ∃ w1, wo.setRow g (over L (i * 5) cs).toArray = w1 := ⟨_, rfl⟩
 have hi5 : (Try.prog.info? 80).map (fun t => t.size) = some 5 := by kernel_rfl
 have HA : Hid (∀ (ty : TypeId) (q : Unit), (Builtin.append_ #[34, 34] ty #[.slice (some ⟨g, 0, none⟩) i c, .slice (some a2) (n - (i + 1)) c2]).run Try.prog wo.drew = .ok (.slice (some ⟨g, 0, none⟩) (n - 1) c) w1.drew) := hD (fun ty q => by
  cases hq : Try.prog.info? 80 with
  | none => rw [hq] at hi5; cases hi5
  | some t =>
   rw [hq] at hi5
   have ht5 : t.size = 5 := by simpa using hi5
   have hgd : wo.drew.heap[g]? = some (.cells L.toArray 80 (0, 0)) := hgc
   have h9 := run_append_room_cells (P := Try.prog) wo.drew 34 ty 80 t Try.underlying34 hq g 0 i c a2 (n - (i + 1)) c2 cs (by rw [ht5]; exact hcl) (fun j u hu => hcell j u hu) h3 (by omega)
    (fun j hj => by rw [ht5, cell_of_row _ _ _ _ _ _ hgd]; simp; omega) (fun j hj => frozen_of_row _ _ _ _ _ hgd)
   rw [h9, ht5, show i + (n - (i + 1)) = n - 1 by omega, setRow_eq hgd cs (by simp; omega), ← hw1]
   congr 1
   rw [Nat.zero_add, drew_setRowD]
   congr 2)
 have hw1g : w1.heap[g]? = some (.cells (over L (i * 5) cs).toArray 80 (0, 0)) := by rw [← hw1]; exact setRow_heap wo g _ _ _ _ hgc
 obtain ⟨Z, hZ⟩ : ∃ Z : List Value, [.int .i64 0, .int .i64 0, .int .i64 0, .int .i64 0, .slice none 0 0] = Z := ⟨_, rfl⟩
 have hZl : Z.length = 5 := by rw [← hZ]; rfl
 obtain ⟨hd1, hd2⟩ := del_list L cs Z i n (by omega) hi hcs2.symm hZl
 have hol : (over L (i * 5) cs).length = L.length := by unfold over; simp; omega
 have hcl2 : ∀ ty, (Builtin.clear_ #[34] ty #[.slice (some ⟨g, (n - 1) * 5, none⟩) 1 (c - (n - 1))]).run Try.prog w1.drew = .ok (.tuple #[]) (w1.setRow g (over (over L (i * 5) cs) ((n - 1) * 5) Z).toArray).drew := fun ty => by
  have hgd : w1.drew.heap[g]? = some (.cells (over L (i * 5) cs).toArray 80 (0, 0)) := hw1g
  have h9 := run_storeCells_at Try.prog g ((n - 1) * 5) 80 Z 0 (over L (i * 5) cs).toArray w1.drew hgd (by simp only [List.size_toArray]; omega) (by rw [← hZ]; simp [Value.oneCell'])
  have hzv : (zeroValue 80).run Try.prog w1.drew = .ok (.agg #[.int .i64 0, .int .i64 0, .int .i64 0, .int .i64 0, .slice none 0 0]) w1.drew := by kernel_rfl
  have hst : (storeCells ⟨g, (n - 1) * 5, none⟩ Z).run Try.prog w1.drew = .ok () (w1.setRow g (over (over L (i * 5) cs) ((n - 1) * 5) Z).toArray).drew := by
   rw [h9, drew_setRowD]
   congr 3
  rw [← hZ] at hst ⊢
  have hze : (Builtin.zeroCells (Value.agg #[.int .i64 0, .int .i64 0, .int .i64 0, .int .i64 0, .slice none 0 0]).cells 1).toList = [.int .i64 0, .int .i64 0, .int .i64 0, .int .i64 0, .slice none 0 0] := by kernel_rfl
  simp [Builtin.clear_, run_underlying Try.underlying34, hzv, hze, hst]
 have HS3 : ∀ wq, (Instr.slice 34 (.slice (some ⟨g, 0, none⟩) (n - 1) c) (some (.int .i64 ((n - 1 : Nat) : Int))) (some (.int .i64 (n : Int))) none).run Try.prog wq = .ok (.slice (some ⟨g, (n - 1) * 5, none⟩) 1 (c - (n - 1))) wq := fun wq => by
  have k1 : ((n - 1 : Nat) : Int) ≤ (n : Int) := by omega
  have k3 : (n : Int) ≤ (c : Int) := by omega
  have k6 : n - (n - 1) = 1 := by omega
  have k7 : ¬ c = n - 1 := by omega
  go_simp
 have q0 : ((i : Int) == (i : Int) + 1) = false := beq_eq_false_iff_ne.2 (by omega)
 have HOUT : Hid (Own (w1.setRow g (over (over L (i * 5) cs) ((n - 1) * 5) Z).toArray).drew base 80 5 (some ⟨g, 0, none⟩) (n - 1) c ((L.take (n * 5)).take (i * 5) ++ (L.take (n * 5)).drop ((i + 1) * 5))) := hD
  ⟨by simp; omega, Or.inr ⟨g, c, (over (over L (i * 5) cs) ((n - 1) * 5) Z).toArray, rfl, hbg, (setRow_heap w1 g _ _ _ _ hw1g : _), by omega, hmax, by simp only [List.size_toArray]; omega, by simpa using hd1⟩⟩
 have HBW : Hid (Below base wo (w1.setRow g (over (over L (i * 5) cs) ((n - 1) * 5) Z).toArray).drew) := hD (by rw [← hw1]; exact (below_row (below_row (Below.refl _ _) hbg _) hbg _).drew)
 have HSZ : Hid ((w1.setRow g (over (over L (i * 5) cs) ((n - 1) * 5) Z).toArray).drew.heap.size = wo.heap.size) := hD (by rw [← hw1]; show ((wo.setRow g _).setRow g _).heap.size = _; simp [World.setRow])
 have HKP : Hid (∀ k, k ≠ g → (w1.setRow g (over (over L (i * 5) cs) ((n - 1) * 5) Z).toArray).drew.heap[k]? = wo.heap[k]?) := hD (fun k hk => by
  rw [← hw1]
  show ((wo.setRow g _).setRow g _).heap[k]? = _
  exact (setRow_other _ _ _ _ hk).trans (setRow_other _ _ _ _ hk))
 generalize (L.take (n * 5)).take (i * 5) ++ (L.take (n * 5)).drop ((i + 1) * 5) = out at *
 generalize w1.setRow g (over (over L (i * 5) cs) ((n - 1) * 5) Z).toArray = w2 at *
 have hni : (i : Int) + 1 ≤ (n : Int) := by omega
 clear hs2 hcell hw1 hw1g hd1 hd2 hol hcs2 hZ hZl hgc hcs h2 h3 hxl hxs0 hL
 go_enter Try.func59, Try.ntmps59
 go_wp2_with fail
 refine wp_region_free (by kernel_rfl) (some 20 :: some 21 :: some 22 :: some 23 :: some 24 :: some 25 :: some 26 :: some 0 :: []) (false :: false :: false :: false :: false :: false :: true :: true :: []) (.slice (some ⟨g, 0, none⟩) n c :: iv (i : Int) :: .slice (some ⟨g, 0, none⟩) i c :: .slice (some ⟨g, 0, none⟩) n c :: iv ((i : Int) + 1) :: .slice (some a2) (n - (i + 1)) c2 :: undef :: undef :: []) (fun done cv w => delJ wo g n c w1 (lvlN [7, 6] done) cv w) 33 rfl rfl (by decide +kernel) (by decide +kernel) (by decide +kernel) rfl rfl (rfl) ?_ ?_
 ·refine ⟨?_, ?_⟩
  ·intro done cv a wq hn hw hcl h hJ
   have e0 := fr_un (t := 0) (i := 0) (i0 := 7) (v := .slice (some ⟨g, 0, none⟩) n c) h hcl hn rfl (by decide) (by decide) rfl
   exact mx_move (ch_ev e0)
  refine ⟨?_, ?_⟩
  ·intro done cv a wq hn hw hcl h hJ
   have e1 := fO 1 (iv (i : Int)) h
   exact mx_move (ch_ev e1)
  refine ⟨?_, ?_⟩
  ·intro done cv a wq hn hw hcl h hJ
   have e20 := fN 0 20 h hw; have e21 := fN 1 21 h hw
   have h1 := HS1.out
   go_simp
  refine ⟨?_, ?_⟩
  ·intro done cv a wq hn hw hcl h hJ
   have e0 := fr_un (t := 0) (i := 3) (i0 := 7) (v := .slice (some ⟨g, 0, none⟩) n c) h hcl hn rfl (by decide) (by decide) rfl
   exact mx_move (ch_ev e0)
  refine ⟨?_, ?_⟩
  ·intro done cv a wq hn hw hcl h hJ
   have e2 := fO 2 (iv ((i : Int) + 1)) h
   exact mx_move (ch_ev e2)
  refine ⟨?_, ?_⟩
  ·intro done cv a wq hn hw hcl h hJ
   have e23 := fN 3 23 h hw; have e24 := fN 4 24 h hw
   have h1 := HS2.out
   go_simp
  refine ⟨?_, ?_⟩
  ·intro done cv a wq hn hw hcl h hJ
   have e22 := fN 2 22 h hw; have e25 := fN 5 25 h hw
   have n6 := hn
   have n7 := nW 7 6 hcl n6
   have hl : lvlN [7, 6] (maskB [false, false, false, false, false, false, true, true] done) = 0 := by simp [lvlN, maskB, n6, n7]
   have hl2 : lvlN [7, 6] (fun j => if j = 6 then true else maskB [false, false, false, false, false, false, true, true] done j) = 1 := by simp [lvlN, maskB, n6, n7]
   rw [hl] at hJ
   have hK : ∀ (v : Value) (w' : World), delJ wo g n c w1 1 (fun j => if j = 6 then v else cv j) w' → delJ wo g n c w1 (lvlN [7, 6] (fun j => if j = 6 then true else maskB [false, false, false, false, false, false, true, true] done j)) (fun j => if j = 6 then v else cv j) w' := fun v w' h => by rw [hl2]; exact h
   obtain rfl : wq = wo.drew := hJ
   refine wp_appN (.tmp 22) (.tmp 25) 34 34 rfl _ _ (ch_ev e22) (ch_ev e25) (HA.out _ ()) ⟨_, rfl, hK _ _ ?_⟩
   exact ⟨rfl, by simp⟩
  refine ⟨?_, ?_⟩
  ·intro done cv a wq hn hw hcl h hJ
   have e26 := fr_cv (i := 6) (t := 26) h (hw 6 (by decide)) rfl rfl
   have n7 := hn
   have m6 := hw 6 (by decide)
   have hl : lvlN [7, 6] (maskB [false, false, false, false, false, false, true, true] done) = 1 := by simp [lvlN, maskB, n7, m6]
   have hl2 : lvlN [7, 6] (fun j => if j = 7 then true else maskB [false, false, false, false, false, false, true, true] done j) = 2 := by simp [lvlN, maskB, n7, m6]
   rw [hl] at hJ
   have hK : ∀ (v : Value) (w' : World), delJ wo g n c w1 2 (fun j => if j = 7 then v else cv j) w' → delJ wo g n c w1 (lvlN [7, 6] (fun j => if j = 7 then true else maskB [false, false, false, false, false, false, true, true] done j)) (fun j => if j = 7 then v else cv j) w' := fun v w' h => by rw [hl2]; exact h
   obtain ⟨rfl, y1⟩ := hJ
   rw [y1] at e26
   exact wp_asg (ch_ev e26) ⟨_, rfl, hK _ _ ⟨rfl, by simp⟩⟩
  exact trivial
 intro dn cv w6 hall hJ
 rw [show lvlN [7, 6] dn = 2 by simp [lvlN, hall 7 rfl (by decide)]] at hJ
 obtain ⟨rfl, y7⟩ := hJ
 simp only [freeAll, putAll_some, putAll_none, putAll_nil, List.getD_cons_zero, List.getD_cons_succ, Bool.false_eq_true, if_true, if_false, reduceIte, Nat.zero_add, Nat.reduceAdd, List.setIfInBounds_toArray, List.set_cons_zero, List.set_cons_succ]
 rw [y7]
 go_wp2_with fail
 go_ret
 exact ⟨rfl, HOUT.out, HBW.out, HSZ.out, HKP.out⟩
structure CbJ {α : Type} (w0 : World) (ci cm e0 e1 al st a1 : Nat) (row : α → Array Value) (zr : Array Value) (n : Int) (R : α → World → Prop) (x : α) (b gb : Nat) (w2 : World) (dn : Nat → Bool) (cv : Nat → Value) (w : World) : Prop where
 bel : Below w0.heap.size w0 w
 call : dn ci = true → cv ci = .tuple #[.agg (row x), iv n] ∧ w0.heap.size ≤ b ∧ Fresh b w2 (R x) ∧ Kp b w2 w ∧ w2.heap.size ≤ w.heap.size
 v1 : dn cm = true → cv cm = .tuple #[.agg (row x), iv n]
 v2 : dn e0 = true → cv e0 = .agg (row x)
 v3 : dn e1 = true → cv e1 = iv n
 v4 : dn a1 = true → cv a1 = iv n
 box : dn al = true → cv al = .pointer (some ⟨gb, 0, none⟩) ∧ w0.heap.size ≤ gb ∧ gb < w.heap.size ∧ frOf w gb = (0, 0) ∧ (dn st = false → rowOf w gb = zr) ∧ (dn st = true → rowOf w gb = row x)
 apart : dn ci = true → dn al = true → gb < b ∨ w2.heap.size ≤ gb
def cbJ {α : Type} (w0 : World) (ci cm e0 e1 al st a1 : Nat) (row : α → Array Value) (zr : Array Value) (n : Int) (R : α → World → Prop) (dn : Nat → Bool) (cv : Nat → Value) (w : World) : Prop :=
 ∃ (x : α) (b gb : Nat) (w2 : World), CbJ w0 ci cm e0 e1 al st a1 row zr n R x b gb w2 dn cv w
section
variable {α : Type} {w0 w w' : World} {ci cm e0 e1 al st a1 : Nat} {row : α → Array Value} {zr : Array Value} {n : Int} {R : α → World → Prop} {dn : Nat → Bool} {cv : Nat → Value}
theorem cbJ_start (x : α) : cbJ w0 ci cm e0 e1 al st a1 row zr n R (fun _ => false) (fun _ => undef) w0.drew :=
 ⟨x, 0, 0, w0, (Below.refl _ _).drew, by simp, by simp, by simp, by simp, by simp, by simp, by simp⟩
theorem cbJ_bel (h : cbJ w0 ci cm e0 e1 al st a1 row zr n R dn cv w) : Below w0.heap.size w0 w := by
 obtain ⟨_, _, _, _, h⟩ := h
 exact h.bel
theorem cbJ_c (h2 : dn cm = false) (h3 : dn e0 = false) (h4 : dn e1 = false) (h5 : dn a1 = false) (h7 : dn st = false) (n1 : cm ≠ ci) (n2 : e0 ≠ ci) (n3 : e1 ≠ ci) (n4 : a1 ≠ ci) (n5 : al ≠ ci) (n6 : st ≠ ci) (h : cbJ w0 ci cm e0 e1 al st a1 row zr n R dn cv w) {x : α} (hp : Fresh w.heap.size w' (R x)) (hb : Below w.heap.size w w') :
  cbJ w0 ci cm e0 e1 al st a1 row zr n R (fun j => if j = ci then true else dn j) (fun j => if j = ci then .tuple #[.agg (row x), iv n] else cv j) w' := by
 obtain ⟨x0, b0, gb, w20, h⟩ := h
 have hs := h.bel.size
 refine ⟨x, w.heap.size, gb, w', h.bel.trans (hb.mono hs), fun _ => ⟨by simp, hs, hp, Kp.refl _ _, Nat.le_refl _⟩, by simp [n1, h2], by simp [n2, h3], by simp [n3, h4], by simp [n4, h5], ?_, ?_⟩
 ·simp only [n5, n6, if_false]
  intro ha
  obtain ⟨g1, g2, g3, g4, g5, g6⟩ := h.box ha
  exact ⟨g1, g2, Nat.lt_of_lt_of_le g3 hb.size, (frOf_below g3 hb).trans g4, fun e => (rowOf_below g3 hb).trans (g5 e), fun e => by rw [h7] at e; cases e⟩
 ·simp only [n5, if_false]
  exact fun _ ha => .inl (h.box ha).2.2.1
theorem cbJ_k {k : Nat} {v : Value} (hne : ci ≠ k) (hal : al ≠ k) (hst : st ≠ k) (h : cbJ w0 ci cm e0 e1 al st a1 row zr n R dn cv w)
  (hv : ∀ x, (dn ci = true → cv ci = .tuple #[.agg (row x), iv n]) → (dn cm = true → cv cm = .tuple #[.agg (row x), iv n]) → (dn e0 = true → cv e0 = .agg (row x)) → (dn e1 = true → cv e1 = iv n) → (cm = k → v = .tuple #[.agg (row x), iv n]) ∧ (e0 = k → v = .agg (row x)) ∧ (e1 = k → v = iv n) ∧ (a1 = k → v = iv n)) :
  cbJ w0 ci cm e0 e1 al st a1 row zr n R (fun j => if j = k then true else dn j) (fun j => if j = k then v else cv j) w := by
 obtain ⟨x, b, gb, w2, h⟩ := h
 obtain ⟨v1, v2, v3, v4⟩ := hv x (fun e => (h.call e).1) h.v1 h.v2 h.v3
 have key : ∀ (q : Nat) (y : Value), (dn q = true → cv q = y) → (q = k → v = y) → ((if q = k then true else dn q) = true → (if q = k then v else cv q) = y) := by
  intro q y h1 h2 h3
  by_cases e : q = k
  ·rw [if_pos e]; exact h2 e
  ·rw [if_neg e] at h3 ⊢; exact h1 h3
 refine ⟨x, b, gb, w2, h.bel, by simp only [hne, if_false]; exact h.call, key _ _ h.v1 v1, key _ _ h.v2 v2, key _ _ h.v3 v3, key _ _ h.v4 v4, by simp only [hal, hst, if_false]; exact h.box, by simp only [hne, hal, if_false]; exact h.apart⟩
theorem cbJ_a {ty : TypeId} (hz : 0 < zr.size) (hal : dn al = false) (hs : dn st = false) (n1 : cm ≠ al) (n2 : e0 ≠ al) (n3 : e1 ≠ al) (n4 : a1 ≠ al) (n5 : ci ≠ al) (n6 : st ≠ al) (h : cbJ w0 ci cm e0 e1 al st a1 row zr n R dn cv w) :
  cbJ w0 ci cm e0 e1 al st a1 row zr n R (fun j => if j = al then true else dn j) (fun j => if j = al then .pointer (some ⟨w.heap.size, 0, none⟩) else cv j) (w.alloc (.cells zr ty)) := by
 obtain ⟨x, b, gb, w2, h⟩ := h
 have hsz := h.bel.size
 refine ⟨x, b, w.heap.size, w2, h.bel.alloc hsz _, ?_, by simpa [n1] using h.v1, by simpa [n2] using h.v2, by simpa [n3] using h.v3, by simpa [n4] using h.v4, ?_, ?_⟩
 ·simp only [n5, if_false]
  intro e
  obtain ⟨g1, g2, g3, g4, g5⟩ := h.call e
  exact ⟨g1, g2, g3, g4.alloc g5 _, by simp; omega⟩
 ·simp only [n6, if_false, if_true]
  refine fun _ => ⟨trivial, hsz, by simp, by rw [frOf_alloc, if_pos rfl], fun _ => by rw [rowOf_alloc, if_pos rfl], fun e => by rw [hs] at e; cases e⟩
 ·simp only [n5, if_false]
  intro e _
  exact .inr (h.call e).2.2.2.2
theorem cbJ_s (hz : 0 < zr.size) (hd : dn ci = true) (hs : dn st = false) (hal : dn al = true) (he0 : dn e0 = true) (n1 : cm ≠ st) (n2 : e0 ≠ st) (n3 : e1 ≠ st) (n4 : a1 ≠ st) (n5 : ci ≠ st) (n6 : al ≠ st) (h : cbJ w0 ci cm e0 e1 al st a1 row zr n R dn cv w) {v : Value} :
  ∃ (x : α) (gb : Nat), cv al = .pointer (some ⟨gb, 0, none⟩) ∧ cv e0 = .agg (row x) ∧ rowOf w gb = zr ∧ frOf w gb = (0, 0) ∧ cbJ w0 ci cm e0 e1 al st a1 row zr n R (fun j => if j = st then true else dn j) (fun j => if j = st then v else cv j) (w.setRow gb (row x)) := by
 obtain ⟨x, b, gb, w2, h⟩ := h
 obtain ⟨b1, b2, b3, b4, b5, b6⟩ := h.box hal
 have hr := b5 hs
 refine ⟨x, gb, b1, h.v2 he0, hr, b4, x, b, gb, w2, below_row h.bel b2 _, ?_, by simpa [n1] using h.v1, by simpa [n2] using h.v2, by simpa [n3] using h.v3, by simpa [n4] using h.v4, ?_, ?_⟩
 ·simp only [n5, if_false]
  intro e
  obtain ⟨g1, g2, g3, g4, g5⟩ := h.call e
  exact ⟨g1, g2, g3, g4.row (h.apart e hal) _, by simp [World.setRow]; exact g5⟩
 ·simp only [n6, if_false, if_true]
  refine fun _ => ⟨b1, b2, by simp [World.setRow]; exact b3, by rw [frOf_setRow]; exact b4, fun e => by simp at e, fun _ => by rw [rowOf_setRow _ _ _ _ (by rw [hr]; exact hz), if_pos rfl]⟩
 ·simp only [n5, n6, if_false]
  exact h.apart
theorem cbJ_end (h1 : dn ci = true) (h2 : dn cm = true) (h3 : dn e0 = true) (h4 : dn e1 = true) (h5 : dn a1 = true) (h6 : dn al = true) (h7 : dn st = true) (h : cbJ w0 ci cm e0 e1 al st a1 row zr n R dn cv w) :
  ∃ (x : α) (b gb : Nat) (w2 : World), cv ci = .tuple #[.agg (row x), iv n] ∧ cv cm = .tuple #[.agg (row x), iv n] ∧ cv e0 = .agg (row x) ∧ cv e1 = iv n ∧ cv a1 = iv n ∧ cv al = .pointer (some ⟨gb, 0, none⟩) ∧
   rowOf w gb = row x ∧ frOf w gb = (0, 0) ∧ w0.heap.size ≤ gb ∧ gb < w.heap.size ∧ Below w0.heap.size w0 w ∧ w0.heap.size ≤ b ∧ Fresh b w2 (R x) ∧ Kp b w2 w ∧ w2.heap.size ≤ w.heap.size ∧ (gb < b ∨ w2.heap.size ≤ gb) := by
 obtain ⟨x, b, gb, w2, h⟩ := h
 obtain ⟨g1, g2, g3, g4, g5⟩ := h.call h1
 obtain ⟨b1, b2, b3, b4, b5, b6⟩ := h.box h6
 exact ⟨x, b, gb, w2, g1, h.v1 h2, h.v2 h3, h.v3 h4, h.v4 h5, b1, b6 h7, b4, b2, b3, h.bel, g2, g3, g4, g5, h.apart h1 h6⟩
end
theorem wp_alloc {P : Program} {a : Act} {K : Act → World → Prop} {Q : Exit → Act → World → Prop} {ty t : TypeId} {p : String} {af : Array Edge} {gd : Option (Nat × Bool)} {d : Tmp} {zr : Array Value} (he : ∀ ev : Operand → Value, (execOp ev ⟨some d, .alloc ty, t, p, af, gd⟩).run P w = .ok (.value (.pointer (some ⟨w.heap.size, 0, none⟩))) (w.alloc (.cells zr ty)))
  (h : K (a.put (some d) (.pointer (some ⟨w.heap.size, 0, none⟩))) (w.alloc (.cells zr ty))) : Oper.wp P ⟨some d, .alloc ty, t, p, af, gd⟩ a w K Q := by
 unfold Oper.wp
 rw [he]
 exact h
end Go.Proofs.Ytefkfglkpebbmad
