/- The walk of chunk.Add. Printed by gen_chkadd.py. No conditions. -/
import Derived.Test.YtefkfglkpebbmacQChkAddMath
namespace Go.Proofs.Ytefkfglkpebbmac
open Go.RowKit
set_option linter.unusedVariables false
set_option linter.unusedSimpArgs false

set_option maxRecDepth 100000 in
set_option maxHeartbeats 8000000 in
theorem chkAdd_calls (A B : Option Addr) (c d : Nat) (l : List Chk) (x : Chk) (w : World) (hl : l.length ≤ 1048576) (hs : Chs w A l) (hx : ChkIn w x B d) :
    Calls Try.prog 36 #[.slice A l.length c, .agg (chkA x.from_ x.to_ x.n x.of_ B x.data.length d)] w (ChkRet2 w (chkAdd l x).1 (chkAdd l x).2) := by
  have HS := Lib.hid hs
  have HX := Lib.hid hx
  have K1 := Lib.hid (fun w h => chkList_calls A c l w hl h)
  have K2 := Lib.hid (fun w => chkCheckX_calls B d x w ⟨hx.i2, hx.i3⟩)
  have K3 := Lib.hid (fun w h => chkCopy_calls A c l w hl h)
  have K4 := Lib.hid (fun w h => cloneBytes_calls B x.data.length d (x.data.map bv) w (by simp) (by have := hx.len; omega) h (bv_one _))
  have hba := (Below.refl w.heap.size w).alloc (Nat.le_refl _) (.cells (chkA x.from_ x.to_ x.n x.of_ B x.data.length d) 49)
  have HBA := Lib.hid hba
  clear hs hx hba
  by_cases he1 : chkList l ≠ 0
  · have hz := chkAdd_err1 (c := x) he1
    rw [hz]
    have q : (chkList l != 0) = true := by simp [he1]
    generalize chkList l = e1 at *
    clear he1 hz
    go_enter Try.func36, Try.ntmps36
    go_wp2_with fail
    refine (K1.out _ (HS.out.stays HBA.out)).mono ?_
    rintro e w1 ⟨rfl, hb1⟩
    have HB1 := Lib.hid (HBA.out.trans (hb1.mono (by simp)))
    clear hb1
    go_wp2_with fail
    go_ret2
    exact ⟨none, 0, [], rfl, GRow.nil _ _, Each.nil, HB1.out⟩
  have he1 := Decidable.not_not.1 he1
  rw [he1] at K1
  by_cases he2 : chkCheck x ≠ 0
  · have hz := chkAdd_err2 he1 he2
    rw [hz]
    have q : (chkCheck x != 0) = true := by simp [he2]
    generalize chkCheck x = e2 at *
    clear he1 he2 hz
    go_enter Try.func36, Try.ntmps36
    go_wp2_with fail
    refine (K1.out _ (HS.out.stays HBA.out)).mono ?_
    rintro e w1 ⟨rfl, hb1⟩
    obtain ⟨a0r, a0f, a0n, a0c, a0z, a0l⟩ := keep1 (g := w.heap.size) (cs := chkA x.from_ x.to_ x.n x.of_ B x.data.length d) hb1 (by first | (go_simp; done) | (go_simp; rfl)) (by go_simp) (by go_simp)
    have HB1 := Lib.hid (HBA.out.trans (hb1.mono (by simp)))
    clear hb1
    go_wp2_with fail
    refine (K2.out _).mono ?_
    rintro e w2 ⟨rfl, hb2⟩
    have HB2 := Lib.hid (HB1.out.trans (hb2.mono HB1.out.size))
    clear hb2
    go_wp2_with fail
    go_ret2
    exact ⟨none, 0, [], rfl, GRow.nil _ _, Each.nil, HB2.out⟩
  have he2 := Decidable.not_not.1 he2
  rw [he2] at K2
  have hll := chkList_len he1
  have HE1 := Lib.hid he1
  have HE2 := Lib.hid he2
  clear he1 he2
  obtain ⟨r, hr⟩ : ∃ r, chkAdd l x = r := ⟨_, rfl⟩
  rw [hr]
  have HR := Lib.hid hr
  clear hr
  go_enter Try.func36, Try.ntmps36
  go_wp2_with fail
  refine (K1.out _ (HS.out.stays HBA.out)).mono ?_
  rintro e w1 ⟨rfl, hb1⟩
  obtain ⟨a0r, a0f, a0n, a0c, a0z, a0l⟩ := keep1 (g := w.heap.size) (cs := chkA x.from_ x.to_ x.n x.of_ B x.data.length d) hb1 (by first | (go_simp; done) | (go_simp; rfl)) (by go_simp) (by go_simp)
  have HB1 := Lib.hid (HBA.out.trans (hb1.mono (by simp)))
  clear hb1
  go_wp2_with fail
  refine (K2.out _).mono ?_
  rintro e w2 ⟨rfl, hb2⟩
  obtain ⟨b0r, b0f, b0n, b0c, b0z, b0l⟩ := keep1 (g := w.heap.size) (cs := chkA x.from_ x.to_ x.n x.of_ B x.data.length d) hb2 a0r (by go_simp) a0f
  have HB2 := Lib.hid (HB1.out.trans (hb2.mono HB1.out.size))
  clear hb2 a0r a0f a0n a0c a0z a0l
  go_wp2_with fail
  refine (K3.out _ (HS.out.stays HB2.out)).mono ?_
  rintro e w3 ⟨A1, c1, ds, rfl, hg3, hn3, hb3⟩
  obtain ⟨a0r, a0f, a0n, a0c, a0z, a0l⟩ := keep1 (g := w.heap.size) (cs := chkA x.from_ x.to_ x.n x.of_ B x.data.length d) hb3 b0r (by go_simp) b0f
  have HB3 := Lib.hid (HB2.out.trans (hb3.mono HB2.out.size))
  have HG3 := Lib.hid hg3
  have HN3 := Lib.hid hn3
  have hs2 := HB2.out.size
  have hg0 : w.heap.size < w2.heap.size := b0l
  have hs23 := hb3.size
  clear hb3 b0r b0f b0n b0c b0z b0l hg3 hn3
  go_wp2_with fail
  refine (K4.out _ (HX.out.data.stays HB3.out).src).mono ?_
  rintro e w4 ⟨B5, d5, rfl, ho4, hb4⟩
  obtain ⟨b0r, b0f, b0n, b0c, b0z, b0l⟩ := keep1 (g := w.heap.size) (cs := chkA x.from_ x.to_ x.n x.of_ B x.data.length d) hb4 a0r (by go_simp) a0f
  have HB4 := Lib.hid (HB3.out.trans (hb4.mono HB3.out.size))
  have HG4 := Lib.hid (HG3.out.below hb4)
  have hs3 := HB3.out.size
  have hs25 : w2.heap.size ≤ w4.heap.size := Nat.le_trans hs23 hb4.size
  have HO4 := Lib.hid ho4
  clear hb4 a0r a0f a0n a0c a0z a0l ho4
  go_wp2_with fail
  have hG5 : GRow kChk (w4.setCell ⟨w.heap.size, 4, none⟩ (.slice B5 x.data.length d5)) w2.heap.size l ds A1 c1 := HG4.out.setOther (fun e => by have := (HG4.out.row.block _ e).1; omega) (HN3.out.imp fun k hk => by omega) _
  have hD5 : Bts (w4.setCell ⟨w.heap.size, 4, none⟩ (.slice B5 x.data.length d5)) B5 x.data := (HO4.out.setCell_other (p := ⟨w.heap.size, 4, none⟩) (fun e => by have := (HO4.out.block _ e).1; have h2 : w.heap.size = w.heap.size := rfl; simp only at this; omega) _).src.bts
  have hs25' : w2.heap.size ≤ (w4.setCell ⟨w.heap.size, 4, none⟩ (.slice B5 x.data.length d5)).heap.size := by simpa using hs25
  have hb5 : Below w.heap.size w (w4.setCell ⟨w.heap.size, 4, none⟩ (.slice B5 x.data.length d5)) := HB4.out.setCell (p := ⟨w.heap.size, 4, none⟩) (Nat.le_refl _) _
  have R5 : rowOf (w4.setCell ⟨w.heap.size, 4, none⟩ (.slice B5 x.data.length d5)) w.heap.size = chkA x.from_ x.to_ x.n x.of_ B5 x.data.length d5 := by rw [rowOf_setCell, if_pos rfl, b0r, chkA_set4]
  have F5 : frOf (w4.setCell ⟨w.heap.size, 4, none⟩ (.slice B5 x.data.length d5)) w.heap.size = (0, 0) := by rw [frOf_setCell, b0f]
  have hB5b : ∀ k, B5.map (·.block) = some k → w3.heap.size ≤ k := fun k e => (HO4.out.block k e).1
  have hd5 : x.data.length ≤ d5 := HO4.out.le
  have HA1 : Hid (∀ k, A1.map (·.block) = some k → k < w3.heap.size) := Lib.hid (fun k e => (HG3.out.row.block k e).2)
  have HBL : Hid (∀ k, B5.map (·.block) = some k → k < (w4.setCell ⟨w.heap.size, 4, none⟩ (.slice B5 x.data.length d5)).heap.size) := Lib.hid (fun k e => by simpa using (HO4.out.block k e).2)
  have HG5 := Lib.hid hG5
  have HD5 := Lib.hid hD5
  have HB5 := Lib.hid hb5
  have HR5 := Lib.hid (And.intro R5 F5)
  have HBB := Lib.hid hB5b
  have HN5 := HN3
  clear hG5 hD5 hb5 R5 F5 hB5b b0r b0f b0n b0c b0z b0l HG4 HO4 HB4 HG3 HN3
  generalize w4.setCell ⟨w.heap.size, 4, none⟩ (.slice B5 x.data.length d5) = w5 at *
  generalize hg0e : w.heap.size = g0 at *
  have HGE := Lib.hid hg0e
  clear hg0e
  have HD : Hid (∀ wq, Below w5.drew.heap.size w5.drew wq → Below w5.heap.size w5 wq) := Lib.hid (fun wq h => (Below.refl w5.heap.size w5).drew.trans h)
  have R3 : rowOf w5.drew g0 = chkA x.from_ x.to_ x.n x.of_ B5 x.data.length d5 := HR5.out.1
  have F3 : frOf w5.drew g0 = (0, 0) := HR5.out.2
  have hs5 := HB5.out.size
  by_cases hl0 : l.length = 0
  · have HL0 := Lib.hid hl0
    have HKN2 : Hid (∀ y, l[0]? = some y → kin y x) := Lib.hid (fun y h => by rw [List.getElem?_eq_none (by omega)] at h; cases h)
    clear hl0
    refine wp_region_chain (by kernel_rfl) (some 25 :: some 26 :: some 27 :: some 28 :: some 29 :: some 30 :: some 31 :: some 32 :: some 33 :: some 34 :: some 35 :: []) (.slice A1 l.length c1 :: .int .i64 (l.length : Int) :: .bool false :: .bool false :: undef :: undef :: undef :: undef :: undef :: undef :: .bool false :: []) 74 rfl rfl (by decide +kernel) (by decide +kernel) (by decide +kernel) rfl ?_ ?_
    · refine ⟨.inl ⟨rfl, fun done a wq hw h => ?_⟩, ?_⟩
      · have e0 := ch_old (t := 0) (v := .slice A1 l.length c1) h rfl rfl; exact ch_move (ch_ev e0)
      refine ⟨.inl ⟨rfl, fun done a wq hw h => ?_⟩, ?_⟩
      · have e25 := ch_new (i := 0) (t := 25) h (hw 0 (by decide)) rfl rfl; refine ch_pure ?_; go_simp
      refine ⟨.inl ⟨rfl, fun done a wq hw h => ?_⟩, ?_⟩
      · have e26 := ch_new (i := 1) (t := 26) h (hw 1 (by decide)) rfl rfl; have h1 := HL0.out; refine ch_pure ?_; go_simp
      refine ⟨.inl ⟨rfl, fun done a wq hw h => ?_⟩, ?_⟩
      · have e27 := ch_new (i := 2) (t := 27) h (hw 2 (by decide)) rfl rfl; exact ch_move (ch_ev e27)
      refine ⟨.inr ⟨rfl, rfl⟩, ?_⟩
      refine ⟨.inr ⟨rfl, rfl⟩, ?_⟩
      refine ⟨.inr ⟨rfl, rfl⟩, ?_⟩
      refine ⟨.inr ⟨rfl, rfl⟩, ?_⟩
      refine ⟨.inr ⟨rfl, rfl⟩, ?_⟩
      refine ⟨.inr ⟨rfl, rfl⟩, ?_⟩
      refine ⟨.inl ⟨rfl, fun done a wq hw h => ?_⟩, ?_⟩
      · have e28 := ch_new (i := 3) (t := 28) h (hw 3 (by decide)) rfl rfl; exact ch_pick_f e28 rfl
      exact trivial
    · intro w6 hb6
      simp only [putAll_some, putAll_none, putAll_nil, List.setIfInBounds_toArray, List.set_cons_zero, List.set_cons_succ]
      obtain ⟨a0r, a0f, a0n, a0c, a0z, a0l⟩ := keep1 (g := g0) (cs := chkA x.from_ x.to_ x.n x.of_ B5 x.data.length d5) hb6 R3 (by go_simp) F3
      have HB6 : Hid (Below g0 w w6) := Lib.hid (HB5.out.trans (hb6.mono (by omega)))
      have HG6 := Lib.hid (HG5.out.below hb6)
      have HD6 := Lib.hid (HD5.out.stays hb6)
      have hs6 := hb6.size
      have HRF := Lib.hid (And.intro a0r a0f)
      clear hb6 R3 F3 a0r a0f a0n a0c a0z
      go_wp2_with fail
      go_loopw [8] (fun i wr => ∃ k : Nat, k ≤ l.length ∧ i = .int .i64 k ∧ Hid (∀ (j : Nat) (h : j < l.length), j < k → l[j].n < x.n) ∧ Hid (Below w6.heap.size w6 wr)) (fun i _ => l.length - (intOf i).toNat)
      case atStart => exact ⟨0, Nat.zero_le _, rfl, Lib.hid (fun j h hj => by omega), Lib.hid (Below.refl _ _)⟩
      case round =>
        rename World => wr
        obtain ⟨k, hk, rfl, HLT, HBR⟩ := hrel
        obtain ⟨b0r, b0f, b0n, b0c, b0z, b0l⟩ := keep1 (g := g0) (cs := chkA x.from_ x.to_ x.n x.of_ B5 x.data.length d5) HBR.out HRF.out.1 (by go_simp) HRF.out.2
        have HGR := Lib.hid (HG6.out.below HBR.out)
        have HDR := Lib.hid (HD6.out.stays HBR.out)
        have HBW : Hid (Below g0 w wr) := Lib.hid (HB6.out.trans (HBR.out.mono (by omega)))
        have hsr := HBR.out.size
        by_cases hlt : k < l.length
        · exfalso; have := HL0.out; omega
        · obtain rfl : k = l.length := by omega
          have dl : decide ((l.length : Int) < (l.length : Int)) = false := by simp
          have hz := (chkAdd_is HE1.out HE2.out HKN2.out (Nat.le_refl _) (fun j h hj => HLT.out j h hj) (fun h => absurd h (Nat.lt_irrefl _))).2 (fun h => absurd h (Nat.lt_irrefl _))
          rw [HR.out] at hz
          have HZ := Lib.hid hz
          clear hz
          go_wp2_with fail
          go_quiet (fail)
          go_wp2_with fail
          obtain ⟨wx, hwx⟩ : ∃ wx, wr.drewN nq = wx := ⟨_, rfl⟩
          rw [hwx]
          have hbx : Below wr.heap.size wr wx := hwx ▸ below_drewN wr nq
          have HGR := Lib.hid (HGR.out.below hbx)
          have HDR := Lib.hid (HDR.out.stays hbx)
          have HBW : Hid (Below g0 w wx) := Lib.hid (HBW.out.trans (hbx.mono (by omega)))
          have hsr := Nat.le_trans hsr hbx.size
          obtain ⟨b0r, b0f, b0n, b0c, b0z, b0l⟩ := keep1 (g := g0) (cs := chkA x.from_ x.to_ x.n x.of_ B5 x.data.length d5) hbx b0r (by go_simp) b0f
          clear hwx hbx
          go_quiet (fail)
          obtain ⟨wy, hwx⟩ : ∃ wy, wx.drewN nq = wy := ⟨_, rfl⟩
          rw [hwx]
          have hbx : Below wx.heap.size wx wy := hwx ▸ below_drewN wx nq
          have HGR := Lib.hid (HGR.out.below hbx)
          have HDR := Lib.hid (HDR.out.stays hbx)
          have HBW : Hid (Below g0 w wy) := Lib.hid (HBW.out.trans (hbx.mono (by omega)))
          have hsr := Nat.le_trans hsr hbx.size
          obtain ⟨b0r, b0f, b0n, b0c, b0z, b0l⟩ := keep1 (g := g0) (cs := chkA x.from_ x.to_ x.n x.of_ B5 x.data.length d5) hbx b0r (by go_simp) b0f
          clear hwx hbx
          have HG7 := HGR
          have HD7 := HDR
          have HB7 := HBW
          have hO7 := HG7.out.row.alloc (.cells (chkA x.from_ x.to_ x.n x.of_ B5 x.data.length d5) 49)
          have hv7 : (wy.alloc (.cells (chkA x.from_ x.to_ x.n x.of_ B5 x.data.length d5) 49)).heap[wy.heap.size]? = some (.cells (kChk.cell x (B5, d5)).toArray 49 (0, 0)) := blk_top rfl
          have hvg7 : A1.map (·.block) ≠ some wy.heap.size := fun e => by have := (HG7.out.row.block _ e).2; omega
          have hbs7 : w2.heap.size ≤ (wy.alloc (.cells (chkA x.from_ x.to_ x.n x.of_ B5 x.data.length d5) 49)).heap.size := by simp; omega
          have HIN := Lib.hid (insChunks_calls A1 l.length c1 l.length (kChk.cells l ds) wy.heap.size (kChk.cell x (B5, d5)) 49 _ w2.heap.size hO7 rfl hv7 hvg7 (kChk.one _ _) (cells_oneCell _ _) hbs7 (by omega) (by omega))
          clear hO7 hv7 hvg7
          go_wp2_with fail
          refine HIN.out.mono ?_
          rintro e w9 ⟨A', c', rfl, hown, hb9, hk9, hor9⟩
          have hba7 := (Below.refl wy.heap.size wy).alloc (Nat.le_refl _) (.cells (chkA x.from_ x.to_ x.n x.of_ B5 x.data.length d5) 49)
          have hG9 := (HG7.out.below hba7).ins (x := x) (e := (B5, d5)) (k := l.length) (by omega) hown hb9 hk9 hor9 (HD7.out.stays hba7) hd5 (fun _ q e e2 => by have h5 := HBB.out q e; have h6 := HA1.out q e2; omega)
          have HG9 := Lib.hid hG9
          have HB9 : Hid (Below g0 w w9) := Lib.hid ((HB7.out.alloc (by omega) _).trans (hb9.mono (by omega)))
          clear hown hb9 hk9 hor9 hba7 hG9 HIN
          go_wp2_with fail
          go_ret2
          rw [HZ.out]
          have hlen : (l.take l.length ++ x :: l.drop l.length).length = l.length + 1 := by rw [List.length_append, List.length_take, List.length_cons, List.length_drop]; omega
          refine ⟨A', c', _, by rw [hlen]; rfl, HG9.out.mono (by rw [HGE.out]; omega), (HN5.out.imp fun q hq => by rw [HGE.out]; omega).ins HG7.out.len (by omega) (fun q e => by have := HBB.out q e; rw [HGE.out]; omega), HGE.out.symm ▸ HB9.out⟩
  · have hlp : 0 < l.length := by omega
    obtain ⟨g, rfl, hgb, hgl⟩ := HG5.out.row.form hlp
    obtain ⟨q, hq⟩ : ∃ q, l[0]? = some q := ⟨_, List.getElem?_eq_getElem hlp⟩
    obtain ⟨D, dq, hat⟩ := HG5.out.chkAt hq
    rw [Nat.zero_mul] at hat
    have HQ : Hid (∀ wq, Below w5.heap.size w5 wq → ChkAt wq g 0 q D dq) := Lib.hid (fun wq h => hat.stays hgl h)
    have HL0 : Hid (0 < l.length) := Lib.hid hlp
    have HLN : Hid (¬ l = []) := Lib.hid (fun e => by rw [e] at hlp; simp at hlp)
    have HQE := Lib.hid hq
    clear hl0 hat hq
    by_cases hkn : kin q x
    · have HKN : Hid (decide (kin q x) = true) := Lib.hid (decide_eq_true hkn)
      have HKN2 : Hid (∀ y, l[0]? = some y → kin y x) := Lib.hid (fun y h => by rw [HQE.out] at h; injection h with h; subst h; exact hkn)
      clear hkn
      refine wp_region_chain (by kernel_rfl) (some 25 :: some 26 :: some 27 :: some 28 :: some 29 :: some 30 :: some 31 :: some 32 :: some 33 :: some 34 :: some 35 :: []) (.slice (some ⟨g, 0, none⟩) l.length c1 :: .int .i64 (l.length : Int) :: .bool true :: .bool true :: .slice (some ⟨g, 0, none⟩) l.length c1 :: .pointer (some ⟨g, 0, none⟩) :: .agg (chkA q.from_ q.to_ q.n q.of_ D q.data.length dq) :: .agg (chkA x.from_ x.to_ x.n x.of_ B5 x.data.length d5) :: .bool true :: .bool false :: .bool false :: []) 74 rfl rfl (by decide +kernel) (by decide +kernel) (by decide +kernel) rfl ?_ ?_
      · refine ⟨.inl ⟨rfl, fun done a wq hw h => ?_⟩, ?_⟩
        · have e0 := ch_old (t := 0) (v := .slice (some ⟨g, 0, none⟩) l.length c1) h rfl rfl; exact ch_move (ch_ev e0)
        refine ⟨.inl ⟨rfl, fun done a wq hw h => ?_⟩, ?_⟩
        · have e25 := ch_new (i := 0) (t := 25) h (hw 0 (by decide)) rfl rfl; refine ch_pure ?_; go_simp
        refine ⟨.inl ⟨rfl, fun done a wq hw h => ?_⟩, ?_⟩
        · have e26 := ch_new (i := 1) (t := 26) h (hw 1 (by decide)) rfl rfl; have h1 := HL0.out; have h2 := HLN.out; refine ch_pure ?_; go_simp
        refine ⟨.inl ⟨rfl, fun done a wq hw h => ?_⟩, ?_⟩
        · have e27 := ch_new (i := 2) (t := 27) h (hw 2 (by decide)) rfl rfl; exact ch_move (ch_ev e27)
        refine ⟨.inl ⟨rfl, fun done a wq hw h => ?_⟩, ?_⟩
        · have e0 := ch_old (t := 0) (v := .slice (some ⟨g, 0, none⟩) l.length c1) h rfl rfl; exact ch_move (ch_ev e0)
        refine ⟨.inl ⟨rfl, fun done a wq hw h => ?_⟩, ?_⟩
        · have e29 := ch_new (i := 4) (t := 29) h (hw 4 (by decide)) rfl rfl; have h1 := HL0.out; have h2 := HLN.out; refine ch_pure ?_; go_simp
        refine ⟨.inl ⟨rfl, fun done a wq hw h => ?_⟩, ?_⟩
        · have e30 := ch_new (i := 5) (t := 30) h (hw 5 (by decide)) rfl rfl; obtain ⟨c0, c1_, c2, c3, c4⟩ := HQ.out wq (HD.out wq h.bel); refine ch_pure ?_; go_simp
        refine ⟨.inl ⟨rfl, fun done a wq hw h => ?_⟩, ?_⟩
        · have e3 := ch_old (t := 3) (v := .pointer (some ⟨g0, 0, none⟩)) h rfl rfl; obtain ⟨r_, f_, n_, c_, z_, l_⟩ := keep1 h.bel R3 (by go_simp) F3; refine ch_pure ?_; go_simp
        refine ⟨.inl ⟨rfl, fun done a wq hw h => ?_⟩, ?_⟩
        · have e31 := ch_new (i := 6) (t := 31) h (hw 6 (by decide)) rfl rfl; have e32 := ch_new (i := 7) (t := 32) h (hw 7 (by decide)) rfl rfl; exact ch_call (vals := #[.agg (chkA q.from_ q.to_ q.n q.of_ D q.data.length dq), .agg (chkA x.from_ x.to_ x.n x.of_ B5 x.data.length d5)]) (by go_simp) (by go_simp) (by have := kinY_calls D B5 dq d5 q x wq; rwa [HKN.out] at this)
        refine ⟨.inl ⟨rfl, fun done a wq hw h => ?_⟩, ?_⟩
        · have e33 := ch_new (i := 8) (t := 33) h (hw 8 (by decide)) rfl rfl; refine ch_pure ?_; go_simp
        refine ⟨.inl ⟨rfl, fun done a wq hw h => ?_⟩, ?_⟩
        · have e28 := ch_new (i := 3) (t := 28) h (hw 3 (by decide)) rfl rfl; have e34 := ch_new (i := 9) (t := 34) h (hw 9 (by decide)) rfl rfl; exact ch_pick_t e28 (ch_ev e34)
        exact trivial
      · intro w6 hb6
        simp only [putAll_some, putAll_none, putAll_nil, List.setIfInBounds_toArray, List.set_cons_zero, List.set_cons_succ]
        obtain ⟨a0r, a0f, a0n, a0c, a0z, a0l⟩ := keep1 (g := g0) (cs := chkA x.from_ x.to_ x.n x.of_ B5 x.data.length d5) hb6 R3 (by go_simp) F3
        have HB6 : Hid (Below g0 w w6) := Lib.hid (HB5.out.trans (hb6.mono (by omega)))
        have HG6 := Lib.hid (HG5.out.below hb6)
        have HD6 := Lib.hid (HD5.out.stays hb6)
        have hs6 := hb6.size
        have HRF := Lib.hid (And.intro a0r a0f)
        clear hb6 R3 F3 a0r a0f a0n a0c a0z
        go_wp2_with fail
        go_loopw [8] (fun i wr => ∃ k : Nat, k ≤ l.length ∧ i = .int .i64 k ∧ Hid (∀ (j : Nat) (h : j < l.length), j < k → l[j].n < x.n) ∧ Hid (Below w6.heap.size w6 wr)) (fun i _ => l.length - (intOf i).toNat)
        case atStart => exact ⟨0, Nat.zero_le _, rfl, Lib.hid (fun j h hj => by omega), Lib.hid (Below.refl _ _)⟩
        case round =>
          rename World => wr
          obtain ⟨k, hk, rfl, HLT, HBR⟩ := hrel
          obtain ⟨b0r, b0f, b0n, b0c, b0z, b0l⟩ := keep1 (g := g0) (cs := chkA x.from_ x.to_ x.n x.of_ B5 x.data.length d5) HBR.out HRF.out.1 (by go_simp) HRF.out.2
          have HGR := Lib.hid (HG6.out.below HBR.out)
          have HDR := Lib.hid (HD6.out.stays HBR.out)
          have HBW : Hid (Below g0 w wr) := Lib.hid (HB6.out.trans (HBR.out.mono (by omega)))
          have hsr := HBR.out.size
          by_cases hlt : k < l.length
          · obtain ⟨D2, d2, hat⟩ := HGR.out.chkAt (List.getElem?_eq_getElem hlt)
            have hgr : g < wr.heap.size := (HGR.out.row.block g rfl).2
            obtain ⟨y, hy⟩ : ∃ y, l[k] = y := ⟨_, rfl⟩
            rw [hy] at hat
            have HAT := Lib.hid hat
            have HY := Lib.hid hy
            obtain ⟨c0, c1_, c2, c3, c4⟩ := hat
            have dl : decide ((k : Int) < (l.length : Int)) = true := decide_eq_true (by omega)
            have nb : ¬ (l.length : Int) ≤ (k : Int) := by omega
            have hwk : IntKind.i64.wrap ((k : Int) + 1) = (k : Int) + 1 := IntWalk.i64_in _ (by omega)
            clear hy
            by_cases hn : y.n < x.n
            · have HN := Lib.hid hn
              go_wp2_with fail
              go_quiet (fail)
              go_wp2_with fail
              go_roundw
              case rel => exact ⟨k + 1, by omega, by go_num, Lib.hid (fun j h hj => by
                rcases Nat.lt_or_ge j k with h1 | h1
                · exact HLT.out j h h1
                · have e : j = k := by omega
                  subst e
                  rw [HY.out]; exact HN.out), Lib.hid (Below.drewN' HBR.out _)⟩
              case measure => simp [intOf]; omega
            · have his := chkAdd_is HE1.out HE2.out HKN2.out hk (fun j h hj => HLT.out j h hj) (fun h => by rw [HY.out]; exact hn)
              by_cases he : y.n = x.n
              · have hz := his.1 hlt (by rw [HY.out]; exact he)
                rw [HR.out] at hz
                have HZ := Lib.hid hz
                have de : (y.n == x.n) = true := by simp [he]
                clear hz his he
                go_wp2_with fail
                go_quiet (fail)
                go_wp2_with fail
                obtain ⟨wx, hwx⟩ : ∃ wx, wr.drewN nq = wx := ⟨_, rfl⟩
                rw [hwx]
                have hbx : Below wr.heap.size wr wx := hwx ▸ below_drewN wr nq
                have hat2 := HAT.out.stays hgr hbx
                have HAT := Lib.hid hat2
                have hgr : g < wx.heap.size := Nat.lt_of_lt_of_le hgr hbx.size
                have HGR := Lib.hid (HGR.out.below hbx)
                have HDR := Lib.hid (HDR.out.stays hbx)
                have HBW : Hid (Below g0 w wx) := Lib.hid (HBW.out.trans (hbx.mono (by omega)))
                have hsr := Nat.le_trans hsr hbx.size
                obtain ⟨b0r, b0f, b0n, b0c, b0z, b0l⟩ := keep1 (g := g0) (cs := chkA x.from_ x.to_ x.n x.of_ B5 x.data.length d5) hbx b0r (by go_simp) b0f
                clear hwx hbx
                obtain ⟨c0, c1_, c2, c3, c4⟩ := hat2
                go_quiet (fail)
                obtain ⟨wy, hwx⟩ : ∃ wy, wx.drewN nq = wy := ⟨_, rfl⟩
                rw [hwx]
                have hbx : Below wx.heap.size wx wy := hwx ▸ below_drewN wx nq
                have hat2 := HAT.out.stays hgr hbx
                have HAT := Lib.hid hat2
                have hgr : g < wy.heap.size := Nat.lt_of_lt_of_le hgr hbx.size
                have HGR := Lib.hid (HGR.out.below hbx)
                have HDR := Lib.hid (HDR.out.stays hbx)
                have HBW : Hid (Below g0 w wy) := Lib.hid (HBW.out.trans (hbx.mono (by omega)))
                have hsr := Nat.le_trans hsr hbx.size
                obtain ⟨b0r, b0f, b0n, b0c, b0z, b0l⟩ := keep1 (g := g0) (cs := chkA x.from_ x.to_ x.n x.of_ B5 x.data.length d5) hbx b0r (by go_simp) b0f
                clear hwx hbx
                clear hat2
                go_wp2_with fail
                go_ret2
                rw [HZ.out]
                exact ⟨_, _, ds, rfl, HGR.out.mono (by rw [HGE.out]; omega), HN5.out.imp fun q hq => by rw [HGE.out]; omega, HGE.out.symm ▸ HBW.out⟩
              · have hz := his.2 (fun h => by rw [HY.out]; exact he)
                rw [HR.out] at hz
                have HZ := Lib.hid hz
                have de : (y.n == x.n) = false := by simp [he]
                clear hz his he
                go_wp2_with fail
                go_quiet (fail)
                go_wp2_with fail
                obtain ⟨wx, hwx⟩ : ∃ wx, wr.drewN nq = wx := ⟨_, rfl⟩
                rw [hwx]
                have hbx : Below wr.heap.size wr wx := hwx ▸ below_drewN wr nq
                have hat2 := HAT.out.stays hgr hbx
                have HAT := Lib.hid hat2
                have hgr : g < wx.heap.size := Nat.lt_of_lt_of_le hgr hbx.size
                have HGR := Lib.hid (HGR.out.below hbx)
                have HDR := Lib.hid (HDR.out.stays hbx)
                have HBW : Hid (Below g0 w wx) := Lib.hid (HBW.out.trans (hbx.mono (by omega)))
                have hsr := Nat.le_trans hsr hbx.size
                obtain ⟨b0r, b0f, b0n, b0c, b0z, b0l⟩ := keep1 (g := g0) (cs := chkA x.from_ x.to_ x.n x.of_ B5 x.data.length d5) hbx b0r (by go_simp) b0f
                clear hwx hbx
                obtain ⟨c0, c1_, c2, c3, c4⟩ := hat2
                go_quiet (fail)
                obtain ⟨wy, hwx⟩ : ∃ wy, wx.drewN nq = wy := ⟨_, rfl⟩
                rw [hwx]
                have hbx : Below wx.heap.size wx wy := hwx ▸ below_drewN wx nq
                have hat2 := HAT.out.stays hgr hbx
                have HAT := Lib.hid hat2
                have hgr : g < wy.heap.size := Nat.lt_of_lt_of_le hgr hbx.size
                have HGR := Lib.hid (HGR.out.below hbx)
                have HDR := Lib.hid (HDR.out.stays hbx)
                have HBW : Hid (Below g0 w wy) := Lib.hid (HBW.out.trans (hbx.mono (by omega)))
                have hsr := Nat.le_trans hsr hbx.size
                obtain ⟨b0r, b0f, b0n, b0c, b0z, b0l⟩ := keep1 (g := g0) (cs := chkA x.from_ x.to_ x.n x.of_ B5 x.data.length d5) hbx b0r (by go_simp) b0f
                clear hwx hbx
                clear hat2
                have HG7 := HGR
                have HD7 := HDR
                have HB7 := HBW
                have hO7 := HG7.out.row.alloc (.cells (chkA x.from_ x.to_ x.n x.of_ B5 x.data.length d5) 49)
                have hv7 : (wy.alloc (.cells (chkA x.from_ x.to_ x.n x.of_ B5 x.data.length d5) 49)).heap[wy.heap.size]? = some (.cells (kChk.cell x (B5, d5)).toArray 49 (0, 0)) := blk_top rfl
                have hvg7 : (some (⟨g, 0, none⟩ : Addr)).map (·.block) ≠ some wy.heap.size := fun e => by have := (HG7.out.row.block _ e).2; omega
                have hbs7 : w2.heap.size ≤ (wy.alloc (.cells (chkA x.from_ x.to_ x.n x.of_ B5 x.data.length d5) 49)).heap.size := by simp; omega
                have HIN := Lib.hid (insChunks_calls (some ⟨g, 0, none⟩) l.length c1 k (kChk.cells l ds) wy.heap.size (kChk.cell x (B5, d5)) 49 _ w2.heap.size hO7 rfl hv7 hvg7 (kChk.one _ _) (cells_oneCell _ _) hbs7 (by omega) (by omega))
                clear hO7 hv7 hvg7
                go_wp2_with fail
                refine HIN.out.mono ?_
                rintro e w9 ⟨A', c', rfl, hown, hb9, hk9, hor9⟩
                have hba7 := (Below.refl wy.heap.size wy).alloc (Nat.le_refl _) (.cells (chkA x.from_ x.to_ x.n x.of_ B5 x.data.length d5) 49)
                have hG9 := (HG7.out.below hba7).ins (x := x) (e := (B5, d5)) (k := k) (by omega) hown hb9 hk9 hor9 (HD7.out.stays hba7) hd5 (fun _ q e e2 => by have h5 := HBB.out q e; have h6 := HA1.out q e2; omega)
                have HG9 := Lib.hid hG9
                have HB9 : Hid (Below g0 w w9) := Lib.hid ((HB7.out.alloc (by omega) _).trans (hb9.mono (by omega)))
                clear hown hb9 hk9 hor9 hba7 hG9 HIN
                go_wp2_with fail
                go_ret2
                rw [HZ.out]
                have hlen : (l.take k ++ x :: l.drop k).length = l.length + 1 := by rw [List.length_append, List.length_take, List.length_cons, List.length_drop]; omega
                refine ⟨A', c', _, by rw [hlen]; rfl, HG9.out.mono (by rw [HGE.out]; omega), (HN5.out.imp fun q hq => by rw [HGE.out]; omega).ins HG7.out.len (by omega) (fun q e => by have := HBB.out q e; rw [HGE.out]; omega), HGE.out.symm ▸ HB9.out⟩
          · obtain rfl : k = l.length := by omega
            have dl : decide ((l.length : Int) < (l.length : Int)) = false := by simp
            have hz := (chkAdd_is HE1.out HE2.out HKN2.out (Nat.le_refl _) (fun j h hj => HLT.out j h hj) (fun h => absurd h (Nat.lt_irrefl _))).2 (fun h => absurd h (Nat.lt_irrefl _))
            rw [HR.out] at hz
            have HZ := Lib.hid hz
            clear hz
            go_wp2_with fail
            go_quiet (fail)
            go_wp2_with fail
            obtain ⟨wx, hwx⟩ : ∃ wx, wr.drewN nq = wx := ⟨_, rfl⟩
            rw [hwx]
            have hbx : Below wr.heap.size wr wx := hwx ▸ below_drewN wr nq
            have HGR := Lib.hid (HGR.out.below hbx)
            have HDR := Lib.hid (HDR.out.stays hbx)
            have HBW : Hid (Below g0 w wx) := Lib.hid (HBW.out.trans (hbx.mono (by omega)))
            have hsr := Nat.le_trans hsr hbx.size
            obtain ⟨b0r, b0f, b0n, b0c, b0z, b0l⟩ := keep1 (g := g0) (cs := chkA x.from_ x.to_ x.n x.of_ B5 x.data.length d5) hbx b0r (by go_simp) b0f
            clear hwx hbx
            go_quiet (fail)
            obtain ⟨wy, hwx⟩ : ∃ wy, wx.drewN nq = wy := ⟨_, rfl⟩
            rw [hwx]
            have hbx : Below wx.heap.size wx wy := hwx ▸ below_drewN wx nq
            have HGR := Lib.hid (HGR.out.below hbx)
            have HDR := Lib.hid (HDR.out.stays hbx)
            have HBW : Hid (Below g0 w wy) := Lib.hid (HBW.out.trans (hbx.mono (by omega)))
            have hsr := Nat.le_trans hsr hbx.size
            obtain ⟨b0r, b0f, b0n, b0c, b0z, b0l⟩ := keep1 (g := g0) (cs := chkA x.from_ x.to_ x.n x.of_ B5 x.data.length d5) hbx b0r (by go_simp) b0f
            clear hwx hbx
            have HG7 := HGR
            have HD7 := HDR
            have HB7 := HBW
            have hO7 := HG7.out.row.alloc (.cells (chkA x.from_ x.to_ x.n x.of_ B5 x.data.length d5) 49)
            have hv7 : (wy.alloc (.cells (chkA x.from_ x.to_ x.n x.of_ B5 x.data.length d5) 49)).heap[wy.heap.size]? = some (.cells (kChk.cell x (B5, d5)).toArray 49 (0, 0)) := blk_top rfl
            have hvg7 : (some (⟨g, 0, none⟩ : Addr)).map (·.block) ≠ some wy.heap.size := fun e => by have := (HG7.out.row.block _ e).2; omega
            have hbs7 : w2.heap.size ≤ (wy.alloc (.cells (chkA x.from_ x.to_ x.n x.of_ B5 x.data.length d5) 49)).heap.size := by simp; omega
            have HIN := Lib.hid (insChunks_calls (some ⟨g, 0, none⟩) l.length c1 l.length (kChk.cells l ds) wy.heap.size (kChk.cell x (B5, d5)) 49 _ w2.heap.size hO7 rfl hv7 hvg7 (kChk.one _ _) (cells_oneCell _ _) hbs7 (by omega) (by omega))
            clear hO7 hv7 hvg7
            go_wp2_with fail
            refine HIN.out.mono ?_
            rintro e w9 ⟨A', c', rfl, hown, hb9, hk9, hor9⟩
            have hba7 := (Below.refl wy.heap.size wy).alloc (Nat.le_refl _) (.cells (chkA x.from_ x.to_ x.n x.of_ B5 x.data.length d5) 49)
            have hG9 := (HG7.out.below hba7).ins (x := x) (e := (B5, d5)) (k := l.length) (by omega) hown hb9 hk9 hor9 (HD7.out.stays hba7) hd5 (fun _ q e e2 => by have h5 := HBB.out q e; have h6 := HA1.out q e2; omega)
            have HG9 := Lib.hid hG9
            have HB9 : Hid (Below g0 w w9) := Lib.hid ((HB7.out.alloc (by omega) _).trans (hb9.mono (by omega)))
            clear hown hb9 hk9 hor9 hba7 hG9 HIN
            go_wp2_with fail
            go_ret2
            rw [HZ.out]
            have hlen : (l.take l.length ++ x :: l.drop l.length).length = l.length + 1 := by rw [List.length_append, List.length_take, List.length_cons, List.length_drop]; omega
            refine ⟨A', c', _, by rw [hlen]; rfl, HG9.out.mono (by rw [HGE.out]; omega), (HN5.out.imp fun q hq => by rw [HGE.out]; omega).ins HG7.out.len (by omega) (fun q e => by have := HBB.out q e; rw [HGE.out]; omega), HGE.out.symm ▸ HB9.out⟩
    · have HKN : Hid (decide (kin q x) = false) := Lib.hid (decide_eq_false hkn)
      have hz := chkAdd_other HE1.out HE2.out HQE.out hkn
      rw [HR.out] at hz
      have HZ := Lib.hid hz
      clear hkn hz
      refine wp_region_chain (by kernel_rfl) (some 25 :: some 26 :: some 27 :: some 28 :: some 29 :: some 30 :: some 31 :: some 32 :: some 33 :: some 34 :: some 35 :: []) (.slice (some ⟨g, 0, none⟩) l.length c1 :: .int .i64 (l.length : Int) :: .bool true :: .bool true :: .slice (some ⟨g, 0, none⟩) l.length c1 :: .pointer (some ⟨g, 0, none⟩) :: .agg (chkA q.from_ q.to_ q.n q.of_ D q.data.length dq) :: .agg (chkA x.from_ x.to_ x.n x.of_ B5 x.data.length d5) :: .bool false :: .bool true :: .bool true :: []) 74 rfl rfl (by decide +kernel) (by decide +kernel) (by decide +kernel) rfl ?_ ?_
      · refine ⟨.inl ⟨rfl, fun done a wq hw h => ?_⟩, ?_⟩
        · have e0 := ch_old (t := 0) (v := .slice (some ⟨g, 0, none⟩) l.length c1) h rfl rfl; exact ch_move (ch_ev e0)
        refine ⟨.inl ⟨rfl, fun done a wq hw h => ?_⟩, ?_⟩
        · have e25 := ch_new (i := 0) (t := 25) h (hw 0 (by decide)) rfl rfl; refine ch_pure ?_; go_simp
        refine ⟨.inl ⟨rfl, fun done a wq hw h => ?_⟩, ?_⟩
        · have e26 := ch_new (i := 1) (t := 26) h (hw 1 (by decide)) rfl rfl; have h1 := HL0.out; have h2 := HLN.out; refine ch_pure ?_; go_simp
        refine ⟨.inl ⟨rfl, fun done a wq hw h => ?_⟩, ?_⟩
        · have e27 := ch_new (i := 2) (t := 27) h (hw 2 (by decide)) rfl rfl; exact ch_move (ch_ev e27)
        refine ⟨.inl ⟨rfl, fun done a wq hw h => ?_⟩, ?_⟩
        · have e0 := ch_old (t := 0) (v := .slice (some ⟨g, 0, none⟩) l.length c1) h rfl rfl; exact ch_move (ch_ev e0)
        refine ⟨.inl ⟨rfl, fun done a wq hw h => ?_⟩, ?_⟩
        · have e29 := ch_new (i := 4) (t := 29) h (hw 4 (by decide)) rfl rfl; have h1 := HL0.out; have h2 := HLN.out; refine ch_pure ?_; go_simp
        refine ⟨.inl ⟨rfl, fun done a wq hw h => ?_⟩, ?_⟩
        · have e30 := ch_new (i := 5) (t := 30) h (hw 5 (by decide)) rfl rfl; obtain ⟨c0, c1_, c2, c3, c4⟩ := HQ.out wq (HD.out wq h.bel); refine ch_pure ?_; go_simp
        refine ⟨.inl ⟨rfl, fun done a wq hw h => ?_⟩, ?_⟩
        · have e3 := ch_old (t := 3) (v := .pointer (some ⟨g0, 0, none⟩)) h rfl rfl; obtain ⟨r_, f_, n_, c_, z_, l_⟩ := keep1 h.bel R3 (by go_simp) F3; refine ch_pure ?_; go_simp
        refine ⟨.inl ⟨rfl, fun done a wq hw h => ?_⟩, ?_⟩
        · have e31 := ch_new (i := 6) (t := 31) h (hw 6 (by decide)) rfl rfl; have e32 := ch_new (i := 7) (t := 32) h (hw 7 (by decide)) rfl rfl; exact ch_call (vals := #[.agg (chkA q.from_ q.to_ q.n q.of_ D q.data.length dq), .agg (chkA x.from_ x.to_ x.n x.of_ B5 x.data.length d5)]) (by go_simp) (by go_simp) (by have := kinY_calls D B5 dq d5 q x wq; rwa [HKN.out] at this)
        refine ⟨.inl ⟨rfl, fun done a wq hw h => ?_⟩, ?_⟩
        · have e33 := ch_new (i := 8) (t := 33) h (hw 8 (by decide)) rfl rfl; refine ch_pure ?_; go_simp
        refine ⟨.inl ⟨rfl, fun done a wq hw h => ?_⟩, ?_⟩
        · have e28 := ch_new (i := 3) (t := 28) h (hw 3 (by decide)) rfl rfl; have e34 := ch_new (i := 9) (t := 34) h (hw 9 (by decide)) rfl rfl; exact ch_pick_t e28 (ch_ev e34)
        exact trivial
      · intro w6 hb6
        simp only [putAll_some, putAll_none, putAll_nil, List.setIfInBounds_toArray, List.set_cons_zero, List.set_cons_succ]
        obtain ⟨a0r, a0f, a0n, a0c, a0z, a0l⟩ := keep1 (g := g0) (cs := chkA x.from_ x.to_ x.n x.of_ B5 x.data.length d5) hb6 R3 (by go_simp) F3
        have HB6 : Hid (Below g0 w w6) := Lib.hid (HB5.out.trans (hb6.mono (by omega)))
        have HD6 := Lib.hid (HD5.out.stays hb6)
        have hs6 := hb6.size
        clear hb6 R3 F3
        go_wp2_with fail
        go_ret2
        rw [HZ.out]
        refine ⟨_, _, [(B5, d5)], rfl, grow_one (blk_top rfl) (by rw [HGE.out]; omega) (HD6.out.stays ((Below.refl _ _).alloc (Nat.le_refl _) _)) hd5 (fun k e => ?_), each_one (fun k e => by have := HBB.out k e; rw [HGE.out]; omega), (HGE.out.symm ▸ HB6.out.alloc (by omega) _)⟩
        have := HBL.out k e; omega
end Go.Proofs.Ytefkfglkpebbmac
