/- The walk of delta.Diff. No conditions. -/
import Derived.Test.YtefkfglkpebbmacQDiffRet
import Derived.Test.YtefkfglkpebbmacQBase
import Derived.Test.YtefkfglkpebbmacQMatch
import Derived.Test.YtefkfglkpebbmacQConcat23
import Derived.IntWalk
namespace Go.Proofs.Ytefkfglkpebbmac
open Go.RowKit
set_option linter.unusedVariables false
set_option linter.unusedSimpArgs false

theorem own_le {w : World} {base e size n c : Nat} {A : Option Addr} {xs : List Value} (h : Own w base e size A n c xs) : n ≤ c := h.le
set_option maxRecDepth 100000 in
set_option maxHeartbeats 4000000 in
theorem diff_many (A B : Option Addr) (c d : Nat) (old b : List UInt8) (w : World) (h : 64 < old.length ∨ 64 < b.length) (ho : old.length ≤ 140737488351232) (hl : b.length ≤ 140737488351232) :
    Calls Try.prog 14 #[.slice A old.length c, .slice B b.length d] w (RetB w (.tuple #[.slice none 0 0, iv 1])) := by
  by_cases h1 : (64 : Int) < (old.length : Int)
  · go_enter Try.func14, Try.ntmps14
    go_wp2_with fail
    go_ret2
    exact ⟨rfl, Below.refl _ _⟩
  · have h2 : (64 : Int) < (b.length : Int) := by omega
    clear h
    go_enter Try.func14, Try.ntmps14
    go_wp2_with fail
    go_ret2
    exact ⟨rfl, Below.refl _ _⟩

theorem blk_far {w w' : World} {base e size n c : Nat} {A : Option Addr} {xs : List Value} (h : Own w base e size A n c xs) (hg : w.grownBy w' (A.map (·.block))) {bb : Nat} (hb : bb < base) (hw : base ≤ w.heap.size) : w'.heap[bb]? = w.heap[bb]? := by
  refine hg.block bb (by omega) ?_
  intro e
  have := (h.block bb e.symm).1
  omega
/-- What is known while a byte is put behind the last step's data. -/
def diffJ (w0 w2 : World) (l0 : List Stp) (o : Stp) (ds0 : List (Option Addr × Nat)) (d0 : Option Addr × Nat) (g cc : Nat) (x : UInt8) : Nat → (Nat → Value) → World → Prop
  | 0, _, w => w = w2.drew
  | 1, cv, w => w = w2.drew.alloc (.cells #[bv x] 5) ∧ cv 11 = .slice (some ⟨w2.heap.size, 0, none⟩) 1 1
  | 2, cv, w => ∃ B' c', cv 12 = .slice B' (o.data.length + 1) c' ∧ Own w w0.heap.size 5 1 B' (o.data.length + 1) c' (o.data.map bv ++ [bv x]) ∧ (w2.drew.alloc (.cells #[bv x] 5)).grownBy w (d0.1.map (·.block)) ∧ Below w0.heap.size (w2.drew.alloc (.cells #[bv x] 5)) w ∧
      (B'.map (·.block) = d0.1.map (·.block) ∨ B'.map (·.block) = some (w2.drew.alloc (.cells #[bv x] 5)).heap.size)
  | _, _, w => ∃ B' c', DRow w w0.heap.size (l0 ++ [⟨o.at_, o.len, o.data ++ [x]⟩]) (ds0 ++ [(B', c')]) (some ⟨g, 0, none⟩) cc ∧ Below w0.heap.size w0 w
theorem diffJ_cell2 {w0 w2 : World} {l0 : List Stp} {o : Stp} {ds0 : List (Option Addr × Nat)} {d0 : Option Addr × Nat} {g cc : Nat} {x : UInt8} {k : Nat} {cv : Nat → Value} {w : World} (hk : k ≤ 1) (h : diffJ w0 w2 l0 o ds0 d0 g cc x k cv w) {j : Nat} {v : Value} (hc : w2.cell? ⟨g, j, none⟩ = some v) (hg : g < w2.heap.size) : w.cell? ⟨g, j, none⟩ = some v := by
  match k, hk, h with
  | 0, _, h => obtain rfl : w = w2.drew := h; exact hc
  | 1, _, ⟨h, _⟩ => rw [h, (((Below.refl w2.heap.size w2).drew).alloc (Nat.le_refl _) _).cell (p := ⟨g, j, none⟩) hg]; exact hc
theorem wp_slb {a : Act} {w : World} {K : Act → World → Prop} {Q : Exit → Act → World → Prop} {t : TypeId} {p : String} {af : Array Edge} {gd : Option (Nat × Bool)} {d s : Tmp} {n : UInt8} (hs : a.tmps[s]? = some (bv n))
    (h : K (a.put (some d) (.slice (some ⟨w.heap.size, 0, none⟩) 1 1)) (w.alloc (.cells #[bv n] 5))) :
    Oper.wp Try.prog ⟨some d, .buildSlice 22 1 #[(0, .tmp s)], t, p, af, gd⟩ a w K Q := by
  have e : a.eval (.tmp s) = bv n := by simp [Act.eval, hs]
  unfold Oper.wp execOp
  simp only [e, List.map_toArray, List.map_cons, List.map_nil]
  go_simp
  exact h
theorem wp_stb {a : Act} {w : World} {K : Act → World → Prop} {Q : Exit → Act → World → Prop} {t : TypeId} {p : String} {af : Array Edge} {gd : Option (Nat × Bool)} {x y : Tmp} {g j : Nat} {B : Option Addr} {n c : Nat} {u : Value} (hx : a.tmps[x]? = some (.pointer (some ⟨g, j, none⟩))) (hy : a.tmps[y]? = some (.slice B n c))
    (hc : w.cell? ⟨g, j, none⟩ = some u) (hf : w.frozen? ⟨g, j, none⟩ = false) (h : K a (w.setCell ⟨g, j, none⟩ (.slice B n c))) :
    Oper.wp Try.prog ⟨none, .store 22 (.tmp x) (.tmp y), t, p, af, gd⟩ a w K Q := by
  have e1 : a.eval (.tmp x) = .pointer (some ⟨g, j, none⟩) := by simp [Act.eval, hx]
  have e2 : a.eval (.tmp y) = .slice B n c := by simp [Act.eval, hy]
  unfold Oper.wp execOp
  simp only [e1, e2]
  go_simp
  exact h
theorem addByte_last (l : List Stp) (o : Stp) (x : UInt8) (h : ¬ 0 < o.len) : addByte (l ++ [o]) x = l ++ [⟨o.at_, o.len, o.data ++ [x]⟩] := by rw [addByte_snoc, if_neg h]
theorem addByte_new (l : List Stp) (o : Stp) (x : UInt8) (h : 0 < o.len) : addByte (l ++ [o]) x = (l ++ [o]) ++ [⟨0, 0, [] ++ [x]⟩] := by rw [addByte_snoc, if_pos h]; simp
theorem addByte_first (x : UInt8) : addByte [] x = [] ++ [⟨0, 0, [] ++ [x]⟩] := rfl
theorem drow_cell {w : World} {base : Nat} {l : List Stp} {o : Stp} {ds : List (Option Addr × Nat)} {g c : Nat} (h : DRow w base (l ++ [o]) ds (some ⟨g, 0, none⟩) c) : ∃ ds0 d, ds = ds0 ++ [d] ∧ ds0.length = l.length ∧
    w.cell? ⟨g, l.length * 3, none⟩ = some (iv o.at_) ∧ w.cell? ⟨g, l.length * 3 + 1, none⟩ = some (iv o.len) ∧ w.cell? ⟨g, l.length * 3 + 2, none⟩ = some (.slice d.1 o.data.length d.2) ∧ (∀ j, w.frozen? ⟨g, j, none⟩ = false) ∧ Own w base 5 1 d.1 o.data.length d.2 (o.data.map bv) := by
  have hne : ds ≠ [] := by intro e; have := h.len; rw [e] at this; simp at this
  obtain ⟨ds0, d, rfl⟩ := snoc_of ds hne
  have hl : ds0.length = l.length := by have := h.len; simpa using this
  have hd : (ds0 ++ [d])[l.length]? = some d := by rw [← hl]; simp
  have hc : ∀ j, j < 3 → w.cell? ⟨g, l.length * 3 + j, none⟩ = (opCell o d)[j]? := fun j hj => by
    rw [h.row.cellAt _ (by simp; omega)]
    exact opCells_at _ _ h.len l.length j o d (by simp) hd hj
  exact ⟨ds0, d, rfl, hl, hc 0 (by omega), hc 1 (by omega), hc 2 (by omega), fun j => h.row.frozenAt j, h.data l.length o d (by simp) hd⟩
set_option maxRecDepth 100000 in
set_option maxHeartbeats 8000000 in
theorem diff3_calls (A B : Option Addr) (c d : Nat) (old b : List UInt8) (w : World) (ho : old.length ≤ 64) (hb : b.length ≤ 64) (hA : Bts w A old) (hB : Bts w B b) :
    Calls Try.prog 14 #[.slice A old.length c, .slice B b.length d] w (OpRet3 w (diffed old b) 0) := by
  have h1 : ¬ (64 : Int) < (old.length : Int) := by omega
  have h2 : ¬ (64 : Int) < (b.length : Int) := by omega
  go_enter Try.func14, Try.ntmps14
  go_wp2_with fail
  go_loopw [6, 7] (fun v i wr => ∃ (q : Nat) (C : Option Addr) (cc : Nat) (ds : List (Option Addr × Nat)), i = .int .i64 ((diffN old b q).1 : Int) ∧ v = .slice C (diffN old b q).2.length cc ∧ DRow wr w.heap.size (diffN old b q).2 ds C cc ∧ Hid (Below w.heap.size w wr)) (fun _ i _ => b.length - (intOf i).toNat)
  case atStart => exact ⟨0, none, 0, [], rfl, rfl, DRow.nil _ _, Lib.hid (Below.refl _ _)⟩
  case round =>
    obtain ⟨q, C, cc, ds, rfl, rfl, hD, HB⟩ := hrel
    have hinv := diffN_inv old b q
    have hle := hinv.le
    have hsz := HB.out.size
    by_cases hlt : (diffN old b q).1 < b.length
    · have hlen : (diffN old b q).2.length ≤ 64 := by
        have := diffN_len old b q
        have := diffN_mono old b q hlt
        omega
      have hlong := fun h4 => diffStep_long (old := old) (b := b) hlt h4
      have hbyte := fun h4 => diffStep_byte (old := old) (b := b) hlt h4
      have hM : ∀ o ∈ (diffN old b q).2, o.data.length ≤ 64 := fun o ho => by
        have h1 := data_le old _ o ho
        rw [hinv.gives] at h1
        simp at h1; omega
      have HM := Lib.hid hM
      clear hM
      have hst : diffN old b (q + 1) = diffStep old b (diffN old b q) := rfl
      have hin := longest_in old b (diffN old b q).1
      have hcl := fun wq h1 h2 => longest_calls A B c d old b wq (diffN old b q).1 ho hb hle h1 h2
      rw [← hst] at hlong hbyte
      clear hst hinv
      generalize diffN old b q = p at *
      obtain ⟨i, l⟩ := p
      dsimp only at *
      generalize longest old b i = lg at *
      obtain ⟨wh, m⟩ := lg
      dsimp only at *
      have HL := Lib.hid hlong
      have HY := Lib.hid hbyte
      have HK := Lib.hid hcl
      have HD := Lib.hid hD
      have hA' := hA.stays HB.out
      have hB' := hB.stays HB.out
      obtain ⟨hi1, hi2⟩ := hin
      clear hlong hbyte hcl hD
      obtain ⟨bb, bo, rfl, hbw, hbx0⟩ := hB i hlt
      have hbx : wr.cell? ⟨bb, bo + i, none⟩ = some (bv b[i]) := (HB.out.cell (p := ⟨bb, bo + i, none⟩) hbw).trans hbx0
      have hbs : bb < wr.heap.size := Nat.lt_of_lt_of_le hbw hsz
      go_wp2_with fail
      refine (HK.out _ hA' hB').mono ?_
      rintro e w1 ⟨rfl, nd, rfl⟩
      clear hA' hB'
      by_cases h4 : 4 ≤ m
      · have h4' : (4 : Int) ≤ (m : Int) := by omega
        have HP := Lib.hid (HL.out h4)
        have hb0 : Below w.heap.size w (((wr.drewN nd)).alloc (.cells #[iv wh, iv m, .slice none 0 0] 117)) := (Below.drewN' HB.out nd).alloc hsz _
        have hD0 := (HD.out.drewN nd).below ((Below.refl (wr.drewN nd).heap.size (wr.drewN nd)).alloc (Nat.le_refl _) (.cells #[iv wh, iv m, .slice none 0 0] 117))
        have HB0 := Lib.hid hb0
        have HD0 := Lib.hid hD0
        clear hb0 hD0
        go_wp2_with (at_builtin; go_must (refine wpList_app _ rfl (.tmp 35) (.tmp 39) 23 rfl elOps w.heap.size C l.length cc (opCells l ds) rfl HD0.out.row (some ⟨wr.heap.size, 0, none⟩) 1 1 [iv wh, iv m, .slice none 0 0] rfl (src_blk (blk_top (by simp))) rfl (by simp [Value.oneCell']) (by omega) (by simp; omega) ?_))
        intro C' cc' w' hown hgr hbel hor
        have HD1 := Lib.hid (HD0.out.push hown hgr (by simpa using hor))
        have HB1 : Hid (Below w.heap.size w w') := Lib.hid (HB0.out.trans hbel)
        clear hown hgr hbel hor
        go_wp2_with fail
        go_roundw
        case rel => exact ⟨q + 1, C', cc', _, by rw [HP.out]; go_num, by rw [HP.out]; simp, by rw [HP.out]; exact HD1.out, HB1⟩
        case measure => simp [intOf]; omega
      · have h4' : ¬ (4 : Int) ≤ (m : Int) := by omega
        have HP := Lib.hid (HY.out h4)
        clear HL HY
        have hbx' : (wr.drewN nd).cell? ⟨bb, bo + i, none⟩ = some (bv b[i]) := hbx
        by_cases hl0 : l = []
        · obtain ⟨o, ho9⟩ : ∃ o : Stp, o = ⟨0, 0, []⟩ := ⟨_, rfl⟩
          have HQ : Hid (diffN old b (q + 1) = (i + 1, l ++ [⟨o.at_, o.len, o.data ++ [b.getD i 0]⟩])) := by
            rw [ho9]
            rw [hl0] at HP ⊢
            exact HP.out
          have hl1 : (l.length : Int) - 1 < 0 := by rw [hl0]; simp
          have hod : o.data.length ≤ 64 := by rw [ho9]; simp
          clear HP hl0
          have hb0 : Below w.heap.size w (((wr.drewN nd)).alloc (.cells #[iv 0, iv 0, .slice none 0 0] 117)) := (Below.drewN' HB.out nd).alloc hsz _
          have hD0 := (HD.out.drewN nd).below ((Below.refl (wr.drewN nd).heap.size (wr.drewN nd)).alloc (Nat.le_refl _) (.cells #[iv 0, iv 0, .slice none 0 0] 117))
          have HB0 := Lib.hid hb0
          have HD0 := Lib.hid hD0
          have hbb : ((wr.drewN nd).alloc (.cells #[iv 0, iv 0, .slice none 0 0] 117)).cell? ⟨bb, bo + i, none⟩ = some (bv b[i]) := by
            rw [((Below.refl (wr.drewN nd).heap.size (wr.drewN nd)).alloc (Nat.le_refl _) (.cells #[iv 0, iv 0, .slice none 0 0] 117)).cell (p := ⟨bb, bo + i, none⟩) hbs]; exact hbx'
          have HBB := Lib.hid hbb
          clear hb0 hD0 hbb
          go_wp2_with (at_builtin; go_must (refine wpList_app _ rfl (.tmp 57) (.tmp 59) 23 rfl elOps w.heap.size C l.length cc (opCells l ds) rfl HD0.out.row (some ⟨wr.heap.size, 0, none⟩) 1 1 [iv 0, iv 0, .slice none 0 0] rfl (src_blk (blk_top (by simp))) rfl (by simp [Value.oneCell']) (by omega) (by simp; omega) ?_))
          intro C' cc2 w2 hown hgr hbel hor
          obtain ⟨g2, rfl, hg1, hg2⟩ := hown.form (by omega)
          have HDc := Lib.hid (HD0.out.push hown hgr (by simpa using hor))
          have HBc : Hid (Below w.heap.size w w2) := Lib.hid (HB0.out.trans hbel)
          have hbx2 : w2.cell? ⟨bb, bo + i, none⟩ = some (bv b[i]) := by
            have hl := blk_far HD0.out.row hgr (bb := bb) hbw (by have := HB0.out.size; omega)
            exact (World.cell?_of_block hl).trans HBB.out
          clear hown hgr hbel hor HBB hbx hbx' HD HD0 HB0 hl1
          have hbx' := hbx2
          clear hbx2
          rw [← ho9] at HDc
          clear ho9
          obtain ⟨d0, hd0⟩ : ∃ d0 : Option Addr × Nat, (none, 0) = d0 := ⟨_, rfl⟩
          rw [hd0] at HDc
          clear hd0
          obtain ⟨ds1, d1, hds, hdl1, kc0, kc1, kc2, kfz, kdo⟩ := drow_cell HDc.out
          obtain ⟨rfl, hd1⟩ := List.append_inj' hds rfl
          obtain rfl : d0 = d1 := by simpa using hd1
          have kg := (HDc.out.row.block g2 rfl)
          obtain ⟨kg1, kg2⟩ := kg
          have kne : d0.1.map (·.block) ≠ some g2 := fun e => HDc.out.off l.length d0 (by rw [← hdl1]; simp) g2 e rfl
          have KNE := Lib.hid kne
          have KDO := Lib.hid kdo
          have KFZ := Lib.hid kfz
          have hsz2 := HBc.out.size
          clear hds hd1 kc0 kc1 kdo kne kfz hdl1
          have hix : ¬ (l.length : Int) + 1 ≤ (l.length : Int) := by omega
          go_wp2_with fail
          refine wp_region_mix (by kernel_rfl) (some 64 :: some 65 :: some 66 :: some 67 :: some 68 :: some 69 :: some 70 :: some 71 :: some 72 :: some 73 :: some 74 :: some 75 :: some 76 :: some 77 :: some 78 :: none :: []) (none :: none :: none :: none :: none :: none :: none :: none :: none :: none :: none :: some 0 :: some 1 :: none :: none :: some 2 :: []) (.slice (some ⟨g2, 0, none⟩) (l.length + 1) cc2 :: .int .i64 (l.length : Int) :: .slice (some ⟨g2, 0, none⟩) (l.length + 1) cc2 :: .int .i64 (l.length : Int) :: .pointer (some ⟨g2, l.length * 3, none⟩) :: .pointer (some ⟨g2, l.length * 3 + 2, none⟩) :: .slice d0.1 o.data.length d0.2 :: .slice (some ⟨bb, bo, none⟩) b.length d :: .int .i64 (i : Int) :: .pointer (some ⟨bb, bo + i, none⟩) :: bv b[i] :: undef :: undef :: .pointer (some ⟨g2, l.length * 3, none⟩) :: .pointer (some ⟨g2, l.length * 3 + 2, none⟩) :: undef :: []) 3 (diffJ w w2 l o ds d0 g2 cc2 b[i]) 82 rfl rfl (by decide +kernel) (by decide +kernel) (by decide +kernel) (by decide +kernel) rfl rfl (by decide +kernel) (by decide +kernel) (rfl) ?_ ?_
          · refine ⟨?_, ?_⟩
            · intro done cv k a wq hw h hJ hn
              have e6 := mx_old (t := 6) (v := .slice (some ⟨g2, 0, none⟩) (l.length + 1) cc2) h rfl rfl
              exact mx_move (ch_ev e6)
            refine ⟨?_, ?_⟩
            · intro done cv k a wq hw h hJ hn
              have e12 := mx_old (t := 12) (v := .int .i64 (l.length : Int)) h rfl rfl
              exact mx_move (ch_ev e12)
            refine ⟨?_, ?_⟩
            · intro done cv k a wq hw h hJ hn
              have e6 := mx_old (t := 6) (v := .slice (some ⟨g2, 0, none⟩) (l.length + 1) cc2) h rfl rfl
              exact mx_move (ch_ev e6)
            refine ⟨?_, ?_⟩
            · intro done cv k a wq hw h hJ hn
              have e12 := mx_old (t := 12) (v := .int .i64 (l.length : Int)) h rfl rfl
              exact mx_move (ch_ev e12)
            refine ⟨?_, ?_⟩
            · intro done cv k a wq hw h hJ hn
              have e66 := mx_new (i := 2) (t := 66) h (hw 2 (by decide)) rfl rfl rfl; have e67 := mx_new (i := 3) (t := 67) h (hw 3 (by decide)) rfl rfl rfl
              go_simp
            refine ⟨?_, ?_⟩
            · intro done cv k a wq hw h hJ hn
              have e68 := mx_new (i := 4) (t := 68) h (hw 4 (by decide)) rfl rfl rfl
              go_simp
            refine ⟨?_, ?_⟩
            · intro done cv k a wq hw h hJ hn
              have e69 := mx_new (i := 5) (t := 69) h (hw 5 (by decide)) rfl rfl rfl
              have hk := hn 12 _ 1 rfl rfl (by decide)
              have hc := diffJ_cell2 hk hJ kc2 kg2
              go_simp
            refine ⟨?_, ?_⟩
            · intro done cv k a wq hw h hJ hn
              have e1 := mx_old (t := 1) (v := .slice (some ⟨bb, bo, none⟩) b.length d) h rfl rfl
              exact mx_move (ch_ev e1)
            refine ⟨?_, ?_⟩
            · intro done cv k a wq hw h hJ hn
              have e7 := mx_old (t := 7) (v := .int .i64 (i : Int)) h rfl rfl
              exact mx_move (ch_ev e7)
            refine ⟨?_, ?_⟩
            · intro done cv k a wq hw h hJ hn
              have e71 := mx_new (i := 7) (t := 71) h (hw 7 (by decide)) rfl rfl rfl; have e72 := mx_new (i := 8) (t := 72) h (hw 8 (by decide)) rfl rfl rfl
              go_simp
            refine ⟨?_, ?_⟩
            · intro done cv k a wq hw h hJ hn
              have e73 := mx_new (i := 9) (t := 73) h (hw 9 (by decide)) rfl rfl rfl
              have hk := hn 11 _ 0 rfl rfl (by decide)
              obtain rfl : k = 0 := by omega
              obtain rfl : wq = w2.drew := hJ
              go_simp
            refine ⟨?_, ?_⟩
            · intro done cv a wq hw h hJ
              have e74 := mx_new (i := 10) (t := 74) h (hw 10 (by decide)) rfl rfl rfl
              obtain rfl : wq = w2.drew := hJ
              exact wp_slb e74 ⟨_, rfl, rfl, by simp⟩
            refine ⟨?_, ?_⟩
            · intro done cv a wq hw h hJ
              have e70 := mx_new (i := 6) (t := 70) h (hw 6 (by decide)) rfl rfl rfl; have e75 := mx_cv (i := 11) (t := 75) h (hw 11 (by decide)) rfl rfl
              obtain ⟨rfl, hv⟩ := hJ
              rw [hv] at e75
              refine wp_app _ (.tmp 70) (.tmp 75) 22 rfl elBytes w.heap.size d0.1 o.data.length d0.2 (o.data.map bv) (ch_ev e70) (KDO.out.drew.alloc _) (some ⟨w2.heap.size, 0, none⟩) 1 1 [bv b[i]] (ch_ev e75) (src_blk (blk_top (by simp))) rfl (by simp [Value.oneCell']) (by omega) (by simp; omega) ?_
              intro B' c' w3 hown hgr hbel hor
              exact ⟨_, rfl, B', c', by simp, hown, hgr, hbel, hor⟩
            refine ⟨?_, ?_⟩
            · intro done cv k a wq hw h hJ hn
              have e64 := mx_new (i := 0) (t := 64) h (hw 0 (by decide)) rfl rfl rfl; have e65 := mx_new (i := 1) (t := 65) h (hw 1 (by decide)) rfl rfl rfl
              go_simp
            refine ⟨?_, ?_⟩
            · intro done cv k a wq hw h hJ hn
              have e77 := mx_new (i := 13) (t := 77) h (hw 13 (by decide)) rfl rfl rfl
              go_simp
            refine ⟨?_, ?_⟩
            · intro done cv a wq hw h hJ
              have e78 := mx_new (i := 14) (t := 78) h (hw 14 (by decide)) rfl rfl rfl; have e76 := mx_cv (i := 12) (t := 76) h (hw 12 (by decide)) rfl rfl
              obtain ⟨B', c', hv, hown, hgr, hbel, hor⟩ := hJ
              rw [hv] at e76
              have hk3 : wq.heap[g2]? = (w2.drew.alloc (.cells #[bv b[i]] 5)).heap[g2]? := hgr.block g2 (by simp; omega) (fun e => KNE.out e.symm)
              have hk2 : (w2.drew.alloc (.cells #[bv b[i]] 5)).heap[g2]? = w2.heap[g2]? := Below.heap_alloc w2.drew _ g2 kg2
              have hkk : wq.heap[g2]? = w2.heap[g2]? := hk3.trans hk2
              have kc3 : wq.cell? ⟨g2, l.length * 3 + 2, none⟩ = some (.slice d0.1 o.data.length d0.2) := (World.cell?_of_block hkk).trans kc2
              have kf3 : wq.frozen? ⟨g2, l.length * 3 + 2, none⟩ = false := by
                have := KFZ.out (l.length * 3 + 2)
                unfold World.frozen? at this ⊢
                rw [hkk]; exact this
              have HD3 := HDc.out.below (((Below.refl w2.heap.size w2).drew).alloc (Nat.le_refl _) (.cells #[bv b[i]] 5))
              have HDn := HD3.add hown hgr hor
              have HBn : Below w.heap.size w wq := (HBc.out.drew.alloc hsz2 _).trans hbel
              exact wp_stb e78 e76 kc3 kf3 ⟨undef, rfl, B', c', HDn, HBn.setCell kg1 _⟩
            exact trivial
          · rintro cv w3 ⟨B', c', HDn', HBn'⟩
            have HDn := Lib.hid HDn'
            have HBn := Lib.hid HBn'
            clear HDn' HBn' kc2 kg1 kg2 hbx'
            simp only [mixAll, putAll_some, putAll_none, putAll_nil, List.getElem?_cons_zero, List.getElem?_cons_succ, Nat.zero_add, Nat.reduceAdd, List.setIfInBounds_toArray, List.set_cons_zero, List.set_cons_succ]
            go_wp2_with fail
            go_roundw
            case rel =>
              have hget : b.getD i 0 = b[i] := by rw [List.getD_eq_getElem?_getD, List.getElem?_eq_getElem hlt]; rfl
              refine ⟨q + 1, some ⟨g2, 0, none⟩, cc2, ds ++ [(B', c')], by rw [HQ.out]; go_num, by rw [HQ.out]; simp, ?_, HBn⟩
              rw [HQ.out, hget]
              exact HDn.out
            case measure => simp [intOf]; omega
        · have hlp : 1 ≤ l.length := by
            rcases l with _ | ⟨x, l⟩
            · exact absurd rfl hl0
            · simp
          obtain ⟨l0, o, hlo⟩ := snoc_of l hl0
          have hD9 := HD.out
          obtain ⟨g, rfl, hg1, hg2⟩ := hD9.row.form hlp
          have hD8 := hD9.drewN nd
          rw [hlo] at hD8
          obtain ⟨ds0, d0, hdse, hdl, hc0, hc1, hc2, hfz, hdo⟩ := drow_cell hD8
          have hll : l0.length = l.length - 1 := by rw [hlo]; simp
          rw [hll] at hc1
          by_cases hol : 0 < o.len
          · obtain ⟨o2, ho9⟩ : ∃ o : Stp, o = ⟨0, 0, []⟩ := ⟨_, rfl⟩
            have HQ : Hid (diffN old b (q + 1) = (i + 1, l ++ [⟨o2.at_, o2.len, o2.data ++ [b.getD i 0]⟩])) := Lib.hid (HP.out.trans (by rw [ho9, hlo, addByte_new _ _ _ hol]))
            have hod : o2.data.length ≤ 64 := by rw [ho9]; simp
            have hl1 : ¬ (l.length : Int) - 1 < 0 := by omega
            clear HP hl0 hD9 hD8 hlo hdse hdl hc0 hc2 hfz hdo hll
            have hb0 : Below w.heap.size w (((wr.drewN nd)).alloc (.cells #[iv 0, iv 0, .slice none 0 0] 117)) := (Below.drewN' HB.out nd).alloc hsz _
            have hD0 := (HD.out.drewN nd).below ((Below.refl (wr.drewN nd).heap.size (wr.drewN nd)).alloc (Nat.le_refl _) (.cells #[iv 0, iv 0, .slice none 0 0] 117))
            have HB0 := Lib.hid hb0
            have HD0 := Lib.hid hD0
            have hbb : ((wr.drewN nd).alloc (.cells #[iv 0, iv 0, .slice none 0 0] 117)).cell? ⟨bb, bo + i, none⟩ = some (bv b[i]) := by
              rw [((Below.refl (wr.drewN nd).heap.size (wr.drewN nd)).alloc (Nat.le_refl _) (.cells #[iv 0, iv 0, .slice none 0 0] 117)).cell (p := ⟨bb, bo + i, none⟩) hbs]; exact hbx'
            have HBB := Lib.hid hbb
            clear hb0 hD0 hbb
            go_wp2_with (at_builtin; go_must (refine wpList_app _ rfl (.tmp 57) (.tmp 59) 23 rfl elOps w.heap.size _ l.length cc (opCells l ds) rfl HD0.out.row (some ⟨wr.heap.size, 0, none⟩) 1 1 [iv 0, iv 0, .slice none 0 0] rfl (src_blk (blk_top (by simp))) rfl (by simp [Value.oneCell']) (by omega) (by simp; omega) ?_))
            intro C' cc2 w2 hown hgr hbel hor
            obtain ⟨g2, rfl, hg1, hg2⟩ := hown.form (by omega)
            have HDc := Lib.hid (HD0.out.push hown hgr (by simpa using hor))
            have HBc : Hid (Below w.heap.size w w2) := Lib.hid (HB0.out.trans hbel)
            have hbx2 : w2.cell? ⟨bb, bo + i, none⟩ = some (bv b[i]) := by
              have hl := blk_far HD0.out.row hgr (bb := bb) hbw (by have := HB0.out.size; omega)
              exact (World.cell?_of_block hl).trans HBB.out
            clear hown hgr hbel hor HBB hbx hbx' HD HD0 HB0 hl1 hol hlp
            have hbx' := hbx2
            clear hbx2
            rw [← ho9] at HDc
            clear ho9
            obtain ⟨d9, hd0⟩ : ∃ d9 : Option Addr × Nat, (none, 0) = d9 := ⟨_, rfl⟩
            rw [hd0] at HDc
            clear hd0
            obtain ⟨ds1, d1, hds, hdl1, kc0, kc1, kc2, kfz, kdo⟩ := drow_cell HDc.out
            obtain ⟨rfl, hd1⟩ := List.append_inj' hds rfl
            obtain rfl : d9 = d1 := by simpa using hd1
            have kg := (HDc.out.row.block g2 rfl)
            obtain ⟨kg1, kg2⟩ := kg
            have kne : d9.1.map (·.block) ≠ some g2 := fun e => HDc.out.off l.length d9 (by rw [← hdl1]; simp) g2 e rfl
            have KNE := Lib.hid kne
            have KDO := Lib.hid kdo
            have KFZ := Lib.hid kfz
            have hsz2 := HBc.out.size
            clear hds hd1 kc0 kc1 kdo kne kfz hdl1
            have hix : ¬ (l.length : Int) + 1 ≤ (l.length : Int) := by omega
            go_wp2_with fail
            refine wp_region_mix (by kernel_rfl) (some 64 :: some 65 :: some 66 :: some 67 :: some 68 :: some 69 :: some 70 :: some 71 :: some 72 :: some 73 :: some 74 :: some 75 :: some 76 :: some 77 :: some 78 :: none :: []) (none :: none :: none :: none :: none :: none :: none :: none :: none :: none :: none :: some 0 :: some 1 :: none :: none :: some 2 :: []) (.slice (some ⟨g2, 0, none⟩) (l.length + 1) cc2 :: .int .i64 (l.length : Int) :: .slice (some ⟨g2, 0, none⟩) (l.length + 1) cc2 :: .int .i64 (l.length : Int) :: .pointer (some ⟨g2, l.length * 3, none⟩) :: .pointer (some ⟨g2, l.length * 3 + 2, none⟩) :: .slice d9.1 o2.data.length d9.2 :: .slice (some ⟨bb, bo, none⟩) b.length d :: .int .i64 (i : Int) :: .pointer (some ⟨bb, bo + i, none⟩) :: bv b[i] :: undef :: undef :: .pointer (some ⟨g2, l.length * 3, none⟩) :: .pointer (some ⟨g2, l.length * 3 + 2, none⟩) :: undef :: []) 3 (diffJ w w2 l o2 ds d9 g2 cc2 b[i]) 82 rfl rfl (by decide +kernel) (by decide +kernel) (by decide +kernel) (by decide +kernel) rfl rfl (by decide +kernel) (by decide +kernel) (rfl) ?_ ?_
            · refine ⟨?_, ?_⟩
              · intro done cv k a wq hw h hJ hn
                have e6 := mx_old (t := 6) (v := .slice (some ⟨g2, 0, none⟩) (l.length + 1) cc2) h rfl rfl
                exact mx_move (ch_ev e6)
              refine ⟨?_, ?_⟩
              · intro done cv k a wq hw h hJ hn
                have e12 := mx_old (t := 12) (v := .int .i64 (l.length : Int)) h rfl rfl
                exact mx_move (ch_ev e12)
              refine ⟨?_, ?_⟩
              · intro done cv k a wq hw h hJ hn
                have e6 := mx_old (t := 6) (v := .slice (some ⟨g2, 0, none⟩) (l.length + 1) cc2) h rfl rfl
                exact mx_move (ch_ev e6)
              refine ⟨?_, ?_⟩
              · intro done cv k a wq hw h hJ hn
                have e12 := mx_old (t := 12) (v := .int .i64 (l.length : Int)) h rfl rfl
                exact mx_move (ch_ev e12)
              refine ⟨?_, ?_⟩
              · intro done cv k a wq hw h hJ hn
                have e66 := mx_new (i := 2) (t := 66) h (hw 2 (by decide)) rfl rfl rfl; have e67 := mx_new (i := 3) (t := 67) h (hw 3 (by decide)) rfl rfl rfl
                go_simp
              refine ⟨?_, ?_⟩
              · intro done cv k a wq hw h hJ hn
                have e68 := mx_new (i := 4) (t := 68) h (hw 4 (by decide)) rfl rfl rfl
                go_simp
              refine ⟨?_, ?_⟩
              · intro done cv k a wq hw h hJ hn
                have e69 := mx_new (i := 5) (t := 69) h (hw 5 (by decide)) rfl rfl rfl
                have hk := hn 12 _ 1 rfl rfl (by decide)
                have hc := diffJ_cell2 hk hJ kc2 kg2
                go_simp
              refine ⟨?_, ?_⟩
              · intro done cv k a wq hw h hJ hn
                have e1 := mx_old (t := 1) (v := .slice (some ⟨bb, bo, none⟩) b.length d) h rfl rfl
                exact mx_move (ch_ev e1)
              refine ⟨?_, ?_⟩
              · intro done cv k a wq hw h hJ hn
                have e7 := mx_old (t := 7) (v := .int .i64 (i : Int)) h rfl rfl
                exact mx_move (ch_ev e7)
              refine ⟨?_, ?_⟩
              · intro done cv k a wq hw h hJ hn
                have e71 := mx_new (i := 7) (t := 71) h (hw 7 (by decide)) rfl rfl rfl; have e72 := mx_new (i := 8) (t := 72) h (hw 8 (by decide)) rfl rfl rfl
                go_simp
              refine ⟨?_, ?_⟩
              · intro done cv k a wq hw h hJ hn
                have e73 := mx_new (i := 9) (t := 73) h (hw 9 (by decide)) rfl rfl rfl
                have hk := hn 11 _ 0 rfl rfl (by decide)
                obtain rfl : k = 0 := by omega
                obtain rfl : wq = w2.drew := hJ
                go_simp
              refine ⟨?_, ?_⟩
              · intro done cv a wq hw h hJ
                have e74 := mx_new (i := 10) (t := 74) h (hw 10 (by decide)) rfl rfl rfl
                obtain rfl : wq = w2.drew := hJ
                exact wp_slb e74 ⟨_, rfl, rfl, by simp⟩
              refine ⟨?_, ?_⟩
              · intro done cv a wq hw h hJ
                have e70 := mx_new (i := 6) (t := 70) h (hw 6 (by decide)) rfl rfl rfl; have e75 := mx_cv (i := 11) (t := 75) h (hw 11 (by decide)) rfl rfl
                obtain ⟨rfl, hv⟩ := hJ
                rw [hv] at e75
                refine wp_app _ (.tmp 70) (.tmp 75) 22 rfl elBytes w.heap.size d9.1 o2.data.length d9.2 (o2.data.map bv) (ch_ev e70) (KDO.out.drew.alloc _) (some ⟨w2.heap.size, 0, none⟩) 1 1 [bv b[i]] (ch_ev e75) (src_blk (blk_top (by simp))) rfl (by simp [Value.oneCell']) (by omega) (by simp; omega) ?_
                intro B' c' w3 hown hgr hbel hor
                exact ⟨_, rfl, B', c', by simp, hown, hgr, hbel, hor⟩
              refine ⟨?_, ?_⟩
              · intro done cv k a wq hw h hJ hn
                have e64 := mx_new (i := 0) (t := 64) h (hw 0 (by decide)) rfl rfl rfl; have e65 := mx_new (i := 1) (t := 65) h (hw 1 (by decide)) rfl rfl rfl
                go_simp
              refine ⟨?_, ?_⟩
              · intro done cv k a wq hw h hJ hn
                have e77 := mx_new (i := 13) (t := 77) h (hw 13 (by decide)) rfl rfl rfl
                go_simp
              refine ⟨?_, ?_⟩
              · intro done cv a wq hw h hJ
                have e78 := mx_new (i := 14) (t := 78) h (hw 14 (by decide)) rfl rfl rfl; have e76 := mx_cv (i := 12) (t := 76) h (hw 12 (by decide)) rfl rfl
                obtain ⟨B', c', hv, hown, hgr, hbel, hor⟩ := hJ
                rw [hv] at e76
                have hk3 : wq.heap[g2]? = (w2.drew.alloc (.cells #[bv b[i]] 5)).heap[g2]? := hgr.block g2 (by simp; omega) (fun e => KNE.out e.symm)
                have hk2 : (w2.drew.alloc (.cells #[bv b[i]] 5)).heap[g2]? = w2.heap[g2]? := Below.heap_alloc w2.drew _ g2 kg2
                have hkk : wq.heap[g2]? = w2.heap[g2]? := hk3.trans hk2
                have kc3 : wq.cell? ⟨g2, l.length * 3 + 2, none⟩ = some (.slice d9.1 o2.data.length d9.2) := (World.cell?_of_block hkk).trans kc2
                have kf3 : wq.frozen? ⟨g2, l.length * 3 + 2, none⟩ = false := by
                  have := KFZ.out (l.length * 3 + 2)
                  unfold World.frozen? at this ⊢
                  rw [hkk]; exact this
                have HD3 := HDc.out.below (((Below.refl w2.heap.size w2).drew).alloc (Nat.le_refl _) (.cells #[bv b[i]] 5))
                have HDn := HD3.add hown hgr hor
                have HBn : Below w.heap.size w wq := (HBc.out.drew.alloc hsz2 _).trans hbel
                exact wp_stb e78 e76 kc3 kf3 ⟨undef, rfl, B', c', HDn, HBn.setCell kg1 _⟩
              exact trivial
            · rintro cv w3 ⟨B', c', HDn', HBn'⟩
              have HDn := Lib.hid HDn'
              have HBn := Lib.hid HBn'
              clear HDn' HBn' kc2 kg1 kg2 hbx'
              simp only [mixAll, putAll_some, putAll_none, putAll_nil, List.getElem?_cons_zero, List.getElem?_cons_succ, Nat.zero_add, Nat.reduceAdd, List.setIfInBounds_toArray, List.set_cons_zero, List.set_cons_succ]
              go_wp2_with fail
              go_roundw
              case rel =>
                have hget : b.getD i 0 = b[i] := by rw [List.getD_eq_getElem?_getD, List.getElem?_eq_getElem hlt]; rfl
                refine ⟨q + 1, some ⟨g2, 0, none⟩, cc2, ds ++ [(B', c')], by rw [HQ.out]; go_num, by rw [HQ.out]; simp, ?_, HBn⟩
                rw [HQ.out, hget]
                exact HDn.out
              case measure => simp [intOf]; omega
          · subst hlo
            have hD7 := HD.out
            rw [hdse] at hD7
            clear HD
            have HD := Lib.hid hD7
            have HQ := Lib.hid (HP.out.trans (by rw [addByte_last _ _ _ hol]))
            have hod := HM.out o (by simp)
            simp only [List.length_append, List.length_cons, List.length_nil] at hlen
            clear HP hl0 hfz hc0 hc2 hdo hdl hD9 hD8 hD7 hll hlp
            have hc1' : (wr.drewN nd).cell? ⟨g, l0.length * 3 + 1, none⟩ = some (iv o.len) := by simpa using hc1
            clear hc1
            have HDc := Lib.hid (HD.out.drewN nd)
            have HBc : Hid (Below w.heap.size w (wr.drewN nd)) := Lib.hid (Below.drewN' HB.out nd)
            clear hbx HD
            subst hdse
            generalize wr.drewN nd = w2 at *
            obtain ⟨ds1, d1, hds, hdl1, kc0, kc1, kc2, kfz, kdo⟩ := drow_cell HDc.out
            obtain ⟨rfl, hd1⟩ := List.append_inj' hds rfl
            obtain rfl : d0 = d1 := by simpa using hd1
            have kg := (HDc.out.row.block g rfl)
            obtain ⟨kg1, kg2⟩ := kg
            have kne : d0.1.map (·.block) ≠ some g := fun e => HDc.out.off l0.length d0 (by rw [← hdl1]; simp) g e rfl
            have KNE := Lib.hid kne
            have KDO := Lib.hid kdo
            have KFZ := Lib.hid kfz
            have hsz2 := HBc.out.size
            clear hds hd1 kc0 kc1 kdo kne kfz hdl1
            have hix : ¬ (l0.length : Int) + 1 ≤ (l0.length : Int) := by omega
            go_wp2_with fail
            refine wp_region_mix (by kernel_rfl) (some 64 :: some 65 :: some 66 :: some 67 :: some 68 :: some 69 :: some 70 :: some 71 :: some 72 :: some 73 :: some 74 :: some 75 :: some 76 :: some 77 :: some 78 :: none :: []) (none :: none :: none :: none :: none :: none :: none :: none :: none :: none :: none :: some 0 :: some 1 :: none :: none :: some 2 :: []) (.slice (some ⟨g, 0, none⟩) (l0.length + 1) cc :: .int .i64 (l0.length : Int) :: .slice (some ⟨g, 0, none⟩) (l0.length + 1) cc :: .int .i64 (l0.length : Int) :: .pointer (some ⟨g, l0.length * 3, none⟩) :: .pointer (some ⟨g, l0.length * 3 + 2, none⟩) :: .slice d0.1 o.data.length d0.2 :: .slice (some ⟨bb, bo, none⟩) b.length d :: .int .i64 (i : Int) :: .pointer (some ⟨bb, bo + i, none⟩) :: bv b[i] :: undef :: undef :: .pointer (some ⟨g, l0.length * 3, none⟩) :: .pointer (some ⟨g, l0.length * 3 + 2, none⟩) :: undef :: []) 3 (diffJ w w2 l0 o ds0 d0 g cc b[i]) 82 rfl rfl (by decide +kernel) (by decide +kernel) (by decide +kernel) (by decide +kernel) rfl rfl (by decide +kernel) (by decide +kernel) (rfl) ?_ ?_
            · refine ⟨?_, ?_⟩
              · intro done cv k a wq hw h hJ hn
                have e6 := mx_old (t := 6) (v := .slice (some ⟨g, 0, none⟩) (l0.length + 1) cc) h rfl rfl
                exact mx_move (ch_ev e6)
              refine ⟨?_, ?_⟩
              · intro done cv k a wq hw h hJ hn
                have e12 := mx_old (t := 12) (v := .int .i64 (l0.length : Int)) h rfl rfl
                exact mx_move (ch_ev e12)
              refine ⟨?_, ?_⟩
              · intro done cv k a wq hw h hJ hn
                have e6 := mx_old (t := 6) (v := .slice (some ⟨g, 0, none⟩) (l0.length + 1) cc) h rfl rfl
                exact mx_move (ch_ev e6)
              refine ⟨?_, ?_⟩
              · intro done cv k a wq hw h hJ hn
                have e12 := mx_old (t := 12) (v := .int .i64 (l0.length : Int)) h rfl rfl
                exact mx_move (ch_ev e12)
              refine ⟨?_, ?_⟩
              · intro done cv k a wq hw h hJ hn
                have e66 := mx_new (i := 2) (t := 66) h (hw 2 (by decide)) rfl rfl rfl; have e67 := mx_new (i := 3) (t := 67) h (hw 3 (by decide)) rfl rfl rfl
                go_simp
              refine ⟨?_, ?_⟩
              · intro done cv k a wq hw h hJ hn
                have e68 := mx_new (i := 4) (t := 68) h (hw 4 (by decide)) rfl rfl rfl
                go_simp
              refine ⟨?_, ?_⟩
              · intro done cv k a wq hw h hJ hn
                have e69 := mx_new (i := 5) (t := 69) h (hw 5 (by decide)) rfl rfl rfl
                have hk := hn 12 _ 1 rfl rfl (by decide)
                have hc := diffJ_cell2 hk hJ kc2 kg2
                go_simp
              refine ⟨?_, ?_⟩
              · intro done cv k a wq hw h hJ hn
                have e1 := mx_old (t := 1) (v := .slice (some ⟨bb, bo, none⟩) b.length d) h rfl rfl
                exact mx_move (ch_ev e1)
              refine ⟨?_, ?_⟩
              · intro done cv k a wq hw h hJ hn
                have e7 := mx_old (t := 7) (v := .int .i64 (i : Int)) h rfl rfl
                exact mx_move (ch_ev e7)
              refine ⟨?_, ?_⟩
              · intro done cv k a wq hw h hJ hn
                have e71 := mx_new (i := 7) (t := 71) h (hw 7 (by decide)) rfl rfl rfl; have e72 := mx_new (i := 8) (t := 72) h (hw 8 (by decide)) rfl rfl rfl
                go_simp
              refine ⟨?_, ?_⟩
              · intro done cv k a wq hw h hJ hn
                have e73 := mx_new (i := 9) (t := 73) h (hw 9 (by decide)) rfl rfl rfl
                have hk := hn 11 _ 0 rfl rfl (by decide)
                obtain rfl : k = 0 := by omega
                obtain rfl : wq = w2.drew := hJ
                go_simp
              refine ⟨?_, ?_⟩
              · intro done cv a wq hw h hJ
                have e74 := mx_new (i := 10) (t := 74) h (hw 10 (by decide)) rfl rfl rfl
                obtain rfl : wq = w2.drew := hJ
                exact wp_slb e74 ⟨_, rfl, rfl, by simp⟩
              refine ⟨?_, ?_⟩
              · intro done cv a wq hw h hJ
                have e70 := mx_new (i := 6) (t := 70) h (hw 6 (by decide)) rfl rfl rfl; have e75 := mx_cv (i := 11) (t := 75) h (hw 11 (by decide)) rfl rfl
                obtain ⟨rfl, hv⟩ := hJ
                rw [hv] at e75
                refine wp_app _ (.tmp 70) (.tmp 75) 22 rfl elBytes w.heap.size d0.1 o.data.length d0.2 (o.data.map bv) (ch_ev e70) (KDO.out.drew.alloc _) (some ⟨w2.heap.size, 0, none⟩) 1 1 [bv b[i]] (ch_ev e75) (src_blk (blk_top (by simp))) rfl (by simp [Value.oneCell']) (by omega) (by simp; omega) ?_
                intro B' c' w3 hown hgr hbel hor
                exact ⟨_, rfl, B', c', by simp, hown, hgr, hbel, hor⟩
              refine ⟨?_, ?_⟩
              · intro done cv k a wq hw h hJ hn
                have e64 := mx_new (i := 0) (t := 64) h (hw 0 (by decide)) rfl rfl rfl; have e65 := mx_new (i := 1) (t := 65) h (hw 1 (by decide)) rfl rfl rfl
                go_simp
              refine ⟨?_, ?_⟩
              · intro done cv k a wq hw h hJ hn
                have e77 := mx_new (i := 13) (t := 77) h (hw 13 (by decide)) rfl rfl rfl
                go_simp
              refine ⟨?_, ?_⟩
              · intro done cv a wq hw h hJ
                have e78 := mx_new (i := 14) (t := 78) h (hw 14 (by decide)) rfl rfl rfl; have e76 := mx_cv (i := 12) (t := 76) h (hw 12 (by decide)) rfl rfl
                obtain ⟨B', c', hv, hown, hgr, hbel, hor⟩ := hJ
                rw [hv] at e76
                have hk3 : wq.heap[g]? = (w2.drew.alloc (.cells #[bv b[i]] 5)).heap[g]? := hgr.block g (by simp; omega) (fun e => KNE.out e.symm)
                have hk2 : (w2.drew.alloc (.cells #[bv b[i]] 5)).heap[g]? = w2.heap[g]? := Below.heap_alloc w2.drew _ g kg2
                have hkk : wq.heap[g]? = w2.heap[g]? := hk3.trans hk2
                have kc3 : wq.cell? ⟨g, l0.length * 3 + 2, none⟩ = some (.slice d0.1 o.data.length d0.2) := (World.cell?_of_block hkk).trans kc2
                have kf3 : wq.frozen? ⟨g, l0.length * 3 + 2, none⟩ = false := by
                  have := KFZ.out (l0.length * 3 + 2)
                  unfold World.frozen? at this ⊢
                  rw [hkk]; exact this
                have HD3 := HDc.out.below (((Below.refl w2.heap.size w2).drew).alloc (Nat.le_refl _) (.cells #[bv b[i]] 5))
                have HDn := HD3.add hown hgr hor
                have HBn : Below w.heap.size w wq := (HBc.out.drew.alloc hsz2 _).trans hbel
                exact wp_stb e78 e76 kc3 kf3 ⟨undef, rfl, B', c', HDn, HBn.setCell kg1 _⟩
              exact trivial
            · rintro cv w3 ⟨B', c', HDn', HBn'⟩
              have HDn := Lib.hid HDn'
              have HBn := Lib.hid HBn'
              clear HDn' HBn' kc2 kg1 kg2 hbx'
              simp only [mixAll, putAll_some, putAll_none, putAll_nil, List.getElem?_cons_zero, List.getElem?_cons_succ, Nat.zero_add, Nat.reduceAdd, List.setIfInBounds_toArray, List.set_cons_zero, List.set_cons_succ]
              go_wp2_with fail
              go_roundw
              case rel =>
                have hget : b.getD i 0 = b[i] := by rw [List.getD_eq_getElem?_getD, List.getElem?_eq_getElem hlt]; rfl
                refine ⟨q + 1, some ⟨g, 0, none⟩, cc, ds0 ++ [(B', c')], by rw [HQ.out]; go_num, by rw [HQ.out]; simp, ?_, HBn⟩
                rw [HQ.out, hget]
                exact HDn.out
              case measure => simp [intOf]; omega
    · have hend := diffN_end old b q hlt
      have hsps : Fresh w.heap.size wr (fun v => Sps v C (diffN old b q).2) := hD.fresh (fun o ho => by
        have h3 := hinv.each o ho
        have h4 := data_le old _ o ho
        rw [hinv.gives] at h4
        simp at h4
        unfold I64
        rcases h3 with ⟨e1, e2, _⟩ | ⟨e1, e2, e3, _⟩
        · rw [e1, e2]; exact ⟨by omega, by omega, by omega⟩
        · exact ⟨by omega, by omega, by omega⟩)
      have HS := Lib.hid hsps
      have HE := Lib.hid hend
      have HO := Lib.hid hD.row.le
      have hlt' : ¬ ((diffN old b q).1 : Int) < (b.length : Int) := by omega
      clear hsps hend hD hinv hle
      go_wp2_with fail
      refine bodyPost_ret (results_tmp2 rfl _ _ _) rfl ⟨C, cc, ?_, ?_, ?_, HB.out⟩
      · rw [← HE.out]; rfl
      · rw [← HE.out]; exact HS.out
      · rw [← HE.out]; exact HO.out
theorem diff_calls (A B : Option Addr) (c d : Nat) (old b : List UInt8) (w : World) (ho : old.length ≤ 64) (hb : b.length ≤ 64) (hA : Bts w A old) (hB : Bts w B b) :
    Calls Try.prog 14 #[.slice A old.length c, .slice B b.length d] w (OpRet2 w (diffed old b) 0) :=
  (diff3_calls A B c d old b w ho hb hA hB).mono fun _ _ ⟨A, c, h1, h2, h3, h4⟩ => ⟨A, c, h1, h2.now, h3, h4⟩
end Go.Proofs.Ytefkfglkpebbmac
