/- The walk of compose.add. No conditions. -/
import Derived.Test.YtefkfglkpebbmabWpCall
import Derived.Test.YtefkfglkpebbmabComposeOwn
import Derived.Test.YtefkfglkpebbmabDiff
import Derived.IntWalk
namespace Go.Proofs.Ytefkfglkpebbmab
open Go.RowKit
set_option linter.unusedVariables false
set_option linter.unusedSimpArgs false

def AddRet (w : World) (base : Nat) (l : List Stp) : Ending → World → Prop := fun en w' =>
  ∃ A c ds, en = .returned (.slice A l.length c) ∧ CRow w' base l ds A c ∧ Below base w w'
def Stp.small (o : Stp) : Prop := 0 ≤ o.at_ ∧ 0 ≤ o.len ∧ o.at_ + o.len ≤ 1048576 ∧ o.data.length ≤ 1048576
structure AddIn (w : World) (base : Nat) (l : List Stp) (ds : List (Option Addr × Nat)) (A : Option Addr) (c : Nat) (o : Stp) (D : Option Addr) (dd : Nat) : Prop where
  base_ : base ≤ w.heap.size
  row : CRow w base l ds A c
  data : Bts w D o.data
  le : o.data.length ≤ dd
  off : ∀ k, D.map (·.block) = some k → A.map (·.block) ≠ some k ∧ k < w.heap.size
  many : l.length ≤ 1048576
  small : o.small
  smalls : ∀ p ∈ l, p.small
theorem wp_sl2 {a : Act} {w : World} {K : Act → World → Prop} {Q : Exit → Act → World → Prop} {t : TypeId} {p : String} {af : Array Edge} {gd : Option (Nat × Bool)} {d s r : Tmp} {A B : Option Addr} {n c m e : Nat} (hs : a.tmps[s]? = some (.slice A n c)) (hr : a.tmps[r]? = some (.slice B m e))
    (h : K (a.put (some d) (.slice (some ⟨w.heap.size, 0, none⟩) 2 2)) (w.alloc (.cells #[.slice A n c, .slice B m e] 22))) :
    Oper.wp Try.prog ⟨some d, .buildSlice 64 2 #[(0, .tmp s), (1, .tmp r)], t, p, af, gd⟩ a w K Q := by
  have e1 : a.eval (.tmp s) = .slice A n c := by simp [Act.eval, hs]
  have e2 : a.eval (.tmp r) = .slice B m e := by simp [Act.eval, hr]
  unfold Oper.wp execOp
  simp only [e1, e2, List.map_toArray, List.map_cons, List.map_nil]
  go_simp
  exact h
theorem wp_sti {a : Act} {w : World} {K : Act → World → Prop} {Q : Exit → Act → World → Prop} {t : TypeId} {p : String} {af : Array Edge} {gd : Option (Nat × Bool)} {x y : Tmp} {g j : Nat} {n : Int} {u : Value} (hx : a.tmps[x]? = some (.pointer (some ⟨g, j, none⟩))) (hy : a.tmps[y]? = some (iv n))
    (hc : w.cell? ⟨g, j, none⟩ = some u) (hf : w.frozen? ⟨g, j, none⟩ = false) (h : K a (w.setCell ⟨g, j, none⟩ (iv n))) :
    Oper.wp Try.prog ⟨none, .store 3 (.tmp x) (.tmp y), t, p, af, gd⟩ a w K Q := by
  have e1 : a.eval (.tmp x) = .pointer (some ⟨g, j, none⟩) := by simp [Act.eval, hx]
  have e2 : a.eval (.tmp y) = iv n := by simp [Act.eval, hy]
  unfold Oper.wp execOp
  simp only [e1, e2]
  go_simp
  exact h
/-- The end of a walk that puts the step behind the others. -/
theorem addRet_push {w w1 w2 : World} {base : Nat} {l : List Stp} {ds : List (Option Addr × Nat)} {A A' : Option Addr} {c c' : Nat} {o : Stp} {D : Option Addr} {dd : Nat} (h : CRow w1 base l ds A c) (hb : Below base w w1)
    (h1 : Own w2 base 31 3 A' (l.length + 1) c' (opCells l ds ++ [iv o.at_, iv o.len, .slice D o.data.length dd])) (h2 : w1.grownBy w2 (A.map (·.block))) (h3 : Below base w1 w2) (h4 : A'.map (·.block) = A.map (·.block) ∨ A'.map (·.block) = some w1.heap.size)
    (hd : Bts w1 D o.data) (hd2 : o.data.length ≤ dd) (hd3 : ∀ k, D.map (·.block) = some k → A.map (·.block) ≠ some k ∧ k < w1.heap.size) : AddRet w base (l ++ [o]) (.returned (.slice A' (l.length + 1) c')) w2 :=
  ⟨A', c', ds ++ [(D, dd)], by simp, h.push (d := (D, dd)) h1 h2 h4 hd hd2 hd3, hb.trans h3⟩
set_option maxRecDepth 100000 in
set_option maxHeartbeats 4000000 in
theorem composeAdd_nil {w : World} {base : Nat} {ds : List (Option Addr × Nat)} {A : Option Addr} {c : Nat} {o : Stp} {D : Option Addr} {dd : Nat} (h : AddIn w base [] ds A c o D dd) :
    Calls Try.prog 52 #[.slice A 0 c, .agg #[iv o.at_, iv o.len, .slice D o.data.length dd]] w (AddRet w base (addStp [] o)) := by
  obtain ⟨h1, h2, h3, h4, h5, h6, h7, h8⟩ := h
  have hb : Below w.heap.size w (((w.alloc (.cells #[iv o.at_, iv o.len, .slice D o.data.length dd] 31))).alloc (.cells #[iv o.at_, iv o.len, .slice D o.data.length dd] 31)) := ((Below.refl w.heap.size w).alloc (Nat.le_refl _) _).alloc (by simp) _
  have H2 := Lib.hid (h2.below hb)
  have H3 := Lib.hid (h3.stays hb)
  have H5 := Lib.hid h5
  have HB := Lib.hid (hb.mono h1)
  clear h2 h3 h5 h6 h7 h8 hb
  go_enter Try.func52, Try.ntmps52
  go_wp2_with (at_builtin; go_must (refine wpList_app _ rfl (.tmp 73) (.tmp 75) 23 rfl elOps base A 0 c (opCells [] ds) rfl H2.out.row (some ⟨w.heap.size + 1, 0, none⟩) 1 1 [iv o.at_, iv o.len, .slice D o.data.length dd] rfl (src_blk (blk_top (by simp))) rfl (by simp [Value.oneCell']) (by first | omega | (simp; done) | (simp; omega)) (by first | omega | (simp; done) | (simp; omega)) ?_))
  intro A' c' w2 hown hgr hbel hor
  have HR : Hid (AddRet w base (addStp [] o) (.returned (.slice A' 1 c')) w2) := Lib.hid (addRet_push H2.out HB.out hown hgr hbel (by simpa using hor) H3.out h4 (fun k hk => ⟨(H5.out k hk).1, by have := (H5.out k hk).2; simp; omega⟩))
  clear hown hgr hbel hor
  go_wp2_with fail
  exact bodyPost_ret (results_tmp rfl _ _ _) rfl (by simpa using HR.out)
def joinJ (w1 : World) (p : Addr) (v : Value) : Nat → (Nat → Value) → World → Prop
  | 0, _, w => w = w1.drew
  | _, _, w => w = w1.drew.setCell p v
def dataJ (w0 wb : World) (base : Nat) (l0 : List Stp) (pa : Int) (pd od : List UInt8) (ds0 : List (Option Addr × Nat)) (d : Option Addr × Nat) (D : Option Addr) (g c dd : Nat) : Nat → (Nat → Value) → World → Prop
  | 0, _, w => w = wb.drew
  | 1, cv, w => w = wb.drew.alloc (.cells #[.slice d.1 pd.length d.2, .slice D od.length dd] 22) ∧ cv 7 = .slice (some ⟨wb.heap.size, 0, none⟩) 2 2
  | 2, cv, w => ∃ A' c', cv 8 = .slice A' (pd ++ od).length c' ∧ Own w wb.heap.size 5 1 A' (pd ++ od).length c' ((pd ++ od).map bv) ∧ Below wb.heap.size wb w
  | _, _, w => ∃ A' c', CRow w base (l0 ++ [⟨pa, 0, pd ++ od⟩]) (ds0 ++ [(A', c')]) (some ⟨g, 0, none⟩) c ∧ Below base w0 w
set_option maxRecDepth 100000 in
set_option maxHeartbeats 4000000 in
theorem composeAdd_V5 {w : World} {base : Nat} {l0 : List Stp} {pa pl ol : Int} {pd od : List UInt8} {ds : List (Option Addr × Nat)} {g c : Nat} {D : Option Addr} {dd : Nat} (h : AddIn w base (l0 ++ [⟨pa, pl, pd⟩]) ds (some ⟨g, 0, none⟩) c ⟨pa + pl, ol, od⟩ D dd) (t1 : 0 < ol) (t2 : 0 < pl) :
    Calls Try.prog 52 #[.slice (some ⟨g, 0, none⟩) (l0.length + 1) c, .agg #[iv (pa + pl), iv ol, .slice D od.length dd]] w (AddRet w base (l0 ++ [⟨pa, pl + ol, pd⟩])) := by
  obtain ⟨h1, h2, h3, h4, h5, h6, ⟨o1, o2, o3, o4⟩, h8⟩ := h
  obtain ⟨p1, p2, p3, p4⟩ := h8 ⟨pa, pl, pd⟩ (by simp)
  have hb : Below w.heap.size w (w.alloc (.cells #[iv (pa + pl), iv ol, .slice D od.length dd] 31)) := (Below.refl w.heap.size w).alloc (Nat.le_refl _) _
  have h2' := h2.below hb
  obtain ⟨ds0, d, hds, hdl, kc0, kc1, kc2, kfz, kdo, kle, koff⟩ := crow_cell h2'
  obtain ⟨ds0', d', hds', hdl', kw0, kw1, kw2, kfz', _⟩ := crow_cell h2
  obtain ⟨rfl, e2⟩ := List.append_inj' (hds.symm.trans hds') rfl
  obtain rfl : d = d' := by simpa using e2
  subst hds
  obtain ⟨kg1, kg2⟩ := h2.row.block g rfl
  have HR := Lib.hid h2'
  have HB := Lib.hid (hb.mono h1)
  have H3 := Lib.hid (h3.stays hb)
  have H5 := Lib.hid h5
  have HDO := Lib.hid kdo
  have KOF := Lib.hid koff
  have KFZ := Lib.hid kfz
  simp only [List.length_append, List.length_cons, List.length_nil] at h6
  have hix : ¬ (l0.length : Int) + 1 ≤ (l0.length : Int) := by omega
  clear h2 h2' h3 h5 h8 hb kdo koff hds' hdl' e2 kfz
  dsimp only at *
  go_enter Try.func52, Try.ntmps52
  go_wp2_with fail
  refine wp_region_chain (by kernel_rfl) (some 39 :: some 40 :: some 41 :: some 42 :: some 43 :: some 44 :: some 45 :: some 46 :: some 47 :: some 48 :: some 49 :: some 50 :: some 51 :: some 52 :: some 53 :: some 54 :: some 55 :: some 56 :: some 57 :: some 58 :: some 59 :: some 60 :: some 61 :: some 62 :: some 38 :: []) (.pointer (some ⟨w.heap.size, 1, none⟩) :: iv ol :: .bool true :: .bool true :: .pointer (some ⟨g, l0.length * 3, none⟩) :: .pointer (some ⟨g, l0.length * 3, none⟩) :: .pointer (some ⟨g, l0.length * 3 + 1, none⟩) :: iv pl :: .bool true :: .bool true :: .bool true :: .pointer (some ⟨g, l0.length * 3, none⟩) :: .pointer (some ⟨g, l0.length * 3, none⟩) :: .pointer (some ⟨g, l0.length * 3, none⟩) :: iv pa :: .pointer (some ⟨g, l0.length * 3, none⟩) :: .pointer (some ⟨g, l0.length * 3, none⟩) :: .pointer (some ⟨g, l0.length * 3 + 1, none⟩) :: iv pl :: iv (pa + pl) :: .pointer (some ⟨w.heap.size, 0, none⟩) :: iv (pa + pl) :: .bool true :: .bool true :: .bool true :: []) 77 rfl rfl (by decide +kernel) (by decide +kernel) (by decide +kernel) rfl ?_ ?_
  · refine ⟨.inl ⟨rfl, fun done a wq hw h => ?_⟩, ?_⟩
    · have e3 := ch_old (t := 3) (v := .pointer (some ⟨w.heap.size, 0, none⟩)) h rfl rfl; refine ch_pure ?_; go_simp
    refine ⟨.inl ⟨rfl, fun done a wq hw h => ?_⟩, ?_⟩
    · have e39 := ch_new (i := 0) (t := 39) h (hw 0 (by decide)) rfl rfl; have hc := (h.bel.cell (p := ⟨w.heap.size, 1, none⟩) (by simp)).trans (show (w.alloc (.cells #[iv (pa + pl), iv ol, .slice D od.length dd] 31)).cell? ⟨w.heap.size, 1, none⟩ = some (iv ol) by go_simp); refine ch_pure ?_; go_simp
    refine ⟨.inl ⟨rfl, fun done a wq hw h => ?_⟩, ?_⟩
    · have e40 := ch_new (i := 1) (t := 40) h (hw 1 (by decide)) rfl rfl; exact ch_gtr_int (by kernel_rfl) (ch_ev e40) rfl (by simp; omega)
    refine ⟨.inl ⟨rfl, fun done a wq hw h => ?_⟩, ?_⟩
    · have e41 := ch_new (i := 2) (t := 41) h (hw 2 (by decide)) rfl rfl; exact ch_move (ch_ev e41)
    refine ⟨.inl ⟨rfl, fun done a wq hw h => ?_⟩, ?_⟩
    · have e6 := ch_old (t := 6) (v := .pointer (some ⟨g, l0.length * 3, none⟩)) h rfl rfl; exact ch_move (ch_ev e6)
    refine ⟨.inl ⟨rfl, fun done a wq hw h => ?_⟩, ?_⟩
    · have e43 := ch_new (i := 4) (t := 43) h (hw 4 (by decide)) rfl rfl; refine ch_pure ?_; go_simp
    refine ⟨.inl ⟨rfl, fun done a wq hw h => ?_⟩, ?_⟩
    · have e44 := ch_new (i := 5) (t := 44) h (hw 5 (by decide)) rfl rfl; refine ch_pure ?_; go_simp
    refine ⟨.inl ⟨rfl, fun done a wq hw h => ?_⟩, ?_⟩
    · have e45 := ch_new (i := 6) (t := 45) h (hw 6 (by decide)) rfl rfl; have hc := (h.bel.cell (p := ⟨g, l0.length * 3 + 1, none⟩) (by simp; omega)).trans (show (w.alloc (.cells #[iv (pa + pl), iv ol, .slice D od.length dd] 31)).cell? _ = some (iv pl) from kc1); refine ch_pure ?_; go_simp
    refine ⟨.inl ⟨rfl, fun done a wq hw h => ?_⟩, ?_⟩
    · have e46 := ch_new (i := 7) (t := 46) h (hw 7 (by decide)) rfl rfl; exact ch_gtr_int (by kernel_rfl) (ch_ev e46) rfl (by simp; omega)
    refine ⟨.inl ⟨rfl, fun done a wq hw h => ?_⟩, ?_⟩
    · have e42 := ch_new (i := 3) (t := 42) h (hw 3 (by decide)) rfl rfl; have e47 := ch_new (i := 8) (t := 47) h (hw 8 (by decide)) rfl rfl; exact ch_pick_t e42 (ch_ev e47)
    refine ⟨.inl ⟨rfl, fun done a wq hw h => ?_⟩, ?_⟩
    · have e48 := ch_new (i := 9) (t := 48) h (hw 9 (by decide)) rfl rfl; exact ch_move (ch_ev e48)
    refine ⟨.inl ⟨rfl, fun done a wq hw h => ?_⟩, ?_⟩
    · have e6 := ch_old (t := 6) (v := .pointer (some ⟨g, l0.length * 3, none⟩)) h rfl rfl; exact ch_move (ch_ev e6)
    refine ⟨.inl ⟨rfl, fun done a wq hw h => ?_⟩, ?_⟩
    · have e50 := ch_new (i := 11) (t := 50) h (hw 11 (by decide)) rfl rfl; refine ch_pure ?_; go_simp
    refine ⟨.inl ⟨rfl, fun done a wq hw h => ?_⟩, ?_⟩
    · have e51 := ch_new (i := 12) (t := 51) h (hw 12 (by decide)) rfl rfl; refine ch_pure ?_; go_simp
    refine ⟨.inl ⟨rfl, fun done a wq hw h => ?_⟩, ?_⟩
    · have e52 := ch_new (i := 13) (t := 52) h (hw 13 (by decide)) rfl rfl; have hc := (h.bel.cell (p := ⟨g, l0.length * 3, none⟩) (by simp; omega)).trans (show (w.alloc (.cells #[iv (pa + pl), iv ol, .slice D od.length dd] 31)).cell? _ = some (iv pa) from kc0); refine ch_pure ?_; go_simp
    refine ⟨.inl ⟨rfl, fun done a wq hw h => ?_⟩, ?_⟩
    · have e6 := ch_old (t := 6) (v := .pointer (some ⟨g, l0.length * 3, none⟩)) h rfl rfl; exact ch_move (ch_ev e6)
    refine ⟨.inl ⟨rfl, fun done a wq hw h => ?_⟩, ?_⟩
    · have e54 := ch_new (i := 15) (t := 54) h (hw 15 (by decide)) rfl rfl; refine ch_pure ?_; go_simp
    refine ⟨.inl ⟨rfl, fun done a wq hw h => ?_⟩, ?_⟩
    · have e55 := ch_new (i := 16) (t := 55) h (hw 16 (by decide)) rfl rfl; refine ch_pure ?_; go_simp
    refine ⟨.inl ⟨rfl, fun done a wq hw h => ?_⟩, ?_⟩
    · have e56 := ch_new (i := 17) (t := 56) h (hw 17 (by decide)) rfl rfl; have hc := (h.bel.cell (p := ⟨g, l0.length * 3 + 1, none⟩) (by simp; omega)).trans (show (w.alloc (.cells #[iv (pa + pl), iv ol, .slice D od.length dd] 31)).cell? _ = some (iv pl) from kc1); refine ch_pure ?_; go_simp
    refine ⟨.inl ⟨rfl, fun done a wq hw h => ?_⟩, ?_⟩
    · have e53 := ch_new (i := 14) (t := 53) h (hw 14 (by decide)) rfl rfl; have e57 := ch_new (i := 18) (t := 57) h (hw 18 (by decide)) rfl rfl; refine ch_pure ?_; go_simp; exact IntWalk.i64_in _ (by omega)
    refine ⟨.inl ⟨rfl, fun done a wq hw h => ?_⟩, ?_⟩
    · have e3 := ch_old (t := 3) (v := .pointer (some ⟨w.heap.size, 0, none⟩)) h rfl rfl; refine ch_pure ?_; go_simp
    refine ⟨.inl ⟨rfl, fun done a wq hw h => ?_⟩, ?_⟩
    · have e59 := ch_new (i := 20) (t := 59) h (hw 20 (by decide)) rfl rfl; have hc := (h.bel.cell (p := ⟨w.heap.size, 0, none⟩) (by simp)).trans (show (w.alloc (.cells #[iv (pa + pl), iv ol, .slice D od.length dd] 31)).cell? ⟨w.heap.size, 0, none⟩ = some (iv (pa + pl)) by go_simp); refine ch_pure ?_; go_simp
    refine ⟨.inl ⟨rfl, fun done a wq hw h => ?_⟩, ?_⟩
    · have e58 := ch_new (i := 19) (t := 58) h (hw 19 (by decide)) rfl rfl; have e60 := ch_new (i := 21) (t := 60) h (hw 21 (by decide)) rfl rfl; exact ch_eql_int (by kernel_rfl) (ch_ev e58) (ch_ev e60) (by simp)
    refine ⟨.inl ⟨rfl, fun done a wq hw h => ?_⟩, ?_⟩
    · have e49 := ch_new (i := 10) (t := 49) h (hw 10 (by decide)) rfl rfl; have e61 := ch_new (i := 22) (t := 61) h (hw 22 (by decide)) rfl rfl; exact ch_pick_t e49 (ch_ev e61)
    refine ⟨.inl ⟨rfl, fun done a wq hw h => ?_⟩, ?_⟩
    · have e62 := ch_new (i := 23) (t := 62) h (hw 23 (by decide)) rfl rfl; exact ch_assign (ch_ev e62)
    exact trivial
  intro w1 hb
  have HR1 := Lib.hid (HR.out.below hb)
  have HB1 := Lib.hid (HB.out.trans (hb.mono (by simp; omega)))
  have hs1 := hb.size
  have r1 := (hb.cell (p := ⟨w.heap.size, 1, none⟩) (by simp)).trans (show (w.alloc (.cells #[iv (pa + pl), iv ol, .slice D od.length dd] 31)).cell? _ = some (iv ol) by go_simp)
  have q1 := (hb.cell (p := ⟨g, l0.length * 3 + 1, none⟩) (by simp; omega)).trans (show (w.alloc (.cells #[iv (pa + pl), iv ol, .slice D od.length dd] 31)).cell? _ = some (iv pl) from kc1)
  have HDO1 := Lib.hid (HDO.out.stays hb)
  have KF1 : w1.frozen? ⟨g, l0.length * 3 + 1, none⟩ = false := HR1.out.row.frozenAt _
  simp at hs1
  have hs2 : ∀ k, d.1.map (·.block) = some k → g ≠ k ∧ k < w1.heap.size := fun k hk => ⟨(KOF.out k hk).1, by have := (KOF.out k hk).2; simp at this; omega⟩
  have KOF1 := Lib.hid hs2
  clear hb hs2 kc0 kc1 kc2 kw0 kw1 kw2
  simp only [putAll_some, putAll_none, putAll_nil, List.getElem?_cons_zero, List.getElem?_cons_succ, List.setIfInBounds_toArray, List.set_cons_zero, List.set_cons_succ]
  go_wp2_with fail
  refine wp_region_mix (by kernel_rfl) (some 63 :: some 64 :: some 65 :: some 66 :: some 67 :: some 68 :: some 69 :: some 70 :: some 71 :: none :: []) (none :: none :: none :: none :: none :: none :: none :: none :: none :: some 0 :: []) (.pointer (some ⟨g, l0.length * 3, none⟩) :: .pointer (some ⟨g, l0.length * 3, none⟩) :: .pointer (some ⟨g, l0.length * 3 + 1, none⟩) :: iv pl :: .pointer (some ⟨w.heap.size, 1, none⟩) :: iv ol :: iv (pl + ol) :: .pointer (some ⟨g, l0.length * 3, none⟩) :: .pointer (some ⟨g, l0.length * 3 + 1, none⟩) :: undef :: []) 1 (joinJ w1 ⟨g, l0.length * 3 + 1, none⟩ (iv (pl + ol))) 77 rfl rfl (by decide +kernel) (by decide +kernel) (by decide +kernel) (by decide +kernel) rfl rfl (by decide +kernel) (by decide +kernel) (rfl) ?_ ?_
  · refine ⟨?_, ?_⟩
    · intro done cv k a wq hw h hJ hn
      have e6 := mx_old (t := 6) (v := .pointer (some ⟨g, l0.length * 3, none⟩)) h rfl rfl
      exact mx_move (ch_ev e6)
    refine ⟨?_, ?_⟩
    · intro done cv k a wq hw h hJ hn
      have e63 := mx_new (i := 0) (t := 63) h (hw 0 (by decide)) rfl rfl rfl
      go_simp
    refine ⟨?_, ?_⟩
    · intro done cv k a wq hw h hJ hn
      have e64 := mx_new (i := 1) (t := 64) h (hw 1 (by decide)) rfl rfl rfl
      go_simp
    refine ⟨?_, ?_⟩
    · intro done cv k a wq hw h hJ hn
      have e65 := mx_new (i := 2) (t := 65) h (hw 2 (by decide)) rfl rfl rfl
      have hk := hn 9 _ 0 rfl rfl (by decide)
      obtain rfl : k = 0 := by omega
      obtain rfl : wq = w1.drew := hJ
      go_simp
    refine ⟨?_, ?_⟩
    · intro done cv k a wq hw h hJ hn
      have e3 := mx_old (t := 3) (v := .pointer (some ⟨w.heap.size, 0, none⟩)) h rfl rfl
      go_simp
    refine ⟨?_, ?_⟩
    · intro done cv k a wq hw h hJ hn
      have e67 := mx_new (i := 4) (t := 67) h (hw 4 (by decide)) rfl rfl rfl
      have hk := hn 9 _ 0 rfl rfl (by decide)
      obtain rfl : k = 0 := by omega
      obtain rfl : wq = w1.drew := hJ
      go_simp
    refine ⟨?_, ?_⟩
    · intro done cv k a wq hw h hJ hn
      have e66 := mx_new (i := 3) (t := 66) h (hw 3 (by decide)) rfl rfl rfl; have e68 := mx_new (i := 5) (t := 68) h (hw 5 (by decide)) rfl rfl rfl
      go_simp; exact IntWalk.i64_in _ (by omega)
    refine ⟨?_, ?_⟩
    · intro done cv k a wq hw h hJ hn
      have e63 := mx_new (i := 0) (t := 63) h (hw 0 (by decide)) rfl rfl rfl
      go_simp
    refine ⟨?_, ?_⟩
    · intro done cv k a wq hw h hJ hn
      have e70 := mx_new (i := 7) (t := 70) h (hw 7 (by decide)) rfl rfl rfl
      go_simp
    refine ⟨?_, ?_⟩
    · intro done cv a wq hw h hJ
      have e71 := mx_new (i := 8) (t := 71) h (hw 8 (by decide)) rfl rfl rfl; have e69 := mx_new (i := 6) (t := 69) h (hw 6 (by decide)) rfl rfl rfl
      obtain rfl : wq = w1.drew := hJ
      exact wp_sti e71 e69 q1 KF1 ⟨undef, rfl, rfl⟩
    exact trivial
  · rintro cv w2 hJ
    obtain rfl : w2 = w1.drew.setCell ⟨g, l0.length * 3 + 1, none⟩ (iv (pl + ol)) := hJ
    simp only [mixAll, Nat.zero_add, Nat.reduceAdd, putAll_some, putAll_none, putAll_nil, List.getElem?_cons_zero, List.getElem?_cons_succ, List.setIfInBounds_toArray, List.set_cons_zero, List.set_cons_succ]
    go_wp2_with fail
    refine bodyPost_ret (results_tmp rfl _ _ _) rfl ⟨some ⟨g, 0, none⟩, c, ds0 ++ [d], by simp, ?_, ?_⟩
    · exact (HR1.out.below (Below.refl w1.heap.size w1).drew).turn (q := ⟨pa, pl + ol, pd⟩) (d' := d) (j := 1) (by omega) rfl HDO1.out kle KOF1.out
    · exact HB1.out.drew.setCell kg1 _
set_option maxRecDepth 100000 in
set_option maxHeartbeats 4000000 in
theorem composeAdd_V1 {w : World} {base : Nat} {l0 : List Stp} {pa oa : Int} {pd od : List UInt8} {ds : List (Option Addr × Nat)} {g c : Nat} {D : Option Addr} {dd : Nat} (h : AddIn w base (l0 ++ [⟨pa, 0, pd⟩]) ds (some ⟨g, 0, none⟩) c ⟨oa, 0, od⟩ D dd)  :
    Calls Try.prog 52 #[.slice (some ⟨g, 0, none⟩) (l0.length + 1) c, .agg #[iv oa, iv 0, .slice D od.length dd]] w (AddRet w base (l0 ++ [⟨pa, 0, pd ++ od⟩])) := by
  obtain ⟨h1, h2, h3, h4, h5, h6, ⟨o1, o2, o3, o4⟩, h8⟩ := h
  obtain ⟨p1, p2, p3, p4⟩ := h8 ⟨pa, 0, pd⟩ (by simp)
  have hb : Below w.heap.size w (w.alloc (.cells #[iv oa, iv 0, .slice D od.length dd] 31)) := (Below.refl w.heap.size w).alloc (Nat.le_refl _) _
  have h2' := h2.below hb
  obtain ⟨ds0, d, hds, hdl, kc0, kc1, kc2, kfz, kdo, kle, koff⟩ := crow_cell h2'
  obtain ⟨ds0', d', hds', hdl', kw0, kw1, kw2, kfz', _⟩ := crow_cell h2
  obtain ⟨rfl, e2⟩ := List.append_inj' (hds.symm.trans hds') rfl
  obtain rfl : d = d' := by simpa using e2
  subst hds
  obtain ⟨kg1, kg2⟩ := h2.row.block g rfl
  have HR := Lib.hid h2'
  have HB := Lib.hid (hb.mono h1)
  have H3 := Lib.hid (h3.stays hb)
  have H5 := Lib.hid h5
  have HDO := Lib.hid kdo
  have KOF := Lib.hid koff
  have KFZ := Lib.hid kfz
  simp only [List.length_append, List.length_cons, List.length_nil] at h6
  have hix : ¬ (l0.length : Int) + 1 ≤ (l0.length : Int) := by omega
  clear h2 h2' h3 h5 h8 hb kdo koff hds' hdl' e2 kfz
  dsimp only at *
  have HKG := Lib.hid kg1
  have HKB : Hid (∀ b, b = (w.alloc (.cells #[iv oa, iv 0, .slice D od.length dd] 31)) → w.heap.size < b.heap.size ∧ base ≤ b.heap.size ∧ g < b.heap.size) := Lib.hid (fun b e => by subst e; simp; omega)
  have HKC : Hid ((w.alloc (.cells #[iv oa, iv 0, .slice D od.length dd] 31)).cell? ⟨g, l0.length * 3 + 2, none⟩ = some (.slice d.1 pd.length d.2)) := Lib.hid kc2
  have HKF : Hid ((w.alloc (.cells #[iv oa, iv 0, .slice D od.length dd] 31)).frozen? ⟨g, l0.length * 3 + 2, none⟩ = false) := Lib.hid (HR.out.row.frozenAt _)
  go_enter Try.func52, Try.ntmps52
  go_wp2_with fail
  have r2 : (w.alloc (.cells #[iv oa, iv 0, .slice D od.length dd] 31)).cell? ⟨w.heap.size, 2, none⟩ = some (.slice D od.length dd) := by go_simp
  have q2 := HKC.out
  have f2 := HKF.out
  obtain ⟨s1, s2, s3⟩ := HKB.out _ rfl
  clear HKC HKF HKB kc0 kc1 kc2 kw0 kw1 kw2 kfz'
  have HBx : Hid ((w.alloc (.cells #[iv oa, iv 0, .slice D od.length dd] 31)) = (w.alloc (.cells #[iv oa, iv 0, .slice D od.length dd] 31))) := Lib.hid rfl
  generalize (w.alloc (.cells #[iv oa, iv 0, .slice D od.length dd] 31)) = wb at *
  clear HBx
  refine wp_region_mix (by kernel_rfl) (some 26 :: some 27 :: some 28 :: some 29 :: some 30 :: some 31 :: some 32 :: some 33 :: some 34 :: some 35 :: some 36 :: none :: []) (none :: none :: none :: none :: none :: none :: none :: some 0 :: some 1 :: none :: none :: some 2 :: []) (.pointer (some ⟨g, l0.length * 3, none⟩) :: .pointer (some ⟨g, l0.length * 3, none⟩) :: .pointer (some ⟨g, l0.length * 3, none⟩) :: .pointer (some ⟨g, l0.length * 3 + 2, none⟩) :: .slice d.1 pd.length d.2 :: .pointer (some ⟨w.heap.size, 2, none⟩) :: .slice D od.length dd :: undef :: undef :: .pointer (some ⟨g, l0.length * 3, none⟩) :: .pointer (some ⟨g, l0.length * 3 + 2, none⟩) :: undef :: []) 3 (dataJ w wb base l0 pa pd od ds0 d D g c dd) 77 rfl rfl (by decide +kernel) (by decide +kernel) (by decide +kernel) (by decide +kernel) rfl rfl (by decide +kernel) (by decide +kernel) (rfl) ?_ ?_
  · refine ⟨?_, ?_⟩
    · intro done cv k a wq hw h hJ hn
      have e6 := mx_old (t := 6) (v := .pointer (some ⟨g, l0.length * 3, none⟩)) h rfl rfl
      exact mx_move (ch_ev e6)
    refine ⟨?_, ?_⟩
    · intro done cv k a wq hw h hJ hn
      have e6 := mx_old (t := 6) (v := .pointer (some ⟨g, l0.length * 3, none⟩)) h rfl rfl
      exact mx_move (ch_ev e6)
    refine ⟨?_, ?_⟩
    · intro done cv k a wq hw h hJ hn
      have e27 := mx_new (i := 1) (t := 27) h (hw 1 (by decide)) rfl rfl rfl
      go_simp
    refine ⟨?_, ?_⟩
    · intro done cv k a wq hw h hJ hn
      have e28 := mx_new (i := 2) (t := 28) h (hw 2 (by decide)) rfl rfl rfl
      go_simp
    refine ⟨?_, ?_⟩
    · intro done cv k a wq hw h hJ hn
      have e29 := mx_new (i := 3) (t := 29) h (hw 3 (by decide)) rfl rfl rfl
      have hk := hn 7 _ 0 rfl rfl (by decide)
      obtain rfl : k = 0 := by omega
      obtain rfl : wq = wb.drew := hJ
      go_simp
    refine ⟨?_, ?_⟩
    · intro done cv k a wq hw h hJ hn
      have e3 := mx_old (t := 3) (v := .pointer (some ⟨w.heap.size, 0, none⟩)) h rfl rfl
      go_simp
    refine ⟨?_, ?_⟩
    · intro done cv k a wq hw h hJ hn
      have e31 := mx_new (i := 5) (t := 31) h (hw 5 (by decide)) rfl rfl rfl
      have hk := hn 7 _ 0 rfl rfl (by decide)
      obtain rfl : k = 0 := by omega
      obtain rfl : wq = wb.drew := hJ
      go_simp
    refine ⟨?_, ?_⟩
    · intro done cv a wq hw h hJ
      have e30 := mx_new (i := 4) (t := 30) h (hw 4 (by decide)) rfl rfl rfl; have e32 := mx_new (i := 6) (t := 32) h (hw 6 (by decide)) rfl rfl rfl
      obtain rfl : wq = wb.drew := hJ
      exact wp_sl2 e30 e32 ⟨_, rfl, rfl, by simp⟩
    refine ⟨?_, ?_⟩
    · intro done cv a wq hw h hJ
      have e33 := mx_cv (i := 7) (t := 33) h (hw 7 (by decide)) rfl rfl
      obtain ⟨rfl, hv⟩ := hJ
      rw [hv] at e33
      have hb0 : Below wb.heap.size wb (wb.drew.alloc (.cells #[.slice d.1 pd.length d.2, .slice D od.length dd] 22)) := (Below.refl _ _).drew.alloc (Nat.le_refl _) _
      refine wp_call (vals := #[.slice (some ⟨wb.heap.size, 0, none⟩) 2 2]) (by simp [Act.eval, e33]) (by go_simp) (concat2_calls (blk_top (by simp)) (by omega) (HDO.out.stays hb0) (H3.out.stays hb0)) ?_
      rintro e w' ⟨A', c', rfl, hown, hbel⟩
      exact ⟨_, rfl, _, rfl, A', c', by simp, hown.mono (by simp), hb0.trans (hbel.mono (by simp))⟩
    refine ⟨?_, ?_⟩
    · intro done cv k a wq hw h hJ hn
      have e26 := mx_new (i := 0) (t := 26) h (hw 0 (by decide)) rfl rfl rfl
      go_simp
    refine ⟨?_, ?_⟩
    · intro done cv k a wq hw h hJ hn
      have e35 := mx_new (i := 9) (t := 35) h (hw 9 (by decide)) rfl rfl rfl
      go_simp
    refine ⟨?_, ?_⟩
    · intro done cv a wq hw h hJ
      have e36 := mx_new (i := 10) (t := 36) h (hw 10 (by decide)) rfl rfl rfl; have e34 := mx_cv (i := 8) (t := 34) h (hw 8 (by decide)) rfl rfl
      obtain ⟨A', c', hv, hown, hbel⟩ := hJ
      rw [hv] at e34
      have q3 := (hbel.cell (p := ⟨g, l0.length * 3 + 2, none⟩) s3).trans q2
      have f3 : wq.frozen? ⟨g, l0.length * 3 + 2, none⟩ = false := (HR.out.below hbel).row.frozenAt _
      refine wp_stb e36 e34 q3 f3 ⟨undef, rfl, A', c', ?_, ?_⟩
      · refine (HR.out.below hbel).turn (q := ⟨pa, 0, pd ++ od⟩) (d' := (A', c')) (j := 2) (by omega) rfl hown.src.bts hown.le ?_
        intro k hk
        have := hown.block k hk
        omega
      · exact (HB.out.trans (hbel.mono s2)).setCell HKG.out _
    exact trivial
  · rintro cv w2 ⟨A', c', h1', h2'⟩
    have HF1 := Lib.hid h1'
    have HF2 := Lib.hid h2'
    clear h1' h2'
    simp only [mixAll, Nat.zero_add, Nat.reduceAdd, putAll_some, putAll_none, putAll_nil, List.getElem?_cons_zero, List.getElem?_cons_succ, List.setIfInBounds_toArray, List.set_cons_zero, List.set_cons_succ]
    go_wp2_with fail
    exact bodyPost_ret (results_tmp rfl _ _ _) rfl ⟨some ⟨g, 0, none⟩, c, ds0 ++ [(A', c')], by simp, HF1.out, HF2.out⟩
set_option maxRecDepth 100000 in
set_option maxHeartbeats 4000000 in
theorem composeAdd_V2 {w : World} {base : Nat} {l0 : List Stp} {pa pl oa : Int} {pd od : List UInt8} {ds : List (Option Addr × Nat)} {g c : Nat} {D : Option Addr} {dd : Nat} (h : AddIn w base (l0 ++ [⟨pa, pl, pd⟩]) ds (some ⟨g, 0, none⟩) c ⟨oa, 0, od⟩ D dd) (t2 : pl ≠ 0) :
    Calls Try.prog 52 #[.slice (some ⟨g, 0, none⟩) (l0.length + 1) c, .agg #[iv oa, iv 0, .slice D od.length dd]] w (AddRet w base (l0 ++ [⟨pa, pl, pd⟩] ++ [⟨oa, 0, od⟩])) := by
  obtain ⟨h1, h2, h3, h4, h5, h6, ⟨o1, o2, o3, o4⟩, h8⟩ := h
  obtain ⟨p1, p2, p3, p4⟩ := h8 ⟨pa, pl, pd⟩ (by simp)
  have hb : Below w.heap.size w (w.alloc (.cells #[iv oa, iv 0, .slice D od.length dd] 31)) := (Below.refl w.heap.size w).alloc (Nat.le_refl _) _
  have h2' := h2.below hb
  obtain ⟨ds0, d, hds, hdl, kc0, kc1, kc2, kfz, kdo, kle, koff⟩ := crow_cell h2'
  obtain ⟨ds0', d', hds', hdl', kw0, kw1, kw2, kfz', _⟩ := crow_cell h2
  obtain ⟨rfl, e2⟩ := List.append_inj' (hds.symm.trans hds') rfl
  obtain rfl : d = d' := by simpa using e2
  subst hds
  obtain ⟨kg1, kg2⟩ := h2.row.block g rfl
  have HR := Lib.hid h2'
  have HB := Lib.hid (hb.mono h1)
  have H3 := Lib.hid (h3.stays hb)
  have H5 := Lib.hid h5
  have HDO := Lib.hid kdo
  have KOF := Lib.hid koff
  have KFZ := Lib.hid kfz
  simp only [List.length_append, List.length_cons, List.length_nil] at h6
  have hix : ¬ (l0.length : Int) + 1 ≤ (l0.length : Int) := by omega
  clear h2 h2' h3 h5 h8 hb kdo koff hds' hdl' e2 kfz
  dsimp only at *
  go_enter Try.func52, Try.ntmps52
  go_wp2_with fail
  refine wp_region_chain (by kernel_rfl) (some 39 :: some 40 :: some 41 :: some 42 :: some 43 :: some 44 :: some 45 :: some 46 :: some 47 :: some 48 :: some 49 :: some 50 :: some 51 :: some 52 :: some 53 :: some 54 :: some 55 :: some 56 :: some 57 :: some 58 :: some 59 :: some 60 :: some 61 :: some 62 :: some 38 :: []) (.pointer (some ⟨w.heap.size, 1, none⟩) :: iv 0 :: .bool false :: .bool false :: undef :: undef :: undef :: undef :: undef :: .bool false :: .bool false :: undef :: undef :: undef :: undef :: undef :: undef :: undef :: undef :: undef :: undef :: undef :: undef :: .bool false :: .bool false :: []) 77 rfl rfl (by decide +kernel) (by decide +kernel) (by decide +kernel) rfl ?_ ?_
  · refine ⟨.inl ⟨rfl, fun done a wq hw h => ?_⟩, ?_⟩
    · have e3 := ch_old (t := 3) (v := .pointer (some ⟨w.heap.size, 0, none⟩)) h rfl rfl; refine ch_pure ?_; go_simp
    refine ⟨.inl ⟨rfl, fun done a wq hw h => ?_⟩, ?_⟩
    · have e39 := ch_new (i := 0) (t := 39) h (hw 0 (by decide)) rfl rfl; have hc := (h.bel.cell (p := ⟨w.heap.size, 1, none⟩) (by simp)).trans (show (w.alloc (.cells #[iv oa, iv 0, .slice D od.length dd] 31)).cell? ⟨w.heap.size, 1, none⟩ = some (iv 0) by go_simp); refine ch_pure ?_; go_simp
    refine ⟨.inl ⟨rfl, fun done a wq hw h => ?_⟩, ?_⟩
    · have e40 := ch_new (i := 1) (t := 40) h (hw 1 (by decide)) rfl rfl; exact ch_gtr_int (by kernel_rfl) (ch_ev e40) rfl (by simp)
    refine ⟨.inl ⟨rfl, fun done a wq hw h => ?_⟩, ?_⟩
    · have e41 := ch_new (i := 2) (t := 41) h (hw 2 (by decide)) rfl rfl; exact ch_move (ch_ev e41)
    refine ⟨.inr ⟨rfl, rfl⟩, ?_⟩
    refine ⟨.inr ⟨rfl, rfl⟩, ?_⟩
    refine ⟨.inr ⟨rfl, rfl⟩, ?_⟩
    refine ⟨.inr ⟨rfl, rfl⟩, ?_⟩
    refine ⟨.inr ⟨rfl, rfl⟩, ?_⟩
    refine ⟨.inl ⟨rfl, fun done a wq hw h => ?_⟩, ?_⟩
    · have e42 := ch_new (i := 3) (t := 42) h (hw 3 (by decide)) rfl rfl; exact ch_pick_f e42 rfl
    refine ⟨.inl ⟨rfl, fun done a wq hw h => ?_⟩, ?_⟩
    · have e48 := ch_new (i := 9) (t := 48) h (hw 9 (by decide)) rfl rfl; exact ch_move (ch_ev e48)
    refine ⟨.inr ⟨rfl, rfl⟩, ?_⟩
    refine ⟨.inr ⟨rfl, rfl⟩, ?_⟩
    refine ⟨.inr ⟨rfl, rfl⟩, ?_⟩
    refine ⟨.inr ⟨rfl, rfl⟩, ?_⟩
    refine ⟨.inr ⟨rfl, rfl⟩, ?_⟩
    refine ⟨.inr ⟨rfl, rfl⟩, ?_⟩
    refine ⟨.inr ⟨rfl, rfl⟩, ?_⟩
    refine ⟨.inr ⟨rfl, rfl⟩, ?_⟩
    refine ⟨.inr ⟨rfl, rfl⟩, ?_⟩
    refine ⟨.inr ⟨rfl, rfl⟩, ?_⟩
    refine ⟨.inr ⟨rfl, rfl⟩, ?_⟩
    refine ⟨.inr ⟨rfl, rfl⟩, ?_⟩
    refine ⟨.inl ⟨rfl, fun done a wq hw h => ?_⟩, ?_⟩
    · have e49 := ch_new (i := 10) (t := 49) h (hw 10 (by decide)) rfl rfl; exact ch_pick_f e49 rfl
    refine ⟨.inl ⟨rfl, fun done a wq hw h => ?_⟩, ?_⟩
    · have e62 := ch_new (i := 23) (t := 62) h (hw 23 (by decide)) rfl rfl; exact ch_assign (ch_ev e62)
    exact trivial
  intro w1 hb
  have HR1 := Lib.hid (HR.out.below hb)
  have HB1 := Lib.hid (HB.out.trans (hb.mono (by simp; omega)))
  have H31 := Lib.hid (H3.out.stays hb)
  have hs1 := hb.size
  have r0 := (hb.cell (p := ⟨w.heap.size, 0, none⟩) (by simp)).trans (show (w.alloc (.cells #[iv oa, iv 0, .slice D od.length dd] 31)).cell? _ = some (iv oa) by go_simp)
  have r1 := (hb.cell (p := ⟨w.heap.size, 1, none⟩) (by simp)).trans (show (w.alloc (.cells #[iv oa, iv 0, .slice D od.length dd] 31)).cell? _ = some (iv 0) by go_simp)
  have r2 := (hb.cell (p := ⟨w.heap.size, 2, none⟩) (by simp)).trans (show (w.alloc (.cells #[iv oa, iv 0, .slice D od.length dd] 31)).cell? _ = some (.slice D od.length dd) by go_simp)
  simp at hs1
  clear hb kc0 kc1 kc2 kw0 kw1 kw2
  simp only [putAll_some, putAll_none, putAll_nil, List.getElem?_cons_zero, List.getElem?_cons_succ, List.setIfInBounds_toArray, List.set_cons_zero, List.set_cons_succ]
  have hb2 : Below w1.heap.size w1 (w1.alloc (.cells #[iv oa, iv 0, .slice D od.length dd] 31)) := (Below.refl w1.heap.size w1).alloc (Nat.le_refl _) _
  have HR2 := Lib.hid (HR1.out.below hb2)
  have HB2 := Lib.hid (HB1.out.trans (hb2.mono (by omega)))
  have H32 := Lib.hid (H31.out.stays hb2)
  have HRR : Hid (Own (w1.alloc (.cells #[iv oa, iv 0, .slice D od.length dd] 31)) base 31 3 (some ⟨g, 0, none⟩) (l0.length + 1) c (opCells (l0 ++ [⟨pa, pl, pd⟩]) (ds0 ++ [d]))) := by
    have := HR2.out.row
    rw [List.length_append] at this
    exact Lib.hid this
  clear hb2
  go_wp2_with (at_builtin; go_must (refine wpList_app _ rfl (.tmp 73) (.tmp 75) 23 rfl elOps base (some ⟨g, 0, none⟩) (l0.length + 1) c (opCells (l0 ++ [⟨pa, pl, pd⟩]) (ds0 ++ [d])) rfl HRR.out (some ⟨w1.heap.size, 0, none⟩) 1 1 [iv oa, iv 0, .slice D od.length dd] rfl (src_blk (blk_top (by simp))) rfl (by simp [Value.oneCell']) (by first | omega | (simp; done) | (simp; omega)) (by first | omega | (simp; done) | (simp; omega)) ?_))
  intro A' c' w2 hown hgr hbel hor
  have HF : Hid (AddRet w base (l0 ++ [⟨pa, pl, pd⟩] ++ [⟨oa, 0, od⟩]) (.returned (.slice A' (l0.length + 1 + 1) c')) w2) := by
    have := addRet_push (l := l0 ++ [⟨pa, pl, pd⟩]) (o := ⟨oa, 0, od⟩) (D := D) (dd := dd) HR2.out HB2.out (by simpa using hown) hgr hbel (by simpa using hor) H32.out h4 (fun k hk => ⟨(H5.out k hk).1, by have := (H5.out k hk).2; simp; omega⟩)
    exact Lib.hid (by simpa using this)
  clear hown hgr hbel hor
  go_wp2_with fail
  exact bodyPost_ret (results_tmp rfl _ _ _) rfl (by simpa using HF.out)
set_option maxRecDepth 100000 in
set_option maxHeartbeats 4000000 in
theorem composeAdd_V3 {w : World} {base : Nat} {l0 : List Stp} {pa oa ol : Int} {pd od : List UInt8} {ds : List (Option Addr × Nat)} {g c : Nat} {D : Option Addr} {dd : Nat} (h : AddIn w base (l0 ++ [⟨pa, 0, pd⟩]) ds (some ⟨g, 0, none⟩) c ⟨oa, ol, od⟩ D dd) (t1 : 0 < ol) :
    Calls Try.prog 52 #[.slice (some ⟨g, 0, none⟩) (l0.length + 1) c, .agg #[iv oa, iv ol, .slice D od.length dd]] w (AddRet w base (l0 ++ [⟨pa, 0, pd⟩] ++ [⟨oa, ol, od⟩])) := by
  obtain ⟨h1, h2, h3, h4, h5, h6, ⟨o1, o2, o3, o4⟩, h8⟩ := h
  obtain ⟨p1, p2, p3, p4⟩ := h8 ⟨pa, 0, pd⟩ (by simp)
  have hb : Below w.heap.size w (w.alloc (.cells #[iv oa, iv ol, .slice D od.length dd] 31)) := (Below.refl w.heap.size w).alloc (Nat.le_refl _) _
  have h2' := h2.below hb
  obtain ⟨ds0, d, hds, hdl, kc0, kc1, kc2, kfz, kdo, kle, koff⟩ := crow_cell h2'
  obtain ⟨ds0', d', hds', hdl', kw0, kw1, kw2, kfz', _⟩ := crow_cell h2
  obtain ⟨rfl, e2⟩ := List.append_inj' (hds.symm.trans hds') rfl
  obtain rfl : d = d' := by simpa using e2
  subst hds
  obtain ⟨kg1, kg2⟩ := h2.row.block g rfl
  have HR := Lib.hid h2'
  have HB := Lib.hid (hb.mono h1)
  have H3 := Lib.hid (h3.stays hb)
  have H5 := Lib.hid h5
  have HDO := Lib.hid kdo
  have KOF := Lib.hid koff
  have KFZ := Lib.hid kfz
  simp only [List.length_append, List.length_cons, List.length_nil] at h6
  have hix : ¬ (l0.length : Int) + 1 ≤ (l0.length : Int) := by omega
  clear h2 h2' h3 h5 h8 hb kdo koff hds' hdl' e2 kfz
  dsimp only at *
  go_enter Try.func52, Try.ntmps52
  go_wp2_with fail
  refine wp_region_chain (by kernel_rfl) (some 39 :: some 40 :: some 41 :: some 42 :: some 43 :: some 44 :: some 45 :: some 46 :: some 47 :: some 48 :: some 49 :: some 50 :: some 51 :: some 52 :: some 53 :: some 54 :: some 55 :: some 56 :: some 57 :: some 58 :: some 59 :: some 60 :: some 61 :: some 62 :: some 38 :: []) (.pointer (some ⟨w.heap.size, 1, none⟩) :: iv ol :: .bool true :: .bool true :: .pointer (some ⟨g, l0.length * 3, none⟩) :: .pointer (some ⟨g, l0.length * 3, none⟩) :: .pointer (some ⟨g, l0.length * 3 + 1, none⟩) :: iv 0 :: .bool false :: .bool false :: .bool false :: undef :: undef :: undef :: undef :: undef :: undef :: undef :: undef :: undef :: undef :: undef :: undef :: .bool false :: .bool false :: []) 77 rfl rfl (by decide +kernel) (by decide +kernel) (by decide +kernel) rfl ?_ ?_
  · refine ⟨.inl ⟨rfl, fun done a wq hw h => ?_⟩, ?_⟩
    · have e3 := ch_old (t := 3) (v := .pointer (some ⟨w.heap.size, 0, none⟩)) h rfl rfl; refine ch_pure ?_; go_simp
    refine ⟨.inl ⟨rfl, fun done a wq hw h => ?_⟩, ?_⟩
    · have e39 := ch_new (i := 0) (t := 39) h (hw 0 (by decide)) rfl rfl; have hc := (h.bel.cell (p := ⟨w.heap.size, 1, none⟩) (by simp)).trans (show (w.alloc (.cells #[iv oa, iv ol, .slice D od.length dd] 31)).cell? ⟨w.heap.size, 1, none⟩ = some (iv ol) by go_simp); refine ch_pure ?_; go_simp
    refine ⟨.inl ⟨rfl, fun done a wq hw h => ?_⟩, ?_⟩
    · have e40 := ch_new (i := 1) (t := 40) h (hw 1 (by decide)) rfl rfl; exact ch_gtr_int (by kernel_rfl) (ch_ev e40) rfl (by simp; omega)
    refine ⟨.inl ⟨rfl, fun done a wq hw h => ?_⟩, ?_⟩
    · have e41 := ch_new (i := 2) (t := 41) h (hw 2 (by decide)) rfl rfl; exact ch_move (ch_ev e41)
    refine ⟨.inl ⟨rfl, fun done a wq hw h => ?_⟩, ?_⟩
    · have e6 := ch_old (t := 6) (v := .pointer (some ⟨g, l0.length * 3, none⟩)) h rfl rfl; exact ch_move (ch_ev e6)
    refine ⟨.inl ⟨rfl, fun done a wq hw h => ?_⟩, ?_⟩
    · have e43 := ch_new (i := 4) (t := 43) h (hw 4 (by decide)) rfl rfl; refine ch_pure ?_; go_simp
    refine ⟨.inl ⟨rfl, fun done a wq hw h => ?_⟩, ?_⟩
    · have e44 := ch_new (i := 5) (t := 44) h (hw 5 (by decide)) rfl rfl; refine ch_pure ?_; go_simp
    refine ⟨.inl ⟨rfl, fun done a wq hw h => ?_⟩, ?_⟩
    · have e45 := ch_new (i := 6) (t := 45) h (hw 6 (by decide)) rfl rfl; have hc := (h.bel.cell (p := ⟨g, l0.length * 3 + 1, none⟩) (by simp; omega)).trans (show (w.alloc (.cells #[iv oa, iv ol, .slice D od.length dd] 31)).cell? _ = some (iv 0) from kc1); refine ch_pure ?_; go_simp
    refine ⟨.inl ⟨rfl, fun done a wq hw h => ?_⟩, ?_⟩
    · have e46 := ch_new (i := 7) (t := 46) h (hw 7 (by decide)) rfl rfl; exact ch_gtr_int (by kernel_rfl) (ch_ev e46) rfl (by simp)
    refine ⟨.inl ⟨rfl, fun done a wq hw h => ?_⟩, ?_⟩
    · have e42 := ch_new (i := 3) (t := 42) h (hw 3 (by decide)) rfl rfl; have e47 := ch_new (i := 8) (t := 47) h (hw 8 (by decide)) rfl rfl; exact ch_pick_t e42 (ch_ev e47)
    refine ⟨.inl ⟨rfl, fun done a wq hw h => ?_⟩, ?_⟩
    · have e48 := ch_new (i := 9) (t := 48) h (hw 9 (by decide)) rfl rfl; exact ch_move (ch_ev e48)
    refine ⟨.inr ⟨rfl, rfl⟩, ?_⟩
    refine ⟨.inr ⟨rfl, rfl⟩, ?_⟩
    refine ⟨.inr ⟨rfl, rfl⟩, ?_⟩
    refine ⟨.inr ⟨rfl, rfl⟩, ?_⟩
    refine ⟨.inr ⟨rfl, rfl⟩, ?_⟩
    refine ⟨.inr ⟨rfl, rfl⟩, ?_⟩
    refine ⟨.inr ⟨rfl, rfl⟩, ?_⟩
    refine ⟨.inr ⟨rfl, rfl⟩, ?_⟩
    refine ⟨.inr ⟨rfl, rfl⟩, ?_⟩
    refine ⟨.inr ⟨rfl, rfl⟩, ?_⟩
    refine ⟨.inr ⟨rfl, rfl⟩, ?_⟩
    refine ⟨.inr ⟨rfl, rfl⟩, ?_⟩
    refine ⟨.inl ⟨rfl, fun done a wq hw h => ?_⟩, ?_⟩
    · have e49 := ch_new (i := 10) (t := 49) h (hw 10 (by decide)) rfl rfl; exact ch_pick_f e49 rfl
    refine ⟨.inl ⟨rfl, fun done a wq hw h => ?_⟩, ?_⟩
    · have e62 := ch_new (i := 23) (t := 62) h (hw 23 (by decide)) rfl rfl; exact ch_assign (ch_ev e62)
    exact trivial
  intro w1 hb
  have HR1 := Lib.hid (HR.out.below hb)
  have HB1 := Lib.hid (HB.out.trans (hb.mono (by simp; omega)))
  have H31 := Lib.hid (H3.out.stays hb)
  have hs1 := hb.size
  have r0 := (hb.cell (p := ⟨w.heap.size, 0, none⟩) (by simp)).trans (show (w.alloc (.cells #[iv oa, iv ol, .slice D od.length dd] 31)).cell? _ = some (iv oa) by go_simp)
  have r1 := (hb.cell (p := ⟨w.heap.size, 1, none⟩) (by simp)).trans (show (w.alloc (.cells #[iv oa, iv ol, .slice D od.length dd] 31)).cell? _ = some (iv ol) by go_simp)
  have r2 := (hb.cell (p := ⟨w.heap.size, 2, none⟩) (by simp)).trans (show (w.alloc (.cells #[iv oa, iv ol, .slice D od.length dd] 31)).cell? _ = some (.slice D od.length dd) by go_simp)
  simp at hs1
  clear hb kc0 kc1 kc2 kw0 kw1 kw2
  simp only [putAll_some, putAll_none, putAll_nil, List.getElem?_cons_zero, List.getElem?_cons_succ, List.setIfInBounds_toArray, List.set_cons_zero, List.set_cons_succ]
  have hb2 : Below w1.heap.size w1 (w1.alloc (.cells #[iv oa, iv ol, .slice D od.length dd] 31)) := (Below.refl w1.heap.size w1).alloc (Nat.le_refl _) _
  have HR2 := Lib.hid (HR1.out.below hb2)
  have HB2 := Lib.hid (HB1.out.trans (hb2.mono (by omega)))
  have H32 := Lib.hid (H31.out.stays hb2)
  have HRR : Hid (Own (w1.alloc (.cells #[iv oa, iv ol, .slice D od.length dd] 31)) base 31 3 (some ⟨g, 0, none⟩) (l0.length + 1) c (opCells (l0 ++ [⟨pa, 0, pd⟩]) (ds0 ++ [d]))) := by
    have := HR2.out.row
    rw [List.length_append] at this
    exact Lib.hid this
  clear hb2
  go_wp2_with (at_builtin; go_must (refine wpList_app _ rfl (.tmp 73) (.tmp 75) 23 rfl elOps base (some ⟨g, 0, none⟩) (l0.length + 1) c (opCells (l0 ++ [⟨pa, 0, pd⟩]) (ds0 ++ [d])) rfl HRR.out (some ⟨w1.heap.size, 0, none⟩) 1 1 [iv oa, iv ol, .slice D od.length dd] rfl (src_blk (blk_top (by simp))) rfl (by simp [Value.oneCell']) (by first | omega | (simp; done) | (simp; omega)) (by first | omega | (simp; done) | (simp; omega)) ?_))
  intro A' c' w2 hown hgr hbel hor
  have HF : Hid (AddRet w base (l0 ++ [⟨pa, 0, pd⟩] ++ [⟨oa, ol, od⟩]) (.returned (.slice A' (l0.length + 1 + 1) c')) w2) := by
    have := addRet_push (l := l0 ++ [⟨pa, 0, pd⟩]) (o := ⟨oa, ol, od⟩) (D := D) (dd := dd) HR2.out HB2.out (by simpa using hown) hgr hbel (by simpa using hor) H32.out h4 (fun k hk => ⟨(H5.out k hk).1, by have := (H5.out k hk).2; simp; omega⟩)
    exact Lib.hid (by simpa using this)
  clear hown hgr hbel hor
  go_wp2_with fail
  exact bodyPost_ret (results_tmp rfl _ _ _) rfl (by simpa using HF.out)
set_option maxRecDepth 100000 in
set_option maxHeartbeats 4000000 in
theorem composeAdd_V4 {w : World} {base : Nat} {l0 : List Stp} {pa pl oa ol : Int} {pd od : List UInt8} {ds : List (Option Addr × Nat)} {g c : Nat} {D : Option Addr} {dd : Nat} (h : AddIn w base (l0 ++ [⟨pa, pl, pd⟩]) ds (some ⟨g, 0, none⟩) c ⟨oa, ol, od⟩ D dd) (t1 : 0 < ol) (t2 : 0 < pl) (t3 : pa + pl ≠ oa) :
    Calls Try.prog 52 #[.slice (some ⟨g, 0, none⟩) (l0.length + 1) c, .agg #[iv oa, iv ol, .slice D od.length dd]] w (AddRet w base (l0 ++ [⟨pa, pl, pd⟩] ++ [⟨oa, ol, od⟩])) := by
  obtain ⟨h1, h2, h3, h4, h5, h6, ⟨o1, o2, o3, o4⟩, h8⟩ := h
  obtain ⟨p1, p2, p3, p4⟩ := h8 ⟨pa, pl, pd⟩ (by simp)
  have hb : Below w.heap.size w (w.alloc (.cells #[iv oa, iv ol, .slice D od.length dd] 31)) := (Below.refl w.heap.size w).alloc (Nat.le_refl _) _
  have h2' := h2.below hb
  obtain ⟨ds0, d, hds, hdl, kc0, kc1, kc2, kfz, kdo, kle, koff⟩ := crow_cell h2'
  obtain ⟨ds0', d', hds', hdl', kw0, kw1, kw2, kfz', _⟩ := crow_cell h2
  obtain ⟨rfl, e2⟩ := List.append_inj' (hds.symm.trans hds') rfl
  obtain rfl : d = d' := by simpa using e2
  subst hds
  obtain ⟨kg1, kg2⟩ := h2.row.block g rfl
  have HR := Lib.hid h2'
  have HB := Lib.hid (hb.mono h1)
  have H3 := Lib.hid (h3.stays hb)
  have H5 := Lib.hid h5
  have HDO := Lib.hid kdo
  have KOF := Lib.hid koff
  have KFZ := Lib.hid kfz
  simp only [List.length_append, List.length_cons, List.length_nil] at h6
  have hix : ¬ (l0.length : Int) + 1 ≤ (l0.length : Int) := by omega
  clear h2 h2' h3 h5 h8 hb kdo koff hds' hdl' e2 kfz
  dsimp only at *
  go_enter Try.func52, Try.ntmps52
  go_wp2_with fail
  refine wp_region_chain (by kernel_rfl) (some 39 :: some 40 :: some 41 :: some 42 :: some 43 :: some 44 :: some 45 :: some 46 :: some 47 :: some 48 :: some 49 :: some 50 :: some 51 :: some 52 :: some 53 :: some 54 :: some 55 :: some 56 :: some 57 :: some 58 :: some 59 :: some 60 :: some 61 :: some 62 :: some 38 :: []) (.pointer (some ⟨w.heap.size, 1, none⟩) :: iv ol :: .bool true :: .bool true :: .pointer (some ⟨g, l0.length * 3, none⟩) :: .pointer (some ⟨g, l0.length * 3, none⟩) :: .pointer (some ⟨g, l0.length * 3 + 1, none⟩) :: iv pl :: .bool true :: .bool true :: .bool true :: .pointer (some ⟨g, l0.length * 3, none⟩) :: .pointer (some ⟨g, l0.length * 3, none⟩) :: .pointer (some ⟨g, l0.length * 3, none⟩) :: iv pa :: .pointer (some ⟨g, l0.length * 3, none⟩) :: .pointer (some ⟨g, l0.length * 3, none⟩) :: .pointer (some ⟨g, l0.length * 3 + 1, none⟩) :: iv pl :: iv (pa + pl) :: .pointer (some ⟨w.heap.size, 0, none⟩) :: iv oa :: .bool false :: .bool false :: .bool false :: []) 77 rfl rfl (by decide +kernel) (by decide +kernel) (by decide +kernel) rfl ?_ ?_
  · refine ⟨.inl ⟨rfl, fun done a wq hw h => ?_⟩, ?_⟩
    · have e3 := ch_old (t := 3) (v := .pointer (some ⟨w.heap.size, 0, none⟩)) h rfl rfl; refine ch_pure ?_; go_simp
    refine ⟨.inl ⟨rfl, fun done a wq hw h => ?_⟩, ?_⟩
    · have e39 := ch_new (i := 0) (t := 39) h (hw 0 (by decide)) rfl rfl; have hc := (h.bel.cell (p := ⟨w.heap.size, 1, none⟩) (by simp)).trans (show (w.alloc (.cells #[iv oa, iv ol, .slice D od.length dd] 31)).cell? ⟨w.heap.size, 1, none⟩ = some (iv ol) by go_simp); refine ch_pure ?_; go_simp
    refine ⟨.inl ⟨rfl, fun done a wq hw h => ?_⟩, ?_⟩
    · have e40 := ch_new (i := 1) (t := 40) h (hw 1 (by decide)) rfl rfl; exact ch_gtr_int (by kernel_rfl) (ch_ev e40) rfl (by simp; omega)
    refine ⟨.inl ⟨rfl, fun done a wq hw h => ?_⟩, ?_⟩
    · have e41 := ch_new (i := 2) (t := 41) h (hw 2 (by decide)) rfl rfl; exact ch_move (ch_ev e41)
    refine ⟨.inl ⟨rfl, fun done a wq hw h => ?_⟩, ?_⟩
    · have e6 := ch_old (t := 6) (v := .pointer (some ⟨g, l0.length * 3, none⟩)) h rfl rfl; exact ch_move (ch_ev e6)
    refine ⟨.inl ⟨rfl, fun done a wq hw h => ?_⟩, ?_⟩
    · have e43 := ch_new (i := 4) (t := 43) h (hw 4 (by decide)) rfl rfl; refine ch_pure ?_; go_simp
    refine ⟨.inl ⟨rfl, fun done a wq hw h => ?_⟩, ?_⟩
    · have e44 := ch_new (i := 5) (t := 44) h (hw 5 (by decide)) rfl rfl; refine ch_pure ?_; go_simp
    refine ⟨.inl ⟨rfl, fun done a wq hw h => ?_⟩, ?_⟩
    · have e45 := ch_new (i := 6) (t := 45) h (hw 6 (by decide)) rfl rfl; have hc := (h.bel.cell (p := ⟨g, l0.length * 3 + 1, none⟩) (by simp; omega)).trans (show (w.alloc (.cells #[iv oa, iv ol, .slice D od.length dd] 31)).cell? _ = some (iv pl) from kc1); refine ch_pure ?_; go_simp
    refine ⟨.inl ⟨rfl, fun done a wq hw h => ?_⟩, ?_⟩
    · have e46 := ch_new (i := 7) (t := 46) h (hw 7 (by decide)) rfl rfl; exact ch_gtr_int (by kernel_rfl) (ch_ev e46) rfl (by simp; omega)
    refine ⟨.inl ⟨rfl, fun done a wq hw h => ?_⟩, ?_⟩
    · have e42 := ch_new (i := 3) (t := 42) h (hw 3 (by decide)) rfl rfl; have e47 := ch_new (i := 8) (t := 47) h (hw 8 (by decide)) rfl rfl; exact ch_pick_t e42 (ch_ev e47)
    refine ⟨.inl ⟨rfl, fun done a wq hw h => ?_⟩, ?_⟩
    · have e48 := ch_new (i := 9) (t := 48) h (hw 9 (by decide)) rfl rfl; exact ch_move (ch_ev e48)
    refine ⟨.inl ⟨rfl, fun done a wq hw h => ?_⟩, ?_⟩
    · have e6 := ch_old (t := 6) (v := .pointer (some ⟨g, l0.length * 3, none⟩)) h rfl rfl; exact ch_move (ch_ev e6)
    refine ⟨.inl ⟨rfl, fun done a wq hw h => ?_⟩, ?_⟩
    · have e50 := ch_new (i := 11) (t := 50) h (hw 11 (by decide)) rfl rfl; refine ch_pure ?_; go_simp
    refine ⟨.inl ⟨rfl, fun done a wq hw h => ?_⟩, ?_⟩
    · have e51 := ch_new (i := 12) (t := 51) h (hw 12 (by decide)) rfl rfl; refine ch_pure ?_; go_simp
    refine ⟨.inl ⟨rfl, fun done a wq hw h => ?_⟩, ?_⟩
    · have e52 := ch_new (i := 13) (t := 52) h (hw 13 (by decide)) rfl rfl; have hc := (h.bel.cell (p := ⟨g, l0.length * 3, none⟩) (by simp; omega)).trans (show (w.alloc (.cells #[iv oa, iv ol, .slice D od.length dd] 31)).cell? _ = some (iv pa) from kc0); refine ch_pure ?_; go_simp
    refine ⟨.inl ⟨rfl, fun done a wq hw h => ?_⟩, ?_⟩
    · have e6 := ch_old (t := 6) (v := .pointer (some ⟨g, l0.length * 3, none⟩)) h rfl rfl; exact ch_move (ch_ev e6)
    refine ⟨.inl ⟨rfl, fun done a wq hw h => ?_⟩, ?_⟩
    · have e54 := ch_new (i := 15) (t := 54) h (hw 15 (by decide)) rfl rfl; refine ch_pure ?_; go_simp
    refine ⟨.inl ⟨rfl, fun done a wq hw h => ?_⟩, ?_⟩
    · have e55 := ch_new (i := 16) (t := 55) h (hw 16 (by decide)) rfl rfl; refine ch_pure ?_; go_simp
    refine ⟨.inl ⟨rfl, fun done a wq hw h => ?_⟩, ?_⟩
    · have e56 := ch_new (i := 17) (t := 56) h (hw 17 (by decide)) rfl rfl; have hc := (h.bel.cell (p := ⟨g, l0.length * 3 + 1, none⟩) (by simp; omega)).trans (show (w.alloc (.cells #[iv oa, iv ol, .slice D od.length dd] 31)).cell? _ = some (iv pl) from kc1); refine ch_pure ?_; go_simp
    refine ⟨.inl ⟨rfl, fun done a wq hw h => ?_⟩, ?_⟩
    · have e53 := ch_new (i := 14) (t := 53) h (hw 14 (by decide)) rfl rfl; have e57 := ch_new (i := 18) (t := 57) h (hw 18 (by decide)) rfl rfl; refine ch_pure ?_; go_simp; exact IntWalk.i64_in _ (by omega)
    refine ⟨.inl ⟨rfl, fun done a wq hw h => ?_⟩, ?_⟩
    · have e3 := ch_old (t := 3) (v := .pointer (some ⟨w.heap.size, 0, none⟩)) h rfl rfl; refine ch_pure ?_; go_simp
    refine ⟨.inl ⟨rfl, fun done a wq hw h => ?_⟩, ?_⟩
    · have e59 := ch_new (i := 20) (t := 59) h (hw 20 (by decide)) rfl rfl; have hc := (h.bel.cell (p := ⟨w.heap.size, 0, none⟩) (by simp)).trans (show (w.alloc (.cells #[iv oa, iv ol, .slice D od.length dd] 31)).cell? ⟨w.heap.size, 0, none⟩ = some (iv oa) by go_simp); refine ch_pure ?_; go_simp
    refine ⟨.inl ⟨rfl, fun done a wq hw h => ?_⟩, ?_⟩
    · have e58 := ch_new (i := 19) (t := 58) h (hw 19 (by decide)) rfl rfl; have e60 := ch_new (i := 21) (t := 60) h (hw 21 (by decide)) rfl rfl; exact ch_eql_int (by kernel_rfl) (ch_ev e58) (ch_ev e60) (by simp; omega)
    refine ⟨.inl ⟨rfl, fun done a wq hw h => ?_⟩, ?_⟩
    · have e49 := ch_new (i := 10) (t := 49) h (hw 10 (by decide)) rfl rfl; have e61 := ch_new (i := 22) (t := 61) h (hw 22 (by decide)) rfl rfl; exact ch_pick_t e49 (ch_ev e61)
    refine ⟨.inl ⟨rfl, fun done a wq hw h => ?_⟩, ?_⟩
    · have e62 := ch_new (i := 23) (t := 62) h (hw 23 (by decide)) rfl rfl; exact ch_assign (ch_ev e62)
    exact trivial
  intro w1 hb
  have HR1 := Lib.hid (HR.out.below hb)
  have HB1 := Lib.hid (HB.out.trans (hb.mono (by simp; omega)))
  have H31 := Lib.hid (H3.out.stays hb)
  have hs1 := hb.size
  have r0 := (hb.cell (p := ⟨w.heap.size, 0, none⟩) (by simp)).trans (show (w.alloc (.cells #[iv oa, iv ol, .slice D od.length dd] 31)).cell? _ = some (iv oa) by go_simp)
  have r1 := (hb.cell (p := ⟨w.heap.size, 1, none⟩) (by simp)).trans (show (w.alloc (.cells #[iv oa, iv ol, .slice D od.length dd] 31)).cell? _ = some (iv ol) by go_simp)
  have r2 := (hb.cell (p := ⟨w.heap.size, 2, none⟩) (by simp)).trans (show (w.alloc (.cells #[iv oa, iv ol, .slice D od.length dd] 31)).cell? _ = some (.slice D od.length dd) by go_simp)
  simp at hs1
  clear hb kc0 kc1 kc2 kw0 kw1 kw2
  simp only [putAll_some, putAll_none, putAll_nil, List.getElem?_cons_zero, List.getElem?_cons_succ, List.setIfInBounds_toArray, List.set_cons_zero, List.set_cons_succ]
  have hb2 : Below w1.heap.size w1 (w1.alloc (.cells #[iv oa, iv ol, .slice D od.length dd] 31)) := (Below.refl w1.heap.size w1).alloc (Nat.le_refl _) _
  have HR2 := Lib.hid (HR1.out.below hb2)
  have HB2 := Lib.hid (HB1.out.trans (hb2.mono (by omega)))
  have H32 := Lib.hid (H31.out.stays hb2)
  have HRR : Hid (Own (w1.alloc (.cells #[iv oa, iv ol, .slice D od.length dd] 31)) base 31 3 (some ⟨g, 0, none⟩) (l0.length + 1) c (opCells (l0 ++ [⟨pa, pl, pd⟩]) (ds0 ++ [d]))) := by
    have := HR2.out.row
    rw [List.length_append] at this
    exact Lib.hid this
  clear hb2
  go_wp2_with (at_builtin; go_must (refine wpList_app _ rfl (.tmp 73) (.tmp 75) 23 rfl elOps base (some ⟨g, 0, none⟩) (l0.length + 1) c (opCells (l0 ++ [⟨pa, pl, pd⟩]) (ds0 ++ [d])) rfl HRR.out (some ⟨w1.heap.size, 0, none⟩) 1 1 [iv oa, iv ol, .slice D od.length dd] rfl (src_blk (blk_top (by simp))) rfl (by simp [Value.oneCell']) (by first | omega | (simp; done) | (simp; omega)) (by first | omega | (simp; done) | (simp; omega)) ?_))
  intro A' c' w2 hown hgr hbel hor
  have HF : Hid (AddRet w base (l0 ++ [⟨pa, pl, pd⟩] ++ [⟨oa, ol, od⟩]) (.returned (.slice A' (l0.length + 1 + 1) c')) w2) := by
    have := addRet_push (l := l0 ++ [⟨pa, pl, pd⟩]) (o := ⟨oa, ol, od⟩) (D := D) (dd := dd) HR2.out HB2.out (by simpa using hown) hgr hbel (by simpa using hor) H32.out h4 (fun k hk => ⟨(H5.out k hk).1, by have := (H5.out k hk).2; simp; omega⟩)
    exact Lib.hid (by simpa using this)
  clear hown hgr hbel hor
  go_wp2_with fail
  exact bodyPost_ret (results_tmp rfl _ _ _) rfl (by simpa using HF.out)
/-- A step put behind others. -/
theorem composeAdd_calls {w : World} {base : Nat} {l : List Stp} {ds : List (Option Addr × Nat)} {A : Option Addr} {c : Nat} {o : Stp} {D : Option Addr} {dd : Nat} (h : AddIn w base l ds A c o D dd) :
    Calls Try.prog 52 #[.slice A l.length c, .agg #[iv o.at_, iv o.len, .slice D o.data.length dd]] w (AddRet w base (addStp l o)) := by
  rcases List.eq_nil_or_concat l with rfl | ⟨l0, p, e⟩
  · exact composeAdd_nil h
  · rw [List.concat_eq_append] at e
    subst e
    obtain ⟨g, rfl, _, _⟩ := h.row.row.form (by simp)
    have e : (l0 ++ [p]).length = l0.length + 1 := by simp
    rw [e, addStp_snoc]
    have hp := h.smalls p (by simp)
    have ho := h.small
    obtain ⟨pa, pl, pd⟩ := p
    obtain ⟨oa, ol, od⟩ := o
    unfold Stp.small at hp ho
    unfold meets
    dsimp only at *
    by_cases h1 : ol = 0
    · subst h1
      by_cases h2 : pl = 0
      · subst h2
        rw [if_pos ⟨rfl, rfl⟩]
        exact composeAdd_V1 h
      · rw [if_neg (fun h => h2 h.2), if_neg (fun h => absurd h.1 (by omega))]
        have := composeAdd_V2 h h2
        rwa [List.append_assoc] at this
    · rw [if_neg (fun h => h1 h.1)]
      by_cases h2 : pl = 0
      · subst h2
        rw [if_neg (fun h => absurd h.2.1 (by omega))]
        have := composeAdd_V3 h (by omega)
        rwa [List.append_assoc] at this
      · by_cases h3 : pa + pl = oa
        · subst h3
          rw [if_pos ⟨by omega, by omega, rfl⟩]
          exact composeAdd_V5 h (by omega) (by omega)
        · rw [if_neg (fun h => h3 h.2.2)]
          have := composeAdd_V4 h (by omega) (by omega) h3
          rwa [List.append_assoc] at this
end Go.Proofs.Ytefkfglkpebbmab
