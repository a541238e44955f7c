/- The walk of the document's Composed: its closure that puts one byte. No conditions. -/
import Derived.Test.YtefkfglkpebbmabDiff
import Derived.Test.YtefkfglkpebbmabComposeAdd
import Derived.Test.YtefkfglkpebbmabComposeRef
namespace Go.Proofs.Ytefkfglkpebbmab
open Go.RowKit
set_option linter.unusedVariables false
set_option linter.unusedSimpArgs false

/-- A step more, with data of its own. -/
theorem DRow.pushd {w w' : World} {base : Nat} {l : List Stp} {ds : List (Option Addr × Nat)} {A A' : Option Addr} {c c' : Nat} {o : Stp} {d : Option Addr × Nat} (h : DRow w base l ds A c)
    (h1 : Own w' base 31 3 A' (l.length + 1) c' (opCells l ds ++ opCell o d)) (h2 : w.grownBy w' (A.map (·.block))) (h3 : A'.map (·.block) = A.map (·.block) ∨ A'.map (·.block) = some w.heap.size)
    (hd : Own w base 5 1 d.1 o.data.length d.2 (o.data.map bv)) (hdA : ∀ k, d.1.map (·.block) = some k → A.map (·.block) ≠ some k) (hda : ∀ (i : Nat) (e : Option Addr × Nat), ds[i]? = some e → ∀ k, e.1.map (·.block) = some k → d.1.map (·.block) ≠ some k) :
    DRow w' base (l ++ [o]) (ds ++ [d]) A' c' := by
  have hlen := h.len
  refine ⟨by simp [hlen], ?_, ?_, ?_, ?_⟩
  · rw [opCells_snoc _ _ _ _ hlen, List.length_append]; exact h1
  · intro i o' e hi he
    rcases snoc_at hi with hi | ⟨rfl, rfl⟩
    · have hil : i < l.length := (List.getElem?_eq_some_iff.1 hi).1
      rw [List.getElem?_append_left (by omega)] at he
      refine (h.data i o' e hi he).kept h2 ?_
      cases hk : e.1.map (·.block) with
      | none => exact .inl rfl
      | some k => exact .inr fun e' => h.off i e he k hk e'.symm
    · rw [← hlen] at he
      simp at he
      subst he
      refine hd.kept h2 ?_
      cases hk : d.1.map (·.block) with
      | none => exact .inl rfl
      | some k => exact .inr fun e' => hdA k hk e'.symm
  · intro i e he k hk
    rcases snoc_at he with he | ⟨rfl, rfl⟩
    · rcases h3 with h3 | h3
      · rw [h3]; exact h.off i e he k hk
      · rw [h3]
        intro e'; injection e' with e'; subst e'
        have hil : i < l.length := by have := (List.getElem?_eq_some_iff.1 he).1; omega
        have := ((h.data i l[i] e (List.getElem?_eq_getElem hil) he).block _ hk).2
        omega
    · rcases h3 with h3 | h3
      · rw [h3]; exact hdA k hk
      · rw [h3]
        intro e'; injection e' with e'; subst e'
        have := (hd.block _ hk).2
        omega
  · intro i j d' e hij hd' he k hk
    rcases snoc_at he with he | ⟨rfl, rfl⟩
    · have hjl := (List.getElem?_eq_some_iff.1 he).1
      rw [List.getElem?_append_left (by omega)] at hd'
      exact h.apart i j d' e hij hd' he k hk
    · rw [List.getElem?_append_left hij] at hd'
      exact hda i d' hd' k hk
/-- The closure's steps, in the cell that it holds. -/
structure OutAt (w : World) (go : Nat) (l : List Stp) (ds : List (Option Addr × Nat)) (A : Option Addr) (c : Nat) : Prop where
  cell : w.cell? ⟨go, 0, none⟩ = some (.slice A l.length c)
  froz : w.frozen? ⟨go, 0, none⟩ = false
  lt : go < w.heap.size
  row : DRow w (go + 1) l ds A c
/-- A block that is no part of it. -/
def Off (k go : Nat) (A : Option Addr) (ds : List (Option Addr × Nat)) : Prop := k ≠ go ∧ A.map (·.block) ≠ some k ∧ ∀ d ∈ ds, d.1.map (·.block) ≠ some k
/-- What is no part of it stays, and is none. -/
def Kept (w w' : World) (go : Nat) (A : Option Addr) (ds : List (Option Addr × Nat)) (A' : Option Addr) (ds' : List (Option Addr × Nat)) : Prop := ∀ k, k < w.heap.size → Off k go A ds → w'.heap[k]? = w.heap[k]? ∧ Off k go A' ds'
theorem Kept.push {w w1 w2 : World} {go : Nat} {A A' : Option Addr} {ds : List (Option Addr × Nat)} {d : Option Addr × Nat} {u : Value} (hb : Below w.heap.size w w1) (hg : w1.grownBy w2 (A.map (·.block))) (ho : A'.map (·.block) = A.map (·.block) ∨ A'.map (·.block) = some w1.heap.size) (hd : ∀ k, k < w.heap.size → d.1.map (·.block) ≠ some k) :
    Kept w (w2.setCell ⟨go, 0, none⟩ u) go A ds A' (ds ++ [d]) := fun k hk ⟨h1, h2, h3⟩ => by
  refine ⟨(Below.heap_setCell _ _ _ _ h1).trans ((hg.block k (Nat.lt_of_lt_of_le hk hb.size) (fun e => h2 e.symm)).trans (hb.block k hk)), h1, ?_, ?_⟩
  · rcases ho with e | e
    · rw [e]; exact h2
    · rw [e]
      intro e2; injection e2 with e2
      have := hb.size
      omega
  · intro e he
    rcases List.mem_append.1 he with he | he
    · exact h3 e he
    · obtain rfl : e = d := by simpa using he
      exact hd k hk
def OneRet (w : World) (go : Nat) (A0 : Option Addr) (ds0 : List (Option Addr × Nat)) (l : List Stp) : Ending → World → Prop := fun e w' => ∃ A c ds, e = .returned (.tuple #[]) ∧ OutAt w' go l ds A c ∧ Below go w w' ∧ Kept w w' go A0 ds0 A ds
theorem OutAt.store {w' : World} {go : Nat} {l : List Stp} {ds : List (Option Addr × Nat)} {A : Option Addr} {c : Nat} (h : DRow w' (go + 1) l ds A c) (hlt : go < w'.heap.size) (hf : w'.frozen? ⟨go, 0, none⟩ = false) (hc : (w'.setCell ⟨go, 0, none⟩ (.slice A l.length c)).cell? ⟨go, 0, none⟩ = some (.slice A l.length c)) :
    OutAt (w'.setCell ⟨go, 0, none⟩ (.slice A l.length c)) go l ds A c := by
  refine ⟨hc, by simpa using hf, by simpa using hlt, ⟨h.len, ?_, fun i o d h1 h2 => ?_, h.off, h.apart⟩⟩
  · refine h.row.setCell_other ?_ _
    intro e
    have := (h.row.block go e).1
    omega
  · refine (h.data i o d h1 h2).setCell_other ?_ _
    intro e
    have := ((h.data i o d h1 h2).block go e).1
    omega
theorem own_byte {w : World} {g base : Nat} {x : UInt8} (h : w.heap[g]? = some (.cells #[bv x] 5 (0, 0))) (hb : base ≤ g) : Own w base 5 1 (some ⟨g, 0, none⟩) 1 1 [bv x] :=
  ⟨by simp, Or.inr ⟨g, 1, #[bv x], rfl, hb, h, by omega, by unfold maxLen; omega, by simp, by simp⟩⟩
set_option maxRecDepth 100000 in
set_option maxHeartbeats 4000000 in
theorem refOne_dataS {w : World} {go : Nat} {l0 : List Stp} {p : Stp} {g : Nat} {ds : List (Option Addr × Nat)} {c : Nat} {a : Int} {x : UInt8} (h : OutAt w go (l0 ++ [p]) ds (some ⟨g, 0, none⟩) c) (ha : a < 0) (hm : l0.length ≤ 1048576) (hp : p.len ≠ 0) :
    Calls Try.prog 55 #[iv a, bv x, .pointer (some ⟨go, 0, none⟩)] w (OneRet w go (some ⟨g, 0, none⟩) ds ((l0 ++ [p]) ++ [⟨0, 0, [x]⟩])) := by
  obtain ⟨h1, h2, h3, h4⟩ := h
  simp only [List.length_append, List.length_cons, List.length_nil] at h1
  have hix : ¬ (l0.length : Int) + 1 ≤ (l0.length : Int) := by omega
  obtain ⟨ds0, d, hds, hdl, kc0, kc1, kc2, kfz, kdo⟩ := drow_cell h4
  obtain ⟨kg1, kg2⟩ := h4.row.block g rfl
  clear hds hdl kdo kfz kc2
  have hq : (p.len == 0) = false := by simp [hp]
  clear hp kc0
  have hb0 : Below w.heap.size w ((w.alloc (.cells #[bv x] 5)).alloc (.cells #[iv 0, iv 0, .slice (some ⟨w.heap.size, 0, none⟩) 1 1] 31)) := ((Below.refl w.heap.size w).alloc (Nat.le_refl _) _).alloc (by simp) _
  have HRW := Lib.hid (h4.below hb0)
  have HRR : Hid (Own ((w.alloc (.cells #[bv x] 5)).alloc (.cells #[iv 0, iv 0, .slice (some ⟨w.heap.size, 0, none⟩) 1 1] 31)) (go + 1) 31 3 (some ⟨g, 0, none⟩) (l0.length + 1) c (opCells (l0 ++ [p]) ds)) := by
    have := HRW.out.row
    rw [List.length_append] at this
    exact Lib.hid this
  have hdd : Own ((w.alloc (.cells #[bv x] 5)).alloc (.cells #[iv 0, iv 0, .slice (some ⟨w.heap.size, 0, none⟩) 1 1] 31)) (go + 1) 5 1 ((some ⟨w.heap.size, 0, none⟩, 1) : Option Addr × Nat).1 1 ((some ⟨w.heap.size, 0, none⟩, 1) : Option Addr × Nat).2 ([bv x]) := own_byte (blk_old (blk_top rfl)) (by omega)
  have hda : ∀ k, ((some ⟨w.heap.size, 0, none⟩, 1) : Option Addr × Nat).1.map (·.block) = some k → (some ⟨g, 0, none⟩ : Option Addr).map (·.block) ≠ some k := fun k hk e => by
    have h9 := (h4.row.block k e).2
    simp at hk; omega
  have hdx : ∀ (i : Nat) (e : Option Addr × Nat), ds[i]? = some e → ∀ k, e.1.map (·.block) = some k → ((some ⟨w.heap.size, 0, none⟩, 1) : Option Addr × Nat).1.map (·.block) ≠ some k := fun i e hi k hk e2 => by
    have hil : i < ds.length := (List.getElem?_eq_some_iff.1 hi).1
    have h9 := ((h4.data i _ e (List.getElem?_eq_getElem (by rw [← h4.len]; exact hil)) hi).block k hk).2
    simp at e2; omega
  have HDD := Lib.hid hdd
  have HDA := Lib.hid hda
  have HDX := Lib.hid hdx
  have HBF := Lib.hid hb0
  have HB0 := Lib.hid (hb0.mono (B' := go) (by omega))
  have hk1 : ((w.alloc (.cells #[bv x] 5)).alloc (.cells #[iv 0, iv 0, .slice (some ⟨w.heap.size, 0, none⟩) 1 1] 31)).cell? ⟨go, 0, none⟩ = some (.slice (some ⟨g, 0, none⟩) (l0.length + 1) c) := (hb0.cell (p := ⟨go, 0, none⟩) h3).trans h1
  have hk2 : ((w.alloc (.cells #[bv x] 5)).alloc (.cells #[iv 0, iv 0, .slice (some ⟨w.heap.size, 0, none⟩) 1 1] 31)).frozen? ⟨go, 0, none⟩ = false := by
    unfold World.frozen? at h2 ⊢
    rw [hb0.block go h3]; exact h2
  have HK1 := Lib.hid hk1
  have HK2 := Lib.hid hk2
  clear h4 hb0 hdd hda hdx hk1 hk2
  go_enter Try.func55, Try.ntmps55
  go_wp2_with (at_builtin; go_must (refine wpList_app _ rfl (.tmp 44) (.tmp 48) 23 rfl elOps (go + 1) (some ⟨g, 0, none⟩) (l0.length + 1) c (opCells (l0 ++ [p]) ds) rfl HRR.out (some ⟨w.heap.size + 1, 0, none⟩) 1 1 [iv 0, iv 0, .slice (some ⟨w.heap.size, 0, none⟩) 1 1] rfl (src_blk (blk_top (by simp))) rfl (by simp [Value.oneCell']) (by first | omega | (simp; done) | (simp; omega)) (by first | omega | (simp; done) | (simp; omega)) ?_))
  intro A' c' w2 hown hgr hbel hor
  have hD : DRow w2 (go + 1) ((l0 ++ [p]) ++ [⟨0, 0, [x]⟩]) (ds ++ [((some ⟨w.heap.size, 0, none⟩, 1) : Option Addr × Nat)]) A' c' := HRW.out.pushd (o := ⟨0, 0, [x]⟩) (d := ((some ⟨w.heap.size, 0, none⟩, 1) : Option Addr × Nat)) (by simpa [opCell] using hown) hgr (by simpa using hor) HDD.out HDA.out HDX.out
  have kc2 : w2.cell? ⟨go, 0, none⟩ = some (.slice (some ⟨g, 0, none⟩) (l0.length + 1) c) := (hbel.cell (p := ⟨go, 0, none⟩) (Nat.lt_succ_self go)).trans HK1.out
  have kf2 : w2.frozen? ⟨go, 0, none⟩ = false := by
    have := HK2.out
    unfold World.frozen? at this ⊢
    rw [hbel.block go (Nat.lt_succ_self go)]; exact this
  have HB2 := Lib.hid (HB0.out.trans (hbel.mono (B' := go) (by omega)))
  have hs2 : go < w2.heap.size := Nat.lt_of_lt_of_le h3 HB2.out.size
  have HD := Lib.hid hD
  have HOF : Hid (∀ u : Value, Kept w (w2.setCell ⟨go, 0, none⟩ u) go (some ⟨g, 0, none⟩) ds A' (ds ++ [((some ⟨w.heap.size, 0, none⟩, 1) : Option Addr × Nat)])) := Lib.hid (fun u => Kept.push HBF.out hgr (by simpa using hor) (fun k hk => by simp <;> omega))
  clear hown hgr hbel hor hD HRW HRR HDD HDA HDX HB0 HK1 HK2
  have HE : Hid (OneRet w go (some ⟨g, 0, none⟩) ds (l0 ++ [p] ++ [⟨0, 0, [x]⟩]) (.returned (.tuple #[])) (w2.setCell ⟨go, 0, none⟩ (.slice A' (l0 ++ [p] ++ [(⟨0, 0, [x]⟩ : Stp)]).length c'))) :=
    Lib.hid ⟨A', c', _, rfl, OutAt.store HD.out hs2 kf2 (World.cell?_setCell_same _ _ _ kc2), HB2.out.setCell (Nat.le_refl _) _, HOF.out _⟩
  clear HD
  go_wp2_with fail
  exact bodyPost_end (results_none rfl _ _ _) rfl (by simpa using HE.out)
set_option maxRecDepth 100000 in
set_option maxHeartbeats 4000000 in
theorem refOne_dataN {w : World} {go : Nat} {A : Option Addr} {ds : List (Option Addr × Nat)} {c : Nat} {a : Int} {x : UInt8} (h : OutAt w go ([] : List Stp) ds A c) (ha : a < 0) :
    Calls Try.prog 55 #[iv a, bv x, .pointer (some ⟨go, 0, none⟩)] w (OneRet w go A ds (([] : List Stp) ++ [⟨0, 0, [x]⟩])) := by
  obtain ⟨h1, h2, h3, h4⟩ := h
  simp only [List.length_nil] at h1
  have hb0 : Below w.heap.size w ((w.alloc (.cells #[bv x] 5)).alloc (.cells #[iv 0, iv 0, .slice (some ⟨w.heap.size, 0, none⟩) 1 1] 31)) := ((Below.refl w.heap.size w).alloc (Nat.le_refl _) _).alloc (by simp) _
  have HRW := Lib.hid (h4.below hb0)
  have HRR : Hid (Own ((w.alloc (.cells #[bv x] 5)).alloc (.cells #[iv 0, iv 0, .slice (some ⟨w.heap.size, 0, none⟩) 1 1] 31)) (go + 1) 31 3 A 0 c (opCells ([] : List Stp) ds)) := by
    have := HRW.out.row
    exact Lib.hid this
  have hdd : Own ((w.alloc (.cells #[bv x] 5)).alloc (.cells #[iv 0, iv 0, .slice (some ⟨w.heap.size, 0, none⟩) 1 1] 31)) (go + 1) 5 1 ((some ⟨w.heap.size, 0, none⟩, 1) : Option Addr × Nat).1 1 ((some ⟨w.heap.size, 0, none⟩, 1) : Option Addr × Nat).2 ([bv x]) := own_byte (blk_old (blk_top rfl)) (by omega)
  have hda : ∀ k, ((some ⟨w.heap.size, 0, none⟩, 1) : Option Addr × Nat).1.map (·.block) = some k → A.map (·.block) ≠ some k := fun k hk e => by
    have h9 := (h4.row.block k e).2
    simp at hk; omega
  have hdx : ∀ (i : Nat) (e : Option Addr × Nat), ds[i]? = some e → ∀ k, e.1.map (·.block) = some k → ((some ⟨w.heap.size, 0, none⟩, 1) : Option Addr × Nat).1.map (·.block) ≠ some k := fun i e hi k hk e2 => by
    have hil : i < ds.length := (List.getElem?_eq_some_iff.1 hi).1
    have h9 := ((h4.data i _ e (List.getElem?_eq_getElem (by rw [← h4.len]; exact hil)) hi).block k hk).2
    simp at e2; omega
  have HDD := Lib.hid hdd
  have HDA := Lib.hid hda
  have HDX := Lib.hid hdx
  have HBF := Lib.hid hb0
  have HB0 := Lib.hid (hb0.mono (B' := go) (by omega))
  have hk1 : ((w.alloc (.cells #[bv x] 5)).alloc (.cells #[iv 0, iv 0, .slice (some ⟨w.heap.size, 0, none⟩) 1 1] 31)).cell? ⟨go, 0, none⟩ = some (.slice A 0 c) := (hb0.cell (p := ⟨go, 0, none⟩) h3).trans h1
  have hk2 : ((w.alloc (.cells #[bv x] 5)).alloc (.cells #[iv 0, iv 0, .slice (some ⟨w.heap.size, 0, none⟩) 1 1] 31)).frozen? ⟨go, 0, none⟩ = false := by
    unfold World.frozen? at h2 ⊢
    rw [hb0.block go h3]; exact h2
  have HK1 := Lib.hid hk1
  have HK2 := Lib.hid hk2
  clear h4 hb0 hdd hda hdx hk1 hk2
  go_enter Try.func55, Try.ntmps55
  go_wp2_with (at_builtin; go_must (refine wpList_app _ rfl (.tmp 44) (.tmp 48) 23 rfl elOps (go + 1) A 0 c (opCells ([] : List Stp) ds) rfl HRR.out (some ⟨w.heap.size + 1, 0, none⟩) 1 1 [iv 0, iv 0, .slice (some ⟨w.heap.size, 0, none⟩) 1 1] rfl (src_blk (blk_top (by simp))) rfl (by simp [Value.oneCell']) (by first | omega | (simp; done) | (simp; omega)) (by first | omega | (simp; done) | (simp; omega)) ?_))
  intro A' c' w2 hown hgr hbel hor
  have hD : DRow w2 (go + 1) (([] : List Stp) ++ [⟨0, 0, [x]⟩]) (ds ++ [((some ⟨w.heap.size, 0, none⟩, 1) : Option Addr × Nat)]) A' c' := HRW.out.pushd (o := ⟨0, 0, [x]⟩) (d := ((some ⟨w.heap.size, 0, none⟩, 1) : Option Addr × Nat)) (by simpa [opCell] using hown) hgr (by simpa using hor) HDD.out HDA.out HDX.out
  have kc2 : w2.cell? ⟨go, 0, none⟩ = some (.slice A 0 c) := (hbel.cell (p := ⟨go, 0, none⟩) (Nat.lt_succ_self go)).trans HK1.out
  have kf2 : w2.frozen? ⟨go, 0, none⟩ = false := by
    have := HK2.out
    unfold World.frozen? at this ⊢
    rw [hbel.block go (Nat.lt_succ_self go)]; exact this
  have HB2 := Lib.hid (HB0.out.trans (hbel.mono (B' := go) (by omega)))
  have hs2 : go < w2.heap.size := Nat.lt_of_lt_of_le h3 HB2.out.size
  have HD := Lib.hid hD
  have HOF : Hid (∀ u : Value, Kept w (w2.setCell ⟨go, 0, none⟩ u) go A ds A' (ds ++ [((some ⟨w.heap.size, 0, none⟩, 1) : Option Addr × Nat)])) := Lib.hid (fun u => Kept.push HBF.out hgr (by simpa using hor) (fun k hk => by simp <;> omega))
  clear hown hgr hbel hor hD HRW HRR HDD HDA HDX HB0 HK1 HK2
  have HE : Hid (OneRet w go A ds (([] : List Stp) ++ [⟨0, 0, [x]⟩]) (.returned (.tuple #[])) (w2.setCell ⟨go, 0, none⟩ (.slice A' (([] : List Stp) ++ [(⟨0, 0, [x]⟩ : Stp)]).length c'))) :=
    Lib.hid ⟨A', c', _, rfl, OutAt.store HD.out hs2 kf2 (World.cell?_setCell_same _ _ _ kc2), HB2.out.setCell (Nat.le_refl _) _, HOF.out _⟩
  clear HD
  go_wp2_with fail
  exact bodyPost_end (results_none rfl _ _ _) rfl (by simpa using HE.out)
theorem OutAt.below {w w' : World} {go : Nat} {l : List Stp} {ds : List (Option Addr × Nat)} {A : Option Addr} {c : Nat} (h : OutAt w go l ds A c) (hb : Below w.heap.size w w') : OutAt w' go l ds A c :=
  ⟨(hb.cell (p := ⟨go, 0, none⟩) h.lt).trans h.cell, by have := h.froz; unfold World.frozen? at this ⊢; rw [hb.block go h.lt]; exact this, Nat.lt_of_lt_of_le h.lt hb.size, h.row.below hb⟩
set_option maxRecDepth 100000 in
set_option maxHeartbeats 4000000 in
theorem refOne_lenN {w : World} {go : Nat} {A : Option Addr} {ds : List (Option Addr × Nat)} {c : Nat} {z : Int} {x : UInt8} (h : OutAt w go ([] : List Stp) ds A c) (ha : ¬ z < 0) :
    Calls Try.prog 55 #[iv z, bv x, .pointer (some ⟨go, 0, none⟩)] w (OneRet w go A ds (([] : List Stp) ++ [⟨z, 1, []⟩])) := by
  have HO := Lib.hid h
  obtain ⟨h1, h2, h3, h4⟩ := h
  simp only [List.length_nil] at h1
  clear h4
  go_enter Try.func55, Try.ntmps55
  go_wp2_with fail
  refine wp_region_chain (by kernel_rfl) (some 51 :: some 52 :: some 53 :: some 54 :: some 55 :: some 56 :: some 57 :: some 58 :: some 59 :: some 60 :: some 61 :: some 62 :: some 63 :: some 64 :: some 65 :: some 66 :: some 67 :: some 68 :: some 69 :: some 70 :: some 71 :: some 72 :: some 73 :: some 74 :: some 75 :: some 50 :: []) (.int .i64 (-1) :: .bool false :: .bool false :: undef :: undef :: undef :: undef :: undef :: undef :: .bool false :: .bool false :: undef :: undef :: undef :: undef :: undef :: undef :: undef :: undef :: undef :: undef :: undef :: undef :: undef :: .bool false :: .bool false :: []) 84 rfl rfl (by decide +kernel) (by decide +kernel) (by decide +kernel) rfl ?_ ?_
  · refine ⟨.inl ⟨rfl, fun done a wq hw h => ?_⟩, ?_⟩
    · have e5 := ch_old (t := 5) (v := .int .i64 (-1)) h rfl rfl; exact ch_move (ch_ev e5)
    refine ⟨.inl ⟨rfl, fun done a wq hw h => ?_⟩, ?_⟩
    · have e51 := ch_new (i := 0) (t := 51) h (hw 0 (by decide)) rfl rfl; exact ch_geq_int (by kernel_rfl) (ch_ev e51) rfl (by simp)
    refine ⟨.inl ⟨rfl, fun done a wq hw h => ?_⟩, ?_⟩
    · have e52 := ch_new (i := 1) (t := 52) h (hw 1 (by decide)) rfl rfl; exact ch_move (ch_ev e52)
    refine ⟨.inr ⟨rfl, rfl⟩, ?_⟩
    refine ⟨.inr ⟨rfl, rfl⟩, ?_⟩
    refine ⟨.inr ⟨rfl, rfl⟩, ?_⟩
    refine ⟨.inr ⟨rfl, rfl⟩, ?_⟩
    refine ⟨.inr ⟨rfl, rfl⟩, ?_⟩
    refine ⟨.inr ⟨rfl, rfl⟩, ?_⟩
    refine ⟨.inl ⟨rfl, fun done a wq hw h => ?_⟩, ?_⟩
    · have e53 := ch_new (i := 2) (t := 53) h (hw 2 (by decide)) rfl rfl; exact ch_pick_f e53 rfl
    refine ⟨.inl ⟨rfl, fun done a wq hw h => ?_⟩, ?_⟩
    · have e60 := ch_new (i := 9) (t := 60) h (hw 9 (by decide)) rfl rfl; exact ch_move (ch_ev e60)
    refine ⟨.inr ⟨rfl, rfl⟩, ?_⟩
    refine ⟨.inr ⟨rfl, rfl⟩, ?_⟩
    refine ⟨.inr ⟨rfl, rfl⟩, ?_⟩
    refine ⟨.inr ⟨rfl, rfl⟩, ?_⟩
    refine ⟨.inr ⟨rfl, rfl⟩, ?_⟩
    refine ⟨.inr ⟨rfl, rfl⟩, ?_⟩
    refine ⟨.inr ⟨rfl, rfl⟩, ?_⟩
    refine ⟨.inr ⟨rfl, rfl⟩, ?_⟩
    refine ⟨.inr ⟨rfl, rfl⟩, ?_⟩
    refine ⟨.inr ⟨rfl, rfl⟩, ?_⟩
    refine ⟨.inr ⟨rfl, rfl⟩, ?_⟩
    refine ⟨.inr ⟨rfl, rfl⟩, ?_⟩
    refine ⟨.inr ⟨rfl, rfl⟩, ?_⟩
    refine ⟨.inl ⟨rfl, fun done a wq hw h => ?_⟩, ?_⟩
    · have e61 := ch_new (i := 10) (t := 61) h (hw 10 (by decide)) rfl rfl; exact ch_pick_f e61 rfl
    refine ⟨.inl ⟨rfl, fun done a wq hw h => ?_⟩, ?_⟩
    · have e75 := ch_new (i := 24) (t := 75) h (hw 24 (by decide)) rfl rfl; exact ch_assign (ch_ev e75)
    exact trivial
  intro w1 hb
  obtain ⟨h1', h2', h3', h4'⟩ := HO.out.below hb
  have HBw := Lib.hid (hb.mono (B' := go) (by omega))
  have HBF := Lib.hid (hb.alloc hb.size (.cells #[iv z, iv 1, .slice none 0 0] 31))
  clear hb h1 h2 h3
  simp only [List.length_append, List.length_cons, List.length_nil] at h1'
  have hb0 : Below w1.heap.size w1 (w1.alloc (.cells #[iv z, iv 1, .slice none 0 0] 31)) := (Below.refl w1.heap.size w1).alloc (Nat.le_refl _) _
  have HRW := Lib.hid (h4'.below hb0)
  have HRR : Hid (Own (w1.alloc (.cells #[iv z, iv 1, .slice none 0 0] 31)) (go + 1) 31 3 A 0 c (opCells ([] : List Stp) ds)) := by
    have := HRW.out.row
    skip
    exact Lib.hid this
  have HB0 := Lib.hid (hb0.mono (B' := go) (by omega))
  have HK1 : Hid ((w1.alloc (.cells #[iv z, iv 1, .slice none 0 0] 31)).cell? ⟨go, 0, none⟩ = some (.slice A 0 c)) := Lib.hid ((hb0.cell (p := ⟨go, 0, none⟩) h3').trans h1')
  have HK2 : Hid ((w1.alloc (.cells #[iv z, iv 1, .slice none 0 0] 31)).frozen? ⟨go, 0, none⟩ = false) := Lib.hid (by
    unfold World.frozen? at h2' ⊢
    rw [hb0.block go h3']; exact h2')
  clear h4' hb0 h2'
  simp only [putAll_some, putAll_none, putAll_nil, List.getElem?_cons_zero, List.getElem?_cons_succ, List.setIfInBounds_toArray, List.set_cons_zero, List.set_cons_succ]
  go_wp2_with (at_builtin; go_must (refine wpList_app _ rfl (.tmp 9) (.tmp 12) 23 rfl elOps (go + 1) A 0 c (opCells ([] : List Stp) ds) rfl HRR.out (some ⟨w1.heap.size, 0, none⟩) 1 1 [iv z, iv 1, .slice none 0 0] rfl (src_blk (blk_top (by simp))) rfl (by simp [Value.oneCell']) (by first | omega | (simp; done) | (simp; omega)) (by first | omega | (simp; done) | (simp; omega)) ?_))
  intro A' c' w2 hown hgr hbel hor
  have hD : DRow w2 (go + 1) (([] : List Stp) ++ [⟨z, 1, []⟩]) (ds ++ [(none, 0)]) A' c' := HRW.out.push (by simpa using hown) hgr (by simpa using hor)
  have kc2 : w2.cell? ⟨go, 0, none⟩ = some (.slice A 0 c) := (hbel.cell (p := ⟨go, 0, none⟩) (Nat.lt_succ_self go)).trans HK1.out
  have kf2 : w2.frozen? ⟨go, 0, none⟩ = false := by
    have := HK2.out
    unfold World.frozen? at this ⊢
    rw [hbel.block go (Nat.lt_succ_self go)]; exact this
  have HB2 := Lib.hid ((HBw.out.trans HB0.out).trans (hbel.mono (B' := go) (by omega)))
  have hs2 : go < w2.heap.size := Nat.lt_of_lt_of_le h3' (Nat.le_trans HB0.out.size hbel.size)
  have HD := Lib.hid hD
  have HOF : Hid (∀ u : Value, Kept w (w2.setCell ⟨go, 0, none⟩ u) go A ds A' (ds ++ [(none, 0)])) := Lib.hid (fun u => Kept.push HBF.out hgr (by simpa using hor) (fun k hk => by simp <;> omega))
  clear hown hgr hbel hor hD HRW HRR HB0 HK1 HK2
  have HE : Hid (OneRet w go A ds (([] : List Stp) ++ [⟨z, 1, []⟩]) (.returned (.tuple #[])) (w2.setCell ⟨go, 0, none⟩ (.slice A' (([] : List Stp) ++ [(⟨z, 1, []⟩ : Stp)]).length c'))) :=
    Lib.hid ⟨A', c', _, rfl, OutAt.store HD.out hs2 kf2 (World.cell?_setCell_same _ _ _ kc2), HB2.out.setCell (Nat.le_refl _) _, HOF.out _⟩
  clear HD
  go_wp2_with fail
  exact bodyPost_end (results_none rfl _ _ _) rfl (by simpa using HE.out)
set_option maxRecDepth 100000 in
set_option maxHeartbeats 4000000 in
theorem refOne_lenZ {w : World} {go : Nat} {l0 : List Stp} {pa : Int} {pd : List UInt8} {g : Nat} {ds : List (Option Addr × Nat)} {c : Nat} {z : Int} {x : UInt8} (h : OutAt w go (l0 ++ [(⟨pa, 0, pd⟩ : Stp)]) ds (some ⟨g, 0, none⟩) c) (ha : ¬ z < 0) (hm : l0.length ≤ 1048576) :
    Calls Try.prog 55 #[iv z, bv x, .pointer (some ⟨go, 0, none⟩)] w (OneRet w go (some ⟨g, 0, none⟩) ds ((l0 ++ [(⟨pa, 0, pd⟩ : Stp)]) ++ [⟨z, 1, []⟩])) := by
  have HO := Lib.hid h
  obtain ⟨h1, h2, h3, h4⟩ := h
  simp only [List.length_append, List.length_cons, List.length_nil] at h1
  have hix : ¬ (l0.length : Int) + 1 ≤ (l0.length : Int) := by omega
  obtain ⟨ds0, d, hds, hdl, kc0, kc1, kc2, kfz, kdo⟩ := drow_cell h4
  obtain ⟨kg1, kg2⟩ := h4.row.block g rfl
  dsimp only at kc0 kc1
  clear hds hdl kdo kfz kc2 h4
  go_enter Try.func55, Try.ntmps55
  go_wp2_with fail
  refine wp_region_chain (by kernel_rfl) (some 51 :: some 52 :: some 53 :: some 54 :: some 55 :: some 56 :: some 57 :: some 58 :: some 59 :: some 60 :: some 61 :: some 62 :: some 63 :: some 64 :: some 65 :: some 66 :: some 67 :: some 68 :: some 69 :: some 70 :: some 71 :: some 72 :: some 73 :: some 74 :: some 75 :: some 50 :: []) (.int .i64 (l0.length : Int) :: .bool true :: .bool true :: .slice (some ⟨g, 0, none⟩) (l0.length + 1) c :: .int .i64 (l0.length : Int) :: .pointer (some ⟨g, l0.length * 3, none⟩) :: .pointer (some ⟨g, l0.length * 3 + 1, none⟩) :: iv 0 :: .bool false :: .bool false :: .bool false :: undef :: undef :: undef :: undef :: undef :: undef :: undef :: undef :: undef :: undef :: undef :: undef :: undef :: .bool false :: .bool false :: []) 84 rfl rfl (by decide +kernel) (by decide +kernel) (by decide +kernel) rfl ?_ ?_
  · refine ⟨.inl ⟨rfl, fun done a wq hw h => ?_⟩, ?_⟩
    · have e5 := ch_old (t := 5) (v := .int .i64 (l0.length : Int)) h rfl rfl; exact ch_move (ch_ev e5)
    refine ⟨.inl ⟨rfl, fun done a wq hw h => ?_⟩, ?_⟩
    · have e51 := ch_new (i := 0) (t := 51) h (hw 0 (by decide)) rfl rfl; exact ch_geq_int (by kernel_rfl) (ch_ev e51) rfl (by simp)
    refine ⟨.inl ⟨rfl, fun done a wq hw h => ?_⟩, ?_⟩
    · have e52 := ch_new (i := 1) (t := 52) h (hw 1 (by decide)) rfl rfl; exact ch_move (ch_ev e52)
    refine ⟨.inl ⟨rfl, fun done a wq hw h => ?_⟩, ?_⟩
    · have e2 := ch_old (t := 2) (v := .pointer (some ⟨go, 0, none⟩)) h rfl rfl; have hc := (h.bel.cell (p := ⟨go, 0, none⟩) h3).trans h1; refine ch_pure ?_; go_simp
    refine ⟨.inl ⟨rfl, fun done a wq hw h => ?_⟩, ?_⟩
    · have e5 := ch_old (t := 5) (v := .int .i64 (l0.length : Int)) h rfl rfl; exact ch_move (ch_ev e5)
    refine ⟨.inl ⟨rfl, fun done a wq hw h => ?_⟩, ?_⟩
    · have e54 := ch_new (i := 3) (t := 54) h (hw 3 (by decide)) rfl rfl; have e55 := ch_new (i := 4) (t := 55) h (hw 4 (by decide)) rfl rfl; refine ch_pure ?_; go_simp
    refine ⟨.inl ⟨rfl, fun done a wq hw h => ?_⟩, ?_⟩
    · have e56 := ch_new (i := 5) (t := 56) h (hw 5 (by decide)) rfl rfl; refine ch_pure ?_; go_simp
    refine ⟨.inl ⟨rfl, fun done a wq hw h => ?_⟩, ?_⟩
    · have e57 := ch_new (i := 6) (t := 57) h (hw 6 (by decide)) rfl rfl; have hc := (h.bel.cell (p := ⟨g, l0.length * 3 + 1, none⟩) kg2).trans kc1; refine ch_pure ?_; go_simp
    refine ⟨.inl ⟨rfl, fun done a wq hw h => ?_⟩, ?_⟩
    · have e58 := ch_new (i := 7) (t := 58) h (hw 7 (by decide)) rfl rfl; exact ch_gtr_int (by kernel_rfl) (ch_ev e58) rfl (by simp)
    refine ⟨.inl ⟨rfl, fun done a wq hw h => ?_⟩, ?_⟩
    · have e53 := ch_new (i := 2) (t := 53) h (hw 2 (by decide)) rfl rfl; have e59 := ch_new (i := 8) (t := 59) h (hw 8 (by decide)) rfl rfl; exact ch_pick_t e53 (ch_ev e59)
    refine ⟨.inl ⟨rfl, fun done a wq hw h => ?_⟩, ?_⟩
    · have e60 := ch_new (i := 9) (t := 60) h (hw 9 (by decide)) rfl rfl; exact ch_move (ch_ev e60)
    refine ⟨.inr ⟨rfl, rfl⟩, ?_⟩
    refine ⟨.inr ⟨rfl, rfl⟩, ?_⟩
    refine ⟨.inr ⟨rfl, rfl⟩, ?_⟩
    refine ⟨.inr ⟨rfl, rfl⟩, ?_⟩
    refine ⟨.inr ⟨rfl, rfl⟩, ?_⟩
    refine ⟨.inr ⟨rfl, rfl⟩, ?_⟩
    refine ⟨.inr ⟨rfl, rfl⟩, ?_⟩
    refine ⟨.inr ⟨rfl, rfl⟩, ?_⟩
    refine ⟨.inr ⟨rfl, rfl⟩, ?_⟩
    refine ⟨.inr ⟨rfl, rfl⟩, ?_⟩
    refine ⟨.inr ⟨rfl, rfl⟩, ?_⟩
    refine ⟨.inr ⟨rfl, rfl⟩, ?_⟩
    refine ⟨.inr ⟨rfl, rfl⟩, ?_⟩
    refine ⟨.inl ⟨rfl, fun done a wq hw h => ?_⟩, ?_⟩
    · have e61 := ch_new (i := 10) (t := 61) h (hw 10 (by decide)) rfl rfl; exact ch_pick_f e61 rfl
    refine ⟨.inl ⟨rfl, fun done a wq hw h => ?_⟩, ?_⟩
    · have e75 := ch_new (i := 24) (t := 75) h (hw 24 (by decide)) rfl rfl; exact ch_assign (ch_ev e75)
    exact trivial
  intro w1 hb
  obtain ⟨h1', h2', h3', h4'⟩ := HO.out.below hb
  have HBw := Lib.hid (hb.mono (B' := go) (by omega))
  have HBF := Lib.hid (hb.alloc hb.size (.cells #[iv z, iv 1, .slice none 0 0] 31))
  clear hb h1 h2 h3 kc0 kc1
  simp only [List.length_append, List.length_cons, List.length_nil] at h1'
  have hb0 : Below w1.heap.size w1 (w1.alloc (.cells #[iv z, iv 1, .slice none 0 0] 31)) := (Below.refl w1.heap.size w1).alloc (Nat.le_refl _) _
  have HRW := Lib.hid (h4'.below hb0)
  have HRR : Hid (Own (w1.alloc (.cells #[iv z, iv 1, .slice none 0 0] 31)) (go + 1) 31 3 (some ⟨g, 0, none⟩) (l0.length + 1) c (opCells (l0 ++ [(⟨pa, 0, pd⟩ : Stp)]) ds)) := by
    have := HRW.out.row
    rw [List.length_append] at this
    exact Lib.hid this
  have HB0 := Lib.hid (hb0.mono (B' := go) (by omega))
  have HK1 : Hid ((w1.alloc (.cells #[iv z, iv 1, .slice none 0 0] 31)).cell? ⟨go, 0, none⟩ = some (.slice (some ⟨g, 0, none⟩) (l0.length + 1) c)) := Lib.hid ((hb0.cell (p := ⟨go, 0, none⟩) h3').trans h1')
  have HK2 : Hid ((w1.alloc (.cells #[iv z, iv 1, .slice none 0 0] 31)).frozen? ⟨go, 0, none⟩ = false) := Lib.hid (by
    unfold World.frozen? at h2' ⊢
    rw [hb0.block go h3']; exact h2')
  clear h4' hb0 h2'
  simp only [putAll_some, putAll_none, putAll_nil, List.getElem?_cons_zero, List.getElem?_cons_succ, List.setIfInBounds_toArray, List.set_cons_zero, List.set_cons_succ]
  go_wp2_with (at_builtin; go_must (refine wpList_app _ rfl (.tmp 9) (.tmp 12) 23 rfl elOps (go + 1) (some ⟨g, 0, none⟩) (l0.length + 1) c (opCells (l0 ++ [(⟨pa, 0, pd⟩ : Stp)]) ds) rfl HRR.out (some ⟨w1.heap.size, 0, none⟩) 1 1 [iv z, iv 1, .slice none 0 0] rfl (src_blk (blk_top (by simp))) rfl (by simp [Value.oneCell']) (by first | omega | (simp; done) | (simp; omega)) (by first | omega | (simp; done) | (simp; omega)) ?_))
  intro A' c' w2 hown hgr hbel hor
  have hD : DRow w2 (go + 1) ((l0 ++ [(⟨pa, 0, pd⟩ : Stp)]) ++ [⟨z, 1, []⟩]) (ds ++ [(none, 0)]) A' c' := HRW.out.push (by simpa using hown) hgr (by simpa using hor)
  have kc2 : w2.cell? ⟨go, 0, none⟩ = some (.slice (some ⟨g, 0, none⟩) (l0.length + 1) c) := (hbel.cell (p := ⟨go, 0, none⟩) (Nat.lt_succ_self go)).trans HK1.out
  have kf2 : w2.frozen? ⟨go, 0, none⟩ = false := by
    have := HK2.out
    unfold World.frozen? at this ⊢
    rw [hbel.block go (Nat.lt_succ_self go)]; exact this
  have HB2 := Lib.hid ((HBw.out.trans HB0.out).trans (hbel.mono (B' := go) (by omega)))
  have hs2 : go < w2.heap.size := Nat.lt_of_lt_of_le h3' (Nat.le_trans HB0.out.size hbel.size)
  have HD := Lib.hid hD
  have HOF : Hid (∀ u : Value, Kept w (w2.setCell ⟨go, 0, none⟩ u) go (some ⟨g, 0, none⟩) ds A' (ds ++ [(none, 0)])) := Lib.hid (fun u => Kept.push HBF.out hgr (by simpa using hor) (fun k hk => by simp <;> omega))
  clear hown hgr hbel hor hD HRW HRR HB0 HK1 HK2
  have HE : Hid (OneRet w go (some ⟨g, 0, none⟩) ds ((l0 ++ [(⟨pa, 0, pd⟩ : Stp)]) ++ [⟨z, 1, []⟩]) (.returned (.tuple #[])) (w2.setCell ⟨go, 0, none⟩ (.slice A' ((l0 ++ [(⟨pa, 0, pd⟩ : Stp)]) ++ [(⟨z, 1, []⟩ : Stp)]).length c'))) :=
    Lib.hid ⟨A', c', _, rfl, OutAt.store HD.out hs2 kf2 (World.cell?_setCell_same _ _ _ kc2), HB2.out.setCell (Nat.le_refl _) _, HOF.out _⟩
  clear HD
  go_wp2_with fail
  exact bodyPost_end (results_none rfl _ _ _) rfl (by simpa using HE.out)
set_option maxRecDepth 100000 in
set_option maxHeartbeats 4000000 in
theorem refOne_lenS {w : World} {go : Nat} {l0 : List Stp} {pa pl : Int} {pd : List UInt8} {g : Nat} {ds : List (Option Addr × Nat)} {c : Nat} {z : Int} {x : UInt8} (h : OutAt w go (l0 ++ [(⟨pa, pl, pd⟩ : Stp)]) ds (some ⟨g, 0, none⟩) c) (ha : ¬ z < 0) (hm : l0.length ≤ 1048576) (p1 : 0 ≤ pa) (p2 : 0 < pl) (p3 : pa + pl ≤ 1048576) (p4 : pa + pl ≠ z) :
    Calls Try.prog 55 #[iv z, bv x, .pointer (some ⟨go, 0, none⟩)] w (OneRet w go (some ⟨g, 0, none⟩) ds ((l0 ++ [(⟨pa, pl, pd⟩ : Stp)]) ++ [⟨z, 1, []⟩])) := by
  have HO := Lib.hid h
  obtain ⟨h1, h2, h3, h4⟩ := h
  simp only [List.length_append, List.length_cons, List.length_nil] at h1
  have hix : ¬ (l0.length : Int) + 1 ≤ (l0.length : Int) := by omega
  obtain ⟨ds0, d, hds, hdl, kc0, kc1, kc2, kfz, kdo⟩ := drow_cell h4
  obtain ⟨kg1, kg2⟩ := h4.row.block g rfl
  dsimp only at kc0 kc1
  clear hds hdl kdo kfz kc2 h4
  go_enter Try.func55, Try.ntmps55
  go_wp2_with fail
  refine wp_region_chain (by kernel_rfl) (some 51 :: some 52 :: some 53 :: some 54 :: some 55 :: some 56 :: some 57 :: some 58 :: some 59 :: some 60 :: some 61 :: some 62 :: some 63 :: some 64 :: some 65 :: some 66 :: some 67 :: some 68 :: some 69 :: some 70 :: some 71 :: some 72 :: some 73 :: some 74 :: some 75 :: some 50 :: []) (.int .i64 (l0.length : Int) :: .bool true :: .bool true :: .slice (some ⟨g, 0, none⟩) (l0.length + 1) c :: .int .i64 (l0.length : Int) :: .pointer (some ⟨g, l0.length * 3, none⟩) :: .pointer (some ⟨g, l0.length * 3 + 1, none⟩) :: iv pl :: .bool true :: .bool true :: .bool true :: .slice (some ⟨g, 0, none⟩) (l0.length + 1) c :: .int .i64 (l0.length : Int) :: .pointer (some ⟨g, l0.length * 3, none⟩) :: .pointer (some ⟨g, l0.length * 3, none⟩) :: iv pa :: .slice (some ⟨g, 0, none⟩) (l0.length + 1) c :: .int .i64 (l0.length : Int) :: .pointer (some ⟨g, l0.length * 3, none⟩) :: .pointer (some ⟨g, l0.length * 3 + 1, none⟩) :: iv pl :: iv (pa + pl) :: iv z :: .bool false :: .bool false :: .bool false :: []) 84 rfl rfl (by decide +kernel) (by decide +kernel) (by decide +kernel) rfl ?_ ?_
  · refine ⟨.inl ⟨rfl, fun done a wq hw h => ?_⟩, ?_⟩
    · have e5 := ch_old (t := 5) (v := .int .i64 (l0.length : Int)) h rfl rfl; exact ch_move (ch_ev e5)
    refine ⟨.inl ⟨rfl, fun done a wq hw h => ?_⟩, ?_⟩
    · have e51 := ch_new (i := 0) (t := 51) h (hw 0 (by decide)) rfl rfl; exact ch_geq_int (by kernel_rfl) (ch_ev e51) rfl (by simp)
    refine ⟨.inl ⟨rfl, fun done a wq hw h => ?_⟩, ?_⟩
    · have e52 := ch_new (i := 1) (t := 52) h (hw 1 (by decide)) rfl rfl; exact ch_move (ch_ev e52)
    refine ⟨.inl ⟨rfl, fun done a wq hw h => ?_⟩, ?_⟩
    · have e2 := ch_old (t := 2) (v := .pointer (some ⟨go, 0, none⟩)) h rfl rfl; have hc := (h.bel.cell (p := ⟨go, 0, none⟩) h3).trans h1; refine ch_pure ?_; go_simp
    refine ⟨.inl ⟨rfl, fun done a wq hw h => ?_⟩, ?_⟩
    · have e5 := ch_old (t := 5) (v := .int .i64 (l0.length : Int)) h rfl rfl; exact ch_move (ch_ev e5)
    refine ⟨.inl ⟨rfl, fun done a wq hw h => ?_⟩, ?_⟩
    · have e54 := ch_new (i := 3) (t := 54) h (hw 3 (by decide)) rfl rfl; have e55 := ch_new (i := 4) (t := 55) h (hw 4 (by decide)) rfl rfl; refine ch_pure ?_; go_simp
    refine ⟨.inl ⟨rfl, fun done a wq hw h => ?_⟩, ?_⟩
    · have e56 := ch_new (i := 5) (t := 56) h (hw 5 (by decide)) rfl rfl; refine ch_pure ?_; go_simp
    refine ⟨.inl ⟨rfl, fun done a wq hw h => ?_⟩, ?_⟩
    · have e57 := ch_new (i := 6) (t := 57) h (hw 6 (by decide)) rfl rfl; have hc := (h.bel.cell (p := ⟨g, l0.length * 3 + 1, none⟩) kg2).trans kc1; refine ch_pure ?_; go_simp
    refine ⟨.inl ⟨rfl, fun done a wq hw h => ?_⟩, ?_⟩
    · have e58 := ch_new (i := 7) (t := 58) h (hw 7 (by decide)) rfl rfl; exact ch_gtr_int (by kernel_rfl) (ch_ev e58) rfl (by simp; omega)
    refine ⟨.inl ⟨rfl, fun done a wq hw h => ?_⟩, ?_⟩
    · have e53 := ch_new (i := 2) (t := 53) h (hw 2 (by decide)) rfl rfl; have e59 := ch_new (i := 8) (t := 59) h (hw 8 (by decide)) rfl rfl; exact ch_pick_t e53 (ch_ev e59)
    refine ⟨.inl ⟨rfl, fun done a wq hw h => ?_⟩, ?_⟩
    · have e60 := ch_new (i := 9) (t := 60) h (hw 9 (by decide)) rfl rfl; exact ch_move (ch_ev e60)
    refine ⟨.inl ⟨rfl, fun done a wq hw h => ?_⟩, ?_⟩
    · have e2 := ch_old (t := 2) (v := .pointer (some ⟨go, 0, none⟩)) h rfl rfl; have hc := (h.bel.cell (p := ⟨go, 0, none⟩) h3).trans h1; refine ch_pure ?_; go_simp
    refine ⟨.inl ⟨rfl, fun done a wq hw h => ?_⟩, ?_⟩
    · have e5 := ch_old (t := 5) (v := .int .i64 (l0.length : Int)) h rfl rfl; exact ch_move (ch_ev e5)
    refine ⟨.inl ⟨rfl, fun done a wq hw h => ?_⟩, ?_⟩
    · have e62 := ch_new (i := 11) (t := 62) h (hw 11 (by decide)) rfl rfl; have e63 := ch_new (i := 12) (t := 63) h (hw 12 (by decide)) rfl rfl; refine ch_pure ?_; go_simp
    refine ⟨.inl ⟨rfl, fun done a wq hw h => ?_⟩, ?_⟩
    · have e64 := ch_new (i := 13) (t := 64) h (hw 13 (by decide)) rfl rfl; refine ch_pure ?_; go_simp
    refine ⟨.inl ⟨rfl, fun done a wq hw h => ?_⟩, ?_⟩
    · have e65 := ch_new (i := 14) (t := 65) h (hw 14 (by decide)) rfl rfl; have hc := (h.bel.cell (p := ⟨g, l0.length * 3, none⟩) kg2).trans kc0; refine ch_pure ?_; go_simp
    refine ⟨.inl ⟨rfl, fun done a wq hw h => ?_⟩, ?_⟩
    · have e2 := ch_old (t := 2) (v := .pointer (some ⟨go, 0, none⟩)) h rfl rfl; have hc := (h.bel.cell (p := ⟨go, 0, none⟩) h3).trans h1; refine ch_pure ?_; go_simp
    refine ⟨.inl ⟨rfl, fun done a wq hw h => ?_⟩, ?_⟩
    · have e5 := ch_old (t := 5) (v := .int .i64 (l0.length : Int)) h rfl rfl; exact ch_move (ch_ev e5)
    refine ⟨.inl ⟨rfl, fun done a wq hw h => ?_⟩, ?_⟩
    · have e67 := ch_new (i := 16) (t := 67) h (hw 16 (by decide)) rfl rfl; have e68 := ch_new (i := 17) (t := 68) h (hw 17 (by decide)) rfl rfl; refine ch_pure ?_; go_simp
    refine ⟨.inl ⟨rfl, fun done a wq hw h => ?_⟩, ?_⟩
    · have e69 := ch_new (i := 18) (t := 69) h (hw 18 (by decide)) rfl rfl; refine ch_pure ?_; go_simp
    refine ⟨.inl ⟨rfl, fun done a wq hw h => ?_⟩, ?_⟩
    · have e70 := ch_new (i := 19) (t := 70) h (hw 19 (by decide)) rfl rfl; have hc := (h.bel.cell (p := ⟨g, l0.length * 3 + 1, none⟩) kg2).trans kc1; refine ch_pure ?_; go_simp
    refine ⟨.inl ⟨rfl, fun done a wq hw h => ?_⟩, ?_⟩
    · have e66 := ch_new (i := 15) (t := 66) h (hw 15 (by decide)) rfl rfl; have e71 := ch_new (i := 20) (t := 71) h (hw 20 (by decide)) rfl rfl; refine ch_pure ?_; go_simp; exact IntWalk.i64_in _ (by omega)
    refine ⟨.inl ⟨rfl, fun done a wq hw h => ?_⟩, ?_⟩
    · have e0 := ch_old (t := 0) (v := iv z) h rfl rfl; exact ch_move (ch_ev e0)
    refine ⟨.inl ⟨rfl, fun done a wq hw h => ?_⟩, ?_⟩
    · have e72 := ch_new (i := 21) (t := 72) h (hw 21 (by decide)) rfl rfl; have e73 := ch_new (i := 22) (t := 73) h (hw 22 (by decide)) rfl rfl; exact ch_eql_int (by kernel_rfl) (ch_ev e72) (ch_ev e73) (by simp; omega)
    refine ⟨.inl ⟨rfl, fun done a wq hw h => ?_⟩, ?_⟩
    · have e61 := ch_new (i := 10) (t := 61) h (hw 10 (by decide)) rfl rfl; have e74 := ch_new (i := 23) (t := 74) h (hw 23 (by decide)) rfl rfl; exact ch_pick_t e61 (ch_ev e74)
    refine ⟨.inl ⟨rfl, fun done a wq hw h => ?_⟩, ?_⟩
    · have e75 := ch_new (i := 24) (t := 75) h (hw 24 (by decide)) rfl rfl; exact ch_assign (ch_ev e75)
    exact trivial
  intro w1 hb
  obtain ⟨h1', h2', h3', h4'⟩ := HO.out.below hb
  have HBw := Lib.hid (hb.mono (B' := go) (by omega))
  have HBF := Lib.hid (hb.alloc hb.size (.cells #[iv z, iv 1, .slice none 0 0] 31))
  clear hb h1 h2 h3 kc0 kc1
  simp only [List.length_append, List.length_cons, List.length_nil] at h1'
  have hb0 : Below w1.heap.size w1 (w1.alloc (.cells #[iv z, iv 1, .slice none 0 0] 31)) := (Below.refl w1.heap.size w1).alloc (Nat.le_refl _) _
  have HRW := Lib.hid (h4'.below hb0)
  have HRR : Hid (Own (w1.alloc (.cells #[iv z, iv 1, .slice none 0 0] 31)) (go + 1) 31 3 (some ⟨g, 0, none⟩) (l0.length + 1) c (opCells (l0 ++ [(⟨pa, pl, pd⟩ : Stp)]) ds)) := by
    have := HRW.out.row
    rw [List.length_append] at this
    exact Lib.hid this
  have HB0 := Lib.hid (hb0.mono (B' := go) (by omega))
  have HK1 : Hid ((w1.alloc (.cells #[iv z, iv 1, .slice none 0 0] 31)).cell? ⟨go, 0, none⟩ = some (.slice (some ⟨g, 0, none⟩) (l0.length + 1) c)) := Lib.hid ((hb0.cell (p := ⟨go, 0, none⟩) h3').trans h1')
  have HK2 : Hid ((w1.alloc (.cells #[iv z, iv 1, .slice none 0 0] 31)).frozen? ⟨go, 0, none⟩ = false) := Lib.hid (by
    unfold World.frozen? at h2' ⊢
    rw [hb0.block go h3']; exact h2')
  clear h4' hb0 h2'
  simp only [putAll_some, putAll_none, putAll_nil, List.getElem?_cons_zero, List.getElem?_cons_succ, List.setIfInBounds_toArray, List.set_cons_zero, List.set_cons_succ]
  go_wp2_with (at_builtin; go_must (refine wpList_app _ rfl (.tmp 9) (.tmp 12) 23 rfl elOps (go + 1) (some ⟨g, 0, none⟩) (l0.length + 1) c (opCells (l0 ++ [(⟨pa, pl, pd⟩ : Stp)]) ds) rfl HRR.out (some ⟨w1.heap.size, 0, none⟩) 1 1 [iv z, iv 1, .slice none 0 0] rfl (src_blk (blk_top (by simp))) rfl (by simp [Value.oneCell']) (by first | omega | (simp; done) | (simp; omega)) (by first | omega | (simp; done) | (simp; omega)) ?_))
  intro A' c' w2 hown hgr hbel hor
  have hD : DRow w2 (go + 1) ((l0 ++ [(⟨pa, pl, pd⟩ : Stp)]) ++ [⟨z, 1, []⟩]) (ds ++ [(none, 0)]) A' c' := HRW.out.push (by simpa using hown) hgr (by simpa using hor)
  have kc2 : w2.cell? ⟨go, 0, none⟩ = some (.slice (some ⟨g, 0, none⟩) (l0.length + 1) c) := (hbel.cell (p := ⟨go, 0, none⟩) (Nat.lt_succ_self go)).trans HK1.out
  have kf2 : w2.frozen? ⟨go, 0, none⟩ = false := by
    have := HK2.out
    unfold World.frozen? at this ⊢
    rw [hbel.block go (Nat.lt_succ_self go)]; exact this
  have HB2 := Lib.hid ((HBw.out.trans HB0.out).trans (hbel.mono (B' := go) (by omega)))
  have hs2 : go < w2.heap.size := Nat.lt_of_lt_of_le h3' (Nat.le_trans HB0.out.size hbel.size)
  have HD := Lib.hid hD
  have HOF : Hid (∀ u : Value, Kept w (w2.setCell ⟨go, 0, none⟩ u) go (some ⟨g, 0, none⟩) ds A' (ds ++ [(none, 0)])) := Lib.hid (fun u => Kept.push HBF.out hgr (by simpa using hor) (fun k hk => by simp <;> omega))
  clear hown hgr hbel hor hD HRW HRR HB0 HK1 HK2
  have HE : Hid (OneRet w go (some ⟨g, 0, none⟩) ds ((l0 ++ [(⟨pa, pl, pd⟩ : Stp)]) ++ [⟨z, 1, []⟩]) (.returned (.tuple #[])) (w2.setCell ⟨go, 0, none⟩ (.slice A' ((l0 ++ [(⟨pa, pl, pd⟩ : Stp)]) ++ [(⟨z, 1, []⟩ : Stp)]).length c'))) :=
    Lib.hid ⟨A', c', _, rfl, OutAt.store HD.out hs2 kf2 (World.cell?_setCell_same _ _ _ kc2), HB2.out.setCell (Nat.le_refl _) _, HOF.out _⟩
  clear HD
  go_wp2_with fail
  exact bodyPost_end (results_none rfl _ _ _) rfl (by simpa using HE.out)
/-- The last step longer. -/
theorem DRow.longer {w : World} {base : Nat} {l : List Stp} {pa pl v : Int} {pd : List UInt8} {ds : List (Option Addr × Nat)} {g c : Nat} (h : DRow w base (l ++ [⟨pa, pl, pd⟩]) ds (some ⟨g, 0, none⟩) c) :
    DRow (w.setCell ⟨g, l.length * 3 + 1, none⟩ (iv v)) base (l ++ [⟨pa, v, pd⟩]) ds (some ⟨g, 0, none⟩) c := by
  obtain ⟨ds0, d, rfl, hlen, -, -, -, -, -⟩ := drow_cell h
  have hlen' := h.len
  refine ⟨by simp [hlen], ?_, ?_, h.off, h.apart⟩
  · have hr := h.row.stored (l.length * 3 + 1) (iv v)
    have e : (opCells (l ++ [⟨pa, pl, pd⟩]) (ds0 ++ [d])).set (l.length * 3 + 1) (iv v) = opCells (l ++ [⟨pa, v, pd⟩]) (ds0 ++ [d]) := by
      rw [opCells_snoc _ _ _ _ hlen, opCells_snoc _ _ _ _ hlen, List.set_append_right _ _ (by rw [opCells_len _ _ hlen]; omega), opCells_len _ _ hlen, show l.length * 3 + 1 - l.length * 3 = 1 by omega]
      simp [opCell]
    rw [e] at hr
    simpa using hr
  · intro i o e hi he
    have key : ∃ o', (l ++ [(⟨pa, pl, pd⟩ : Stp)])[i]? = some o' ∧ o'.data = o.data := by
      rcases snoc_at hi with hi | ⟨rfl, rfl⟩
      · exact ⟨o, by rw [List.getElem?_append_left (List.getElem?_eq_some_iff.1 hi).1]; exact hi, rfl⟩
      · exact ⟨⟨pa, pl, pd⟩, by simp, rfl⟩
    obtain ⟨o', h1, h2⟩ := key
    have hd := h.data i o' e h1 he
    rw [h2] at hd
    refine hd.setCell_other ?_ _
    intro e2
    exact h.off i e he g e2 rfl
set_option maxRecDepth 100000 in
set_option maxHeartbeats 4000000 in
theorem refOne_join {w : World} {go : Nat} {l0 : List Stp} {pa pl : Int} {pd : List UInt8} {g : Nat} {ds : List (Option Addr × Nat)} {c : Nat} {x : UInt8} (h : OutAt w go (l0 ++ [(⟨pa, pl, pd⟩ : Stp)]) ds (some ⟨g, 0, none⟩) c) (hm : l0.length ≤ 1048576) (p1 : 0 ≤ pa) (p2 : 0 < pl) (p3 : pa + pl ≤ 1048576) :
    Calls Try.prog 55 #[iv (pa + pl), bv x, .pointer (some ⟨go, 0, none⟩)] w (OneRet w go (some ⟨g, 0, none⟩) ds (l0 ++ [(⟨pa, pl + 1, pd⟩ : Stp)])) := by
  have HO := Lib.hid h
  obtain ⟨h1, h2, h3, h4⟩ := h
  simp only [List.length_append, List.length_cons, List.length_nil] at h1
  have hix : ¬ (l0.length : Int) + 1 ≤ (l0.length : Int) := by omega
  have hz : ¬ pa + pl < 0 := by omega
  obtain ⟨ds0, d, hds, hdl, kc0, kc1, kc2, kfz, kdo⟩ := drow_cell h4
  obtain ⟨kg1, kg2⟩ := h4.row.block g rfl
  dsimp only at kc0 kc1
  have KC := Lib.hid kc1
  clear hds hdl kdo kfz kc2 h4
  go_enter Try.func55, Try.ntmps55
  go_wp2_with fail
  refine wp_region_chain (by kernel_rfl) (some 51 :: some 52 :: some 53 :: some 54 :: some 55 :: some 56 :: some 57 :: some 58 :: some 59 :: some 60 :: some 61 :: some 62 :: some 63 :: some 64 :: some 65 :: some 66 :: some 67 :: some 68 :: some 69 :: some 70 :: some 71 :: some 72 :: some 73 :: some 74 :: some 75 :: some 50 :: []) (.int .i64 (l0.length : Int) :: .bool true :: .bool true :: .slice (some ⟨g, 0, none⟩) (l0.length + 1) c :: .int .i64 (l0.length : Int) :: .pointer (some ⟨g, l0.length * 3, none⟩) :: .pointer (some ⟨g, l0.length * 3 + 1, none⟩) :: iv pl :: .bool true :: .bool true :: .bool true :: .slice (some ⟨g, 0, none⟩) (l0.length + 1) c :: .int .i64 (l0.length : Int) :: .pointer (some ⟨g, l0.length * 3, none⟩) :: .pointer (some ⟨g, l0.length * 3, none⟩) :: iv pa :: .slice (some ⟨g, 0, none⟩) (l0.length + 1) c :: .int .i64 (l0.length : Int) :: .pointer (some ⟨g, l0.length * 3, none⟩) :: .pointer (some ⟨g, l0.length * 3 + 1, none⟩) :: iv pl :: iv (pa + pl) :: iv (pa + pl) :: .bool true :: .bool true :: .bool true :: []) 84 rfl rfl (by decide +kernel) (by decide +kernel) (by decide +kernel) rfl ?_ ?_
  · refine ⟨.inl ⟨rfl, fun done a wq hw h => ?_⟩, ?_⟩
    · have e5 := ch_old (t := 5) (v := .int .i64 (l0.length : Int)) h rfl rfl; exact ch_move (ch_ev e5)
    refine ⟨.inl ⟨rfl, fun done a wq hw h => ?_⟩, ?_⟩
    · have e51 := ch_new (i := 0) (t := 51) h (hw 0 (by decide)) rfl rfl; exact ch_geq_int (by kernel_rfl) (ch_ev e51) rfl (by simp)
    refine ⟨.inl ⟨rfl, fun done a wq hw h => ?_⟩, ?_⟩
    · have e52 := ch_new (i := 1) (t := 52) h (hw 1 (by decide)) rfl rfl; exact ch_move (ch_ev e52)
    refine ⟨.inl ⟨rfl, fun done a wq hw h => ?_⟩, ?_⟩
    · have e2 := ch_old (t := 2) (v := .pointer (some ⟨go, 0, none⟩)) h rfl rfl; have hc := (h.bel.cell (p := ⟨go, 0, none⟩) h3).trans h1; refine ch_pure ?_; go_simp
    refine ⟨.inl ⟨rfl, fun done a wq hw h => ?_⟩, ?_⟩
    · have e5 := ch_old (t := 5) (v := .int .i64 (l0.length : Int)) h rfl rfl; exact ch_move (ch_ev e5)
    refine ⟨.inl ⟨rfl, fun done a wq hw h => ?_⟩, ?_⟩
    · have e54 := ch_new (i := 3) (t := 54) h (hw 3 (by decide)) rfl rfl; have e55 := ch_new (i := 4) (t := 55) h (hw 4 (by decide)) rfl rfl; refine ch_pure ?_; go_simp
    refine ⟨.inl ⟨rfl, fun done a wq hw h => ?_⟩, ?_⟩
    · have e56 := ch_new (i := 5) (t := 56) h (hw 5 (by decide)) rfl rfl; refine ch_pure ?_; go_simp
    refine ⟨.inl ⟨rfl, fun done a wq hw h => ?_⟩, ?_⟩
    · have e57 := ch_new (i := 6) (t := 57) h (hw 6 (by decide)) rfl rfl; have hc := (h.bel.cell (p := ⟨g, l0.length * 3 + 1, none⟩) kg2).trans kc1; refine ch_pure ?_; go_simp
    refine ⟨.inl ⟨rfl, fun done a wq hw h => ?_⟩, ?_⟩
    · have e58 := ch_new (i := 7) (t := 58) h (hw 7 (by decide)) rfl rfl; exact ch_gtr_int (by kernel_rfl) (ch_ev e58) rfl (by simp; omega)
    refine ⟨.inl ⟨rfl, fun done a wq hw h => ?_⟩, ?_⟩
    · have e53 := ch_new (i := 2) (t := 53) h (hw 2 (by decide)) rfl rfl; have e59 := ch_new (i := 8) (t := 59) h (hw 8 (by decide)) rfl rfl; exact ch_pick_t e53 (ch_ev e59)
    refine ⟨.inl ⟨rfl, fun done a wq hw h => ?_⟩, ?_⟩
    · have e60 := ch_new (i := 9) (t := 60) h (hw 9 (by decide)) rfl rfl; exact ch_move (ch_ev e60)
    refine ⟨.inl ⟨rfl, fun done a wq hw h => ?_⟩, ?_⟩
    · have e2 := ch_old (t := 2) (v := .pointer (some ⟨go, 0, none⟩)) h rfl rfl; have hc := (h.bel.cell (p := ⟨go, 0, none⟩) h3).trans h1; refine ch_pure ?_; go_simp
    refine ⟨.inl ⟨rfl, fun done a wq hw h => ?_⟩, ?_⟩
    · have e5 := ch_old (t := 5) (v := .int .i64 (l0.length : Int)) h rfl rfl; exact ch_move (ch_ev e5)
    refine ⟨.inl ⟨rfl, fun done a wq hw h => ?_⟩, ?_⟩
    · have e62 := ch_new (i := 11) (t := 62) h (hw 11 (by decide)) rfl rfl; have e63 := ch_new (i := 12) (t := 63) h (hw 12 (by decide)) rfl rfl; refine ch_pure ?_; go_simp
    refine ⟨.inl ⟨rfl, fun done a wq hw h => ?_⟩, ?_⟩
    · have e64 := ch_new (i := 13) (t := 64) h (hw 13 (by decide)) rfl rfl; refine ch_pure ?_; go_simp
    refine ⟨.inl ⟨rfl, fun done a wq hw h => ?_⟩, ?_⟩
    · have e65 := ch_new (i := 14) (t := 65) h (hw 14 (by decide)) rfl rfl; have hc := (h.bel.cell (p := ⟨g, l0.length * 3, none⟩) kg2).trans kc0; refine ch_pure ?_; go_simp
    refine ⟨.inl ⟨rfl, fun done a wq hw h => ?_⟩, ?_⟩
    · have e2 := ch_old (t := 2) (v := .pointer (some ⟨go, 0, none⟩)) h rfl rfl; have hc := (h.bel.cell (p := ⟨go, 0, none⟩) h3).trans h1; refine ch_pure ?_; go_simp
    refine ⟨.inl ⟨rfl, fun done a wq hw h => ?_⟩, ?_⟩
    · have e5 := ch_old (t := 5) (v := .int .i64 (l0.length : Int)) h rfl rfl; exact ch_move (ch_ev e5)
    refine ⟨.inl ⟨rfl, fun done a wq hw h => ?_⟩, ?_⟩
    · have e67 := ch_new (i := 16) (t := 67) h (hw 16 (by decide)) rfl rfl; have e68 := ch_new (i := 17) (t := 68) h (hw 17 (by decide)) rfl rfl; refine ch_pure ?_; go_simp
    refine ⟨.inl ⟨rfl, fun done a wq hw h => ?_⟩, ?_⟩
    · have e69 := ch_new (i := 18) (t := 69) h (hw 18 (by decide)) rfl rfl; refine ch_pure ?_; go_simp
    refine ⟨.inl ⟨rfl, fun done a wq hw h => ?_⟩, ?_⟩
    · have e70 := ch_new (i := 19) (t := 70) h (hw 19 (by decide)) rfl rfl; have hc := (h.bel.cell (p := ⟨g, l0.length * 3 + 1, none⟩) kg2).trans kc1; refine ch_pure ?_; go_simp
    refine ⟨.inl ⟨rfl, fun done a wq hw h => ?_⟩, ?_⟩
    · have e66 := ch_new (i := 15) (t := 66) h (hw 15 (by decide)) rfl rfl; have e71 := ch_new (i := 20) (t := 71) h (hw 20 (by decide)) rfl rfl; refine ch_pure ?_; go_simp; exact IntWalk.i64_in _ (by omega)
    refine ⟨.inl ⟨rfl, fun done a wq hw h => ?_⟩, ?_⟩
    · have e0 := ch_old (t := 0) (v := iv (pa + pl)) h rfl rfl; exact ch_move (ch_ev e0)
    refine ⟨.inl ⟨rfl, fun done a wq hw h => ?_⟩, ?_⟩
    · have e72 := ch_new (i := 21) (t := 72) h (hw 21 (by decide)) rfl rfl; have e73 := ch_new (i := 22) (t := 73) h (hw 22 (by decide)) rfl rfl; exact ch_eql_int (by kernel_rfl) (ch_ev e72) (ch_ev e73) (by simp)
    refine ⟨.inl ⟨rfl, fun done a wq hw h => ?_⟩, ?_⟩
    · have e61 := ch_new (i := 10) (t := 61) h (hw 10 (by decide)) rfl rfl; have e74 := ch_new (i := 23) (t := 74) h (hw 23 (by decide)) rfl rfl; exact ch_pick_t e61 (ch_ev e74)
    refine ⟨.inl ⟨rfl, fun done a wq hw h => ?_⟩, ?_⟩
    · have e75 := ch_new (i := 24) (t := 75) h (hw 24 (by decide)) rfl rfl; exact ch_assign (ch_ev e75)
    exact trivial
  intro w1 hb
  obtain ⟨h1', h2', h3', h4'⟩ := HO.out.below hb
  have kc1' := (hb.cell (p := ⟨g, l0.length * 3 + 1, none⟩) kg2).trans KC.out
  have kf1' : w1.frozen? ⟨g, l0.length * 3 + 1, none⟩ = false := h4'.row.frozenAt _
  have HBw := Lib.hid (hb.mono (B' := go) (by omega))
  have HBF := Lib.hid hb
  have HD : Hid (DRow (w1.setCell ⟨g, l0.length * 3 + 1, none⟩ (iv (pl + 1))) (go + 1) (l0 ++ [⟨pa, pl + 1, pd⟩]) ds (some ⟨g, 0, none⟩) c) := Lib.hid h4'.longer
  clear hb h1 h2 h3 kc0 kc1 h4'
  simp only [List.length_append, List.length_cons, List.length_nil] at h1'
  have w3 : IntKind.i64.wrap (pl + 1) = pl + 1 := IntWalk.i64_in _ (by omega)
  have hne : (⟨g, l0.length * 3 + 1, none⟩ : Addr) ≠ ⟨go, 0, none⟩ := by
    intro e
    injection e with e1 e2
    omega
  have HE : Hid (OneRet w go (some ⟨g, 0, none⟩) ds (l0 ++ [(⟨pa, pl + 1, pd⟩ : Stp)]) (.returned (.tuple #[])) (w1.setCell ⟨g, l0.length * 3 + 1, none⟩ (iv (pl + 1)))) := by
    refine Lib.hid ⟨some ⟨g, 0, none⟩, c, ds, rfl, ⟨?_, ?_, ?_, HD.out⟩, HBw.out.setCell (by show go ≤ g; omega) _, fun k hk h => ⟨(Below.heap_setCell w1 ⟨g, l0.length * 3 + 1, none⟩ _ k (fun (e : k = g) => h.2.1 (congrArg some e.symm))).trans (HBF.out.block k hk), h⟩⟩
    · rw [World.cell?_setCell_other _ _ _ _ hne, h1']; simp
    · simpa using h2'
    · simpa using h3'
  clear HD hne
  simp only [putAll_some, putAll_none, putAll_nil, List.getElem?_cons_zero, List.getElem?_cons_succ, List.setIfInBounds_toArray, List.set_cons_zero, List.set_cons_succ]
  go_wp2_with fail
  exact bodyPost_end (results_none rfl _ _ _) rfl (by simpa using HE.out)
def oneJ (w : World) (go : Nat) (l0 : List Stp) (pa : Int) (pd : List UInt8) (d0 : Option Addr × Nat) (gA : Nat) (ds0 : List (Option Addr × Nat)) (x : UInt8) : Nat → (Nat → Value) → World → Prop
  | 0, _, w' => w' = w.drew
  | 1, cv, w' => w' = w.drew.alloc (.cells #[bv x] 5) ∧ cv 8 = .slice (some ⟨w.heap.size, 0, none⟩) 1 1
  | 2, cv, w' => ∃ B' c', cv 9 = .slice B' (pd.length + 1) c' ∧ Own w' (go + 1) 5 1 B' (pd.length + 1) c' (pd.map bv ++ [bv x]) ∧ (w.drew.alloc (.cells #[bv x] 5)).grownBy w' (d0.1.map (·.block)) ∧ Below (go + 1) (w.drew.alloc (.cells #[bv x] 5)) w' ∧
      (B'.map (·.block) = d0.1.map (·.block) ∨ B'.map (·.block) = some (w.drew.alloc (.cells #[bv x] 5)).heap.size)
  | _, _, w' => OneRet w go (some ⟨gA, 0, none⟩) (ds0 ++ [d0]) (l0 ++ [⟨pa, 0, pd ++ [x]⟩]) (.returned (.tuple #[])) w'
theorem oneJ_go {w : World} {go : Nat} {l0 : List Stp} {pa : Int} {pd : List UInt8} {d0 : Option Addr × Nat} {gA : Nat} {ds0 : List (Option Addr × Nat)} {x : UInt8} {k : Nat} {cv : Nat → Value} {w' : World} (hk : k ≤ 2) (h : oneJ w go l0 pa pd d0 gA ds0 x k cv w') (hg : go < w.heap.size) : w'.heap[go]? = w.heap[go]? := by
  have hb : Below w.heap.size w (w.drew.alloc (.cells #[bv x] 5)) := ((Below.refl w.heap.size w).drew).alloc (Nat.le_refl _) _
  match k, hk, h with
  | 0, _, h => obtain rfl : w' = w.drew := h; rfl
  | 1, _, ⟨h, _⟩ => rw [h]; exact hb.block go hg
  | 2, _, ⟨_, _, _, _, _, hbel, _⟩ => exact (hbel.block go (Nat.lt_succ_self go)).trans (hb.block go hg)
theorem oneJ_cell {w : World} {go : Nat} {l0 : List Stp} {pa : Int} {pd : List UInt8} {d0 : Option Addr × Nat} {gA : Nat} {ds0 : List (Option Addr × Nat)} {x : UInt8} {k : Nat} {cv : Nat → Value} {w' : World} (hk : k ≤ 1) (h : oneJ w go l0 pa pd d0 gA ds0 x k cv w') {g j : Nat} {v : Value} (hc : w.cell? ⟨g, j, none⟩ = some v) (hg : g < w.heap.size) : w'.cell? ⟨g, j, none⟩ = some v := by
  match k, hk, h with
  | 0, _, h => obtain rfl : w' = w.drew := h; exact hc
  | 1, _, ⟨h, _⟩ => rw [h, (((Below.refl w.heap.size w).drew).alloc (Nat.le_refl _) _).cell (p := ⟨g, j, none⟩) hg]; exact hc
set_option maxRecDepth 100000 in
set_option maxHeartbeats 4000000 in
theorem refOne_add {w : World} {go : Nat} {l0 : List Stp} {pa : Int} {pd : List UInt8} {g : Nat} {ds : List (Option Addr × Nat)} {c : Nat} {z : Int} {x : UInt8} (h : OutAt w go (l0 ++ [(⟨pa, 0, pd⟩ : Stp)]) ds (some ⟨g, 0, none⟩) c) (ha : z < 0) (hm : l0.length ≤ 1048576) (hpd : pd.length ≤ 1048576) :
    Calls Try.prog 55 #[iv z, bv x, .pointer (some ⟨go, 0, none⟩)] w (OneRet w go (some ⟨g, 0, none⟩) ds (l0 ++ [(⟨pa, 0, pd ++ [x]⟩ : Stp)])) := by
  have HO := Lib.hid h
  obtain ⟨h1, h2, h3, h4⟩ := h
  simp only [List.length_append, List.length_cons, List.length_nil] at h1
  have hix : ¬ (l0.length : Int) + 1 ≤ (l0.length : Int) := by omega
  obtain ⟨ds0, d0, rfl, hdl, kc0, kc1, kc2, kfz, kdo⟩ := drow_cell h4
  obtain ⟨kg1, kg2⟩ := h4.row.block g rfl
  dsimp only at kc0 kc1 kc2 kdo
  have kne : d0.1.map (·.block) ≠ some g := fun e => h4.off l0.length d0 (by rw [← hdl]; simp) g e rfl
  have KNE := Lib.hid kne
  have KDO := Lib.hid kdo
  have KFZ := Lib.hid kfz
  have KC2 := Lib.hid kc2
  have hgg : g ≠ go := by omega
  clear hdl kdo kfz kne h4 kc0
  go_enter Try.func55, Try.ntmps55
  go_wp2_with fail
  refine wp_region_mix (by kernel_rfl) (some 29 :: some 30 :: some 31 :: some 32 :: some 33 :: some 34 :: some 35 :: some 36 :: some 37 :: some 38 :: some 39 :: some 40 :: none :: []) (none :: none :: none :: none :: none :: none :: none :: none :: some 0 :: some 1 :: none :: none :: some 2 :: []) (.slice (some ⟨g, 0, none⟩) (l0.length + 1) c :: .int .i64 (l0.length : Int) :: .slice (some ⟨g, 0, none⟩) (l0.length + 1) c :: .int .i64 (l0.length : Int) :: .pointer (some ⟨g, l0.length * 3, none⟩) :: .pointer (some ⟨g, l0.length * 3 + 2, none⟩) :: .slice d0.1 pd.length d0.2 :: bv x :: undef :: undef :: .pointer (some ⟨g, l0.length * 3, none⟩) :: .pointer (some ⟨g, l0.length * 3 + 2, none⟩) :: undef :: []) 3 (oneJ w go l0 pa pd d0 g ds0 x) 84 rfl rfl (by decide +kernel) (by decide +kernel) (by decide +kernel) (by decide +kernel) rfl rfl (by decide +kernel) (by decide +kernel) (rfl) ?_ ?_
  · refine ⟨?_, ?_⟩
    · intro done cv k a wq hw h hJ hn
      have e2 := mx_old (t := 2) (v := .pointer (some ⟨go, 0, none⟩)) h rfl rfl
      have hk := hn 12 _ 2 rfl rfl (by decide)
      have hc : wq.cell? ⟨go, 0, none⟩ = some (.slice (some ⟨g, 0, none⟩) (l0.length + 1) c) := (World.cell?_of_block (oneJ_go hk hJ h3)).trans h1
      go_simp
    refine ⟨?_, ?_⟩
    · intro done cv k a wq hw h hJ hn
      have e5 := mx_old (t := 5) (v := .int .i64 (l0.length : Int)) h rfl rfl
      exact mx_move (ch_ev e5)
    refine ⟨?_, ?_⟩
    · intro done cv k a wq hw h hJ hn
      have e2 := mx_old (t := 2) (v := .pointer (some ⟨go, 0, none⟩)) h rfl rfl
      have hk := hn 12 _ 2 rfl rfl (by decide)
      have hc : wq.cell? ⟨go, 0, none⟩ = some (.slice (some ⟨g, 0, none⟩) (l0.length + 1) c) := (World.cell?_of_block (oneJ_go hk hJ h3)).trans h1
      go_simp
    refine ⟨?_, ?_⟩
    · intro done cv k a wq hw h hJ hn
      have e5 := mx_old (t := 5) (v := .int .i64 (l0.length : Int)) h rfl rfl
      exact mx_move (ch_ev e5)
    refine ⟨?_, ?_⟩
    · intro done cv k a wq hw h hJ hn
      have e31 := mx_new (i := 2) (t := 31) h (hw 2 (by decide)) rfl rfl rfl; have e32 := mx_new (i := 3) (t := 32) h (hw 3 (by decide)) rfl rfl rfl
      go_simp
    refine ⟨?_, ?_⟩
    · intro done cv k a wq hw h hJ hn
      have e33 := mx_new (i := 4) (t := 33) h (hw 4 (by decide)) rfl rfl rfl
      go_simp
    refine ⟨?_, ?_⟩
    · intro done cv k a wq hw h hJ hn
      have e34 := mx_new (i := 5) (t := 34) h (hw 5 (by decide)) rfl rfl rfl
      have hk := hn 9 _ 1 rfl rfl (by decide)
      have hc := oneJ_cell hk hJ KC2.out kg2
      go_simp
    refine ⟨?_, ?_⟩
    · intro done cv k a wq hw h hJ hn
      have e1 := mx_old (t := 1) (v := bv x) h rfl rfl
      exact mx_move (ch_ev e1)
    refine ⟨?_, ?_⟩
    · intro done cv a wq hw h hJ
      have e36 := mx_new (i := 7) (t := 36) h (hw 7 (by decide)) rfl rfl rfl
      obtain rfl : wq = w.drew := hJ
      exact wp_slb e36 ⟨_, rfl, rfl, by simp⟩
    refine ⟨?_, ?_⟩
    · intro done cv a wq hw h hJ
      have e35 := mx_new (i := 6) (t := 35) h (hw 6 (by decide)) rfl rfl rfl; have e37 := mx_cv (i := 8) (t := 37) h (hw 8 (by decide)) rfl rfl
      obtain ⟨rfl, hv⟩ := hJ
      rw [hv] at e37
      refine wp_app _ (.tmp 35) (.tmp 37) 22 rfl elBytes (go + 1) d0.1 pd.length d0.2 (pd.map bv) (ch_ev e35) (KDO.out.drew.alloc _) (some ⟨w.heap.size, 0, none⟩) 1 1 [bv x] (ch_ev e37) (src_blk (blk_top (by simp))) rfl (by simp [Value.oneCell']) (by omega) (by simp; omega) ?_
      intro B' c' w3 hown hgr hbel hor
      exact ⟨_, rfl, B', c', by simp, hown, hgr, hbel, hor⟩
    refine ⟨?_, ?_⟩
    · intro done cv k a wq hw h hJ hn
      have e29 := mx_new (i := 0) (t := 29) h (hw 0 (by decide)) rfl rfl rfl; have e30 := mx_new (i := 1) (t := 30) h (hw 1 (by decide)) rfl rfl rfl
      go_simp
    refine ⟨?_, ?_⟩
    · intro done cv k a wq hw h hJ hn
      have e39 := mx_new (i := 10) (t := 39) h (hw 10 (by decide)) rfl rfl rfl
      go_simp
    refine ⟨?_, ?_⟩
    · intro done cv a wq hw h hJ
      have e40 := mx_new (i := 11) (t := 40) h (hw 11 (by decide)) rfl rfl rfl; have e38 := mx_cv (i := 9) (t := 38) h (hw 9 (by decide)) rfl rfl
      have hgo := oneJ_go (by omega) hJ h3
      obtain ⟨B', c', hv, hown, hgr, hbel, hor⟩ := hJ
      rw [hv] at e38
      have hk3 : wq.heap[g]? = (w.drew.alloc (.cells #[bv x] 5)).heap[g]? := hgr.block g (by simp; omega) (fun e => KNE.out e.symm)
      have hk2 : (w.drew.alloc (.cells #[bv x] 5)).heap[g]? = w.heap[g]? := Below.heap_alloc w.drew _ g kg2
      have hkk : wq.heap[g]? = w.heap[g]? := hk3.trans hk2
      have kc3 : wq.cell? ⟨g, l0.length * 3 + 2, none⟩ = some (.slice d0.1 pd.length d0.2) := (World.cell?_of_block hkk).trans KC2.out
      have kf3 : wq.frozen? ⟨g, l0.length * 3 + 2, none⟩ = false := by
        have := KFZ.out (l0.length * 3 + 2)
        unfold World.frozen? at this ⊢
        rw [hkk]; exact this
      have hb1 : Below w.heap.size w (w.drew.alloc (.cells #[bv x] 5)) := ((Below.refl w.heap.size w).drew).alloc (Nat.le_refl _) _
      have hne : (⟨g, l0.length * 3 + 2, none⟩ : Addr) ≠ ⟨go, 0, none⟩ := by
        intro e
        injection e with e1 e2
        omega
      have HDn := (HO.out.row.below hb1).add hown hgr hor
      refine wp_stb e40 e38 kc3 kf3 ⟨undef, rfl, some ⟨g, 0, none⟩, c, ds0 ++ [(B', c')], rfl, ⟨?_, ?_, ?_, HDn⟩, ?_, ?_⟩
      · rw [World.cell?_setCell_other _ _ _ _ hne, World.cell?_of_block hgo, h1]; simp
      · have := h2
        simp only [World.frozen?_setCell]
        unfold World.frozen? at this ⊢
        rw [hgo]; exact this
      · have := hbel.size
        have := hb1.size
        simp at *
        omega
      · exact ((hb1.mono (B' := go) (by omega)).trans (hbel.mono (B' := go) (by omega))).setCell (by show go ≤ g; omega) _
      · intro k hk h
        have hd0 : d0.1.map (·.block) ≠ some k := h.2.2 d0 (by simp)
        refine ⟨(Below.heap_setCell wq ⟨g, l0.length * 3 + 2, none⟩ _ k (fun (e : k = g) => h.2.1 (congrArg some e.symm))).trans ((hgr.block k (Nat.lt_of_lt_of_le hk hb1.size) (fun e => hd0 e.symm)).trans (hb1.block k hk)), h.1, h.2.1, fun d hd => ?_⟩
        rcases List.mem_append.1 hd with hd | hd
        · exact h.2.2 d (by simp [hd])
        · obtain rfl : d = (B', c') := by simpa using hd
          rcases hor with e | e
          · rw [e]; exact hd0
          · rw [e]
            intro e2; injection e2 with e2
            have := hb1.size
            omega
    exact trivial
  · rintro cv w3 hJ'
    have HE : Hid (OneRet w go (some ⟨g, 0, none⟩) (ds0 ++ [d0]) (l0 ++ [(⟨pa, 0, pd ++ [x]⟩ : Stp)]) (.returned (.tuple #[])) w3) := Lib.hid hJ'
    clear hJ' h1 h2 kc2 kc1
    simp only [mixAll, Nat.zero_add, Nat.reduceAdd, putAll_some, putAll_none, putAll_nil, List.getElem?_cons_zero, List.getElem?_cons_succ, List.setIfInBounds_toArray, List.set_cons_zero, List.set_cons_succ]
    go_wp2_with fail
    exact bodyPost_end (results_none rfl _ _ _) rfl (by simpa using HE.out)
/-- One byte more. -/
theorem refOne_calls {w : World} {go : Nat} {l : List Stp} {ds : List (Option Addr × Nat)} {A : Option Addr} {c : Nat} {z : Int} {x : UInt8} (h : OutAt w go l ds A c) (hl : l.length ≤ 1048576) (hs : ∀ p ∈ l, p.small) :
    Calls Try.prog 55 #[iv z, bv x, .pointer (some ⟨go, 0, none⟩)] w (OneRet w go A ds (addStp l (unitStp (z, x)))) := by
  rcases List.eq_nil_or_concat l with rfl | ⟨l0, p, e⟩
  · unfold unitStp
    by_cases hz : z < 0
    · rw [if_pos hz]
      exact refOne_dataN h hz
    · rw [if_neg hz]
      exact refOne_lenN h hz
  · rw [List.concat_eq_append] at e
    subst e
    obtain ⟨g, rfl, _, _⟩ := h.row.row.form (by simp)
    rw [addStp_snoc]
    have hp := hs p (by simp)
    simp only [List.length_append, List.length_cons, List.length_nil] at hl
    have hm : l0.length ≤ 1048576 := by omega
    obtain ⟨pa, pl, pd⟩ := p
    obtain ⟨p1, p2, p3, p4⟩ := hp
    dsimp only at p1 p2 p3 p4
    unfold unitStp
    by_cases hz : z < 0
    · rw [if_pos hz]
      unfold meets
      dsimp only
      by_cases h0 : pl = 0
      · subst h0
        rw [if_pos ⟨rfl, rfl⟩]
        exact refOne_add h hz hm p4
      · rw [if_neg (fun e => h0 e.2), if_neg (fun e => absurd e.1 (by decide))]
        have := refOne_dataS (x := x) h hz hm (by exact h0)
        rwa [List.append_assoc] at this
    · rw [if_neg hz]
      unfold meets
      dsimp only
      rw [if_neg (fun e => absurd e.1 (by decide))]
      by_cases h0 : pl = 0
      · subst h0
        rw [if_neg (fun e => absurd e.2.1 (by decide))]
        have := refOne_lenZ (x := x) h hz hm
        rwa [List.append_assoc] at this
      · by_cases h1 : pa + pl = z
        · subst h1
          rw [if_pos ⟨by decide, by omega, rfl⟩]
          exact refOne_join h hm p1 (by omega) p3
        · rw [if_neg (fun e => h1 e.2.2)]
          have := refOne_lenS (x := x) h hz hm p1 (by omega) p3 h1
          rwa [List.append_assoc] at this
end Go.Proofs.Ytefkfglkpebbmab
