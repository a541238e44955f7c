/- Steps that a call makes: a row of its own whose data are rows of its own. No conditions. -/
import Derived.Test.YtefkfglkpebbmacOps
import Derived.Test.YtefkfglkpebbmacOwn
import Derived.Test.YtefkfglkpebbmacElOps
import Derived.Test.YtefkfglkpebbmacElBytes
namespace Go.Proofs.Ytefkfglkpebbmac
open Go.RowKit
set_option linter.unusedVariables false

def opCell (o : Stp) (d : Option Addr × Nat) : List Value := [iv o.at_, iv o.len, .slice d.1 o.data.length d.2]
def opCells : List Stp → List (Option Addr × Nat) → List Value
  | o :: l, d :: ds => opCell o d ++ opCells l ds
  | _, _ => []
theorem opCells_len : ∀ (l : List Stp) (ds : List (Option Addr × Nat)), ds.length = l.length → (opCells l ds).length = l.length * 3
  | [], [], _ => rfl
  | [], _ :: _, h => by simp at h
  | _ :: _, [], h => by simp at h
  | o :: l, d :: ds, h => by
    have := opCells_len l ds (by simpa using h)
    simp [opCells, opCell, this]; omega
theorem opCells_snoc : ∀ (l : List Stp) (ds : List (Option Addr × Nat)) (o : Stp) (d : Option Addr × Nat), ds.length = l.length → opCells (l ++ [o]) (ds ++ [d]) = opCells l ds ++ opCell o d
  | [], [], o, d, _ => by simp [opCells]
  | [], _ :: _, _, _, h => by simp at h
  | _ :: _, [], _, _, h => by simp at h
  | x :: l, y :: ds, o, d, h => by
    have := opCells_snoc l ds o d (by simpa using h)
    simp [opCells, this]
theorem opCells_at : ∀ (l : List Stp) (ds : List (Option Addr × Nat)), ds.length = l.length → ∀ (i j : Nat) (o : Stp) (d : Option Addr × Nat), l[i]? = some o → ds[i]? = some d → j < 3 → (opCells l ds)[i * 3 + j]? = (opCell o d)[j]?
  | [], [], _, i, j, o, d, h, _, _ => by simp at h
  | [], _ :: _, h, _, _, _, _, _, _, _ => by simp at h
  | _ :: _, [], h, _, _, _, _, _, _, _ => by simp at h
  | x :: l, y :: ds, h, i, j, o, d, hi, hd, hj => by
    match i with
    | 0 =>
      have e1 : x = o := by simpa using hi
      have e2 : y = d := by simpa using hd
      subst e1 e2
      rw [opCells, Nat.zero_mul, Nat.zero_add, List.getElem?_append_left (by simpa [opCell] using hj)]
    | i + 1 =>
      have := opCells_at l ds (by simpa using h) i j o d (by simpa using hi) (by simpa using hd) hj
      rw [opCells, List.getElem?_append_right (by simp [opCell]; omega), ← this]
      congr 1
      simp [opCell]; omega
/-- Steps of the call's own. -/
structure DRow (w : World) (base : Nat) (l : List Stp) (ds : List (Option Addr × Nat)) (A : Option Addr) (c : Nat) : Prop where
  len : ds.length = l.length
  row : Own w base 117 3 A l.length c (opCells l ds)
  data : ∀ (i : Nat) (o : Stp) (d : Option Addr × Nat), l[i]? = some o → ds[i]? = some d → Own w base 5 1 d.1 o.data.length d.2 (o.data.map bv)
  off : ∀ (i : Nat) (d : Option Addr × Nat), ds[i]? = some d → ∀ k, d.1.map (·.block) = some k → A.map (·.block) ≠ some k
  apart : ∀ (i j : Nat) (d e : Option Addr × Nat), i < j → ds[i]? = some d → ds[j]? = some e → ∀ k, d.1.map (·.block) = some k → e.1.map (·.block) ≠ some k
theorem DRow.nil (w : World) (base : Nat) : DRow w base [] [] none 0 := ⟨rfl, Own.nil_ _ _ _ _, fun i o d h => by simp at h, fun i d h => by simp at h, fun i j d e _ h => by simp at h⟩
theorem DRow.below {w w' : World} {base : Nat} {l : List Stp} {ds : List (Option Addr × Nat)} {A : Option Addr} {c : Nat} (h : DRow w base l ds A c) (hb : Below w.heap.size w w') : DRow w' base l ds A c :=
  ⟨h.len, h.row.below (B := 0) hb, fun i o d h1 h2 => (h.data i o d h1 h2).below (B := 0) hb, h.off, h.apart⟩
theorem DRow.drewN {w : World} {base : Nat} {l : List Stp} {ds : List (Option Addr × Nat)} {A : Option Addr} {c : Nat} (h : DRow w base l ds A c) (n : Nat) : DRow (w.drewN n) base l ds A c :=
  ⟨h.len, h.row.drewN n, fun i o d h1 h2 => (h.data i o d h1 h2).drewN n, h.off, h.apart⟩
theorem snoc_at {α : Type} {l : List α} {x y : α} {i : Nat} (h : (l ++ [x])[i]? = some y) : l[i]? = some y ∨ (i = l.length ∧ y = x) := by
  rcases Nat.lt_trichotomy i l.length with hi | hi | hi
  · rw [List.getElem?_append_left hi] at h; exact .inl h
  · subst hi; simp at h; exact .inr ⟨rfl, h.symm⟩
  · rw [List.getElem?_eq_none (by simp; omega)] at h; cases h
/-- A step more, without data. -/
theorem DRow.push {w w' : World} {base : Nat} {l : List Stp} {ds : List (Option Addr × Nat)} {A A' : Option Addr} {c c' : Nat} {a n : Int} (h : DRow w base l ds A c)
    (h1 : Own w' base 117 3 A' (l.length + 1) c' (opCells l ds ++ [iv a, iv n, .slice none 0 0])) (h2 : w.grownBy w' (A.map (·.block))) (h3 : A'.map (·.block) = A.map (·.block) ∨ A'.map (·.block) = some w.heap.size) :
    DRow w' base (l ++ [⟨a, n, []⟩]) (ds ++ [(none, 0)]) A' c' := by
  have hlen := h.len
  refine ⟨by simp [hlen], ?_, ?_, ?_, ?_⟩
  · rw [opCells_snoc _ _ _ _ hlen, List.length_append]; exact h1
  · intro i o d hi hd
    rcases snoc_at hi with hi | ⟨rfl, rfl⟩
    · have hil : i < l.length := (List.getElem?_eq_some_iff.1 hi).1
      rw [List.getElem?_append_left (by omega)] at hd
      refine (h.data i o d hi hd).kept h2 ?_
      cases hk : d.1.map (·.block) with
      | none => exact .inl rfl
      | some k => exact .inr fun e => h.off i d hd k hk e.symm
    · rw [← hlen] at hd
      simp at hd
      subst hd
      exact Own.nil_ _ _ _ _
  · intro i d hd k hk
    rcases snoc_at hd with hd | ⟨rfl, rfl⟩
    · rcases h3 with h3 | h3
      · rw [h3]; exact h.off i d hd k hk
      · rw [h3]
        intro e; injection e with e; subst e
        have hil : i < l.length := by have := (List.getElem?_eq_some_iff.1 hd).1; omega
        have := ((h.data i l[i] d (List.getElem?_eq_getElem hil) hd).block _ hk).2
        omega
    · cases hk
  · intro i j d e hij hd he k hk
    rcases snoc_at he with he | ⟨rfl, rfl⟩
    · have hjl := (List.getElem?_eq_some_iff.1 he).1
      rw [List.getElem?_append_left (by omega)] at hd
      exact h.apart i j d e hij hd he k hk
    · simp
/-- A byte more for the last step. -/
theorem DRow.add {w w' : World} {base : Nat} {l : List Stp} {o : Stp} {ds : List (Option Addr × Nat)} {d : Option Addr × Nat} {g c : Nat} {B' : Option Addr} {c' : Nat} {x : UInt8} (h : DRow w base (l ++ [o]) (ds ++ [d]) (some ⟨g, 0, none⟩) c)
    (h1 : Own w' base 5 1 B' (o.data.length + 1) c' (o.data.map bv ++ [bv x])) (h2 : w.grownBy w' (d.1.map (·.block))) (h3 : B'.map (·.block) = d.1.map (·.block) ∨ B'.map (·.block) = some w.heap.size) :
    DRow (w'.setCell ⟨g, l.length * 3 + 2, none⟩ (.slice B' (o.data.length + 1) c')) base (l ++ [⟨o.at_, o.len, o.data ++ [x]⟩]) (ds ++ [(B', c')]) (some ⟨g, 0, none⟩) c := by
  have hlen : ds.length = l.length := by have := h.len; simpa using this
  have hlast : (l ++ [o])[l.length]? = some o := by simp
  have hdl : (ds ++ [d])[l.length]? = some d := by rw [← hlen]; simp
  have hgd : d.1.map (·.block) ≠ some g := fun e => h.off l.length d hdl g e rfl
  have hgl : g < w.heap.size := (h.row.block g rfl).2
  have hBg : B'.map (·.block) ≠ some g := by
    rcases h3 with h3 | h3
    · rw [h3]; exact hgd
    · rw [h3]; intro e; injection e with e; omega
  refine ⟨by simp [hlen], ?_, ?_, ?_, ?_⟩
  · have hr := (h.row.kept h2 (.inr fun e => hgd e.symm)).stored (l.length * 3 + 2) (.slice B' (o.data.length + 1) c')
    have e : (opCells (l ++ [o]) (ds ++ [d])).set (l.length * 3 + 2) (.slice B' (o.data.length + 1) c') = opCells (l ++ [⟨o.at_, o.len, o.data ++ [x]⟩]) (ds ++ [(B', c')]) := by
      rw [opCells_snoc _ _ _ _ hlen, opCells_snoc _ _ _ _ hlen, List.set_append_right _ _ (by rw [opCells_len _ _ hlen]; omega), opCells_len _ _ hlen]
      congr 1
      rw [show l.length * 3 + 2 - l.length * 3 = 2 by omega]
      simp [opCell]
    rw [e] at hr
    simpa using hr
  · intro i o' d' hi hd'
    rcases snoc_at hi with hi | ⟨rfl, rfl⟩
    · have hil : i < l.length := (List.getElem?_eq_some_iff.1 hi).1
      rw [List.getElem?_append_left (by omega)] at hd'
      have hi2 : (l ++ [o])[i]? = some o' := by rw [List.getElem?_append_left hil]; exact hi
      have hd2 : (ds ++ [d])[i]? = some d' := by rw [List.getElem?_append_left (by omega)]; exact hd'
      refine Own.setCell_other ((h.data i o' d' hi2 hd2).kept h2 ?_) ?_ _
      · cases hk : d'.1.map (·.block) with
        | none => exact .inl rfl
        | some k => exact .inr fun e => h.apart i l.length d' d hil hd2 hdl k hk e.symm
      · intro e
        exact h.off i d' hd2 g e rfl
    · rw [← hlen] at hd'
      simp at hd'
      subst hd'
      have := Own.setCell_other h1 (p := ⟨g, l.length * 3 + 2, none⟩) hBg (.slice B' (o.data.length + 1) c')
      simpa using this
  · intro i d' hd' k hk e
    injection e with e
    rcases snoc_at hd' with hd' | ⟨rfl, rfl⟩
    · have hil := (List.getElem?_eq_some_iff.1 hd').1
      have hd2 : (ds ++ [d])[i]? = some d' := by rw [List.getElem?_append_left hil]; exact hd'
      exact h.off i d' hd2 k hk (by rw [← e]; rfl)
    · exact hBg (by rw [hk, ← e])
  · intro i j d' e' hij hd' he' k hk hk'
    rcases snoc_at he' with he' | ⟨rfl, rfl⟩
    · have hjl := (List.getElem?_eq_some_iff.1 he').1
      rw [List.getElem?_append_left (by omega)] at hd'
      exact h.apart i j d' e' hij (by rw [List.getElem?_append_left (by omega)]; exact hd') (by rw [List.getElem?_append_left hjl]; exact he') k hk hk'
    · rw [List.getElem?_append_left hij] at hd'
      have hd2 : (ds ++ [d])[i]? = some d' := by rw [List.getElem?_append_left hij]; exact hd'
      rcases h3 with h3 | h3
      · rw [h3] at hk'
        exact h.apart i ds.length d' d hij hd2 (by simp) k hk hk'
      · rw [h3] at hk'
        injection hk' with hk'
        have hil : i < l.length := by omega
        have := ((h.data i l[i] d' (by rw [List.getElem?_append_left hil]; exact List.getElem?_eq_getElem hil) hd2).block _ hk).2
        omega
/-- It reads as those. -/
theorem DRow.sps {w : World} {base : Nat} {l : List Stp} {ds : List (Option Addr × Nat)} {A : Option Addr} {c : Nat} (h : DRow w base l ds A c) (hb : ∀ o ∈ l, I64 o.at_ ∧ I64 o.len ∧ o.data.length ≤ 140737488351232) : Sps w A l := by
  intro i hi
  have hd : i < ds.length := by rw [h.len]; exact hi
  have hl : l[i]? = some l[i] := List.getElem?_eq_getElem hi
  have hds : ds[i]? = some ds[i] := List.getElem?_eq_getElem hd
  have hs := h.row.src
  have hcl := opCells_len l ds h.len
  obtain ⟨b, o, rfl, hlt, _⟩ := hs (i * 3) (by omega)
  have hdata := h.data i _ _ hl hds
  obtain ⟨b1, b2, b3⟩ := hb _ (List.getElem_mem hi)
  refine ⟨b, o, rfl, hlt, opCell l[i] ds[i], rfl, fun j hj => ?_, ds[i].1, ds[i].2, rfl, hdata.le, b3, hdata.src.bts, b1, b2⟩
  have hj3 : j < 3 := by simpa [opCell] using hj
  obtain ⟨b', o', e, _, hc⟩ := hs (i * 3 + j) (by omega)
  injection e with e
  injection e with e1 e2
  subst e1 e2
  rw [show o + i * 3 + j = o + (i * 3 + j) by omega, hc]
  have := opCells_at l ds h.len i j _ _ hl hds hj3
  rw [List.getElem?_eq_getElem (by omega), List.getElem?_eq_getElem hj] at this
  exact this
/-- A block of steps. -/
theorem sps_blk {w : World} {g : Nat} {cs : Array Value} {t : TypeId} {fr : Nat × Nat} {l : List Stp} (h : w.heap[g]? = some (.cells cs t fr)) (ds : List (Option Addr × Nat)) (hd : ds.length = l.length) (hc : cs = (opCells l ds).toArray)
    (hb : ∀ (i : Nat) o d, l[i]? = some o → ds[i]? = some d → Bts w d.1 o.data ∧ o.data.length ≤ d.2 ∧ o.data.length ≤ 140737488351232 ∧ I64 o.at_ ∧ I64 o.len) : Sps w (some ⟨g, 0, none⟩) l := by
  intro i hi
  have hl : l[i]? = some l[i] := List.getElem?_eq_getElem hi
  have hds : ds[i]? = some ds[i] := List.getElem?_eq_getElem (by omega)
  have hcl := opCells_len l ds hd
  obtain ⟨h1, h2, h3, h4, h5⟩ := hb i _ _ hl hds
  refine ⟨g, 0, rfl, blk_lt h, opCell l[i] ds[i], rfl, fun j hj => ?_, ds[i].1, ds[i].2, rfl, h2, h3, h1, h4, h5⟩
  have hj3 : j < 3 := by simpa [opCell] using hj
  rw [cell_of_row _ _ _ _ _ _ h, hc]
  have := opCells_at l ds hd i j _ _ hl hds hj3
  rw [Nat.zero_add, List.getElem?_toArray, this, List.getElem?_eq_getElem hj]
end Go.Proofs.Ytefkfglkpebbmac
