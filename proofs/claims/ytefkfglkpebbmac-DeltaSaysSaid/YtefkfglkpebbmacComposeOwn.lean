/- Steps that a call puts one behind the other: a row of its own, data that nobody turns. No conditions. -/
import Derived.Test.YtefkfglkpebbmacDiffOwn
import Derived.Test.YtefkfglkpebbmacComposeMath
namespace Go.Proofs.Ytefkfglkpebbmac
open Go.RowKit
set_option linter.unusedVariables false

structure CRow (w : World) (base : Nat) (l : List Stp) (ds : List (Option Addr × Nat)) (A : Option Addr) (c : Nat) : Prop where
  len : ds.length = l.length
  row : Own w base 117 3 A l.length c (opCells l ds)
  data : ∀ (i : Nat) (o : Stp) (d : Option Addr × Nat), l[i]? = some o → ds[i]? = some d → Bts w d.1 o.data ∧ o.data.length ≤ d.2
  off : ∀ (i : Nat) (d : Option Addr × Nat), ds[i]? = some d → ∀ k, d.1.map (·.block) = some k → A.map (·.block) ≠ some k ∧ k < w.heap.size
theorem CRow.nil (w : World) (base : Nat) : CRow w base [] [] none 0 := ⟨rfl, Own.nil_ _ _ _ _, fun i o d h => by simp at h, fun i d h => by simp at h⟩
theorem CRow.below {w w' : World} {base : Nat} {l : List Stp} {ds : List (Option Addr × Nat)} {A : Option Addr} {c : Nat} (h : CRow w base l ds A c) (hb : Below w.heap.size w w') : CRow w' base l ds A c :=
  ⟨h.len, h.row.below (B := 0) hb, fun i o d h1 h2 => ⟨(h.data i o d h1 h2).1.stays hb, (h.data i o d h1 h2).2⟩, fun i d h1 k hk => ⟨(h.off i d h1 k hk).1, Nat.lt_of_lt_of_le (h.off i d h1 k hk).2 hb.size⟩⟩
theorem bts_grown {w w' : World} {row : Option Nat} {A : Option Addr} {l : List UInt8} (h : Bts w A l) (hg : w.grownBy w' row) (hA : ∀ k, A.map (·.block) = some k → row ≠ some k) : Bts w' A l := by
  intro i hi
  obtain ⟨b, o, rfl, hlt, hc⟩ := h i hi
  refine ⟨b, o, rfl, Nat.lt_of_lt_of_le hlt hg.size, ?_⟩
  rw [World.cell?_of_block (hg.block b hlt (fun e => hA b rfl e.symm))]; exact hc
theorem bts_set {w : World} {p : Addr} {v : Value} {A : Option Addr} {l : List UInt8} (h : Bts w A l) (hA : ∀ k, A.map (·.block) = some k → p.block ≠ k) : Bts (w.setCell p v) A l := by
  intro i hi
  obtain ⟨b, o, rfl, hlt, hc⟩ := h i hi
  refine ⟨b, o, rfl, by simpa using hlt, ?_⟩
  rw [World.cell?_setCell_other _ _ _ _ (fun e => hA b rfl (by rw [e]))]; exact hc
theorem CRow.push {w w' : World} {base : Nat} {l : List Stp} {ds : List (Option Addr × Nat)} {A A' : Option Addr} {c c' : Nat} {o : Stp} {d : Option Addr × Nat} (h : CRow w base l ds A c)
    (h1 : Own w' base 117 3 A' (l.length + 1) c' (opCells l ds ++ opCell o d)) (h2 : w.grownBy w' (A.map (·.block))) (h3 : A'.map (·.block) = A.map (·.block) ∨ A'.map (·.block) = some w.heap.size)
    (hd : Bts w d.1 o.data) (hd2 : o.data.length ≤ d.2) (hd3 : ∀ k, d.1.map (·.block) = some k → A.map (·.block) ≠ some k ∧ k < w.heap.size) :
    CRow w' base (l ++ [o]) (ds ++ [d]) A' c' := by
  have hlen := h.len
  refine ⟨by simp [hlen], ?_, ?_, ?_⟩
  · rw [opCells_snoc _ _ _ _ hlen, List.length_append]; exact h1
  · intro i o' d' hi hd'
    rcases snoc_at hi with hi | ⟨rfl, rfl⟩
    · have hil : i < l.length := (List.getElem?_eq_some_iff.1 hi).1
      rw [List.getElem?_append_left (by omega)] at hd'
      obtain ⟨e1, e2⟩ := h.data i o' d' hi hd'
      exact ⟨bts_grown e1 h2 (fun k hk => (h.off i d' hd' k hk).1), e2⟩
    · rw [← hlen] at hd'
      simp at hd'
      subst hd'
      exact ⟨bts_grown hd h2 (fun k hk => (hd3 k hk).1), hd2⟩
  · intro i d' hd' k hk
    have key : A.map (·.block) ≠ some k ∧ k < w.heap.size := by
      rcases snoc_at hd' with hd' | ⟨rfl, rfl⟩
      · exact h.off i d' hd' k hk
      · exact hd3 k hk
    refine ⟨?_, Nat.lt_of_lt_of_le key.2 h2.size⟩
    rcases h3 with h3 | h3
    · rw [h3]; exact key.1
    · rw [h3]; intro e; injection e with e; omega
/-- The last step turns: its length, or its data. -/
theorem CRow.turn {w : World} {base : Nat} {l : List Stp} {p q : Stp} {ds : List (Option Addr × Nat)} {d d' : Option Addr × Nat} {g c j : Nat} {v : Value} (h : CRow w base (l ++ [p]) (ds ++ [d]) (some ⟨g, 0, none⟩) c)
    (hj : j < 3) (hv : (opCell p d).set j v = opCell q d') (hq : Bts w d'.1 q.data) (hq2 : q.data.length ≤ d'.2) (hq3 : ∀ k, d'.1.map (·.block) = some k → g ≠ k ∧ k < w.heap.size) :
    CRow (w.setCell ⟨g, l.length * 3 + j, none⟩ v) base (l ++ [q]) (ds ++ [d']) (some ⟨g, 0, none⟩) c := by
  have hlen : ds.length = l.length := by have := h.len; simpa using this
  refine ⟨by simp [hlen], ?_, ?_, ?_⟩
  · have hr := h.row.stored (l.length * 3 + j) v
    have e : (opCells (l ++ [p]) (ds ++ [d])).set (l.length * 3 + j) v = opCells (l ++ [q]) (ds ++ [d']) := by
      rw [opCells_snoc _ _ _ _ hlen, opCells_snoc _ _ _ _ hlen, List.set_append_right _ _ (by rw [opCells_len _ _ hlen]; omega), opCells_len _ _ hlen, ← hv]
      congr 2
      omega
    rw [e] at hr
    simpa using hr
  · intro i o e hi he
    rcases snoc_at hi with hi | ⟨rfl, rfl⟩
    · have hil : i < l.length := (List.getElem?_eq_some_iff.1 hi).1
      rw [List.getElem?_append_left (by omega)] at he
      have he2 : (ds ++ [d])[i]? = some e := by rw [List.getElem?_append_left (by omega)]; exact he
      obtain ⟨e1, e2⟩ := h.data i o e (by rw [List.getElem?_append_left hil]; exact hi) he2
      exact ⟨bts_set e1 (fun k hk => fun e3 => (h.off i e he2 k hk).1 (by rw [← e3]; rfl)), e2⟩
    · rw [← hlen] at he
      simp at he
      subst he
      exact ⟨bts_set hq (fun k hk => (hq3 k hk).1), hq2⟩
  · intro i e he k hk
    have hsz : (w.setCell ⟨g, l.length * 3 + j, none⟩ v).heap.size = w.heap.size := by simp
    rw [hsz]
    rcases snoc_at he with he | ⟨rfl, rfl⟩
    · have hil := (List.getElem?_eq_some_iff.1 he).1
      exact h.off i e (by rw [List.getElem?_append_left hil]; exact he) k hk
    · obtain ⟨e1, e2⟩ := hq3 k hk
      exact ⟨fun e3 => e1 (by injection e3), e2⟩
theorem crow_cell {w : World} {base : Nat} {l : List Stp} {o : Stp} {ds : List (Option Addr × Nat)} {g c : Nat} (h : CRow w base (l ++ [o]) ds (some ⟨g, 0, none⟩) c) : ∃ ds0 d, ds = ds0 ++ [d] ∧ ds0.length = l.length ∧
    w.cell? ⟨g, l.length * 3, none⟩ = some (iv o.at_) ∧ w.cell? ⟨g, l.length * 3 + 1, none⟩ = some (iv o.len) ∧ w.cell? ⟨g, l.length * 3 + 2, none⟩ = some (.slice d.1 o.data.length d.2) ∧ (∀ j, w.frozen? ⟨g, j, none⟩ = false) ∧ Bts w d.1 o.data ∧ o.data.length ≤ d.2 ∧
    ∀ k, d.1.map (·.block) = some k → g ≠ k ∧ k < w.heap.size := by
  have hne : ds ≠ [] := by intro e; have := h.len; rw [e] at this; simp at this
  obtain ⟨ds0, d, rfl⟩ : ∃ ds0 d, ds = ds0 ++ [d] := ⟨ds.dropLast, ds.getLast hne, (List.dropLast_concat_getLast hne).symm⟩
  have hl : ds0.length = l.length := by have := h.len; simpa using this
  have hd : (ds0 ++ [d])[l.length]? = some d := by rw [← hl]; simp
  have hc : ∀ j, j < 3 → w.cell? ⟨g, l.length * 3 + j, none⟩ = (opCell o d)[j]? := fun j hj => by
    rw [h.row.cellAt _ (by simp; omega)]
    exact opCells_at _ _ h.len l.length j o d (by simp) hd hj
  obtain ⟨h1, h2⟩ := h.data l.length o d (by simp) hd
  refine ⟨ds0, d, rfl, hl, hc 0 (by omega), hc 1 (by omega), hc 2 (by omega), fun j => h.row.frozenAt j, h1, h2, fun k hk => ?_⟩
  obtain ⟨e1, e2⟩ := h.off l.length d hd k hk
  exact ⟨fun e => e1 (by rw [e]; rfl), e2⟩
theorem CRow.sps {w : World} {base : Nat} {l : List Stp} {ds : List (Option Addr × Nat)} {A : Option Addr} {c : Nat} (h : CRow w base l ds A c) (hb : ∀ o ∈ l, I64 o.at_ ∧ I64 o.len ∧ o.data.length ≤ 140737488351232) : Sps w A l := by
  intro i hi
  have hd : i < ds.length := by rw [h.len]; exact hi
  have hl : l[i]? = some l[i] := List.getElem?_eq_getElem hi
  have hds : ds[i]? = some ds[i] := List.getElem?_eq_getElem hd
  have hs := h.row.src
  have hcl := opCells_len l ds h.len
  obtain ⟨b, o, rfl, hlt, _⟩ := hs (i * 3) (by omega)
  obtain ⟨hd1, hd2⟩ := h.data i _ _ hl hds
  obtain ⟨b1, b2, b3⟩ := hb _ (List.getElem_mem hi)
  refine ⟨b, o, rfl, hlt, opCell l[i] ds[i], rfl, fun j hj => ?_, ds[i].1, ds[i].2, rfl, hd2, b3, hd1, b1, b2⟩
  have hj3 : j < 3 := by simpa [opCell] using hj
  obtain ⟨b', o', e, _, hc⟩ := hs (i * 3 + j) (by omega)
  injection e with e
  injection e with e1 e2
  subst e1 e2
  rw [show o + i * 3 + j = o + (i * 3 + j) by omega, hc]
  have := opCells_at l ds h.len i j _ _ hl hds hj3
  rw [List.getElem?_eq_getElem (by omega), List.getElem?_eq_getElem hj] at this
  exact this
end Go.Proofs.Ytefkfglkpebbmac
