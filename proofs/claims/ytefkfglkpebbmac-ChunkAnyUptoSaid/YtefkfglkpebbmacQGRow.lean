/- Rows of records that each hold one slice of bytes: the row a call's own, the data apart from it. No conditions. -/
import Derived.Test.YtefkfglkpebbmacQCRowPush
namespace Go.Proofs.Ytefkfglkpebbmac
open Go.RowKit
set_option linter.unusedVariables false

/-- A kind of record: its cells, and which of them is the slice. -/
structure Kd (α : Type) where
  ty : TypeId
  size : Nat
  slot : Nat
  cell : α → Option Addr × Nat → List Value
  dat : α → List UInt8
  len : ∀ x e, (cell x e).length = size
  lt : slot < size
  set : ∀ x e e', (cell x e).set slot (.slice e'.1 (dat x).length e'.2) = cell x e'
  get : ∀ x e, (cell x e)[slot]? = some (.slice e.1 (dat x).length e.2)
  one : ∀ x e, ∀ u ∈ cell x e, u.oneCell' = true
section
variable {α : Type} (K : Kd α)
def Kd.cells : List α → List (Option Addr × Nat) → List Value
  | o :: l, d :: ds => K.cell o d ++ Kd.cells l ds
  | _, _ => []
variable {K}
theorem cells_len : ∀ (l : List α) (ds : List (Option Addr × Nat)), ds.length = l.length → (K.cells l ds).length = l.length * K.size
  | [], [], _ => by simp [Kd.cells]
  | [], _ :: _, h => by simp at h
  | _ :: _, [], h => by simp at h
  | o :: l, d :: ds, h => by
    have := cells_len l ds (by simpa using h)
    rw [Kd.cells, List.length_append, K.len, this, List.length_cons, Nat.succ_mul]; omega
theorem cells_append : ∀ (l m : List α) (ds es : List (Option Addr × Nat)), ds.length = l.length → K.cells (l ++ m) (ds ++ es) = K.cells l ds ++ K.cells m es
  | [], m, [], es, _ => by simp [Kd.cells]
  | [], _, _ :: _, _, h => by simp at h
  | _ :: _, _, [], _, h => by simp at h
  | x :: l, m, y :: ds, es, h => by
    have := cells_append l m ds es (by simpa using h)
    simp [Kd.cells, this]
theorem cells_one (x : α) (e : Option Addr × Nat) : K.cells [x] [e] = K.cell x e := by simp [Kd.cells]
theorem cells_oneCell : ∀ (l : List α) (ds : List (Option Addr × Nat)), ∀ u ∈ K.cells l ds, u.oneCell' = true
  | [], _, u, h => by simp [Kd.cells] at h
  | _ :: _, [], u, h => by simp [Kd.cells] at h
  | o :: l, d :: ds, u, h => by
    rw [Kd.cells] at h
    rcases List.mem_append.1 h with h | h
    · exact K.one o d u h
    · exact cells_oneCell l ds u h
theorem cells_at : ∀ (l : List α) (ds : List (Option Addr × Nat)), ds.length = l.length → ∀ (i j : Nat) (o : α) (d : Option Addr × Nat), l[i]? = some o → ds[i]? = some d → j < K.size → (K.cells l ds)[i * K.size + j]? = (K.cell o d)[j]?
  | [], [], _, i, j, o, d, h, _, _ => by simp at h
  | [], _ :: _, h, _, _, _, _, _, _, _ => by simp at h
  | _ :: _, [], h, _, _, _, _, _, _, _ => by simp at h
  | x :: l, y :: ds, h, i, j, o, d, hi, hd, hj => by
    match i with
    | 0 =>
      have e1 : x = o := by simpa using hi
      have e2 : y = d := by simpa using hd
      subst e1 e2
      rw [Kd.cells, Nat.zero_mul, Nat.zero_add, List.getElem?_append_left (by rw [K.len]; exact hj)]
    | i + 1 =>
      have := cells_at l ds (by simpa using h) i j o d (by simpa using hi) (by simpa using hd) hj
      rw [Kd.cells, List.getElem?_append_right (by rw [K.len, Nat.succ_mul]; omega), ← this, K.len]
      congr 1
      rw [Nat.succ_mul]; omega
theorem cells_take (l : List α) (ds : List (Option Addr × Nat)) (h : ds.length = l.length) (i : Nat) (hi : i ≤ l.length) : K.cells (l.take i) (ds.take i) = (K.cells l ds).take (i * K.size) ∧ K.cells (l.drop i) (ds.drop i) = (K.cells l ds).drop (i * K.size) := by
  have e := cells_append (K := K) (l.take i) (l.drop i) (ds.take i) (ds.drop i) (by simp; omega)
  rw [List.take_append_drop, List.take_append_drop] at e
  have hl := cells_len (K := K) (l.take i) (ds.take i) (by simp; omega)
  rw [List.length_take, Nat.min_eq_left hi] at hl
  refine ⟨?_, ?_⟩
  · rw [e, List.take_left' hl]
  · rw [e, List.drop_left' hl]
/-- One record's slice is another one. -/
theorem cells_set : ∀ (l : List α) (ds : List (Option Addr × Nat)), ds.length = l.length → ∀ (i : Nat) (o : α) (e : Option Addr × Nat), l[i]? = some o → (K.cells l ds).set (i * K.size + K.slot) (.slice e.1 (K.dat o).length e.2) = K.cells l (ds.set i e)
  | [], _, _, i, o, e, h => by simp at h
  | _ :: _, [], h, _, _, _, _ => by simp at h
  | x :: l, y :: ds, h, i, o, e, hi => by
    have hlt := K.lt
    match i with
    | 0 =>
      have e1 : x = o := by simpa using hi
      subst e1
      rw [Kd.cells, Nat.zero_mul, Nat.zero_add, List.set_append_left _ _ (by rw [K.len]; exact hlt), K.set, List.set_cons_zero, Kd.cells]
    | i + 1 =>
      have := cells_set l ds (by simpa using h) i o e (by simpa using hi)
      rw [Kd.cells, List.set_append_right _ _ (by rw [K.len, Nat.succ_mul]; omega), K.len, List.set_cons_succ, Kd.cells, ← this]
      congr 2
      rw [Nat.succ_mul]; omega
end
/-- Where records lie, each with its data. -/
structure GSrc {α : Type} (K : Kd α) (w : World) (A : Option Addr) (l : List α) (ds : List (Option Addr × Nat)) : Prop where
  len : ds.length = l.length
  row : Src w A (K.cells l ds)
  data : ∀ (i : Nat) (o : α) (d : Option Addr × Nat), l[i]? = some o → ds[i]? = some d → Bts w d.1 (K.dat o) ∧ (K.dat o).length ≤ d.2
/-- What holds of each block in which data lie. -/
def Each {α : Type} (K : Kd α) (l : List α) (ds : List (Option Addr × Nat)) (P : Nat → Prop) : Prop :=
  ∀ (i : Nat) (o : α) (d : Option Addr × Nat), l[i]? = some o → ds[i]? = some d → K.dat o ≠ [] → ∀ k, d.1.map (·.block) = some k → P k
structure GRow {α : Type} (K : Kd α) (w : World) (base : Nat) (l : List α) (ds : List (Option Addr × Nat)) (A : Option Addr) (c : Nat) : Prop where
  len : ds.length = l.length
  row : Own w base K.ty K.size A l.length c (K.cells l ds)
  data : ∀ (i : Nat) (o : α) (d : Option Addr × Nat), l[i]? = some o → ds[i]? = some d → Bts w d.1 (K.dat o) ∧ (K.dat o).length ≤ d.2
  off : Each K l ds (fun k => A.map (·.block) ≠ some k)
theorem bts_keep {w w' : World} {B : Option Addr} {x : List UInt8} (h : Bts w B x) (hs : w.heap.size ≤ w'.heap.size) (hk : x ≠ [] → ∀ k, k < w.heap.size → B.map (·.block) = some k → w'.heap[k]? = w.heap[k]?) : Bts w' B x := by
  intro j hj
  obtain ⟨b, o2, e1, hlt, hc⟩ := h j hj
  have e := hk (fun e => by rw [e] at hj; simp at hj) b hlt (by rw [e1]; rfl)
  exact ⟨b, o2, e1, Nat.lt_of_lt_of_le hlt hs, (World.cell?_of_block e).trans hc⟩
theorem bts_block {w : World} {B : Option Addr} {x : List UInt8} (h : Bts w B x) (hx : x ≠ []) : ∀ k, B.map (·.block) = some k → k < w.heap.size := by
  obtain ⟨b, o2, e1, hlt, hc⟩ := h 0 (List.length_pos_iff.2 hx)
  intro k hk
  rw [e1] at hk
  have e : b = k := by simpa using hk
  omega
section
variable {α : Type} {K : Kd α} {w w' : World} {base : Nat} {l : List α} {ds : List (Option Addr × Nat)} {A : Option Addr} {c : Nat} {P Q : Nat → Prop}
theorem Each.imp (h : Each K l ds P) (hq : ∀ k, P k → Q k) : Each K l ds Q := fun i o d e1 e2 hx k hk => hq k (h i o d e1 e2 hx k hk)
theorem Each.nil : Each K ([] : List α) ds P := fun i o d h => by simp at h
theorem GSrc.each (h : GSrc K w A l ds) : Each K l ds (fun k => k < w.heap.size) := fun i o d e1 e2 hx => bts_block (h.data i o d e1 e2).1 hx
theorem GRow.src (h : GRow K w base l ds A c) : GSrc K w A l ds := ⟨h.len, h.row.src, h.data⟩
theorem GSrc.stays (h : GSrc K w A l ds) (hb : Below w.heap.size w w') : GSrc K w' A l ds :=
  ⟨h.len, h.row.stays hb, fun i o d h1 h2 => ⟨(h.data i o d h1 h2).1.stays hb, (h.data i o d h1 h2).2⟩⟩
theorem GRow.nil (w : World) (base : Nat) : GRow K w base ([] : List α) [] none 0 := ⟨rfl, by simpa [Kd.cells] using Own.nil_ _ _ _ _, fun i o d h => by simp at h, Each.nil⟩
theorem GRow.below (h : GRow K w base l ds A c) (hb : Below w.heap.size w w') : GRow K w' base l ds A c :=
  ⟨h.len, h.row.below (B := 0) hb, fun i o d h1 h2 => ⟨(h.data i o d h1 h2).1.stays hb, (h.data i o d h1 h2).2⟩, h.off⟩
theorem GRow.mono {base' : Nat} (h : GRow K w base l ds A c) (hb : base' ≤ base) : GRow K w base' l ds A c := ⟨h.len, h.row.mono hb, h.data, h.off⟩
/-- Where its blocks stay. -/
theorem GRow.keep (h : GRow K w base l ds A c) (hs : w.heap.size ≤ w'.heap.size) (hA : ∀ k, k < w.heap.size → A.map (·.block) = some k → w'.heap[k]? = w.heap[k]?) (hd : Each K l ds (fun k => k < w.heap.size → w'.heap[k]? = w.heap[k]?)) : GRow K w' base l ds A c :=
  ⟨h.len, h.row.same (fun k e => hA k (h.row.block k e).2 e), fun i o d h1 h2 => ⟨bts_keep (h.data i o d h1 h2).1 hs fun hx k h3 e => hd i o d h1 h2 hx k e h3, (h.data i o d h1 h2).2⟩, h.off⟩
theorem GRow.setOther {g j : Nat} (h : GRow K w base l ds A c) (hA : A.map (·.block) ≠ some g) (hd : Each K l ds (fun k => k ≠ g)) (v : Value) : GRow K (w.setCell ⟨g, j, none⟩ v) base l ds A c :=
  h.keep (by simp) (fun k _ hk => Below.heap_setCell _ _ _ _ (fun e => hA (by rw [hk, show k = g from e]))) (hd.imp fun k hk _ => Below.heap_setCell _ _ _ _ hk)
theorem GRow.setRow {g : Nat} (h : GRow K w base l ds A c) (hA : A.map (·.block) ≠ some g) (hd : Each K l ds (fun k => k ≠ g)) (cs : Array Value) : GRow K (w.setRow g cs) base l ds A c :=
  h.keep (by simp [World.setRow]) (fun k _ hk => setRow_other _ _ _ _ (fun e => hA (by rw [hk, show k = g from e]))) (hd.imp fun k hk _ => setRow_other _ _ _ _ hk)
/-- The row is another one, of the call's own; data as they were. -/
theorem GRow.remake {w' : World} {B : Nat} {l' : List α} {ds' : List (Option Addr × Nat)} {A' : Option Addr} {c' : Nat} (h : GRow K w base l ds A c) (hl : ds'.length = l'.length) (h1 : Own w' base K.ty K.size A' l'.length c' (K.cells l' ds')) (hb : Below B w w')
    (hk : ∀ k, k < w.heap.size → A.map (·.block) ≠ some k → w'.heap[k]? = w.heap[k]?) (h3 : A'.map (·.block) = A.map (·.block) ∨ ∀ k, A'.map (·.block) = some k → w.heap.size ≤ k)
    (hd : ∀ (i : Nat) (o : α) (d : Option Addr × Nat), l'[i]? = some o → ds'[i]? = some d → (∃ j : Nat, l[j]? = some o ∧ ds[j]? = some d) ∨ (Bts w d.1 (K.dat o) ∧ (K.dat o).length ≤ d.2 ∧ (K.dat o ≠ [] → ∀ k, d.1.map (·.block) = some k → A.map (·.block) ≠ some k))) :
    GRow K w' base l' ds' A' c' := by
  have key : ∀ (i : Nat) (o : α) (d : Option Addr × Nat), l'[i]? = some o → ds'[i]? = some d → Bts w d.1 (K.dat o) ∧ (K.dat o).length ≤ d.2 ∧ (K.dat o ≠ [] → ∀ k, d.1.map (·.block) = some k → A.map (·.block) ≠ some k) := by
    intro i o d e1 e2
    rcases hd i o d e1 e2 with ⟨j, e3, e4⟩ | h
    · exact ⟨(h.data j o d e3 e4).1, (h.data j o d e3 e4).2, h.off j o d e3 e4⟩
    · exact h
  refine ⟨hl, h1, fun i o d e1 e2 => ?_, fun i o d e1 e2 hx k hk2 => ?_⟩
  · obtain ⟨k1, k2, k3⟩ := key i o d e1 e2
    exact ⟨bts_keep k1 hb.size fun hx k h4 e => hk k h4 (k3 hx k e), k2⟩
  · obtain ⟨k1, k2, k3⟩ := key i o d e1 e2
    have k4 := k3 hx k hk2
    have k5 := bts_block k1 hx k hk2
    rcases h3 with h3 | h3
    · rw [h3]; exact k4
    · intro e; have := h3 k e; omega
theorem GRow.push {w' : World} {B : Nat} {A' : Option Addr} {c' : Nat} {o : α} {d : Option Addr × Nat} (h : GRow K w base l ds A c)
    (h1 : Own w' base K.ty K.size A' (l.length + 1) c' (K.cells l ds ++ K.cell o d)) (hb : Below B w w') (hk : ∀ k, k < w.heap.size → A.map (·.block) ≠ some k → w'.heap[k]? = w.heap[k]?) (h3 : A'.map (·.block) = A.map (·.block) ∨ ∀ k, A'.map (·.block) = some k → w.heap.size ≤ k)
    (hd : Bts w d.1 (K.dat o)) (hd2 : (K.dat o).length ≤ d.2) (hd3 : K.dat o ≠ [] → ∀ k, d.1.map (·.block) = some k → A.map (·.block) ≠ some k) :
    GRow K w' base (l ++ [o]) (ds ++ [d]) A' c' := by
  have hlen := h.len
  refine h.remake (by simp [hlen]) ?_ hb hk h3 fun i o' d' hi hd' => ?_
  · rw [cells_append _ _ _ _ hlen, cells_one, List.length_append]; exact h1
  · rcases snoc_at hi with hi | ⟨rfl, rfl⟩
    · have hil : i < l.length := (List.getElem?_eq_some_iff.1 hi).1
      rw [List.getElem?_append_left (by omega)] at hd'
      exact .inl ⟨i, hi, hd'⟩
    · rw [← hlen] at hd'
      simp at hd'
      subst hd'
      exact .inr ⟨hd, hd2, hd3⟩
theorem Each.push {o : α} {d : Option Addr × Nat} (h : Each K l ds P) (hl : ds.length = l.length) (hd : K.dat o ≠ [] → ∀ k, d.1.map (·.block) = some k → P k) : Each K (l ++ [o]) (ds ++ [d]) P := by
  intro i o' d' hi hd' hx k hk
  rcases snoc_at hi with hi | ⟨rfl, rfl⟩
  · have hil : i < l.length := (List.getElem?_eq_some_iff.1 hi).1
    rw [List.getElem?_append_left (by omega)] at hd'
    exact h i o' d' hi hd' hx k hk
  · rw [← hl] at hd'
    simp at hd'
    subst hd'
    exact hd hx k hk
/-- A record's data are others, as long, and alike. -/
theorem GRow.setData {g i : Nat} {o : α} {e : Option Addr × Nat} (h : GRow K w base l ds (some ⟨g, 0, none⟩) c) (hi : l[i]? = some o) (hd : Bts w e.1 (K.dat o)) (hd2 : (K.dat o).length ≤ e.2) (hd3 : K.dat o ≠ [] → ∀ k, e.1.map (·.block) = some k → g ≠ k) :
    GRow K (w.setCell ⟨g, i * K.size + K.slot, none⟩ (.slice e.1 (K.dat o).length e.2)) base l (ds.set i e) (some ⟨g, 0, none⟩) c := by
  have hr := h.row.stored (i * K.size + K.slot) (.slice e.1 (K.dat o).length e.2)
  rw [cells_set l ds h.len i o e hi] at hr
  refine ⟨by rw [List.length_set]; exact h.len, hr, fun j o' d' e1 e2 => ?_, fun j o' d' e1 e2 hx k hk => ?_⟩
  · rw [List.getElem?_set] at e2
    by_cases hji : i = j
    · subst hji
      rw [hi] at e1
      injection e1 with e1
      subst e1
      by_cases hl : i < ds.length
      · rw [if_pos rfl, if_pos hl] at e2
        injection e2 with e2
        subst e2
        exact ⟨bts_keep hd (by simp) fun hx k _ hk => Below.heap_setCell _ _ _ _ (fun e3 => hd3 hx k hk e3.symm), hd2⟩
      · rw [if_pos rfl, if_neg hl] at e2; cases e2
    · rw [if_neg hji] at e2
      obtain ⟨k1, k2⟩ := h.data j o' d' e1 e2
      exact ⟨bts_keep k1 (by simp) fun hx k _ hk => Below.heap_setCell _ _ _ _ (fun e3 => h.off j o' d' e1 e2 hx k hk (by rw [show k = g from e3]; rfl)), k2⟩
  · rw [List.getElem?_set] at e2
    by_cases hji : i = j
    · by_cases hl : i < ds.length
      · rw [if_pos hji, if_pos hl] at e2
        injection e2 with e2
        subst e2 hji
        rw [hi] at e1
        injection e1 with e1
        subst e1
        exact fun e3 => hd3 hx k hk (by injection e3)
      · rw [if_pos hji, if_neg hl] at e2; cases e2
    · rw [if_neg hji] at e2
      exact h.off j o' d' e1 e2 hx k hk
theorem Each.set {i : Nat} {o : α} {e : Option Addr × Nat} (h : ∀ (j : Nat) (o : α) (d : Option Addr × Nat), j ≠ i → l[j]? = some o → ds[j]? = some d → K.dat o ≠ [] → ∀ k, d.1.map (·.block) = some k → P k) (hi : l[i]? = some o) (hd : K.dat o ≠ [] → ∀ k, e.1.map (·.block) = some k → P k) : Each K l (ds.set i e) P := by
  intro j o' d' e1 e2 hx k hk
  rw [List.getElem?_set] at e2
  by_cases hji : i = j
  · by_cases hl : i < ds.length
    · rw [if_pos hji, if_pos hl] at e2
      injection e2 with e2
      subst e2 hji
      rw [hi] at e1
      injection e1 with e1
      subst e1
      exact hd hx k hk
    · rw [if_pos hji, if_neg hl] at e2; cases e2
  · rw [if_neg hji] at e2
    exact h j o' d' (fun e => hji e.symm) e1 e2 hx k hk
/-- What hangs on blocks from base on alone. -/
theorem GRow.fresh (h : GRow K w base l ds A c) (hn : Each K l ds (fun k => base ≤ k)) : Fresh base w (fun v => GRow K v base l ds A c) := by
  intro v hv
  have hlt : ∀ k, base ≤ k → k < w.heap.size → k < v.heap.size := fun k h1 h2 => by
    have e := hv k h1 h2
    rcases Nat.lt_or_ge k v.heap.size with h | h
    · exact h
    · rw [Array.getElem?_eq_none h, Array.getElem?_eq_getElem h2] at e; cases e
  refine ⟨h.len, own_fresh h.row hv, fun i o d h1 h2 => ⟨fun j hj => ?_, (h.data i o d h1 h2).2⟩, h.off⟩
  obtain ⟨b, o2, e1, hl2, hc⟩ := (h.data i o d h1 h2).1 j hj
  have hx : K.dat o ≠ [] := fun e => by rw [e] at hj; simp at hj
  have hbb := hn i o d h1 h2 hx b (by rw [e1]; rfl)
  exact ⟨b, o2, e1, hlt b hbb hl2, (World.cell?_of_block (hv b hbb hl2)).trans hc⟩
end
end Go.Proofs.Ytefkfglkpebbmac
