/- Walks of functions, and plain words. No conditions. -/
import Derived.Test.YtefkfglkpebbmacP3
set_option linter.unusedVariables false
set_option linter.unusedSimpArgs false
set_option maxRecDepth 100000
set_option maxHeartbeats 40000000
namespace Go.Proofs.Ytefkfglkpebbmac
open Go.RowKit
variable {w w' : World} {g c' c : Nat} {A' A : Option Addr} {l : List Chk}
structure Kd (α : Type) where
 ty : TypeId
 size : Nat
 slot : Nat
 cell : α → Option Addr × Nat → List Value
 dat : α → List UInt8
 len : ∀ x e, (cell x e).length = size
 lt : slot < size
 set : ∀ x e e', (cell x e).set slot (.slice e'.1 (dat x).length e'.2) = cell x e'
 get : ∀ x e, (cell x e)[slot]? = some (.slice e.1 (dat x).length e.2)
 one : ∀ x e, ∀ u ∈ cell x e, u.oneCell' = true
section
variable {α : Type} (K : Kd α)
def Kd.cells : List α → List (Option Addr × Nat) → List Value
 | o :: l, d :: ds => K.cell o d ++ Kd.cells l ds
 | _, _ => []
variable {K}
theorem cells_len : ∀ (l : List α) (ds : List (Option Addr × Nat)), ds.length = l.length → (K.cells l ds).length = l.length * K.size
 | [], [], _ => by simp [Kd.cells]
 | [], _ :: _, h => by simp at h
 | _ :: _, [], h => by simp at h
 | o :: l, d :: ds, h => by
  have := cells_len l ds (by simpa using h)
  rw [Kd.cells, List.length_append, K.len, this, List.length_cons, Nat.succ_mul]; omega
theorem cells_append : ∀ (l m : List α) (ds es : List (Option Addr × Nat)), ds.length = l.length → K.cells (l ++ m) (ds ++ es) = K.cells l ds ++ K.cells m es
 | [], m, [], es, _ => by simp [Kd.cells]
 | [], _, _ :: _, _, h => by simp at h
 | _ :: _, _, [], _, h => by simp at h
 | x :: l, m, y :: ds, es, h => by
  have := cells_append l m ds es (by simpa using h)
  simp [Kd.cells, this]
theorem cells_one (x : α) (e : Option Addr × Nat) : K.cells [x] [e] = K.cell x e := by simp [Kd.cells]
theorem cells_oneCell : ∀ (l : List α) (ds : List (Option Addr × Nat)), ∀ u ∈ K.cells l ds, u.oneCell' = true
 | [], _, u, h => by simp [Kd.cells] at h
 | _ :: _, [], u, h => by simp [Kd.cells] at h
 | o :: l, d :: ds, u, h => by
  rw [Kd.cells] at h
  rcases List.mem_append.1 h with h | h
  ·exact K.one o d u h
  ·exact cells_oneCell l ds u h
theorem cells_at : ∀ (l : List α) (ds : List (Option Addr × Nat)), ds.length = l.length → ∀ (i j : Nat) (o : α) (d : Option Addr × Nat), l[i]? = some o → ds[i]? = some d → j < K.size → (K.cells l ds)[i * K.size + j]? = (K.cell o d)[j]?
 | [], [], _, i, j, o, d, h, _, _ => by simp at h
 | [], _ :: _, h, _, _, _, _, _, _, _ => by simp at h
 | _ :: _, [], h, _, _, _, _, _, _, _ => by simp at h
 | x :: l, y :: ds, h, i, j, o, d, hi, hd, hj => by
  match i with
  | 0 =>
   have e1 : x = o := by simpa using hi
   have e2 : y = d := by simpa using hd
   subst e1 e2
   rw [Kd.cells, Nat.zero_mul, Nat.zero_add, List.getElem?_append_left (by rw [K.len]; exact hj)]
  | i + 1 =>
   have := cells_at l ds (by simpa using h) i j o d (by simpa using hi) (by simpa using hd) hj
   rw [Kd.cells, List.getElem?_append_right (by rw [K.len, Nat.succ_mul]; omega), ← this, K.len]
   congr 1
   rw [Nat.succ_mul]; omega
theorem cells_take (l : List α) (ds : List (Option Addr × Nat)) (h : ds.length = l.length) (i : Nat) (hi : i ≤ l.length) : K.cells (l.take i) (ds.take i) = (K.cells l ds).take (i * K.size) ∧ K.cells (l.drop i) (ds.drop i) = (K.cells l ds).drop (i * K.size) := by
 have e := cells_append (K := K) (l.take i) (l.drop i) (ds.take i) (ds.drop i) (by simp; omega)
 rw [List.take_append_drop, List.take_append_drop] at e
 have hl := cells_len (K := K) (l.take i) (ds.take i) (by simp; omega)
 rw [List.length_take, Nat.min_eq_left hi] at hl
 refine ⟨?_, ?_⟩
 ·rw [e, List.take_left' hl]
 ·rw [e, List.drop_left' hl]
theorem cells_set : ∀ (l : List α) (ds : List (Option Addr × Nat)), ds.length = l.length → ∀ (i : Nat) (o : α) (e : Option Addr × Nat), l[i]? = some o → (K.cells l ds).set (i * K.size + K.slot) (.slice e.1 (K.dat o).length e.2) = K.cells l (ds.set i e)
 | [], _, _, i, o, e, h => by simp at h
 | _ :: _, [], h, _, _, _, _ => by simp at h
 | x :: l, y :: ds, h, i, o, e, hi => by
  have hlt := K.lt
  match i with
  | 0 =>
   have e1 : x = o := by simpa using hi
   subst e1
   rw [Kd.cells, Nat.zero_mul, Nat.zero_add, List.set_append_left _ _ (by rw [K.len]; exact hlt), K.set, List.set_cons_zero, Kd.cells]
  | i + 1 =>
   have := cells_set l ds (by simpa using h) i o e (by simpa using hi)
   rw [Kd.cells, List.set_append_right _ _ (by rw [K.len, Nat.succ_mul]; omega), K.len, List.set_cons_succ, Kd.cells, ← this]
   congr 2
   rw [Nat.succ_mul]; omega
end
structure GSrc {α : Type} (K : Kd α) (w : World) (A : Option Addr) (l : List α) (ds : List (Option Addr × Nat)) : Prop where
 len : ds.length = l.length
 row : Src w A (K.cells l ds)
 data : ∀ (i : Nat) (o : α) (d : Option Addr × Nat), l[i]? = some o → ds[i]? = some d → Bts w d.1 (K.dat o) ∧ (K.dat o).length ≤ d.2
def Each {α : Type} (K : Kd α) (l : List α) (ds : List (Option Addr × Nat)) (P : Nat → Prop) : Prop :=
 ∀ (i : Nat) (o : α) (d : Option Addr × Nat), l[i]? = some o → ds[i]? = some d → K.dat o ≠ [] → ∀ k, d.1.map (·.block) = some k → P k
structure GRow {α : Type} (K : Kd α) (w : World) (base : Nat) (l : List α) (ds : List (Option Addr × Nat)) (A : Option Addr) (c : Nat) : Prop where
 len : ds.length = l.length
 row : Own w base K.ty K.size A l.length c (K.cells l ds)
 data : ∀ (i : Nat) (o : α) (d : Option Addr × Nat), l[i]? = some o → ds[i]? = some d → Bts w d.1 (K.dat o) ∧ (K.dat o).length ≤ d.2
 off : Each K l ds (fun k => A.map (·.block) ≠ some k)
theorem bts_keep {B : Option Addr} {x : List UInt8} (h : Bts w B x) (hs : w.heap.size ≤ w'.heap.size) (hk : x ≠ [] → ∀ k, k < w.heap.size → B.map (·.block) = some k → w'.heap[k]? = w.heap[k]?) : Bts w' B x := by
 intro j hj
 obtain ⟨b, o2, e1, hlt, hc⟩ := h j hj
 have e := hk (fun e => by rw [e] at hj; simp at hj) b hlt (by rw [e1]; rfl)
 exact ⟨b, o2, e1, Nat.lt_of_lt_of_le hlt hs, (World.cell?_of_block e).trans hc⟩
theorem bts_block {B : Option Addr} {x : List UInt8} (h : Bts w B x) (hx : x ≠ []) : ∀ k, B.map (·.block) = some k → k < w.heap.size := by
 obtain ⟨b, o2, e1, hlt, hc⟩ := h 0 (List.length_pos_iff.2 hx)
 intro k hk
 rw [e1] at hk
 have e : b = k := by simpa using hk
 omega
section
variable {α : Type} {K : Kd α} {w w' : World} {base : Nat} {l : List α} {ds : List (Option Addr × Nat)} {A : Option Addr} {c : Nat} {P Q : Nat → Prop}
theorem Each.imp (h : Each K l ds P) (hq : ∀ k, P k → Q k) : Each K l ds Q := fun i o d e1 e2 hx k hk => hq k (h i o d e1 e2 hx k hk)
theorem Each.nil : Each K ([] : List α) ds P := fun i o d h => by simp at h
theorem GSrc.each (h : GSrc K w A l ds) : Each K l ds (fun k => k < w.heap.size) := fun i o d e1 e2 hx => bts_block (h.data i o d e1 e2).1 hx
theorem GRow.src (h : GRow K w base l ds A c) : GSrc K w A l ds := ⟨h.len, h.row.src, h.data⟩
theorem GSrc.stays (h : GSrc K w A l ds) (hb : Below w.heap.size w w') : GSrc K w' A l ds :=
 ⟨h.len, h.row.stays hb, fun i o d h1 h2 => ⟨(h.data i o d h1 h2).1.stays hb, (h.data i o d h1 h2).2⟩⟩
theorem GRow.nil (w : World) (base : Nat) : GRow K w base ([] : List α) [] none 0 := ⟨rfl, by simpa [Kd.cells] using Own.nil_ _ _ _ _, fun i o d h => by simp at h, Each.nil⟩
theorem GRow.below (h : GRow K w base l ds A c) (hb : Below w.heap.size w w') : GRow K w' base l ds A c :=
 ⟨h.len, h.row.below (B := 0) hb, fun i o d h1 h2 => ⟨(h.data i o d h1 h2).1.stays hb, (h.data i o d h1 h2).2⟩, h.off⟩
theorem GRow.mono {base' : Nat} (h : GRow K w base l ds A c) (hb : base' ≤ base) : GRow K w base' l ds A c := ⟨h.len, h.row.mono hb, h.data, h.off⟩
theorem GRow.keep (h : GRow K w base l ds A c) (hs : w.heap.size ≤ w'.heap.size) (hA : ∀ k, k < w.heap.size → A.map (·.block) = some k → w'.heap[k]? = w.heap[k]?) (hd : Each K l ds (fun k => k < w.heap.size → w'.heap[k]? = w.heap[k]?)) : GRow K w' base l ds A c :=
 ⟨h.len, h.row.same (fun k e => hA k (h.row.block k e).2 e), fun i o d h1 h2 => ⟨bts_keep (h.data i o d h1 h2).1 hs fun hx k h3 e => hd i o d h1 h2 hx k e h3, (h.data i o d h1 h2).2⟩, h.off⟩
theorem GRow.setOther {j : Nat} (h : GRow K w base l ds A c) (hA : A.map (·.block) ≠ some g) (hd : Each K l ds (fun k => k ≠ g)) (v : Value) : GRow K (w.setCell ⟨g, j, none⟩ v) base l ds A c :=
 h.keep (by simp) (fun k _ hk => Below.heap_setCell _ _ _ _ (fun e => hA (by rw [hk, show k = g from e]))) (hd.imp fun k hk _ => Below.heap_setCell _ _ _ _ hk)
theorem GRow.remake {B : Nat} {l' : List α} {ds' : List (Option Addr × Nat)} (h : GRow K w base l ds A c) (hl : ds'.length = l'.length) (h1 : Own w' base K.ty K.size A' l'.length c' (K.cells l' ds')) (hb : Below B w w')
  (hk : ∀ k, k < w.heap.size → A.map (·.block) ≠ some k → w'.heap[k]? = w.heap[k]?) (h3 : A'.map (·.block) = A.map (·.block) ∨ ∀ k, A'.map (·.block) = some k → w.heap.size ≤ k)
  (hd : ∀ (i : Nat) (o : α) (d : Option Addr × Nat), l'[i]? = some o → ds'[i]? = some d → (∃ j : Nat, l[j]? = some o ∧ ds[j]? = some d) ∨ (Bts w d.1 (K.dat o) ∧ (K.dat o).length ≤ d.2 ∧ (K.dat o ≠ [] → ∀ k, d.1.map (·.block) = some k → A.map (·.block) ≠ some k))) :
  GRow K w' base l' ds' A' c' := by
 have key : ∀ (i : Nat) (o : α) (d : Option Addr × Nat), l'[i]? = some o → ds'[i]? = some d → Bts w d.1 (K.dat o) ∧ (K.dat o).length ≤ d.2 ∧ (K.dat o ≠ [] → ∀ k, d.1.map (·.block) = some k → A.map (·.block) ≠ some k) := by
  intro i o d e1 e2
  rcases hd i o d e1 e2 with ⟨j, e3, e4⟩ | h
  ·exact ⟨(h.data j o d e3 e4).1, (h.data j o d e3 e4).2, h.off j o d e3 e4⟩
  ·exact h
 refine ⟨hl, h1, fun i o d e1 e2 => ?_, fun i o d e1 e2 hx k hk2 => ?_⟩
 ·obtain ⟨k1, k2, k3⟩ := key i o d e1 e2
  exact ⟨bts_keep k1 hb.size fun hx k h4 e => hk k h4 (k3 hx k e), k2⟩
 ·obtain ⟨k1, k2, k3⟩ := key i o d e1 e2
  have k4 := k3 hx k hk2
  have k5 := bts_block k1 hx k hk2
  rcases h3 with h3 | h3
  ·rw [h3]; exact k4
  ·intro e; have := h3 k e; omega
theorem GRow.push {B : Nat} {o : α} {d : Option Addr × Nat} (h : GRow K w base l ds A c)
  (h1 : Own w' base K.ty K.size A' (l.length + 1) c' (K.cells l ds ++ K.cell o d)) (hb : Below B w w') (hk : ∀ k, k < w.heap.size → A.map (·.block) ≠ some k → w'.heap[k]? = w.heap[k]?) (h3 : A'.map (·.block) = A.map (·.block) ∨ ∀ k, A'.map (·.block) = some k → w.heap.size ≤ k)
  (hd : Bts w d.1 (K.dat o)) (hd2 : (K.dat o).length ≤ d.2) (hd3 : K.dat o ≠ [] → ∀ k, d.1.map (·.block) = some k → A.map (·.block) ≠ some k) :
  GRow K w' base (l ++ [o]) (ds ++ [d]) A' c' := by
 have hlen := h.len
 refine h.remake (by simp [hlen]) ?_ hb hk h3 fun i o' d' hi hd' => ?_
 ·rw [cells_append _ _ _ _ hlen, cells_one, List.length_append]; exact h1
 ·rcases snoc_at hi with hi | ⟨rfl, rfl⟩
  ·have hil : i < l.length := (List.getElem?_eq_some_iff.1 hi).1
   rw [List.getElem?_append_left (by omega)] at hd'
   exact .inl ⟨i, hi, hd'⟩
  ·rw [← hlen] at hd'
   simp at hd'
   subst hd'
   exact .inr ⟨hd, hd2, hd3⟩
theorem Each.push {o : α} {d : Option Addr × Nat} (h : Each K l ds P) (hl : ds.length = l.length) (hd : K.dat o ≠ [] → ∀ k, d.1.map (·.block) = some k → P k) : Each K (l ++ [o]) (ds ++ [d]) P := by
 intro i o' d' hi hd' hx k hk
 rcases snoc_at hi with hi | ⟨rfl, rfl⟩
 ·have hil : i < l.length := (List.getElem?_eq_some_iff.1 hi).1
  rw [List.getElem?_append_left (by omega)] at hd'
  exact h i o' d' hi hd' hx k hk
 ·rw [← hl] at hd'
  simp at hd'
  subst hd'
  exact hd hx k hk
theorem GRow.setData {i : Nat} {o : α} {e : Option Addr × Nat} (h : GRow K w base l ds (some ⟨g, 0, none⟩) c) (hi : l[i]? = some o) (hd : Bts w e.1 (K.dat o)) (hd2 : (K.dat o).length ≤ e.2) (hd3 : K.dat o ≠ [] → ∀ k, e.1.map (·.block) = some k → g ≠ k) :
  GRow K (w.setCell ⟨g, i * K.size + K.slot, none⟩ (.slice e.1 (K.dat o).length e.2)) base l (ds.set i e) (some ⟨g, 0, none⟩) c := by
 have hr := h.row.stored (i * K.size + K.slot) (.slice e.1 (K.dat o).length e.2)
 rw [cells_set l ds h.len i o e hi] at hr
 refine ⟨by rw [List.length_set]; exact h.len, hr, fun j o' d' e1 e2 => ?_, fun j o' d' e1 e2 hx k hk => ?_⟩
 ·rw [List.getElem?_set] at e2
  by_cases hji : i = j
  ·subst hji
   rw [hi] at e1
   injection e1 with e1
   subst e1
   by_cases hl : i < ds.length
   ·rw [if_pos rfl, if_pos hl] at e2
    injection e2 with e2
    subst e2
    exact ⟨bts_keep hd (by simp) fun hx k _ hk => Below.heap_setCell _ _ _ _ (fun e3 => hd3 hx k hk e3.symm), hd2⟩
   ·rw [if_pos rfl, if_neg hl] at e2; cases e2
  ·rw [if_neg hji] at e2
   obtain ⟨k1, k2⟩ := h.data j o' d' e1 e2
   exact ⟨bts_keep k1 (by simp) fun hx k _ hk => Below.heap_setCell _ _ _ _ (fun e3 => h.off j o' d' e1 e2 hx k hk (by rw [show k = g from e3]; rfl)), k2⟩
 ·rw [List.getElem?_set] at e2
  by_cases hji : i = j
  ·by_cases hl : i < ds.length
   ·rw [if_pos hji, if_pos hl] at e2
    injection e2 with e2
    subst e2 hji
    rw [hi] at e1
    injection e1 with e1
    subst e1
    exact fun e3 => hd3 hx k hk (by injection e3)
   ·rw [if_pos hji, if_neg hl] at e2; cases e2
  ·rw [if_neg hji] at e2
   exact h.off j o' d' e1 e2 hx k hk
end
def kChk : Kd Chk where
 ty := 49
 size := 5
 slot := 4
 cell := fun x e => chkC x e.1 e.2
 dat := Chk.data
 len := fun _ _ => rfl
 lt := by decide
 set := fun _ _ _ => rfl
 get := fun _ _ => rfl
 one := fun x e u hu => by simp at hu; rcases hu with rfl | rfl | rfl | rfl | rfl <;> rfl
section
variable {α : Type} {K : Kd α} {w : World} {A : Option Addr} {l : List α} {ds : List (Option Addr × Nat)} {R : CR α}
theorem gsrc_of (hR : ∀ cs x, R w cs x → ∃ e : Option Addr × Nat, cs = K.cell x e ∧ Bts w e.1 (K.dat x) ∧ (K.dat x).length ≤ e.2) (h : Elems K.size R w A l) : ∃ ds, GSrc K w A l ds := by
 have each : ∀ i : Fin l.length, ∃ e : Option Addr × Nat, ∃ b o, A = some ⟨b, o, none⟩ ∧ b < w.heap.size ∧ (∀ j, (hj : j < (K.cell l[i.1] e).length) → w.cell? ⟨b, o + i.1 * K.size + j, none⟩ = some (K.cell l[i.1] e)[j]) ∧ Bts w e.1 (K.dat l[i.1]) ∧ (K.dat l[i.1]).length ≤ e.2 := by
  intro i
  obtain ⟨b, o, h1, h2, cs, h3, h4, h5⟩ := h i.1 i.2
  obtain ⟨e, rfl, h6, h7⟩ := hR _ _ h5
  exact ⟨e, b, o, h1, h2, h4, h6, h7⟩
 let f : Fin l.length → Option Addr × Nat := fun i => Classical.choose (each i)
 have hf : ∀ i : Fin l.length, ∃ b o, A = some ⟨b, o, none⟩ ∧ b < w.heap.size ∧ (∀ j, (hj : j < (K.cell l[i.1] (f i)).length) → w.cell? ⟨b, o + i.1 * K.size + j, none⟩ = some (K.cell l[i.1] (f i))[j]) ∧ Bts w (f i).1 (K.dat l[i.1]) ∧ (K.dat l[i.1]).length ≤ (f i).2 := fun i => Classical.choose_spec (each i)
 have hl : (List.ofFn f).length = l.length := by simp
 refine ⟨List.ofFn f, hl, fun p hp => ?_, fun i o d h1 h2 => ?_⟩
 ·rw [cells_len _ _ hl] at hp
  have hs : 0 < K.size := by have := K.lt; omega
  have hi : p / K.size < l.length := Nat.div_lt_of_lt_mul (by rw [Nat.mul_comm]; exact hp)
  have hj : p % K.size < K.size := Nat.mod_lt _ hs
  have hpe : p / K.size * K.size + p % K.size = p := by rw [Nat.mul_comm]; exact Nat.div_add_mod _ _
  obtain ⟨b, o, hA, hb, hc, _⟩ := hf ⟨p / K.size, hi⟩
  refine ⟨b, o, hA, hb, ?_⟩
  have e1 := cells_at (K := K) l (List.ofFn f) hl (p / K.size) (p % K.size) l[p / K.size] (f ⟨p / K.size, hi⟩) (List.getElem?_eq_getElem hi) (by simp [hi]) hj
  rw [hpe] at e1
  have e2 := hc (p % K.size) (by rw [K.len]; exact hj)
  dsimp only at e2
  rw [show o + p / K.size * K.size + p % K.size = o + p by omega] at e2
  rw [e2, ← List.getElem?_eq_getElem, ← e1, List.getElem?_eq_getElem (by rw [cells_len _ _ hl]; exact hp)]
 ·have hi := (List.getElem?_eq_some_iff.1 h1).1
  obtain ⟨_, _, _, _, _, h5, h6⟩ := hf ⟨i, hi⟩
  have e1 : l[i] = o := by rw [List.getElem?_eq_getElem hi] at h1; injection h1
  have e2 : f ⟨i, hi⟩ = d := by simpa [hi] using h2
  dsimp only at h5 h6
  rw [e1, e2] at h5 h6
  exact ⟨h5, h6⟩
theorem elems_of (h : GSrc K w A l ds) (hR : ∀ x ∈ l, ∀ e : Option Addr × Nat, Bts w e.1 (K.dat x) → (K.dat x).length ≤ e.2 → R w (K.cell x e) x) : Elems K.size R w A l := by
 intro i hi
 have hs : 0 < K.size := by have := K.lt; omega
 have hd : i < ds.length := by rw [h.len]; exact hi
 have hl : l[i]? = some l[i] := List.getElem?_eq_getElem hi
 have hds : ds[i]? = some ds[i] := List.getElem?_eq_getElem hd
 have hcl := cells_len (K := K) l ds h.len
 have hib : i * K.size + K.size ≤ l.length * K.size := by rw [← Nat.succ_mul]; exact Nat.mul_le_mul_right _ hi
 obtain ⟨b, o, hA, hlt, _⟩ := h.row (i * K.size) (by omega)
 obtain ⟨hd1, hd2⟩ := h.data i _ _ hl hds
 refine ⟨b, o, hA, hlt, K.cell l[i] ds[i], K.len _ _, fun j hj => ?_, hR _ (List.getElem_mem hi) _ hd1 hd2⟩
 rw [K.len] at hj
 obtain ⟨b', o', e, _, hc⟩ := h.row (i * K.size + j) (by omega)
 rw [hA] at e
 injection e with e
 injection e with e1 e2
 subst e1 e2
 have := cells_at (K := K) l ds h.len i j _ _ hl hds hj
 rw [List.getElem?_eq_getElem (by omega), List.getElem?_eq_getElem (by rw [K.len]; exact hj)] at this
 rw [show o + i * K.size + j = o + (i * K.size + j) by omega, hc]
 exact this
end
def ChkB (x : Chk) : Prop := x.data.length ≤ 1048576 ∧ I64 x.from_ ∧ I64 x.to_ ∧ I64 x.n ∧ I64 x.of_
theorem Chs.gsrc (h : Chs w A l) : ∃ ds, GSrc kChk w A l ds :=
 gsrc_of (K := kChk) (R := rChk) (fun cs x ⟨B, c, h1, h2⟩ => ⟨(B, c), h1, h2.data, h2.cap⟩) h
theorem GSrc.chs {ds : List (Option Addr × Nat)} (h : GSrc kChk w A l ds) (hb : ∀ x ∈ l, ChkB x) : Chs w A l :=
 elems_of (K := kChk) (R := rChk) h fun x hx e h1 h2 => ⟨e.1, e.2, rfl, h2, (hb x hx).1, h1, (hb x hx).2.1, (hb x hx).2.2.1, (hb x hx).2.2.2.1, (hb x hx).2.2.2.2⟩
theorem Chs.bound (h : Chs w A l) : ∀ x ∈ l, ChkB x := by
 intro x hx
 obtain ⟨i, hi, rfl⟩ := List.mem_iff_getElem.1 hx
 obtain ⟨b, o, _, _, cs, _, _, B, c, _, h1⟩ := h i hi
 exact ⟨h1.len, h1.i0, h1.i1, h1.i2, h1.i3⟩
def KrRet {α : Type} (K : Kd α) (w : World) (l : List α) : Ending → World → Prop := fun en w' =>
 ∃ A c ds, en = .returned (.slice A l.length c) ∧ GRow K w' w.heap.size l ds A c ∧ Each K l ds (fun k => w.heap.size ≤ k) ∧ Below w.heap.size w w'
theorem chkCopy_calls (A : Option Addr) (c : Nat) (l : List Chk) (w : World) (hl : l.length ≤ 1048576) (hs : Chs w A l) :
  Calls Try.prog 101 #[.slice A l.length c] w (KrRet kChk w l) := by
 obtain ⟨ds0, hg⟩ := hs.gsrc
 have hbd := hs.bound
 have HBD := hD hbd
 have HG := hD hg
 have K1 := hD (cloneChunks_calls A l.length c (kChk.cells l ds0) w (cells_len _ _ hg.len) (by omega) hg.row (cells_oneCell _ _))
 clear hs hg hbd
 go_enter Try.func101, Try.ntmps101
 go_wp2_with fail
 refine K1.out.mono ?_
 rintro e w1 ⟨A1, c1, rfl, hown, hb1⟩
 have hrow : GRow kChk w1 w.heap.size l ds0 A1 c1 := ⟨HG.out.len, hown, (HG.out.stays hb1).data, fun i o d h1 h2 hx k hk e => by
  have := HG.out.each i o d h1 h2 hx k hk
  have := (hown.block k e).1
  omega⟩
 have HR0 := hD hrow
 have HB0 : Hid (Below w.heap.size w w1) := hD hb1
 clear hown hb1 hrow K1
 go_wp2_with fail
 go_loopw [9] (fun i wr => ∃ (k : Nat) (ds : List (Option Addr × Nat)), k ≤ l.length ∧ i = .int .i64 k ∧ Hid (GRow kChk wr w.heap.size l ds A1 c1) ∧ Hid (∀ (j : Nat) (o : Chk) (d : Option Addr × Nat), j < k → l[j]? = some o → ds[j]? = some d → kChk.dat o ≠ [] → ∀ q, d.1.map (·.block) = some q → w.heap.size ≤ q) ∧ Hid (Below w.heap.size w wr)) (fun i _ => l.length - (intOf i).toNat)
 case atStart => exact ⟨0, ds0, Nat.zero_le _, rfl, HR0, hD (fun j o d h => by omega), HB0⟩
 case round =>
  clear HR0 HB0
  rename World => wr
  obtain ⟨k, ds, hk, rfl, HR, HN, HB⟩ := hrel
  have hsz := HB.out.size
  by_cases hlt : k < l.length
  ·obtain ⟨g, rfl, hg1, hg2⟩ := HR.out.row.form (by omega)
   have hlk : l[k]? = some l[k] := List.getElem?_eq_getElem hlt
   have hdk : ds[k]? = some (ds[k]'(by have := HR.out.len; omega)) := List.getElem?_eq_getElem _
   obtain ⟨x, hx⟩ : ∃ x, l[k] = x := ⟨_, rfl⟩
   obtain ⟨e, he⟩ : ∃ e, ds[k]'(by have := HR.out.len; omega) = e := ⟨_, rfl⟩
   rw [hx] at hlk
   rw [he] at hdk
   have hcell : ∀ j, j < 5 → wr.cell? ⟨g, k * 5 + j, none⟩ = (kChk.cell x e)[j]? := fun j hj => by
    rw [HR.out.row.cellAt _ (show k * 5 + j < l.length * 5 by omega)]
    exact cells_at (K := kChk) l ds HR.out.len k j x e hlk hdk hj
   have q0 : wr.cell? ⟨g, k * 5, none⟩ = some (iv x.from_) := hcell 0 (by decide)
   have q1 : wr.cell? ⟨g, k * 5 + 1, none⟩ = some (iv x.to_) := hcell 1 (by decide)
   have q2 : wr.cell? ⟨g, k * 5 + 2, none⟩ = some (iv x.n) := hcell 2 (by decide)
   have q3 : wr.cell? ⟨g, k * 5 + 3, none⟩ = some (iv x.of_) := hcell 3 (by decide)
   have q4 : wr.cell? ⟨g, k * 5 + 4, none⟩ = some (.slice e.1 x.data.length e.2) := hcell 4 (by decide)
   obtain ⟨hd1, hd2⟩ := HR.out.data k x e hlk hdk
   have hxl : x.data.length ≤ 1048576 := (HBD.out x (List.mem_of_getElem? hlk)).1
   have HD1 : Hid (Bts wr e.1 x.data) := hD hd1
   have HLK := hD hlk
   have HDK := hD hdk
   have K2 := hD (fun w h => cloneBytes_calls e.1 x.data.length e.2 (x.data.map bv) w (by simp) (by omega) h (bv_one _))
   have hfr : wr.frozen? ⟨g, k * 5 + 4, none⟩ = false := HR.out.row.frozenAt _
   have dl : decide ((k : Int) < (l.length : Int)) = true := decide_eq_true (by omega)
   have hwk : IntKind.i64.wrap ((k : Int) + 1) = (k : Int) + 1 := IntWalk.i64_in _ (by omega)
   have hcap : (l.length : Int) ≤ (c1 : Int) := by have := HR.out.row.le; omega
   clear hcell hx he hlk hdk hd1 hd2
   go_wp2_with fail
   have hba := (Below.refl wr.heap.size wr).alloc (Nat.le_refl _) (.cells (chkA x.from_ x.to_ x.n x.of_ e.1 x.data.length e.2) 49)
   refine (K2.out _ (HD1.out.stays hba).src).mono ?_
   rintro en w2 ⟨B, d, rfl, hob, hb2⟩
   have hb3 := hba.trans (hb2.mono (by simp))
   have HR2 := hD (HR.out.below hb3)
   have hq2 : w2.cell? ⟨g, k * 5 + 4, none⟩ = some (.slice e.1 x.data.length e.2) := (hb3.cell (p := ⟨g, k * 5 + 4, none⟩) hg2).trans q4
   have hf2 : w2.frozen? ⟨g, k * 5 + 4, none⟩ = false := (hb3.frozen (p := ⟨g, k * 5 + 4, none⟩) hg2).trans hfr
   have HBB : Hid (Below w.heap.size w (w2.setCell ⟨g, k * 5 + 4, none⟩ (.slice B x.data.length d))) := hD ((HB.out.trans (hb3.mono hsz)).setCell (p := ⟨g, k * 5 + 4, none⟩) hg1 _)
   have hgw : ∀ q, B.map (·.block) = some q → wr.heap.size + 1 ≤ q := fun q h => by have := (hob.block q h).1; simpa using this
   have HR3 : Hid (GRow kChk (w2.setCell ⟨g, k * 5 + 4, none⟩ (.slice B x.data.length d)) w.heap.size l (ds.set k (B, d)) (some ⟨g, 0, none⟩) c1) := hD (HR2.out.setData (e := (B, d)) HLK.out hob.src.bts (by show x.data.length ≤ d; simpa using hob.le) (fun _ q h e2 => by have := hgw q h; omega))
   have HN3 : Hid (∀ (j : Nat) (o : Chk) (d' : Option Addr × Nat), j < k + 1 → l[j]? = some o → (ds.set k (B, d))[j]? = some d' → kChk.dat o ≠ [] → ∀ q, d'.1.map (·.block) = some q → w.heap.size ≤ q) := hD (fun j o d' hj h1 h2 hx q hq => by
    rw [List.getElem?_set] at h2
    by_cases hjk : k = j
    ·by_cases hdl : k < ds.length
     ·rw [if_pos hjk, if_pos hdl] at h2
      injection h2 with h2
      subst h2
      have := hgw q hq
      omega
     ·rw [if_pos hjk, if_neg hdl] at h2; cases h2
    ·rw [if_neg hjk] at h2
     exact HN.out j o d' (by omega) h1 h2 hx q hq)
   obtain ⟨a0r, a0f, a0n, a0c, a0z, a0l⟩ := kp (wr.heap.size) (chkA x.from_ x.to_ x.n x.of_ e.1 x.data.length e.2) hb2
   clear hob hb2 hb3 hba q0 q1 q2 q3 q4 hfr hgw a0r a0f a0n a0c a0z a0l
   go_wp2_with fail
   go_roundw
   case rel => exact ⟨k + 1, ds.set k (B, d), by omega, by go_num, HR3, HN3, HBB⟩
   case measure => simp [intOf]; omega
  ·obtain rfl : k = l.length := by omega
   have dl : decide ((l.length : Int) < (l.length : Int)) = false := by simp
   go_wp2_with fail
   go_ret
   exact ⟨A1, c1, ds, rfl, HR.out, fun i o d h1 h2 hx q hq => HN.out i o d (List.getElem?_eq_some_iff.1 h1).1 h1 h2 hx q hq, HB.out⟩
theorem mid_slice {ab ao : Nat} {l : List UInt8} {z1 z2 : Int} (i y : Nat) (h1 : z1 = (i : Int)) (h2 : z2 = (i : Int) + (y : Int)) (hc : l.length ≤ c) (hy : i + y ≤ l.length) (hB : Bts w (some ⟨ab, ao, none⟩) l) : ∃ o' c', y ≤ c' ∧ Bts w (some ⟨ab, o', none⟩) ((l.drop i).take y) ∧
  ∀ W, (Instr.slice 22 (.slice (some ⟨ab, ao, none⟩) l.length c) (some (.int .i64 z1)) (some (.int .i64 z2)) none).run Try.prog W = .ok (.slice (some ⟨ab, o', none⟩) y c') W := by
 subst h1 h2
 have q1 : (i : Int) + (y : Int) ≤ (c : Int) := by omega
 have q2 : (i : Int) ≤ (i : Int) + (y : Int) := by omega
 have q3 : i + y - i = y := by omega
 by_cases e : c = i
 ·have hy0 : y = 0 := by omega
  subst hy0
  refine ⟨ao, c - i, by omega, by simpa using Bts.nil _ _, fun W => ?_⟩
  go_simp
 ·refine ⟨ao + i, c - i, by omega, mid_take (mid_at hB i) y, fun W => ?_⟩
  go_simp
  omega
def ctJ (w0 : World) (base : Nat) (C : Option Addr) (n c : Nat) (xs bs : List Value) (y : Nat) (mk : Option Addr × Nat → List Value) : Nat → (Nat → Value) → World → Prop
 | 0, _, w => w = w0.drew
 | 1, cv, w => ∃ A5 c5, cv 17 = .slice A5 y c5 ∧ Own w w0.heap.size 5 1 A5 y c5 bs ∧ Below w0.heap.size w0 w
 | 2, cv, w => ∃ A5 c5, cv 18 = .agg (mk (A5, c5)).toArray ∧ Own w w0.heap.size 5 1 A5 y c5 bs ∧ Below w0.heap.size w0 w
 | 3, cv, w => ∃ A5 c5 w1, Own w1 w0.heap.size 5 1 A5 y c5 bs ∧ Below w0.heap.size w0 w1 ∧ w = w1.alloc (.cells (mk (A5, c5)).toArray 49) ∧ cv 19 = .slice (some ⟨w1.heap.size, 0, none⟩) 1 1
 | 4, cv, w => ∃ A5 c5 w1 A' c', Own w1 w0.heap.size 5 1 A5 y c5 bs ∧ Below w0.heap.size w0 w1 ∧ cv 20 = .slice A' (n + 1) c' ∧ Own w base 49 5 A' (n + 1) c' (xs ++ mk (A5, c5)) ∧ Below base w1 w ∧ (∀ k, k < w1.heap.size → C.map (·.block) ≠ some k → w.heap[k]? = w1.heap[k]?) ∧ (A'.map (·.block) = C.map (·.block) ∨ ∀ k, A'.map (·.block) = some k → w1.heap.size ≤ k)
 | _, cv, w => ∃ A5 c5 w1 A' c', Own w1 w0.heap.size 5 1 A5 y c5 bs ∧ Below w0.heap.size w0 w1 ∧ cv 21 = .slice A' (n + 1) c' ∧ Own w base 49 5 A' (n + 1) c' (xs ++ mk (A5, c5)) ∧ Below base w1 w ∧ (∀ k, k < w1.heap.size → C.map (·.block) ≠ some k → w.heap[k]? = w1.heap[k]?) ∧ (A'.map (·.block) = C.map (·.block) ∨ ∀ k, A'.map (·.block) = some k → w1.heap.size ≤ k)
theorem ctJ_blk {w0 : World} {base n y k : Nat} {C : Option Addr} {xs bs : List Value} {mk : Option Addr × Nat → List Value} {cv : Nat → Value} {o : Obj} (hJ : ctJ w0 base C n c xs bs y mk k cv w) (h : w0.heap[g]? = some o) (hg : g < base) : w.heap[g]? = some o := by
 have hl := blk_lt h
 match k, hJ with
 | 0, hJ => obtain rfl : w = w0.drew := hJ; exact h
 | 1, ⟨_, _, _, _, h2⟩ => exact blk_below h h2
 | 2, ⟨_, _, _, _, h2⟩ => exact blk_below h h2
 | 3, ⟨_, _, w1, _, h2, h3, _⟩ => subst h3; exact blk_old (blk_below h h2)
 | 4, ⟨_, _, w1, _, _, _, h2, _, _, h3, _⟩ => exact (h3.block g hg).trans (blk_below h h2)
 | q + 5, ⟨_, _, w1, _, _, _, h2, _, _, h3, _⟩ => exact (h3.block g hg).trans (blk_below h h2)
theorem ctJ_app {w0 w1 : World} {base n y c5 : Nat} {C A5 : Option Addr} {xs bs : List Value} {mk : Option Addr × Nat → List Value} {cv : Nat → Value} (h1 : Own w1 w0.heap.size 5 1 A5 y c5 bs) (h2 : Below w0.heap.size w0 w1)
  (hown : Own w' base 49 5 A' (n + 1) c' (xs ++ mk (A5, c5))) (hgr : (w1.alloc (.cells (mk (A5, c5)).toArray 49)).grownBy w' (C.map (·.block))) (hbel : Below base (w1.alloc (.cells (mk (A5, c5)).toArray 49)) w')
  (hor : A'.map (·.block) = C.map (·.block) ∨ A'.map (·.block) = some (w1.alloc (.cells (mk (A5, c5)).toArray 49)).heap.size) (hle : base ≤ w1.heap.size) :
  ctJ w0 base C n c xs bs y mk 4 (fun j => if j = 20 then .slice A' (n + 1) c' else cv j) w' := by
 refine ⟨A5, c5, w1, A', c', h1, h2, by simp, hown, ((Below.refl _ _).alloc hle _).trans hbel, fun k hk hn => (hgr.block k (by simp; omega) (fun e => hn e.symm)).trans (Below.heap_alloc w1 _ k hk), ?_⟩
 rcases hor with h | h
 ·exact .inl h
 ·exact .inr (fun k hk => by rw [h] at hk; injection hk with hk; simp at hk; omega)
theorem wp_val {P : Program} {o : Oper} {a : Act} {K : Act → World → Prop} {Q : Exit → Act → World → Prop} {v : Value} (e : (execOp a.eval o).run P w = .ok (.value v) w) (h : K (a.put o.dst v) w) : Oper.wp P o a w K Q := by
 unfold Oper.wp
 rw [e]
 exact h
theorem wp_sbc {a : Act} {K : Act → World → Prop} {Q : Exit → Act → World → Prop} {t : TypeId} {p : String} {af : Array Edge} {gd : Option (Nat × Bool)} {d s : Tmp} {f t1 n o : Int} {k : Nat} (hs : a.tmps[s]? = some (.agg (chkA f t1 n o A k c)))
  (h : K (a.put (some d) (.slice (some ⟨w.heap.size, 0, none⟩) 1 1)) (w.alloc (.cells (chkA f t1 n o A k c) 49))) :
  Oper.wp Try.prog ⟨some d, .buildSlice 43 1 #[(0, .tmp s)], t, p, af, gd⟩ a w K Q := by
 have e1 : a.eval (.tmp s) = .agg (chkA f t1 n o A k c) := by simp [Act.eval, hs]
 unfold Oper.wp execOp
 simp only [e1, List.map_toArray, List.map_cons, List.map_nil]
 go_simp
 trace_state
 exact h
def ChkRet2 (w : World) (l : List Chk) (n : Int) : Ending → World → Prop := fun en w' =>
 ∃ A c ds, en = .returned (.tuple #[.slice A l.length c, iv n]) ∧ GRow kChk w' w.heap.size l ds A c ∧ Each kChk l ds (fun k => w.heap.size ≤ k) ∧ Below w.heap.size w w'
theorem chkCut_bad (B : Option Addr) (d : Nat) (p : Pat) (w : World) (hp : PatIn w p B d) (h : patCheck p ≠ 0) :
  Calls Try.prog 33 #[.agg (patA p.from_ p.to_ p.old p.new_ p.size B p.ops.length d)] w (ChkRet2 w [] (patCheck p)) := by
 have K1 := hD (fun w hp => patPut_bad B d p w hp h)
 have HP := hD hp
 obtain ⟨ck, hck⟩ : ∃ ck, patCheck p = ck := ⟨_, rfl⟩
 rw [hck] at h K1
 rw [hck]
 have q : (ck != 0) = true := by simp [h]
 clear hp h hck
 go_enter Try.func33, Try.ntmps33
 go_wp2_with fail
 have hba := (Below.refl w.heap.size w).alloc (Nat.le_refl _) (.cells (patA p.from_ p.to_ p.old p.new_ p.size B p.ops.length d) 35)
 refine (K1.out _ (HP.out.stays hba)).mono ?_
 rintro e w1 ⟨rfl, hb1⟩
 have HB1 := hD (hba.trans (hb1.mono (by simp)))
 clear hb1
 go_wp2_with fail
 go_ret2
 exact ⟨none, 0, [], rfl, GRow.nil _ _, Each.nil, HB1.out⟩
theorem chkCut_fine (B : Option Addr) (d : Nat) (p : Pat) (w : World) (hp : PatIn w p B d) (h : patCheck p = 0) :
  Calls Try.prog 33 #[.agg (patA p.from_ p.to_ p.old p.new_ p.size B p.ops.length d)] w (ChkRet2 w (chunksOf p (packed (patBytes p))) 0) := by
 have K1 := hD (fun w hp => patPut_ok B d p w hp h)
 have HP := hD hp
 have hl1 := patBytes_len h
 obtain ⟨hl2, hl3⟩ := packed_patch_len h
 obtain ⟨pb, hpb⟩ : ∃ pb, patBytes p = pb := ⟨_, rfl⟩
 rw [hpb] at K1 hl1 hl2 hl3 ⊢
 have K2 := hD (fun A c w hc hb => pack_calls A c pb w hc (by omega) hb)
 obtain ⟨b, hb⟩ : ∃ b, packed pb = b := ⟨_, rfl⟩
 rw [hb] at K2 hl2 hl3 ⊢
 obtain ⟨m, hm⟩ : ∃ m, (b.length + 15) / 16 = m := ⟨_, rfl⟩
 have HCO : Hid (∀ k, k < m → (chunksOf p b)[k]? = some (chunkAt p b m k)) := hD (fun k hk => by unfold chunksOf; rw [hm]; simp [hk])
 have HCL0 : Hid ((chunksOf p b).length = m) := hD (by unfold chunksOf; rw [hm]; simp)
 have hq : ((b.length : Int) + 15).tdiv 16 = (m : Int) := by rw [Int.tdiv_eq_ediv_of_nonneg (by omega)]; omega
 have hm1 : m ≤ 10 := by omega
 have HM := hD hm
 clear hp h hpb hb hm
 generalize chunksOf p b = cs at *
 have HCA : Hid (∀ k, chunkAt p b m k = ⟨p.from_, p.to_, k, m, (b.drop (k * 16)).take 16⟩) := hD (fun k => rfl)
 generalize chunkAt p b m = ca at *
 obtain ⟨f, t, o, n, sz, l⟩ := p
 dsimp only at *
 have j1 : IntKind.i64.wrap ((b.length : Int) + 16) = (b.length : Int) + 16 := IntWalk.i64_in _ (by omega)
 have j2 : IntKind.i64.wrap ((b.length : Int) + 15) = (b.length : Int) + 15 := IntWalk.i64_in _ (by omega)
 have j3 : (b.length : Int) + 16 - 1 = (b.length : Int) + 15 := by omega
 have j4 : IntKind.i64.wrap (m : Int) = (m : Int) := IntWalk.i64_in _ (by omega)
 have j5 : decide ((52 : Int) < (m : Int)) = false := decide_eq_false (by omega)
 have j6 : ¬ 52 < m := by omega
 go_enter Try.func33, Try.ntmps33
 go_wp2_with fail
 have hba := (Below.refl w.heap.size w).alloc (Nat.le_refl _) (.cells (patA f t o n sz B l.length d) 35)
 refine (K1.out _ (HP.out.stays hba)).mono ?_
 rintro e w1 ⟨A1, c1, rfl, ho1, hb1⟩
 have hb1' := hba.trans (hb1.mono (by simp))
 obtain ⟨a0r, a0f, a0n, a0c, a0z, a0l⟩ := kp (w.heap.size) (patA f t o n sz B l.length d) hb1
 have HBT := hD ho1.src.bts
 have hc1 := ho1.le
 dsimp only at hc1
 have HB1 := hD hb1'
 clear ho1 hb1 hb1'
 go_wp2_with fail
 refine (K2.out _ _ _ hc1 HBT.out).mono ?_
 rintro e w2 ⟨A2, c2, rfl, ho2, hb2⟩
 obtain ⟨tT, hgp⟩ := row_blk (w := w2) (g := w.heap.size) (by rw [rowOf_below a0l hb2, a0r]; simp [patA])
 have hpb2 : w2.heap[w.heap.size]? = some (.cells (patA f t o n sz B l.length d) tT (0, 0)) := by rw [rowOf_below a0l hb2, a0r, frOf_below a0l hb2, a0f] at hgp; exact hgp
 have HPB0 := hD hpb2
 have HBB2 := hD ho2.src.bts
 have hc2 := ho2.le
 have HB2 : Hid (Below w.heap.size w w2) := hD (HB1.out.trans (hb2.mono HB1.out.size))
 have hg0l := blk_lt hpb2
 have hlb : 0 < b.length := by omega
 obtain ⟨ab, ao, rfl, hab, _⟩ := HBB2.out 0 hlb
 clear ho2 hb2 hgp hpb2 a0r a0f a0n a0c a0z a0l HP K1 K2
 go_wp2_with fail
 generalize hg0 : w.heap.size = g0 at *
 have HGE := hD hg0
 generalize hbase : w2.heap.size = base at *
 have HBE := hD hbase
 clear hg0 hbase
 go_loopw [7, 27] (fun v i wr => ∃ (k : Nat) (acc : List Chk) (ds : List (Option Addr × Nat)) (C : Option Addr) (cc : Nat), k ≤ m ∧ i = .int .i64 k ∧ v = .slice C acc.length cc ∧ acc.length = k ∧ Hid (acc = cs.take k) ∧ Hid (GRow kChk wr base acc ds C cc) ∧ Hid (Each kChk acc ds (fun q => base ≤ q)) ∧ Hid (Below base w2 wr)) (fun _ i _ => m - (intOf i).toNat)
 case atStart => exact ⟨0, [], [], none, 0, Nat.zero_le _, rfl, rfl, rfl, hD (by simp), hD (GRow.nil _ _), hD Each.nil, hD (Below.refl _ _)⟩
 case round =>
  rename World => wo
  obtain ⟨k, acc, ds, C, cc, hk, rfl, rfl, hal, HAC, HR, HE, HB⟩ := hrel
  have hbo : base ≤ wo.heap.size := Nat.le_trans (Nat.le_of_eq HBE.out.symm) HB.out.size
  have hbw : Below w2.heap.size w2 wo := HBE.out ▸ HB.out
  by_cases hlt : k < m
  ·have dl : decide ((k : Int) < (m : Int)) = true := decide_eq_true (by omega)
   have hwk : IntKind.i64.wrap ((k : Int) + 1) = (k : Int) + 1 := IntWalk.i64_in _ (by omega)
   obtain ⟨x, hx⟩ : ∃ x, ca k = x := ⟨_, rfl⟩
   have hxe := HCA.out k
   rw [hx] at hxe
   obtain ⟨y, hy⟩ : ∃ y, x.data.length = y := ⟨_, rfl⟩
   have hyk : k * 16 + y ≤ b.length ∧ y ≤ 16 ∧ (y = 16 ∨ k * 16 + y = b.length) := by rw [← hy, hxe]; have := HM.out; simp; omega
   obtain ⟨hy1, hy2, hy3⟩ := hyk
   obtain ⟨o3, c3, hc3, hB3, hsl3⟩ := mid_slice (z1 := (k : Int) * 16) (z2 := (k : Int) * 16 + (y : Int)) (k * 16) y (by simp) (by simp) hc2 hy1 (HBB2.out.stays hbw)
   have hdt : (b.drop (k * 16)).take y = x.data := by
    rw [← hy, hxe]
    dsimp only
    rw [List.length_take, List.take_eq_take_iff]
    omega
   rw [hdt] at hB3
   have HNXT : Hid (acc ++ [x] = cs.take (k + 1)) := hD (by
    have h1 := HCO.out k hlt
    rw [hx] at h1
    obtain ⟨h2, h3⟩ := List.getElem?_eq_some_iff.1 h1
    rw [List.take_succ_eq_append_getElem h2, h3, HAC.out])
   have HCL : Hid (∀ wq, Below wo.heap.size wo wq → Calls Try.prog 100 #[.slice (some ⟨ab, o3, none⟩) y c3] wq (SlRet wq 5 1 y (x.data.map bv))) := hD (fun wq h => cloneBytes_calls _ _ _ _ wq (by simp [hy]) (by omega) (hB3.stays h).src (bv_one _))
   have HXE : Hid (∀ e : Option Addr × Nat, (kChk.cell x e).toArray = chkA f t (k : Int) (m : Int) e.1 y e.2) := hD (fun e => by rw [← hy]; rw [show kChk.cell x e = chkC x e.1 e.2 from rfl, hxe]; simp [chkA])
   have HW1 : Hid (IntKind.i64.wrap ((k : Int) * 16) = (k : Int) * 16) := hD (IntWalk.i64_in _ (by omega))
   have HW2 : Hid (IntKind.i64.wrap ((k : Int) + 1) = (k : Int) + 1) := hD hwk
   have HW3 : Hid (IntKind.i64.wrap (((k : Int) + 1) * 16) = ((k : Int) + 1) * 16) := hD (IntWalk.i64_in _ (by omega))
   have HMIN : Hid ((if ((k : Int) + 1) * 16 < (b.length : Int) then ((k : Int) + 1) * 16 else (b.length : Int)) = (k : Int) * 16 + (y : Int)) := hD (by split <;> omega)
   have HSL := hD hsl3
   have HPB : Hid (wo.heap[g0]? = some (.cells (patA f t o n sz B l.length d) tT (0, 0))) := hD ((HB.out.block g0 (by omega)).trans HPB0.out)
   have hg0b : g0 < base := by omega
   have HY := hD hy
   have HAL := hD hal
   have hk10 : k ≤ 10 := by omega
   have hacl : acc.length ≤ 10 := by omega
   clear hx hxe hy3 hB3 hsl3 hdt hbw hal hwk hy
   go_wp2_with fail
   refine wp_region_free (by kernel_rfl) (some 30 :: some 31 :: some 32 :: some 33 :: some 34 :: some 35 :: some 36 :: some 37 :: some 38 :: some 39 :: some 40 :: some 41 :: some 42 :: some 43 :: some 44 :: some 45 :: some 46 :: some 47 :: some 48 :: some 49 :: some 50 :: some 7 :: []) (false :: false :: false :: false :: false :: false :: false :: false :: false :: false :: false :: false :: false :: false :: false :: false :: false :: true :: true :: true :: true :: true :: []) (.slice C acc.length cc :: .pointer (some ⟨g0, 0, none⟩) :: iv f :: .pointer (some ⟨g0, 1, none⟩) :: iv t :: .int .i64 (k : Int) :: .int .i64 (m : Int) :: .slice (some ⟨ab, ao, none⟩) b.length c2 :: .int .i64 (k : Int) :: .int .i64 ((k : Int) * 16) :: .slice (some ⟨ab, ao, none⟩) b.length c2 :: .int .i64 (b.length : Int) :: .int .i64 (k : Int) :: .int .i64 ((k : Int) + 1) :: .int .i64 (((k : Int) + 1) * 16) :: .int .i64 ((k : Int) * 16 + (y : Int)) :: .slice (some ⟨ab, o3, none⟩) y c3 :: undef :: undef :: undef :: undef :: undef :: []) (fun done cv w => ctJ wo base C acc.length cc (kChk.cells acc ds) (x.data.map bv) y (fun e => kChk.cell x e) (lvlN [21, 20, 19, 18, 17] done) cv w) 53 rfl rfl (by decide +kernel) (by decide +kernel) (by decide +kernel) rfl rfl (rfl) ?_ ?_
   ·refine ⟨?_, ?_⟩
    ·intro done cv a wq hn hw hcl h hJ
     have e7 := fr_un (t := 7) (i := 0) (i0 := 21) (v := .slice C acc.length cc) h hcl hn rfl (by decide) (by decide) rfl
     exact mx_move (ch_ev e7)
    refine ⟨?_, ?_⟩
    ·intro done cv a wq hn hw hcl h hJ
     have e1 := fO 1 (.pointer (some ⟨g0, 0, none⟩)) h
     go_simp
    refine ⟨?_, ?_⟩
    ·intro done cv a wq hn hw hcl h hJ
     have e31 := fN 1 31 h hw
     have hc := ctJ_blk hJ HPB.out hg0b
     have hc2 : wq.cell? ⟨g0, 0, none⟩ = some (iv f) := by rw [cell_of_row _ _ _ _ _ _ hc]; rfl
     go_simp
    refine ⟨?_, ?_⟩
    ·intro done cv a wq hn hw hcl h hJ
     have e1 := fO 1 (.pointer (some ⟨g0, 0, none⟩)) h
     go_simp
    refine ⟨?_, ?_⟩
    ·intro done cv a wq hn hw hcl h hJ
     have e33 := fN 3 33 h hw
     have hc := ctJ_blk hJ HPB.out hg0b
     have hc2 : wq.cell? ⟨g0, 1, none⟩ = some (iv t) := by rw [cell_of_row _ _ _ _ _ _ hc]; rfl
     go_simp
    refine ⟨?_, ?_⟩
    ·intro done cv a wq hn hw hcl h hJ
     have e8 := fO 8 (.int .i64 (k : Int)) h
     exact mx_move (ch_ev e8)
    refine ⟨?_, ?_⟩
    ·intro done cv a wq hn hw hcl h hJ
     have e6 := fO 6 (.int .i64 (m : Int)) h
     exact mx_move (ch_ev e6)
    refine ⟨?_, ?_⟩
    ·intro done cv a wq hn hw hcl h hJ
     have e4 := fO 4 (.slice (some ⟨ab, ao, none⟩) b.length c2) h
     exact mx_move (ch_ev e4)
    refine ⟨?_, ?_⟩
    ·intro done cv a wq hn hw hcl h hJ
     have e8 := fO 8 (.int .i64 (k : Int)) h
     exact mx_move (ch_ev e8)
    refine ⟨?_, ?_⟩
    ·intro done cv a wq hn hw hcl h hJ
     have e38 := fN 8 38 h hw
     have h1 := HW1.out
     go_simp
    refine ⟨?_, ?_⟩
    ·intro done cv a wq hn hw hcl h hJ
     have e4 := fO 4 (.slice (some ⟨ab, ao, none⟩) b.length c2) h
     exact mx_move (ch_ev e4)
    refine ⟨?_, ?_⟩
    ·intro done cv a wq hn hw hcl h hJ
     have e40 := fN 10 40 h hw
     go_simp
    refine ⟨?_, ?_⟩
    ·intro done cv a wq hn hw hcl h hJ
     have e8 := fO 8 (.int .i64 (k : Int)) h
     exact mx_move (ch_ev e8)
    refine ⟨?_, ?_⟩
    ·intro done cv a wq hn hw hcl h hJ
     have e42 := fN 12 42 h hw
     have h1 := HW2.out
     go_simp
    refine ⟨?_, ?_⟩
    ·intro done cv a wq hn hw hcl h hJ
     have e43 := fN 13 43 h hw
     have h1 := HW3.out
     go_simp
    refine ⟨?_, ?_⟩
    ·intro done cv a wq hn hw hcl h hJ
     have e41 := fN 11 41 h hw; have e44 := fN 14 44 h hw
     have h1 := HMIN.out
     first | (go_simp; done) | (go_simp; split at h1 <;> omega)
    refine ⟨?_, ?_⟩
    ·intro done cv a wq hn hw hcl h hJ
     have e37 := fN 7 37 h hw; have e39 := fN 9 39 h hw; have e45 := fN 15 45 h hw
     have h1 := HSL.out
     go_simp
    refine ⟨?_, ?_⟩
    ·intro done cv a wq hn hw hcl h hJ
     have e46 := fN 16 46 h hw
     have n17 := hn
     have n18 := nW 18 17 hcl n17
     have n19 := nW 19 18 hcl n18
     have n20 := nW 20 19 hcl n19
     have n21 := nW 21 20 hcl n20
     have hl : lvlN [21, 20, 19, 18, 17] (maskB [false, false, false, false, false, false, false, false, false, false, false, false, false, false, false, false, false, true, true, true, true, true] done) = 0 := by simp [lvlN, maskB, n17, n18, n19, n20, n21]
     have hl2 : lvlN [21, 20, 19, 18, 17] (fun j => if j = 17 then true else maskB [false, false, false, false, false, false, false, false, false, false, false, false, false, false, false, false, false, true, true, true, true, true] done j) = 1 := by simp [lvlN, maskB, n17, n18, n19, n20, n21]
     rw [hl] at hJ
     have hK : ∀ (v : Value) (w' : World), ctJ wo base C acc.length cc (kChk.cells acc ds) (x.data.map bv) y (fun e => kChk.cell x e) 1 (fun j => if j = 17 then v else cv j) w' → ctJ wo base C acc.length cc (kChk.cells acc ds) (x.data.map bv) y (fun e => kChk.cell x e) (lvlN [21, 20, 19, 18, 17] (fun j => if j = 17 then true else maskB [false, false, false, false, false, false, false, false, false, false, false, false, false, false, false, false, false, true, true, true, true, true] done j)) (fun j => if j = 17 then v else cv j) w' := fun v w' h => by rw [hl2]; exact h
     obtain rfl : wq = wo.drew := hJ
     refine wp_call (vals := #[.slice (some ⟨ab, o3, none⟩) y c3]) (by rw [List.map_toArray, List.map_cons, List.map_nil, ch_ev e46]) (enters_of Try.func100 (by kernel_rfl) rfl _ _) (HCL.out _ ((Below.refl _ _).drew)) ?_
     rintro e w' ⟨A5, c5, rfl, hown, hbel⟩
     exact ⟨_, rfl, _, rfl, hK _ _ ⟨A5, c5, by simp, hown, (Below.refl _ _).drew.trans hbel⟩⟩
    refine ⟨?_, ?_⟩
    ·intro done cv a wq hn hw hcl h hJ
     have e32 := fN 2 32 h hw; have e34 := fN 4 34 h hw; have e35 := fN 5 35 h hw; have e36 := fN 6 36 h hw; have e47 := fr_cv (i := 17) (t := 47) h (hw 17 (by decide)) rfl rfl
     have n18 := hn
     have n19 := nW 19 18 hcl n18
     have n20 := nW 20 19 hcl n19
     have n21 := nW 21 20 hcl n20
     have m17 := hw 17 (by decide)
     have hl : lvlN [21, 20, 19, 18, 17] (maskB [false, false, false, false, false, false, false, false, false, false, false, false, false, false, false, false, false, true, true, true, true, true] done) = 1 := by simp [lvlN, maskB, n18, n19, n20, n21, m17]
     have hl2 : lvlN [21, 20, 19, 18, 17] (fun j => if j = 18 then true else maskB [false, false, false, false, false, false, false, false, false, false, false, false, false, false, false, false, false, true, true, true, true, true] done j) = 2 := by simp [lvlN, maskB, n18, n19, n20, n21, m17]
     rw [hl] at hJ
     have hK : ∀ (v : Value) (w' : World), ctJ wo base C acc.length cc (kChk.cells acc ds) (x.data.map bv) y (fun e => kChk.cell x e) 2 (fun j => if j = 18 then v else cv j) w' → ctJ wo base C acc.length cc (kChk.cells acc ds) (x.data.map bv) y (fun e => kChk.cell x e) (lvlN [21, 20, 19, 18, 17] (fun j => if j = 18 then true else maskB [false, false, false, false, false, false, false, false, false, false, false, false, false, false, false, false, false, true, true, true, true, true] done j)) (fun j => if j = 18 then v else cv j) w' := fun v w' h => by rw [hl2]; exact h
     obtain ⟨A5, c5, y1, hown, hbel⟩ := hJ
     rw [y1] at e47
     refine wp_val (v := .agg (chkA f t (k : Int) (m : Int) A5 y c5)) (by go_simp) ⟨_, rfl, hK _ _ ⟨A5, c5, ?_, hown, hbel⟩⟩
     rw [HXE.out]
     simp
    refine ⟨?_, ?_⟩
    ·intro done cv a wq hn hw hcl h hJ
     have e48 := fr_cv (i := 18) (t := 48) h (hw 18 (by decide)) rfl rfl
     have n19 := hn
     have n20 := nW 20 19 hcl n19
     have n21 := nW 21 20 hcl n20
     have m18 := hw 18 (by decide)
     have hl : lvlN [21, 20, 19, 18, 17] (maskB [false, false, false, false, false, false, false, false, false, false, false, false, false, false, false, false, false, true, true, true, true, true] done) = 2 := by simp [lvlN, maskB, n19, n20, n21, m18]
     have hl2 : lvlN [21, 20, 19, 18, 17] (fun j => if j = 19 then true else maskB [false, false, false, false, false, false, false, false, false, false, false, false, false, false, false, false, false, true, true, true, true, true] done j) = 3 := by simp [lvlN, maskB, n19, n20, n21, m18]
     rw [hl] at hJ
     have hK : ∀ (v : Value) (w' : World), ctJ wo base C acc.length cc (kChk.cells acc ds) (x.data.map bv) y (fun e => kChk.cell x e) 3 (fun j => if j = 19 then v else cv j) w' → ctJ wo base C acc.length cc (kChk.cells acc ds) (x.data.map bv) y (fun e => kChk.cell x e) (lvlN [21, 20, 19, 18, 17] (fun j => if j = 19 then true else maskB [false, false, false, false, false, false, false, false, false, false, false, false, false, false, false, false, false, true, true, true, true, true] done j)) (fun j => if j = 19 then v else cv j) w' := fun v w' h => by rw [hl2]; exact h
     obtain ⟨A5, c5, y1, hown, hbel⟩ := hJ
     rw [y1] at e48
     rw [HXE.out] at e48
     refine wp_sbc e48 ⟨_, rfl, hK _ _ ⟨A5, c5, wq, hown, hbel, by rw [HXE.out], by simp⟩⟩
    refine ⟨?_, ?_⟩
    ·intro done cv a wq hn hw hcl h hJ
     have e30 := fN 0 30 h hw; have e49 := fr_cv (i := 19) (t := 49) h (hw 19 (by decide)) rfl rfl
     have n20 := hn
     have n21 := nW 21 20 hcl n20
     have m19 := hw 19 (by decide)
     have hl : lvlN [21, 20, 19, 18, 17] (maskB [false, false, false, false, false, false, false, false, false, false, false, false, false, false, false, false, false, true, true, true, true, true] done) = 3 := by simp [lvlN, maskB, n20, n21, m19]
     have hl2 : lvlN [21, 20, 19, 18, 17] (fun j => if j = 20 then true else maskB [false, false, false, false, false, false, false, false, false, false, false, false, false, false, false, false, false, true, true, true, true, true] done j) = 4 := by simp [lvlN, maskB, n20, n21, m19]
     rw [hl] at hJ
     have hK : ∀ (v : Value) (w' : World), ctJ wo base C acc.length cc (kChk.cells acc ds) (x.data.map bv) y (fun e => kChk.cell x e) 4 (fun j => if j = 20 then v else cv j) w' → ctJ wo base C acc.length cc (kChk.cells acc ds) (x.data.map bv) y (fun e => kChk.cell x e) (lvlN [21, 20, 19, 18, 17] (fun j => if j = 20 then true else maskB [false, false, false, false, false, false, false, false, false, false, false, false, false, false, false, false, false, true, true, true, true, true] done j)) (fun j => if j = 20 then v else cv j) w' := fun v w' h => by rw [hl2]; exact h
     obtain ⟨A5, c5, w1, hown, hbel, rfl, y1⟩ := hJ
     rw [y1] at e49
     refine wp_app _ (.tmp 30) (.tmp 49) 43 rfl elChunks base C acc.length cc (kChk.cells acc ds) (ch_ev e30) ((HR.out.row.below (B := 0) hbel).alloc _) (some ⟨w1.heap.size, 0, none⟩) 1 1 (kChk.cell x (A5, c5)) (ch_ev e49) (src_blk (blk_top rfl)) (by simp [kChk]) (kChk.one _ _) (by omega) (by have := hbel.size; simp; omega) ?_
     intro A' c' w' hown2 hgr hbel2 hor
     exact ⟨_, rfl, hK _ _ (ctJ_app hown hbel hown2 hgr hbel2 hor (Nat.le_trans hbo hbel.size))⟩
    refine ⟨?_, ?_⟩
    ·intro done cv a wq hn hw hcl h hJ
     have e50 := fr_cv (i := 20) (t := 50) h (hw 20 (by decide)) rfl rfl
     have n21 := hn
     have m20 := hw 20 (by decide)
     have hl : lvlN [21, 20, 19, 18, 17] (maskB [false, false, false, false, false, false, false, false, false, false, false, false, false, false, false, false, false, true, true, true, true, true] done) = 4 := by simp [lvlN, maskB, n21, m20]
     have hl2 : lvlN [21, 20, 19, 18, 17] (fun j => if j = 21 then true else maskB [false, false, false, false, false, false, false, false, false, false, false, false, false, false, false, false, false, true, true, true, true, true] done j) = 5 := by simp [lvlN, maskB, n21, m20]
     rw [hl] at hJ
     have hK : ∀ (v : Value) (w' : World), ctJ wo base C acc.length cc (kChk.cells acc ds) (x.data.map bv) y (fun e => kChk.cell x e) 5 (fun j => if j = 21 then v else cv j) w' → ctJ wo base C acc.length cc (kChk.cells acc ds) (x.data.map bv) y (fun e => kChk.cell x e) (lvlN [21, 20, 19, 18, 17] (fun j => if j = 21 then true else maskB [false, false, false, false, false, false, false, false, false, false, false, false, false, false, false, false, false, true, true, true, true, true] done j)) (fun j => if j = 21 then v else cv j) w' := fun v w' h => by rw [hl2]; exact h
     obtain ⟨A5, c5, w1, A', c', hown, hbel, y1, r1, r2, r3, r4⟩ := hJ
     rw [y1] at e50
     exact wp_asg (ch_ev e50) ⟨_, rfl, hK _ _ ⟨A5, c5, w1, A', c', hown, hbel, by simp, r1, r2, r3, r4⟩⟩
    exact trivial
   ·intro dn cv w3 hall hJ
    rw [show lvlN [21, 20, 19, 18, 17] dn = 5 by simp [lvlN, hall 21 rfl (by decide)]] at hJ
    obtain ⟨A5, c5, w1', A', c', hown, hbel, y1, r1, r2, r3, r4⟩ := hJ
    simp only [freeAll, putAll_some, putAll_none, putAll_nil, List.getD_cons_zero, List.getD_cons_succ, Bool.false_eq_true, if_true, if_false, reduceIte, Nat.zero_add, Nat.reduceAdd, List.setIfInBounds_toArray, List.set_cons_zero, List.set_cons_succ]
    rw [y1]
    have hr1 : GRow kChk w1' base acc ds C cc := HR.out.below hbel
    have hdb : x.data.length ≤ c5 := by rw [HY.out]; exact hown.le
    have hblk : ∀ q, A5.map (·.block) = some q → wo.heap.size ≤ q := fun q e => (hown.block q e).1
    have hr2 := hr1.push (o := x) (d := (A5, c5)) r1 r2 r3 r4 hown.src.bts hdb (fun _ q e e2 => by have h5 := hblk q e; have h6 := (HR.out.row.block q e2).2; omega)
    have HR3 := hD hr2
    have HE3 : Hid (Each kChk (acc ++ [x]) (ds ++ [(A5, c5)]) (fun q => base ≤ q)) := hD (HE.out.push HR.out.len (fun _ q e => by have h5 := hblk q e; omega))
    have HB3 : Hid (Below base w2 w3) := hD ((HB.out.trans (hbel.mono hbo)).trans r2)
    have hwk : IntKind.i64.wrap ((k : Int) + 1) = (k : Int) + 1 := HW2.out
    clear hown hbel y1 r1 r2 r3 r4 hr1 hdb hblk hr2
    go_wp2_with fail
    go_roundw
    case rel => exact ⟨k + 1, acc ++ [x], ds ++ [(A5, c5)], A', c', by omega, by go_num, by simp, by rw [List.length_append, HAL.out]; rfl, HNXT, HR3, HE3, HB3⟩
    case measure => simp [intOf]; omega
  ·obtain rfl : k = m := by omega
   have dl : decide ((k : Int) < (k : Int)) = false := by simp
   have hz : acc = cs := by rw [HAC.out, List.take_of_length_le (by rw [HCL0.out]; exact Nat.le_refl _)]
   have HZ := hD hz
   clear hz hal
   go_wp2_with fail
   go_ret2
   rw [← HZ.out]
   exact ⟨C, cc, ds, rfl, HR.out.mono (by rw [HGE.out]; omega), HE.out.imp (fun q hq => by rw [HGE.out]; omega), by rw [HGE.out]; exact HB2.out.trans (HB.out.mono (by omega))⟩
theorem chkCut_calls (B : Option Addr) (d : Nat) (p : Pat) (w : World) (hp : PatIn w p B d) :
  Calls Try.prog 33 #[.agg (patA p.from_ p.to_ p.old p.new_ p.size B p.ops.length d)] w (ChkRet2 w (chkCut p).1 (chkCut p).2) := by
 unfold chkCut
 by_cases h : patCheck p = 0
 ·obtain ⟨h1, h2⟩ := packed_patch_len h
  rw [if_neg (by simpa using h), if_neg (by omega)]
  exact chkCut_fine B d p w hp h
 ·rw [if_pos h]
  exact chkCut_bad B d p w hp h
end Go.Proofs.Ytefkfglkpebbmac
