/- The kinds of records with data: steps, chunks, images. What reads as a list of such, and back. No conditions. -/
import Derived.Test.YtefkfglkpebbmacQGRow
import Derived.Test.YtefkfglkpebbmacQBase
namespace Go.Proofs.Ytefkfglkpebbmac
open Go.RowKit
set_option linter.unusedVariables false

def kOp : Kd Stp where
  ty := 117
  size := 3
  slot := 2
  cell := fun o e => [iv o.at_, iv o.len, .slice e.1 o.data.length e.2]
  dat := Stp.data
  len := fun _ _ => rfl
  lt := by decide
  set := fun _ _ _ => rfl
  get := fun _ _ => rfl
  one := fun x e u hu => by simp at hu; rcases hu with rfl | rfl | rfl <;> rfl
def kChk : Kd Chk where
  ty := 49
  size := 5
  slot := 4
  cell := fun x e => chkC x e.1 e.2
  dat := Chk.data
  len := fun _ _ => rfl
  lt := by decide
  set := fun _ _ _ => rfl
  get := fun _ _ => rfl
  one := fun x e u hu => by simp at hu; rcases hu with rfl | rfl | rfl | rfl | rfl <;> rfl
def kImg : Kd (List UInt8) where
  ty := 22
  size := 1
  slot := 0
  cell := fun x e => [.slice e.1 x.length e.2]
  dat := fun x => x
  len := fun _ _ => rfl
  lt := by decide
  set := fun _ _ _ => rfl
  get := fun _ _ => rfl
  one := fun x e u hu => by simp at hu; subst hu; rfl
def rImg : CR (List UInt8) := fun w cs x => ∃ B c, cs = [.slice B x.length c] ∧ x.length ≤ c ∧ x.length ≤ 1048576 ∧ Bts w B x
theorem stays_img : Stays rImg := by
  rintro w w' cs x ⟨B, c, rfl, h1, h2, h3⟩ hb
  exact ⟨B, c, rfl, h1, h2, h3.stays hb⟩
/-- The images of a slice that starts at A. -/
abbrev Ims (w : World) (A : Option Addr) (l : List (List UInt8)) : Prop := Elems 1 rImg w A l
theorem Ims.stays {w w' : World} {A : Option Addr} {l : List (List UInt8)} (h : Ims w A l) (hb : Below w.heap.size w w') : Ims w' A l := Elems.stays stays_img h hb
section
variable {α : Type} {K : Kd α} {w : World} {A : Option Addr} {l : List α} {ds : List (Option Addr × Nat)} {R : CR α}
theorem gsrc_of (hR : ∀ cs x, R w cs x → ∃ e : Option Addr × Nat, cs = K.cell x e ∧ Bts w e.1 (K.dat x) ∧ (K.dat x).length ≤ e.2) (h : Elems K.size R w A l) : ∃ ds, GSrc K w A l ds := by
  have each : ∀ i : Fin l.length, ∃ e : Option Addr × Nat, ∃ b o, A = some ⟨b, o, none⟩ ∧ b < w.heap.size ∧ (∀ j, (hj : j < (K.cell l[i.1] e).length) → w.cell? ⟨b, o + i.1 * K.size + j, none⟩ = some (K.cell l[i.1] e)[j]) ∧ Bts w e.1 (K.dat l[i.1]) ∧ (K.dat l[i.1]).length ≤ e.2 := by
    intro i
    obtain ⟨b, o, h1, h2, cs, h3, h4, h5⟩ := h i.1 i.2
    obtain ⟨e, rfl, h6, h7⟩ := hR _ _ h5
    exact ⟨e, b, o, h1, h2, h4, h6, h7⟩
  let f : Fin l.length → Option Addr × Nat := fun i => Classical.choose (each i)
  have hf : ∀ i : Fin l.length, ∃ b o, A = some ⟨b, o, none⟩ ∧ b < w.heap.size ∧ (∀ j, (hj : j < (K.cell l[i.1] (f i)).length) → w.cell? ⟨b, o + i.1 * K.size + j, none⟩ = some (K.cell l[i.1] (f i))[j]) ∧ Bts w (f i).1 (K.dat l[i.1]) ∧ (K.dat l[i.1]).length ≤ (f i).2 := fun i => Classical.choose_spec (each i)
  have hl : (List.ofFn f).length = l.length := by simp
  refine ⟨List.ofFn f, hl, fun p hp => ?_, fun i o d h1 h2 => ?_⟩
  · rw [cells_len _ _ hl] at hp
    have hs : 0 < K.size := by have := K.lt; omega
    have hi : p / K.size < l.length := Nat.div_lt_of_lt_mul (by rw [Nat.mul_comm]; exact hp)
    have hj : p % K.size < K.size := Nat.mod_lt _ hs
    have hpe : p / K.size * K.size + p % K.size = p := by rw [Nat.mul_comm]; exact Nat.div_add_mod _ _
    obtain ⟨b, o, hA, hb, hc, _⟩ := hf ⟨p / K.size, hi⟩
    refine ⟨b, o, hA, hb, ?_⟩
    have e1 := cells_at (K := K) l (List.ofFn f) hl (p / K.size) (p % K.size) l[p / K.size] (f ⟨p / K.size, hi⟩) (List.getElem?_eq_getElem hi) (by simp [hi]) hj
    rw [hpe] at e1
    have e2 := hc (p % K.size) (by rw [K.len]; exact hj)
    dsimp only at e2
    rw [show o + p / K.size * K.size + p % K.size = o + p by omega] at e2
    rw [e2, ← List.getElem?_eq_getElem, ← e1, List.getElem?_eq_getElem (by rw [cells_len _ _ hl]; exact hp)]
  · have hi := (List.getElem?_eq_some_iff.1 h1).1
    obtain ⟨_, _, _, _, _, h5, h6⟩ := hf ⟨i, hi⟩
    have e1 : l[i] = o := by rw [List.getElem?_eq_getElem hi] at h1; injection h1
    have e2 : f ⟨i, hi⟩ = d := by simpa [hi] using h2
    dsimp only at h5 h6
    rw [e1, e2] at h5 h6
    exact ⟨h5, h6⟩
theorem elems_of (h : GSrc K w A l ds) (hR : ∀ x ∈ l, ∀ e : Option Addr × Nat, Bts w e.1 (K.dat x) → (K.dat x).length ≤ e.2 → R w (K.cell x e) x) : Elems K.size R w A l := by
  intro i hi
  have hs : 0 < K.size := by have := K.lt; omega
  have hd : i < ds.length := by rw [h.len]; exact hi
  have hl : l[i]? = some l[i] := List.getElem?_eq_getElem hi
  have hds : ds[i]? = some ds[i] := List.getElem?_eq_getElem hd
  have hcl := cells_len (K := K) l ds h.len
  have hib : i * K.size + K.size ≤ l.length * K.size := by rw [← Nat.succ_mul]; exact Nat.mul_le_mul_right _ hi
  obtain ⟨b, o, hA, hlt, _⟩ := h.row (i * K.size) (by omega)
  obtain ⟨hd1, hd2⟩ := h.data i _ _ hl hds
  refine ⟨b, o, hA, hlt, K.cell l[i] ds[i], K.len _ _, fun j hj => ?_, hR _ (List.getElem_mem hi) _ hd1 hd2⟩
  rw [K.len] at hj
  obtain ⟨b', o', e, _, hc⟩ := h.row (i * K.size + j) (by omega)
  rw [hA] at e
  injection e with e
  injection e with e1 e2
  subst e1 e2
  have := cells_at (K := K) l ds h.len i j _ _ hl hds hj
  rw [List.getElem?_eq_getElem (by omega), List.getElem?_eq_getElem (by rw [K.len]; exact hj)] at this
  rw [show o + i * K.size + j = o + (i * K.size + j) by omega, hc]
  exact this
end
theorem Sps.gsrc {w : World} {A : Option Addr} {l : List Stp} (h : Sps w A l) : ∃ ds, GSrc kOp w A l ds :=
  gsrc_of (K := kOp) (R := rOp) (fun cs x ⟨B, c, h1, h2, _, h4, _⟩ => ⟨(B, c), h1, h4, h2⟩) h
theorem GSrc.sps {w : World} {A : Option Addr} {l : List Stp} {ds : List (Option Addr × Nat)} (h : GSrc kOp w A l ds) (hb : ∀ o ∈ l, I64 o.at_ ∧ I64 o.len ∧ o.data.length ≤ 1048576) : Sps w A l :=
  elems_of (K := kOp) (R := rOp) h fun x hx e h1 h2 => ⟨e.1, e.2, rfl, h2, (hb x hx).2.2, h1, (hb x hx).1, (hb x hx).2.1⟩
/-- The bounds that go with a chunk. -/
def ChkB (x : Chk) : Prop := x.data.length ≤ 1048576 ∧ I64 x.from_ ∧ I64 x.to_ ∧ I64 x.n ∧ I64 x.of_
theorem Chs.gsrc {w : World} {A : Option Addr} {l : List Chk} (h : Chs w A l) : ∃ ds, GSrc kChk w A l ds :=
  gsrc_of (K := kChk) (R := rChk) (fun cs x ⟨B, c, h1, h2⟩ => ⟨(B, c), h1, h2.data, h2.cap⟩) h
theorem GSrc.chs {w : World} {A : Option Addr} {l : List Chk} {ds : List (Option Addr × Nat)} (h : GSrc kChk w A l ds) (hb : ∀ x ∈ l, ChkB x) : Chs w A l :=
  elems_of (K := kChk) (R := rChk) h fun x hx e h1 h2 => ⟨e.1, e.2, rfl, h2, (hb x hx).1, h1, (hb x hx).2.1, (hb x hx).2.2.1, (hb x hx).2.2.2.1, (hb x hx).2.2.2.2⟩
theorem Chs.bound {w : World} {A : Option Addr} {l : List Chk} (h : Chs w A l) : ∀ x ∈ l, ChkB x := by
  intro x hx
  obtain ⟨i, hi, rfl⟩ := List.mem_iff_getElem.1 hx
  obtain ⟨b, o, _, _, cs, _, _, B, c, _, h1⟩ := h i hi
  exact ⟨h1.len, h1.i0, h1.i1, h1.i2, h1.i3⟩
theorem Sps.bound {w : World} {A : Option Addr} {l : List Stp} (h : Sps w A l) : ∀ o ∈ l, I64 o.at_ ∧ I64 o.len ∧ o.data.length ≤ 1048576 := by
  intro x hx
  obtain ⟨i, hi, rfl⟩ := List.mem_iff_getElem.1 hx
  obtain ⟨b, o, _, _, cs, _, _, B, c, _, h1, h2, h3, h4, h5⟩ := h i hi
  exact ⟨h4, h5, h2⟩
theorem Ims.gsrc {w : World} {A : Option Addr} {l : List (List UInt8)} (h : Ims w A l) : ∃ ds, GSrc kImg w A l ds :=
  gsrc_of (K := kImg) (R := rImg) (fun cs x ⟨B, c, h1, h2, h3, h4⟩ => ⟨(B, c), h1, h4, h2⟩) h
theorem GSrc.ims {w : World} {A : Option Addr} {l : List (List UInt8)} {ds : List (Option Addr × Nat)} (h : GSrc kImg w A l ds) (hb : ∀ x ∈ l, x.length ≤ 1048576) : Ims w A l :=
  elems_of (K := kImg) (R := rImg) h fun x hx e h1 h2 => ⟨e.1, e.2, rfl, h2, hb x hx, h1⟩
theorem Ims.bound {w : World} {A : Option Addr} {l : List (List UInt8)} (h : Ims w A l) : ∀ x ∈ l, x.length ≤ 1048576 := by
  intro x hx
  obtain ⟨i, hi, rfl⟩ := List.mem_iff_getElem.1 hx
  obtain ⟨b, o, _, _, cs, _, _, B, c, _, h1, h2, h3⟩ := h i hi
  exact h2
end Go.Proofs.Ytefkfglkpebbmac
