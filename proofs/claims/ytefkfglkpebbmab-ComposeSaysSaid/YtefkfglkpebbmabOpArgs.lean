/- Arguments that are patches, chunks, slices of chunks or of ints: what their cells read as. No conditions. -/
import Derived.Test.YtefkfglkpebbmabOps
import Derived.Test.YtefkfglkpebbmabChunkMath
namespace Go.Proofs.Ytefkfglkpebbmab
open Go.RowKit Go.WideShapes Go.ChangeShapes Go.ChangeAt
set_option linter.unusedVariables false

/-- The cells of a patch, its steps from A on. -/
abbrev patC (p : Pat) (A : Option Addr) (c : Nat) : List Value := [iv p.from_, iv p.to_, iv p.old, iv p.new_, iv p.size, .slice A p.ops.length c]
structure PatIn (w : World) (p : Pat) (A : Option Addr) (c : Nat) : Prop where
  cap : p.ops.length ≤ c
  len : p.ops.length ≤ 140737488351232
  ops : Sps w A p.ops
  i0 : I64 p.from_
  i1 : I64 p.to_
  i2 : I64 p.old
  i3 : I64 p.new_
  i4 : I64 p.size
theorem PatIn.stays {w w' : World} {p : Pat} {A : Option Addr} {c : Nat} (h : PatIn w p A c) (hb : Below w.heap.size w w') : PatIn w' p A c :=
  ⟨h.cap, h.len, h.ops.stays hb, h.i0, h.i1, h.i2, h.i3, h.i4⟩
def rPat : CR Pat := fun w cs p => ∃ A c, cs = patC p A c ∧ PatIn w p A c
theorem stays_pat : Stays rPat := by
  rintro w w' cs p ⟨A, c, rfl, h⟩ hb
  exact ⟨A, c, rfl, h.stays hb⟩
/-- The cells of a chunk, its data from A on. -/
abbrev chkC (x : Chk) (A : Option Addr) (c : Nat) : List Value := [iv x.from_, iv x.to_, iv x.n, iv x.of_, .slice A x.data.length c]
structure ChkIn (w : World) (x : Chk) (A : Option Addr) (c : Nat) : Prop where
  cap : x.data.length ≤ c
  len : x.data.length ≤ 140737488351232
  data : Bts w A x.data
  i0 : I64 x.from_
  i1 : I64 x.to_
  i2 : I64 x.n
  i3 : I64 x.of_
theorem ChkIn.stays {w w' : World} {x : Chk} {A : Option Addr} {c : Nat} (h : ChkIn w x A c) (hb : Below w.heap.size w w') : ChkIn w' x A c :=
  ⟨h.cap, h.len, h.data.stays hb, h.i0, h.i1, h.i2, h.i3⟩
def rChk : CR Chk := fun w cs x => ∃ A c, cs = chkC x A c ∧ ChkIn w x A c
theorem stays_chk : Stays rChk := by
  rintro w w' cs p ⟨A, c, rfl, h⟩ hb
  exact ⟨A, c, rfl, h.stays hb⟩
abbrev Chs (w : World) (A : Option Addr) (l : List Chk) : Prop := Elems 5 rChk w A l
theorem Chs.stays {w w' : World} {A : Option Addr} {l : List Chk} (h : Chs w A l) (hb : Below w.heap.size w w') : Chs w' A l := Elems.stays stays_chk h hb
theorem Chs.nil (w : World) (A : Option Addr) : Chs w A [] := fun i hi => absurd hi (by simp)
/-- The cells of chunk i. -/
theorem Chs.at_ {w : World} {A : Option Addr} {l : List Chk} (h : Chs w A l) {i : Nat} (hi : i < l.length) : ∃ b o B c, A = some ⟨b, o, none⟩ ∧ b < w.heap.size ∧
    w.cell? ⟨b, o + i * 5, none⟩ = some (iv l[i].from_) ∧ w.cell? ⟨b, o + i * 5 + 1, none⟩ = some (iv l[i].to_) ∧ w.cell? ⟨b, o + i * 5 + 2, none⟩ = some (iv l[i].n) ∧ w.cell? ⟨b, o + i * 5 + 3, none⟩ = some (iv l[i].of_) ∧
    w.cell? ⟨b, o + i * 5 + 4, none⟩ = some (.slice B l[i].data.length c) ∧ ChkIn w l[i] B c := by
  obtain ⟨b, o, rfl, hlt, cs, hl, hc, B, c, rfl, h1⟩ := h i hi
  exact ⟨b, o, B, c, rfl, hlt, hc 0 (by simp), hc 1 (by simp), hc 2 (by simp), hc 3 (by simp), hc 4 (by simp), h1⟩
section
variable {H : Type} {enc : TypeId × Value → H} {P : Program} {w : World} {sp : Nat → Bool} {held : Bool}
theorem readBy_pat {t e : TypeId} {f0 f1 f2 f3 f4 f5 : Field} (ht : P.underlying t = some (.struct #[f0, f1, f2, f3, f4, f5])) (hs : P.cellsOf t = 6)
    (o0 : f0.offset = 0) (o1 : f1.offset = 1) (o2 : f2.offset = 2) (o3 : f3.offset = 3) (o4 : f4.offset = 4) (o5 : f5.offset = 5)
    (k0 : P.cellsOf f0.type = 1) (k1 : P.cellsOf f1.type = 1) (k2 : P.cellsOf f2.type = 1) (k3 : P.cellsOf f3.type = 1) (k4 : P.cellsOf f4.type = 1) (k5 : P.cellsOf f5.type = 1)
    (t0 : P.underlying f0.type = some (.int .i64)) (t1 : P.underlying f1.type = some (.int .i64)) (t2 : P.underlying f2.type = some (.int .i64)) (t3 : P.underlying f3.type = some (.int .i64)) (t4 : P.underlying f4.type = some (.int .i64))
    (t5 : P.underlying f5.type = some (.slice e)) (he : P.cellsOf e = 3) (hR : ReadBy enc P w sp held e rOp) : ReadBy enc P w sp held t rPat := by
  intro fuel cs d ps h hb
  obtain ⟨hl, hf⟩ := field_of ht h hb
  obtain ⟨a0, h0⟩ := hf 0 f0 rfl (readBy_int t0)
  obtain ⟨a1, h1⟩ := hf 1 f1 rfl (readBy_int t1)
  obtain ⟨a2, h2⟩ := hf 2 f2 rfl (readBy_int t2)
  obtain ⟨a3, h3⟩ := hf 3 f3 rfl (readBy_int t3)
  obtain ⟨a4, h4⟩ := hf 4 f4 rfl (readBy_int t4)
  obtain ⟨a5, h5⟩ := hf 5 f5 rfl (readBy_slice t5 he (by omega) hR)
  rw [hs] at hl
  rw [o0, k0] at h0
  rw [o1, k1] at h1
  rw [o2, k2] at h2
  rw [o3, k3] at h3
  rw [o4, k4] at h4
  rw [o5, k5] at h5
  match cs, hl with
  | [c0, c1, c2, c3, c4, c5], _ =>
    obtain ⟨h0, g0⟩ := h0
    obtain ⟨h1, g1⟩ := h1
    obtain ⟨h2, g2⟩ := h2
    obtain ⟨h3, g3⟩ := h3
    obtain ⟨h4, g4⟩ := h4
    obtain ⟨A, c, h5, g5, g6, g7⟩ := h5
    simp at h0 h1 h2 h3 h4 h5
    subst h0 h1 h2 h3 h4 h5
    exact ⟨⟨a0, a1, a2, a3, a4, a5⟩, A, c, rfl, g5, g6, g7, g0, g1, g2, g3, g4⟩
theorem readBy_chk {t e : TypeId} {f0 f1 f2 f3 f4 : Field} (ht : P.underlying t = some (.struct #[f0, f1, f2, f3, f4])) (hs : P.cellsOf t = 5)
    (o0 : f0.offset = 0) (o1 : f1.offset = 1) (o2 : f2.offset = 2) (o3 : f3.offset = 3) (o4 : f4.offset = 4)
    (k0 : P.cellsOf f0.type = 1) (k1 : P.cellsOf f1.type = 1) (k2 : P.cellsOf f2.type = 1) (k3 : P.cellsOf f3.type = 1) (k4 : P.cellsOf f4.type = 1)
    (t0 : P.underlying f0.type = some (.int .i64)) (t1 : P.underlying f1.type = some (.int .i64)) (t2 : P.underlying f2.type = some (.int .i64)) (t3 : P.underlying f3.type = some (.int .i64))
    (t4 : P.underlying f4.type = some (.slice e)) (te : P.underlying e = some (.int .u8)) (he : P.cellsOf e = 1) : ReadBy enc P w sp held t rChk := by
  intro fuel cs d ps h hb
  obtain ⟨hl, hf⟩ := field_of ht h hb
  obtain ⟨a0, h0⟩ := hf 0 f0 rfl (readBy_int t0)
  obtain ⟨a1, h1⟩ := hf 1 f1 rfl (readBy_int t1)
  obtain ⟨a2, h2⟩ := hf 2 f2 rfl (readBy_int t2)
  obtain ⟨a3, h3⟩ := hf 3 f3 rfl (readBy_int t3)
  obtain ⟨a4, h4⟩ := hf 4 f4 rfl (readBy_slice t4 he (by omega) (readBy_byte te))
  rw [hs] at hl
  rw [o0, k0] at h0
  rw [o1, k1] at h1
  rw [o2, k2] at h2
  rw [o3, k3] at h3
  rw [o4, k4] at h4
  match cs, hl with
  | [c0, c1, c2, c3, c4], _ =>
    obtain ⟨h0, g0⟩ := h0
    obtain ⟨h1, g1⟩ := h1
    obtain ⟨h2, g2⟩ := h2
    obtain ⟨h3, g3⟩ := h3
    obtain ⟨A, c, q4, g5, g6, g7⟩ := bts_rSlice h4
    simp at h0 h1 h2 h3 q4
    subst h0 h1 h2 h3 q4
    exact ⟨⟨a0, a1, a2, a3, a4⟩, A, c, rfl, g5, g6, g7, g0, g1, g2, g3⟩
end
def ArgPat (W : World) (v : Value) (p : Pat) : Prop := ∃ A c, v = .agg (patC p A c).toArray ∧ PatIn W p A c
def ArgChk (W : World) (v : Value) (x : Chk) : Prop := ∃ A c, v = .agg (chkC x A c).toArray ∧ ChkIn W x A c
def ArgChks (W : World) (v : Value) (l : List Chk) : Prop := ∃ A c, v = .slice A l.length c ∧ l.length ≤ c ∧ l.length ≤ 140737488351232 ∧ Chs W A l
def ArgInts (W : World) (v : Value) (l : List Int) : Prop := ∃ A c, v = .slice A l.length c ∧ l.length ≤ c ∧ l.length ≤ 140737488351232 ∧ Nts W A l ∧ ∀ x ∈ l, I64 x
end Go.Proofs.Ytefkfglkpebbmab
