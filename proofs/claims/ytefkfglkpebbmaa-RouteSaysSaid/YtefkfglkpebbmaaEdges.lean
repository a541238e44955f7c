/- Edges in memory: slices of them that read as lists; arguments that are such. No conditions. -/
import Derived.Test.YtefkfglkpebbmaaArgs
import Derived.Test.YtefkfglkpebbmaaRouteMath
namespace Go.Proofs.Ytefkfglkpebbmaa
open Go.RowKit Go.WideShapes Go.ChangeShapes Go.ChangeAt
set_option linter.unusedVariables false

def In64 (n : Int) : Prop := -9223372036854775808 ≤ n ∧ n ≤ 9223372036854775807
def edgV (x : Edg) : List Value := [iv x.f, iv x.t, iv x.c]
def rEdge : CR Edg := fun _ cs x => cs = edgV x ∧ In64 x.f ∧ In64 x.t ∧ In64 x.c
theorem stays_edge : Stays rEdge := fun _ _ _ _ h _ => h
/-- The edges of a slice that starts at A. -/
def Eds (w : World) (A : Option Addr) (l : List Edg) : Prop :=
  ∀ i, (h : i < l.length) → ∃ b o, A = some ⟨b, o, none⟩ ∧ b < w.heap.size ∧ w.cell? ⟨b, o + i * 3, none⟩ = some (iv l[i].f) ∧ w.cell? ⟨b, o + i * 3 + 1, none⟩ = some (iv l[i].t) ∧ w.cell? ⟨b, o + i * 3 + 2, none⟩ = some (iv l[i].c)
theorem Eds.stays {w w' : World} {A : Option Addr} {l : List Edg} (h : Eds w A l) (hb : Below w.heap.size w w') : Eds w' A l := by
  intro i hi
  obtain ⟨b, o, rfl, hlt, h0, h1, h2⟩ := h i hi
  exact ⟨b, o, rfl, Nat.lt_of_lt_of_le hlt hb.size, (hb.cell (p := ⟨b, _, none⟩) hlt).trans h0, (hb.cell (p := ⟨b, _, none⟩) hlt).trans h1, (hb.cell (p := ⟨b, _, none⟩) hlt).trans h2⟩
theorem Eds.take {w : World} {A : Option Addr} {l : List Edg} (h : Eds w A l) (k : Nat) : Eds w A (l.take k) := by
  intro i hi
  obtain ⟨b, o, hA, hlt, hc⟩ := h i (by simp only [List.length_take] at hi; omega)
  refine ⟨b, o, hA, hlt, ?_⟩
  simpa using hc
theorem Elems.eds {w : World} {A : Option Addr} {l : List Edg} (h : Elems 3 rEdge w A l) : Eds w A l ∧ ∀ x ∈ l, In64 x.f ∧ In64 x.t ∧ In64 x.c := by
  refine ⟨fun i hi => ?_, fun x hx => ?_⟩
  · obtain ⟨b, o, rfl, hlt, cs, hl, hc, hr, _⟩ := h i hi
    subst hr
    exact ⟨b, o, rfl, hlt, hc 0 (by simp [edgV]), hc 1 (by simp [edgV]), hc 2 (by simp [edgV])⟩
  · obtain ⟨i, hi, rfl⟩ := List.mem_iff_getElem.1 hx
    obtain ⟨b, o, rfl, hlt, cs, hl, hc, hr, h64⟩ := h i hi
    exact h64
section
variable {H : Type} {enc : TypeId × Value → H} {P : Program} {w : World} {sp : Nat → Bool} {held : Bool}
theorem readBy_edge {t : TypeId} {f0 f1 f2 : Field} (ht : P.underlying t = some (.struct #[f0, f1, f2])) (hs : P.cellsOf t = 3)
    (o0 : f0.offset = 0) (o1 : f1.offset = 1) (o2 : f2.offset = 2) (k0 : P.cellsOf f0.type = 1) (k1 : P.cellsOf f1.type = 1) (k2 : P.cellsOf f2.type = 1)
    (t0 : P.underlying f0.type = some (.int .i64)) (t1 : P.underlying f1.type = some (.int .i64)) (t2 : P.underlying f2.type = some (.int .i64)) : ReadBy enc P w sp held t rEdge := by
  intro fuel cs d ps h hb
  obtain ⟨hl, hf⟩ := field_of ht h hb
  obtain ⟨a, ha⟩ := hf 0 f0 rfl (readBy_int t0)
  obtain ⟨b, hb⟩ := hf 1 f1 rfl (readBy_int t1)
  obtain ⟨c, hc⟩ := hf 2 f2 rfl (readBy_int t2)
  rw [hs] at hl
  match cs, hl with
  | [x, y, z], _ =>
    rw [o0, k0] at ha
    rw [o1, k1] at hb
    rw [o2, k2] at hc
    obtain ⟨ha, ha'⟩ := ha
    obtain ⟨hb, hb'⟩ := hb
    obtain ⟨hc, hc'⟩ := hc
    simp at ha hb hc
    subst ha hb hc
    exact ⟨⟨a, b, c⟩, rfl, ha', hb', hc'⟩
end
def ArgEdges (W : World) (v : Value) (l : List Edg) : Prop := ∃ A c, v = .slice A l.length c ∧ l.length ≤ c ∧ l.length ≤ 140737488351232 ∧ Eds W A l ∧ ∀ x ∈ l, In64 x.f ∧ In64 x.t ∧ In64 x.c
set_option maxRecDepth 100000 in
theorem argEdges_of {H : Type} {enc : TypeId × Value → H} {w : World} {base : Nat} {v : Value} {d : DataW H} {p : List MemPlace}
    (ho : Value.okWide Try.prog w .any base 66 v) (h : DataW.Trod enc Try.prog w 0 (fun _ => true) true 66 v d p) (hb : Wt Try.prog 66 d) : ∃ xs, ArgEdges w v xs := by
  obtain ⟨xs, A, c, hv, h1, h2, h3⟩ := argSlice_of Try.underlying66 (by kernel_rfl : Try.prog.cellsOf 74 = 3) (by omega)
    (readBy_edge Try.underlying74 (by kernel_rfl) rfl rfl rfl (by kernel_rfl) (by kernel_rfl) (by kernel_rfl) Try.underlying3 Try.underlying3 Try.underlying3) ho h hb
  exact ⟨xs, A, c, hv, h1, h2, h3.eds.1, h3.eds.2⟩
end Go.Proofs.Ytefkfglkpebbmaa
