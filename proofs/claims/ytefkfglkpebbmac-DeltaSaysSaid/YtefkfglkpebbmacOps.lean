/- Steps in memory: slices of them that read as lists; arguments that are such. No conditions. -/
import Derived.Test.YtefkfglkpebbmacArgs
import Derived.Test.YtefkfglkpebbmacDeltaMath
namespace Go.Proofs.Ytefkfglkpebbmac
open Go.RowKit Go.WideShapes Go.ChangeShapes Go.ChangeAt
set_option linter.unusedVariables false

def I64 (n : Int) : Prop := -9223372036854775808 ≤ n ∧ n ≤ 9223372036854775807
def rOp : CR Stp := fun w cs o => ∃ B c, cs = [iv o.at_, iv o.len, .slice B o.data.length c] ∧ o.data.length ≤ c ∧ o.data.length ≤ 140737488351232 ∧ Bts w B o.data ∧ I64 o.at_ ∧ I64 o.len
theorem stays_op : Stays rOp := by
  rintro w w' cs o ⟨B, c, rfl, h1, h2, h3, h4, h5⟩ hb
  exact ⟨B, c, rfl, h1, h2, h3.stays hb, h4, h5⟩
/-- The steps of a slice that starts at A. -/
abbrev Sps (w : World) (A : Option Addr) (l : List Stp) : Prop := Elems 3 rOp w A l
theorem Sps.stays {w w' : World} {A : Option Addr} {l : List Stp} (h : Sps w A l) (hb : Below w.heap.size w w') : Sps w' A l := Elems.stays stays_op h hb
theorem Sps.nil (w : World) (A : Option Addr) : Sps w A [] := fun i hi => absurd hi (by simp)
/-- The cells of step i. -/
theorem Sps.at_ {w : World} {A : Option Addr} {l : List Stp} (h : Sps w A l) {i : Nat} (hi : i < l.length) : ∃ b o B c, A = some ⟨b, o, none⟩ ∧ b < w.heap.size ∧
    w.cell? ⟨b, o + i * 3, none⟩ = some (iv l[i].at_) ∧ w.cell? ⟨b, o + i * 3 + 1, none⟩ = some (iv l[i].len) ∧ w.cell? ⟨b, o + i * 3 + 2, none⟩ = some (.slice B l[i].data.length c) ∧
    l[i].data.length ≤ c ∧ l[i].data.length ≤ 140737488351232 ∧ Bts w B l[i].data ∧ I64 l[i].at_ ∧ I64 l[i].len := by
  obtain ⟨b, o, rfl, hlt, cs, hl, hc, B, c, rfl, h1, h2, h3, h4, h5⟩ := h i hi
  exact ⟨b, o, B, c, rfl, hlt, hc 0 (by simp), hc 1 (by simp), hc 2 (by simp), h1, h2, h3, h4, h5⟩
theorem Elems.take {α : Type} {size : Nat} {R : CR α} {w : World} {A : Option Addr} {l : List α} (h : Elems size R w A l) (k : Nat) : Elems size R w A (l.take k) := by
  intro i hi
  have hi' : i < l.length := by simp only [List.length_take] at hi; omega
  obtain ⟨b, o, hA, hlt, cs, hl, hc, hr⟩ := h i hi'
  exact ⟨b, o, hA, hlt, cs, hl, hc, by simpa using hr⟩
theorem Sps.drop {w : World} {b o : Nat} {l : List Stp} (h : Sps w (some ⟨b, o, none⟩) l) (k : Nat) : Sps w (some ⟨b, o + k * 3, none⟩) (l.drop k) := by
  intro i hi
  have hi' : k + i < l.length := by simp only [List.length_drop] at hi; omega
  obtain ⟨b', o', hA, hlt, cs, hl, hc, hr⟩ := h (k + i) hi'
  injection hA with hA
  injection hA with e1 e2
  subst e1 e2
  refine ⟨b, o + k * 3, rfl, hlt, cs, hl, fun j hj => ?_, by simpa using hr⟩
  have := hc j hj
  rwa [show o + (k + i) * 3 + j = o + k * 3 + i * 3 + j by omega] at this
section
variable {H : Type} {enc : TypeId × Value → H} {P : Program} {w : World} {sp : Nat → Bool} {held : Bool}
theorem bts_rSlice {cs : List Value} {l : List UInt8} (h : rSlice 1 rByte w cs l) : ∃ B c, cs = [.slice B l.length c] ∧ l.length ≤ c ∧ l.length ≤ 140737488351232 ∧ Bts w B l := by
  obtain ⟨A, c, rfl, h1, h2, h3⟩ := h
  exact ⟨A, c, rfl, h1, h2, h3.bts⟩
theorem readBy_op {t : TypeId} {f0 f1 f2 : Field} {e : TypeId} (ht : P.underlying t = some (.struct #[f0, f1, f2])) (hs : P.cellsOf t = 3)
    (o0 : f0.offset = 0) (o1 : f1.offset = 1) (o2 : f2.offset = 2) (k0 : P.cellsOf f0.type = 1) (k1 : P.cellsOf f1.type = 1) (k2 : P.cellsOf f2.type = 1)
    (t0 : P.underlying f0.type = some (.int .i64)) (t1 : P.underlying f1.type = some (.int .i64)) (t2 : P.underlying f2.type = some (.slice e)) (he : P.underlying e = some (.int .u8)) (hes : P.cellsOf e = 1) : ReadBy enc P w sp held t rOp := by
  intro fuel cs d ps h hb
  obtain ⟨hl, hf⟩ := field_of ht h hb
  obtain ⟨a, ha⟩ := hf 0 f0 rfl (readBy_int t0)
  obtain ⟨b, hb⟩ := hf 1 f1 rfl (readBy_int t1)
  obtain ⟨c, hc⟩ := hf 2 f2 rfl (readBy_slice t2 hes (by omega) (readBy_byte he))
  rw [hs] at hl
  match cs, hl with
  | [x, y, z], _ =>
    rw [o0, k0] at ha
    rw [o1, k1] at hb
    rw [o2, k2] at hc
    obtain ⟨ha, ha'⟩ := ha
    obtain ⟨hb, hb'⟩ := hb
    obtain ⟨B, n, hz, h1, h2, h3⟩ := bts_rSlice hc
    simp at ha hb hz
    subst ha hb hz
    exact ⟨⟨a, b, c⟩, B, n, rfl, h1, h2, h3, ha', hb'⟩
end
def ArgOps (W : World) (v : Value) (l : List Stp) : Prop := ∃ A c, v = .slice A l.length c ∧ l.length ≤ c ∧ l.length ≤ 3518437208780 ∧ Sps W A l
set_option maxRecDepth 100000 in
theorem reads_op {H : Type} {enc : TypeId × Value → H} {w : World} {sp : Nat → Bool} {held : Bool} : ReadBy enc Try.prog w sp held 117 rOp :=
  readBy_op Try.underlying117 (by kernel_rfl) rfl rfl rfl (by kernel_rfl) (by kernel_rfl) (by kernel_rfl) Try.underlying3 Try.underlying3 Try.underlying22 Try.underlying5 (by kernel_rfl)
set_option maxRecDepth 100000 in
theorem argOps_of {H : Type} {enc : TypeId × Value → H} {w : World} {base : Nat} {v : Value} {d : DataW H} {p : List MemPlace}
    (ho : Value.okWide Try.prog w .any base 23 v) (h : DataW.Trod enc Try.prog w 0 (fun _ => true) true 23 v d p) (hb : Wt Try.prog 23 d) : ∃ xs, ArgOps w v xs := by
  obtain ⟨xs, A, c, hv, h1, h2, h3⟩ := argSliceM_of (M := 3518437208780) Try.underlying23 (by kernel_rfl : Try.prog.cellsOf 117 = 3) (by omega) reads_op ho h hb (fun n _ h => by rw [(by kernel_rfl : Try.prog.bytesOf 117 = 40)] at h; omega)
  exact ⟨xs, A, c, hv, h1, h2, h3⟩
end Go.Proofs.Ytefkfglkpebbmac
