/- What the arguments of a law are, by their kinds: out of the form's own reading. No conditions. -/
import Derived.Test.YtefkfglkpebbmacFrame
namespace Go.Proofs.Ytefkfglkpebbmac
open Go.RowKit Go.WideShapes Go.ChangeShapes Go.ChangeAt
set_option linter.unusedVariables false

def ArgInt (v : Value) (x : Int) : Prop := v = .int .i64 x ∧ -9223372036854775808 ≤ x ∧ x ≤ 9223372036854775807
def ArgBool (v : Value) (x : Bool) : Prop := v = .bool x
def ArgSlice {α : Type} (size : Nat) (R : CR α) (W : World) (v : Value) (xs : List α) (M : Nat := 140737488351232) : Prop :=
  ∃ A c, v = .slice A xs.length c ∧ xs.length ≤ c ∧ xs.length ≤ M ∧ Elems size R W A xs
def ArgBytes (W : World) (v : Value) (l : List UInt8) : Prop :=
  ∃ A c, v = .slice A l.length c ∧ l.length ≤ c ∧ l.length ≤ 140737488351232 ∧ Bts W A l
def ArgAgg {α : Type} (R : CR α) (W : World) (v : Value) (x : α) : Prop := ∃ cs : List Value, v = .agg cs.toArray ∧ R W cs x

section
variable {H : Type} {enc : TypeId × Value → H} {P : Program} {w : World} {base : Nat} {t : TypeId} {v : Value} {d : DataW H} {p : List MemPlace}
theorem cell_arg {c : Value} (h : v.cells.toList = [c]) (hv : ∀ cs, v ≠ .agg cs) : v = c := by
  cases v <;> simp_all [Value.cells]
theorem argInt_of (ht : P.underlying t = some (.int .i64)) (ho : Value.okWide P w .any base t v) (h : DataW.Trod enc P w 0 (fun _ => true) true t v d p) (hb : Wt P t d) : ∃ x, ArgInt v x := by
  obtain ⟨x, hx⟩ := arg_read h (readBy_int ht) hb
  refine ⟨x, cell_arg hx.1 (fun cs e => ?_), hx.2⟩
  subst e
  simp [Value.okWide, ht, Cell.okWide, Cell.ok] at ho
theorem argBool_of (ht : P.underlying t = some .bool) (ho : Value.okWide P w .any base t v) (h : DataW.Trod enc P w 0 (fun _ => true) true t v d p) (hb : Wt P t d) : ∃ x, ArgBool v x := by
  obtain ⟨x, hx⟩ := arg_read h (readBy_bool ht) hb
  refine ⟨x, cell_arg hx (fun cs e => ?_)⟩
  subst e
  simp [Value.okWide, ht, Cell.okWide, Cell.ok] at ho
theorem argSliceM_of {α : Type} {R : CR α} {e : TypeId} {size M : Nat} (ht : P.underlying t = some (.slice e)) (hs : P.cellsOf e = size) (hs0 : 0 < size)
    (hR : ReadBy enc P w (fun _ => true) true e R) (ho : Value.okWide P w .any base t v) (h : DataW.Trod enc P w 0 (fun _ => true) true t v d p) (hb : Wt P t d) (hM : ∀ n, 0 < P.bytesOf e → n * P.bytesOf e ≤ 140737488351232 → n ≤ M) : ∃ xs, ArgSlice size R w v xs M := by
  obtain ⟨xs, A, c, hx, h1, h2, h3⟩ := arg_read h (readBy_sliceM ht hs hs0 hR hM) hb
  obtain ⟨a, len, cap, rfl⟩ := okWide_slice ht ho
  refine ⟨xs, A, c, cell_arg hx (fun cs e => by cases e), h1, h2, h3⟩
theorem argSlice_of {α : Type} {R : CR α} {e : TypeId} {size : Nat} (ht : P.underlying t = some (.slice e)) (hs : P.cellsOf e = size) (hs0 : 0 < size)
    (hR : ReadBy enc P w (fun _ => true) true e R) (ho : Value.okWide P w .any base t v) (h : DataW.Trod enc P w 0 (fun _ => true) true t v d p) (hb : Wt P t d) : ∃ xs, ArgSlice size R w v xs := argSliceM_of ht hs hs0 hR ho h hb fun _ h1 h2 => Nat.le_trans (Nat.le_mul_of_pos_right _ h1) h2
theorem argBytes_of {e : TypeId} (ht : P.underlying t = some (.slice e)) (he : P.underlying e = some (.int .u8)) (hs : P.cellsOf e = 1)
    (ho : Value.okWide P w .any base t v) (h : DataW.Trod enc P w 0 (fun _ => true) true t v d p) (hb : Wt P t d) : ∃ xs, ArgBytes w v xs := by
  obtain ⟨xs, A, c, hv, h1, h2, h3⟩ := argSlice_of ht hs (by omega) (readBy_byte he) ho h hb
  exact ⟨xs, A, c, hv, h1, h2, h3.bts⟩
theorem argAgg_of {α : Type} {R : CR α} (ht : (∃ fs, P.underlying t = some (.struct fs)) ∨ ∃ n e, P.underlying t = some (.array n e))
    (hR : ReadBy enc P w (fun _ => true) true t R) (ho : Value.okWide P w .any base t v) (h : DataW.Trod enc P w 0 (fun _ => true) true t v d p) (hb : Wt P t d) : ∃ x, ArgAgg R w v x := by
  obtain ⟨x, hx⟩ := arg_read h hR hb
  have : ∃ cs, v = .agg cs := by
    rcases ht with ⟨fs, ht⟩ | ⟨n, e, ht⟩ <;> simp only [Value.okWide, ht] at ho <;> exact ⟨_, ho.choose_spec.1⟩
  obtain ⟨cs, rfl⟩ := this
  exact ⟨x, cs.toList, by simp, hx⟩
end
end Go.Proofs.Ytefkfglkpebbmac
