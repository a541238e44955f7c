/- The statement RecordStarts (its second form): the law returns true at every input whose bulk is within the bound, and leaves its arguments alone. Condition: the bulk of the arguments is at most 1048576. -/
import Derived.Test.YtefkfglkpebbmaaRecordStarts
import Derived.Test.YtefkfglkpebbmaaArgs
import Derived.Test.YtefkfglkpebbmaaRecArgs
namespace Go.Proofs.Ytefkfglkpebbmaa.recordStarts
open Go.RowKit Go.WideShapes Go.ChangeShapes Go.ChangeAt
set_option linter.unusedVariables false

set_option maxRecDepth 100000 in
theorem all {H : Type} (enc : TypeId × Value → H) (W : World) (base : Nat) (args : Array Value) (ds : List (DataW H)) (p : List MemPlace)
    (hA : DataW.TrodAll enc Try.prog W 0 (fun _ => true) true Try.f9.params.toList args.toList ds p)
    (hval : ∀ (j : Nat) t v, Try.f9.params[j]? = some t → args[j]? = some v → Value.okWide Try.prog W .any base t v) (hb : Rows.uptoBulkAll ds ≤ 1048576) :
    Calls Try.prog 9 args W (RetB W (.bool true)) := by
  rw [Try.params9] at hA hval
  obtain ⟨v0, vs0, d0, ds0, p0, q0, hargs, rfl, rfl, h0, r0⟩ := trodAll_cons hA
  obtain ⟨rfl, rfl, rfl⟩ := trodAll_nil r0
  obtain rfl : args = #[v0] := by cases args; simp_all
  simp only [Rows.uptoBulkAll] at hb
  obtain ⟨x0, g0⟩ := argRec_of (hval 0 44 v0 rfl rfl) h0 (by omega)
  exact RecordStarts_walk W v0 x0 g0

theorem spec_fn {H : Type} (ds : List (DataW H)) (h : ds.length = Try.f9.params.size) : Rows.recordStartsSpec.fn H (ds ++ []) = { results := [.lit (.bool true)], args := ds } := by
  rw [Try.params9] at h
  match ds, h with
  | [d0], _ => rfl

set_option maxRecDepth 100000 in
theorem lifted (os : Os) (started : os.Started) (H : Type) (enc : TypeId × Value → H) (F : Stop.Interp) :
    ReturnsInHanded {} Try.checked os 9 .any ((Rows.OpenSpec.upto Rows.recordStartsSpec).pre6 enc Try.prog Try.f9 Rows.recordStartsUptoRow.domain false) (((Rows.OpenSpec.upto Rows.recordStartsSpec).at F).post enc Try.prog Try.f9 false true false false) := by
  refine returnsInHanded_of_cond (C := Try.checked) (s := Rows.OpenSpec.upto Rows.recordStartsSpec) (k := Rows.uptoSmall) rfl own started (by kernel_rfl) Try.func9
    (OpenSpec.witness (enc := enc) (C := Try.checked) (s := Rows.OpenSpec.upto Rows.recordStartsSpec) (k := Rows.uptoSmall) rfl false ⟨#[], #[.agg #[.int .i64 0, .int .i64 0, .bool false, .int .i64 0, .int .i64 0, .int .i64 0, .int .i64 0, .int .i64 0, .int .i64 0, .int .i64 0, .int .i64 0]], []⟩ 8 (by kernel_rfl) (by kernel_rfl) (by kernel_rfl)
      (x := ([.agg [.lit (.int .i64 0), .lit (.int .i64 0), .lit (.bool false), .lit (.int .i64 0), .lit (.int .i64 0), .agg [.agg [.lit (.int .i64 0), .lit (.int .i64 0), .lit (.int .i64 0)], .agg [.lit (.int .i64 0), .lit (.int .i64 0), .lit (.int .i64 0)]]]], [], [])) (by kernel_rfl) rfl (by kernel_rfl)) ?_
  intro W base args ds gs before hval hW _ hk _
  exact contract_of laidOut 9 Try.f9 Rows.recordStartsSpec F 4 Try.underlying4 (by kernel_rfl) (by kernel_rfl) (by kernel_rfl) spec_fn rfl (all enc) W base args ds gs before hval hW hk

theorem over : Rows.recordStartsUptoRow.holds Try.pinned (Rows.OpenSpec.upto Rows.recordStartsSpec) :=
  OpenClaim.holds_of_cond 9 Try.f9 rfl rfl rfl rfl rfl rfl rfl ⟨rfl, rfl, rfl, rfl, rfl⟩ rfl rfl rfl rfl rfl (by kernel_rfl) Try.func9 (by kernel_rfl)
    (of_decide_eq_true (by kernel_rfl)) (by unfold Func.isWrapper; first | (rw [if_pos (by decide +kernel)]; kernel_rfl) | (rw [if_neg (by decide +kernel)]; exact ⟨rfl, rfl⟩))
    (fun os started H enc _ F => lifted os started H enc F)

theorem proved : Rows.RecordStartsUptoSaid := over
#print axioms proved
end Go.Proofs.Ytefkfglkpebbmaa.recordStarts
