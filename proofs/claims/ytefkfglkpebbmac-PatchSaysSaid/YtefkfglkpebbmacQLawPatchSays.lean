/- The statement PatchSays (its first form): the law returns true at every input, and leaves its arguments alone. No conditions. -/
import Derived.Test.YtefkfglkpebbmacQPatchSays
import Derived.Test.YtefkfglkpebbmacQBase
namespace Go.Proofs.Ytefkfglkpebbmac.patchSays
open Go.RowKit Go.WideShapes Go.ChangeShapes Go.ChangeAt
set_option linter.unusedVariables false

set_option maxRecDepth 100000 in
theorem all {H : Type} (enc : TypeId × Value → H) (W : World) (base : Nat) (args : Array Value) (ds : List (DataW H)) (p : List MemPlace)
    (hA : DataW.TrodAll enc Try.prog W 0 (fun _ => true) true Try.f4.params.toList args.toList ds p)
    (hval : ∀ (j : Nat) t v, Try.f4.params[j]? = some t → args[j]? = some v → Value.okWide Try.prog W .any base t v) (hb : ∀ x ∈ DataW.weightsEach Try.prog Try.f4.params.toList ds, x ≤ 140737488351232) (hml : ML W) :
    Calls Try.prog 4 args W (RetB W (.bool true)) := by
  rw [Try.params4] at hA hval hb
  obtain ⟨v0, vs0, d0, ds0, p0, q0, hargs, rfl, rfl, h0, r0⟩ := trodAll_cons hA
  obtain ⟨v1, vs1, d1, ds1, p1, q1, rfl, rfl, rfl, h1, r1⟩ := trodAll_cons r0
  obtain ⟨v2, vs2, d2, ds2, p2, q2, rfl, rfl, rfl, h2, r2⟩ := trodAll_cons r1
  obtain ⟨v3, vs3, d3, ds3, p3, q3, rfl, rfl, rfl, h3, r3⟩ := trodAll_cons r2
  obtain ⟨v4, vs4, d4, ds4, p4, q4, rfl, rfl, rfl, h4, r4⟩ := trodAll_cons r3
  obtain ⟨v5, vs5, d5, ds5, p5, q5, rfl, rfl, rfl, h5, r5⟩ := trodAll_cons r4
  obtain ⟨rfl, rfl, rfl⟩ := trodAll_nil r5
  obtain rfl : args = #[v0, v1, v2, v3, v4, v5] := by cases args; simp_all
  simp only [DataW.weightsEach] at hb
  obtain ⟨x0, g0⟩ := argPatch_of (hval 0 35 v0 rfl rfl) h0 ⟨tyFine, of_decide_eq_true (by kernel_rfl), fun x hx => hb x (by simp [hx])⟩
  obtain ⟨x1, g1⟩ := argBytes_of Try.underlying22 Try.underlying5 (by kernel_rfl) (hval 1 22 v1 rfl rfl) h1 ⟨tyFine, of_decide_eq_true (by kernel_rfl), fun x hx => hb x (by simp [hx])⟩
  obtain ⟨x2, g2⟩ := argBytes_of Try.underlying22 Try.underlying5 (by kernel_rfl) (hval 2 22 v2 rfl rfl) h2 ⟨tyFine, of_decide_eq_true (by kernel_rfl), fun x hx => hb x (by simp [hx])⟩
  obtain ⟨x3, g3⟩ := argInt_of Try.underlying3 (hval 3 3 v3 rfl rfl) h3 ⟨tyFine, of_decide_eq_true (by kernel_rfl), fun x hx => hb x (by simp [hx])⟩
  obtain ⟨x4, g4⟩ := argInt_of Try.underlying3 (hval 4 3 v4 rfl rfl) h4 ⟨tyFine, of_decide_eq_true (by kernel_rfl), fun x hx => hb x (by simp [hx])⟩
  obtain ⟨x5, g5⟩ := argPatch_of (hval 5 35 v5 rfl rfl) h5 ⟨tyFine, of_decide_eq_true (by kernel_rfl), fun x hx => hb x (by simp [hx])⟩
  exact PatchSays_walk W v0 v1 v2 v3 v4 v5 x0 x1 x2 x3 x4 x5 g0 g1 g2 g3 g4 g5 hml

theorem spec_fn {H : Type} (ds : List (DataW H)) (h : ds.length = Try.f4.params.size) : Rows.patchSaysSpec.fn H (ds ++ []) = { results := [.lit (.bool true)], args := ds } := by
  rw [Try.params4] at h
  match ds, h with
  | [d0, d1, d2, d3, d4, d5], _ => rfl

set_option maxRecDepth 100000 in
theorem lifted (os : Os) (started : os.Started) (H : Type) (enc : TypeId × Value → H) :
    ReturnsInHanded {} Try.checked os 4 .any (Rows.patchSaysSpec.pre6 enc Try.prog Try.f4 Rows.patchSaysRow.domain false) (Rows.patchSaysSpec.post enc Try.prog Try.f4 false true false false) := by
  refine returnsInHanded_of_change_shaped (C := Try.checked) own started (by kernel_rfl) Try.func4
    (ChangeSpec.witness6 (enc := enc) (C := Try.checked) false ⟨#[], #[.agg #[.int .i64 0, .int .i64 0, .int .i64 0, .int .i64 0, .int .i64 0, .slice none 0 0], .slice none 0 0, .slice none 0 0, .int .i64 0, .int .i64 0, .agg #[.int .i64 0, .int .i64 0, .int .i64 0, .int .i64 0, .int .i64 0, .slice none 0 0]], []⟩ 8 (by kernel_rfl) (by kernel_rfl) (by kernel_rfl) (by kernel_rfl)) ?_
  intro W base args ds gs before hval hW _ hk hsh _
  exact contract_at laidOut 4 Try.f4 Rows.patchSaysSpec 4 Try.underlying4 (by kernel_rfl) (by kernel_rfl) (by kernel_rfl) spec_fn rfl W base args ds gs before (fun p hA hb => all enc W base args ds p hA hval hb (ml_of hsh)) hval hW hk

theorem proved : Rows.PatchSaysSaid :=
  OpenClaim.holds_of_wide 4 Try.f4 rfl rfl rfl rfl rfl rfl rfl ⟨rfl, rfl, rfl, rfl, rfl⟩ rfl rfl rfl rfl rfl (by kernel_rfl) Try.func4 (by kernel_rfl)
    (of_decide_eq_true (by kernel_rfl)) (by unfold Func.isWrapper; first | (rw [if_pos (by decide +kernel)]; kernel_rfl) | (rw [if_neg (by decide +kernel)]; exact ⟨rfl, rfl⟩))
    (fun os started H enc _ => lifted os started H enc)

#print axioms proved
end Go.Proofs.Ytefkfglkpebbmac.patchSays
