/- The statement ChunkSays (its second form): the law returns true at every input whose bulk is within the bound, and leaves its arguments alone. Condition: the bulk of the arguments is at most 1048576. -/
import Derived.Test.YtefkfglkpebbmacPXChunkSays
set_option linter.unusedVariables false
set_option linter.unusedSimpArgs false
set_option maxRecDepth 100000
set_option maxHeartbeats 40000000
namespace Go.Proofs.Ytefkfglkpebbmac.chunkSays
open Go.RowKit Go.WideShapes Go.ChangeShapes Go.ChangeAt
theorem all {H : Type} (enc : TypeId × Value → H) (W : World) (base : Nat) (args : Array Value) (ds : List (DataW H)) (p : List MemPlace)
  (hA : DataW.TrodAll enc Try.prog W 0 (fun _ => true) true Try.f7.params.toList args.toList ds p)
  (hval : ∀ (j : Nat) t v, Try.f7.params[j]? = some t → args[j]? = some v → Value.okWide Try.prog W .any base t v) (hb : Rows.uptoBulkAll ds ≤ 1048576) (hml : ML W) :
  Calls Try.prog 7 args W (RetB W (.bool true)) := by
 rw [Try.params7] at hA hval
 obtain ⟨v0, vs0, d0, ds0, p0, q0, hargs, rfl, rfl, h0, r0⟩ := trodAll_cons hA
 obtain ⟨v1, vs1, d1, ds1, p1, q1, rfl, rfl, rfl, h1, r1⟩ := trodAll_cons r0
 obtain ⟨v2, vs2, d2, ds2, p2, q2, rfl, rfl, rfl, h2, r2⟩ := trodAll_cons r1
 obtain ⟨v3, vs3, d3, ds3, p3, q3, rfl, rfl, rfl, h3, r3⟩ := trodAll_cons r2
 obtain ⟨rfl, rfl, rfl⟩ := trodAll_nil r3
 obtain rfl : args = #[v0, v1, v2, v3] := by cases args; simp_all
 simp only [Rows.uptoBulkAll] at hb
 obtain ⟨x0, g0⟩ := argChunks_of (hval 0 43 v0 rfl rfl) h0 (by omega)
 obtain ⟨x1, g1⟩ := argChunk_of (hval 1 49 v1 rfl rfl) h1 (by omega)
 obtain ⟨x2, g2⟩ := argPatch_of (hval 2 35 v2 rfl rfl) h2 (by omega)
 obtain ⟨x3, g3⟩ := argChunks_of (hval 3 43 v3 rfl rfl) h3 (by omega)
 exact ChunkSays_walk W v0 v1 v2 v3 x0 x1 x2 x3 g0 g1 g2 g3 hml
theorem spec_fn {H : Type} (ds : List (DataW H)) (h : ds.length = Try.f7.params.size) : Rows.chunkSaysSpec.fn H (ds ++ []) = { results := [.lit (.bool true)], args := ds } := by
 rw [Try.params7] at h
 match ds, h with
 | [d0, d1, d2, d3], _ => rfl
theorem lifted (os : Os) (started : os.Started) (H : Type) (enc : TypeId × Value → H) (F : Stop.Interp) :
  ReturnsInHanded {} Try.checked os 7 .any ((Rows.OpenSpec.upto Rows.chunkSaysSpec).pre6 enc Try.prog Try.f7 Rows.chunkSaysUptoRow.domain false) (((Rows.OpenSpec.upto Rows.chunkSaysSpec).at F).post enc Try.prog Try.f7 false true false false) := by
 refine handed_shaped (C := Try.checked) (s := Rows.OpenSpec.upto Rows.chunkSaysSpec) (k := Rows.uptoSmall) rfl own started (by kernel_rfl) Try.func7
  (OpenSpec.witness (enc := enc) (C := Try.checked) (s := Rows.OpenSpec.upto Rows.chunkSaysSpec) (k := Rows.uptoSmall) rfl false ⟨#[], #[.slice none 0 0, .agg #[.int .i64 0, .int .i64 0, .int .i64 0, .int .i64 0, .slice none 0 0], .agg #[.int .i64 0, .int .i64 0, .int .i64 0, .int .i64 0, .int .i64 0, .slice none 0 0], .slice none 0 0], []⟩ 8 (by kernel_rfl) (by kernel_rfl) (by kernel_rfl)
    (x := ([.nil, .agg [.lit (.int .i64 0), .lit (.int .i64 0), .lit (.int .i64 0), .lit (.int .i64 0), .nil], .agg [.lit (.int .i64 0), .lit (.int .i64 0), .lit (.int .i64 0), .lit (.int .i64 0), .lit (.int .i64 0), .nil], .nil], [], [])) (by kernel_rfl) rfl (by kernel_rfl)) ?_
 intro W base args ds gs before hsh hval hW hk
 exact contract_at laidOut 7 Try.f7 Rows.chunkSaysSpec F 4 Try.underlying4 (by kernel_rfl) (by kernel_rfl) (by kernel_rfl) spec_fn rfl W base args ds gs before (fun p hA hb => all enc W base args ds p hA hval hb (ml_of hsh)) hval hW hk
theorem over : Rows.chunkSaysUptoRow.holds Try.pinned (Rows.OpenSpec.upto Rows.chunkSaysSpec) :=
 OpenClaim.holds_of_cond 7 Try.f7 rfl rfl rfl rfl rfl rfl rfl ⟨rfl, rfl, rfl, rfl, rfl⟩ rfl rfl rfl rfl rfl (by kernel_rfl) Try.func7 (by kernel_rfl)
  (of_decide_eq_true (by kernel_rfl)) (by unfold Func.isWrapper; first | (rw [if_pos (by decide +kernel)]; kernel_rfl) | (rw [if_neg (by decide +kernel)]; exact ⟨rfl, rfl⟩))
  (fun os started H enc _ F => lifted os started H enc F)
theorem proved : Rows.ChunkSaysUptoSaid := over
#print axioms proved
end Go.Proofs.Ytefkfglkpebbmac.chunkSays
