/- The statement DeviceInstalls (its second form): the law returns true at every input whose bulk is within the bound, and leaves its arguments alone. Condition: the bulk of the arguments is at most 1048576. -/
import Derived.Test.YtefkfglkpebbmacPXDeviceInstalls
set_option linter.unusedVariables false
set_option linter.unusedSimpArgs false
set_option maxRecDepth 100000
set_option maxHeartbeats 40000000
namespace Go.Proofs.Ytefkfglkpebbmac.deviceInstalls
open Go.RowKit Go.WideShapes Go.ChangeShapes Go.ChangeAt
theorem all {H : Type} (enc : TypeId × Value → H) (W : World) (base : Nat) (args : Array Value) (ds : List (DataW H)) (p : List MemPlace)
  (hA : DataW.TrodAll enc Try.prog W 0 (fun _ => true) true Try.f9.params.toList args.toList ds p)
  (hval : ∀ (j : Nat) t v, Try.f9.params[j]? = some t → args[j]? = some v → Value.okWide Try.prog W .any base t v) (hb : Rows.uptoBulkAll ds ≤ 1048576) (hml : ML W) :
  Calls Try.prog 9 args W (RetB W (.bool true)) := by
 rw [Try.params9] at hA hval
 obtain ⟨v0, vs0, d0, ds0, p0, q0, hargs, rfl, rfl, h0, r0⟩ := trodAll_cons hA
 obtain ⟨v1, vs1, d1, ds1, p1, q1, rfl, rfl, rfl, h1, r1⟩ := trodAll_cons r0
 obtain ⟨v2, vs2, d2, ds2, p2, q2, rfl, rfl, rfl, h2, r2⟩ := trodAll_cons r1
 obtain ⟨v3, vs3, d3, ds3, p3, q3, rfl, rfl, rfl, h3, r3⟩ := trodAll_cons r2
 obtain ⟨v4, vs4, d4, ds4, p4, q4, rfl, rfl, rfl, h4, r4⟩ := trodAll_cons r3
 obtain ⟨rfl, rfl, rfl⟩ := trodAll_nil r4
 obtain rfl : args = #[v0, v1, v2, v3, v4] := by cases args; simp_all
 simp only [Rows.uptoBulkAll] at hb
 obtain ⟨x0, g0⟩ := argBytes_of Try.underlying22 Try.underlying5 (by kernel_rfl) (hval 0 22 v0 rfl rfl) h0 (by omega)
 obtain ⟨x1, g1⟩ := argBytes_of Try.underlying22 Try.underlying5 (by kernel_rfl) (hval 1 22 v1 rfl rfl) h1 (by omega)
 obtain ⟨x2, g2⟩ := argInt_of Try.underlying3 (hval 2 3 v2 rfl rfl) h2 (by omega)
 obtain ⟨x3, g3⟩ := argInt_of Try.underlying3 (hval 3 3 v3 rfl rfl) h3 (by omega)
 obtain ⟨x4, g4⟩ := argInt_of Try.underlying3 (hval 4 3 v4 rfl rfl) h4 (by omega)
 exact DeviceInstalls_walk W v0 v1 v2 v3 v4 x0 x1 x2 x3 x4 g0 g1 g2 g3 g4 hml
theorem spec_fn {H : Type} (ds : List (DataW H)) (h : ds.length = Try.f9.params.size) : Rows.deviceInstallsSpec.fn H (ds ++ []) = { results := [.lit (.bool true)], args := ds } := by
 rw [Try.params9] at h
 match ds, h with
 | [d0, d1, d2, d3, d4], _ => rfl
theorem lifted (os : Os) (started : os.Started) (H : Type) (enc : TypeId × Value → H) (F : Stop.Interp) :
  ReturnsInHanded {} Try.checked os 9 .any ((Rows.OpenSpec.upto Rows.deviceInstallsSpec).pre6 enc Try.prog Try.f9 Rows.deviceInstallsUptoRow.domain false) (((Rows.OpenSpec.upto Rows.deviceInstallsSpec).at F).post enc Try.prog Try.f9 false true false false) := by
 refine handed_shaped (C := Try.checked) (s := Rows.OpenSpec.upto Rows.deviceInstallsSpec) (k := Rows.uptoSmall) rfl own started (by kernel_rfl) Try.func9
  (OpenSpec.witness (enc := enc) (C := Try.checked) (s := Rows.OpenSpec.upto Rows.deviceInstallsSpec) (k := Rows.uptoSmall) rfl false ⟨#[], #[.slice none 0 0, .slice none 0 0, .int .i64 0, .int .i64 0, .int .i64 0], []⟩ 8 (by kernel_rfl) (by kernel_rfl) (by kernel_rfl)
    (x := ([.nil, .nil, .lit (.int .i64 0), .lit (.int .i64 0), .lit (.int .i64 0)], [], [])) (by kernel_rfl) rfl (by kernel_rfl)) ?_
 intro W base args ds gs before hsh hval hW hk
 exact contract_at laidOut 9 Try.f9 Rows.deviceInstallsSpec F 4 Try.underlying4 (by kernel_rfl) (by kernel_rfl) (by kernel_rfl) spec_fn rfl W base args ds gs before (fun p hA hb => all enc W base args ds p hA hval hb (ml_of hsh)) hval hW hk
theorem over : Rows.deviceInstallsUptoRow.holds Try.pinned (Rows.OpenSpec.upto Rows.deviceInstallsSpec) :=
 OpenClaim.holds_of_cond 9 Try.f9 rfl rfl rfl rfl rfl rfl rfl ⟨rfl, rfl, rfl, rfl, rfl⟩ rfl rfl rfl rfl rfl (by kernel_rfl) Try.func9 (by kernel_rfl)
  (of_decide_eq_true (by kernel_rfl)) (by unfold Func.isWrapper; first | (rw [if_pos (by decide +kernel)]; kernel_rfl) | (rw [if_neg (by decide +kernel)]; exact ⟨rfl, rfl⟩))
  (fun os started H enc _ F => lifted os started H enc F)
theorem proved : Rows.DeviceInstallsUptoSaid := over
#print axioms proved
end Go.Proofs.Ytefkfglkpebbmac.deviceInstalls
