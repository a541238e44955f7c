/- The statement DeviceTries (its second form): the law returns true at every input whose bulk is within the bound, and leaves its arguments alone. Condition: the bulk of the arguments is at most 1048576. -/
import Derived.Test.YtefkfglkpebbmacPMDeviceTries
set_option linter.unusedVariables false
set_option linter.unusedSimpArgs false
set_option maxRecDepth 100000
set_option maxHeartbeats 40000000
namespace Go.Proofs.Ytefkfglkpebbmac.deviceTries
open Go.RowKit Go.WideShapes Go.ChangeShapes Go.ChangeAt
theorem all {H : Type} (enc : TypeId × Value → H) (W : World) (base : Nat) (args : Array Value) (ds : List (DataW H)) (p : List MemPlace)
  (hA : DataW.TrodAll enc Try.prog W 0 (fun _ => true) true Try.f10.params.toList args.toList ds p)
  (hval : ∀ (j : Nat) t v, Try.f10.params[j]? = some t → args[j]? = some v → Value.okWide Try.prog W .any base t v) (hb : Rows.uptoBulkAll ds ≤ 1048576) (hml : ML W) :
  Calls Try.prog 10 args W (RetB W (.bool true)) := by
 rw [Try.params10] at hA hval
 obtain ⟨v0, vs0, d0, ds0, p0, q0, hargs, rfl, rfl, h0, r0⟩ := trodAll_cons hA
 obtain ⟨v1, vs1, d1, ds1, p1, q1, rfl, rfl, rfl, h1, r1⟩ := trodAll_cons r0
 obtain ⟨rfl, rfl, rfl⟩ := trodAll_nil r1
 obtain rfl : args = #[v0, v1] := by cases args; simp_all
 simp only [Rows.uptoBulkAll] at hb
 obtain ⟨x0, g0⟩ := argBytes_of Try.underlying22 Try.underlying5 (by kernel_rfl) (hval 0 22 v0 rfl rfl) h0 (by omega)
 obtain ⟨x1, g1⟩ := argBytes_of Try.underlying22 Try.underlying5 (by kernel_rfl) (hval 1 22 v1 rfl rfl) h1 (by omega)
 exact DeviceTries_walk W v0 v1 x0 x1 g0 g1 hml
theorem spec_fn {H : Type} (ds : List (DataW H)) (h : ds.length = Try.f10.params.size) : Rows.deviceTriesSpec.fn H (ds ++ []) = { results := [.lit (.bool true)], args := ds } := by
 rw [Try.params10] at h
 match ds, h with
 | [d0, d1], _ => rfl
theorem lifted (os : Os) (started : os.Started) (H : Type) (enc : TypeId × Value → H) (F : Stop.Interp) :
  ReturnsInHanded {} Try.checked os 10 .any ((Rows.OpenSpec.upto Rows.deviceTriesSpec).pre6 enc Try.prog Try.f10 Rows.deviceTriesUptoRow.domain false) (((Rows.OpenSpec.upto Rows.deviceTriesSpec).at F).post enc Try.prog Try.f10 false true false false) := by
 refine handed_shaped (C := Try.checked) (s := Rows.OpenSpec.upto Rows.deviceTriesSpec) (k := Rows.uptoSmall) rfl own started (by kernel_rfl) Try.func10
  (OpenSpec.witness (enc := enc) (C := Try.checked) (s := Rows.OpenSpec.upto Rows.deviceTriesSpec) (k := Rows.uptoSmall) rfl false ⟨#[], #[.slice none 0 0, .slice none 0 0], []⟩ 8 (by kernel_rfl) (by kernel_rfl) (by kernel_rfl)
    (x := ([.nil, .nil], [], [])) (by kernel_rfl) rfl (by kernel_rfl)) ?_
 intro W base args ds gs before hsh hval hW hk
 exact contract_at laidOut 10 Try.f10 Rows.deviceTriesSpec F 4 Try.underlying4 (by kernel_rfl) (by kernel_rfl) (by kernel_rfl) spec_fn rfl W base args ds gs before (fun p hA hb => all enc W base args ds p hA hval hb (ml_of hsh)) hval hW hk
theorem over : Rows.deviceTriesUptoRow.holds Try.pinned (Rows.OpenSpec.upto Rows.deviceTriesSpec) :=
 OpenClaim.holds_of_cond 10 Try.f10 rfl rfl rfl rfl rfl rfl rfl ⟨rfl, rfl, rfl, rfl, rfl⟩ rfl rfl rfl rfl rfl (by kernel_rfl) Try.func10 (by kernel_rfl)
  (of_decide_eq_true (by kernel_rfl)) (by unfold Func.isWrapper; first | (rw [if_pos (by decide +kernel)]; kernel_rfl) | (rw [if_neg (by decide +kernel)]; exact ⟨rfl, rfl⟩))
  (fun os started H enc _ F => lifted os started H enc F)
theorem proved : Rows.DeviceTriesUptoSaid := over
#print axioms proved
end Go.Proofs.Ytefkfglkpebbmac.deviceTries
