/- A call at a step of a region that draws its order. No conditions. -/
import Derived.Test.YtefkfglkpebbmabBase
namespace Go.Proofs.Ytefkfglkpebbmab
open Go.RowKit
set_option linter.unusedVariables false

theorem wp_call {P : Program} {Q : Exit → Act → World → Prop} {K : Act → World → Prop} {R : Ending → World → Prop} {d : Option Tmp} {t : TypeId} {p : String} {af : Array Edge} {g : Option (Nat × Bool)} {a : Act} {w : World} {f : FuncId} {args : Array Operand} {ts : Array TypeId} {vals : Array Value} (e : args.map a.eval = vals) (hf : (callFunc f vals).run P w = .ok (.enter f vals) w) (h : Calls P f vals w R)
    (hk : ∀ e w', R e w' → ∃ v, e = .returned v ∧ K (a.put d v) w') : Oper.wp P ⟨d, .call { callee := .value (.func f), args := args, argTypes := ts }, t, p, af, g⟩ a w K Q := by
  have hx : (execOp a.eval ⟨d, .call { callee := .value (.func f), args := args, argTypes := ts }, t, p, af, g⟩).run P w = (callFunc f vals).run P w := by
    simp [execOp, resolve, e, Act.eval, invoke, Deferred.ofValue]
  unfold Oper.wp
  rw [hx, hf]
  refine h.mono ?_
  intro e w' hr
  obtain ⟨v, rfl, hk⟩ := hk e w' hr
  exact hk
end Go.Proofs.Ytefkfglkpebbmab
