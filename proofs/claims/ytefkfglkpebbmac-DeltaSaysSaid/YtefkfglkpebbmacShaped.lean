/- The frame of a law's proof once more, for laws that reach a variable of the library's own: the world's shape is handed on. No conditions. -/
import Derived.Test.YtefkfglkpebbmacFrame
import Derived.Shelf.Vars
namespace Go.Proofs.Ytefkfglkpebbmac
open Go.RowKit Go.WideShapes Go.ChangeShapes Go.ChangeAt
set_option linter.unusedVariables false

/-- The library's own variable holds some number. -/
def ML (w : World) : Prop := ∃ m, w.cell? ⟨0, 0, none⟩ = some (.int .i64 m)
theorem ML.lt {w : World} (h : ML w) : 0 < w.heap.size := by
  obtain ⟨m, hm⟩ := h
  rcases Nat.lt_or_ge 0 w.heap.size with h | h
  · exact h
  · unfold World.cell? at hm
    rw [Array.getElem?_eq_none h] at hm
    simp at hm
theorem ML.stays {w w' : World} (h : ML w) (hb : Below w.heap.size w w') : ML w' := by
  have hl := h.lt
  obtain ⟨m, hm⟩ := h
  exact ⟨m, (hb.cell (p := ⟨_, 0, none⟩) hl).trans hm⟩
theorem ML.drewN {w : World} (h : ML w) (n : Nat) : ML (w.drewN n) := h
set_option maxRecDepth 100000 in
theorem ml_of {w : World} (h : w.ShapedOpen Try.prog) : ML w :=
  cell_of_shapedOpen_int (t := 3) (zero := #[.int .i64 0]) (g := 0) h (of_decide_eq_true (by kernel_rfl)) (by kernel_rfl) rfl (by kernel_rfl) (by kernel_rfl) Try.underlying3

theorem contract_at {P : Program} (laidOut : laidOutB P = true) {H : Type} {enc : TypeId × Value → H} (f : FuncId) (fn : Func) (s : ChangeSpec) (t : TypeId) (ht : P.underlying t = some .bool) (hrt : fn.resultTypes.toList = [t]) (hsz : fn.resultTypes.size = 1)
    (hread : (fn.params.toList.all fun t => P.readableRec t && decide (t < P.types.size)) = true)
    (hspec : ∀ ds : List (DataW H), ds.length = fn.params.size → s.fn H (ds ++ []) = { results := [.lit (.bool true)], args := ds }) (hvars : s.vars = [])
    (W : World) (base : Nat) (args : Array Value) (ds gs : List (DataW H)) (before : List MemPlace)
    (walk : ∀ (p : List MemPlace), DataW.TrodAll enc P W 0 (fun _ => true) true fn.params.toList args.toList ds p → (∀ x ∈ DataW.weightsEach P fn.params.toList ds, x ≤ 140737488351232) → Calls P f args W (RetB W (.bool true)))
    (hval : ∀ (j : Nat) t v, fn.params[j]? = some t → args[j]? = some v → Value.okWide P W .any base t v)
    (hW : DataW.Whole enc P fn.params.toList s.vars false W args.toList ds gs before)
    (hk : (DataW.weightsEach P (fn.params.toList ++ s.plain.varTypes P) (ds ++ gs)).all (· ≤ reachBytes) = true) :
    Calls P f args W fun e W' => ∃ v, e = .returned v ∧ s.post enc P fn false true false false W args v W' := by
  have hW' := hW
  obtain ⟨p, q, hA, hV, rfl, hfz, hnd⟩ := hW
  have hV' : DataW.TrodVars enc P W (fun _ => true) [] gs q := by rw [← hvars]; exact hV
  obtain ⟨rfl, rfl⟩ := trodVars_none hV'
  have hlen : ∀ (ts : List TypeId) (vs : List Value) (ds : List (DataW H)) (p : List MemPlace), DataW.TrodAll enc P W 0 (fun _ => true) true ts vs ds p → ds.length = ts.length := by
    intro ts
    induction ts with
    | nil => intro vs ds p h; obtain ⟨_, rfl, _⟩ := trodAll_nil h; rfl
    | cons t ts ih =>
      intro vs ds p h
      obtain ⟨v, vs', d, ds', p', q', rfl, rfl, rfl, _, h2⟩ := trodAll_cons h
      simp [ih _ _ _ h2]
  have hl := hlen _ _ _ _ hA
  have hb : ∀ x ∈ DataW.weightsEach P fn.params.toList ds, x ≤ 140737488351232 := by
    rw [List.append_nil, wt_more _ _ _ (by omega)] at hk
    intro x hx
    have := List.all_eq_true.1 hk x hx
    exact of_decide_eq_true this
  refine (walk p hA hb).mono fun e W' ⟨he, bel⟩ => ?_
  subst he
  refine ⟨_, rfl, ?_⟩
  have hs : s.fn H (ds ++ []) = { results := [.lit (.bool true)], args := ds } := hspec ds (by simpa using hl)
  have hv : s.vars = [] := hvars
  refine ⟨ds, [], p ++ [], [], p, [], hW', ?_, ?_, ?_, bel.frame _, fun h => by cases h⟩
  · rw [hs, hrt, hsz]
    exact trodAll_mk1 (shut_bool ht _)
  · rw [hs]
    exact trodAll_below laidOut bel _ _ _ _ hread hA
  · rw [hs, hv]
    rfl
end Go.Proofs.Ytefkfglkpebbmac
