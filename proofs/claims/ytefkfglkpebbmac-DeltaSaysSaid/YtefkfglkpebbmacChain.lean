/- A region that draws its order, operation by operation, over lists of places and values. No conditions. -/
import Derived.Test.YtefkfglkpebbmacRegVals
import Derived.Test.YtefkfglkpebbmacBase
namespace Go.Proofs.Ytefkfglkpebbmac
open Go.RowKit
set_option linter.unusedVariables false

def waitsO (o : Oper) : List Nat := (o.after.toList.filter (Region.binds .any)).map (·.on)
theorem waits_eq (ops : Array Oper) (i : Nat) (o : Oper) (h : ops[i]? = some o) : waits .any ops i = waitsO o := by unfold waits waitsO; rw [h]
/-- What holds when just those of 'done' have been carried out: ds the places, vs the values. -/
structure ChSt (ds : List (Option Tmp)) (vs : List Value) (a0 : Act) (w0 : World) (done : Nat → Bool) (a : Act) (w : World) : Prop where
  old : ∀ t, ds.contains (some t) = false → a.tmps[t]? = a0.tmps[t]?
  new : ∀ (i : Nat) t, done i = true → ds[i]? = some (some t) → a.tmps[t]? = some (vs.getD i undef)
  bel : Below w0.heap.size w0 w
/-- Is it carried out? -/
def onB (vs : List Value) (o : Oper) : Bool := match o.guard with
  | none => true
  | some (j, b) => match vs[j]? with
    | some (.bool c) => c == b
    | _ => false
/-- What an operation is to leave. -/
def OpStep (P : Program) (Q : Exit → Act → World → Prop) (o : Oper) (v : Value) (a : Act) (w : World) : Prop := o.wp P a w (fun a' w' => a' = a.put o.dst v ∧ Below w.heap.size w w') Q
def StepsOk (P : Program) (Q : Exit → Act → World → Prop) (ds : List (Option Tmp)) (vs : List Value) (a0 : Act) (w0 : World) : List Oper → List Value → Prop
  | [], _ => True
  | o :: r, v :: u => ((onB vs o = true ∧ ∀ (done : Nat → Bool) (a : Act) (w : World), (∀ d ∈ waitsO o, done d = true) → ChSt ds vs a0 w0 done a w → OpStep P Q o v a w) ∨ (onB vs o = false ∧ v = undef)) ∧ StepsOk P Q ds vs a0 w0 r u
  | _ :: _, [] => False
def guardsOk (ds : List (Option Tmp)) (l : List Oper) : Bool := l.all fun o => match o.guard with
  | none => true
  | some (j, _) => (waitsO o).contains j && (match ds[j]? with | some (some _) => true | _ => false)
theorem steps_at {P : Program} {Q : Exit → Act → World → Prop} {ds : List (Option Tmp)} {vs0 : List Value} {a0 : Act} {w0 : World} : ∀ (l : List Oper) (vs : List Value), StepsOk P Q ds vs0 a0 w0 l vs → ∀ (i : Nat) o, l[i]? = some o →
    (onB vs0 o = true ∧ ∀ (done : Nat → Bool) (a : Act) (w : World), (∀ d ∈ waitsO o, done d = true) → ChSt ds vs0 a0 w0 done a w → OpStep P Q o (vs.getD i undef) a w) ∨ (onB vs0 o = false ∧ vs.getD i undef = undef)
  | [], _, _, i, o, h => by simp at h
  | o :: r, [], h, _, _, _ => h.elim
  | o :: r, v :: u, h, i, o', e => by
    obtain ⟨h1, h2⟩ := h
    match i with
    | 0 =>
      have e' : o = o' := by simpa using e
      subst e'
      exact h1
    | i + 1 => exact steps_at r u h2 i o' (by simpa using e)
/-- All values put into their places. -/
def putAll : List (Option Tmp) → List Value → Array Value → Array Value
  | some d :: ds, v :: vs, b => putAll ds vs (b.setIfInBounds d v)
  | none :: ds, _ :: vs, b => putAll ds vs b
  | _, _, b => b
theorem putAll_some (d : Tmp) (ds : List (Option Tmp)) (v : Value) (vs : List Value) (b : Array Value) : putAll (some d :: ds) (v :: vs) b = putAll ds vs (b.setIfInBounds d v) := by rw [putAll]
theorem putAll_none (ds : List (Option Tmp)) (v : Value) (vs : List Value) (b : Array Value) : putAll (none :: ds) (v :: vs) b = putAll ds vs b := by rw [putAll]
theorem putAll_nil (vs : List Value) (b : Array Value) : putAll [] vs b = b := by rw [putAll] <;> simp
theorem putAll_range (ops : Array Oper) (vals : List Value) : ∀ (ds : List (Option Tmp)) (vs : List Value) (k : Nat) (b : Array Value), ds.length = vs.length → (∀ i, dstOf ops (k + i) = (ds[i]?).bind (fun x => x)) → (∀ i, i < ds.length → vals.getD (k + i) undef = vs.getD i undef) →
    (List.range' k ds.length).foldl (fun b i => match dstOf ops i with | some d => b.setIfInBounds d (vals.getD i undef) | none => b) b = putAll ds vs b
  | [], vs, k, b, _, _, _ => by cases vs <;> rfl
  | x :: ds, [], k, b, h, _, _ => by simp at h
  | x :: ds, v :: vs, k, b, h, hd, hv => by
    have ih := fun b => putAll_range ops vals ds vs (k + 1) b (by simpa using h) (fun i => by have := hd (i + 1); rw [show k + 1 + i = k + (i + 1) by omega]; simpa using this) (fun i hi => by have := hv (i + 1) (by simpa using hi); rw [show k + 1 + i = k + (i + 1) by omega]; simpa using this)
    have h0 := hd 0
    have v0 := hv 0 (by simp)
    simp only [Nat.add_zero, List.getElem?_cons_zero, Option.bind_some] at h0
    simp only [Nat.add_zero, List.getD_cons_zero] at v0
    rw [List.length_cons, List.range'_succ, List.foldl_cons, h0, v0]
    cases x with
    | none => rw [putAll_none]; exact ih b
    | some d => rw [putAll_some]; exact ih _
section
variable {P : Program} {Q : Exit → Act → World → Prop}
theorem wp_region_chain {id : Nat} {l : List Oper} {a0 : Act} {w0 : World} (hm : P.follows .mixedOrders = true) (ds : List (Option Tmp)) (vs : List Value) (n : Nat) (hn : a0.tmps.size = n) (hds : l.map (·.dst) = ds) (hd : dstsOk l.toArray n = true) (hw : waitsOk l.toArray = true) (hg : guardsOk ds l = true)
    (hlen : ds.length = vs.length) (steps : StepsOk P Q ds vs a0 w0.drew l vs) (hQ : ∀ (w : World), Below w0.heap.size w0 w → Q .normal { tmps := putAll ds vs a0.tmps, defers := a0.defers } w) : (Code.region id l.toArray true).wp P Q a0 w0 := by
  rw [← hn] at hd
  have hdst : ∀ i, dstOf l.toArray i = (ds[i]?).bind (fun x => x) := by
    intro i
    unfold dstOf
    rw [← hds]
    simp only [List.getElem?_toArray, List.getElem?_map]
    cases l[i]? <;> rfl
  have conv : ∀ {done : Nat → Bool} {a : Act} {w : World}, RegSt l.toArray (vs.getD · undef) a0 w0.drew done a w → ChSt ds vs a0 w0.drew done a w := by
    intro done a w h
    refine ⟨fun t ht => h.old t fun i hi => ?_, fun i t hi ht => h.new i t hi (by rw [hdst, ht]; rfl), h.bel⟩
    rw [hdst] at hi
    cases e : ds[i]? with
    | none => rw [e] at hi; cases hi
    | some x =>
      rw [e] at hi
      have hx : x = some t := hi
      subst hx
      have := List.mem_of_getElem? e
      rw [List.contains_iff_mem.2 this] at ht; cases ht
  refine wp_region_vals hm (vs.getD · undef) a0 w0 hd hw ?_ ?_
  · intro i hi done a w hwait h
    have hil : i < l.length := by simpa using hi
    have ho : l.toArray[i]? = some l[i] := by simp [hil]
    rw [waits_eq _ _ _ ho] at hwait
    have hdi : dstOf l.toArray i = l[i].dst := by unfold dstOf; rw [ho]; rfl
    have hst := steps_at l vs steps i l[i] (by simp [hil])
    have hgd : ∀ j b, l[i].guard = some (j, b) → done j = true ∧ ∃ t, dstOf l.toArray j = some t := by
      intro j b e
      unfold guardsOk at hg
      have := List.all_eq_true.1 hg l[i] (List.getElem_mem hil)
      rw [e] at this
      simp only [Bool.and_eq_true] at this
      obtain ⟨g1, g2⟩ := this
      refine ⟨hwait j (by simpa using g1), ?_⟩
      rw [hdst]
      split at g2
      · rename_i t e2; exact ⟨t, by rw [e2]; rfl⟩
      · cases g2
    rcases hst with ⟨h1, h2⟩ | ⟨h1, h2⟩
    · refine wpOp_on ho (fun j b e => ?_) ?_
      · obtain ⟨g1, t, g2⟩ := hgd j b e
        refine ⟨t, g2, ?_⟩
        rw [h.new j t g1 g2]
        unfold onB at h1
        rw [e] at h1
        dsimp only at h1
        split at h1
        · rename_i c e2
          rw [List.getD_eq_getElem?_getD, e2]
          simp at h1; subst h1; rfl
        · cases h1
      · refine Oper.wp_mono ?_ (h2 done a w hwait (conv h))
        rintro a' w' ⟨rfl, hb⟩
        exact ⟨by rw [hdi], hb⟩
    · unfold onB at h1
      cases e : l[i].guard with
      | none => rw [e] at h1; cases h1
      | some p =>
        obtain ⟨j, b⟩ := p
        obtain ⟨g1, t, g2⟩ := hgd j b e
        rw [e] at h1
        refine wpOp_off ho e g2 (h.new j t g1 g2) ?_ ⟨by rw [hdi]; show _ = a.put _ (vs.getD i undef); rw [h2], Below.refl _ _⟩
        intro ev
        dsimp only at h1
        have ev' : vs.getD j undef = .bool b := ev
        rw [List.getD_eq_getElem?_getD] at ev'
        cases ej : vs[j]? with
        | none => rw [ej] at ev'; cases ev'
        | some v =>
          rw [ej] at ev' h1
          have ev2 : v = .bool b := ev'
          subst ev2
          simp at h1
  · intro a w h
    have e := h.end_ hd
    have hp := putAll_range l.toArray vs ds vs 0 a0.tmps hlen (fun i => by rw [Nat.zero_add]; exact hdst i) (fun i _ => by rw [Nat.zero_add])
    have hl : ds.length = l.toArray.size := by rw [← hds]; simp
    rw [hl, ← List.range_eq_range'] at hp
    have e2 : regEnd l.toArray (vs.getD · undef) a0 = { tmps := putAll ds vs a0.tmps, defers := a0.defers } := by
      rw [← hp]; rfl
    rw [e, e2]
    exact hQ w ⟨h.bel.os, h.bel.tape, h.bel.output, h.bel.size, h.bel.block⟩
/-! Readings of operands. -/
theorem ch_new {ds : List (Option Tmp)} {vs : List Value} {a0 : Act} {w0 : World} {done : Nat → Bool} {a : Act} {w : World} (h : ChSt ds vs a0 w0 done a w) {i : Nat} {t : Tmp} {v : Value} (hi : done i = true) (hd : ds[i]? = some (some t)) (hv : vs[i]? = some v) : a.tmps[t]? = some v := by
  have := h.new i t hi hd
  rwa [List.getD_eq_getElem?_getD, hv] at this
theorem ch_old {ds : List (Option Tmp)} {vs : List Value} {a0 : Act} {w0 : World} {done : Nat → Bool} {a : Act} {w : World} (h : ChSt ds vs a0 w0 done a w) {t : Tmp} {v : Value} (hd : ds.contains (some t) = false) (hv : a0.tmps[t]? = some v) : a.tmps[t]? = some v := by
  have := h.old t hd
  rwa [hv] at this
/-! Operations, by kind. -/
variable {d : Option Tmp} {t : TypeId} {p : String} {af : Array Edge} {g : Option (Nat × Bool)} {a : Act} {w : World} {v u : Value} {x y : Tmp} {z : Operand}
theorem ch_ev (e : a.tmps[x]? = some v) : a.eval (.tmp x) = v := by simp [Act.eval, e]
theorem ch_pure {o : Oper} (hx : (execOp a.eval o).run P w = .ok (.value v) w) : OpStep P Q o v a w := by
  unfold OpStep Oper.wp
  rw [hx]
  exact ⟨rfl, Below.refl _ _⟩
section
variable {x y z : Operand}
theorem ch_move (e : a.eval x = v) : OpStep P Q ⟨d, .move x, t, p, af, g⟩ v a w := ch_pure (by simp [execOp, e])
theorem ch_assign (e : a.eval x = v) : OpStep P Q ⟨d, .assign x, t, p, af, g⟩ v a w := ch_pure (by simp [execOp, e])
theorem ch_pick_t {x : Tmp} (e : a.tmps[x]? = some (.bool true)) (f : a.eval y = v) : OpStep P Q ⟨d, .pick (.tmp x) y z, t, p, af, g⟩ v a w := ch_pure (by simp [execOp, ch_ev e, f, asBool])
theorem ch_pick_f {x : Tmp} (e : a.tmps[x]? = some (.bool false)) (f : a.eval z = v) : OpStep P Q ⟨d, .pick (.tmp x) y z, t, p, af, g⟩ v a w := ch_pure (by simp [execOp, ch_ev e, f, asBool])
variable {ty uty : TypeId} {k : IntKind} {m n : Int}
theorem ch_eql_int (hu : P.underlying ty = some (.int k)) (e : a.eval x = .int k m) (f : a.eval z = .int k n) (hv : v = .bool (m == n)) : OpStep P Q ⟨d, .binOp .eql ty x z uty, t, p, af, g⟩ v a w := by
  subst hv
  refine ch_pure ?_
  simp only [execOp, e, f]
  go_simp
theorem ch_neq_int (hu : P.underlying ty = some (.int k)) (e : a.eval x = .int k m) (f : a.eval z = .int k n) (hv : v = .bool (m != n)) : OpStep P Q ⟨d, .binOp .neq ty x z uty, t, p, af, g⟩ v a w := by
  subst hv
  refine ch_pure ?_
  simp only [execOp, e, f]
  go_simp
theorem ch_lss_int (hu : P.underlying ty = some (.int k)) (e : a.eval x = .int k m) (f : a.eval z = .int k n) (hv : v = .bool (decide (m < n))) : OpStep P Q ⟨d, .binOp .lss ty x z uty, t, p, af, g⟩ v a w := by
  subst hv
  refine ch_pure ?_
  simp only [execOp, e, f]
  go_simp
theorem ch_leq_int (hu : P.underlying ty = some (.int k)) (e : a.eval x = .int k m) (f : a.eval z = .int k n) (hv : v = .bool (decide (m ≤ n))) : OpStep P Q ⟨d, .binOp .leq ty x z uty, t, p, af, g⟩ v a w := by
  subst hv
  refine ch_pure ?_
  simp only [execOp, e, f]
  go_simp
theorem ch_gtr_int (hu : P.underlying ty = some (.int k)) (e : a.eval x = .int k m) (f : a.eval z = .int k n) (hv : v = .bool (decide (n < m))) : OpStep P Q ⟨d, .binOp .gtr ty x z uty, t, p, af, g⟩ v a w := by
  subst hv
  refine ch_pure ?_
  simp only [execOp, e, f]
  go_simp
theorem ch_geq_int (hu : P.underlying ty = some (.int k)) (e : a.eval x = .int k m) (f : a.eval z = .int k n) (hv : v = .bool (decide (n ≤ m))) : OpStep P Q ⟨d, .binOp .geq ty x z uty, t, p, af, g⟩ v a w := by
  subst hv
  refine ch_pure ?_
  simp only [execOp, e, f]
  go_simp
end
theorem ch_call {f : FuncId} {args : Array Operand} {ts : Array TypeId} {vals : Array Value} (e : args.map a.eval = vals) (hf : (callFunc f vals).run P w = .ok (.enter f vals) w) (h : Calls P f vals w (RetB w v)) : OpStep P Q ⟨d, .call { callee := .value (.func f), args := args, argTypes := ts }, t, p, af, g⟩ v a w := by
  have hx : (execOp a.eval ⟨d, .call { callee := .value (.func f), args := args, argTypes := ts }, t, p, af, g⟩).run P w = (callFunc f vals).run P w := by
    simp [execOp, resolve, e, Act.eval, invoke, Deferred.ofValue]
  unfold OpStep Oper.wp
  rw [hx, hf]
  refine h.mono ?_
  rintro e w' ⟨rfl, hb⟩
  exact ⟨rfl, hb⟩
end
end Go.Proofs.Ytefkfglkpebbmac
