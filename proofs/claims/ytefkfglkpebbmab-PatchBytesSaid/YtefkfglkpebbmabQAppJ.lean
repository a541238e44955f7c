/- While a slice of a few new elements is made, put behind a row of the call's own, and the row is stored: what holds between. No conditions. -/
import Derived.Test.YtefkfglkpebbmabQByteOps
import Derived.Test.YtefkfglkpebbmabQBase
import Derived.Test.YtefkfglkpebbmabQConcat23
namespace Go.Proofs.Ytefkfglkpebbmab
open Go.RowKit
set_option linter.unusedVariables false

def apJ (w0 : World) (base : Nat) (e : TypeId) (size : Nat) (A : Option Addr) (n c : Nat) (xs ns : List Value) (m : Nat) (ib ia : Nat) (F : World → Prop) : Nat → (Nat → Value) → World → Prop
  | 0, _, w => w = w0.drew
  | 1, cv, w => w = w0.drew.alloc (.cells ns.toArray e) ∧ cv ib = .slice (some ⟨w0.heap.size, 0, none⟩) m m
  | 2, cv, w => ∃ A' c', cv ia = .slice A' (n + m) c' ∧ Own w base e size A' (n + m) c' (xs ++ ns) ∧ Below base w0 w ∧ (∀ k, k < w0.heap.size → A.map (·.block) ≠ some k → w.heap[k]? = w0.heap[k]?) ∧ (A'.map (·.block) = A.map (·.block) ∨ ∀ k, A'.map (·.block) = some k → w0.heap.size ≤ k)
  | _, _, w => F w
section
variable {w0 w w' : World} {base size n c m ib ia k : Nat} {e T : TypeId} {A A' : Option Addr} {c' : Nat} {xs ns : List Value} {F : World → Prop} {cv : Nat → Value}
theorem apJ_blk {g : Nat} {o : Obj} (hk : k ≤ 1) (hJ : apJ w0 base e size A n c xs ns m ib ia F k cv w) (h : w0.heap[g]? = some o) : w.heap[g]? = some o := by
  match k, hk, hJ with
  | 0, _, hJ => obtain rfl : w = w0.drew := hJ; exact h
  | 1, _, ⟨hJ, _⟩ => subst hJ; exact blk_old (w := w0.drew) h
theorem apJ_bel (hk : k ≤ 1) (hJ : apJ w0 base e size A n c xs ns m ib ia F k cv w) : Below w0.heap.size w0 w := by
  match k, hk, hJ with
  | 0, _, hJ => obtain rfl : w = w0.drew := hJ; exact (Below.refl _ _).drew
  | 1, _, ⟨hJ, _⟩ => subst hJ; exact (Below.refl _ _).drew.alloc (Nat.le_refl _) _
theorem apJ_app (hown : Own w' base e size A' (n + m) c' (xs ++ ns)) (hgr : (w0.drew.alloc (.cells ns.toArray e)).grownBy w' (A.map (·.block))) (hbel : Below base (w0.drew.alloc (.cells ns.toArray e)) w')
    (hor : A'.map (·.block) = A.map (·.block) ∨ A'.map (·.block) = some (w0.drew.alloc (.cells ns.toArray e)).heap.size) (hle : base ≤ w0.heap.size) :
    apJ w0 base e size A n c xs ns m ib ia F 2 (fun j => if j = ia then .slice A' (n + m) c' else cv j) w' := by
  have hb0 : Below base w0 (w0.drew.alloc (.cells ns.toArray e)) := ((Below.refl _ _).drew).alloc hle _
  refine ⟨A', c', by simp, hown, hb0.trans hbel, fun k hk hn => (hgr.block k (by simp; omega) (fun e => hn e.symm)).trans ((Below.heap_alloc w0.drew _ k hk)), ?_⟩
  rcases hor with h | h
  · exact .inl h
  · exact .inr (fun k hk => by rw [h] at hk; injection hk with hk; simp at hk; omega)
end
/-- How many of a chain of operations have been carried out (the last one first). -/
def lvlN : List Nat → (Nat → Bool) → Nat
  | [], _ => 0
  | i :: l, done => if done i = true then l.length + 1 else lvlN l done
/-- The last of it: the row's place is stored. -/
def apF (w0 : World) (base : Nat) (e : TypeId) (size : Nat) (A : Option Addr) (n c : Nat) (xs ns : List Value) (m gp j : Nat) (w : World) : Prop :=
  ∃ A2 c2 wq, w = wq.setCell ⟨gp, j, none⟩ (.slice A2 (n + m) c2) ∧ Own wq base e size A2 (n + m) c2 (xs ++ ns) ∧ Below base w0 wq ∧ (∀ k, k < w0.heap.size → A.map (·.block) ≠ some k → wq.heap[k]? = w0.heap[k]?) ∧ (A2.map (·.block) = A.map (·.block) ∨ ∀ k, A2.map (·.block) = some k → w0.heap.size ≤ k)
theorem apJ_any {w0 w : World} {base size n c m ib ia k gp j g : Nat} {e : TypeId} {A : Option Addr} {xs ns : List Value} {cv : Nat → Value} {o : Obj} (hJ : apJ w0 base e size A n c xs ns m ib ia (apF w0 base e size A n c xs ns m gp j) k cv w) (h : w0.heap[g]? = some o) (hA : A.map (·.block) ≠ some g) (hg : g ≠ gp) : w.heap[g]? = some o := by
  match k, hJ with
  | 0, hJ => exact apJ_blk (k := 0) (F := apF w0 base e size A n c xs ns m gp j) (Nat.zero_le _) hJ h
  | 1, hJ => exact apJ_blk (k := 1) (F := apF w0 base e size A n c xs ns m gp j) (Nat.le_refl _) hJ h
  | 2, ⟨A2, c2, _, _, _, k2, _⟩ => exact (k2 g (blk_lt h) hA).trans h
  | q + 3, ⟨A2, c2, wq, e, _, _, k2, _⟩ =>
    subst e
    rw [Below.heap_setCell _ _ _ _ (fun e2 => hg e2)]
    exact (k2 g (blk_lt h) hA).trans h
theorem wp_callv {P : Program} {Q : Exit → Act → World → Prop} {K : Act → World → Prop} {R : Ending → World → Prop} {d : Option Tmp} {t : TypeId} {p : String} {af : Array Edge} {g : Option (Nat × Bool)} {a : Act} {w : World} {f : FuncId} {x : Tmp} {cap : Array Value} {args : Array Operand} {ts : Array TypeId} {vals : Array Value}
    (hx : a.tmps[x]? = some (.func (Fn.func f) #[] cap)) (e : args.map a.eval ++ cap = vals) (hf : (callFunc f vals).run P w = .ok (.enter f vals) w) (h : Calls P f vals w R)
    (hk : ∀ e w', R e w' → ∃ v, e = .returned v ∧ K (a.put d v) w') : Oper.wp P ⟨d, .call { callee := .value (.tmp x), args := args, argTypes := ts }, t, p, af, g⟩ a w K Q := by
  have e1 : a.eval (.tmp x) = .func (Fn.func f) #[] cap := by simp [Act.eval, hx]
  have hx : (execOp a.eval ⟨d, .call { callee := .value (.tmp x), args := args, argTypes := ts }, t, p, af, g⟩).run P w = (callFunc f vals).run P w := by
    simp [execOp, resolve, e, e1, invoke, Deferred.ofValue]
  unfold Oper.wp
  rw [hx, hf]
  refine h.mono ?_
  intro e w' hr
  obtain ⟨v, rfl, hk⟩ := hk e w' hr
  exact hk
end Go.Proofs.Ytefkfglkpebbmab
