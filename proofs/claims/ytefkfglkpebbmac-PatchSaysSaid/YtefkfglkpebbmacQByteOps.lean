/- Steps of drawn regions over bytes: slices of one and of two, a slice laid into a variable; a variable's block. No conditions. -/
import Derived.Test.YtefkfglkpebbmacQBase
import Derived.Test.YtefkfglkpebbmacQConcat23
namespace Go.Proofs.Ytefkfglkpebbmac
open Go.RowKit
set_option linter.unusedVariables false

theorem wp_sb1 {a : Act} {w : World} {K : Act → World → Prop} {Q : Exit → Act → World → Prop} {t : TypeId} {p : String} {af : Array Edge} {gd : Option (Nat × Bool)} {d s : Tmp} {n : UInt8} (hs : a.tmps[s]? = some (bv n))
    (h : K (a.put (some d) (.slice (some ⟨w.heap.size, 0, none⟩) 1 1)) (w.alloc (.cells #[bv n] 5))) :
    Oper.wp Try.prog ⟨some d, .buildSlice 22 1 #[(0, .tmp s)], t, p, af, gd⟩ a w K Q := by
  have e : a.eval (.tmp s) = bv n := by simp [Act.eval, hs]
  unfold Oper.wp execOp
  simp only [e, List.map_toArray, List.map_cons, List.map_nil]
  go_simp
  exact h
theorem wp_sb2 {a : Act} {w : World} {K : Act → World → Prop} {Q : Exit → Act → World → Prop} {t : TypeId} {p : String} {af : Array Edge} {gd : Option (Nat × Bool)} {d s r : Tmp} {n m : UInt8} (hs : a.tmps[s]? = some (bv n)) (hr : a.tmps[r]? = some (bv m))
    (h : K (a.put (some d) (.slice (some ⟨w.heap.size, 0, none⟩) 2 2)) (w.alloc (.cells #[bv n, bv m] 5))) :
    Oper.wp Try.prog ⟨some d, .buildSlice 22 2 #[(0, .tmp s), (1, .tmp r)], t, p, af, gd⟩ a w K Q := by
  have e1 : a.eval (.tmp s) = bv n := by simp [Act.eval, hs]
  have e2 : a.eval (.tmp r) = bv m := by simp [Act.eval, hr]
  unfold Oper.wp execOp
  simp only [e1, e2, List.map_toArray, List.map_cons, List.map_nil]
  go_simp
  exact h
theorem wp_ssl {a : Act} {w : World} {K : Act → World → Prop} {Q : Exit → Act → World → Prop} {t : TypeId} {p : String} {af : Array Edge} {gd : Option (Nat × Bool)} {x y : Tmp} {g j : Nat} {B : Option Addr} {n c : Nat} {u : Value} (hx : a.tmps[x]? = some (.pointer (some ⟨g, j, none⟩))) (hy : a.tmps[y]? = some (.slice B n c))
    (hc : w.cell? ⟨g, j, none⟩ = some u) (hf : w.frozen? ⟨g, j, none⟩ = false) (h : K a (w.setCell ⟨g, j, none⟩ (.slice B n c))) :
    Oper.wp Try.prog ⟨none, .store 22 (.tmp x) (.tmp y), t, p, af, gd⟩ a w K Q := by
  have e1 : a.eval (.tmp x) = .pointer (some ⟨g, j, none⟩) := by simp [Act.eval, hx]
  have e2 : a.eval (.tmp y) = .slice B n c := by simp [Act.eval, hy]
  unfold Oper.wp execOp
  simp only [e1, e2]
  go_simp
  exact h
/-- A variable's block. -/
def Box (w : World) (g : Nat) (T : TypeId) (v : Value) : Prop := w.heap[g]? = some (.cells #[v] T (0, 0))
theorem Box.cell {w : World} {g : Nat} {T : TypeId} {v : Value} (h : Box w g T v) : w.cell? ⟨g, 0, none⟩ = some v := by rw [cell_of_row _ _ _ _ _ _ h]; rfl
theorem Box.free {w : World} {g : Nat} {T : TypeId} {v : Value} (h : Box w g T v) : w.frozen? ⟨g, 0, none⟩ = false := frozen_of_row w g 0 _ T h
theorem Box.lt {w : World} {g : Nat} {T : TypeId} {v : Value} (h : Box w g T v) : g < w.heap.size := blk_lt h
theorem Box.set {w : World} {g : Nat} {T : TypeId} {v : Value} (h : Box w g T v) (u : Value) : Box (w.setCell ⟨g, 0, none⟩ u) g T u := by
  unfold Box
  rw [setCell_eq_setRow w g 0 #[v] T (0, 0) u h]
  exact setRow_heap w g #[v] _ T (0, 0) h
theorem Box.other {w : World} {g : Nat} {T : TypeId} {v : Value} (h : Box w g T v) {p : Addr} (hp : p.block ≠ g) (u : Value) : Box (w.setCell p u) g T v := by
  unfold Box
  rw [Below.heap_setCell _ _ _ _ (fun e => hp e.symm)]; exact h
theorem Box.below {w w' : World} {g : Nat} {T : TypeId} {v : Value} (h : Box w g T v) (hb : Below w.heap.size w w') : Box w' g T v := blk_below h hb
theorem Box.keep {w w' : World} {g B : Nat} {T : TypeId} {v : Value} (h : Box w g T v) (hb : Below B w w') (hg : g < B) : Box w' g T v := (hb.block g hg).trans h
theorem Box.drew {w : World} {g : Nat} {T : TypeId} {v : Value} (h : Box w g T v) : Box w.drew g T v := h
theorem Box.drewN {w : World} {g : Nat} {T : TypeId} {v : Value} (h : Box w g T v) (n : Nat) : Box (w.drewN n) g T v := h
theorem Box.alloc {w : World} {g : Nat} {T : TypeId} {v : Value} (h : Box w g T v) (o : Obj) : Box (w.alloc o) g T v := blk_old h
theorem Box.new (w : World) (T : TypeId) (v : Value) : Box (w.alloc (.cells #[v] T)) w.heap.size T v := blk_top rfl
theorem own_far {w : World} {base e size n c go : Nat} {A : Option Addr} {xs : List Value} (h : Own w base e size A n c xs) (hg : go < base) : A.map (·.block) ≠ some go := fun e => by
  have := (h.block go e).1; omega
theorem Own.same {w w' : World} {base e size n c : Nat} {A : Option Addr} {xs : List Value} (h : Own w base e size A n c xs) (hk : ∀ k, A.map (·.block) = some k → w'.heap[k]? = w.heap[k]?) : Own w' base e size A n c xs := by
  obtain ⟨h1, h2⟩ := h
  refine ⟨h1, ?_⟩
  rcases h2 with h2 | ⟨g, cap, cur, hv, hg, hh, r⟩
  · exact Or.inl h2
  · refine Or.inr ⟨g, cap, cur, hv, hg, ?_, r⟩
    injection hv with hA _ _
    rw [hk g (by rw [hA]; rfl)]
    exact hh
end Go.Proofs.Ytefkfglkpebbmac
