/- A row of bytes grows behind a box. No conditions. -/
import Derived.Test.YtefkfglkpebbmacQByteOps
import Derived.Test.YtefkfglkpebbmacQBase
import Derived.IntWalk
namespace Go.Proofs.Ytefkfglkpebbmac
open Go.RowKit
set_option linter.unusedVariables false
set_option linter.unusedSimpArgs false

/-- While something is put behind a row that a variable holds. -/
def bxJ (w0 : World) (base : Nat) (A : Option Addr) (n c : Nat) (xs ns : List Value) (ib ia : Nat) (F : World → Prop) : Nat → (Nat → Value) → World → Prop
  | 0, _, w => w = w0.drew
  | 1, cv, w => w = w0.drew.alloc (.cells ns.toArray 5) ∧ cv ib = .slice (some ⟨w0.heap.size, 0, none⟩) ns.length ns.length
  | 2, cv, w => ∃ A' c', cv ia = .slice A' (n + ns.length) c' ∧ Own w base 5 1 A' (n + ns.length) c' (xs ++ ns) ∧ Below base w0 w ∧ (∀ k, k < w0.heap.size → A.map (·.block) ≠ some k → w.heap[k]? = w0.heap[k]?) ∧ (A'.map (·.block) = A.map (·.block) ∨ ∀ k, A'.map (·.block) = some k → w0.heap.size ≤ k)
  | _, _, w => F w
theorem bxJ_box {w0 w : World} {base g : Nat} {A : Option Addr} {n c : Nat} {xs ns : List Value} {ib ia k : Nat} {F : World → Prop} {cv : Nat → Value} {T : TypeId} {v : Value} (hk : k ≤ 1) (hJ : bxJ w0 base A n c xs ns ib ia F k cv w) (h : Box w0 g T v) : Box w g T v := by
  match k, hk, hJ with
  | 0, _, hJ => obtain rfl : w = w0.drew := hJ; exact h
  | 1, _, ⟨hJ, _⟩ => subst hJ; exact h.drew.alloc _
theorem bxJ_app {w0 w' : World} {base : Nat} {A A' : Option Addr} {n c c' : Nat} {xs ns : List Value} {ib ia : Nat} {F : World → Prop} {cv : Nat → Value} (hown : Own w' base 5 1 A' (n + ns.length) c' (xs ++ ns)) (hgr : (w0.drew.alloc (.cells ns.toArray 5)).grownBy w' (A.map (·.block))) (hbel : Below base (w0.drew.alloc (.cells ns.toArray 5)) w')
    (hor : A'.map (·.block) = A.map (·.block) ∨ A'.map (·.block) = some (w0.drew.alloc (.cells ns.toArray 5)).heap.size) (hle : base ≤ w0.heap.size) :
    bxJ w0 base A n c xs ns ib ia F 2 (fun j => if j = ia then .slice A' (n + ns.length) c' else cv j) w' := by
  have hb0 : Below base w0 (w0.drew.alloc (.cells ns.toArray 5)) := ((Below.refl _ _).drew).alloc hle _
  refine ⟨A', c', by simp, hown, hb0.trans hbel, fun k hk hn => (hgr.block k (by simp; omega) (fun e => hn e.symm)).trans ((Below.heap_alloc w0.drew _ k hk)), ?_⟩
  rcases hor with h | h
  · exact .inl h
  · exact .inr (fun k hk => by rw [h] at hk; injection hk with hk; simp at hk; omega)
/-- Why the count stops. -/
theorem alike_stop {b : List UInt8} {k : Nat} (hk : k < b.length) : 1 ≤ alike (b.drop k) ∧ alike (b.drop k) ≤ 127 ∧ k + alike (b.drop k) ≤ b.length ∧ (∀ m, m < alike (b.drop k) → b[k + m]? = some b[k]) ∧
    (alike (b.drop k) = 127 ∨ (alike (b.drop k) < 127 ∧ k + alike (b.drop k) = b.length) ∨ (alike (b.drop k) < 127 ∧ ∃ h : k + alike (b.drop k) < b.length, b[k + alike (b.drop k)] ≠ b[k])) := by
  have e : b.drop k = b[k] :: b.drop (k + 1) := List.drop_eq_getElem_cons hk
  have hle := alike_le (b.drop k)
  rw [List.length_drop] at hle
  have ea : alike (b.drop k) = cntEq b[k] (b.drop (k + 1)) 126 + 1 := by rw [e]; rfl
  have hat := cntEq_at b[k] (b.drop (k + 1)) 126
  have hst := cntEq_stop b[k] (b.drop (k + 1)) 126
  refine ⟨by omega, hle.1, by omega, fun m hm => ?_, ?_⟩
  · rcases m with _ | m
    · simp [hk]
    · have := (hat m (by omega)).2
      rw [List.getElem?_drop] at this
      rw [show k + (m + 1) = k + 1 + m by omega]; exact this
  · by_cases h1 : alike (b.drop k) = 127
    · exact .inl h1
    · by_cases h2 : k + alike (b.drop k) = b.length
      · exact .inr (.inl ⟨by omega, h2⟩)
      · refine .inr (.inr ⟨by omega, by omega, fun e2 => ?_⟩)
        have := hst (by omega)
        rw [List.getElem?_drop, show k + 1 + cntEq b[k] (b.drop (k + 1)) 126 = k + alike (b.drop k) by omega, List.getElem?_eq_getElem (by omega), e2] at this
        exact this rfl
end Go.Proofs.Ytefkfglkpebbmac
