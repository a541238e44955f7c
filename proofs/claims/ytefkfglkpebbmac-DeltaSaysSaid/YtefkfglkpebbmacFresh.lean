/- What hangs on blocks from a place on alone: it outlives writes to earlier ones. No conditions. -/
import Derived.Test.YtefkfglkpebbmacDiffOwn
namespace Go.Proofs.Ytefkfglkpebbmac
open Go.RowKit
set_option linter.unusedVariables false

/-- P holds in every world whose blocks from base on are those of w. -/
def Fresh (base : Nat) (w : World) (P : World → Prop) : Prop := ∀ v : World, (∀ k, base ≤ k → k < w.heap.size → v.heap[k]? = w.heap[k]?) → P v
theorem Fresh.now {base : Nat} {w : World} {P : World → Prop} (h : Fresh base w P) : P w := h w fun _ _ _ => rfl
theorem Fresh.below {base B : Nat} {w w' : World} {P : World → Prop} (h : Fresh base w P) (hb : Below B w w') (hB : w.heap.size ≤ B) : Fresh base w' P :=
  fun v hv => h v fun k h1 h2 => (hv k h1 (Nat.lt_of_lt_of_le h2 hb.size)).trans (hb.block k (by omega))
theorem Fresh.mono {base base' : Nat} {w : World} {P : World → Prop} (h : Fresh base w P) (hb : base' ≤ base) : Fresh base' w P := fun v hv => h v fun k h1 h2 => hv k (by omega) h2
theorem Fresh.imp {base : Nat} {w : World} {P Q : World → Prop} (h : Fresh base w P) (hq : ∀ v, P v → Q v) : Fresh base w Q := fun v hv => hq v (h v hv)
theorem Fresh.row {base g : Nat} {w : World} {P : World → Prop} (h : Fresh base w P) (hg : g < base) (cs : Array Value) : Fresh base (w.setRow g cs) P :=
  fun v hv => h v fun k h1 h2 => (hv k h1 (by simpa [World.setRow] using h2)).trans (setRow_other w g k cs (by omega))
theorem Fresh.cell {base : Nat} {w : World} {P : World → Prop} (h : Fresh base w P) {p : Addr} (hg : p.block < base) (u : Value) : Fresh base (w.setCell p u) P :=
  fun v hv => h v fun k h1 h2 => (hv k h1 (by simpa using h2)).trans (Below.heap_setCell _ _ _ _ (by omega))
theorem Fresh.drewN {base : Nat} {w : World} {P : World → Prop} (h : Fresh base w P) (n : Nat) : Fresh base (w.drewN n) P := h
theorem Fresh.alloc {base : Nat} {w : World} {P : World → Prop} (h : Fresh base w P) (o : Obj) : Fresh base (w.alloc o) P :=
  h.below ((Below.refl w.heap.size w).alloc (Nat.le_refl _) o) (Nat.le_refl _)
theorem Fresh.const {base : Nat} {w : World} {P : World → Prop} (h : ∀ v, P v) : Fresh base w P := fun v _ => h v
theorem own_fresh {w v : World} {base e size n c : Nat} {A : Option Addr} {xs : List Value} (h : Own w base e size A n c xs) (hv : ∀ k, base ≤ k → k < w.heap.size → v.heap[k]? = w.heap[k]?) : Own v base e size A n c xs := by
  obtain ⟨h1, h2⟩ := h
  refine ⟨h1, ?_⟩
  rcases h2 with h2 | ⟨g, cap, cur, hv', hg, hh, r⟩
  · exact Or.inl h2
  · exact Or.inr ⟨g, cap, cur, hv', hg, (hv g hg (blk_lt hh)).trans hh, r⟩
theorem Own.fresh {w : World} {base e n c : Nat} {A : Option Addr} {l : List UInt8} (h : Own w base e 1 A n c (l.map bv)) : Fresh base w (fun v => Bts v A l) := fun v hv => (own_fresh h hv).src.bts
theorem DRow.fresh {w : World} {base : Nat} {l : List Stp} {ds : List (Option Addr × Nat)} {A : Option Addr} {c : Nat} (h : DRow w base l ds A c) (hb : ∀ o ∈ l, I64 o.at_ ∧ I64 o.len ∧ o.data.length ≤ 140737488351232) : Fresh base w (fun v => Sps v A l) :=
  fun v hv => DRow.sps (base := base) (ds := ds) (c := c) ⟨h.len, own_fresh h.row hv, fun i o d h1 h2 => own_fresh (h.data i o d h1 h2) hv, h.off, h.apart⟩ hb
/-- It returns steps of its own and an error. -/
def OpRet3 (w : World) (l : List Stp) (n : Int) : Ending → World → Prop := fun en w' =>
  ∃ A c, en = .returned (.tuple #[.slice A l.length c, iv n]) ∧ Fresh w.heap.size w' (fun v => Sps v A l) ∧ l.length ≤ c ∧ Below w.heap.size w w'
end Go.Proofs.Ytefkfglkpebbmac
