/- Plain words on memory and small lemmas on worlds that all the walks of this seat share: a slice of bytes that reads as a list. No conditions. -/
import Derived.Test.YtefkfglkpebbmaaProg
import Derived.WalkKit
import Derived.WalkSpells
import Derived.WalkLawsBesides
import Derived.BigQuiet
import Derived.Deep.QuietTactic
import Derived.Outline
import Derived.Lib.Hide
import Derived.Deep.Draws
import Derived.Deep.DeepFit
namespace Go.Proofs.Ytefkfglkpebbmaa
open Go.RowKit
set_option linter.unusedVariables false

/-- An equation between returned integers. -/
theorem ret_int {k : IntKind} {a b : Int} (h : a = b) : Ending.returned (.int k a) = .returned (.int k b) := by rw [h]
theorem ret_bool {a b : Bool} (h : a = b) : Ending.returned (.bool a) = .returned (.bool b) := by rw [h]

theorem ret2 {a b a' b' : Value} (h : a = a') (g : b = b') : Ending.returned (.tuple #[a, b]) = .returned (.tuple #[a', b']) := by rw [h, g]
theorem ret3 {a b c a' b' c' : Value} (h : a = a') (g : b = b') (f : c = c') : Ending.returned (.tuple #[a, b, c]) = .returned (.tuple #[a', b', c']) := by rw [h, g, f]
theorem int_eq {k : IntKind} {a b : Int} (h : a = b) : Value.int k a = .int k b := by rw [h]

/-- The value of a byte. -/
abbrev bv (x : UInt8) : Value := .int .u8 (x.toNat : Int)

/-- The bytes of a slice that starts at A. -/
def Bts (w : World) (A : Option Addr) (l : List UInt8) : Prop :=
  ∀ i, (h : i < l.length) → ∃ b o, A = some ⟨b, o, none⟩ ∧ b < w.heap.size ∧ w.cell? ⟨b, o + i, none⟩ = some (bv l[i])
theorem Bts.stays {w w' : World} {A : Option Addr} {l : List UInt8} (h : Bts w A l) (hb : Below w.heap.size w w') : Bts w' A l := by
  intro i hi
  obtain ⟨b, o, rfl, hlt, hc⟩ := h i hi
  exact ⟨b, o, rfl, Nat.lt_of_lt_of_le hlt hb.size, (hb.cell (p := ⟨b, o + i, none⟩) hlt).trans hc⟩
theorem Bts.nil (w : World) (A : Option Addr) : Bts w A [] := fun i hi => absurd hi (by simp)

/-- A new block of bytes. -/
theorem bts_new (w : World) (l : List UInt8) (t : TypeId) : Bts (w.alloc (.cells (l.map bv).toArray t)) (some ⟨w.heap.size, 0, none⟩) l := by
  intro i hi
  refine ⟨_, _, rfl, by simp, ?_⟩
  rw [cell_of_row _ _ _ _ _ _ (heap_alloc_new w _)]
  simp [List.getElem?_eq_getElem hi]

theorem bts_top {w : World} {g : Nat} {l : List UInt8} {cs : Array Value} {t : TypeId} (hg : g = w.heap.size) (hcs : cs = (l.map bv).toArray) : Bts (w.alloc (.cells cs t)) (some ⟨g, 0, none⟩) l := by
  subst hg hcs; exact bts_new _ _ _

/-- It returns v, and the world is as it was. -/
def Ret (w : World) (v : Value) : Ending → World → Prop := fun e w' => e = .returned v ∧ w = w'
/-- It returns v, and what was there is as it was. -/
def RetB (w : World) (v : Value) : Ending → World → Prop := fun e w' => e = .returned v ∧ Below w.heap.size w w'
theorem Ret.to {w : World} {v : Value} {e : Ending} {w' : World} (h : Ret w v e w') : RetB w v e w' := by
  obtain ⟨rfl, rfl⟩ := h; exact ⟨rfl, Below.refl _ _⟩
/-- An int result. -/
abbrev iv (n : Int) : Value := .int .i64 n

end Go.Proofs.Ytefkfglkpebbmaa
