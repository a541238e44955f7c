/- Plain words on memory and small lemmas on worlds that all the walks of this seat share: a slice of bytes that reads as a list. No conditions. -/
import Derived.Test.YtefkfglkpebbmacProg
import Derived.WalkKit
import Derived.WalkSpells
import Derived.WalkLawsBesides
import Derived.BigQuiet
import Derived.Deep.QuietTactic
import Derived.Outline
import Derived.Lib.Hide
import Derived.Deep.Draws
import Derived.Deep.DeepFit
import Derived.Lib.SlBytesConst
namespace Go.Proofs.Ytefkfglkpebbmac
open Go.RowKit
set_option linter.unusedVariables false

/-- An equation between returned integers. -/
theorem ret_int {k : IntKind} {a b : Int} (h : a = b) : Ending.returned (.int k a) = .returned (.int k b) := by rw [h]
theorem ret_bool {a b : Bool} (h : a = b) : Ending.returned (.bool a) = .returned (.bool b) := by rw [h]

theorem ret2 {a b a' b' : Value} (h : a = a') (g : b = b') : Ending.returned (.tuple #[a, b]) = .returned (.tuple #[a', b']) := by rw [h, g]
theorem ret3 {a b c a' b' c' : Value} (h : a = a') (g : b = b') (f : c = c') : Ending.returned (.tuple #[a, b, c]) = .returned (.tuple #[a', b', c']) := by rw [h, g, f]
theorem int_eq {k : IntKind} {a b : Int} (h : a = b) : Value.int k a = .int k b := by rw [h]

/-- The value of a byte. -/
abbrev bv (x : UInt8) : Value := .int .u8 (x.toNat : Int)

/-- The bytes of a slice that starts at A. -/
def Bts (w : World) (A : Option Addr) (l : List UInt8) : Prop :=
  ∀ i, (h : i < l.length) → ∃ b o, A = some ⟨b, o, none⟩ ∧ b < w.heap.size ∧ w.cell? ⟨b, o + i, none⟩ = some (bv l[i])
theorem Bts.stays {w w' : World} {A : Option Addr} {l : List UInt8} (h : Bts w A l) (hb : Below w.heap.size w w') : Bts w' A l := by
  intro i hi
  obtain ⟨b, o, rfl, hlt, hc⟩ := h i hi
  exact ⟨b, o, rfl, Nat.lt_of_lt_of_le hlt hb.size, (hb.cell (p := ⟨b, o + i, none⟩) hlt).trans hc⟩
theorem Bts.nil (w : World) (A : Option Addr) : Bts w A [] := fun i hi => absurd hi (by simp)

/-- An int result. -/
abbrev iv (n : Int) : Value := .int .i64 n
/-- The ints of a slice that starts at A. -/
def Nts (w : World) (A : Option Addr) (l : List Int) : Prop :=
  ∀ i, (h : i < l.length) → ∃ b o, A = some ⟨b, o, none⟩ ∧ b < w.heap.size ∧ w.cell? ⟨b, o + i, none⟩ = some (iv l[i])
theorem Nts.stays {w w' : World} {A : Option Addr} {l : List Int} (h : Nts w A l) (hb : Below w.heap.size w w') : Nts w' A l := by
  intro i hi
  obtain ⟨b, o, rfl, hlt, hc⟩ := h i hi
  exact ⟨b, o, rfl, Nat.lt_of_lt_of_le hlt hb.size, (hb.cell (p := ⟨b, o + i, none⟩) hlt).trans hc⟩
theorem Nts.nil (w : World) (A : Option Addr) : Nts w A [] := fun i hi => absurd hi (by simp)
theorem nts_top {w : World} {g : Nat} {l : List Int} {cs : Array Value} {t : TypeId} (hg : g = w.heap.size) (hcs : cs = (l.map iv).toArray) : Nts (w.alloc (.cells cs t)) (some ⟨g, 0, none⟩) l := by
  subst hg hcs
  intro i hi
  refine ⟨_, _, rfl, by simp, ?_⟩
  rw [cell_of_row _ _ _ _ _ _ (heap_alloc_new w _)]
  simp [List.getElem?_eq_getElem hi]

/-- A new block of bytes. -/
theorem bts_new (w : World) (l : List UInt8) (t : TypeId) : Bts (w.alloc (.cells (l.map bv).toArray t)) (some ⟨w.heap.size, 0, none⟩) l := by
  intro i hi
  refine ⟨_, _, rfl, by simp, ?_⟩
  rw [cell_of_row _ _ _ _ _ _ (heap_alloc_new w _)]
  simp [List.getElem?_eq_getElem hi]

theorem bts_top {w : World} {g : Nat} {l : List UInt8} {cs : Array Value} {t : TypeId} (hg : g = w.heap.size) (hcs : cs = (l.map bv).toArray) : Bts (w.alloc (.cells cs t)) (some ⟨g, 0, none⟩) l := by
  subst hg hcs; exact bts_new _ _ _

/-- A constant's bytes. -/
theorem convert_const {P : Program} (t e : TypeId) (ht : P.underlying t = some (.slice e)) (he : P.underlying e = some (.int .u8)) (w : World) (C : Array Value) (n c g : Nat) (hg : g = w.heap.size) :
    (convert t t (.slice (some ⟨g, 0, none⟩) n c)).run P (w.alloc (.cells C e)) = .ok (.slice (some ⟨g, 0, none⟩) n c) (w.alloc (.cells C e (C.size, C.size + 1))) := by
  subst hg; exact Lib.run_convert_bytes_const w t e C n c ht he

/-! Blocks in a chain of new ones -/
theorem blk_top {w : World} {g : Nat} {o : Obj} (hg : g = w.heap.size) : (w.alloc o).heap[g]? = some o := by subst hg; exact heap_alloc_new w o
theorem blk_lt {w : World} {g : Nat} {o : Obj} (h : w.heap[g]? = some o) : g < w.heap.size := by
  rcases Nat.lt_or_ge g w.heap.size with hlt | hge
  · exact hlt
  · rw [Array.getElem?_eq_none hge] at h; cases h
theorem blk_old {w : World} {g : Nat} {o o' : Obj} (h : w.heap[g]? = some o') : (w.alloc o).heap[g]? = some o' := (Below.heap_alloc w o g (blk_lt h)).trans h
theorem blk_drewN {w : World} {g n : Nat} {o' : Obj} (h : w.heap[g]? = some o') : (w.drewN n).heap[g]? = some o' := h
theorem blk_drew {w : World} {g : Nat} {o' : Obj} (h : w.heap[g]? = some o') : w.drew.heap[g]? = some o' := h
theorem blk_below {w w' : World} {g : Nat} {o' : Obj} (h : w.heap[g]? = some o') (hb : Below w.heap.size w w') : w'.heap[g]? = some o' := (hb.block g (blk_lt h)).trans h
theorem nts_blk {w : World} {g : Nat} {l : List Int} {cs : Array Value} {t : TypeId} (h : w.heap[g]? = some (.cells cs t (0, 0))) (hcs : cs = (l.map iv).toArray) : Nts w (some ⟨g, 0, none⟩) l := by
  subst hcs
  intro i hi
  refine ⟨_, _, rfl, blk_lt h, ?_⟩
  rw [cell_of_row _ _ _ _ _ _ h]
  simp [List.getElem?_eq_getElem hi]
theorem bts_blk {w : World} {g : Nat} {l : List UInt8} {cs : Array Value} {t : TypeId} {fr : Nat × Nat} (h : w.heap[g]? = some (.cells cs t fr)) (hcs : cs = (l.map bv).toArray) : Bts w (some ⟨g, 0, none⟩) l := by
  subst hcs
  intro i hi
  refine ⟨_, _, rfl, blk_lt h, ?_⟩
  rw [cell_of_row _ _ _ _ _ _ h]
  simp [List.getElem?_eq_getElem hi]

theorem bts_ex {w : World} {g : Nat} {l : List UInt8} (h : ∃ cs t fr, w.heap[g]? = some (.cells cs t fr) ∧ cs = (l.map bv).toArray) : Bts w (some ⟨g, 0, none⟩) l := by
  obtain ⟨cs, t, fr, h1, h2⟩ := h
  exact bts_blk h1 h2
theorem nts_ex {w : World} {g : Nat} {l : List Int} (h : ∃ cs t, w.heap[g]? = some (.cells cs t (0, 0)) ∧ cs = (l.map iv).toArray) : Nts w (some ⟨g, 0, none⟩) l := by
  obtain ⟨cs, t, h1, h2⟩ := h
  exact nts_blk h1 h2

/-- It returns v, and the world is as it was. -/
def Ret (w : World) (v : Value) : Ending → World → Prop := fun e w' => e = .returned v ∧ w = w'
/-- It returns v, and what was there is as it was. -/
def RetB (w : World) (v : Value) : Ending → World → Prop := fun e w' => e = .returned v ∧ Below w.heap.size w w'
theorem Ret.to {w : World} {v : Value} {e : Ending} {w' : World} (h : Ret w v e w') : RetB w v e w' := by
  obtain ⟨rfl, rfl⟩ := h; exact ⟨rfl, Below.refl _ _⟩
/-- It returns v, and the world has drawn some answers. -/
def RetN (w : World) (v : Value) : Ending → World → Prop := fun e w' => e = .returned v ∧ ∃ n, w.drewN n = w'
theorem below_drewN (w : World) (n : Nat) : Below w.heap.size w (w.drewN n) := ⟨rfl, rfl, rfl, Nat.le_refl _, fun _ _ => rfl⟩
theorem Below.drewN' {B : Nat} {a w : World} (h : Below B a w) (n : Nat) : Below B a (w.drewN n) := ⟨h.os, h.tape, h.output, h.size, h.block⟩
theorem Bts.drewN {w : World} {A : Option Addr} {l : List UInt8} (h : Bts w A l) (n : Nat) : Bts (w.drewN n) A l := h
theorem Nts.drewN {w : World} {A : Option Addr} {l : List Int} (h : Nts w A l) (n : Nat) : Nts (w.drewN n) A l := h
theorem Bts.drew {w : World} {A : Option Addr} {l : List UInt8} (h : Bts w A l) : Bts w.drew A l := h
theorem Nts.drew {w : World} {A : Option Addr} {l : List Int} (h : Nts w A l) : Nts w.drew A l := h

/-- A call in a region that only reads. -/
theorem quietRet {P : Program} {f : FuncId} {args : Array Value} {w : World} {n : Nat} {v : Value} (h : Calls P f args (w.drewN n) (Ret (w.drewN n) v)) :
    Calls P f args (w.drewN n) fun e w'' => e = .returned v ∧ ∃ m, w'' = w.drewN m :=
  h.mono fun _ _ ⟨he, hm⟩ => ⟨he, n, hm.symm⟩
theorem quietRetN {P : Program} {f : FuncId} {args : Array Value} {w : World} {n : Nat} {v : Value} (h : Calls P f args (w.drewN n) (RetN (w.drewN n) v)) :
    Calls P f args (w.drewN n) fun e w'' => e = .returned v ∧ ∃ m, w'' = w.drewN m :=
  h.mono fun _ _ ⟨he, m, hm⟩ => ⟨he, n + m, by rw [← World.drewN_drewN]; exact hm.symm⟩

theorem take_eq_succ {α : Type} {l m : List α} {k : Nat} (h : l.take k = m.take k) (hl : k < l.length) (hm : k < m.length) (e : l[k] = m[k]) : l.take (k + 1) = m.take (k + 1) := by
  rw [List.take_succ_eq_append_getElem hl, List.take_succ_eq_append_getElem hm, h, e]
theorem ne_of_at {α : Type} {l m : List α} {k : Nat} (hl : k < l.length) (hm : k < m.length) (e : l[k] ≠ m[k]) : l ≠ m := by
  rintro rfl; exact e rfl

end Go.Proofs.Ytefkfglkpebbmac
