/- Two and three byte slices put together. -/
import Derived.Test.YtefkfglkpebbmacQConcatBytes
namespace Go.Proofs.Ytefkfglkpebbmac
open Go.RowKit
set_option linter.unusedVariables false

/-- It returns bytes of the call's own. -/
def BtRet (w : World) (l : List UInt8) : Ending → World → Prop := fun en w' =>
  ∃ A c, en = .returned (.slice A l.length c) ∧ Own w' w.heap.size 5 1 A l.length c (l.map bv) ∧ Below w.heap.size w w'
theorem src_blk {w : World} {g : Nat} {cs : Array Value} {t : TypeId} {fr : Nat × Nat} (h : w.heap[g]? = some (.cells cs t fr)) : Src w (some ⟨g, 0, none⟩) cs.toList := by
  intro i hi
  refine ⟨_, _, rfl, blk_lt h, ?_⟩
  rw [cell_of_row _ _ _ _ _ _ h]
  simp
theorem bv_one (l : List UInt8) : ∀ u ∈ l.map bv, u.oneCell' = true := by
  intro u hu
  obtain ⟨x, _, rfl⟩ := List.mem_map.1 hu
  rfl
def srcB (A : Option Addr) (l : List UInt8) (c : Nat) : SrcOf := ⟨A, l.length, c, l.map bv⟩
theorem srcB_ok {w : World} {A : Option Addr} {l : List UInt8} {c : Nat} (h : Bts w A l) : (srcB A l c).ok w 1 := ⟨by simp [srcB], h.src, bv_one l⟩

theorem concat2_calls {w : World} {g : Nat} {A B : Option Addr} {a b : List UInt8} {c d : Nat} {t : TypeId} {fr : Nat × Nat} (h : w.heap[g]? = some (.cells #[.slice A a.length c, .slice B b.length d] t fr))
    (hl : a.length + b.length ≤ 137438953472) (ha : Bts w A a) (hb : Bts w B b) :
    Calls Try.prog 87 #[.slice (some ⟨g, 0, none⟩) 2 2] w (BtRet w (a ++ b)) := by
  refine (concatBytes_calls [srcB A a c, srcB B b d] (some ⟨g, 0, none⟩) 2 w (by simp) (by simp [sumN, srcB]; omega) (src_blk h) (fun s hs => ?_)).mono ?_
  · simp only [List.mem_cons, List.not_mem_nil, or_false] at hs
    rcases hs with rfl | rfl
    · exact srcB_ok ha
    · exact srcB_ok hb
  · rintro e w' ⟨A', c', rfl, ho, hbel⟩
    have e1 : sumN [srcB A a c, srcB B b d] = (a ++ b).length := by simp [sumN, srcB]
    have e2 : [srcB A a c, srcB B b d].flatMap SrcOf.cells = (a ++ b).map bv := by simp [srcB]
    rw [e1, e2] at ho
    rw [e1]
    exact ⟨A', c', rfl, ho, hbel⟩
theorem concat3_calls {w : World} {g : Nat} {A B C : Option Addr} {a b l : List UInt8} {c d k : Nat} {t : TypeId} {fr : Nat × Nat} (h : w.heap[g]? = some (.cells #[.slice A a.length c, .slice B b.length d, .slice C l.length k] t fr))
    (hl : a.length + b.length + l.length ≤ 137438953472) (ha : Bts w A a) (hb : Bts w B b) (hc : Bts w C l) :
    Calls Try.prog 87 #[.slice (some ⟨g, 0, none⟩) 3 3] w (BtRet w (a ++ b ++ l)) := by
  refine (concatBytes_calls [srcB A a c, srcB B b d, srcB C l k] (some ⟨g, 0, none⟩) 3 w (by simp) (by simp [sumN, srcB]; omega) (src_blk h) (fun s hs => ?_)).mono ?_
  · simp only [List.mem_cons, List.not_mem_nil, or_false] at hs
    rcases hs with rfl | rfl | rfl
    · exact srcB_ok ha
    · exact srcB_ok hb
    · exact srcB_ok hc
  · rintro e w' ⟨A', c', rfl, ho, hbel⟩
    have e1 : sumN [srcB A a c, srcB B b d, srcB C l k] = (a ++ b ++ l).length := by simp [sumN, srcB] <;> omega
    have e2 : [srcB A a c, srcB B b d, srcB C l k].flatMap SrcOf.cells = (a ++ b ++ l).map bv := by simp [srcB]
    rw [e1, e2] at ho
    rw [e1]
    exact ⟨A', c', rfl, ho, hbel⟩
end Go.Proofs.Ytefkfglkpebbmac
