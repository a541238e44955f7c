/- Two rows of a call's own that grow side by side: where each byte comes from, and which it is. No conditions. -/
import Derived.Test.YtefkfglkpebbmabRefOne
import Derived.Test.YtefkfglkpebbmabElInts
namespace Go.Proofs.Ytefkfglkpebbmab
open Go.RowKit
set_option linter.unusedVariables false

structure Two (w : World) (base : Nat) (us : List Src1) (F : Option Addr) (cf : Nat) (D : Option Addr) (cd : Nat) : Prop where
  f : Own w base 3 1 F us.length cf (us.map fun u => iv u.1)
  d : Own w base 5 1 D us.length cd (us.map fun u => bv u.2)
  ne : ∀ k, F.map (·.block) = some k → D.map (·.block) ≠ some k
theorem Two.nil (w : World) (base : Nat) : Two w base [] none 0 none 0 := ⟨Own.nil_ _ _ _ _, Own.nil_ _ _ _ _, fun k hk => by cases hk⟩
theorem Two.below {w w' : World} {base : Nat} {us : List Src1} {F D : Option Addr} {cf cd : Nat} (h : Two w base us F cf D cd) (hb : Below w.heap.size w w') : Two w' base us F cf D cd :=
  ⟨h.f.below (B := 0) hb, h.d.below (B := 0) hb, h.ne⟩
theorem Two.mid {w wb : World} {base : Nat} {us : List Src1} {F D : Option Addr} {cf cd : Nat} {o o2 : Obj} (h : Two w base us F cf D cd) (g1 : (w.alloc o).grownBy wb (F.map (·.block))) : Own (wb.alloc o2) base 5 1 D us.length cd (us.map fun u => bv u.2) := by
  refine ((h.d.alloc o).kept g1 ?_).alloc o2
  cases hk : D.map (·.block) with
  | none => exact .inl rfl
  | some k => exact .inr fun e => h.ne k e.symm hk
theorem Two.push {w wb wd : World} {base : Nat} {us : List Src1} {F D F' D' : Option Addr} {cf cd cf' cd' : Nat} {o o2 : Obj} {a : Int} {x : UInt8} (h : Two w base us F cf D cd)
    (h1 : Own wb base 3 1 F' (us.length + 1) cf' ((us.map fun u => iv u.1) ++ [iv a])) (g1 : (w.alloc o).grownBy wb (F.map (·.block))) (o1 : F'.map (·.block) = F.map (·.block) ∨ F'.map (·.block) = some (w.alloc o).heap.size)
    (h2 : Own wd base 5 1 D' (us.length + 1) cd' ((us.map fun u => bv u.2) ++ [bv x])) (g2 : (wb.alloc o2).grownBy wd (D.map (·.block))) (o2' : D'.map (·.block) = D.map (·.block) ∨ D'.map (·.block) = some (wb.alloc o2).heap.size) :
    Two wd base (us ++ [(a, x)]) F' cf' D' cd' := by
  have hs1 := g1.size
  have hD : ∀ k, D.map (·.block) = some k → k < w.heap.size := fun k hk => (h.d.block k hk).2
  have hF : ∀ k, F'.map (·.block) = some k → D.map (·.block) ≠ some k := fun k hk hd => by
    rcases o1 with e | e
    · rw [e] at hk; exact h.ne k hk hd
    · rw [e] at hk
      injection hk with hk
      have := hD k hd
      simp at hk
      omega
  refine ⟨?_, ?_, fun k hk => ?_⟩
  · have := (h1.alloc o2).kept g2 (by
      cases hk : F'.map (·.block) with
      | none => exact .inl rfl
      | some k => exact .inr fun e => hF k hk e.symm)
    simpa using this
  · simpa using h2
  · rcases o2' with e | e
    · rw [e]; exact hF k hk
    · rw [e]
      intro e2
      injection e2 with e2
      have := (h1.block k hk).2
      simp at e2
      omega
end Go.Proofs.Ytefkfglkpebbmab
