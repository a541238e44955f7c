/- The cells of a patch, as an array that the walk does not open; its rules. Written by gen_rows.py. No conditions. -/
import Derived.Test.YtefkfglkpebbmacQRowEng
import Derived.Test.YtefkfglkpebbmacQBase
namespace Go.Proofs.Ytefkfglkpebbmac
open Go.RowKit
set_option linter.unusedVariables false

def patA (f t o n s : Int) (A : Option Addr) (k c : Nat) : Array Value := #[iv f, iv t, iv o, iv n, iv s, .slice A k c]
@[go_sem] theorem patA_size (f t o n s : Int) (A : Option Addr) (k c : Nat) : (patA f t o n s A k c).size = 6 := by simp [patA]
@[go_sem] theorem patA_one (f t o n s : Int) (A : Option Addr) (k c : Nat) : allOne (patA f t o n s A k c) = true := by simp [patA, allOne, Value.oneCell']
@[go_sem] theorem patA_get0 (f t o n s : Int) (A : Option Addr) (k c : Nat) : (patA f t o n s A k c)[0]? = some (iv f) := by simp [patA]
@[go_sem] theorem patA_at0 (f t o n s : Int) (A : Option Addr) (k c : Nat) (h : 0 < (patA f t o n s A k c).size) : (patA f t o n s A k c)[0]'h = iv f := by simp [patA]
@[go_sem] theorem patA_get1 (f t o n s : Int) (A : Option Addr) (k c : Nat) : (patA f t o n s A k c)[1]? = some (iv t) := by simp [patA]
@[go_sem] theorem patA_at1 (f t o n s : Int) (A : Option Addr) (k c : Nat) (h : 1 < (patA f t o n s A k c).size) : (patA f t o n s A k c)[1]'h = iv t := by simp [patA]
@[go_sem] theorem patA_get2 (f t o n s : Int) (A : Option Addr) (k c : Nat) : (patA f t o n s A k c)[2]? = some (iv o) := by simp [patA]
@[go_sem] theorem patA_at2 (f t o n s : Int) (A : Option Addr) (k c : Nat) (h : 2 < (patA f t o n s A k c).size) : (patA f t o n s A k c)[2]'h = iv o := by simp [patA]
@[go_sem] theorem patA_get3 (f t o n s : Int) (A : Option Addr) (k c : Nat) : (patA f t o n s A k c)[3]? = some (iv n) := by simp [patA]
@[go_sem] theorem patA_at3 (f t o n s : Int) (A : Option Addr) (k c : Nat) (h : 3 < (patA f t o n s A k c).size) : (patA f t o n s A k c)[3]'h = iv n := by simp [patA]
@[go_sem] theorem patA_get4 (f t o n s : Int) (A : Option Addr) (k c : Nat) : (patA f t o n s A k c)[4]? = some (iv s) := by simp [patA]
@[go_sem] theorem patA_at4 (f t o n s : Int) (A : Option Addr) (k c : Nat) (h : 4 < (patA f t o n s A k c).size) : (patA f t o n s A k c)[4]'h = iv s := by simp [patA]
@[go_sem] theorem patA_get5 (f t o n s : Int) (A : Option Addr) (k c : Nat) : (patA f t o n s A k c)[5]? = some (.slice A k c) := by simp [patA]
@[go_sem] theorem patA_at5 (f t o n s : Int) (A : Option Addr) (k c : Nat) (h : 5 < (patA f t o n s A k c).size) : (patA f t o n s A k c)[5]'h = .slice A k c := by simp [patA]
@[go_sem] theorem patA_all (f t o n s : Int) (A : Option Addr) (k c : Nat) : (patA f t o n s A k c).extract 0 6 = patA f t o n s A k c := by simp [patA]
@[go_sem] theorem patA_cells (f t o n s : Int) (A : Option Addr) (k c : Nat) : (Value.agg (patA f t o n s A k c)).cells = patA f t o n s A k c := by simp [Value.cells]
@[go_sem] theorem pat_lit (f t o n s : Int) (A : Option Addr) (k c : Nat) : Value.agg #[.int .i64 f, .int .i64 t, .int .i64 o, .int .i64 n, .int .i64 s, .slice A k c] = Value.agg (patA f t o n s A k c) := by simp [patA]
@[go_sem] theorem patA_set5 (f t o n s : Int) (A : Option Addr) (k c : Nat) (B : Option Addr) (m d : Nat) : (patA f t o n s A k c).setIfInBounds 5 (.slice B m d) = patA f t o n s B m d := by simp [patA]
@[go_sem] theorem aggSzPat : aggSz Try.prog 35 = 6 := by kernel_rfl
@[go_sem] theorem patA_set0 (f t o n s : Int) (A : Option Addr) (k c : Nat) (x : Int) : (patA f t o n s A k c).setIfInBounds 0 (.int .i64 x) = patA x t o n s A k c := by simp [patA]
@[go_sem] theorem patA_set1 (f t o n s : Int) (A : Option Addr) (k c : Nat) (x : Int) : (patA f t o n s A k c).setIfInBounds 1 (.int .i64 x) = patA f x o n s A k c := by simp [patA]
@[go_sem] theorem patA_set2 (f t o n s : Int) (A : Option Addr) (k c : Nat) (x : Int) : (patA f t o n s A k c).setIfInBounds 2 (.int .i64 x) = patA f t x n s A k c := by simp [patA]
@[go_sem] theorem patA_set3 (f t o n s : Int) (A : Option Addr) (k c : Nat) (x : Int) : (patA f t o n s A k c).setIfInBounds 3 (.int .i64 x) = patA f t o x s A k c := by simp [patA]
@[go_sem] theorem patA_set4 (f t o n s : Int) (A : Option Addr) (k c : Nat) (x : Int) : (patA f t o n s A k c).setIfInBounds 4 (.int .i64 x) = patA f t o n x A k c := by simp [patA]
theorem patC_eq (p : Pat) (A : Option Addr) (c : Nat) : (patC p A c).toArray = patA p.from_ p.to_ p.old p.new_ p.size A p.ops.length c := by simp [patA]
end Go.Proofs.Ytefkfglkpebbmac
