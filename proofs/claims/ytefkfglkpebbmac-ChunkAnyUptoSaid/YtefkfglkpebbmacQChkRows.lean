/- The cells of a chunk, as an array that the walk does not open; its rules. Written by gen_chkrows.py. No conditions. -/
import Derived.Test.YtefkfglkpebbmacQMid
import Derived.Test.YtefkfglkpebbmacQBase
namespace Go.Proofs.Ytefkfglkpebbmac
open Go.RowKit
set_option linter.unusedVariables false

def chkA (f t n o : Int) (A : Option Addr) (k c : Nat) : Array Value := #[iv f, iv t, iv n, iv o, .slice A k c]
@[go_sem] theorem chkA_size (f t n o : Int) (A : Option Addr) (k c : Nat) : (chkA f t n o A k c).size = 5 := by simp [chkA]
@[go_sem] theorem chkA_one (f t n o : Int) (A : Option Addr) (k c : Nat) : allOne (chkA f t n o A k c) = true := by simp [chkA, allOne, Value.oneCell']
@[go_sem] theorem chkA_get0 (f t n o : Int) (A : Option Addr) (k c : Nat) : (chkA f t n o A k c)[0]? = some (iv f) := by simp [chkA]
@[go_sem] theorem chkA_at0 (f t n o : Int) (A : Option Addr) (k c : Nat) (h : 0 < (chkA f t n o A k c).size) : (chkA f t n o A k c)[0]'h = iv f := by simp [chkA]
@[go_sem] theorem chkA_get1 (f t n o : Int) (A : Option Addr) (k c : Nat) : (chkA f t n o A k c)[1]? = some (iv t) := by simp [chkA]
@[go_sem] theorem chkA_at1 (f t n o : Int) (A : Option Addr) (k c : Nat) (h : 1 < (chkA f t n o A k c).size) : (chkA f t n o A k c)[1]'h = iv t := by simp [chkA]
@[go_sem] theorem chkA_get2 (f t n o : Int) (A : Option Addr) (k c : Nat) : (chkA f t n o A k c)[2]? = some (iv n) := by simp [chkA]
@[go_sem] theorem chkA_at2 (f t n o : Int) (A : Option Addr) (k c : Nat) (h : 2 < (chkA f t n o A k c).size) : (chkA f t n o A k c)[2]'h = iv n := by simp [chkA]
@[go_sem] theorem chkA_get3 (f t n o : Int) (A : Option Addr) (k c : Nat) : (chkA f t n o A k c)[3]? = some (iv o) := by simp [chkA]
@[go_sem] theorem chkA_at3 (f t n o : Int) (A : Option Addr) (k c : Nat) (h : 3 < (chkA f t n o A k c).size) : (chkA f t n o A k c)[3]'h = iv o := by simp [chkA]
@[go_sem] theorem chkA_get4 (f t n o : Int) (A : Option Addr) (k c : Nat) : (chkA f t n o A k c)[4]? = some (.slice A k c) := by simp [chkA]
@[go_sem] theorem chkA_at4 (f t n o : Int) (A : Option Addr) (k c : Nat) (h : 4 < (chkA f t n o A k c).size) : (chkA f t n o A k c)[4]'h = .slice A k c := by simp [chkA]
@[go_sem] theorem chkA_all (f t n o : Int) (A : Option Addr) (k c : Nat) : (chkA f t n o A k c).extract 0 5 = chkA f t n o A k c := by simp [chkA]
@[go_sem] theorem chkA_cells (f t n o : Int) (A : Option Addr) (k c : Nat) : (Value.agg (chkA f t n o A k c)).cells = chkA f t n o A k c := by simp [Value.cells]
@[go_sem] theorem chk_lit (f t n o : Int) (A : Option Addr) (k c : Nat) : Value.agg #[.int .i64 f, .int .i64 t, .int .i64 n, .int .i64 o, .slice A k c] = Value.agg (chkA f t n o A k c) := by simp [chkA]
@[go_sem] theorem chkA_set4 (f t n o : Int) (A : Option Addr) (k c : Nat) (B : Option Addr) (m d : Nat) : (chkA f t n o A k c).setIfInBounds 4 (.slice B m d) = chkA f t n o B m d := by simp [chkA]
@[go_sem] theorem aggSzChk : aggSz Try.prog 49 = 5 := by kernel_rfl
@[go_sem] theorem chkA_set0 (f t n o : Int) (A : Option Addr) (k c : Nat) (x : Int) : (chkA f t n o A k c).setIfInBounds 0 (.int .i64 x) = chkA x t n o A k c := by simp [chkA]
@[go_sem] theorem chkA_set1 (f t n o : Int) (A : Option Addr) (k c : Nat) (x : Int) : (chkA f t n o A k c).setIfInBounds 1 (.int .i64 x) = chkA f x n o A k c := by simp [chkA]
@[go_sem] theorem chkA_set2 (f t n o : Int) (A : Option Addr) (k c : Nat) (x : Int) : (chkA f t n o A k c).setIfInBounds 2 (.int .i64 x) = chkA f t x o A k c := by simp [chkA]
@[go_sem] theorem chkA_set3 (f t n o : Int) (A : Option Addr) (k c : Nat) (x : Int) : (chkA f t n o A k c).setIfInBounds 3 (.int .i64 x) = chkA f t n x A k c := by simp [chkA]
@[go_sem] theorem chkA_ne (f t n o : Int) (A : Option Addr) (k c : Nat) : (chkA f t n o A k c = #[]) = False := by simp [chkA]
theorem chkC_eq (x : Chk) (A : Option Addr) (c : Nat) : (chkC x A c).toArray = chkA x.from_ x.to_ x.n x.of_ A x.data.length c := by simp [chkA]
theorem chkA_list (x : Chk) (A : Option Addr) (c : Nat) : (chkA x.from_ x.to_ x.n x.of_ A x.data.length c).toList = chkC x A c := by simp [chkA]
end Go.Proofs.Ytefkfglkpebbmac
