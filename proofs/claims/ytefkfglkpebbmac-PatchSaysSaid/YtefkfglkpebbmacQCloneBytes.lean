/- The walk of the library's slices.Clone over Bytes. -/
import Derived.Test.YtefkfglkpebbmacQBase
namespace Go.Proofs.Ytefkfglkpebbmac
open Go.RowKit
set_option linter.unusedVariables false

theorem cloneBytes_calls (A : Option Addr) (n c : Nat) (cs : List Value) (w : World) (hl : cs.length = n * 1) (hn0 : n ≤ 140737488355328) (hr : Src w A cs) (h1 : ∀ u ∈ cs, u.oneCell' = true) :
    Calls Try.prog 100 #[.slice A n c] w (SlRet w 5 1 n cs) := by
  rcases A with _ | ad
  · have h0 : cs.length = 0 := by
      rcases Nat.eq_zero_or_pos cs.length with h | h
      · exact h
      · obtain ⟨b, o, h, _⟩ := hr 0 h
        cases h
    obtain rfl : n = 0 := by omega
    obtain rfl : cs = [] := List.eq_nil_of_length_eq_zero h0
    have hn := fun (wx : World) (a : Option Addr) (n c n' c' : Nat) => Lib.run_eql_slice_nil (P := Try.prog) wx 22 5 a n c n' c' Try.underlying22
    clear h0 hl
    go_enter Try.func100, Try.ntmps100
    go_wp2
    go_ret
    exact ⟨none, 0, rfl, Own.nil_ _ _ _ _, Below.refl _ _⟩
  · have hn := fun (wx : World) (a : Option Addr) (n c n' c' : Nat) => Lib.run_eql_slice_nil (P := Try.prog) wx 22 5 a n c n' c' Try.underlying22
    have ho : Own (w.alloc (.cells #[] 5)) w.heap.size 5 1 (some ⟨w.heap.size, 0, none⟩) 0 0 [] := own_zero w _ _
    have hs := hr.stays ((Below.refl w.heap.size w).alloc (Nat.le_refl _) (.cells #[] 5))
    have hb1 : 0 + n ≤ 140737488355328 := by omega
    have hb2 : w.heap.size ≤ (w.alloc (.cells #[] 5)).heap.size := by simp
    have HL := Lib.hid hl
    clear hl
    go_enter Try.func100, Try.ntmps100
    go_wp2_with (at_builtin; refine wpList_app _ rfl _ _ 22 rfl elBytesB w.heap.size (some ⟨w.heap.size, 0, none⟩) 0 0 [] rfl ho (some ad) n c cs rfl hs HL.out h1 hb1 hb2 ?_; intro A' c' w1 hown hg hb hx)
    go_ret
    simp only [Nat.zero_add, List.nil_append] at hown
    exact ⟨_, _, rfl, hown, ((Below.refl _ _).alloc (Nat.le_refl _) _).trans hb⟩
end Go.Proofs.Ytefkfglkpebbmac
