/- The walk of the library's bytes.Equal. No conditions. -/
import Derived.Test.YtefkfglkpebbmacQBase
import Derived.Laws.IdiomStrings
import Derived.Laws.BytesArg
namespace Go.Proofs.Ytefkfglkpebbmac
open Go.RowKit
set_option linter.unusedVariables false

theorem conv_str (A : Option Addr) (c : Nat) (l : List UInt8) (w : World) (hc : l.length ≤ c) (h : Bts w A l) : (convert 22 9 (.slice A l.length c)).run Try.prog w = .ok (.string ⟨l.toArray⟩) w := by
  by_cases e : l = []
  · subst e
    cases A with
    | none => exact run_convert_bytes_nil (P := Try.prog) w 22 5 Try.underlying22 Try.underlying5 0 c 9 Try.underlying9
    | some a => exact run_convert_bytes_back (P := Try.prog) w 22 9 5 a c [] Try.underlying22 Try.underlying5 Try.underlying9 (fun j hj => by simp at hj)
  · obtain ⟨b, o, rfl, -, -⟩ := h 0 (by rcases l with _ | ⟨x, l⟩; exact absurd rfl e; simp)
    refine run_convert_bytes_back (P := Try.prog) w 22 9 5 ⟨b, o, none⟩ c l Try.underlying22 Try.underlying5 Try.underlying9 (fun j hj => ?_)
    obtain ⟨b', o', e, -, hc⟩ := h j hj
    injection e with e
    injection e with e1 e2
    subst e1 e2
    rw [show (⟨b, o, none⟩ : Addr).add j = ⟨b, o + j, none⟩ by simp [Addr.add]]
    exact hc
set_option maxHeartbeats 1000000 in
theorem bytesEqual_calls (A B : Option Addr) (c d : Nat) (l m : List UInt8) (w : World) (hc : l.length ≤ c) (hd : m.length ≤ d) (ha : Bts w A l) (hb : Bts w B m) :
    Calls Try.prog 23 #[.slice A l.length c, .slice B m.length d] w (Ret w (.bool (decide (l = m)))) := by
  have k1 := conv_str A c l w hc ha
  have k2 := conv_str B d m w hd hb
  go_enter Try.func23, Try.ntmps23
  go_wp2_with fail
  go_ret
  exact ⟨ret_bool (by by_cases e : l = m <;> simp [e]), rfl⟩
end Go.Proofs.Ytefkfglkpebbmac
