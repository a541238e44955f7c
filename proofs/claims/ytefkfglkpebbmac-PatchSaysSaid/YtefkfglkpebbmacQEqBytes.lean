/- The walks of the library's slices.Equal, over bytes. -/
import Derived.Test.YtefkfglkpebbmacQBase
namespace Go.Proofs.Ytefkfglkpebbmac
open Go.RowKit
set_option linter.unusedVariables false

theorem equalBytes_calls (A B : Option Addr) (c d : Nat) (l m : List UInt8) (w : World) (hl : l.length ≤ 140737488351232) (hm : m.length ≤ 140737488351232) (ha : Bts w A l) (hb : Bts w B m) :
    Calls Try.prog 94 #[.slice A l.length c, .slice B m.length d] w (RetN w (.bool (decide (l = m)))) := by
  by_cases hne : l.length = m.length
  · have hdl : ((l.length : Int) != (m.length : Int)) = false := by simp [hne]
    have HE := Lib.hid hne
    have hm1 : l.length ≤ m.length := by omega
    have hm2 : m.length ≤ l.length := by omega
    clear hne
    go_enter Try.func94, Try.ntmps94
    go_wp2
    go_loopw [5, 13] (fun u i wr => ∃ k n : Nat, k ≤ l.length ∧ i = .int .i64 k ∧ l.take k = m.take k ∧ w.drewN n = wr) (fun _ i _ => l.length - (intOf i).toNat)
    case atStart => exact ⟨0, 0, Nat.zero_le _, rfl, rfl, rfl⟩
    case round =>
      obtain ⟨k, n, hk, rfl, ht, rfl⟩ := hrel
      have HT := Lib.hid ht
      clear ht
      by_cases hlt : k < l.length
      · obtain ⟨b1, o1, rfl, hs1, hc1⟩ := ha k hlt
        obtain ⟨b2, o2, rfl, hs2, hc2⟩ := hb k (by omega)
        by_cases he : l[k] = m[k]'(by omega)
        · have hd : ((l[k].toNat : Int) != ((m[k]'(by omega)).toNat : Int)) = false := by simp [he]
          have HX := Lib.hid he
          clear he
          go_wp2_with fail
          go_quiet (fail)
          go_wp2_with fail
          go_roundw
          case rel => exact ⟨k + 1, _, by omega, by go_num, take_eq_succ HT.out hlt (by omega) HX.out, rfl⟩
          case measure => simp [intOf] <;> omega
        · have hd : ((l[k].toNat : Int) != ((m[k]'(by omega)).toNat : Int)) = true := by simp; exact fun e => he (UInt8.toNat_inj.1 (by omega))
          have HX := Lib.hid he
          clear he
          go_wp2_with fail
          go_quiet (fail)
          go_wp2_with fail
          go_ret
          exact ⟨ret_bool (by rw [decide_eq_false (ne_of_at hlt (by omega) HX.out)]), _, (World.drewN_drewN _ _ _).symm⟩
      · go_wp2_with fail
        go_ret
        refine ⟨ret_bool ?_, _, rfl⟩
        have h := HT.out
        rw [List.take_of_length_le (by omega), List.take_of_length_le (by omega)] at h
        rw [decide_eq_true h]
  · have hdl : ((l.length : Int) != (m.length : Int)) = true := by simp; omega
    have HX := Lib.hid hne
    clear hne
    go_enter Try.func94, Try.ntmps94
    go_wp2
    go_ret
    exact ⟨ret_bool (by rw [decide_eq_false (fun e => HX.out (by rw [e]))]), 0, rfl⟩
end Go.Proofs.Ytefkfglkpebbmac
