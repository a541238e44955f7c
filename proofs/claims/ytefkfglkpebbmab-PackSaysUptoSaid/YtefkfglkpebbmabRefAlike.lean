/- The walk of the document's alike. No conditions. -/
import Derived.Test.YtefkfglkpebbmabPack
namespace Go.Proofs.Ytefkfglkpebbmab
open Go.RowKit
set_option linter.unusedVariables false
set_option linter.unusedSimpArgs false

set_option maxRecDepth 100000 in
set_option maxHeartbeats 4000000 in
theorem refAlike_calls (A : Option Addr) (c : Nat) (l : List UInt8) (w : World) (h0 : 0 < l.length) (hc : l.length ≤ c) (hl : l.length ≤ 4194304) (hB : Bts w A l) :
    Calls Try.prog 60 #[.slice A l.length c] w (RetN w (iv (alike l : Nat))) := by
  obtain ⟨a1, a2, a3, a4, a5⟩ := alike_stop h0
  simp only [List.drop_zero, Nat.zero_add] at a1 a2 a3 a4 a5
  replace a5 : alike l = 127 ∨ (alike l < 127 ∧ alike l = l.length) ∨ (alike l < 127 ∧ ∃ h : alike l < l.length, l[alike l] ≠ l[0]) := by
    rcases a5 with h | h | ⟨h0, h1, h2⟩
    · exact .inl h
    · exact .inr (.inl h)
    · exact .inr (.inr ⟨h0, by simpa using h1, by simpa using h2⟩)
  have HA4 := Lib.hid a4
  have HBO := Lib.hid hB
  clear hB a4
  obtain ⟨ab, ao, rfl, hsb, hx0⟩ := HBO.out 0 h0
  simp only [Nat.add_zero] at hx0
  have HAL : Hid (alike l = alike l) := Lib.hid rfl
  generalize hal : alike l = al at *
  clear hal HAL
  go_enter Try.func60, Try.ntmps60
  go_wp2_with fail
  go_loopw [3] (fun n wr => ∃ (m nd : Nat), n = .int .i64 (m : Int) ∧ 1 ≤ m ∧ m ≤ al ∧ w.drewN nd = wr) (fun n _ => al - (intOf n).toNat)
  case atStart => exact ⟨1, 0, rfl, by omega, a1, rfl⟩
  case round =>
    obtain ⟨m, nd, rfl, hm1, hm2, rfl⟩ := hrel
    have hw1 : IntKind.i64.wrap ((m : Int) + 1) = (m : Int) + 1 := IntWalk.i64_in _ (by omega)
    by_cases hml : m < al
    · have hx2 := HA4.out m hml
      have hkm : m < l.length := by omega
      rw [List.getElem?_eq_getElem hkm] at hx2
      obtain ⟨b2, o2, e2, hs2, hc2⟩ := HBO.out m hkm
      injection e2 with e2
      injection e2 with e3 e4
      subst e3 e4
      have hx3 : l[m] = l[0] := by injection hx2
      rw [hx3] at hc2
      have d1 : decide ((m : Int) < 127) = true := decide_eq_true (by omega)
      have d2 : decide ((m : Int) < (l.length : Int)) = true := decide_eq_true (by omega)
      have d3 : ((l[0].toNat : Int) == (l[0].toNat : Int)) = true := by simp
      clear hx2 hx3
      go_wp2_with fail
      go_quiet (fail)
      go_wp2_with fail
      go_roundw
      case rel => exact ⟨m + 1, _, by go_num, by omega, by omega, rfl⟩
      case measure => simp [intOf]; omega
    · obtain rfl : m = al := by omega
      rcases a5 with h | ⟨h0, h⟩ | ⟨h0, h1, h2⟩
      · by_cases d2' : m < l.length
        · have d1 : decide ((m : Int) < 127) = false := decide_eq_false (by omega)
          have d2 : decide ((m : Int) < (l.length : Int)) = true := decide_eq_true (by omega)
          clear h hm2 hml
          go_wp2_with fail
          go_quiet (fail)
          go_wp2_with fail
          go_ret
          exact ⟨rfl, nd + nq, by rw [← World.drewN_drewN]⟩
        · have d2 : decide ((m : Int) < (l.length : Int)) = false := decide_eq_false (by omega)
          clear h hm2 hml
          go_wp2_with fail
          go_quiet (fail)
          go_wp2_with fail
          go_ret
          exact ⟨rfl, nd + nq, by rw [← World.drewN_drewN]⟩
      · have d2 : decide ((m : Int) < (l.length : Int)) = false := decide_eq_false (by omega)
        have d1 : decide ((m : Int) < 127) = true := decide_eq_true (by omega)
        have hx : ¬ m < l.length := by omega
        clear h h0 hm2 hml
        go_wp2_with fail
        go_quiet (fail)
        go_wp2_with fail
        go_ret
        exact ⟨rfl, nd + nq, by rw [← World.drewN_drewN]⟩
      · have d1 : decide ((m : Int) < 127) = true := decide_eq_true (by omega)
        have d2 : decide ((m : Int) < (l.length : Int)) = true := decide_eq_true (by omega)
        have d3 : ((l[m].toNat : Int) == (l[0].toNat : Int)) = false := by simp; exact fun e => h2 (UInt8.toNat_inj.1 (by omega))
        have hc2 : w.cell? ⟨ab, ao + m, none⟩ = some (bv l[m]) := by
          obtain ⟨b2, o2, e2, hs2, hc2⟩ := HBO.out m h1
          injection e2 with e2
          injection e2 with e3 e4
          subst e3 e4
          exact hc2
        clear h2 hm2 hml
        go_wp2_with fail
        go_quiet (fail)
        go_wp2_with fail
        go_ret
        exact ⟨rfl, nd + nq, by rw [← World.drewN_drewN]⟩
end Go.Proofs.Ytefkfglkpebbmab
