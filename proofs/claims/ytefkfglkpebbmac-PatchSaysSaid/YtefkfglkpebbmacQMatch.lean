/- The walks of package match. -/
import Derived.Test.YtefkfglkpebbmacQBase
namespace Go.Proofs.Ytefkfglkpebbmac
open Go.RowKit
set_option linter.unusedVariables false

section
variable (A B : Option Addr) (c d : Nat) (old b : List UInt8) (w : World)
theorem longest_many (k : Int) (h : 64 < old.length ∨ 64 < b.length) (hl : old.length ≤ 140737488351232) (hm : b.length ≤ 140737488351232) :
    Calls Try.prog 86 #[.slice A old.length c, .slice B b.length d, iv k] w (Ret w (.tuple #[iv 0, iv 0, iv 1])) := by
  by_cases h1 : (64 : Int) < (old.length : Int)
  · go_enter Try.func86, Try.ntmps86
    go_wp2
    go_ret3
    exact ⟨rfl, rfl⟩
  · have h2 : (64 : Int) < (b.length : Int) := by omega
    go_enter Try.func86, Try.ntmps86
    go_wp2
    go_ret3
    exact ⟨rfl, rfl⟩
theorem longest_who (k : Int) (hl : old.length ≤ 64) (hm : b.length ≤ 64) (h : ¬ (0 ≤ k ∧ k ≤ b.length)) :
    Calls Try.prog 86 #[.slice A old.length c, .slice B b.length d, iv k] w (Ret w (.tuple #[iv 0, iv 0, iv 4])) := by
  have h1 : ¬ (64 : Int) < (old.length : Int) := by omega
  have h2 : ¬ (64 : Int) < (b.length : Int) := by omega
  by_cases h3 : k < 0
  · go_enter Try.func86, Try.ntmps86
    go_wp2
    go_ret3
    exact ⟨rfl, rfl⟩
  · have h4 : (b.length : Int) < k := by omega
    go_enter Try.func86, Try.ntmps86
    go_wp2
    go_ret3
    exact ⟨rfl, rfl⟩

set_option maxHeartbeats 1000000 in
theorem longest_calls (k : Nat) (hl : old.length ≤ 64) (hm : b.length ≤ 64) (hk : k ≤ b.length) (ha : Bts w A old) (hb : Bts w B b) :
    Calls Try.prog 86 #[.slice A old.length c, .slice B b.length d, iv k] w (RetN w (.tuple #[iv (longest old b k).1, iv (longest old b k).2, iv 0])) := by
  have h1 : ¬ (64 : Int) < (old.length : Int) := by omega
  have h2 : ¬ (64 : Int) < (b.length : Int) := by omega
  have h3 : ¬ (k : Int) < 0 := by omega
  have h4 : ¬ (b.length : Int) < (k : Int) := by omega
  go_enter Try.func86, Try.ntmps86
  go_wp2
  go_loopw [9, 10, 11, 12, 31] (fun p q x y i wr => ∃ j n : Nat, j ≤ old.length ∧ i = .int .i64 j ∧ p = iv (longTo old b k j).1 ∧ q = iv (longTo old b k j).2 ∧ w.drewN n = wr) (fun _ _ _ _ i _ => old.length - (intOf i).toNat)
  case atStart => exact ⟨0, 0, Nat.zero_le _, rfl, rfl, rfl, rfl⟩
  case round =>
    obtain ⟨j, n, hj, rfl, rfl, rfl, rfl⟩ := hrel
    have hb1 := longTo_le old b k j hj
    by_cases hlt : j < old.length
    · have HP := Lib.hid (preAt_le old b j k)
      go_wp2_with fail
      go_loopw [12] (fun y wr => ∃ t n : Nat, t ≤ preAt old b j k ∧ y = .int .i64 t ∧ w.drewN n = wr) (fun y _ => preAt old b j k - (intOf y).toNat)
      case atStart => exact ⟨0, n, Nat.zero_le _, rfl, rfl⟩
      case round =>
        obtain ⟨t, n1, ht, rfl, rfl⟩ := hrel
        have hP := HP.out
        by_cases hin : t < preAt old b j k
        · obtain ⟨i1, i2, he⟩ := preAt_lt old b j k t hin
          obtain ⟨b1, o1, rfl, hs1, hc1⟩ := ha (j + t) i1
          obtain ⟨b2, o2, rfl, hs2, hc2⟩ := hb (k + t) i2
          have d1 : decide ((j : Int) + (t : Int) < (old.length : Int)) = true := by simp; omega
          have d2 : decide ((k : Int) + (t : Int) < (b.length : Int)) = true := by simp; omega
          have d3 : ((old[j + t].toNat : Int) == (b[k + t].toNat : Int)) = true := by simp [he]
          have HE := Lib.hid he
          clear he
          go_wp2_with fail
          go_quiet (fail)
          go_wp2_with fail
          go_roundw
          case rel => exact ⟨t + 1, _, by omega, by go_num, rfl⟩
          case measure => simp [intOf] <;> omega
        · obtain rfl : t = preAt old b j k := by omega
          have hst := preAt_stop old b j k
          clear ht hin
          by_cases hbest : (longTo old b k j).2 < preAt old b j k
          · have HT : Hid (longTo old b k (j + 1) = (j, preAt old b j k)) := longTo_yes hbest
            have hbest' : ((longTo old b k j).2 : Int) < (preAt old b j k : Int) := by omega
            by_cases c1 : j + preAt old b j k < old.length
            · have d1 : decide ((j : Int) + (preAt old b j k : Int) < (old.length : Int)) = true := by simp; omega
              by_cases c2 : k + preAt old b j k < b.length
              · have d2 : decide ((k : Int) + (preAt old b j k : Int) < (b.length : Int)) = true := by simp; omega
                have hne := hst c1 c2
                have d3 : ((old[j + preAt old b j k].toNat : Int) == (b[k + preAt old b j k].toNat : Int)) = false := by
                  simp; exact fun e => hne (UInt8.toNat_inj.1 (by omega))
                obtain ⟨b1, o1, rfl, hs1, hc1⟩ := ha (j + preAt old b j k) c1
                obtain ⟨b2, o2, rfl, hs2, hc2⟩ := hb (k + preAt old b j k) c2
                clear hne hst
                go_wp2_with fail
                go_quiet (fail)
                go_wp2_with fail
                go_roundw
                case rel => exact ⟨j + 1, _, by omega, by go_num, by rw [HT.out], by rw [HT.out], rfl⟩
                case measure => simp [intOf] <;> omega
              · have d2 : decide ((k : Int) + (preAt old b j k : Int) < (b.length : Int)) = false := by simp; omega
                clear hst
                go_wp2_with fail
                go_quiet (fail)
                go_wp2_with fail
                go_roundw
                case rel => exact ⟨j + 1, _, by omega, by go_num, by rw [HT.out], by rw [HT.out], rfl⟩
                case measure => simp [intOf] <;> omega
            · have d1 : decide ((j : Int) + (preAt old b j k : Int) < (old.length : Int)) = false := by simp; omega
              clear hst
              go_wp2_with fail
              go_quiet (fail)
              go_wp2_with fail
              go_roundw
              case rel => exact ⟨j + 1, _, by omega, by go_num, by rw [HT.out], by rw [HT.out], rfl⟩
              case measure => simp [intOf] <;> omega
          · have HT : Hid (longTo old b k (j + 1) = longTo old b k j) := longTo_no hbest
            have hbest' : ¬ ((longTo old b k j).2 : Int) < (preAt old b j k : Int) := by omega
            by_cases c1 : j + preAt old b j k < old.length
            · have d1 : decide ((j : Int) + (preAt old b j k : Int) < (old.length : Int)) = true := by simp; omega
              by_cases c2 : k + preAt old b j k < b.length
              · have d2 : decide ((k : Int) + (preAt old b j k : Int) < (b.length : Int)) = true := by simp; omega
                have hne := hst c1 c2
                have d3 : ((old[j + preAt old b j k].toNat : Int) == (b[k + preAt old b j k].toNat : Int)) = false := by
                  simp; exact fun e => hne (UInt8.toNat_inj.1 (by omega))
                obtain ⟨b1, o1, rfl, hs1, hc1⟩ := ha (j + preAt old b j k) c1
                obtain ⟨b2, o2, rfl, hs2, hc2⟩ := hb (k + preAt old b j k) c2
                clear hne hst
                go_wp2_with fail
                go_quiet (fail)
                go_wp2_with fail
                go_roundw
                case rel => exact ⟨j + 1, _, by omega, by go_num, by rw [HT.out], by rw [HT.out], rfl⟩
                case measure => simp [intOf] <;> omega
              · have d2 : decide ((k : Int) + (preAt old b j k : Int) < (b.length : Int)) = false := by simp; omega
                clear hst
                go_wp2_with fail
                go_quiet (fail)
                go_wp2_with fail
                go_roundw
                case rel => exact ⟨j + 1, _, by omega, by go_num, by rw [HT.out], by rw [HT.out], rfl⟩
                case measure => simp [intOf] <;> omega
            · have d1 : decide ((j : Int) + (preAt old b j k : Int) < (old.length : Int)) = false := by simp; omega
              clear hst
              go_wp2_with fail
              go_quiet (fail)
              go_wp2_with fail
              go_roundw
              case rel => exact ⟨j + 1, _, by omega, by go_num, by rw [HT.out], by rw [HT.out], rfl⟩
              case measure => simp [intOf] <;> omega
    · go_wp2_with fail
      go_ret3
      refine ⟨?_, _, rfl⟩
      obtain rfl : j = old.length := by omega
      rfl
end
end Go.Proofs.Ytefkfglkpebbmac
