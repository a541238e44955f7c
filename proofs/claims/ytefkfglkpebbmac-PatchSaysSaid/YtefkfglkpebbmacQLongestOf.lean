/- The walk of the document's LongestOf. Condition: the library's own variable holds some number. -/
import Derived.Test.YtefkfglkpebbmacQBase
import Derived.IntWalk
namespace Go.Proofs.Ytefkfglkpebbmac
open Go.RowKit
set_option linter.unusedVariables false
set_option linter.unusedSimpArgs false

theorem bts_win {w : World} {b o : Nat} {l : List UInt8} (h : Bts w (some ⟨b, o, none⟩) l) (k n : Nat) : Bts w (some ⟨b, o + k, none⟩) (win l k n) := by
  intro i hi
  have hl : i < n ∧ k + i < l.length := by unfold win at hi; simp only [List.length_take, List.length_drop] at hi; omega
  obtain ⟨b', o', e, hlt, hc⟩ := h (k + i) hl.2
  injection e with e
  injection e with e1 e2
  subst e1 e2
  refine ⟨b, o + k, rfl, hlt, ?_⟩
  rw [Nat.add_assoc, hc]
  simp [win]
set_option maxRecDepth 100000 in
set_option maxHeartbeats 2000000 in
theorem refLongest_calls (A B : Option Addr) (c d : Nat) (old b : List UInt8) (w : World) (k : Nat) (hml : ML w) (hc : old.length ≤ c) (hd : b.length ≤ d) (hl : old.length ≤ 64) (hm : b.length ≤ 64) (hk : k ≤ b.length) (ha : Bts w A old) (hb : Bts w B b) :
    Calls Try.prog 89 #[.slice A old.length c, .slice B b.length d, iv k] w (RetN w (.tuple #[iv (longest old b k).1, iv (longest old b k).2])) := by
  obtain ⟨m0, hm0⟩ : ∃ m0 : Nat, min (old.length : Int) ((b.length : Int) - (k : Int)) = m0 := ⟨(min (old.length : Int) ((b.length : Int) - (k : Int))).toNat, by omega⟩
  have hbd := longTo_le old b k old.length (Nat.le_refl _)
  have hL0 : (longest old b k).2 ≤ m0 := by unfold longest; omega
  have HL0 := Lib.hid hL0
  have HA := Lib.hid ha
  have HB := Lib.hid hb
  have HML := Lib.hid hml
  have hm1 : m0 ≤ old.length := by omega
  have hm2 : k + m0 ≤ b.length := by omega
  clear ha hb hml hL0 hbd
  go_enter Try.func89, Try.ntmps89
  go_wp2_with fail
  go_loopw [8] (fun x wr => ∃ (m nd : Nat), x = .int .i64 (m : Int) ∧ (longest old b k).2 ≤ m ∧ m ≤ m0 ∧ w.drewN nd = wr) (fun x _ => (intOf x).toNat)
  case atStart => exact ⟨m0, 0, int_eq (by omega), HL0.out, Nat.le_refl _, rfl⟩
  case round =>
    obtain ⟨m, nd, rfl, h1, h2, rfl⟩ := hrel
    by_cases h0 : 0 < m
    · have d0 : (0 : Int) < (m : Int) := by omega
      have hA0 : A ≠ none := fun e => by
        obtain ⟨bb, bo, e2, _⟩ := HA.out 0 (by omega)
        rw [e] at e2; cases e2
      obtain ⟨aa, rfl⟩ := Option.ne_none_iff_exists'.1 hA0
      obtain ⟨bb, bo, rfl, _⟩ := HB.out 0 (by omega)
      have hwl := win_len b k m (by omega)
      have hck : ¬ d = k := by omega
      have hix := index_calls aa ⟨bb, bo + k, none⟩ c (d - k) old (win b k m) (w.drewN nd) (HML.out.drewN nd) hc (by omega) (by omega) (HA.out.drewN nd) ((bts_win HB.out k m).drewN nd)
      rw [hwl] at hix
      have HIX := Lib.hid hix
      clear hix hA0 hwl
      have j1 : (k : Int) + m ≤ (d : Int) := by omega
      have j2 : (k : Int) ≤ (k : Int) + m := by omega
      go_wp2_with fail
      refine HIX.out.mono ?_
      rintro e w1 ⟨rfl, n1, rfl⟩
      rcases Lib.index_spec old (win b k m) with ⟨e1, _⟩ | ⟨i, e1, _, _, _⟩
      · have hlt := index_lt (by omega) (by omega) e1
        rw [e1]
        clear e1 HIX h1
        go_wp2_with fail
        go_roundw
        case rel => exact ⟨m - 1, nd + n1, int_eq (by omega), by omega, by omega, by rw [← World.drewN_drewN]⟩
        case measure => simp [intOf]; omega
      · have his := index_is (by omega) (by omega) e1 h1
        rw [e1]
        have HIS := Lib.hid his
        clear his e1 HIX h1
        have d1 : (0 : Int) ≤ (i : Int) := by omega
        go_wp2_with fail
        go_ret2
        exact ⟨ret2 (by rw [HIS.out]; rfl) (by rw [HIS.out]; rfl), nd + n1, by rw [← World.drewN_drewN]⟩
    · obtain rfl : m = 0 := by omega
      have hz := longest_zero (old := old) (b := b) (k := k) (by omega)
      have HZ := Lib.hid hz
      clear hz h1
      go_wp2_with fail
      go_ret2
      exact ⟨ret2 (by rw [HZ.out]; rfl) (by rw [HZ.out]; rfl), nd, rfl⟩
end Go.Proofs.Ytefkfglkpebbmac
