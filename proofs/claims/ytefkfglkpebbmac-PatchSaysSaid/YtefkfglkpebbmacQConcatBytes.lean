/- The walks of the library's slices.Grow (of nil) and slices.Concat over Bytes. -/
import Derived.Test.YtefkfglkpebbmacQBase
namespace Go.Proofs.Ytefkfglkpebbmac
open Go.RowKit
set_option linter.unusedVariables false

theorem growBytes_calls (n : Nat) (w : World) (hn : n ≤ 137438953472) :
    Calls Try.prog 138 #[.slice none 0 0, iv n] w (SlRet w 5 1 0 []) := by
  rcases Nat.eq_zero_or_pos n with rfl | hp
  · go_enter Try.func138, Try.ntmps138
    go_wp2
    go_ret
    exact ⟨none, 0, rfl, Own.nil_ _ _ _ _, Below.refl _ _⟩
  · obtain ⟨i, hi, hz, hs, hb⟩ := info_parts (P := Try.prog) (e := 5) (z := .int .u8 0) (size := 1) (bytes := 1) (by kernel_rfl)
    have hr := fun ty => Lib.run_append_grow_zeros (P := Try.prog) w 22 3 ty 5 i (.int .u8 0) .i64 .i64 Try.underlying22 Try.underlying3 hi hz none 0 0 [] (run_firstCells_none _ _ _ _ _) n hp (by omega) (by omega) (by omega) (by rw [hb]; omega)
      (growslice_fits (by omega) (by rw [hb]; omega))
    have hG := grownCap_ge w (0 + n) 0 5
    have hG2 := grownCap_le_maxLen w (0 + n) 0 5 (by unfold maxLen; omega)
    have h1 : (0 : Int) < (n : Int) := by omega
    obtain ⟨cap, hcd⟩ : ∃ cap, cap = grownCap w (0 + n) 0 5 := ⟨_, rfl⟩
    rw [← hcd] at hr hG hG2
    clear hcd
    have hO : Own (w.drew.alloc (.cells (([] : List Value).toArray ++ Builtin.zeroCells (Value.cells (.int .u8 0)) n ++ Builtin.zeroCells (Value.cells (.int .u8 0)) (cap - (0 + n))) 5)) w.heap.size 5 1 (some ⟨w.heap.size, 0, none⟩) 0 cap [] :=
      ⟨by simp, Or.inr ⟨_, _, _, rfl, Nat.le_refl _, blk_top rfl, by omega, hG2, by simp [Builtin.zeroCells, Value.cells]; omega, by simp⟩⟩
    have hB := ((Below.refl w.heap.size w).drew).alloc (Nat.le_refl _) (.cells (([] : List Value).toArray ++ Builtin.zeroCells (Value.cells (.int .u8 0)) n ++ Builtin.zeroCells (Value.cells (.int .u8 0)) (cap - (0 + n))) 5)
    generalize (Obj.cells (([] : List Value).toArray ++ Builtin.zeroCells (Value.cells (.int .u8 0)) n ++ Builtin.zeroCells (Value.cells (.int .u8 0)) (cap - (0 + n))) 5) = ob at *
    have hcap : cap ≤ 9223372036854775807 := by simp only [maxLen] at hG2; omega
    clear hi hz hs hb hG2
    go_enter Try.func138, Try.ntmps138
    go_wp2_with (at_builtin; refine Lib.wpList_append_run _ rfl _ _ _ _ rfl _ _ rfl rfl _ _ (hr _) ?_)
    go_ret
    exact ⟨_, _, rfl, hO, hB⟩

theorem concatBytes_calls (ss : List SrcOf) (ad : Option Addr) (c : Nat) (w : World) (hk : ss.length ≤ 16) (hn : sumN ss ≤ 137438953472) (hr : Src w ad (ss.map SrcOf.val)) (hs : ∀ s ∈ ss, s.ok w 1) :
    Calls Try.prog 87 #[.slice ad ss.length c] w (SlRet w 5 1 (sumN ss) (ss.flatMap SrcOf.cells)) := by
  go_enter Try.func87, Try.ntmps87
  go_wp2_with fail
  go_loop [3, 5, 11] (fun z s i => ∃ k : Nat, k ≤ ss.length ∧ i = .int .i64 k ∧ z = .int .i64 (sumN (ss.take k))) (fun _ _ i => ss.length - (intOf i).toNat)
  case atStart => exact ⟨0, Nat.zero_le _, rfl, rfl⟩
  case round =>
    obtain ⟨k, hkl, rfl, rfl⟩ := hrel
    by_cases hlt : k < ss.length
    · obtain ⟨b, o, rfl, hbs, hc⟩ := hr k (by simpa using hlt)
      have hsn := sumN_take ss k hlt
      have hle := sumN_le ss (k + 1)
      have HS := Lib.hid hsn
      have hb1 : (sumN (ss.take k) : Int) + (ss[k].n : Int) ≤ 137438953472 := by omega
      have hc' : w.cell? ⟨b, o + k, none⟩ = some (.slice ss[k].A ss[k].n ss[k].c) := by simpa [SrcOf.val] using hc
      clear hsn hle hc
      go_wp2_with fail
      go_round
      case rel => exact ⟨k + 1, by omega, by go_num, by rw [HS.out]; go_num⟩
      case measure => simp [intOf] <;> omega
    · obtain rfl : k = ss.length := by omega
      rw [List.take_length]
      go_wp2_with fail
      refine (growBytes_calls (sumN ss) w (by omega)).mono ?_
      rintro e w1 ⟨A0, c0, rfl, hO, hB⟩
      have HR := Lib.hid hr
      have HQ := Lib.hid hs
      clear hr hs
      go_wp2_with fail
      go_loopw [6, 8, 27] (fun z s i wr => ∃ (k : Nat) (A1 : Option Addr) (c1 : Nat), k ≤ ss.length ∧ i = .int .i64 k ∧ z = .slice A1 (sumN (ss.take k)) c1 ∧ Own wr w.heap.size 5 1 A1 (sumN (ss.take k)) c1 ((ss.take k).flatMap SrcOf.cells) ∧ Below w.heap.size w wr) (fun _ _ i _ => ss.length - (intOf i).toNat)
      case atStart => exact ⟨0, A0, c0, Nat.zero_le _, rfl, rfl, hO, hB⟩
      case round =>
        obtain ⟨k, A1, c1, hkl, rfl, rfl, hO1, hB1⟩ := hrel
        have hr2 := HR.out.stays hB1
        have hs2 : ∀ s ∈ ss, s.ok wr 1 := fun s h => (HQ.out s h).stays hB1
        by_cases hlt : k < ss.length
        · obtain ⟨b, o, rfl, hbs, hc⟩ := hr2 k (by simpa using hlt)
          have hsn := sumN_take ss k hlt
          have hle := sumN_le ss (k + 1)
          have hfl : (ss.take (k + 1)).flatMap SrcOf.cells = (ss.take k).flatMap SrcOf.cells ++ ss[k].cells := by
            rw [List.take_succ_eq_append_getElem hlt, List.flatMap_append]; simp
          have HS := Lib.hid hsn
          have HF := Lib.hid hfl
          obtain ⟨q1, q2, q3⟩ := hs2 ss[k] (List.getElem_mem hlt)
          have Q1 := Lib.hid q1
          have hb1 : sumN (ss.take k) + ss[k].n ≤ 137438953472 := by omega
          have hb2 : w.heap.size ≤ wr.heap.size := hB1.size
          have hc' : wr.cell? ⟨b, o + k, none⟩ = some (.slice ss[k].A ss[k].n ss[k].c) := by simpa [SrcOf.val] using hc
          clear hsn hle hc hfl q1 hr2 hs2
          go_wp2_with (at_builtin; refine wpList_app _ rfl _ _ 22 rfl elBytes w.heap.size A1 (sumN (ss.take k)) c1 _ rfl hO1 ss[k].A ss[k].n ss[k].c ss[k].cells rfl q2 Q1.out q3 hb1 hb2 ?_; intro A' c' w2 hown hg hb hx)
          have hfin : Own w2 w.heap.size 5 1 A' (sumN (ss.take (k + 1))) c' ((ss.take (k + 1)).flatMap SrcOf.cells) := by rw [HS.out, HF.out]; exact hown
          have hB2 := hB1.trans hb
          clear hown hg hb hx q2 q3 hc' hbs
          go_roundw
          case rel => exact ⟨k + 1, A', c', by omega, by go_num, by rw [HS.out], hfin, hB2⟩
          case measure => simp [intOf] <;> omega
        · obtain rfl : k = ss.length := by omega
          rw [List.take_length] at hO1
          clear hr2 hs2
          go_wp2_with fail
          go_ret
          exact ⟨_, _, by rw [List.take_length]; rfl, hO1, hB1⟩
end Go.Proofs.Ytefkfglkpebbmac
