/- bytes.Repeat of one byte. Printed by gen_repeatb.py. No conditions. -/
import Derived.Test.YtefkfglkpebbmabRepeat
import Derived.Lib.MakeNoZero
namespace Go.Proofs.Ytefkfglkpebbmab
open Go.RowKit
set_option linter.unusedVariables false
set_option linter.unusedSimpArgs false

/-- The first k cells hold x, the others what they held. -/
def filledR (x : UInt8) (k : Nat) (R : List Value) : List Value := List.replicate k (bv x) ++ R.drop k
theorem filledR_len (x : UInt8) {k : Nat} {R : List Value} (h : k ≤ R.length) : (filledR x k R).length = R.length := by unfold filledR; simp; omega
theorem filledR_zero (x : UInt8) (R : List Value) : filledR x 0 R = R := by simp [filledR]
theorem filledR_more (x : UInt8) {k m : Nat} {R : List Value} (h : k + m ≤ R.length) : Go.splice (filledR x k R) k (List.replicate m (bv x)) = filledR x (k + m) R := by
  unfold filledR Go.splice
  rw [List.take_append_of_le_length (by simp), List.length_replicate, List.drop_append, List.length_replicate, List.take_of_length_le (by simp), List.drop_eq_nil_of_le (by simp), List.nil_append, ← List.append_assoc, List.replicate_append_replicate, List.drop_drop]
  congr 2; omega
theorem filledR_at (x : UInt8) {k j : Nat} {R : List Value} (h : j < k) : (filledR x k R)[j]? = some (bv x) := by
  unfold filledR; rw [List.getElem?_append_left (by simpa using h), List.getElem?_replicate]; simp [h]
def rbJ (wo : World) (g : Nat) (x : UInt8) (k m : Nat) (R : List Value) (done : Nat → Bool) (cv : Nat → Value) (w : World) : Prop :=
  if done 7 = true then cv 7 = .int .i64 (m : Int) ∧ w.heap[g]? = some (.cells (filledR x (k + m) R).toArray 5 (0, 0)) ∧ Below g wo w else w = wo.drew
/-- It returns a slice of these bytes. -/
def BsRet (w : World) (l : List UInt8) : Ending → World → Prop := fun en w' => ∃ A c, en = .returned (.slice A l.length c) ∧ l.length ≤ c ∧ Bts w' A l ∧ Below w.heap.size w w'
theorem bts_filledR {w : World} {g n : Nat} {x : UInt8} {R : List Value} (h : w.heap[g]? = some (.cells (filledR x n R).toArray 5 (0, 0))) : Bts w (some ⟨g, 0, none⟩) (List.replicate n x) := by
  intro i hi
  rw [List.length_replicate] at hi
  refine ⟨g, 0, rfl, blk_lt h, ?_⟩
  rw [Nat.zero_add, cell_of_row _ _ _ _ _ _ h, List.getElem?_toArray, filledR_at x hi, List.getElem_replicate]
set_option maxRecDepth 100000 in
set_option maxHeartbeats 4000000 in
theorem repeatB_calls (A : Option Addr) (c : Nat) (x : UInt8) (n : Nat) (w : World) (hn : 1 ≤ n) (hn2 : n ≤ 1000) (hA : Bts w A [x]) :
    Calls Try.prog 59 #[.slice A 1 c, iv n] w (BsRet w (List.replicate n x)) := by
  obtain ⟨a, o, rfl, hlt, hc⟩ := hA 0 (by simp)
  simp only [Nat.add_zero, List.getElem_cons_zero] at hc
  have HC := Lib.hid hc
  clear hA hc
  have d0 : ((n : Int) == 0) = false := by simp; omega
  have d1 : ¬ (n : Int) < 0 := by omega
  have u1 : IntKind.u64.wrap (n : Int) = (n : Int) := by rw [IntKind.wrap_u64]; omega
  have i1 : IntKind.i64.wrap (n : Int) = (n : Int) := IntWalk.i64_in _ (by omega)
  obtain ⟨cs, hrunM, hle, _⟩ := Lib.run_makeNoZero (P := Try.prog) w #[3] 22 5 Try.underlying22 n (by omega)
  have hcall : (callFunc 72 #[.int .i64 (n : Int)]).run Try.prog w = .ok (.value (.slice (some ⟨w.heap.size, 0, none⟩) n cs.size)) ((w.alloc (.cells cs 5)).drewN 2) := by
    rw [run_callFunc_extern Try.func72 (by kernel_rfl) (by kernel_rfl) (by kernel_rfl) (e := Extern.BytealgMakeNoZero.makeNoZero #[3] #[22]) (by kernel_rfl), hrunM]
    rfl
  clear hrunM
  have s1 : (n : Int) ≤ (cs.size : Int) := by omega
  have s0 : (0 : Int) ≤ (n : Int) := by omega
  have s2 : decide ((8192 : Int) < (n : Int)) = false := by simp; omega
  go_enter Try.func59, Try.ntmps59
  go_wp2_with fail
  refine (mul1_calls n w (by omega)).mono ?_
  rintro e w1 ⟨rfl, rfl⟩
  have d2 : decide ((9223372036854775807 : Int) < (n : Int)) = false := by simp; omega
  have hb0 : Below w.heap.size w ((w.alloc (.cells cs 5)).drewN 2) := Below.drewN' ((Below.refl _ _).alloc (Nat.le_refl _) _) 2
  have hg0 : ((w.alloc (.cells cs 5)).drewN 2).heap[w.heap.size]? = some (.cells cs 5 (0, 0)) := blk_top rfl
  have hca := (hb0.cell (p := ⟨a, o, none⟩) hlt).trans HC.out
  obtain ⟨R, hR⟩ : ∃ R, R = cs.toList := ⟨_, rfl⟩
  have hcs : cs = R.toArray := by rw [hR, Array.toArray_toList]
  have hRl : n ≤ R.length := by rw [hR]; simpa using hle
  have hcp : (Builtin.copy_ #[22, 22] 3 #[.slice (some ⟨w.heap.size, 0, none⟩) n n, .slice (some ⟨a, o, none⟩) 1 c]).run Try.prog ((w.alloc (.cells cs 5)).drewN 2) = .ok (.int .i64 1) (((w.alloc (.cells cs 5)).drewN 2).setRow w.heap.size (filledR x 1 R).toArray) := by
    have := run_copy_row (P := Try.prog) ((w.alloc (.cells cs 5)).drewN 2) 22 22 3 5 w.heap.size 0 n n ⟨a, o, none⟩ 1 c cs 5 [bv x] Try.underlying22 (by kernel_rfl) hg0 (by simp [Nat.min_def]; omega)
      (fun j v hv => by
        obtain ⟨hj, rfl⟩ := List.getElem?_eq_some_iff.1 hv
        have e0 : j = 0 := by simp at hj; omega
        subst e0
        simpa [Addr.add] using hca) (by simp; omega) (by simp [Value.oneCell'])
    rw [this]
    have e := filledR_more x (k := 0) (m := 1) (R := R) (by omega)
    unfold Go.splice at e
    rw [filledR_zero] at e
    simp only [Nat.zero_add] at e ⊢
    rw [show (List.replicate 1 (bv x)) = [bv x] from rfl] at e
    rw [← hR, List.append_assoc, e]
    rfl
  have hf2 : Hid ((((w.alloc (.cells cs 5)).drewN 2).setRow w.heap.size (filledR x 1 R).toArray).heap[w.heap.size]? = some (.cells (filledR x 1 R).toArray 5 (0, 0))) := Lib.hid (setRow_heap _ _ _ _ _ _ hg0)
  have HB2 : Hid (Below w.heap.size w (((w.alloc (.cells cs 5)).drewN 2).setRow w.heap.size (filledR x 1 R).toArray)) := Lib.hid (below_row hb0 (Nat.le_refl _) _)
  clear hg0 hb0 hca hR hcs
  go_wp2_with fail
  clear hcp hcall
  generalize ((w.alloc (.cells cs 5)).drewN 2).setRow w.heap.size (filledR x 1 R).toArray = w2 at *
  generalize hgg : w.heap.size = g at *
  go_loopw [10] (fun y wr => ∃ (k : Nat), y = .int .i64 (k : Int) ∧ 1 ≤ k ∧ k ≤ n ∧ Hid (wr.heap[g]? = some (.cells (filledR x k R).toArray 5 (0, 0))) ∧ Hid (Below g w wr)) (fun y _ => n - (intOf y).toNat)
  case atStart => exact ⟨1, rfl, by omega, hn, hf2, HB2⟩
  case round =>
    rename World => wo
    obtain ⟨k, rfl, hk1, hkn, HF, HB⟩ := hrel
    by_cases hlt : k < n
    · obtain ⟨m, hm⟩ : ∃ m, m = Nat.min k (n - k) := ⟨_, rfl⟩
      have hm1 : 1 ≤ m ∧ k + m ≤ n := by rw [hm]; simp only [Nat.min_def]; split <;> omega
      have HM := Lib.hid hm
      have HMK : Hid ((k : Int) ≤ (n : Int)) := Lib.hid (by omega)
      have HMK2 : Hid (m ≤ k) := Lib.hid (by rw [hm]; exact Nat.min_le_left _ _)
      have HMN : Hid (k + m ≤ R.length) := Lib.hid (by omega)
      have HK : Hid (k ≤ R.length) := Lib.hid (by omega)
      have HNK : Hid (¬ n = k) := Lib.hid (by omega)
      have HKN : Hid ((k : Int) ≤ (n : Int)) := Lib.hid (by omega)
      have HI : Hid (IntKind.i64.wrap ((k : Int) + (m : Int)) = (k : Int) + (m : Int)) := Lib.hid (IntWalk.i64_in _ (by omega))
      have dk : decide ((k : Int) < (n : Int)) = true := by simp; omega
      have dm : min (k : Int) (n : Int) = (k : Int) := by omega
      clear hm hf2 HB2
      go_wp2_with fail
      refine wp_region_free (by kernel_rfl) (some 67 :: some 68 :: some 69 :: some 70 :: some 71 :: some 72 :: some 73 :: some 74 :: some 75 :: some 10 :: []) (false :: false :: false :: false :: false :: false :: false :: true :: false :: false :: []) (.int .i64 ((k : Nat) : Int) :: .slice (some ⟨g, 0, none⟩) n n :: .int .i64 ((k : Nat) : Int) :: .slice (some ⟨g, (k : Nat), none⟩) (n - k) (n - k) :: .slice (some ⟨g, 0, none⟩) n n :: .int .i64 ((k : Nat) : Int) :: .slice (some ⟨g, 0, none⟩) k n :: undef :: .int .i64 ((k + m : Nat) : Int) :: .int .i64 ((k + m : Nat) : Int) :: []) (rbJ wo g x k m R) 77 rfl rfl (by decide +kernel) (by decide +kernel) (by decide +kernel) rfl rfl (by rw [rbJ, if_neg (by simp)]) ?_ ?_
      · refine ⟨?_, ?_⟩
        · intro done cv a wq hn hw hcl h hJ
          have e10 := fr_un (t := 10) (i := 0) (i0 := 9) (v := .int .i64 ((k : Nat) : Int)) h hcl hn rfl (by decide) (by decide) rfl
          exact mx_move (ch_ev e10)
        refine ⟨?_, ?_⟩
        · intro done cv a wq hn hw hcl h hJ
          have e9 := fr_old (t := 9) (v := .slice (some ⟨g, 0, none⟩) n n) h rfl rfl
          exact mx_move (ch_ev e9)
        refine ⟨?_, ?_⟩
        · intro done cv a wq hn hw hcl h hJ
          have e10 := fr_un (t := 10) (i := 2) (i0 := 9) (v := .int .i64 ((k : Nat) : Int)) h hcl hn rfl (by decide) (by decide) rfl
          exact mx_move (ch_ev e10)
        refine ⟨?_, ?_⟩
        · intro done cv a wq hn hw hcl h hJ
          have e68 := fr_new (i := 1) (t := 68) h (hw 1 (by decide)) rfl rfl rfl; have e69 := fr_new (i := 2) (t := 69) h (hw 2 (by decide)) rfl rfl rfl
          have hnk := HNK.out
          have hkn := HKN.out
          go_simp
        refine ⟨?_, ?_⟩
        · intro done cv a wq hn hw hcl h hJ
          have e9 := fr_old (t := 9) (v := .slice (some ⟨g, 0, none⟩) n n) h rfl rfl
          exact mx_move (ch_ev e9)
        refine ⟨?_, ?_⟩
        · intro done cv a wq hn hw hcl h hJ
          have e11 := fr_old (t := 11) (v := .int .i64 ((k : Nat) : Int)) h rfl rfl
          exact mx_move (ch_ev e11)
        refine ⟨?_, ?_⟩
        · intro done cv a wq hn hw hcl h hJ
          have e71 := fr_new (i := 4) (t := 71) h (hw 4 (by decide)) rfl rfl rfl; have e72 := fr_new (i := 5) (t := 72) h (hw 5 (by decide)) rfl rfl rfl
          have hnk := HNK.out
          have hkn := HKN.out
          have hmn := HMK.out
          go_simp
        refine ⟨?_, ?_⟩
        · intro done cv a wq hn hw hcl h hJ
          have e70 := fr_new (i := 3) (t := 70) h (hw 3 (by decide)) rfl rfl rfl; have e73 := fr_new (i := 6) (t := 73) h (hw 6 (by decide)) rfl rfl rfl
          have hd : ¬ maskB [false, false, false, false, false, false, false, true, false, false] done 7 = true := by unfold maskB; rw [hn]; simp
          rw [rbJ, if_neg hd] at hJ
          obtain rfl : wq = wo.drew := hJ
          refine wp_copy rfl (.tmp 70) (.tmp 73) 22 22 rfl 5 Try.underlying22 (by kernel_rfl) _ _ _ _ _ _ (ch_ev e70) (ch_ev e73) g k (filledR x k R) 5 HF.out (List.replicate m (bv x)) (by rw [List.length_replicate]; exact HM.out) (fun _ => ⟨rfl, _, rfl, fun j v hv => ?_⟩) (by rw [filledR_len x HK.out, List.length_replicate]; exact HMN.out) (fun v hv => by rw [List.eq_of_mem_replicate hv]; rfl) g wo ((Below.refl _ _).drew) (Nat.le_refl _) ?_
          · obtain ⟨hj, rfl⟩ := List.getElem?_eq_some_iff.1 hv
            rw [List.length_replicate] at hj
            have e1 := filledR_at x (R := R) (show j < k by have := HMK2.out; omega)
            have e2 : (⟨g, 0, none⟩ : Addr).add j = ⟨g, j, none⟩ := by unfold Addr.add; split <;> simp_all
            rw [e2, List.getElem_replicate]
            refine (cell_of_row _ _ _ _ _ _ HF.out).trans ?_
            rw [List.getElem?_toArray, e1]
          · intro w' hg' hb'
            rw [filledR_more x HMN.out] at hg'
            exact ⟨_, rfl, by rw [rbJ, if_pos (by simp)]; exact ⟨by simp [goInt], hg', hb'⟩⟩
        refine ⟨?_, ?_⟩
        · intro done cv a wq hn hw hcl h hJ
          have e67 := fr_new (i := 0) (t := 67) h (hw 0 (by decide)) rfl rfl rfl; have e74 := fr_cv (i := 7) (t := 74) h (hw 7 (by decide)) rfl rfl
          have hd : maskB [false, false, false, false, false, false, false, true, false, false] done 7 = true := by unfold maskB; rw [hw 7 (by decide)]; rfl
          rw [rbJ, if_pos hd] at hJ
          rw [hJ.1] at e74
          have hi := HI.out
          go_simp
        refine ⟨?_, ?_⟩
        · intro done cv a wq hn hw hcl h hJ
          have e75 := fr_new (i := 8) (t := 75) h (hw 8 (by decide)) rfl rfl rfl
          exact mx_assign (ch_ev e75)
        exact trivial
      · intro d cv w3 hall hJ
        rw [rbJ, if_pos (hall 7 rfl (by decide))] at hJ
        obtain ⟨_, g1, g2⟩ := hJ
        have HF3 := Lib.hid g1
        have HB3 : Hid (Below g w w3) := Lib.hid (HB.out.trans g2)
        clear g1 g2
        simp only [freeAll, putAll_some, putAll_none, putAll_nil, List.getD_cons_zero, List.getD_cons_succ, Bool.false_eq_true, if_true, if_false, reduceIte, Nat.zero_add, Nat.reduceAdd, List.setIfInBounds_toArray, List.set_cons_zero, List.set_cons_succ]
        go_wp2_with fail
        go_roundw
        case rel => exact ⟨k + m, rfl, by omega, hm1.2, HF3, HB3⟩
        case measure => simp [intOf]; omega
    · obtain rfl : k = n := by omega
      have dk : decide ((k : Int) < (k : Int)) = false := by simp
      go_wp2_with fail
      go_ret
      exact ⟨some ⟨g, 0, none⟩, k, by simp, by simp, bts_filledR HF.out, hgg ▸ HB.out⟩
end Go.Proofs.Ytefkfglkpebbmab
