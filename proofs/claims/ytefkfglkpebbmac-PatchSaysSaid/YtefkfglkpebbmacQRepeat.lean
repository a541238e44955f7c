/- slices.Repeat of one byte. No conditions. -/
import Derived.Test.YtefkfglkpebbmacQBase
import Derived.Test.YtefkfglkpebbmacQByteOps
import Derived.Laws.CopyOwn
import Derived.IntWalk
import Derived.Test.YtefkfglkpebbmacQRowEng
namespace Go.Proofs.Ytefkfglkpebbmac
open Go.RowKit
set_option linter.unusedVariables false
set_option linter.unusedSimpArgs false

/-- The first k of n cells hold x. -/
def filled (x : UInt8) (k n : Nat) : List Value := List.replicate k (bv x) ++ List.replicate (n - k) (.int .u8 0)
theorem filled_len (x : UInt8) {k n : Nat} (h : k ≤ n) : (filled x k n).length = n := by unfold filled; simp; omega
theorem filled_more (x : UInt8) {k m n : Nat} (h : k + m ≤ n) : Go.splice (filled x k n) k (List.replicate m (bv x)) = filled x (k + m) n := by
  unfold filled Go.splice
  rw [List.take_append_of_le_length (by simp), List.length_replicate, List.drop_append, List.length_replicate, List.take_of_length_le (by simp), List.drop_eq_nil_of_le (by simp), List.nil_append, ← List.append_assoc, List.replicate_append_replicate, List.drop_replicate]
  congr 2; omega
theorem filled_all (x : UInt8) (n : Nat) : filled x n n = List.replicate n (bv x) := by unfold filled; simp
theorem filled_at (x : UInt8) {k n j : Nat} (h : j < k) : (filled x k n)[j]? = some (bv x) := by
  unfold filled; rw [List.getElem?_append_left (by simpa using h), List.getElem?_replicate]; simp [h]
theorem wp_copy {P : Program} {o : Oper} {a : Act} {w : World} {K : Act → World → Prop} {Q : Exit → Act → World → Prop} (hgd : o.guard = none) (d s : Operand) (dT sT : TypeId)
    (ho : o.op = .call { callee := .builtin .copy, args := #[d, s], argTypes := #[dT, sT] }) (elem : TypeId) (hu : P.underlying dT = some (.slice elem)) (hsz : (P.info? elem).map (·.size) = some 1)
    (dp sp : Option Addr) (dLen dCap sLen sCap : Nat) (hd : a.eval d = .slice dp dLen dCap) (hs : a.eval s = .slice sp sLen sCap)
    (g off : Nat) (cur : List Value) (t : TypeId) (hg : w.heap[g]? = some (.cells cur.toArray t (0, 0))) (cs : List Value) (hn : cs.length = Nat.min sLen dLen)
    (hpos : 0 < cs.length → dp = some ⟨g, off, none⟩ ∧ ∃ ad, sp = some ad ∧ ∀ j v, cs[j]? = some v → w.cell? (ad.add j) = some v)
    (hfit : off + cs.length ≤ cur.length) (h1 : ∀ v ∈ cs, v.oneCell' = true) (B : Nat) (w0 : World) (hb : RowKit.Below B w0 w) (hBg : B ≤ g)
    (h : ∀ w', w'.heap[g]? = some (.cells (Go.splice cur off cs).toArray t (0, 0)) → RowKit.Below B w0 w' → K (a.put o.dst (goInt cs.length)) w') :
    Oper.wp P o a w K Q := by
  have h2 := step_copy_splice (P := P) (ops := #[]) (E := True) (K := K) (Q := Q) hgd d s dT sT ho elem hu hsz dp sp dLen dCap sLen sCap hd hs g off cur t hg cs hn hpos hfit h1 B w0 hb hBg (fun w' hg hb => h w' hg.out hb)
  rwa [if_pos (by simp [Region.wanted, hgd])] at h2
/-- While a copy of what is filled goes behind it. -/
def rpJ (wo : World) (g : Nat) (x : UInt8) (k m n : Nat) (done : Nat → Bool) (cv : Nat → Value) (w : World) : Prop :=
  if done 7 = true then cv 7 = .int .i64 (m : Int) ∧ w.heap[g]? = some (.cells (filled x (k + m) n).toArray 5 (0, 0)) ∧ Below g wo w else w = wo.drew
theorem own_filled {w : World} {base g n : Nat} {x : UInt8} (h : w.heap[g]? = some (.cells (filled x n n).toArray 5 (0, 0))) (hb : base ≤ g) (hn : n ≤ 140737488351232) : Own w base 5 1 (some ⟨g, 0, none⟩) n n ((List.replicate n x).map bv) :=
  ⟨by simp, Or.inr ⟨g, n, _, rfl, hb, h, Nat.le_refl _, by unfold maxLen; omega, by rw [filled_all]; simp, by rw [filled_all]; simp⟩⟩
theorem made_filled (x : UInt8) (n : Nat) : madeCells #[Value.int .u8 0] n = (filled x 0 n).toArray := by
  unfold filled
  apply Array.ext'
  simp [madeCells]
  apply List.ext_getElem?
  intro i
  simp only [Nat.mod_one, List.getElem?_map]
  by_cases h : i < n <;> simp [h]
set_option maxRecDepth 100000 in
set_option maxHeartbeats 4000000 in
theorem repeat_calls (A : Option Addr) (c : Nat) (x : UInt8) (n : Nat) (w : World) (hn : 1 ≤ n) (hn2 : n ≤ 1000) (hA : Bts w A [x]) :
    Calls Try.prog 144 #[.slice A 1 c, iv n] w (BtRet w (List.replicate n x)) := by
  obtain ⟨a, o, rfl, hlt, hc⟩ := hA 0 (by simp)
  simp only [Nat.add_zero, List.getElem_cons_zero] at hc
  have HC := Lib.hid hc
  clear hA hc
  have d1 : ¬ (n : Int) < 0 := by omega
  have u1 : IntKind.u64.wrap (n : Int) = (n : Int) := by rw [IntKind.wrap_u64]; omega
  have i1 : IntKind.i64.wrap (n : Int) = (n : Int) := IntWalk.i64_in _ (by omega)
  have hmk : ∀ w : World, (Instr.makeSlice 22 (.int .i64 (n : Int)) (.int .i64 (n : Int))).run Try.prog w = .ok (.slice (some ⟨w.heap.size, 0, none⟩) n n) (w.alloc (.cells (filled x 0 n).toArray 5)) := fun w => by
    have := run_make_row' (P := Try.prog) 22 5 (.int .u8 0) 1 Try.underlying22 (by kernel_rfl) rfl .i64 .i64 n (by omega) (by omega) w
    rw [made_filled x] at this
    exact this
  go_enter Try.func144, Try.ntmps144
  go_wp2_with fail
  refine (mul1_calls n w (by omega)).mono ?_
  rintro e w1 ⟨rfl, rfl⟩
  have d2 : decide ((9223372036854775807 : Int) < (n : Int)) = false := by simp; omega
  have hb0 : Below w.heap.size w (w.alloc (.cells (filled x 0 n).toArray 5)) := (Below.refl _ _).alloc (Nat.le_refl _) _
  have hg0 : (w.alloc (.cells (filled x 0 n).toArray 5)).heap[w.heap.size]? = some (.cells (filled x 0 n).toArray 5 (0, 0)) := blk_top rfl
  have hca := (hb0.cell (p := ⟨a, o, none⟩) hlt).trans HC.out
  have hcp : (Builtin.copy_ #[22, 22] 3 #[.slice (some ⟨w.heap.size, 0, none⟩) n n, .slice (some ⟨a, o, none⟩) 1 c]).run Try.prog (w.alloc (.cells (filled x 0 n).toArray 5)) = .ok (.int .i64 1) (w.alloc (.cells (filled x 1 n).toArray 5)) := by
    have := run_copy_row (P := Try.prog) (w.alloc (.cells (filled x 0 n).toArray 5)) 22 22 3 5 w.heap.size 0 n n ⟨a, o, none⟩ 1 c (filled x 0 n).toArray 5 [bv x] Try.underlying22 (by kernel_rfl) hg0 (by simp [Nat.min_def]; omega)
      (fun j v hv => by
        obtain ⟨hj, rfl⟩ := List.getElem?_eq_some_iff.1 hv
        have e0 : j = 0 := by simp at hj; omega
        subst e0
        simpa [Addr.add] using hca) (by rw [List.size_toArray, filled_len x (Nat.zero_le _)]; simp; omega) (by simp [Value.oneCell'])
    rw [this, setRow_alloc, if_pos rfl]
    have e := filled_more x (k := 0) (m := 1) (n := n) (by omega)
    unfold Go.splice at e
    simp only [Nat.zero_add] at e ⊢
    rw [show (List.replicate 1 (bv x)) = [bv x] from rfl] at e
    rw [List.append_assoc, e]
    rfl
  have hf2 : Hid ((w.alloc (.cells (filled x 1 n).toArray 5)).heap[w.heap.size]? = some (.cells (filled x 1 n).toArray 5 (0, 0))) := Lib.hid (blk_top rfl)
  have HB2 : Hid (Below w.heap.size w (w.alloc (.cells (filled x 1 n).toArray 5))) := Lib.hid ((Below.refl _ _).alloc (Nat.le_refl _) _)
  clear hg0 hb0 hca
  go_wp2_with fail
  clear hcp hmk
  generalize w.alloc (.cells (filled x 1 n).toArray 5) = w2 at *
  generalize hgg : w.heap.size = g at *
  go_loopw [8] (fun y wr => ∃ (k : Nat), y = .int .i64 (k : Int) ∧ 1 ≤ k ∧ k ≤ n ∧ Hid (wr.heap[g]? = some (.cells (filled x k n).toArray 5 (0, 0))) ∧ Hid (Below g w wr)) (fun y _ => n - (intOf y).toNat)
  case atStart => exact ⟨1, rfl, by omega, hn, hf2, HB2⟩
  case round =>
    rename World => wo
    obtain ⟨k, rfl, hk1, hkn, HF, HB⟩ := hrel
    by_cases hlt : k < n
    · obtain ⟨m, hm⟩ : ∃ m, m = Nat.min k (n - k) := ⟨_, rfl⟩
      have hm1 : 1 ≤ m ∧ k + m ≤ n := by rw [hm]; simp only [Nat.min_def]; split <;> omega
      have HM := Lib.hid hm
      have HMK : Hid ((k : Int) ≤ (n : Int)) := Lib.hid (by omega)
      have HMK2 : Hid (m ≤ k) := Lib.hid (by rw [hm]; exact Nat.min_le_left _ _)
      have HMN := Lib.hid hm1.2
      have HK := Lib.hid hkn
      have HNK : Hid (¬ n = k) := Lib.hid (by omega)
      have HKN : Hid ((k : Int) ≤ (n : Int)) := Lib.hid (by omega)
      have HI : Hid (IntKind.i64.wrap ((k : Int) + (m : Int)) = (k : Int) + (m : Int)) := Lib.hid (IntWalk.i64_in _ (by omega))
      have dk : decide ((k : Int) < (n : Int)) = true := by simp; omega
      clear hm hf2 HB2
      go_wp2_with fail
      refine wp_region_free (by kernel_rfl) (some 38 :: some 39 :: some 40 :: some 41 :: some 42 :: some 43 :: some 44 :: some 45 :: some 46 :: some 8 :: []) (false :: false :: false :: false :: false :: false :: false :: true :: false :: false :: []) (.int .i64 ((k : Nat) : Int) :: .slice (some ⟨g, 0, none⟩) n n :: .int .i64 ((k : Nat) : Int) :: .slice (some ⟨g, (k : Nat), none⟩) (n - k) (n - k) :: .slice (some ⟨g, 0, none⟩) n n :: .int .i64 ((k : Nat) : Int) :: .slice (some ⟨g, 0, none⟩) k n :: undef :: .int .i64 ((k + m : Nat) : Int) :: .int .i64 ((k + m : Nat) : Int) :: []) (rpJ wo g x k m n) 48 rfl rfl (by decide +kernel) (by decide +kernel) (by decide +kernel) rfl rfl (by rw [rpJ, if_neg (by simp)]) ?_ ?_
      · refine ⟨?_, ?_⟩
        · intro done cv a wq hn hw hcl h hJ
          have e8 := fr_un (t := 8) (i := 0) (i0 := 9) (v := .int .i64 ((k : Nat) : Int)) h hcl hn rfl (by decide) (by decide) rfl
          exact mx_move (ch_ev e8)
        refine ⟨?_, ?_⟩
        · intro done cv a wq hn hw hcl h hJ
          have e7 := fr_old (t := 7) (v := .slice (some ⟨g, 0, none⟩) n n) h rfl rfl
          exact mx_move (ch_ev e7)
        refine ⟨?_, ?_⟩
        · intro done cv a wq hn hw hcl h hJ
          have e8 := fr_un (t := 8) (i := 2) (i0 := 9) (v := .int .i64 ((k : Nat) : Int)) h hcl hn rfl (by decide) (by decide) rfl
          exact mx_move (ch_ev e8)
        refine ⟨?_, ?_⟩
        · intro done cv a wq hn hw hcl h hJ
          have e39 := fr_new (i := 1) (t := 39) h (hw 1 (by decide)) rfl rfl rfl; have e40 := fr_new (i := 2) (t := 40) h (hw 2 (by decide)) rfl rfl rfl
          have hnk := HNK.out
          have hkn := HKN.out
          go_simp
        refine ⟨?_, ?_⟩
        · intro done cv a wq hn hw hcl h hJ
          have e7 := fr_old (t := 7) (v := .slice (some ⟨g, 0, none⟩) n n) h rfl rfl
          exact mx_move (ch_ev e7)
        refine ⟨?_, ?_⟩
        · intro done cv a wq hn hw hcl h hJ
          have e8 := fr_un (t := 8) (i := 5) (i0 := 9) (v := .int .i64 ((k : Nat) : Int)) h hcl hn rfl (by decide) (by decide) rfl
          exact mx_move (ch_ev e8)
        refine ⟨?_, ?_⟩
        · intro done cv a wq hn hw hcl h hJ
          have e42 := fr_new (i := 4) (t := 42) h (hw 4 (by decide)) rfl rfl rfl; have e43 := fr_new (i := 5) (t := 43) h (hw 5 (by decide)) rfl rfl rfl
          have hnk := HNK.out
          have hkn := HKN.out
          have hmn := HMK.out
          go_simp
        refine ⟨?_, ?_⟩
        · intro done cv a wq hn hw hcl h hJ
          have e41 := fr_new (i := 3) (t := 41) h (hw 3 (by decide)) rfl rfl rfl; have e44 := fr_new (i := 6) (t := 44) h (hw 6 (by decide)) rfl rfl rfl
          have hd : ¬ maskB [false, false, false, false, false, false, false, true, false, false] done 7 = true := by unfold maskB; rw [hn]; simp
          rw [rpJ, if_neg hd] at hJ
          obtain rfl : wq = wo.drew := hJ
          refine wp_copy rfl (.tmp 41) (.tmp 44) 22 22 rfl 5 Try.underlying22 (by kernel_rfl) _ _ _ _ _ _ (ch_ev e41) (ch_ev e44) g k (filled x k n) 5 HF.out (List.replicate m (bv x)) (by rw [List.length_replicate]; exact HM.out) (fun _ => ⟨rfl, _, rfl, fun j v hv => ?_⟩) (by rw [filled_len x HK.out, List.length_replicate]; exact HMN.out) (fun v hv => by rw [List.eq_of_mem_replicate hv]; rfl) g wo ((Below.refl _ _).drew) (Nat.le_refl _) ?_
          · obtain ⟨hj, rfl⟩ := List.getElem?_eq_some_iff.1 hv
            rw [List.length_replicate] at hj
            have e1 := filled_at x (n := n) (show j < k by have := HMK2.out; omega)
            have e2 : (⟨g, 0, none⟩ : Addr).add j = ⟨g, j, none⟩ := by unfold Addr.add; split <;> simp_all
            rw [e2, List.getElem_replicate]
            refine (cell_of_row _ _ _ _ _ _ HF.out).trans ?_
            rw [List.getElem?_toArray, e1]
          · intro w' hg' hb'
            rw [filled_more x HMN.out] at hg'
            exact ⟨_, rfl, by rw [rpJ, if_pos (by simp)]; exact ⟨by simp [goInt], hg', hb'⟩⟩
        refine ⟨?_, ?_⟩
        · intro done cv a wq hn hw hcl h hJ
          have e38 := fr_new (i := 0) (t := 38) h (hw 0 (by decide)) rfl rfl rfl; have e45 := fr_cv (i := 7) (t := 45) h (hw 7 (by decide)) rfl rfl
          have hd : maskB [false, false, false, false, false, false, false, true, false, false] done 7 = true := by unfold maskB; rw [hw 7 (by decide)]; rfl
          rw [rpJ, if_pos hd] at hJ
          rw [hJ.1] at e45
          have hi := HI.out
          go_simp
        refine ⟨?_, ?_⟩
        · intro done cv a wq hn hw hcl h hJ
          have e46 := fr_new (i := 8) (t := 46) h (hw 8 (by decide)) rfl rfl rfl
          exact mx_assign (ch_ev e46)
        exact trivial
      · intro d cv w3 hall hJ
        rw [rpJ, if_pos (hall 7 rfl (by decide))] at hJ
        obtain ⟨_, g1, g2⟩ := hJ
        have HF3 := Lib.hid g1
        have HB3 : Hid (Below g w w3) := Lib.hid (HB.out.trans g2)
        clear g1 g2
        simp only [freeAll, putAll_some, putAll_none, putAll_nil, List.getD_cons_zero, List.getD_cons_succ, Bool.false_eq_true, if_true, if_false, reduceIte, Nat.zero_add, Nat.reduceAdd, List.setIfInBounds_toArray, List.set_cons_zero, List.set_cons_succ]
        go_wp2_with fail
        go_roundw
        case rel => exact ⟨k + m, rfl, by omega, hm1.2, HF3, HB3⟩
        case measure => simp [intOf]; omega
    · obtain rfl : k = n := by omega
      have dk : decide ((k : Int) < (k : Int)) = false := by simp
      go_wp2_with fail
      go_ret
      have := HF.out
      refine ⟨some ⟨g, 0, none⟩, k, by simp, ?_, hgg ▸ HB.out⟩
      have ho := own_filled HF.out (base := g) (Nat.le_refl _) (by omega)
      rw [hgg]
      simpa using ho
end Go.Proofs.Ytefkfglkpebbmac
