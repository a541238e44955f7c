/- The walk of the library's slices.Insert over chunks, of one. Printed by gen_inschunks.py. No conditions. -/
import Derived.Test.YtefkfglkpebbmacQBase
import Derived.Test.YtefkfglkpebbmacQMid
import Derived.Test.YtefkfglkpebbmacQCRowPush
namespace Go.Proofs.Ytefkfglkpebbmac
open Go.RowKit
set_option linter.unusedVariables false
set_option linter.unusedSimpArgs false

/-- What the insertion leaves. -/
def InsRet (w : World) (base n : Nat) (A : Option Addr) (out : List Value) : Ending → World → Prop := fun en w' =>
  ∃ A' c', en = .returned (.slice A' (n + 1) c') ∧ Own w' base 49 5 A' (n + 1) c' out ∧ Below base w w' ∧ (∀ k, k < w.heap.size → A.map (·.block) ≠ some k → w'.heap[k]? = w.heap[k]?) ∧ (A'.map (·.block) = A.map (·.block) ∨ ∀ k, A'.map (·.block) = some k → w.heap.size ≤ k)
/-- Before and behind the one operation of a region that writes. -/
def insJ (w0 w1 : World) : Nat → (Nat → Value) → World → Prop
  | 0, _, w => w = w0.drew
  | _, _, w => w = w1.drew ∧ True
theorem addr_plus (b o j : Nat) : (⟨b, o, none⟩ : Addr).add j = ⟨b, o + j, none⟩ := by unfold Addr.add; split <;> simp_all
theorem drew_setRow (w : World) (g : Nat) (cs : Array Value) : w.drew.setRow g cs = (w.setRow g cs).drew := rfl
set_option maxRecDepth 100000 in
set_option maxHeartbeats 8000000 in
theorem insEnd0_calls (V : Addr) (vc : Nat) (ns : List Value) (w : World) (base : Nat) (hns : ns.length = 5) (hv : Src w (some V) ns) (h1 : ∀ u ∈ ns, u.oneCell' = true) (hb : base ≤ w.heap.size) :
    Calls Try.prog 103 #[.slice none 0 0, iv 0, .slice (some V) 1 vc] w (InsRet w base 0 none ns) := by
  have hO : Own w base 49 5 none 0 0 [] := Own.nil_ _ _ _ _
  have H1 := Lib.hid h1
  clear h1
  go_enter Try.func103, Try.ntmps103
  go_wp2_with (at_builtin; go_must (refine wpList_app w rfl _ _ 43 rfl elChunks base none 0 0 [] rfl hO (some V) 1 vc ns rfl hv hns H1.out (by omega) hb ?_; intro A' c' w1 hown hg hb1 hor))
  go_ret
  exact ⟨A', c', by simp, by simpa using hown, hb1, fun k hk _ => hg.block k hk (by simp), by
    rcases hor with h | h
    · exact .inl h
    · exact .inr (fun k hk => by rw [h] at hk; injection hk with hk; omega)⟩
set_option maxRecDepth 100000 in
set_option maxHeartbeats 8000000 in
theorem insEnd_calls (g n c : Nat) (xs : List Value) (V : Addr) (vc : Nat) (ns : List Value) (w : World) (base : Nat) (hO : Own w base 49 5 (some ⟨g, 0, none⟩) n c xs) (hns : ns.length = 5) (hv : Src w (some V) ns) (h1 : ∀ u ∈ ns, u.oneCell' = true) (hb : base ≤ w.heap.size) (hn : n ≤ 1000) :
    Calls Try.prog 103 #[.slice (some ⟨g, 0, none⟩) n c, iv n, .slice (some V) 1 vc] w (InsRet w base n (some ⟨g, 0, none⟩) (xs ++ ns)) := by
  have hle := hO.le
  have HO := Lib.hid hO
  have H1 := Lib.hid h1
  have q1 : (n : Int) ≤ (c : Int) := by omega
  have q2 : ¬ (n : Int) < 0 := by omega
  have q3 : ((n : Int) == (n : Int)) = true := by simp
  have HD : Hid (∃ v, ∀ wq, (Instr.slice 43 (.slice (some ⟨g, 0, none⟩) n c) (some (.int .i64 (n : Int))) none none).run Try.prog wq = .ok v wq) := Lib.hid (by
    by_cases e : c = n
    · exact ⟨.slice (some ⟨g, 0, none⟩) 0 0, fun wq => by go_simp⟩
    · exact ⟨.slice (some ⟨g, n * 5, none⟩) 0 (c - n), fun wq => by go_simp⟩)
  obtain ⟨v, hv2⟩ := HD.out
  clear hO h1 HD
  go_enter Try.func103, Try.ntmps103
  go_wp2_with (at_builtin; go_must (refine wpList_app w rfl _ _ 43 rfl elChunks base (some ⟨g, 0, none⟩) n c xs rfl HO.out (some V) 1 vc ns rfl hv hns H1.out (by omega) hb ?_; intro A' c' w1 hown hg hb1 hor))
  go_ret
  refine ⟨A', c', rfl, hown, hb1, fun k hk hne => hg.block k hk (fun e => hne e.symm), ?_⟩
  rcases hor with h | h
  · exact .inl (by simpa using h)
  · exact .inr (fun k hk => by rw [h] at hk; injection hk with hk; omega)
set_option maxRecDepth 100000 in
set_option maxHeartbeats 8000000 in
theorem insRoom_calls (g n c i : Nat) (xs : List Value) (v vc : Nat) (ns : List Value) (tV : TypeId) (w : World) (base : Nat) (hO : Own w base 49 5 (some ⟨g, 0, none⟩) n c xs) (hns : ns.length = 5) (hv : w.heap[v]? = some (.cells ns.toArray tV (0, 0))) (hvg : v ≠ g) (h1 : ∀ u ∈ ns, u.oneCell' = true) (h2 : ∀ u ∈ xs, u.oneCell' = true) (hb : base ≤ w.heap.size) (hn : n ≤ 1000) (hi : i < n) (hc : n + 1 ≤ c) :
    Calls Try.prog 103 #[.slice (some ⟨g, 0, none⟩) n c, iv i, .slice (some ⟨v, 0, none⟩) 1 vc] w (InsRet w base n (some ⟨g, 0, none⟩) (xs.take (i * 5) ++ ns ++ xs.drop (i * 5))) := by
  obtain ⟨hxl, ⟨hv0, _⟩ | ⟨g', cap, cur, hv0, hbg, hgc, hncap, hmax, hcs, hxs0⟩⟩ := hO
  · cases hv0
  injection hv0 with e1 e2 e3
  injection e1 with e1
  injection e1 with e1 e4
  subst e1 e3
  obtain ⟨L, hL⟩ : ∃ L, cur.toList = L := ⟨_, rfl⟩
  have hcur : cur = L.toArray := by rw [← hL]
  subst hcur
  simp only [List.size_toArray] at hcs
  have hxs : xs = L.take (n * 5) := by simpa using hxs0.symm
  have hcm : c ≤ 9223372036854775807 := by simp only [maxLen] at hmax; omega
  have q0 : ((i : Int) == (n : Int)) = false := beq_eq_false_iff_ne.2 (by omega)
  have q1 : decide ((c : Int) < (n : Int) + 1) = false := decide_eq_false (by omega)
  have q2 : IntKind.i64.wrap ((n : Int) + 1) = (n : Int) + 1 := IntWalk.i64_in _ (by omega)
  have HWI : Hid (IntKind.i64.wrap ((i : Int) + 1) = (i : Int) + 1) := Lib.hid (IntWalk.i64_in _ (by omega))
  have hS0 : ∀ wq, (Instr.slice 43 (.slice (some ⟨g, 0, none⟩) n c) (some (.int .i64 (i : Int))) none none).run Try.prog wq = .ok (.slice (some ⟨g, i * 5, none⟩) (n - i) (c - i)) wq := fun wq => by
    have k1 : ¬ c = i := by omega
    have k2 : (i : Int) ≤ (n : Int) := by omega
    go_simp
  have hS1 : ∀ wq, (Instr.slice 43 (.slice (some ⟨g, 0, none⟩) n c) none (some (.int .i64 ((n : Int) + 1))) none).run Try.prog wq = .ok (.slice (some ⟨g, 0, none⟩) (n + 1) c) wq := fun wq => by
    have k1 : ¬ c = 0 := by omega
    have k2 : (n : Int) + 1 ≤ (c : Int) := by omega
    have k3 : (0 : Int) ≤ (n : Int) + 1 := by omega
    go_simp
  have hS2 : ∀ wq, (Instr.slice 43 (.slice (some ⟨g, 0, none⟩) (n + 1) c) (some (.int .i64 ((i : Int) + 1))) none none).run Try.prog wq = .ok (.slice (some ⟨g, (i + 1) * 5, none⟩) (n - i) (c - (i + 1))) wq := fun wq => by
    have k1 : ¬ c = i + 1 := by omega
    have k2 : (i : Int) + 1 ≤ (n : Int) + 1 := by omega
    have k3 : n + 1 - (i + 1) = n - i := by omega
    have k4 : ((i : Int) + 1).toNat = i + 1 := by omega
    have k5 : (0 : Int) ≤ (i : Int) + 1 := by omega
    go_simp
  have hS3 : ∀ wq, (Instr.slice 43 (.slice (some ⟨g, 0, none⟩) (n + 1) c) (some (.int .i64 (i : Int))) none none).run Try.prog wq = .ok (.slice (some ⟨g, i * 5, none⟩) (n + 1 - i) (c - i)) wq := fun wq => by
    have k1 : ¬ c = i := by omega
    have k2 : (i : Int) ≤ (n : Int) + 1 := by omega
    go_simp
  have HS1 := Lib.hid hS2
  have HS2 := Lib.hid hS3
  have hsv : w.shape? v = some (tV, 5) := by
    unfold World.shape?
    rw [hv]
    simp [hns]
  have hsg : w.shape? g = some (49, c * 5) := by
    unfold World.shape?
    rw [hgc]
    simp [hcs]
  have hov : ∀ la lb cb, (callFunc 142 #[.slice (some ⟨v, 0, none⟩) 1 la, .slice (some ⟨g, (i + 1) * 5, none⟩) lb cb]).run Try.prog w = .ok (.value (.bool false)) w := fun la lb cb => by
    rw [run_callFunc_extern Try.func142 (by kernel_rfl) (by kernel_rfl) (by kernel_rfl) (e := Extern.SlicesOverlaps.overlaps #[43, 43] #[4]) (by kernel_rfl)]
    have := Lib.run_overlaps_apart (P := Try.prog) w 43 4 49 Try.underlying43 5 (fun w => by kernel_rfl) ⟨v, 0, none⟩ ⟨g, (i + 1) * 5, none⟩ 1 la lb cb hvg tV 49 5 (c * 5) hsv hsg (by omega) (by simp [World.frozen?, hv]) (by simp [World.frozen?, hv])
    rw [this]; rfl
  have hcl : ((L.take (n * 5)).drop (i * 5)).length = (n - i) * 5 := by simp; omega
  have hone : ∀ u ∈ (L.take (n * 5)).drop (i * 5), u.oneCell' = true := fun u hu => h2 u (by rw [hxs]; exact List.mem_of_mem_drop hu)
  have hadd : ∀ (b o j : Nat), (⟨b, o, none⟩ : Addr).add j = ⟨b, o + j, none⟩ := addr_plus
  have hC1 : ∀ ty dc sc, (Builtin.copy_ #[43, 43] ty #[.slice (some ⟨g, (i + 1) * 5, none⟩) (n - i) dc, .slice (some ⟨g, i * 5, none⟩) (n + 1 - i) sc]).run Try.prog w.drew = .ok (goInt (Nat.min (n + 1 - i) (n - i))) (w.drew.setRow g (over L ((i + 1) * 5) ((L.take (n * 5)).drop (i * 5))).toArray) := fun ty dc sc =>
    run_copy_rowN w.drew 43 43 ty 49 g ((i + 1) * 5) (n - i) dc ⟨g, i * 5, none⟩ (n + 1 - i) sc L 49 ((L.take (n * 5)).drop (i * 5)) 5 Try.underlying43 (by kernel_rfl) hgc (by rw [hcl]; simp only [Nat.min_def]; split <;> omega)
      (fun j u hj => by
        rw [hadd, cell_of_row _ _ _ _ _ _ (show w.drew.heap[g]? = _ from hgc)]
        rw [List.getElem?_drop, List.getElem?_take] at hj
        split at hj
        · simpa using hj
        · cases hj) (by omega) hone
  have HC1 := Lib.hid hC1
  obtain ⟨w1, hw1⟩ : ∃ w1, w.setRow g (over L ((i + 1) * 5) ((L.take (n * 5)).drop (i * 5))).toArray = w1 := ⟨_, rfl⟩
  have hol := over_len L ((i + 1) * 5) ((L.take (n * 5)).drop (i * 5)) (by omega)
  have hg1 : w1.heap[g]? = some (.cells (over L ((i + 1) * 5) ((L.take (n * 5)).drop (i * 5))).toArray 49 (0, 0)) := by rw [← hw1]; exact setRow_heap w g _ _ _ _ hgc
  have hv1 : w1.heap[v]? = some (.cells ns.toArray tV (0, 0)) := by rw [← hw1, setRow_other w g v _ hvg]; exact hv
  have hC2 : ∀ ty dc, (Builtin.copy_ #[43, 43] ty #[.slice (some ⟨g, i * 5, none⟩) (n + 1 - i) dc, .slice (some ⟨v, 0, none⟩) 1 vc]).run Try.prog w1.drew = .ok (goInt (Nat.min 1 (n + 1 - i))) (w1.drew.setRow g (over (over L ((i + 1) * 5) ((L.take (n * 5)).drop (i * 5))) (i * 5) ns).toArray) := fun ty dc =>
    run_copy_rowN w1.drew 43 43 ty 49 g (i * 5) (n + 1 - i) dc ⟨v, 0, none⟩ 1 vc _ 49 ns 5 Try.underlying43 (by kernel_rfl) hg1 (by rw [hns]; simp only [Nat.min_def]; split <;> omega)
      (fun j u hj => by
        rw [hadd, cell_of_row _ _ _ _ _ _ (show w1.drew.heap[v]? = _ from hv1)]
        simpa using hj) (by omega) h1
  have HC2 := Lib.hid hC2
  have HEND : Hid (InsRet w base n (some ⟨g, 0, none⟩) (xs.take (i * 5) ++ ns ++ xs.drop (i * 5)) (.returned (.slice (some ⟨g, 0, none⟩) (n + 1) c)) (w1.drew.setRow g (over (over L ((i + 1) * 5) ((L.take (n * 5)).drop (i * 5))) (i * 5) ns).toArray)) := Lib.hid (by
    have hol2 := over_len (over L ((i + 1) * 5) ((L.take (n * 5)).drop (i * 5))) (i * 5) ns (by omega)
    have hin := ins_room L ns (i * 5) (n * 5) (by omega) (by omega)
    rw [show i * 5 + ns.length = (i + 1) * 5 by omega] at hin
    refine ⟨some ⟨g, 0, none⟩, c, rfl, ⟨by simp; omega, Or.inr ⟨g, c, (over (over L ((i + 1) * 5) ((L.take (n * 5)).drop (i * 5))) (i * 5) ns).toArray, rfl, hbg, setRow_heap w1.drew g _ _ _ _ hg1, by omega, hmax, by simp; omega, ?_⟩⟩, ?_, ?_, .inl rfl⟩
    · rw [hxs, ← hin]
      simp
      congr 1
      omega
    · have hb1 : Below base w w1 := by rw [← hw1]; exact below_row (Below.refl _ _) hbg _
      exact below_row hb1.drew hbg _
    · intro k hk hne
      have hkg : k ≠ g := fun e => hne (by rw [e]; rfl)
      rw [setRow_other w1.drew g k _ hkg]
      show w1.heap[k]? = _
      rw [← hw1, setRow_other w g k _ hkg])
  clear hS2 hS3 hC1 hC2 hg1 hv1 hol hcl hone hxs hxs0 h2 h1 hgc hv hxl hL hadd
  go_enter Try.func103, Try.ntmps103
  go_wp2_with (simp only [hov])
  refine wp_region_mix (by kernel_rfl) (some 69 :: some 70 :: some 71 :: some 72 :: some 73 :: some 74 :: some 75 :: some 76 :: some 77 :: []) (none :: none :: none :: none :: none :: none :: none :: none :: some 0 :: []) (.slice (some ⟨g, 0, none⟩) (n + 1) c :: .int .i64 (i : Int) :: .int .i64 1 :: .int .i64 ((i : Int) + 1) :: .slice (some ⟨g, (i + 1) * 5, none⟩) (n - i) (c - (i + 1)) :: .slice (some ⟨g, 0, none⟩) (n + 1) c :: .int .i64 (i : Int) :: .slice (some ⟨g, i * 5, none⟩) (n + 1 - i) (c - i) :: undef :: []) 1 (insJ w (w.setRow g (over L ((i + 1) * 5) ((L.take (n * 5)).drop (i * 5))).toArray)) 95 rfl rfl (by decide +kernel) (by decide +kernel) (by decide +kernel) (by decide +kernel) rfl rfl (by decide +kernel) (by decide +kernel) (rfl) ?_ ?_
  · refine ⟨?_, ?_⟩
    · intro done cv k0 a wq hw h hJ hn
      have e0 := mx_old (t := 0) (v := .slice (some ⟨g, 0, none⟩) (n + 1) c) h rfl rfl
      exact mx_move (ch_ev e0)
    refine ⟨?_, ?_⟩
    · intro done cv k0 a wq hw h hJ hn
      have e1 := mx_old (t := 1) (v := .int .i64 (i : Int)) h rfl rfl
      exact mx_move (ch_ev e1)
    refine ⟨?_, ?_⟩
    · intro done cv k0 a wq hw h hJ hn
      have e7 := mx_old (t := 7) (v := .int .i64 1) h rfl rfl
      exact mx_move (ch_ev e7)
    refine ⟨?_, ?_⟩
    · intro done cv k0 a wq hw h hJ hn
      have e70 := mx_new (i := 1) (t := 70) h (hw 1 (by decide)) rfl rfl rfl; have e71 := mx_new (i := 2) (t := 71) h (hw 2 (by decide)) rfl rfl rfl
      have h1 := HWI.out
      go_simp
    refine ⟨?_, ?_⟩
    · intro done cv k0 a wq hw h hJ hn
      have e69 := mx_new (i := 0) (t := 69) h (hw 0 (by decide)) rfl rfl rfl; have e72 := mx_new (i := 3) (t := 72) h (hw 3 (by decide)) rfl rfl rfl
      have h1 := HS1.out
      go_simp
    refine ⟨?_, ?_⟩
    · intro done cv k0 a wq hw h hJ hn
      have e0 := mx_old (t := 0) (v := .slice (some ⟨g, 0, none⟩) (n + 1) c) h rfl rfl
      exact mx_move (ch_ev e0)
    refine ⟨?_, ?_⟩
    · intro done cv k0 a wq hw h hJ hn
      have e1 := mx_old (t := 1) (v := .int .i64 (i : Int)) h rfl rfl
      exact mx_move (ch_ev e1)
    refine ⟨?_, ?_⟩
    · intro done cv k0 a wq hw h hJ hn
      have e74 := mx_new (i := 5) (t := 74) h (hw 5 (by decide)) rfl rfl rfl; have e75 := mx_new (i := 6) (t := 75) h (hw 6 (by decide)) rfl rfl rfl
      have h1 := HS2.out
      go_simp
    refine ⟨?_, ?_⟩
    · intro done cv a wq hw h hJ
      have e73 := mx_new (i := 4) (t := 73) h (hw 4 (by decide)) rfl rfl rfl; have e76 := mx_new (i := 7) (t := 76) h (hw 7 (by decide)) rfl rfl rfl
      obtain rfl : wq = w.drew := hJ
      refine wp_copyN (.tmp 73) (.tmp 76) 43 43 rfl _ _ (ch_ev e73) (ch_ev e76) (HC1.out _ _ _) ⟨_, rfl, ?_⟩
      exact ⟨rfl, trivial⟩
    exact trivial
  · intro cv w3 hJ
    obtain ⟨rfl, -⟩ := hJ
    rw [hw1]
    simp only [mixAll, putAll_some, putAll_none, putAll_nil, List.getElem?_cons_zero, List.getElem?_cons_succ, Nat.zero_add, Nat.reduceAdd, List.setIfInBounds_toArray, List.set_cons_zero, List.set_cons_succ]
    clear HC1
    have hS4 := HS2.out
    have hC2 := HC2.out
    go_wp2_with fail
    go_ret
    exact HEND.out
set_option maxRecDepth 100000 in
set_option maxHeartbeats 8000000 in
theorem insGrow_calls (g n c i : Nat) (xs : List Value) (v vc : Nat) (ns : List Value) (tV : TypeId) (w : World) (base : Nat) (hO : Own w base 49 5 (some ⟨g, 0, none⟩) n c xs) (hns : ns.length = 5) (hv : w.heap[v]? = some (.cells ns.toArray tV (0, 0))) (h1 : ∀ u ∈ ns, u.oneCell' = true) (h2 : ∀ u ∈ xs, u.oneCell' = true) (hb : base ≤ w.heap.size) (hn : n ≤ 1000) (hi : i < n) (hc : c < n + 1) :
    Calls Try.prog 103 #[.slice (some ⟨g, 0, none⟩) n c, iv i, .slice (some ⟨v, 0, none⟩) 1 vc] w (InsRet w base n (some ⟨g, 0, none⟩) (xs.take (i * 5) ++ ns ++ xs.drop (i * 5))) := by
  have hnc := hO.le
  have hxl := hO.len
  have hsrc := hO.src
  have hgl : g < w.heap.size := (hO.block g rfl).2
  have hcn : c = n := by omega
  clear hO hnc
  subst hcn
  have q0 : ((i : Int) == (c : Int)) = false := beq_eq_false_iff_ne.2 (by omega)
  have q1 : decide ((c : Int) < (c : Int) + 1) = true := decide_eq_true (by omega)
  have q2 : IntKind.i64.wrap ((c : Int) + 1) = (c : Int) + 1 := IntWalk.i64_in _ (by omega)
  have q3 : (c : Int) + 1 - (i : Int) = ((c + 1 - i : Nat) : Int) := by omega
  have q4 : IntKind.i64.wrap (((c + 1 - i : Nat) : Int)) = ((c + 1 - i : Nat) : Int) := IntWalk.i64_in _ (by omega)
  have HWI : Hid (IntKind.i64.wrap ((i : Int) + 1) = (i : Int) + 1) := Lib.hid (IntWalk.i64_in _ (by omega))
  have hS0 : ∀ wq, (Instr.slice 43 (.slice (some ⟨g, 0, none⟩) c c) (some (.int .i64 (i : Int))) none none).run Try.prog wq = .ok (.slice (some ⟨g, i * 5, none⟩) (c - i) (c - i)) wq := fun wq => by
    have k1 : ¬ c = i := by omega
    have k2 : (i : Int) ≤ (c : Int) := by omega
    go_simp
  have hS1 : ∀ wq, (Instr.slice 43 (.slice (some ⟨g, 0, none⟩) c c) none (some (.int .i64 (i : Int))) none).run Try.prog wq = .ok (.slice (some ⟨g, 0, none⟩) i c) wq := fun wq => by
    have k1 : ¬ c = 0 := by omega
    have k2 : (i : Int) ≤ (c : Int) := by omega
    go_simp
  obtain ⟨inf, hif, hiz, his, hib⟩ := info_parts (P := Try.prog) (e := 49) (z := .agg #[.int .i64 0, .int .i64 0, .int .i64 0, .int .i64 0, .slice none 0 0]) (size := 5) (bytes := 56) (by kernel_rfl)
  have hpl : (xs.take (i * 5)).length = i * 5 := by simp; omega
  have hcell : ∀ (W : World), (∀ k, k < w.heap.size → W.heap[k]? = w.heap[k]?) → ∀ j u, xs[j]? = some u → W.cell? ⟨g, j, none⟩ = some u := fun W hW j u hj => by
    obtain ⟨hjl, rfl⟩ := List.getElem?_eq_some_iff.1 hj
    obtain ⟨b', o', e, hlt, hcc⟩ := hsrc j hjl
    injection e with e
    injection e with e1 e2
    subst e1 e2
    rw [World.cell?_of_block (hW g hgl)]
    simpa using hcc
  have hold : (Builtin.firstCells inf.size i (.slice (some ⟨g, 0, none⟩) i c)).run Try.prog w.drew = .ok (xs.take (i * 5)).toArray w.drew := by
    have := run_loadCells_list (P := Try.prog) w.drew ⟨g, 0, none⟩ (xs.take (i * 5)) (fun j u hj => by
      rw [addr_plus, Nat.zero_add]
      rw [List.getElem?_take] at hj
      split at hj
      · exact hcell w.drew (fun _ _ => rfl) j u hj
      · cases hj)
    rw [hpl] at this
    rw [his]
    exact this
  have hr := fun ty => Lib.run_append_grow_zeros (P := Try.prog) w 43 3 ty 49 inf (.agg #[.int .i64 0, .int .i64 0, .int .i64 0, .int .i64 0, .slice none 0 0]) .i64 .i64 Try.underlying43 Try.underlying3 hif hiz (some ⟨g, 0, none⟩) i c _ hold (c + 1 - i) (by omega) (by omega) (by omega) (by omega) (by rw [hib]; omega)
    (growslice_fits (by omega) (by rw [hib]; omega))
  have hik : i + (c + 1 - i) = c + 1 := by omega
  rw [hik] at hr
  have hG := grownCap_ge w (c + 1) c 49
  have hG2 := grownCap_le_maxLen w (c + 1) c 49 (by unfold maxLen; omega)
  obtain ⟨cap, hcd⟩ : ∃ cap, cap = grownCap w (c + 1) c 49 := ⟨_, rfl⟩
  rw [← hcd] at hr hG hG2
  obtain ⟨Z, hZ⟩ : ∃ Z : List Value, (Builtin.zeroCells (Value.cells (.agg #[.int .i64 0, .int .i64 0, .int .i64 0, .int .i64 0, .slice none 0 0])) (c + 1 - i) ++ Builtin.zeroCells (Value.cells (.agg #[.int .i64 0, .int .i64 0, .int .i64 0, .int .i64 0, .slice none 0 0])) (cap - (c + 1))).toList = Z := ⟨_, rfl⟩
  have hZl : Z.length = (cap - i) * 5 := by rw [← hZ]; simp [Builtin.zeroCells, Value.cells]; omega
  have hcells : (xs.take (i * 5)).toArray ++ Builtin.zeroCells (Value.cells (.agg #[.int .i64 0, .int .i64 0, .int .i64 0, .int .i64 0, .slice none 0 0])) (c + 1 - i) ++ Builtin.zeroCells (Value.cells (.agg #[.int .i64 0, .int .i64 0, .int .i64 0, .int .i64 0, .slice none 0 0])) (cap - (c + 1)) = (xs.take (i * 5) ++ Z).toArray := by
    rw [← hZ]
    apply Array.ext'
    simp
  rw [hcells] at hr
  have hcm : cap ≤ 9223372036854775807 := by simp only [maxLen] at hG2; omega
  clear hcd hcells hZ hif hiz his hib hold
  obtain ⟨w1, hw1⟩ : ∃ w1, w.drew.alloc (.cells (xs.take (i * 5) ++ Z).toArray 49) = w1 := ⟨_, rfl⟩
  rw [hw1] at hr
  have hg1 : w1.heap[w.heap.size]? = some (.cells (xs.take (i * 5) ++ Z).toArray 49 (0, 0)) := by rw [← hw1]; exact blk_top rfl
  have hb1 : Below w.heap.size w w1 := by rw [← hw1]; exact (Below.refl _ _).drew.alloc (Nat.le_refl _) _
  have hXl : (xs.take (i * 5) ++ Z).length = cap * 5 := by rw [List.length_append, hpl, hZl]; omega
  have hvl := blk_lt hv
  have hv1 : w1.heap[v]? = some (.cells ns.toArray tV (0, 0)) := (hb1.block v hvl).trans hv
  have hS2 : ∀ wq, (Instr.slice 43 (.slice (some ⟨w.heap.size, 0, none⟩) (c + 1) cap) (some (.int .i64 (i : Int))) none none).run Try.prog wq = .ok (.slice (some ⟨w.heap.size, i * 5, none⟩) (c + 1 - i) (cap - i)) wq := fun wq => by
    have k1 : ¬ cap = i := by omega
    have k2 : (i : Int) ≤ (c : Int) + 1 := by omega
    go_simp
  have hC1 : ∀ ty dc, (Builtin.copy_ #[43, 43] ty #[.slice (some ⟨w.heap.size, i * 5, none⟩) (c + 1 - i) dc, .slice (some ⟨v, 0, none⟩) 1 vc]).run Try.prog w1 = .ok (goInt (Nat.min 1 (c + 1 - i))) (w1.setRow w.heap.size (over (xs.take (i * 5) ++ Z) (i * 5) ns).toArray) := fun ty dc =>
    run_copy_rowN w1 43 43 ty 49 w.heap.size (i * 5) (c + 1 - i) dc ⟨v, 0, none⟩ 1 vc _ 49 ns 5 Try.underlying43 (by kernel_rfl) hg1 (by rw [hns]; simp only [Nat.min_def]; split <;> omega)
      (fun j u hj => by
        rw [addr_plus, cell_of_row _ _ _ _ _ _ hv1]
        simpa using hj) (by omega) h1
  obtain ⟨w2, hw2⟩ : ∃ w2, w1.setRow w.heap.size (over (xs.take (i * 5) ++ Z) (i * 5) ns).toArray = w2 := ⟨_, rfl⟩
  have hol := over_len (xs.take (i * 5) ++ Z) (i * 5) ns (by omega)
  have hg2 : w2.heap[w.heap.size]? = some (.cells (over (xs.take (i * 5) ++ Z) (i * 5) ns).toArray 49 (0, 0)) := by rw [← hw2]; exact setRow_heap w1 _ _ _ _ _ hg1
  have hb2 : Below w.heap.size w w2 := by rw [← hw2]; exact below_row hb1 (Nat.le_refl _) _
  have hS3 : ∀ wq, (Instr.slice 43 (.slice (some ⟨w.heap.size, 0, none⟩) (c + 1) cap) (some (.int .i64 ((i : Int) + 1))) none none).run Try.prog wq = .ok (.slice (some ⟨w.heap.size, (i + 1) * 5, none⟩) (c - i) (cap - (i + 1))) wq := fun wq => by
    have k1 : ¬ cap = i + 1 := by omega
    have k2 : (i : Int) + 1 ≤ (c : Int) + 1 := by omega
    have k3 : c + 1 - (i + 1) = c - i := by omega
    have k4 : ((i : Int) + 1).toNat = i + 1 := by omega
    have k5 : (0 : Int) ≤ (i : Int) + 1 := by omega
    go_simp
  have HS1 := Lib.hid hS3
  have HS2 := Lib.hid hS0
  have hdl : (xs.drop (i * 5)).length = (c - i) * 5 := by simp; omega
  have hC2 : ∀ ty dc sc, (Builtin.copy_ #[43, 43] ty #[.slice (some ⟨w.heap.size, (i + 1) * 5, none⟩) (c - i) dc, .slice (some ⟨g, i * 5, none⟩) (c - i) sc]).run Try.prog w2.drew = .ok (goInt (Nat.min (c - i) (c - i))) (w2.drew.setRow w.heap.size (over (over (xs.take (i * 5) ++ Z) (i * 5) ns) ((i + 1) * 5) (xs.drop (i * 5))).toArray) := fun ty dc sc =>
    run_copy_rowN w2.drew 43 43 ty 49 w.heap.size ((i + 1) * 5) (c - i) dc ⟨g, i * 5, none⟩ (c - i) sc _ 49 (xs.drop (i * 5)) 5 Try.underlying43 (by kernel_rfl) hg2 (by rw [hdl]; simp)
      (fun j u hj => by
        rw [addr_plus]
        rw [List.getElem?_drop] at hj
        exact hcell w2.drew (fun k hk => hb2.block k hk) _ _ hj) (by omega) (fun u hu => h2 u (List.mem_of_mem_drop hu))
  have HC2 := Lib.hid hC2
  have HEND : Hid (InsRet w base c (some ⟨g, 0, none⟩) (xs.take (i * 5) ++ ns ++ xs.drop (i * 5)) (.returned (.slice (some ⟨w.heap.size, 0, none⟩) (c + 1) cap)) (w2.drew.setRow w.heap.size (over (over (xs.take (i * 5) ++ Z) (i * 5) ns) ((i + 1) * 5) (xs.drop (i * 5))).toArray)) := Lib.hid (by
    have hol2 := over_len (over (xs.take (i * 5) ++ Z) (i * 5) ns) ((i + 1) * 5) (xs.drop (i * 5)) (by omega)
    have hin := ins_grown xs Z ns (i * 5) (c * 5) 5 (by omega) hxl hns (by omega)
    rw [show i * 5 + 5 = (i + 1) * 5 by omega] at hin
    refine ⟨some ⟨w.heap.size, 0, none⟩, cap, rfl, ⟨by simp; omega, Or.inr ⟨w.heap.size, cap, _, rfl, hb, setRow_heap w2.drew _ _ _ _ _ hg2, by omega, hG2, by simp; omega, ?_⟩⟩, ?_, ?_, .inr (fun k hk => by injection hk with hk; have hk : w.heap.size = k := hk; omega)⟩
    · rw [← hin]
      simp
      congr 1
      omega
    · exact below_row (hb2.drew.mono hb) hb _
    · intro k hk hne
      rw [setRow_other w2.drew w.heap.size k _ (by omega)]
      exact hb2.block k hk)
  clear hS0 hS3 hC2 hg1 hv1 hol hdl h2 h1 hv hxl hg2 hcell hsrc hpl hXl hb1 hb2 hvl
  have hS0 := HS2.out
  go_enter Try.func103, Try.ntmps103
  go_wp2_with (at_builtin; refine Lib.wpList_append_run _ rfl _ _ _ _ rfl _ _ rfl rfl _ _ (hr _) ?_)
  refine wp_region_mix (by kernel_rfl) (some 46 :: some 47 :: some 48 :: some 49 :: some 50 :: some 51 :: some 52 :: some 53 :: some 54 :: []) (none :: none :: none :: none :: none :: none :: none :: none :: some 0 :: []) (.slice (some ⟨w.heap.size, 0, none⟩) (c + 1) cap :: .int .i64 (i : Int) :: .int .i64 1 :: .int .i64 ((i : Int) + 1) :: .slice (some ⟨w.heap.size, (i + 1) * 5, none⟩) (c - i) (cap - (i + 1)) :: .slice (some ⟨g, 0, none⟩) c c :: .int .i64 (i : Int) :: .slice (some ⟨g, i * 5, none⟩) (c - i) (c - i) :: undef :: []) 1 (insJ w2 (w2.setRow w.heap.size (over (over (xs.take (i * 5) ++ Z) (i * 5) ns) ((i + 1) * 5) (xs.drop (i * 5))).toArray)) 95 rfl rfl (by decide +kernel) (by decide +kernel) (by decide +kernel) (by decide +kernel) rfl rfl (by decide +kernel) (by decide +kernel) (rfl) ?_ ?_
  · refine ⟨?_, ?_⟩
    · intro done cv k0 a wq hw h hJ hn
      have e9 := mx_old (t := 9) (v := .slice (some ⟨w.heap.size, 0, none⟩) (c + 1) cap) h rfl rfl
      exact mx_move (ch_ev e9)
    refine ⟨?_, ?_⟩
    · intro done cv k0 a wq hw h hJ hn
      have e1 := mx_old (t := 1) (v := .int .i64 (i : Int)) h rfl rfl
      exact mx_move (ch_ev e1)
    refine ⟨?_, ?_⟩
    · intro done cv k0 a wq hw h hJ hn
      have e7 := mx_old (t := 7) (v := .int .i64 1) h rfl rfl
      exact mx_move (ch_ev e7)
    refine ⟨?_, ?_⟩
    · intro done cv k0 a wq hw h hJ hn
      have e47 := mx_new (i := 1) (t := 47) h (hw 1 (by decide)) rfl rfl rfl; have e48 := mx_new (i := 2) (t := 48) h (hw 2 (by decide)) rfl rfl rfl
      have h1 := HWI.out
      go_simp
    refine ⟨?_, ?_⟩
    · intro done cv k0 a wq hw h hJ hn
      have e46 := mx_new (i := 0) (t := 46) h (hw 0 (by decide)) rfl rfl rfl; have e49 := mx_new (i := 3) (t := 49) h (hw 3 (by decide)) rfl rfl rfl
      have h1 := HS1.out
      go_simp
    refine ⟨?_, ?_⟩
    · intro done cv k0 a wq hw h hJ hn
      have e0 := mx_old (t := 0) (v := .slice (some ⟨g, 0, none⟩) c c) h rfl rfl
      exact mx_move (ch_ev e0)
    refine ⟨?_, ?_⟩
    · intro done cv k0 a wq hw h hJ hn
      have e1 := mx_old (t := 1) (v := .int .i64 (i : Int)) h rfl rfl
      exact mx_move (ch_ev e1)
    refine ⟨?_, ?_⟩
    · intro done cv k0 a wq hw h hJ hn
      have e51 := mx_new (i := 5) (t := 51) h (hw 5 (by decide)) rfl rfl rfl; have e52 := mx_new (i := 6) (t := 52) h (hw 6 (by decide)) rfl rfl rfl
      have h1 := HS2.out
      go_simp
    refine ⟨?_, ?_⟩
    · intro done cv a wq hw h hJ
      have e50 := mx_new (i := 4) (t := 50) h (hw 4 (by decide)) rfl rfl rfl; have e53 := mx_new (i := 7) (t := 53) h (hw 7 (by decide)) rfl rfl rfl
      obtain rfl : wq = w2.drew := hJ
      refine wp_copyN (.tmp 50) (.tmp 53) 43 43 rfl _ _ (ch_ev e50) (ch_ev e53) (HC2.out _ _ _) ⟨_, rfl, ?_⟩
      exact ⟨rfl, trivial⟩
    exact trivial
  · intro cv w3 hJ
    obtain ⟨rfl, -⟩ := hJ
    simp only [mixAll, putAll_some, putAll_none, putAll_nil, List.getElem?_cons_zero, List.getElem?_cons_succ, Nat.zero_add, Nat.reduceAdd, List.setIfInBounds_toArray, List.set_cons_zero, List.set_cons_succ]
    go_wp2_with fail
    go_ret
    exact HEND.out
theorem insChunks_calls (A : Option Addr) (n c i : Nat) (xs : List Value) (v : Nat) (ns : List Value) (tV : TypeId) (w : World) (base : Nat) (hO : Own w base 49 5 A n c xs) (hns : ns.length = 5) (hv : w.heap[v]? = some (.cells ns.toArray tV (0, 0))) (hvg : A.map (·.block) ≠ some v) (h1 : ∀ u ∈ ns, u.oneCell' = true) (h2 : ∀ u ∈ xs, u.oneCell' = true) (hb : base ≤ w.heap.size) (hn : n ≤ 1000) (hi : i ≤ n) :
    Calls Try.prog 103 #[.slice A n c, iv i, .slice (some ⟨v, 0, none⟩) 1 1] w (InsRet w base n A (xs.take (i * 5) ++ ns ++ xs.drop (i * 5))) := by
  have hsv : Src w (some ⟨v, 0, none⟩) ns := by
    intro j hj
    refine ⟨v, 0, rfl, blk_lt hv, ?_⟩
    rw [cell_of_row _ _ _ _ _ _ hv]
    simp [hj]
  have hxl := hO.len
  rcases hO.2 with ⟨hv0, h0⟩ | ⟨g, cap, cur, hv0, hbg, hgc, hncap, hmax, hcs, hxs⟩
  · injection hv0 with e1 e2 e3
    subst e1 e2 e3
    obtain rfl : i = 0 := by omega
    have hx0 : xs = [] := List.eq_nil_of_length_eq_zero (by omega)
    subst hx0
    simpa using insEnd0_calls ⟨v, 0, none⟩ 1 ns w base hns hsv h1 hb
  · injection hv0 with e1 e2 e3
    subst e1
    rcases Nat.lt_or_ge i n with hlt | hge
    · rcases Nat.lt_or_ge c (n + 1) with hc | hc
      · exact insGrow_calls g n c i xs v 1 ns tV w base hO hns hv h1 h2 hb hn hlt hc
      · exact insRoom_calls g n c i xs v 1 ns tV w base hO hns hv (fun e => hvg (by rw [e]; rfl)) h1 h2 hb hn hlt hc
    · obtain rfl : i = n := by omega
      rw [List.take_of_length_le (by omega), List.drop_eq_nil_of_le (by omega), List.append_nil]
      exact insEnd_calls g i c xs ⟨v, 0, none⟩ 1 ns w base hO hns hsv h1 hb hn
end Go.Proofs.Ytefkfglkpebbmac
