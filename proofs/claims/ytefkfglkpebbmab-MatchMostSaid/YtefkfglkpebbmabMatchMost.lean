/- The walk of the law MatchMost. Printed by gen_matchmost.py. Condition: the library's own variable holds some number. -/
import Derived.Test.YtefkfglkpebbmabLongestOf
import Derived.Test.YtefkfglkpebbmabShelfC
import Derived.Test.YtefkfglkpebbmabMatched
import Derived.Test.YtefkfglkpebbmabAux
import Derived.Test.YtefkfglkpebbmabArgs
import Derived.Test.YtefkfglkpebbmabChain
import Derived.Test.YtefkfglkpebbmabBytesEqual
namespace Go.Proofs.Ytefkfglkpebbmab
open Go.RowKit
set_option linter.unusedVariables false
set_option linter.unusedSimpArgs false

theorem mid_win {w : World} {A : Option Addr} (c : Nat) {old : List UInt8} {a n : Nat} (h : Bts w A old) (hc : old.length ≤ c) (hn : a + n ≤ old.length) : Bts w (if c = a then A else Option.map (fun x => x.add a) A) (win old a n) := by
  by_cases e : n = 0
  · subst e; unfold win; rw [List.take_zero]; exact Bts.nil _ _
  · obtain ⟨b, o, rfl, hlt, _⟩ := h 0 (by omega)
    rw [if_neg (by omega)]
    have e2 : Option.map (fun x : Addr => x.add a) (some ⟨b, o, none⟩) = some ⟨b, o + a, none⟩ := by simp [Addr.add]
    rw [e2]
    exact bts_win h a n
set_option maxRecDepth 100000 in
set_option maxHeartbeats 4000000 in
theorem MatchMost_walk (W : World) (v0 v1 v2 : Value) (old0 b0 : List UInt8) (k0 : Int) (g0 : ArgBytes W v0 old0) (g1 : ArgBytes W v1 b0) (g2 : ArgInt v2 k0) (hml : ML W) (hnil : ∀ n c, v0 = .slice none n c → c = 0) :
    Calls Try.prog 10 #[v0, v1, v2] W (RetB W (.bool true)) := by
  obtain ⟨A, c, rfl, hc, hl, hr⟩ := g0
  obtain ⟨B, d, rfl, hd, hm, hs⟩ := g1
  obtain ⟨rfl, hk1, hk2⟩ := g2
  have hnc : A = none → c = 0 := fun e => hnil _ _ (by rw [e])
  have himg := lawImage_calls A c old0 W hc hl
  have himg2 := lawImage_calls B d b0 W hd hm
  have r1 := img_bts hr
  have r2 := img_bts hs
  have l1 := img_len old0
  have l2 := img_len b0
  have c1 : (img old0).length ≤ c := by unfold img; rw [List.length_take]; omega
  have c2 : (img b0).length ≤ d := by unfold img; rw [List.length_take]; omega
  have HI := Lib.hid himg
  have HJ := Lib.hid himg2
  have HML := Lib.hid hml
  have HNC := Lib.hid hnc
  clear himg himg2 hr hs hml hnil hnc
  generalize img old0 = old at *
  generalize img b0 = b at *
  obtain ⟨k, hk⟩ : ∃ k : Nat, k0 % ((b.length : Int) + 1) = k := ⟨(k0 % ((b.length : Int) + 1)).toNat, by have := Int.emod_nonneg k0 (show (b.length : Int) + 1 ≠ 0 by omega); omega⟩
  have hkb : k ≤ b.length := by have := Int.emod_lt_of_pos k0 (show 0 < (b.length : Int) + 1 by omega); omega
  have a1 := at_calls k0 ((b.length : Int) + 1) W hk1 hk2 (by omega) (by omega)
  rw [hk] at a1
  have HA1 := Lib.hid a1
  have HR1 := Lib.hid r1
  have HR2 := Lib.hid r2
  have s1 := longest_calls A B c d old b W k l1 l2 hkb r1 r2
  have hbd := longTo_le old b k old.length (Nat.le_refl _)
  have hbd : (longest old b k).1 + (longest old b k).2 ≤ old.length ∧ k + (longest old b k).2 ≤ b.length := by unfold longest; omega
  have hlk := longest_alikeM old b k
  have hmo := fun h => index_more (old := old) (b := b) (k := k) h
  have hof := fun h => index_of (old := old) (b := b) hkb h
  have hzz := fun h => longest_zero (old := old) (b := b) (k := k) h
  generalize longest old b k = p at *
  obtain ⟨i, n⟩ := p
  dsimp only at *
  obtain ⟨hb1, hb2⟩ := hbd
  have HS1 := Lib.hid s1
  have HMO := Lib.hid hmo
  have HOF := Lib.hid hof
  have HZZ := Lib.hid hzz
  have HW1 : Hid (IntKind.i64.wrap ((i : Int) + (n : Int)) = (i : Int) + (n : Int)) := Lib.hid (IntWalk.i64_in _ (by omega))
  have HW2 : Hid (IntKind.i64.wrap ((k : Int) + (n : Int)) = (k : Int) + (n : Int)) := Lib.hid (IntWalk.i64_in _ (by omega))
  have hwl1 := win_len old i n hb1
  have hwl2 := win_len b k n hb2
  have heq : ∀ w', Below W.heap.size W w' → Calls Try.prog 18 #[.slice (if c = i then A else Option.map (fun x => x.add i) A) n (c - i), .slice (if d = k then B else Option.map (fun x => x.add k) B) n (d - k)] w' (RetB w' (.bool true)) := fun w' hb => by
    have := bytesEqual_calls (if c = i then A else Option.map (fun x => x.add i) A) (if d = k then B else Option.map (fun x => x.add k) B) (c - i) (d - k) (win old i n) (win b k n) w' (by omega) (by omega) ((mid_win c r1 c1 hb1).stays hb) ((mid_win d r2 c2 hb2).stays hb)
    rw [hwl1, hwl2, hlk, decide_eq_true rfl] at this
    exact this.mono fun _ _ h => h.to
  generalize hM1 : (if c = i then A else Option.map (fun x => x.add i) A) = M1 at heq
  generalize hM2 : (if d = k then B else Option.map (fun x => x.add k) B) = M2 at heq
  have HEQ0 := Lib.hid heq
  have HM1 := Lib.hid hM1
  have HM2 := Lib.hid hM2
  have t1 : ¬ (old.length : Int) < (i : Int) + n := by omega
  have t2 : ¬ (b.length : Int) < (k : Int) + n := by omega
  have t3 : (i : Int) + n ≤ (c : Int) := by omega
  have t4 : (i : Int) ≤ (i : Int) + n := by omega
  have t5 : (k : Int) + n ≤ (d : Int) := by omega
  have t6 : (k : Int) ≤ (k : Int) + n := by omega
  have t7 : ((i : Int) + (n : Int)).toNat = i + n := by omega
  have t8 : ((k : Int) + (n : Int)).toNat = k + n := by omega
  have t9 : i + n - i = n := by omega
  have t10 : k + n - k = n := by omega
  have t11 : (0 : Int) ≤ (i : Int) := by omega
  have t12 : (0 : Int) ≤ (k : Int) := by omega
  clear hk a1 r1 r2 s1 hlk hmo hof hzz heq hM1 hM2 hwl1 hwl2 hk1 hk2
  go_enter Try.func10, Try.ntmps10
  go_wp2_with fail
  refine HI.out.mono ?_
  rintro e w1 ⟨rfl, rfl⟩
  go_wp2_with fail
  refine HJ.out.mono ?_
  rintro e w1 ⟨rfl, rfl⟩
  go_wp2_with fail
  refine HA1.out.mono ?_
  rintro e w1 ⟨rfl, rfl⟩
  go_wp2_with fail
  refine HS1.out.mono ?_
  rintro e w1 ⟨rfl, n1, rfl⟩
  have HEQ : Hid (∀ w', Below (W.drewN n1).heap.size (W.drewN n1) w' → Calls Try.prog 18 #[.slice M1 n (c - i), .slice M2 n (d - k)] w' (RetB w' (.bool true))) := Lib.hid (fun w' hb => HEQ0.out w' ((below_drewN W n1).trans hb))
  go_wp2_with fail
  refine wp_region_chain (by kernel_rfl) (some 27 :: some 28 :: some 29 :: some 30 :: some 31 :: some 32 :: some 33 :: some 34 :: some 35 :: some 36 :: some 37 :: some 38 :: some 39 :: some 40 :: some 41 :: some 42 :: some 43 :: some 44 :: some 45 :: some 46 :: some 47 :: some 48 :: some 49 :: some 50 :: some 51 :: some 52 :: some 53 :: some 54 :: some 55 :: some 56 :: some 57 :: some 58 :: some 59 :: some 60 :: some 61 :: some 62 :: some 63 :: some 64 :: []) (.bool true :: .bool false :: .bool false :: iv 0 :: .bool false :: .bool false :: .bool false :: iv (i : Int) :: iv (n : Int) :: iv ((i : Int) + n) :: .slice A old.length c :: .int .i64 (old.length : Int) :: .bool false :: .bool false :: .bool false :: iv (k : Int) :: iv (n : Int) :: iv ((k : Int) + n) :: .slice B b.length d :: .int .i64 (b.length : Int) :: .bool false :: .bool false :: .bool false :: .slice A old.length c :: iv (i : Int) :: iv (i : Int) :: iv (n : Int) :: iv ((i : Int) + n) :: .slice M1 n (c - i) :: .slice B b.length d :: iv (k : Int) :: iv (k : Int) :: iv (n : Int) :: iv ((k : Int) + n) :: .slice M2 n (d - k) :: .bool true :: .bool false :: .bool false :: []) 100 rfl rfl (by decide +kernel) (by decide +kernel) (by decide +kernel) rfl ?_ ?_
  · refine ⟨.inl ⟨rfl, fun done a wq hw h => ?_⟩, ?_⟩
    · exact ch_call (by go_simp) (by go_simp) (matched_calls _)
    refine ⟨.inl ⟨rfl, fun done a wq hw h => ?_⟩, ?_⟩
    · have e27 := ch_new (i := 0) (t := 27) h (hw 0 (by decide)) rfl rfl; refine ch_pure ?_; go_simp
    refine ⟨.inl ⟨rfl, fun done a wq hw h => ?_⟩, ?_⟩
    · have e28 := ch_new (i := 1) (t := 28) h (hw 1 (by decide)) rfl rfl; exact ch_move (ch_ev e28)
    refine ⟨.inl ⟨rfl, fun done a wq hw h => ?_⟩, ?_⟩
    · have e9 := ch_old (t := 9) (v := iv 0) h rfl rfl; exact ch_move (ch_ev e9)
    refine ⟨.inl ⟨rfl, fun done a wq hw h => ?_⟩, ?_⟩
    · have e30 := ch_new (i := 3) (t := 30) h (hw 3 (by decide)) rfl rfl; exact ch_neq_int (by kernel_rfl) (ch_ev e30) rfl (by simp)
    refine ⟨.inl ⟨rfl, fun done a wq hw h => ?_⟩, ?_⟩
    · have e29 := ch_new (i := 2) (t := 29) h (hw 2 (by decide)) rfl rfl; have e31 := ch_new (i := 4) (t := 31) h (hw 4 (by decide)) rfl rfl; exact ch_pick_f e29 (ch_ev e31)
    refine ⟨.inl ⟨rfl, fun done a wq hw h => ?_⟩, ?_⟩
    · have e32 := ch_new (i := 5) (t := 32) h (hw 5 (by decide)) rfl rfl; exact ch_move (ch_ev e32)
    refine ⟨.inl ⟨rfl, fun done a wq hw h => ?_⟩, ?_⟩
    · have e7 := ch_old (t := 7) (v := iv (i : Int)) h rfl rfl; exact ch_move (ch_ev e7)
    refine ⟨.inl ⟨rfl, fun done a wq hw h => ?_⟩, ?_⟩
    · have e8 := ch_old (t := 8) (v := iv (n : Int)) h rfl rfl; exact ch_move (ch_ev e8)
    refine ⟨.inl ⟨rfl, fun done a wq hw h => ?_⟩, ?_⟩
    · have e34 := ch_new (i := 7) (t := 34) h (hw 7 (by decide)) rfl rfl; have e35 := ch_new (i := 8) (t := 35) h (hw 8 (by decide)) rfl rfl; have hw := HW1.out; refine ch_pure ?_; go_simp
    refine ⟨.inl ⟨rfl, fun done a wq hw h => ?_⟩, ?_⟩
    · have e0 := ch_old (t := 0) (v := .slice A old.length c) h rfl rfl; exact ch_move (ch_ev e0)
    refine ⟨.inl ⟨rfl, fun done a wq hw h => ?_⟩, ?_⟩
    · have e37 := ch_new (i := 10) (t := 37) h (hw 10 (by decide)) rfl rfl; refine ch_pure ?_; go_simp
    refine ⟨.inl ⟨rfl, fun done a wq hw h => ?_⟩, ?_⟩
    · have e36 := ch_new (i := 9) (t := 36) h (hw 9 (by decide)) rfl rfl; have e38 := ch_new (i := 11) (t := 38) h (hw 11 (by decide)) rfl rfl; refine ch_pure ?_; go_simp
    refine ⟨.inl ⟨rfl, fun done a wq hw h => ?_⟩, ?_⟩
    · have e33 := ch_new (i := 6) (t := 33) h (hw 6 (by decide)) rfl rfl; have e39 := ch_new (i := 12) (t := 39) h (hw 12 (by decide)) rfl rfl; exact ch_pick_f e33 (ch_ev e39)
    refine ⟨.inl ⟨rfl, fun done a wq hw h => ?_⟩, ?_⟩
    · have e40 := ch_new (i := 13) (t := 40) h (hw 13 (by decide)) rfl rfl; exact ch_move (ch_ev e40)
    refine ⟨.inl ⟨rfl, fun done a wq hw h => ?_⟩, ?_⟩
    · have e2 := ch_old (t := 2) (v := iv (k : Int)) h rfl rfl; exact ch_move (ch_ev e2)
    refine ⟨.inl ⟨rfl, fun done a wq hw h => ?_⟩, ?_⟩
    · have e8 := ch_old (t := 8) (v := iv (n : Int)) h rfl rfl; exact ch_move (ch_ev e8)
    refine ⟨.inl ⟨rfl, fun done a wq hw h => ?_⟩, ?_⟩
    · have e42 := ch_new (i := 15) (t := 42) h (hw 15 (by decide)) rfl rfl; have e43 := ch_new (i := 16) (t := 43) h (hw 16 (by decide)) rfl rfl; have hw := HW2.out; refine ch_pure ?_; go_simp
    refine ⟨.inl ⟨rfl, fun done a wq hw h => ?_⟩, ?_⟩
    · have e1 := ch_old (t := 1) (v := .slice B b.length d) h rfl rfl; exact ch_move (ch_ev e1)
    refine ⟨.inl ⟨rfl, fun done a wq hw h => ?_⟩, ?_⟩
    · have e45 := ch_new (i := 18) (t := 45) h (hw 18 (by decide)) rfl rfl; refine ch_pure ?_; go_simp
    refine ⟨.inl ⟨rfl, fun done a wq hw h => ?_⟩, ?_⟩
    · have e44 := ch_new (i := 17) (t := 44) h (hw 17 (by decide)) rfl rfl; have e46 := ch_new (i := 19) (t := 46) h (hw 19 (by decide)) rfl rfl; refine ch_pure ?_; go_simp
    refine ⟨.inl ⟨rfl, fun done a wq hw h => ?_⟩, ?_⟩
    · have e41 := ch_new (i := 14) (t := 41) h (hw 14 (by decide)) rfl rfl; have e47 := ch_new (i := 20) (t := 47) h (hw 20 (by decide)) rfl rfl; exact ch_pick_f e41 (ch_ev e47)
    refine ⟨.inl ⟨rfl, fun done a wq hw h => ?_⟩, ?_⟩
    · have e48 := ch_new (i := 21) (t := 48) h (hw 21 (by decide)) rfl rfl; exact ch_move (ch_ev e48)
    refine ⟨.inl ⟨rfl, fun done a wq hw h => ?_⟩, ?_⟩
    · have e0 := ch_old (t := 0) (v := .slice A old.length c) h rfl rfl; exact ch_move (ch_ev e0)
    refine ⟨.inl ⟨rfl, fun done a wq hw h => ?_⟩, ?_⟩
    · have e7 := ch_old (t := 7) (v := iv (i : Int)) h rfl rfl; exact ch_move (ch_ev e7)
    refine ⟨.inl ⟨rfl, fun done a wq hw h => ?_⟩, ?_⟩
    · have e7 := ch_old (t := 7) (v := iv (i : Int)) h rfl rfl; exact ch_move (ch_ev e7)
    refine ⟨.inl ⟨rfl, fun done a wq hw h => ?_⟩, ?_⟩
    · have e8 := ch_old (t := 8) (v := iv (n : Int)) h rfl rfl; exact ch_move (ch_ev e8)
    refine ⟨.inl ⟨rfl, fun done a wq hw h => ?_⟩, ?_⟩
    · have e52 := ch_new (i := 25) (t := 52) h (hw 25 (by decide)) rfl rfl; have e53 := ch_new (i := 26) (t := 53) h (hw 26 (by decide)) rfl rfl; have hw := HW1.out; refine ch_pure ?_; go_simp
    refine ⟨.inl ⟨rfl, fun done a wq hw h => ?_⟩, ?_⟩
    · have e50 := ch_new (i := 23) (t := 50) h (hw 23 (by decide)) rfl rfl; have e51 := ch_new (i := 24) (t := 51) h (hw 24 (by decide)) rfl rfl; have e54 := ch_new (i := 27) (t := 54) h (hw 27 (by decide)) rfl rfl; have hs := HM1.out; refine ch_pure ?_; go_simp
    refine ⟨.inl ⟨rfl, fun done a wq hw h => ?_⟩, ?_⟩
    · have e1 := ch_old (t := 1) (v := .slice B b.length d) h rfl rfl; exact ch_move (ch_ev e1)
    refine ⟨.inl ⟨rfl, fun done a wq hw h => ?_⟩, ?_⟩
    · have e2 := ch_old (t := 2) (v := iv (k : Int)) h rfl rfl; exact ch_move (ch_ev e2)
    refine ⟨.inl ⟨rfl, fun done a wq hw h => ?_⟩, ?_⟩
    · have e2 := ch_old (t := 2) (v := iv (k : Int)) h rfl rfl; exact ch_move (ch_ev e2)
    refine ⟨.inl ⟨rfl, fun done a wq hw h => ?_⟩, ?_⟩
    · have e8 := ch_old (t := 8) (v := iv (n : Int)) h rfl rfl; exact ch_move (ch_ev e8)
    refine ⟨.inl ⟨rfl, fun done a wq hw h => ?_⟩, ?_⟩
    · have e58 := ch_new (i := 31) (t := 58) h (hw 31 (by decide)) rfl rfl; have e59 := ch_new (i := 32) (t := 59) h (hw 32 (by decide)) rfl rfl; have hw := HW2.out; refine ch_pure ?_; go_simp
    refine ⟨.inl ⟨rfl, fun done a wq hw h => ?_⟩, ?_⟩
    · have e56 := ch_new (i := 29) (t := 56) h (hw 29 (by decide)) rfl rfl; have e57 := ch_new (i := 30) (t := 57) h (hw 30 (by decide)) rfl rfl; have e60 := ch_new (i := 33) (t := 60) h (hw 33 (by decide)) rfl rfl; have hs := HM2.out; refine ch_pure ?_; go_simp
    refine ⟨.inl ⟨rfl, fun done a wq hw h => ?_⟩, ?_⟩
    · have e55 := ch_new (i := 28) (t := 55) h (hw 28 (by decide)) rfl rfl; have e61 := ch_new (i := 34) (t := 61) h (hw 34 (by decide)) rfl rfl; exact ch_call (by go_simp) (by go_simp) (HEQ.out _ ((Below.refl _ _).drew.trans h.bel))
    refine ⟨.inl ⟨rfl, fun done a wq hw h => ?_⟩, ?_⟩
    · have e62 := ch_new (i := 35) (t := 62) h (hw 35 (by decide)) rfl rfl; refine ch_pure ?_; go_simp
    refine ⟨.inl ⟨rfl, fun done a wq hw h => ?_⟩, ?_⟩
    · have e49 := ch_new (i := 22) (t := 49) h (hw 22 (by decide)) rfl rfl; have e63 := ch_new (i := 36) (t := 63) h (hw 36 (by decide)) rfl rfl; exact ch_pick_f e49 (ch_ev e63)
    exact trivial
  · intro w2 hb2'
    have HB2 : Hid (Below W.heap.size W w2) := Lib.hid ((below_drewN W n1).trans hb2')
    clear hb2'
    simp only [putAll_some, putAll_none, putAll_nil, List.setIfInBounds_toArray, List.set_cons_zero, List.set_cons_succ]
    have R1 := Lib.hid (HR1.out.stays HB2.out)
    have R2 := Lib.hid (HR2.out.stays HB2.out)
    have M := Lib.hid (HML.out.stays HB2.out)
    clear HR1 HR2 HI HJ HA1 HS1 HEQ HEQ0 HM1 HM2
    by_cases hkn : k + n < b.length
    · have q1 : (k : Int) + n < (b.length : Int) := by omega
      obtain ⟨bb, bo, rfl, _⟩ := R2.out 0 (by omega)
      have hck : ¬ d = k := by omega
      have hwl := win_len b k (n + 1) (by omega)
      have hidx := HMO.out (by omega)
      have u1 : (k : Int) + n + 1 ≤ (d : Int) := by omega
      have u2 : (k : Int) ≤ (k : Int) + n + 1 := by omega
      have u3 : k + n + 1 - k = n + 1 := by omega
      have hcf : Lib.contains old (win b k (n + 1)) = false := by unfold Lib.contains; rw [hidx]; rfl
      have hbw := bts_win R2.out k (n + 1)
      have hcont : ∃ q, Calls Try.prog 34 #[.slice A old.length c, .slice (some ⟨bb, bo + k, none⟩) (n + 1) (d - k)] w2 (fun e w' => e = .returned (.bool false) ∧ w' = w2.drewN q) ∨ True := ⟨0, .inr trivial⟩
      have hcn : Calls Try.prog 34 #[.slice A old.length c, .slice (some ⟨bb, bo + k, none⟩) (n + 1) (d - k)] w2 (RetN w2 (.bool false)) := by
        rcases A with _ | aa
        · have e0 := bts_none R1.out
          have ec := HNC.out rfl
          subst e0 ec
          have := containsNil_calls ⟨bb, bo + k, none⟩ (d - k) (win b k (n + 1)) w2 (by omega) (by omega) hbw
          rw [hwl] at this
          exact this.mono fun _ _ h => ⟨h.1, 0, h.2⟩
        · have := contains_calls aa ⟨bb, bo + k, none⟩ c (d - k) old (win b k (n + 1)) w2 M.out c1 (by omega) (by omega) R1.out hbw
          rw [hwl, hcf] at this
          exact this
      have HCN := Lib.hid hcn
      clear hcn hcont hidx hcf hbw hwl
      go_wp2_with fail
      refine HCN.out.mono ?_
      rintro e w3 ⟨rfl, n3, rfl⟩
      by_cases hn0 : n = 0
      · have hz := HZZ.out (by omega)
        injection hz with hz1 hz2
        subst hz1 hn0
        clear hz2
        go_wp2_with fail
        go_ret
        exact ⟨rfl, Below.drewN' HB2.out _⟩
      · have hn1 : ((n : Int) == 0) = false := by simp; omega
        have hA0 : A ≠ none := fun e => by
          obtain ⟨aa, ao, e2, _⟩ := R1.out 0 (by omega)
          rw [e] at e2; cases e2
        obtain ⟨aa, rfl⟩ := Option.ne_none_iff_exists'.1 hA0
        have hwl := win_len b k n hb2
        have hck : ¬ d = k := by omega
        have hx := HOF.out (by omega)
        have hix := index_calls aa ⟨bb, bo + k, none⟩ c (d - k) old (win b k n) (w2.drewN n3) (M.out.drewN n3) c1 (by omega) (by omega) (R1.out.drewN n3) (bts_win (R2.out.drewN n3) k n)
        rw [hwl, hx] at hix
        have HIX := Lib.hid hix
        clear hix hx hA0 hwl
        go_wp2_with fail
        refine HIX.out.mono ?_
        rintro e w4 ⟨rfl, n4, rfl⟩
        go_wp2_with fail
        go_ret
        exact ⟨rfl, Below.drewN' HB2.out _⟩
    · have q1 : ¬ (k : Int) + n < (b.length : Int) := by omega
      by_cases hn0 : n = 0
      · have hz := HZZ.out (by omega)
        injection hz with hz1 hz2
        subst hz1 hn0
        clear hz2
        go_wp2_with fail
        go_ret
        exact ⟨rfl, HB2.out⟩
      · have hn1 : ((n : Int) == 0) = false := by simp; omega
        have hA0 : A ≠ none := fun e => by
          obtain ⟨aa, ao, e2, _⟩ := R1.out 0 (by omega)
          rw [e] at e2; cases e2
        obtain ⟨aa, rfl⟩ := Option.ne_none_iff_exists'.1 hA0
        obtain ⟨bb, bo, rfl, _⟩ := R2.out 0 (by omega)
        have hwl := win_len b k n hb2
        have hck : ¬ d = k := by omega
        have hx := HOF.out (by omega)
        have hix := index_calls aa ⟨bb, bo + k, none⟩ c (d - k) old (win b k n) w2 M.out c1 (by omega) (by omega) R1.out (bts_win R2.out k n)
        rw [hwl, hx] at hix
        have HIX := Lib.hid hix
        clear hix hx hA0 hwl
        go_wp2_with fail
        refine HIX.out.mono ?_
        rintro e w4 ⟨rfl, n4, rfl⟩
        go_wp2_with fail
        go_ret
        exact ⟨rfl, Below.drewN' HB2.out _⟩
end Go.Proofs.Ytefkfglkpebbmab
