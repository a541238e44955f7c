/- Walks of functions, and plain words. No conditions. -/
import Derived.Test.YtefkfglkpebbmadGreatP3
set_option linter.unusedVariables false
set_option linter.unusedSimpArgs false
set_option maxRecDepth 100000
set_option maxHeartbeats 40000000
namespace Go.Proofs.YtefkfglkpebbmadGreat
open Go.RowKit
theorem devBusy_form {d : Dev} {r : Rec} (h : r.trying = true ∨ d.job.to_ < r.floor ∨ d.job.from_ ≠ (r.at_ r.active).ver ∨ (r.at_ (1 - r.active)).ver ≠ 0) : devBusyCheck d r = 3 := by unfold devBusyCheck; rw [if_pos h]
theorem at_0 (r : Rec) : r.at_ 0 = r.a := by simp [Rec.at_]
theorem at_1 (r : Rec) : r.at_ 1 = r.b := by simp [Rec.at_]
theorem devCheck_busyOther0_ : (∀ (d : Dev) (L : DLoc) (w : World) (h : DevIn w d L) (h0 : d.s0.length = 64) (h1 : d.s1.length = 64) (hc : copCheck d.c0 d.c1 = 0) (hu : d.up = true) (hx : d.running = (recRead d.c0 d.c1).1.active) (hg : chkList d.got = 0) (hbz : d.busy = true) (hk : (recRead d.c0 d.c1).1.active = 0) (ht : (recRead d.c0 d.c1).1.trying = false) (ha : ¬ d.job.to_ < (recRead d.c0 d.c1).1.floor ∧ d.job.from_ = (recRead d.c0 d.c1).1.a.ver ∧ (recRead d.c0 d.c1).1.b.ver ≠ 0), Calls Tryz.prog 36 #[.agg (devA d L)] w (RetB w (iv (devCheck d)))) ∧ (∀ (d : Dev) (L : DLoc) (w : World) (h : DevIn w d L) (h0 : d.s0.length = 64) (h1 : d.s1.length = 64) (hc : copCheck d.c0 d.c1 = 0) (hu : d.up = true) (hx : d.running = (recRead d.c0 d.c1).1.active) (hg : chkList d.got = 0) (hbz : d.busy = true) (hk : (recRead d.c0 d.c1).1.active = 1) (ht : (recRead d.c0 d.c1).1.trying = false) (ha : ¬ d.job.to_ < (recRead d.c0 d.c1).1.floor ∧ d.job.from_ = (recRead d.c0 d.c1).1.b.ver ∧ (recRead d.c0 d.c1).1.a.ver ≠ 0), Calls Tryz.prog 36 #[.agg (devA d L)] w (RetB w (iv (devCheck d)))) ∧ (∀ (d : Dev) (L : DLoc) (w : World) (h : DevIn w d L) (h0 : d.s0.length = 64) (h1 : d.s1.length = 64) (hc : copCheck d.c0 d.c1 = 0) (hu : d.up = true) (hx : d.running = (recRead d.c0 d.c1).1.active) (hg : chkList d.got = 0) (hbz : d.busy = true) (hk : (recRead d.c0 d.c1).1.active = 0) (ht : (recRead d.c0 d.c1).1.trying = false) (ha : ¬ d.job.to_ < (recRead d.c0 d.c1).1.floor ∧ d.job.from_ ≠ (recRead d.c0 d.c1).1.a.ver), Calls Tryz.prog 36 #[.agg (devA d L)] w (RetB w (iv (devCheck d)))) ∧ (∀ (d : Dev) (L : DLoc) (w : World) (h : DevIn w d L) (h0 : d.s0.length = 64) (h1 : d.s1.length = 64) (hc : copCheck d.c0 d.c1 = 0) (hu : d.up = true) (hx : d.running = (recRead d.c0 d.c1).1.active) (hg : chkList d.got = 0) (hbz : d.busy = true) (hk : (recRead d.c0 d.c1).1.active = 1) (ht : (recRead d.c0 d.c1).1.trying = false) (ha : ¬ d.job.to_ < (recRead d.c0 d.c1).1.floor ∧ d.job.from_ ≠ (recRead d.c0 d.c1).1.b.ver), Calls Tryz.prog 36 #[.agg (devA d L)] w (RetB w (iv (devCheck d)))) ∧ (∀ (d : Dev) (L : DLoc) (w : World) (h : DevIn w d L) (h0 : d.s0.length = 64) (h1 : d.s1.length = 64) (hc : copCheck d.c0 d.c1 = 0) (hu : d.up = true) (hx : d.running = (recRead d.c0 d.c1).1.active) (hg : chkList d.got = 0) (hbz : d.busy = true) (hk : (recRead d.c0 d.c1).1.active = 0) (ht : (recRead d.c0 d.c1).1.trying = false) (ha : d.job.to_ < (recRead d.c0 d.c1).1.floor), Calls Tryz.prog 36 #[.agg (devA d L)] w (RetB w (iv (devCheck d)))) ∧ (∀ (d : Dev) (L : DLoc) (w : World) (h : DevIn w d L) (h0 : d.s0.length = 64) (h1 : d.s1.length = 64) (hc : copCheck d.c0 d.c1 = 0) (hu : d.up = true) (hx : d.running = (recRead d.c0 d.c1).1.active) (hg : chkList d.got = 0) (hbz : d.busy = true) (hk : (recRead d.c0 d.c1).1.active = 1) (ht : (recRead d.c0 d.c1).1.trying = false) (ha : d.job.to_ < (recRead d.c0 d.c1).1.floor), Calls Tryz.prog 36 #[.agg (devA d L)] w (RetB w (iv (devCheck d)))) ∧ (∀ (d : Dev) (L : DLoc) (w : World) (h : DevIn w d L) (h0 : d.s0.length = 64) (h1 : d.s1.length = 64) (hc : copCheck d.c0 d.c1 = 0) (hu : d.up = true) (hx : d.running = (recRead d.c0 d.c1).1.active) (hg : chkList d.got = 0) (hbz : d.busy = true) (ht : (recRead d.c0 d.c1).1.trying = true), Calls Tryz.prog 36 #[.agg (devA d L)] w (RetB w (iv (devCheck d)))) ∧ (∀ (d : Dev) (L : DLoc) (w : World) (h : DevIn w d L) (h0 : d.s0.length = 64) (h1 : d.s1.length = 64) (hc : copCheck d.c0 d.c1 = 0) (hu : d.up = true) (hx : d.running ≠ (recRead d.c0 d.c1).1.active) (ht : (recRead d.c0 d.c1).1.trying = true) (hv : d.running = 0 ∨ d.running = 1) (hg : chkList d.got = 0) (hbz : d.busy = true), Calls Tryz.prog 36 #[.agg (devA d L)] w (RetB w (iv (devCheck d)))) := by
 refine ⟨?_, ?_, ?_, ?_, ?_, ?_, ?_, ?_⟩
 case' refine_1 => have U01 : Hid True := hD trivial; have U02 : Hid True := hD trivial; have U03 : Hid True := hD trivial; have U04 : Hid True := hD trivial; have U05 : Hid True := hD trivial; have U06 : Hid True := hD trivial; have U07 : Hid True := hD trivial; intro d L w h h0 h1 hc hu hx hg hbz hk ht ha
 case' refine_2 => have U02 : Hid True := hD trivial; have U03 : Hid True := hD trivial; have U04 : Hid True := hD trivial; have U05 : Hid True := hD trivial; have U06 : Hid True := hD trivial; have U07 : Hid True := hD trivial; intro d L w h h0 h1 hc hu hx hg hbz hk ht ha
 case' refine_3 => have U03 : Hid True := hD trivial; have U04 : Hid True := hD trivial; have U05 : Hid True := hD trivial; have U06 : Hid True := hD trivial; have U07 : Hid True := hD trivial; intro d L w h h0 h1 hc hu hx hg hbz hk ht ha
 case' refine_4 => have U04 : Hid True := hD trivial; have U05 : Hid True := hD trivial; have U06 : Hid True := hD trivial; have U07 : Hid True := hD trivial; intro d L w h h0 h1 hc hu hx hg hbz hk ht ha
 case' refine_5 => have U05 : Hid True := hD trivial; have U06 : Hid True := hD trivial; have U07 : Hid True := hD trivial; intro d L w h h0 h1 hc hu hx hg hbz hk ht ha
 case' refine_6 => have U06 : Hid True := hD trivial; have U07 : Hid True := hD trivial; intro d L w h h0 h1 hc hu hx hg hbz hk ht ha
 case' refine_7 => have U07 : Hid True := hD trivial; intro d L w h h0 h1 hc hu hx hg hbz ht
 case' refine_8 => intro d L w h h0 h1 hc hu hx ht hv hg hbz
 all_goals
  have E := hD (devCheck_is_up h0 h1 hc hu)
  obtain ⟨n, hn⟩ : ∃ n, devCheck d = n := ⟨_, rfl⟩
  rw [hn] at E
  rw [hn]
  have HIN := hD h
  clear hn h
  have l0 : ((d.s0.length : Int) != 64) = false := by simp; omega
  have l1 : ((d.s1.length : Int) != 64) = false := by simp; omega
  have i0 : ∀ w, (Instr.index 24 (.agg (slotsA L.a0 d.s0.length L.c0 L.a1 d.s1.length L.c1)) (.int .i64 0)).run Tryz.prog w = .ok (.slice L.a0 d.s0.length L.c0) w := fun _ => by kernel_rfl
  have i1 : ∀ w, (Instr.index 24 (.agg (slotsA L.a0 d.s0.length L.c0 L.a1 d.s1.length L.c1)) (.int .i64 1)).run Tryz.prog w = .ok (.slice L.a1 d.s1.length L.c1) w := fun _ => by kernel_rfl
  have HBA := hD ((Below.refl w.heap.size w).alloc (Nat.le_refl _) (.cells (devA d L) 38))
  have KR := hD (fun w => read_ok d.c0 d.c1 w hc)
  obtain ⟨r, hr⟩ : ∃ r, (recRead d.c0 d.c1).1 = r := ⟨_, rfl⟩
  obtain ⟨rk, hrk⟩ : ∃ rk, (recRead d.c0 d.c1).2 = rk := ⟨_, rfl⟩
  rw [hr, hrk] at KR
  first
   |
    revert U07; intro U07
    first
     |
      revert U06; intro U06
      rw [hr] at E hx hk ht ha
     | rw [hr] at E hx ht
   | rw [hr] at E hx ht
  have hrec := recRead_ok hc
  rw [hr] at hrec
  have hact := rec_active hrec
  clear hr
  first
   |
    revert U07; intro U07
    have hng : ¬ (d.running < 0 ∨ 1 < d.running ∨ (d.running ≠ r.active ∧ r.trying = false)) := fun a => a.elim (fun a => by omega) (fun a => a.elim (fun a => by omega) (fun a => a.1 hx))
   | have hng : ¬ (d.running < 0 ∨ 1 < d.running ∨ (d.running ≠ r.active ∧ r.trying = false)) := fun a => a.elim (fun a => by omega) (fun a => a.elim (fun a => by omega) (fun a => by rw [ht] at a; exact absurd a.2 (by decide)))
  have z1 : ¬ d.running < 0 := by omega
  have z2 : ¬ (1 : Int) < d.running := by omega
  first
   |
    revert U07; intro U07
    have q3 : (d.running != r.active) = false := by simp [hx]
   | have q3 : (d.running != r.active) = true := by simp [hx]
  have HE2 : Hid (n = devBusyCheck d r) := hD (E.out.trans (devUp_busy hng hg hbz))
  have HT := hD ht
  first
   |
    revert U07; intro U07
    first
     |
      revert U06; intro U06
      have HK := hD hk
      have HA := hD ha
      first
       |
        revert U05; intro U05
        first
         |
          revert U04; intro U04
          first
           |
            revert U03; intro U03
            first
             |
              revert U02; intro U02
              first
               |
                revert U01; intro U01
                have hz : Hid (n = 3) := hD (HE2.out.trans (devBusy_form (.inr (.inr (.inr (by rw [HK.out, show (1 : Int) - 0 = 1 by omega, at_1]; exact ha.2.2))))))
               | have hz : Hid (n = 3) := hD (HE2.out.trans (devBusy_form (.inr (.inr (.inr (by rw [HK.out, show (1 : Int) - 1 = 0 by omega, at_0]; exact ha.2.2))))))
             | have hz : Hid (n = 3) := hD (HE2.out.trans (devBusy_form (.inr (.inr (.inl (by rw [HK.out, at_0]; exact ha.2))))))
           | have hz : Hid (n = 3) := hD (HE2.out.trans (devBusy_form (.inr (.inr (.inl (by rw [HK.out, at_1]; exact ha.2))))))
         | have hz : Hid (n = 3) := hD (HE2.out.trans (devBusy_form (.inr (.inl ha))))
       | have hz : Hid (n = 3) := hD (HE2.out.trans (devBusy_form (.inr (.inl ha))))
      clear ha ht hk
     | have hz : Hid (n = 3) := hD (HE2.out.trans (devBusy_form (.inl ht)))
   | have hz : Hid (n = 3) := hD (HE2.out.trans (devBusy_form (.inl ht)))
  first
   |
    revert U07; intro U07
    clear hx hact hng
   | clear hx hact hng hv
  have HLG := hD HIN.out.lg
  have HG := hD hg
  clear hg E
  clear h0 h1 hc hrk
  go_enter Tryz.func36, Tryz.ntmps36
  go_wp2_with fail
  go_loopw [12] (fun i wr => ∃ k : Nat, k ≤ 2 ∧ i = .int .i64 k ∧ wr = w.alloc (.cells (devA d L) 38)) (fun i _ => (2 - intOf i).toNat)
  case atStart => exact ⟨0, by omega, rfl, rfl⟩
  case round =>
   obtain ⟨k, hk, rfl, rfl⟩ := hrel
   by_cases hlt : k < 2
   ·rcases (show k = 0 ∨ k = 1 by omega) with rfl | rfl
    ·go_wp2_with fail
     go_roundw
     case rel => exact ⟨1, by omega, rfl, by first | rfl | trivial⟩
     case measure => simp [intOf] <;> omega
    ·go_wp2_with fail
     go_roundw
     case rel => exact ⟨2, by omega, rfl, by first | rfl | trivial⟩
     case measure => simp [intOf] <;> omega
   ·obtain rfl : k = 2 := by omega
    clear hk hlt i0 i1 l0 l1
    go_wp2_with fail
    refine (KR.out _).mono ?_
    rintro e w1 ⟨rfl, hb1⟩
    obtain ⟨a0r, a0f, a0n, a0c, a0z, a0l⟩ := kp (w.heap.size) (devA d L) hb1
    have HB1 := hD (HBA.out.trans (hb1.mono (by simp)))
    clear hb1
    go_wp2_with fail
    have hbx := HB1.out.alloc HB1.out.size (.cells (recA r) 29)
    refine (chkList_calls L.ag L.cg d.got _ HLG.out (HIN.out.got.stays hbx)).mono ?_
    rintro e w2 ⟨rfl, hb2⟩
    rw [HG.out]
    obtain ⟨a0r, a0f, a0n, a0c, a0z, a0l⟩ := kp (w.heap.size) (devA d L) hb2
    obtain ⟨a1r, a1f, a1n, a1c, a1z, a1l⟩ := kp (w1.heap.size) (recA r) hb2
    have HB2 := hD (hbx.trans (hb2.mono (by simp; have := HB1.out.size; omega)))
    clear hb2 hbx
    go_wp2_with fail
    have RD : Hid (rowOf w2.drew w.heap.size = devA d L) := hD (by rw [rowOf_drew]; exact a0r)
    have FD : Hid (frOf w2.drew w.heap.size = (0, 0)) := hD (by rw [frOf_drew]; exact a0f)
    have RR : Hid (rowOf w2.drew w1.heap.size = recA r) := hD (by rw [rowOf_drew]; exact a1r)
    have FR : Hid (frOf w2.drew w1.heap.size = (0, 0)) := hD (by rw [frOf_drew]; exact a1f)
    first
     |
      revert U07; intro U07
      first
       |
        revert U06; intro U06
        first
         |
          revert U05; intro U05
          first
           |
            revert U04; intro U04
            first
             |
              revert U03; intro U03
              first
               |
                revert U02; intro U02
                first
                 |
                  revert U01; intro U01
                  refine wp_region_chain (by kernel_rfl) (some 96 :: some 97 :: some 98 :: some 99 :: some 100 :: some 101 :: some 102 :: some 103 :: some 104 :: some 105 :: some 106 :: some 107 :: some 108 :: some 109 :: some 110 :: some 111 :: some 112 :: some 113 :: some 114 :: some 115 :: some 116 :: some 117 :: some 118 :: some 119 :: some 120 :: some 121 :: some 122 :: some 123 :: some 124 :: some 125 :: some 126 :: some 127 :: []) (.pointer (some ⟨w1.heap.size, 2, none⟩) :: .bool false :: .bool false :: .pointer (some ⟨w.heap.size, 30, none⟩) :: .pointer (some ⟨w.heap.size, 31, none⟩) :: iv d.job.to_ :: .pointer (some ⟨w1.heap.size, 4, none⟩) :: iv r.floor :: .bool false :: .bool false :: .bool false :: .pointer (some ⟨w.heap.size, 30, none⟩) :: .pointer (some ⟨w.heap.size, 30, none⟩) :: iv d.job.from_ :: .pointer (some ⟨w1.heap.size, 1, none⟩) :: iv 0 :: .pointer (some ⟨w1.heap.size, 5, none⟩) :: .pointer (some ⟨w1.heap.size, 5, none⟩) :: .pointer (some ⟨w1.heap.size, 5, none⟩) :: iv r.a.ver :: .bool false :: .bool false :: .bool false :: .pointer (some ⟨w1.heap.size, 1, none⟩) :: iv 0 :: iv 1 :: .pointer (some ⟨w1.heap.size, 5, none⟩) :: .pointer (some ⟨w1.heap.size, 8, none⟩) :: .pointer (some ⟨w1.heap.size, 8, none⟩) :: iv r.b.ver :: .bool true :: .bool true :: []) 185 rfl rfl (by decide +kernel) (by decide +kernel) (by decide +kernel) rfl ?_ ?_
                 | refine wp_region_chain (by kernel_rfl) (some 96 :: some 97 :: some 98 :: some 99 :: some 100 :: some 101 :: some 102 :: some 103 :: some 104 :: some 105 :: some 106 :: some 107 :: some 108 :: some 109 :: some 110 :: some 111 :: some 112 :: some 113 :: some 114 :: some 115 :: some 116 :: some 117 :: some 118 :: some 119 :: some 120 :: some 121 :: some 122 :: some 123 :: some 124 :: some 125 :: some 126 :: some 127 :: []) (.pointer (some ⟨w1.heap.size, 2, none⟩) :: .bool false :: .bool false :: .pointer (some ⟨w.heap.size, 30, none⟩) :: .pointer (some ⟨w.heap.size, 31, none⟩) :: iv d.job.to_ :: .pointer (some ⟨w1.heap.size, 4, none⟩) :: iv r.floor :: .bool false :: .bool false :: .bool false :: .pointer (some ⟨w.heap.size, 30, none⟩) :: .pointer (some ⟨w.heap.size, 30, none⟩) :: iv d.job.from_ :: .pointer (some ⟨w1.heap.size, 1, none⟩) :: iv 1 :: .pointer (some ⟨w1.heap.size, 5, none⟩) :: .pointer (some ⟨w1.heap.size, 8, none⟩) :: .pointer (some ⟨w1.heap.size, 8, none⟩) :: iv r.b.ver :: .bool false :: .bool false :: .bool false :: .pointer (some ⟨w1.heap.size, 1, none⟩) :: iv 1 :: iv 0 :: .pointer (some ⟨w1.heap.size, 5, none⟩) :: .pointer (some ⟨w1.heap.size, 5, none⟩) :: .pointer (some ⟨w1.heap.size, 5, none⟩) :: iv r.a.ver :: .bool true :: .bool true :: []) 185 rfl rfl (by decide +kernel) (by decide +kernel) (by decide +kernel) rfl ?_ ?_
               | refine wp_region_chain (by kernel_rfl) (some 96 :: some 97 :: some 98 :: some 99 :: some 100 :: some 101 :: some 102 :: some 103 :: some 104 :: some 105 :: some 106 :: some 107 :: some 108 :: some 109 :: some 110 :: some 111 :: some 112 :: some 113 :: some 114 :: some 115 :: some 116 :: some 117 :: some 118 :: some 119 :: some 120 :: some 121 :: some 122 :: some 123 :: some 124 :: some 125 :: some 126 :: some 127 :: []) (.pointer (some ⟨w1.heap.size, 2, none⟩) :: .bool false :: .bool false :: .pointer (some ⟨w.heap.size, 30, none⟩) :: .pointer (some ⟨w.heap.size, 31, none⟩) :: iv d.job.to_ :: .pointer (some ⟨w1.heap.size, 4, none⟩) :: iv r.floor :: .bool false :: .bool false :: .bool false :: .pointer (some ⟨w.heap.size, 30, none⟩) :: .pointer (some ⟨w.heap.size, 30, none⟩) :: iv d.job.from_ :: .pointer (some ⟨w1.heap.size, 1, none⟩) :: iv 0 :: .pointer (some ⟨w1.heap.size, 5, none⟩) :: .pointer (some ⟨w1.heap.size, 5, none⟩) :: .pointer (some ⟨w1.heap.size, 5, none⟩) :: iv r.a.ver :: .bool true :: .bool true :: .bool true :: undef :: undef :: undef :: undef :: undef :: undef :: undef :: undef :: .bool true :: []) 185 rfl rfl (by decide +kernel) (by decide +kernel) (by decide +kernel) rfl ?_ ?_
             | refine wp_region_chain (by kernel_rfl) (some 96 :: some 97 :: some 98 :: some 99 :: some 100 :: some 101 :: some 102 :: some 103 :: some 104 :: some 105 :: some 106 :: some 107 :: some 108 :: some 109 :: some 110 :: some 111 :: some 112 :: some 113 :: some 114 :: some 115 :: some 116 :: some 117 :: some 118 :: some 119 :: some 120 :: some 121 :: some 122 :: some 123 :: some 124 :: some 125 :: some 126 :: some 127 :: []) (.pointer (some ⟨w1.heap.size, 2, none⟩) :: .bool false :: .bool false :: .pointer (some ⟨w.heap.size, 30, none⟩) :: .pointer (some ⟨w.heap.size, 31, none⟩) :: iv d.job.to_ :: .pointer (some ⟨w1.heap.size, 4, none⟩) :: iv r.floor :: .bool false :: .bool false :: .bool false :: .pointer (some ⟨w.heap.size, 30, none⟩) :: .pointer (some ⟨w.heap.size, 30, none⟩) :: iv d.job.from_ :: .pointer (some ⟨w1.heap.size, 1, none⟩) :: iv 1 :: .pointer (some ⟨w1.heap.size, 5, none⟩) :: .pointer (some ⟨w1.heap.size, 8, none⟩) :: .pointer (some ⟨w1.heap.size, 8, none⟩) :: iv r.b.ver :: .bool true :: .bool true :: .bool true :: undef :: undef :: undef :: undef :: undef :: undef :: undef :: undef :: .bool true :: []) 185 rfl rfl (by decide +kernel) (by decide +kernel) (by decide +kernel) rfl ?_ ?_
           | refine wp_region_chain (by kernel_rfl) (some 96 :: some 97 :: some 98 :: some 99 :: some 100 :: some 101 :: some 102 :: some 103 :: some 104 :: some 105 :: some 106 :: some 107 :: some 108 :: some 109 :: some 110 :: some 111 :: some 112 :: some 113 :: some 114 :: some 115 :: some 116 :: some 117 :: some 118 :: some 119 :: some 120 :: some 121 :: some 122 :: some 123 :: some 124 :: some 125 :: some 126 :: some 127 :: []) (.pointer (some ⟨w1.heap.size, 2, none⟩) :: .bool false :: .bool false :: .pointer (some ⟨w.heap.size, 30, none⟩) :: .pointer (some ⟨w.heap.size, 31, none⟩) :: iv d.job.to_ :: .pointer (some ⟨w1.heap.size, 4, none⟩) :: iv r.floor :: .bool true :: .bool true :: .bool true :: undef :: undef :: undef :: undef :: undef :: undef :: undef :: undef :: undef :: undef :: .bool true :: .bool true :: undef :: undef :: undef :: undef :: undef :: undef :: undef :: undef :: .bool true :: []) 185 rfl rfl (by decide +kernel) (by decide +kernel) (by decide +kernel) rfl ?_ ?_
         | refine wp_region_chain (by kernel_rfl) (some 96 :: some 97 :: some 98 :: some 99 :: some 100 :: some 101 :: some 102 :: some 103 :: some 104 :: some 105 :: some 106 :: some 107 :: some 108 :: some 109 :: some 110 :: some 111 :: some 112 :: some 113 :: some 114 :: some 115 :: some 116 :: some 117 :: some 118 :: some 119 :: some 120 :: some 121 :: some 122 :: some 123 :: some 124 :: some 125 :: some 126 :: some 127 :: []) (.pointer (some ⟨w1.heap.size, 2, none⟩) :: .bool false :: .bool false :: .pointer (some ⟨w.heap.size, 30, none⟩) :: .pointer (some ⟨w.heap.size, 31, none⟩) :: iv d.job.to_ :: .pointer (some ⟨w1.heap.size, 4, none⟩) :: iv r.floor :: .bool true :: .bool true :: .bool true :: undef :: undef :: undef :: undef :: undef :: undef :: undef :: undef :: undef :: undef :: .bool true :: .bool true :: undef :: undef :: undef :: undef :: undef :: undef :: undef :: undef :: .bool true :: []) 185 rfl rfl (by decide +kernel) (by decide +kernel) (by decide +kernel) rfl ?_ ?_
       | refine wp_region_chain (by kernel_rfl) (some 96 :: some 97 :: some 98 :: some 99 :: some 100 :: some 101 :: some 102 :: some 103 :: some 104 :: some 105 :: some 106 :: some 107 :: some 108 :: some 109 :: some 110 :: some 111 :: some 112 :: some 113 :: some 114 :: some 115 :: some 116 :: some 117 :: some 118 :: some 119 :: some 120 :: some 121 :: some 122 :: some 123 :: some 124 :: some 125 :: some 126 :: some 127 :: []) (.pointer (some ⟨w1.heap.size, 2, none⟩) :: .bool true :: .bool true :: undef :: undef :: undef :: undef :: undef :: undef :: .bool true :: .bool true :: undef :: undef :: undef :: undef :: undef :: undef :: undef :: undef :: undef :: undef :: .bool true :: .bool true :: undef :: undef :: undef :: undef :: undef :: undef :: undef :: undef :: .bool true :: []) 185 rfl rfl (by decide +kernel) (by decide +kernel) (by decide +kernel) rfl ?_ ?_
     | refine wp_region_chain (by kernel_rfl) (some 96 :: some 97 :: some 98 :: some 99 :: some 100 :: some 101 :: some 102 :: some 103 :: some 104 :: some 105 :: some 106 :: some 107 :: some 108 :: some 109 :: some 110 :: some 111 :: some 112 :: some 113 :: some 114 :: some 115 :: some 116 :: some 117 :: some 118 :: some 119 :: some 120 :: some 121 :: some 122 :: some 123 :: some 124 :: some 125 :: some 126 :: some 127 :: []) (.pointer (some ⟨w1.heap.size, 2, none⟩) :: .bool true :: .bool true :: undef :: undef :: undef :: undef :: undef :: undef :: .bool true :: .bool true :: undef :: undef :: undef :: undef :: undef :: undef :: undef :: undef :: undef :: undef :: .bool true :: .bool true :: undef :: undef :: undef :: undef :: undef :: undef :: undef :: undef :: .bool true :: []) 185 rfl rfl (by decide +kernel) (by decide +kernel) (by decide +kernel) rfl ?_ ?_
    ·refine ⟨.inl ⟨rfl, fun done a wq hw h => ?_⟩, ?_⟩
     ·have e5 := cO 5 (.pointer (some ⟨w1.heap.size, 0, none⟩)) h; refine ch_pure ?_; go_simp
     refine ⟨.inl ⟨rfl, fun done a wq hw h => ?_⟩, ?_⟩
     ·have e96 := cN 0 96 h hw; obtain ⟨r_, f_, n_, c_, z_, l_⟩ := keep1 h.bel RR.out (by go_simp) FR.out; have ht_ := HT.out; refine ch_pure ?_; go_simp
     refine ⟨.inl ⟨rfl, fun done a wq hw h => ?_⟩, ?_⟩
     ·have e97 := cN 1 97 h hw; exact ch_move (ch_ev e97)
     first
      |
       revert U07; intro U07
       first
        | revert U06; intro U06
        |
         iterate 6 refine ⟨.inr ⟨rfl, rfl⟩, ?_⟩
      |
       iterate 6 refine ⟨.inr ⟨rfl, rfl⟩, ?_⟩
     refine ⟨.inl ⟨rfl, fun done a wq hw h => ?_⟩, ?_⟩
     first
      |
       revert U07; intro U07
       first
        |
         revert U06; intro U06
         ·have e1 := cO 1 (.pointer (some ⟨w.heap.size, 0, none⟩)) h; refine ch_pure ?_; go_simp
         refine ⟨.inl ⟨rfl, fun done a wq hw h => ?_⟩, ?_⟩
         ·have e99 := cN 3 99 h hw; refine ch_pure ?_; go_simp
         refine ⟨.inl ⟨rfl, fun done a wq hw h => ?_⟩, ?_⟩
         ·have e100 := cN 4 100 h hw; obtain ⟨r_, f_, n_, c_, z_, l_⟩ := keep1 h.bel RD.out (by go_simp) FD.out; refine ch_pure ?_; go_simp
         refine ⟨.inl ⟨rfl, fun done a wq hw h => ?_⟩, ?_⟩
         ·have e5 := cO 5 (.pointer (some ⟨w1.heap.size, 0, none⟩)) h; refine ch_pure ?_; go_simp
         refine ⟨.inl ⟨rfl, fun done a wq hw h => ?_⟩, ?_⟩
         ·have e102 := cN 6 102 h hw; obtain ⟨r_, f_, n_, c_, z_, l_⟩ := keep1 h.bel RR.out (by go_simp) FR.out; refine ch_pure ?_; go_simp
         refine ⟨.inl ⟨rfl, fun done a wq hw h => ?_⟩, ?_⟩
         ·have e101 := cN 5 101 h hw; have e103 := cN 7 103 h hw; exact ch_lss_int (by kernel_rfl) (ch_ev e101) (ch_ev e103) (by have := HA.out; simp; omega)
         refine ⟨.inl ⟨rfl, fun done a wq hw h => ?_⟩, ?_⟩
         ·have e98 := cN 2 98 h hw; have e104 := cN 8 104 h hw; exact ch_pick_f e98 (ch_ev e104)
        | · have e98 := cN 2 98 h hw; exact ch_pick_t e98 rfl
      | · have e98 := cN 2 98 h hw; exact ch_pick_t e98 rfl
     refine ⟨.inl ⟨rfl, fun done a wq hw h => ?_⟩, ?_⟩
     ·have e105 := cN 9 105 h hw; exact ch_move (ch_ev e105)
     first
      |
       revert U07; intro U07
       first
        |
         revert U06; intro U06
         first
          |
           revert U05; intro U05
           first
            | revert U04; intro U04
            |
             iterate 10 refine ⟨.inr ⟨rfl, rfl⟩, ?_⟩
          |
           iterate 10 refine ⟨.inr ⟨rfl, rfl⟩, ?_⟩
        |
         iterate 10 refine ⟨.inr ⟨rfl, rfl⟩, ?_⟩
      |
       iterate 10 refine ⟨.inr ⟨rfl, rfl⟩, ?_⟩
     refine ⟨.inl ⟨rfl, fun done a wq hw h => ?_⟩, ?_⟩
     first
      |
       revert U07; intro U07
       first
        |
         revert U06; intro U06
         first
          |
           revert U05; intro U05
           first
            |
             revert U04; intro U04
             ·have e1 := cO 1 (.pointer (some ⟨w.heap.size, 0, none⟩)) h; refine ch_pure ?_; go_simp
             refine ⟨.inl ⟨rfl, fun done a wq hw h => ?_⟩, ?_⟩
             ·have e107 := cN 11 107 h hw; refine ch_pure ?_; go_simp
             refine ⟨.inl ⟨rfl, fun done a wq hw h => ?_⟩, ?_⟩
             ·have e108 := cN 12 108 h hw; obtain ⟨r_, f_, n_, c_, z_, l_⟩ := keep1 h.bel RD.out (by go_simp) FD.out; refine ch_pure ?_; go_simp
             refine ⟨.inl ⟨rfl, fun done a wq hw h => ?_⟩, ?_⟩
             ·have e5 := cO 5 (.pointer (some ⟨w1.heap.size, 0, none⟩)) h; refine ch_pure ?_; go_simp
             refine ⟨.inl ⟨rfl, fun done a wq hw h => ?_⟩, ?_⟩
             ·have e110 := cN 14 110 h hw; obtain ⟨r_, f_, n_, c_, z_, l_⟩ := keep1 h.bel RR.out (by go_simp) FR.out; have hk_ := HK.out; refine ch_pure ?_; go_simp
             refine ⟨.inl ⟨rfl, fun done a wq hw h => ?_⟩, ?_⟩
             ·have e5 := cO 5 (.pointer (some ⟨w1.heap.size, 0, none⟩)) h; refine ch_pure ?_; go_simp
             refine ⟨.inl ⟨rfl, fun done a wq hw h => ?_⟩, ?_⟩
             ·have e112 := cN 16 112 h hw; have e111 := cN 15 111 h hw; refine ch_pure ?_; go_simp
             refine ⟨.inl ⟨rfl, fun done a wq hw h => ?_⟩, ?_⟩
             ·have e113 := cN 17 113 h hw; refine ch_pure ?_; go_simp
             refine ⟨.inl ⟨rfl, fun done a wq hw h => ?_⟩, ?_⟩
             ·have e114 := cN 18 114 h hw; obtain ⟨r_, f_, n_, c_, z_, l_⟩ := keep1 h.bel RR.out (by go_simp) FR.out; refine ch_pure ?_; go_simp
             refine ⟨.inl ⟨rfl, fun done a wq hw h => ?_⟩, ?_⟩
             ·have e109 := cN 13 109 h hw; have e115 := cN 19 115 h hw; exact ch_neq_int (by kernel_rfl) (ch_ev e109) (ch_ev e115) (by have := HA.out; simp; omega)
             refine ⟨.inl ⟨rfl, fun done a wq hw h => ?_⟩, ?_⟩
             ·have e106 := cN 10 106 h hw; have e116 := cN 20 116 h hw; exact ch_pick_f e106 (ch_ev e116)
            | · have e106 := cN 10 106 h hw; exact ch_pick_t e106 rfl
          | · have e106 := cN 10 106 h hw; exact ch_pick_t e106 rfl
        | · have e106 := cN 10 106 h hw; exact ch_pick_t e106 rfl
      | · have e106 := cN 10 106 h hw; exact ch_pick_t e106 rfl
     refine ⟨.inl ⟨rfl, fun done a wq hw h => ?_⟩, ?_⟩
     ·have e117 := cN 21 117 h hw; exact ch_move (ch_ev e117)
     first
      |
       revert U07; intro U07
       first
        |
         revert U06; intro U06
         first
          |
           revert U05; intro U05
           first
            |
             revert U04; intro U04
             first
              |
               revert U03; intro U03
               first
                | revert U02; intro U02
                |
                 iterate 8 refine ⟨.inr ⟨rfl, rfl⟩, ?_⟩
              |
               iterate 8 refine ⟨.inr ⟨rfl, rfl⟩, ?_⟩
            |
             iterate 8 refine ⟨.inr ⟨rfl, rfl⟩, ?_⟩
          |
           iterate 8 refine ⟨.inr ⟨rfl, rfl⟩, ?_⟩
        |
         iterate 8 refine ⟨.inr ⟨rfl, rfl⟩, ?_⟩
      |
       iterate 8 refine ⟨.inr ⟨rfl, rfl⟩, ?_⟩
     refine ⟨.inl ⟨rfl, fun done a wq hw h => ?_⟩, ?_⟩
     first
      |
       revert U07; intro U07
       first
        |
         revert U06; intro U06
         first
          |
           revert U05; intro U05
           first
            |
             revert U04; intro U04
             first
              |
               revert U03; intro U03
               first
                |
                 revert U02; intro U02
                 ·have e5 := cO 5 (.pointer (some ⟨w1.heap.size, 0, none⟩)) h; refine ch_pure ?_; go_simp
                 refine ⟨.inl ⟨rfl, fun done a wq hw h => ?_⟩, ?_⟩
                 ·have e119 := cN 23 119 h hw; obtain ⟨r_, f_, n_, c_, z_, l_⟩ := keep1 h.bel RR.out (by go_simp) FR.out; have hk_ := HK.out; refine ch_pure ?_; go_simp
                 refine ⟨.inl ⟨rfl, fun done a wq hw h => ?_⟩, ?_⟩
                 ·have e120 := cN 24 120 h hw; refine ch_pure ?_; first | (go_simp; done) | (go_simp; rfl) | (go_simp; decide)
                 refine ⟨.inl ⟨rfl, fun done a wq hw h => ?_⟩, ?_⟩
                 ·have e5 := cO 5 (.pointer (some ⟨w1.heap.size, 0, none⟩)) h; refine ch_pure ?_; go_simp
                 refine ⟨.inl ⟨rfl, fun done a wq hw h => ?_⟩, ?_⟩
                 ·have e122 := cN 26 122 h hw; have e121 := cN 25 121 h hw; refine ch_pure ?_; go_simp
                 refine ⟨.inl ⟨rfl, fun done a wq hw h => ?_⟩, ?_⟩
                 ·have e123 := cN 27 123 h hw; refine ch_pure ?_; go_simp
                 refine ⟨.inl ⟨rfl, fun done a wq hw h => ?_⟩, ?_⟩
                 ·have e124 := cN 28 124 h hw; obtain ⟨r_, f_, n_, c_, z_, l_⟩ := keep1 h.bel RR.out (by go_simp) FR.out; refine ch_pure ?_; go_simp
                 refine ⟨.inl ⟨rfl, fun done a wq hw h => ?_⟩, ?_⟩
                 ·have e125 := cN 29 125 h hw; exact ch_neq_int (by kernel_rfl) (ch_ev e125) rfl (by have := HA.out; simp; omega)
                 refine ⟨.inl ⟨rfl, fun done a wq hw h => ?_⟩, ?_⟩
                 ·have e118 := cN 22 118 h hw; have e126 := cN 30 126 h hw; exact ch_pick_f e118 (ch_ev e126)
                | · have e118 := cN 22 118 h hw; exact ch_pick_t e118 rfl
              | · have e118 := cN 22 118 h hw; exact ch_pick_t e118 rfl
            | · have e118 := cN 22 118 h hw; exact ch_pick_t e118 rfl
          | · have e118 := cN 22 118 h hw; exact ch_pick_t e118 rfl
        | · have e118 := cN 22 118 h hw; exact ch_pick_t e118 rfl
      | · have e118 := cN 22 118 h hw; exact ch_pick_t e118 rfl
     exact trivial
    ·intro w3 hb
     simp only [putAll_some, putAll_none, putAll_nil, List.setIfInBounds_toArray, List.set_cons_zero, List.set_cons_succ]
     have hs2 := HB2.out.size
     have HB3 := hD (HB2.out.trans (hb.mono (by first | omega | (simp <;> omega))))
     clear hs2
     clear hb
     go_wp2_with fail
     go_ret
     have hs := HB3.out.size
     refine ⟨ret_int hz.out.symm, ?_⟩
     repeat (first | exact HB3.out | refine bR ?_ _ | refine bC ?_ _ | refine bA ?_ _)
theorem devBusy_rest {d : Dev} {r : Rec} (h : ¬ (r.trying = true ∨ d.job.to_ < r.floor ∨ d.job.from_ ≠ (r.at_ r.active).ver ∨ (r.at_ (1 - r.active)).ver ≠ 0)) : devBusyCheck d r =
  if (patDo (sumOn 1) d.job (d.image r.active r)).2 ≠ 0 then (patDo (sumOn 1) d.job (d.image r.active r)).2
  else if d.done < 0 ∨ 64 < d.done ∨ d.done % 8 ≠ 0 ∨ d.job.size + 8 ≤ d.done then 2
  else if (d.slot (1 - r.active)).take d.done.toNat ≠ (room (patDo (sumOn 1) d.job (d.image r.active r)).1).take d.done.toNat then 3
  else 0 := by unfold devBusyCheck; rw [if_neg h]
def rmJ (w0 : World) (rb : List UInt8) (dn : Nat) (e : Bool) : Nat → (Nat → Value) → World → Prop
 | 0, _, w => w = w0.drew
 | 1, cv, w => ∃ A c, cv 10 = .slice A rb.length c ∧ Bts w A rb ∧ rb.length ≤ c ∧ Below w0.heap.size w0 w
 | 2, cv, w => ∃ A c, cv 13 = .slice A dn c ∧ Bts w A (rb.take dn) ∧ dn ≤ c ∧ Below w0.heap.size w0 w
 | 3, cv, w => cv 14 = .bool e ∧ Below w0.heap.size w0 w
 | _, cv, w => cv 15 = .bool (!e) ∧ Below w0.heap.size w0 w
theorem rmJ_bel {w0 w : World} {rb : List UInt8} {dn k : Nat} {e : Bool} {cv : Nat → Value} (hJ : rmJ w0 rb dn e k cv w) : Below w0.heap.size w0 w := by
 match k, hJ with
 | 0, hJ => obtain rfl : w = w0.drew := hJ; exact (Below.refl _ _).drew
 | 1, ⟨_, _, _, _, _, h⟩ => exact h
 | 2, ⟨_, _, _, _, _, h⟩ => exact h
 | 3, ⟨_, h⟩ => exact h
 | q + 4, ⟨_, h⟩ => exact h
theorem devCheck_busyDo0_ : (∀ (d : Dev) (L : DLoc) (w : World) (h : DevIn w d L) (h0 : d.s0.length = 64) (h1 : d.s1.length = 64) (hc : copCheck d.c0 d.c1 = 0) (hu : d.up = true) (hx : d.running = (recRead d.c0 d.c1).1.active) (hg : chkList d.got = 0) (hbz : d.busy = true) (hk : (recRead d.c0 d.c1).1.active = 0) (ht : (recRead d.c0 d.c1).1.trying = false) (ha : ¬ d.job.to_ < (recRead d.c0 d.c1).1.floor ∧ d.job.from_ = (recRead d.c0 d.c1).1.a.ver ∧ (recRead d.c0 d.c1).1.b.ver = 0), Calls Tryz.prog 36 #[.agg (devA d L)] w (RetB w (iv (devCheck d)))) ∧ (∀ (d : Dev) (L : DLoc) (w : World) (h : DevIn w d L) (h0 : d.s0.length = 64) (h1 : d.s1.length = 64) (hc : copCheck d.c0 d.c1 = 0) (hu : d.up = true) (hx : d.running = (recRead d.c0 d.c1).1.active) (hg : chkList d.got = 0) (hbz : d.busy = true) (hk : (recRead d.c0 d.c1).1.active = 1) (ht : (recRead d.c0 d.c1).1.trying = false) (ha : ¬ d.job.to_ < (recRead d.c0 d.c1).1.floor ∧ d.job.from_ = (recRead d.c0 d.c1).1.b.ver ∧ (recRead d.c0 d.c1).1.a.ver = 0), Calls Tryz.prog 36 #[.agg (devA d L)] w (RetB w (iv (devCheck d)))) := by
 refine ⟨?_, ?_⟩
 case' refine_1 => have U01 : Hid True := hD trivial; intro d L w h h0 h1 hc hu hx hg hbz hk ht ha
 case' refine_2 => intro d L w h h0 h1 hc hu hx hg hbz hk ht ha
 all_goals
  have E := hD (devCheck_is_up h0 h1 hc hu)
  obtain ⟨n, hn⟩ : ∃ n, devCheck d = n := ⟨_, rfl⟩
  rw [hn] at E
  rw [hn]
  have HIN := hD h
  clear hn h
  have l0 : ((d.s0.length : Int) != 64) = false := by simp; omega
  have l1 : ((d.s1.length : Int) != 64) = false := by simp; omega
  have i0 : ∀ w, (Instr.index 24 (.agg (slotsA L.a0 d.s0.length L.c0 L.a1 d.s1.length L.c1)) (.int .i64 0)).run Tryz.prog w = .ok (.slice L.a0 d.s0.length L.c0) w := fun _ => by kernel_rfl
  have i1 : ∀ w, (Instr.index 24 (.agg (slotsA L.a0 d.s0.length L.c0 L.a1 d.s1.length L.c1)) (.int .i64 1)).run Tryz.prog w = .ok (.slice L.a1 d.s1.length L.c1) w := fun _ => by kernel_rfl
  have HBA := hD ((Below.refl w.heap.size w).alloc (Nat.le_refl _) (.cells (devA d L) 38))
  have KR := hD (fun w => read_ok d.c0 d.c1 w hc)
  obtain ⟨r, hr⟩ : ∃ r, (recRead d.c0 d.c1).1 = r := ⟨_, rfl⟩
  obtain ⟨rk, hrk⟩ : ∃ rk, (recRead d.c0 d.c1).2 = rk := ⟨_, rfl⟩
  rw [hr, hrk] at KR
  rw [hr] at E hx hk ht ha
  have hrec := recRead_ok hc
  rw [hr] at hrec
  have hact := rec_active hrec
  clear hr
  have hng : ¬ (d.running < 0 ∨ 1 < d.running ∨ (d.running ≠ r.active ∧ r.trying = false)) := fun a => a.elim (fun a => by omega) (fun a => a.elim (fun a => by omega) (fun a => a.1 hx))
  have z1 : ¬ d.running < 0 := by omega
  have z2 : ¬ (1 : Int) < d.running := by omega
  have q3 : (d.running != r.active) = false := by simp [hx]
  have HE2 : Hid (n = devBusyCheck d r) := hD (E.out.trans (devUp_busy hng hg hbz))
  have HT := hD ht
  have HK := hD hk
  have HA := hD ha
  have hnf : ¬ (r.trying = true ∨ d.job.to_ < r.floor ∨ d.job.from_ ≠ (r.at_ r.active).ver ∨ (r.at_ (1 - r.active)).ver ≠ 0) := by
   first
    |
     revert U01; intro U01
     rw [HK.out, show (1 : Int) - 0 = 1 by omega, at_0, at_1]
    | rw [HK.out, show (1 : Int) - 1 = 0 by omega, at_0, at_1]
   refine fun a => a.elim (fun a => by rw [ht] at a; cases a) (fun a => a.elim ha.1 (fun a => a.elim (fun a => a ha.2.1) (fun a => a ha.2.2)))
  have hrest := devBusy_rest hnf
  first
   |
    revert U01; intro U01
    rw [HK.out, show (1 : Int) - 0 = 1 by omega] at hrest
   | rw [HK.out, show (1 : Int) - 1 = 0 by omega] at hrest
  first
   |
    revert U01; intro U01
    obtain ⟨img, himg⟩ : ∃ img, d.image 0 r = img := ⟨_, rfl⟩
   | obtain ⟨img, himg⟩ : ∃ img, d.image 1 r = img := ⟨_, rfl⟩
  have hpok := @patDo_ok (sumOn 1) d.job img
  rw [himg] at hrest
  obtain ⟨⟨b, en⟩, hpd⟩ : ∃ x, patDo (sumOn 1) d.job img = x := ⟨_, rfl⟩
  rw [hpd] at hrest hpok
  have HBL : Hid (en = 0 → b.length ≤ 64 ∧ (b.length : Int) = d.job.size ∧ d.job.size ≤ 64) := hD (fun e => by
   obtain ⟨_, _, _, g1, g2, _, g3⟩ := hpok e
   have g2' : b = applied img d.job.ops := g2
   rw [g2']
   have g4 := g1.s1
   exact ⟨by omega, g3, g4⟩)
  first
   |
    revert U01; intro U01
    have hsl : d.slot 1 = d.s1 := by simp [Dev.slot]
   | have hsl : d.slot 0 = d.s0 := by simp [Dev.slot]
  rw [hsl] at hrest
  dsimp only at hrest
  first
   |
    revert U01; intro U01
    have HR3 : Hid (n = if en ≠ 0 then en else if d.done < 0 ∨ 64 < d.done ∨ d.done % 8 ≠ 0 ∨ d.job.size + 8 ≤ d.done then 2 else if d.s1.take d.done.toNat ≠ (room b).take d.done.toNat then 3 else 0) := hD (HE2.out.trans hrest)
   | have HR3 : Hid (n = if en ≠ 0 then en else if d.done < 0 ∨ 64 < d.done ∨ d.done % 8 ≠ 0 ∨ d.job.size + 8 ≤ d.done then 2 else if d.s0.take d.done.toNat ≠ (room b).take d.done.toNat then 3 else 0) := hD (HE2.out.trans hrest)
  first
   |
    revert U01; intro U01
    have hsz := (recCheck_parts hrec).2.1
   | have hsz := (recCheck_parts hrec).2.2.1
  first
   |
    revert U01; intro U01
    have HSZ : Hid (0 ≤ r.a.size ∧ r.a.size ≤ 64) := hD (by
     unfold infCheck at hsz
     by_cases hh : InfRange r.a
     ·unfold InfRange at hh; omega
     ·rw [if_neg hh] at hsz; exact absurd hsz (by decide))
   |
    have HSZ : Hid (0 ≤ r.b.size ∧ r.b.size ≤ 64) := hD (by
     unfold infCheck at hsz
     by_cases hh : InfRange r.b
     ·unfold InfRange at hh; omega
     ·rw [if_neg hh] at hsz; exact absurd hsz (by decide))
  have H0 := hD h0
  have H1 := hD h1
  first
   |
    revert U01; intro U01
    have KI0 : Hid (∀ wq, DevIn wq d L → Calls Tryz.prog 65 #[.agg (devA d L), iv 0, .agg (recA r)] wq (ImRet wq img)) := hD (fun wq h => by
     rw [← himg]
     exact image_calls0 d L r wq h H0.out HSZ.out.1 HSZ.out.2)
   |
    have KI0 : Hid (∀ wq, DevIn wq d L → Calls Tryz.prog 65 #[.agg (devA d L), iv 1, .agg (recA r)] wq (ImRet wq img)) := hD (fun wq h => by
     rw [← himg]
     exact image_calls1 d L r wq h H1.out HSZ.out.1 HSZ.out.2)
  have HPD := hD hpd
  first
   |
    revert U01; intro U01
    have HIL : Hid (img.length ≤ 64) := hD (by
     rw [← himg]; unfold Dev.image; rw [List.length_take]
     have : (r.at_ 0).size.toNat ≤ 64 := by rw [at_0]; have := HSZ.out; omega
     omega)
   |
    have HIL : Hid (img.length ≤ 64) := hD (by
     rw [← himg]; unfold Dev.image; rw [List.length_take]
     have : (r.at_ 1).size.toNat ≤ 64 := by rw [at_1]; have := HSZ.out; omega
     omega)
  clear ha ht hk hnf hrest hpok hsl hsz himg hpd HE2
  clear hx hact hng
  have HLG := hD HIN.out.lg
  have HG := hD hg
  clear hg E hrec
  clear h0 h1 hc hrk
  go_enter Tryz.func36, Tryz.ntmps36
  go_wp2_with fail
  go_loopw [12] (fun i wr => ∃ k : Nat, k ≤ 2 ∧ i = .int .i64 k ∧ wr = w.alloc (.cells (devA d L) 38)) (fun i _ => (2 - intOf i).toNat)
  case atStart => exact ⟨0, by omega, rfl, rfl⟩
  case round =>
   obtain ⟨k, hk, rfl, rfl⟩ := hrel
   by_cases hlt : k < 2
   ·rcases (show k = 0 ∨ k = 1 by omega) with rfl | rfl
    ·go_wp2_with fail
     go_roundw
     case rel => exact ⟨1, by omega, rfl, by first | rfl | trivial⟩
     case measure => simp [intOf] <;> omega
    ·go_wp2_with fail
     go_roundw
     case rel => exact ⟨2, by omega, rfl, by first | rfl | trivial⟩
     case measure => simp [intOf] <;> omega
   ·obtain rfl : k = 2 := by omega
    clear hk hlt i0 i1 l0 l1
    go_wp2_with fail
    refine (KR.out _).mono ?_
    rintro e w1 ⟨rfl, hb1⟩
    obtain ⟨a0r, a0f, a0n, a0c, a0z, a0l⟩ := kp (w.heap.size) (devA d L) hb1
    have HB1 := hD (HBA.out.trans (hb1.mono (by simp)))
    clear hb1
    go_wp2_with fail
    have hbx := HB1.out.alloc HB1.out.size (.cells (recA r) 29)
    refine (chkList_calls L.ag L.cg d.got _ HLG.out (HIN.out.got.stays hbx)).mono ?_
    rintro e w2 ⟨rfl, hb2⟩
    rw [HG.out]
    obtain ⟨a0r, a0f, a0n, a0c, a0z, a0l⟩ := kp (w.heap.size) (devA d L) hb2
    obtain ⟨a1r, a1f, a1n, a1c, a1z, a1l⟩ := kp (w1.heap.size) (recA r) hb2
    have HB2 := hD (hbx.trans (hb2.mono (by simp; have := HB1.out.size; omega)))
    clear hb2 hbx
    go_wp2_with fail
    have RD : Hid (rowOf w2.drew w.heap.size = devA d L) := hD (by rw [rowOf_drew]; exact a0r)
    have FD : Hid (frOf w2.drew w.heap.size = (0, 0)) := hD (by rw [frOf_drew]; exact a0f)
    have RR : Hid (rowOf w2.drew w1.heap.size = recA r) := hD (by rw [rowOf_drew]; exact a1r)
    have FR : Hid (frOf w2.drew w1.heap.size = (0, 0)) := hD (by rw [frOf_drew]; exact a1f)
    first
     |
      revert U01; intro U01
      refine wp_region_chain (by kernel_rfl) (some 96 :: some 97 :: some 98 :: some 99 :: some 100 :: some 101 :: some 102 :: some 103 :: some 104 :: some 105 :: some 106 :: some 107 :: some 108 :: some 109 :: some 110 :: some 111 :: some 112 :: some 113 :: some 114 :: some 115 :: some 116 :: some 117 :: some 118 :: some 119 :: some 120 :: some 121 :: some 122 :: some 123 :: some 124 :: some 125 :: some 126 :: some 127 :: []) (.pointer (some ⟨w1.heap.size, 2, none⟩) :: .bool false :: .bool false :: .pointer (some ⟨w.heap.size, 30, none⟩) :: .pointer (some ⟨w.heap.size, 31, none⟩) :: iv d.job.to_ :: .pointer (some ⟨w1.heap.size, 4, none⟩) :: iv r.floor :: .bool false :: .bool false :: .bool false :: .pointer (some ⟨w.heap.size, 30, none⟩) :: .pointer (some ⟨w.heap.size, 30, none⟩) :: iv d.job.from_ :: .pointer (some ⟨w1.heap.size, 1, none⟩) :: iv 0 :: .pointer (some ⟨w1.heap.size, 5, none⟩) :: .pointer (some ⟨w1.heap.size, 5, none⟩) :: .pointer (some ⟨w1.heap.size, 5, none⟩) :: iv r.a.ver :: .bool false :: .bool false :: .bool false :: .pointer (some ⟨w1.heap.size, 1, none⟩) :: iv 0 :: iv 1 :: .pointer (some ⟨w1.heap.size, 5, none⟩) :: .pointer (some ⟨w1.heap.size, 8, none⟩) :: .pointer (some ⟨w1.heap.size, 8, none⟩) :: iv r.b.ver :: .bool false :: .bool false :: []) 185 rfl rfl (by decide +kernel) (by decide +kernel) (by decide +kernel) rfl ?_ ?_
     | refine wp_region_chain (by kernel_rfl) (some 96 :: some 97 :: some 98 :: some 99 :: some 100 :: some 101 :: some 102 :: some 103 :: some 104 :: some 105 :: some 106 :: some 107 :: some 108 :: some 109 :: some 110 :: some 111 :: some 112 :: some 113 :: some 114 :: some 115 :: some 116 :: some 117 :: some 118 :: some 119 :: some 120 :: some 121 :: some 122 :: some 123 :: some 124 :: some 125 :: some 126 :: some 127 :: []) (.pointer (some ⟨w1.heap.size, 2, none⟩) :: .bool false :: .bool false :: .pointer (some ⟨w.heap.size, 30, none⟩) :: .pointer (some ⟨w.heap.size, 31, none⟩) :: iv d.job.to_ :: .pointer (some ⟨w1.heap.size, 4, none⟩) :: iv r.floor :: .bool false :: .bool false :: .bool false :: .pointer (some ⟨w.heap.size, 30, none⟩) :: .pointer (some ⟨w.heap.size, 30, none⟩) :: iv d.job.from_ :: .pointer (some ⟨w1.heap.size, 1, none⟩) :: iv 1 :: .pointer (some ⟨w1.heap.size, 5, none⟩) :: .pointer (some ⟨w1.heap.size, 8, none⟩) :: .pointer (some ⟨w1.heap.size, 8, none⟩) :: iv r.b.ver :: .bool false :: .bool false :: .bool false :: .pointer (some ⟨w1.heap.size, 1, none⟩) :: iv 1 :: iv 0 :: .pointer (some ⟨w1.heap.size, 5, none⟩) :: .pointer (some ⟨w1.heap.size, 5, none⟩) :: .pointer (some ⟨w1.heap.size, 5, none⟩) :: iv r.a.ver :: .bool false :: .bool false :: []) 185 rfl rfl (by decide +kernel) (by decide +kernel) (by decide +kernel) rfl ?_ ?_
    ·refine ⟨.inl ⟨rfl, fun done a wq hw h => ?_⟩, ?_⟩
     ·have e5 := cO 5 (.pointer (some ⟨w1.heap.size, 0, none⟩)) h; refine ch_pure ?_; go_simp
     refine ⟨.inl ⟨rfl, fun done a wq hw h => ?_⟩, ?_⟩
     ·have e96 := cN 0 96 h hw; obtain ⟨r_, f_, n_, c_, z_, l_⟩ := keep1 h.bel RR.out (by go_simp) FR.out; have ht_ := HT.out; refine ch_pure ?_; go_simp
     refine ⟨.inl ⟨rfl, fun done a wq hw h => ?_⟩, ?_⟩
     ·have e97 := cN 1 97 h hw; exact ch_move (ch_ev e97)
     refine ⟨.inl ⟨rfl, fun done a wq hw h => ?_⟩, ?_⟩
     ·have e1 := cO 1 (.pointer (some ⟨w.heap.size, 0, none⟩)) h; refine ch_pure ?_; go_simp
     refine ⟨.inl ⟨rfl, fun done a wq hw h => ?_⟩, ?_⟩
     ·have e99 := cN 3 99 h hw; refine ch_pure ?_; go_simp
     refine ⟨.inl ⟨rfl, fun done a wq hw h => ?_⟩, ?_⟩
     ·have e100 := cN 4 100 h hw; obtain ⟨r_, f_, n_, c_, z_, l_⟩ := keep1 h.bel RD.out (by go_simp) FD.out; refine ch_pure ?_; go_simp
     refine ⟨.inl ⟨rfl, fun done a wq hw h => ?_⟩, ?_⟩
     ·have e5 := cO 5 (.pointer (some ⟨w1.heap.size, 0, none⟩)) h; refine ch_pure ?_; go_simp
     refine ⟨.inl ⟨rfl, fun done a wq hw h => ?_⟩, ?_⟩
     ·have e102 := cN 6 102 h hw; obtain ⟨r_, f_, n_, c_, z_, l_⟩ := keep1 h.bel RR.out (by go_simp) FR.out; refine ch_pure ?_; go_simp
     refine ⟨.inl ⟨rfl, fun done a wq hw h => ?_⟩, ?_⟩
     ·have e101 := cN 5 101 h hw; have e103 := cN 7 103 h hw; exact ch_lss_int (by kernel_rfl) (ch_ev e101) (ch_ev e103) (by have := HA.out; simp; omega)
     refine ⟨.inl ⟨rfl, fun done a wq hw h => ?_⟩, ?_⟩
     ·have e98 := cN 2 98 h hw; have e104 := cN 8 104 h hw; exact ch_pick_f e98 (ch_ev e104)
     refine ⟨.inl ⟨rfl, fun done a wq hw h => ?_⟩, ?_⟩
     ·have e105 := cN 9 105 h hw; exact ch_move (ch_ev e105)
     refine ⟨.inl ⟨rfl, fun done a wq hw h => ?_⟩, ?_⟩
     ·have e1 := cO 1 (.pointer (some ⟨w.heap.size, 0, none⟩)) h; refine ch_pure ?_; go_simp
     refine ⟨.inl ⟨rfl, fun done a wq hw h => ?_⟩, ?_⟩
     ·have e107 := cN 11 107 h hw; refine ch_pure ?_; go_simp
     refine ⟨.inl ⟨rfl, fun done a wq hw h => ?_⟩, ?_⟩
     ·have e108 := cN 12 108 h hw; obtain ⟨r_, f_, n_, c_, z_, l_⟩ := keep1 h.bel RD.out (by go_simp) FD.out; refine ch_pure ?_; go_simp
     refine ⟨.inl ⟨rfl, fun done a wq hw h => ?_⟩, ?_⟩
     ·have e5 := cO 5 (.pointer (some ⟨w1.heap.size, 0, none⟩)) h; refine ch_pure ?_; go_simp
     refine ⟨.inl ⟨rfl, fun done a wq hw h => ?_⟩, ?_⟩
     ·have e110 := cN 14 110 h hw; obtain ⟨r_, f_, n_, c_, z_, l_⟩ := keep1 h.bel RR.out (by go_simp) FR.out; have hk_ := HK.out; refine ch_pure ?_; go_simp
     refine ⟨.inl ⟨rfl, fun done a wq hw h => ?_⟩, ?_⟩
     ·have e5 := cO 5 (.pointer (some ⟨w1.heap.size, 0, none⟩)) h; refine ch_pure ?_; go_simp
     refine ⟨.inl ⟨rfl, fun done a wq hw h => ?_⟩, ?_⟩
     ·have e112 := cN 16 112 h hw; have e111 := cN 15 111 h hw; refine ch_pure ?_; go_simp
     refine ⟨.inl ⟨rfl, fun done a wq hw h => ?_⟩, ?_⟩
     ·have e113 := cN 17 113 h hw; refine ch_pure ?_; go_simp
     refine ⟨.inl ⟨rfl, fun done a wq hw h => ?_⟩, ?_⟩
     ·have e114 := cN 18 114 h hw; obtain ⟨r_, f_, n_, c_, z_, l_⟩ := keep1 h.bel RR.out (by go_simp) FR.out; refine ch_pure ?_; go_simp
     refine ⟨.inl ⟨rfl, fun done a wq hw h => ?_⟩, ?_⟩
     ·have e109 := cN 13 109 h hw; have e115 := cN 19 115 h hw; exact ch_neq_int (by kernel_rfl) (ch_ev e109) (ch_ev e115) (by have := HA.out; simp; omega)
     refine ⟨.inl ⟨rfl, fun done a wq hw h => ?_⟩, ?_⟩
     ·have e106 := cN 10 106 h hw; have e116 := cN 20 116 h hw; exact ch_pick_f e106 (ch_ev e116)
     refine ⟨.inl ⟨rfl, fun done a wq hw h => ?_⟩, ?_⟩
     ·have e117 := cN 21 117 h hw; exact ch_move (ch_ev e117)
     refine ⟨.inl ⟨rfl, fun done a wq hw h => ?_⟩, ?_⟩
     ·have e5 := cO 5 (.pointer (some ⟨w1.heap.size, 0, none⟩)) h; refine ch_pure ?_; go_simp
     refine ⟨.inl ⟨rfl, fun done a wq hw h => ?_⟩, ?_⟩
     ·have e119 := cN 23 119 h hw; obtain ⟨r_, f_, n_, c_, z_, l_⟩ := keep1 h.bel RR.out (by go_simp) FR.out; have hk_ := HK.out; refine ch_pure ?_; go_simp
     refine ⟨.inl ⟨rfl, fun done a wq hw h => ?_⟩, ?_⟩
     ·have e120 := cN 24 120 h hw; refine ch_pure ?_; first | (go_simp; done) | (go_simp; rfl) | (go_simp; decide)
     refine ⟨.inl ⟨rfl, fun done a wq hw h => ?_⟩, ?_⟩
     ·have e5 := cO 5 (.pointer (some ⟨w1.heap.size, 0, none⟩)) h; refine ch_pure ?_; go_simp
     refine ⟨.inl ⟨rfl, fun done a wq hw h => ?_⟩, ?_⟩
     ·have e122 := cN 26 122 h hw; have e121 := cN 25 121 h hw; refine ch_pure ?_; go_simp
     refine ⟨.inl ⟨rfl, fun done a wq hw h => ?_⟩, ?_⟩
     ·have e123 := cN 27 123 h hw; refine ch_pure ?_; go_simp
     refine ⟨.inl ⟨rfl, fun done a wq hw h => ?_⟩, ?_⟩
     ·have e124 := cN 28 124 h hw; obtain ⟨r_, f_, n_, c_, z_, l_⟩ := keep1 h.bel RR.out (by go_simp) FR.out; refine ch_pure ?_; go_simp
     refine ⟨.inl ⟨rfl, fun done a wq hw h => ?_⟩, ?_⟩
     ·have e125 := cN 29 125 h hw; exact ch_neq_int (by kernel_rfl) (ch_ev e125) rfl (by have := HA.out; simp; omega)
     refine ⟨.inl ⟨rfl, fun done a wq hw h => ?_⟩, ?_⟩
     ·have e118 := cN 22 118 h hw; have e126 := cN 30 126 h hw; exact ch_pick_f e118 (ch_ev e126)
     exact trivial
    ·intro w3 hb
     simp only [putAll_some, putAll_none, putAll_nil, List.setIfInBounds_toArray, List.set_cons_zero, List.set_cons_succ]
     have hs2 := HB2.out.size
     have hb' : Below w2.heap.size w2 w3 := hb
     obtain ⟨a0r, a0f, a0n, a0c, a0z, a0l⟩ := keep1 (g := w.heap.size) (cs := devA d L) hb' (by first | (go_simp; done) | (go_simp; rfl)) (by go_simp) (by go_simp)
     obtain ⟨a1r, a1f, a1n, a1c, a1z, a1l⟩ := keep1 (g := w1.heap.size) (cs := recA r) hb' (by first | (go_simp; done) | (go_simp; rfl)) (by go_simp) (by go_simp)
     have HB3 := hD (HB2.out.trans (hb'.mono (by omega)))
     clear hb hb' hs2 RD FD RR FR
     have RD : Hid (rowOf w3 w.heap.size = devA d L) := hD a0r
     have FD : Hid (frOf w3 w.heap.size = (0, 0)) := hD a0f
     have RR : Hid (rowOf w3 w1.heap.size = recA r) := hD a1r
     have FR : Hid (frOf w3 w1.heap.size = (0, 0)) := hD a1f
     first
      |
       revert U01; intro U01
       have KI : Hid (∀ wq, Below w3.heap.size w3 wq → Calls Tryz.prog 65 #[.agg (devA d L), iv 0, .agg (recA r)] wq (ImRet wq img)) := hD (fun wq h => KI0.out wq ((HIN.out.stays HB3.out).stays h))
      | have KI : Hid (∀ wq, Below w3.heap.size w3 wq → Calls Tryz.prog 65 #[.agg (devA d L), iv 1, .agg (recA r)] wq (ImRet wq img)) := hD (fun wq h => KI0.out wq ((HIN.out.stays HB3.out).stays h))
     have KD : Hid (∀ wq A c, Below w3.heap.size w3 wq → img.length ≤ c → Bts wq A img → Calls Tryz.prog 64 #[.agg (patA d.job.from_ d.job.to_ d.job.old d.job.new_ d.job.size L.aj d.job.ops.length L.cj), .slice A img.length c] wq (ByRet2 wq b en)) := hD (fun wq A c h hc hb => by
      have hq := patDo_calls L.aj A L.cj c d.job img wq hc (by have := HIL.out; omega) hb ((HIN.out.job.stays HB3.out).stays h)
      rw [HPD.out] at hq
      exact hq)
     go_wp2_with fail
     first
      |
       revert U01; intro U01
       refine wp_region_free (by kernel_rfl) (some 129 :: some 130 :: some 131 :: some 132 :: some 133 :: some 134 :: some 135 :: some 136 :: some 128 :: some 137 :: some 138 :: some 9 :: some 7 :: []) (false :: false :: false :: false :: false :: false :: true :: true :: true :: true :: true :: true :: true :: []) (.pointer (some ⟨w.heap.size, 30, none⟩) :: .agg (patA d.job.from_ d.job.to_ d.job.old d.job.new_ d.job.size L.aj d.job.ops.length L.cj) :: .agg (devA d L) :: .pointer (some ⟨w1.heap.size, 1, none⟩) :: iv 0 :: .agg (recA r) :: undef :: undef :: undef :: undef :: undef :: undef :: undef :: []) (imJ w3 6 7 8 9 10 11 12 img b en) 185 rfl rfl (by decide +kernel) (by decide +kernel) (by decide +kernel) rfl rfl (rfl) ?_ ?_
      | refine wp_region_free (by kernel_rfl) (some 129 :: some 130 :: some 131 :: some 132 :: some 133 :: some 134 :: some 135 :: some 136 :: some 128 :: some 137 :: some 138 :: some 9 :: some 7 :: []) (false :: false :: false :: false :: false :: false :: true :: true :: true :: true :: true :: true :: true :: []) (.pointer (some ⟨w.heap.size, 30, none⟩) :: .agg (patA d.job.from_ d.job.to_ d.job.old d.job.new_ d.job.size L.aj d.job.ops.length L.cj) :: .agg (devA d L) :: .pointer (some ⟨w1.heap.size, 1, none⟩) :: iv 1 :: .agg (recA r) :: undef :: undef :: undef :: undef :: undef :: undef :: undef :: []) (imJ w3 6 7 8 9 10 11 12 img b en) 185 rfl rfl (by decide +kernel) (by decide +kernel) (by decide +kernel) rfl rfl (rfl) ?_ ?_
     ·refine ⟨?_, ?_⟩
      ·intro done cv a wq hn hw hcl h hJ
       have e1 := fO 1 (.pointer (some ⟨w.heap.size, 0, none⟩)) h
       go_simp
      refine ⟨?_, ?_⟩
      ·intro done cv a wq hn hw hcl h hJ
       have e129 := fN 0 129 h hw
       obtain ⟨r_, f_, n_, c_, z_, l_⟩ := keep1 (imJ_bel hJ) RD.out (by go_simp) FD.out
       go_simp
      refine ⟨?_, ?_⟩
      ·intro done cv a wq hn hw hcl h hJ
       have e1 := fO 1 (.pointer (some ⟨w.heap.size, 0, none⟩)) h
       obtain ⟨r_, f_, n_, c_, z_, l_⟩ := keep1 (imJ_bel hJ) RD.out (by go_simp) FD.out
       go_simp
      refine ⟨?_, ?_⟩
      ·intro done cv a wq hn hw hcl h hJ
       have e5 := fO 5 (.pointer (some ⟨w1.heap.size, 0, none⟩)) h
       go_simp
      refine ⟨?_, ?_⟩
      ·intro done cv a wq hn hw hcl h hJ
       have e132 := fN 3 132 h hw
       obtain ⟨r_, f_, n_, c_, z_, l_⟩ := keep1 (imJ_bel hJ) RR.out (by go_simp) FR.out
       have hk_ := HK.out
       go_simp
      refine ⟨?_, ?_⟩
      ·intro done cv a wq hn hw hcl h hJ
       have e5 := fO 5 (.pointer (some ⟨w1.heap.size, 0, none⟩)) h
       obtain ⟨r_, f_, n_, c_, z_, l_⟩ := keep1 (imJ_bel hJ) RR.out (by go_simp) FR.out
       go_simp
      refine ⟨?_, ?_⟩
      ·intro done cv a wq hn hw hcl h hJ
       have e131 := fN 2 131 h hw; have e133 := fN 4 133 h hw; have e134 := fN 5 134 h hw
       have n6 := hn
       have n7 := nW 7 6 hcl n6
       obtain rfl : wq = w3.drew := imJ_0 (by simp [maskB, n6]) (by simp [maskB, n7]) hJ
       first
        |
         revert U01; intro U01
         refine wp_call (vals := #[.agg (devA d L), iv 0, .agg (recA r)]) (by rw [List.map_toArray, List.map_cons, List.map_cons, List.map_cons, List.map_nil, ch_ev e131, ch_ev e133, ch_ev e134]) (enters_of Tryz.func65 (by kernel_rfl) rfl _ _) (KI.out _ ((Below.refl _ _).drew)) ?_
        | refine wp_call (vals := #[.agg (devA d L), iv 1, .agg (recA r)]) (by rw [List.map_toArray, List.map_cons, List.map_cons, List.map_cons, List.map_nil, ch_ev e131, ch_ev e133, ch_ev e134]) (enters_of Tryz.func65 (by kernel_rfl) rfl _ _) (KI.out _ ((Below.refl _ _).drew)) ?_
       rintro e w' ⟨A1, c1, rfl, h3, h4, h5⟩
       exact ⟨_, rfl, _, rfl, imJ_i (by decide) (by simp [maskB, n7]) h3 h4 ((Below.refl _ _).drew.trans h5)⟩
      refine ⟨?_, ?_⟩
      ·intro done cv a wq hn hw hcl h hJ
       have e130 := fN 1 130 h hw; have e135 := fr_cv (i := 6) (t := 135) h (hw 6 (by decide)) rfl rfl
       have n7 := hn
       have m6 := hw 6 (by decide)
       have n8 := nW 8 7 hcl n7
       have n9 := nW 9 8 hcl n8
       have n10 := nW 10 8 hcl n8
       have n11 := nW 11 7 hcl n7
       have n12 := nW 12 7 hcl n7
       obtain ⟨A1, c1, y1, h3, h4, h5⟩ := imJ_1 (by simp [maskB, m6]) (by simp [maskB, n7]) hJ
       rw [y1] at e135
       refine wp_call (vals := #[.agg (patA d.job.from_ d.job.to_ d.job.old d.job.new_ d.job.size L.aj d.job.ops.length L.cj), .slice A1 (img).length c1]) (by rw [List.map_toArray, List.map_cons, List.map_cons, List.map_nil, ch_ev e130, ch_ev e135]) (enters_of Tryz.func64 (by kernel_rfl) rfl _ _) (KD.out _ _ _ h5 h3 h4) ?_
       rintro e w' ⟨A2, c2, rfl, g1, g2, g3⟩
       exact ⟨_, rfl, _, rfl, imJ_d (by simp [maskB, n8]) (by simp [maskB, n9]) (by simp [maskB, n10]) (by simp [maskB, n11]) (by simp [maskB, n12]) (by decide) (by decide) (by decide) (by decide) (by decide) g1 g2 (h5.trans (g3.mono h5.size))⟩
      refine ⟨?_, ?_⟩
      ·intro done cv a wq hn hw hcl h hJ
       have e136 := fr_cv (i := 7) (t := 136) h (hw 7 (by decide)) rfl rfl
       have m7 := hw 7 (by decide)
       refine wp_val (v := cv 7) (mx_move (ch_ev e136)) ⟨_, rfl, imJ_k (by simp [maskB, m7]) (by decide) hJ (fun A2 c2 _ _ _ q => ⟨fun _ => q, fun h => absurd h (by decide), fun h => absurd h (by decide), fun h => absurd h (by decide), fun h => absurd h (by decide)⟩)⟩
      refine ⟨?_, ?_⟩
      ·intro done cv a wq hn hw hcl h hJ
       have e128 := fr_cv (i := 8) (t := 128) h (hw 8 (by decide)) rfl rfl
       have m8 := hw 8 (by decide)
       have m7 := hcl 8 _ rfl m8 7 (by decide)
       obtain ⟨A2, c2, y1, _, _, _, g5, _⟩ := imJ_2 (by simp [maskB, m7]) hJ
       have y := g5 (by simp [maskB, m8])
       rw [y] at e128
       refine wp_val (v := .slice A2 (b).length c2) (by go_simp) ⟨_, rfl, imJ_k (by simp [maskB, m7]) (by decide) hJ (fun A3 c3 h8 _ _ _ => ⟨fun h => absurd h (by decide), fun _ => by have q := h8 (by simp [maskB, m8]); rw [y] at q; simp at q ⊢; exact q, fun h => absurd h (by decide), fun h => absurd h (by decide), fun h => absurd h (by decide)⟩)⟩
      refine ⟨?_, ?_⟩
      ·intro done cv a wq hn hw hcl h hJ
       have e128 := fr_cv (i := 8) (t := 128) h (hw 8 (by decide)) rfl rfl
       have m8 := hw 8 (by decide)
       have m7 := hcl 8 _ rfl m8 7 (by decide)
       obtain ⟨A2, c2, y1, _, _, _, g5, _⟩ := imJ_2 (by simp [maskB, m7]) hJ
       have y := g5 (by simp [maskB, m8])
       rw [y] at e128
       refine wp_val (v := iv en) (by go_simp) ⟨_, rfl, imJ_k (by simp [maskB, m7]) (by decide) hJ (fun A3 c3 h8 _ _ _ => ⟨fun h => absurd h (by decide), fun h => absurd h (by decide), fun _ => rfl, fun h => absurd h (by decide), fun h => absurd h (by decide)⟩)⟩
      refine ⟨?_, ?_⟩
      ·intro done cv a wq hn hw hcl h hJ
       have e137 := fr_cv (i := 9) (t := 137) h (hw 9 (by decide)) rfl rfl
       have m7 := hw 7 (by decide)
       have m9 := hw 9 (by decide)
       obtain ⟨A2, c2, y1, _, _, _, _, g6, _⟩ := imJ_2 (by simp [maskB, m7]) hJ
       have y := g6 (by simp [maskB, m9])
       rw [y] at e137
       refine wp_asg (v := .slice A2 (b).length c2) (ch_ev e137) ⟨_, rfl, imJ_k (by simp [maskB, m7]) (by decide) hJ (fun A3 c3 _ h9 _ _ => ⟨fun h => absurd h (by decide), fun h => absurd h (by decide), fun h => absurd h (by decide), fun _ => by have q := h9 (by simp [maskB, m9]); rw [y] at q; exact q, fun h => absurd h (by decide)⟩)⟩
      refine ⟨?_, ?_⟩
      ·intro done cv a wq hn hw hcl h hJ
       have e138 := fr_cv (i := 10) (t := 138) h (hw 10 (by decide)) rfl rfl
       have m7 := hw 7 (by decide)
       have m10 := hw 10 (by decide)
       obtain ⟨A2, c2, y1, _, _, _, _, _, g7, _⟩ := imJ_2 (by simp [maskB, m7]) hJ
       have y := g7 (by simp [maskB, m10])
       rw [y] at e138
       refine wp_asg (v := iv en) (ch_ev e138) ⟨_, rfl, imJ_k (by simp [maskB, m7]) (by decide) hJ (fun A3 c3 _ _ _ _ => ⟨fun h => absurd h (by decide), fun h => absurd h (by decide), fun h => absurd h (by decide), fun h => absurd h (by decide), fun _ => rfl⟩)⟩
      exact trivial
     intro dn cv w4 hall hJ
     obtain ⟨A2, c2, y7, g1, g2, g3, g5, g6, g7, g8, g9⟩ := imJ_2 (hall 7 rfl (by decide)) hJ
     replace g5 := g5 (hall 8 rfl (by decide))
     replace g6 := g6 (hall 9 rfl (by decide))
     replace g7 := g7 (hall 10 rfl (by decide))
     replace g8 := g8 (hall 11 rfl (by decide))
     replace g9 := g9 (hall 12 rfl (by decide))
     simp only [freeAll, putAll_some, putAll_none, putAll_nil, List.getD_cons_zero, List.getD_cons_succ, Bool.false_eq_true, if_true, if_false, reduceIte, Nat.zero_add, Nat.reduceAdd, List.setIfInBounds_toArray, List.set_cons_zero, List.set_cons_succ]
     rw [y7, g5, g6, g7, g8, g9]
     obtain ⟨a0r, a0f, a0n, a0c, a0z, a0l⟩ := keep1 (g := w.heap.size) (cs := devA d L) g3 (by first | (go_simp; done) | (go_simp; rfl)) (by go_simp) (by go_simp)
     obtain ⟨a1r, a1f, a1n, a1c, a1z, a1l⟩ := keep1 (g := w1.heap.size) (cs := recA r) g3 (by first | (go_simp; done) | (go_simp; rfl)) (by go_simp) (by go_simp)
     have hs3 := HB3.out.size
     have HB4 := hD (HB3.out.trans (g3.mono (by omega)))
     have HBB := hD g1
     have HC2 := hD g2
     clear hJ hall y7 g5 g6 g7 g8 g9 g1 g2 g3 hs3 KI KD RD FD RR FR KI0
     by_cases e1 : en ≠ 0
     ·have hz : Hid (n = en) := hD (HR3.out.trans (if_pos e1))
      have q : (en != 0) = true := by simp [e1]
      clear e1
      go_wp2_with fail
      go_ret
      have hs := HB4.out.size
      refine ⟨ret_int hz.out.symm, ?_⟩
      repeat (first | exact HB4.out | refine bR ?_ _ | refine bC ?_ _ | refine bA ?_ _)
     have e1 := Decidable.not_not.1 e1
     subst e1
     obtain ⟨b1, b2, b3⟩ := HBL.out rfl
     have hwr : IntKind.i64.wrap (d.job.size + 8) = d.job.size + 8 := IntWalk.i64_in _ (by omega)
     first
      |
       revert U01; intro U01
       have HR4 : Hid (n = if d.done < 0 ∨ 64 < d.done ∨ d.done % 8 ≠ 0 ∨ d.job.size + 8 ≤ d.done then 2 else if d.s1.take d.done.toNat ≠ (room b).take d.done.toNat then 3 else 0) := hD (HR3.out.trans (if_neg (by decide)))
      | have HR4 : Hid (n = if d.done < 0 ∨ 64 < d.done ∨ d.done % 8 ≠ 0 ∨ d.job.size + 8 ≤ d.done then 2 else if d.s0.take d.done.toNat ≠ (room b).take d.done.toNat then 3 else 0) := hD (HR3.out.trans (if_neg (by decide)))
     have HB1' := hD b1
     clear HR3 b1 b2 HBL
     by_cases c1 : d.done < 0
     ·have hz : Hid (n = 2) := hD (HR4.out.trans (if_pos (.inl c1)))
      go_wp2_with fail
      go_ret
      have hs := HB4.out.size
      refine ⟨ret_int hz.out.symm, ?_⟩
      repeat (first | exact HB4.out | refine bR ?_ _ | refine bC ?_ _ | refine bA ?_ _)
     by_cases c2' : 64 < d.done
     ·have hz : Hid (n = 2) := hD (HR4.out.trans (if_pos (.inr (.inl c2'))))
      have q : (d.s0.length : Int) < d.done := by rw [H0.out]; omega
      go_wp2_with fail
      go_ret
      have hs := HB4.out.size
      refine ⟨ret_int hz.out.symm, ?_⟩
      repeat (first | exact HB4.out | refine bR ?_ _ | refine bC ?_ _ | refine bA ?_ _)
     have q2 : ¬ (d.s0.length : Int) < d.done := by rw [H0.out]; omega
     have hmod : d.done.tmod 8 = d.done % 8 := Int.tmod_eq_emod_of_nonneg (by omega)
     by_cases c3 : d.done % 8 ≠ 0
     ·have hz : Hid (n = 2) := hD (HR4.out.trans (if_pos (.inr (.inr (.inl c3)))))
      have q : (d.done.tmod 8 != 0) = true := by rw [hmod]; simp [c3]
      have c3' : ¬ d.done % 8 = 0 := c3
      clear hmod c3
      go_wp2_with fail
      go_ret
      have hs := HB4.out.size
      refine ⟨ret_int hz.out.symm, ?_⟩
      repeat (first | exact HB4.out | refine bR ?_ _ | refine bC ?_ _ | refine bA ?_ _)
     have q3 : (d.done.tmod 8 != 0) = false := by rw [hmod]; simp; omega
     have c3' : d.done % 8 = 0 := by omega
     by_cases c4 : d.job.size + 8 ≤ d.done
     ·have hz : Hid (n = 2) := hD (HR4.out.trans (if_pos (.inr (.inr (.inr c4)))))
      clear c3
      go_wp2_with fail
      go_ret
      have hs := HB4.out.size
      refine ⟨ret_int hz.out.symm, ?_⟩
      repeat (first | exact HB4.out | refine bR ?_ _ | refine bC ?_ _ | refine bA ?_ _)
     first
      |
       revert U01; intro U01
       have HR5 : Hid (n = if d.s1.take d.done.toNat ≠ (room b).take d.done.toNat then 3 else 0) := hD (HR4.out.trans (if_neg (by omega)))
      | have HR5 : Hid (n = if d.s0.take d.done.toNat ≠ (room b).take d.done.toNat then 3 else 0) := hD (HR4.out.trans (if_neg (by omega)))
     clear c3
     go_wp2_with fail
     obtain ⟨dn', hdn⟩ : ∃ dn' : Nat, d.done = (dn' : Int) := ⟨d.done.toNat, by omega⟩
     have hdt : d.done.toNat = dn' := by omega
     rw [hdt] at HR5
     have hd64 : dn' ≤ 64 := by omega
     have HDN := hD hdn
     clear hmod HR4 hdt
     have RD : Hid (rowOf w4 w.heap.size = devA d L) := hD a0r
     have FD : Hid (frOf w4 w.heap.size = (0, 0)) := hD a0f
     have RR : Hid (rowOf w4 w1.heap.size = recA r) := hD a1r
     have FR : Hid (frOf w4 w1.heap.size = (0, 0)) := hD a1f
     have hrl := room_len HB1'.out
     have hil := HIN.out.stays HB4.out
     first
      |
       revert U01; intro U01
       have HX : Hid (Bts w4 L.a1 d.s1 ∧ d.s1.length ≤ L.c1) := hD ⟨hil.b1, hil.k1⟩
      | have HX : Hid (Bts w4 L.a0 d.s0 ∧ d.s0.length ≤ L.c0) := hD ⟨hil.b0, hil.k0⟩
     first
      |
       revert U01; intro U01
       obtain ⟨bx, ox, hax, -⟩ := HIN.out.b1 0 (by rw [H1.out]; omega)
      | obtain ⟨bx, ox, hax, -⟩ := HIN.out.b0 0 (by rw [H0.out]; omega)
     first
      |
       revert U01; intro U01
       have HSL : Hid (∀ W, (Instr.slice 23 (.slice L.a1 d.s1.length L.c1) none (some (iv d.done)) none).run Tryz.prog W = .ok (.slice L.a1 dn' L.c1) W) := hD (pre_slice dn' hdn HX.out.2 (by rw [H1.out]; omega) (by rw [H1.out]; omega) ⟨bx, ox, hax⟩)
      | have HSL : Hid (∀ W, (Instr.slice 23 (.slice L.a0 d.s0.length L.c0) none (some (iv d.done)) none).run Tryz.prog W = .ok (.slice L.a0 dn' L.c0) W) := hD (pre_slice dn' hdn HX.out.2 (by rw [H0.out]; omega) (by rw [H0.out]; omega) ⟨bx, ox, hax⟩)
     first
      |
       revert U01; intro U01
       obtain ⟨eq, heq⟩ : ∃ eq, decide (d.s1.take dn' = (room b).take dn') = eq := ⟨_, rfl⟩
      | obtain ⟨eq, heq⟩ : ∃ eq, decide (d.s0.take dn' = (room b).take dn') = eq := ⟨_, rfl⟩
     first
      |
       revert U01; intro U01
       have hlt1 : (d.s1.take dn').length = dn' := by rw [List.length_take, H1.out]; omega
      | have hlt1 : (d.s0.take dn').length = dn' := by rw [List.length_take, H0.out]; omega
     have hlt2 : ((room b).take dn').length = dn' := by rw [List.length_take, hrl]; omega
     first
      |
       revert U01; intro U01
       have KQ : Hid (∀ wq A c, Below w4.heap.size w4 wq → Bts wq A ((room b).take dn') → Calls Tryz.prog 66 #[.slice L.a1 dn' L.c1, .slice A dn' c] wq (RetN wq (.bool eq))) := hD (fun wq A c h hb => by
        have hq := equalBytes_calls L.a1 A L.c1 c (d.s1.take dn') ((room b).take dn') wq (by omega) (by omega) (mid_take (HX.out.1.stays h) dn') hb
        rw [heq, hlt1, hlt2] at hq
        exact hq)
      |
       have KQ : Hid (∀ wq A c, Below w4.heap.size w4 wq → Bts wq A ((room b).take dn') → Calls Tryz.prog 66 #[.slice L.a0 dn' L.c0, .slice A dn' c] wq (RetN wq (.bool eq))) := hD (fun wq A c h hb => by
        have hq := equalBytes_calls L.a0 A L.c0 c (d.s0.take dn') ((room b).take dn') wq (by omega) (by omega) (mid_take (HX.out.1.stays h) dn') hb
        rw [heq, hlt1, hlt2] at hq
        exact hq)
     have HQ := hD heq
     have HRL := hD hrl
     obtain ⟨rb, hrb⟩ : ∃ rb, room b = rb := ⟨_, rfl⟩
     rw [hrb] at KQ HQ HRL HR5
     have HRB := hD hrb
     have HLT2 : Hid ((rb.take dn').length = dn') := hD (by rw [← hrb]; exact hlt2)
     clear hrl hil hax heq hlt1 hlt2 hdn hrb
     first
      |
       revert U01; intro U01
       refine wp_region_mix (by kernel_rfl) (some 169 :: some 170 :: some 171 :: some 172 :: some 173 :: some 174 :: some 175 :: some 176 :: some 177 :: some 178 :: some 179 :: some 180 :: some 181 :: some 182 :: some 183 :: some 184 :: []) (none :: none :: none :: none :: none :: none :: none :: none :: none :: none :: some 0 :: none :: none :: some 1 :: some 2 :: some 3 :: []) (.pointer (some ⟨w1.heap.size, 1, none⟩) :: iv 0 :: iv 1 :: .pointer (some ⟨w.heap.size, 0, none⟩) :: .pointer (some ⟨w.heap.size, 1, none⟩) :: .slice L.a1 d.s1.length L.c1 :: .pointer (some ⟨w.heap.size, 36, none⟩) :: iv d.done :: .slice L.a1 dn' L.c1 :: .slice A2 b.length c2 :: undef :: .pointer (some ⟨w.heap.size, 36, none⟩) :: iv d.done :: undef :: undef :: undef :: []) 4 (rmJ w4 rb dn' eq) 185 rfl rfl (by decide +kernel) (by decide +kernel) (by decide +kernel) (by decide +kernel) rfl rfl (by decide +kernel) (by decide +kernel) (rfl) ?_ ?_
      | refine wp_region_mix (by kernel_rfl) (some 169 :: some 170 :: some 171 :: some 172 :: some 173 :: some 174 :: some 175 :: some 176 :: some 177 :: some 178 :: some 179 :: some 180 :: some 181 :: some 182 :: some 183 :: some 184 :: []) (none :: none :: none :: none :: none :: none :: none :: none :: none :: none :: some 0 :: none :: none :: some 1 :: some 2 :: some 3 :: []) (.pointer (some ⟨w1.heap.size, 1, none⟩) :: iv 1 :: iv 0 :: .pointer (some ⟨w.heap.size, 0, none⟩) :: .pointer (some ⟨w.heap.size, 0, none⟩) :: .slice L.a0 d.s0.length L.c0 :: .pointer (some ⟨w.heap.size, 36, none⟩) :: iv d.done :: .slice L.a0 dn' L.c0 :: .slice A2 b.length c2 :: undef :: .pointer (some ⟨w.heap.size, 36, none⟩) :: iv d.done :: undef :: undef :: undef :: []) 4 (rmJ w4 rb dn' eq) 185 rfl rfl (by decide +kernel) (by decide +kernel) (by decide +kernel) (by decide +kernel) rfl rfl (by decide +kernel) (by decide +kernel) (rfl) ?_ ?_
     ·refine ⟨?_, ?_⟩
      ·intro done cv k0 a wq hw h hJ hn
       have e5 := mO 5 (.pointer (some ⟨w1.heap.size, 0, none⟩)) h
       go_simp
      refine ⟨?_, ?_⟩
      ·intro done cv k0 a wq hw h hJ hn
       have e169 := mN 0 169 h hw
       obtain ⟨r_, f_, n_, c_, z_, l_⟩ := keep1 (rmJ_bel hJ) RR.out (by go_simp) FR.out
       have hk_ := HK.out
       go_simp
      refine ⟨?_, ?_⟩
      ·intro done cv k0 a wq hw h hJ hn
       have e170 := mN 1 170 h hw
       first | (go_simp; done) | (go_simp; rfl) | (go_simp; decide)
      refine ⟨?_, ?_⟩
      ·intro done cv k0 a wq hw h hJ hn
       have e1 := mO 1 (.pointer (some ⟨w.heap.size, 0, none⟩)) h
       go_simp
      refine ⟨?_, ?_⟩
      ·intro done cv k0 a wq hw h hJ hn
       have e172 := mN 3 172 h hw; have e171 := mN 2 171 h hw
       go_simp
      refine ⟨?_, ?_⟩
      ·intro done cv k0 a wq hw h hJ hn
       have e173 := mN 4 173 h hw
       obtain ⟨r_, f_, n_, c_, z_, l_⟩ := keep1 (rmJ_bel hJ) RD.out (by go_simp) FD.out
       go_simp
      refine ⟨?_, ?_⟩
      ·intro done cv k0 a wq hw h hJ hn
       have e1 := mO 1 (.pointer (some ⟨w.heap.size, 0, none⟩)) h
       go_simp
      refine ⟨?_, ?_⟩
      ·intro done cv k0 a wq hw h hJ hn
       have e175 := mN 6 175 h hw
       obtain ⟨r_, f_, n_, c_, z_, l_⟩ := keep1 (rmJ_bel hJ) RD.out (by go_simp) FD.out
       go_simp
      refine ⟨?_, ?_⟩
      ·intro done cv k0 a wq hw h hJ hn
       have e174 := mN 5 174 h hw; have e176 := mN 7 176 h hw
       have hs_ := HSL.out
       go_simp
      refine ⟨?_, ?_⟩
      ·intro done cv k0 a wq hw h hJ hn
       have e9 := mO 9 (.slice A2 b.length c2) h
       exact mx_move (ch_ev e9)
      refine ⟨?_, ?_⟩
      ·intro done cv a wq hw h hJ
       have e178 := mN 9 178 h hw
       obtain rfl : wq = w4.drew := hJ
       refine wp_call (vals := #[.slice A2 b.length c2]) (by rw [List.map_toArray, List.map_cons, List.map_nil, ch_ev e178]) (enters_of Tryz.func67 (by kernel_rfl) rfl _ _) (room_calls A2 c2 b _ HB1'.out (HBB.out.stays (Below.refl _ _).drew)) ?_
       rintro e w' ⟨A5, c5, rfl, hown, hbel⟩
       rw [HRB.out] at hown ⊢
       exact ⟨_, rfl, _, rfl, A5, c5, by simp, hown.src.bts, hown.le, (Below.refl _ _).drew.trans hbel⟩
      refine ⟨?_, ?_⟩
      ·intro done cv k0 a wq hw h hJ hn
       have e1 := mO 1 (.pointer (some ⟨w.heap.size, 0, none⟩)) h
       go_simp
      refine ⟨?_, ?_⟩
      ·intro done cv k0 a wq hw h hJ hn
       have e180 := mN 11 180 h hw
       obtain ⟨r_, f_, n_, c_, z_, l_⟩ := keep1 (rmJ_bel hJ) RD.out (by go_simp) FD.out
       go_simp
      refine ⟨?_, ?_⟩
      ·intro done cv a wq hw h hJ
       have e179 := mx_cv (i := 10) (t := 179) h (hw 10 (by decide)) rfl rfl; have e181 := mN 12 181 h hw
       obtain ⟨A5, c5, y1, g1, g2, g3⟩ := hJ
       rw [y1] at e179
       obtain ⟨by_, oy_, hay, -⟩ := g1 0 (by rw [HRL.out]; omega)
       have hs_ := pre_slice (z := d.done) dn' HDN.out g2 (by rw [HRL.out]; omega) (by rw [HRL.out]; omega) ⟨by_, oy_, hay⟩
       clear hay
       refine wp_val (v := .slice A5 dn' c5) (by go_simp) ⟨_, rfl, A5, c5, by simp, mid_take g1 dn', by rw [HRL.out] at g2; omega, g3⟩
      refine ⟨?_, ?_⟩
      ·intro done cv a wq hw h hJ
       have e177 := mN 8 177 h hw; have e182 := mx_cv (i := 13) (t := 182) h (hw 13 (by decide)) rfl rfl
       obtain ⟨A5, c5, y1, g1, g2, g3⟩ := hJ
       rw [y1] at e182
       first
        |
         revert U01; intro U01
         refine wp_call (vals := #[.slice L.a1 dn' L.c1, .slice A5 dn' c5]) (by rw [List.map_toArray, List.map_cons, List.map_cons, List.map_nil, ch_ev e177, ch_ev e182]) (enters_of Tryz.func66 (by kernel_rfl) rfl _ _) (KQ.out _ _ _ g3 g1) ?_
        | refine wp_call (vals := #[.slice L.a0 dn' L.c0, .slice A5 dn' c5]) (by rw [List.map_toArray, List.map_cons, List.map_cons, List.map_nil, ch_ev e177, ch_ev e182]) (enters_of Tryz.func66 (by kernel_rfl) rfl _ _) (KQ.out _ _ _ g3 g1) ?_
       rintro e w' ⟨rfl, m, rfl⟩
       exact ⟨_, rfl, _, rfl, by simp, Below.drewN' g3 m⟩
      refine ⟨?_, ?_⟩
      ·intro done cv a wq hw h hJ
       have e183 := mx_cv (i := 14) (t := 183) h (hw 14 (by decide)) rfl rfl
       obtain ⟨y1, g3⟩ := hJ
       rw [y1] at e183
       refine wp_val (v := .bool (!eq)) (by go_simp) ⟨_, rfl, by simp, g3⟩
      exact trivial
     intro cv5 w5 hJ
     obtain ⟨y15, hb5⟩ := hJ
     simp only [mixAll, putAll_some, putAll_none, putAll_nil, List.getElem?_cons_zero, List.getElem?_cons_succ, Nat.zero_add, Nat.reduceAdd, List.setIfInBounds_toArray, List.set_cons_zero, List.set_cons_succ]
     rw [y15]
     have HB5 := hD (HB4.out.trans (hb5.mono HB4.out.size))
     clear hb5 y15
     cases eq
     ·have hz : Hid (n = 3) := hD (HR5.out.trans (if_pos (by have := HQ.out; simpa using this)))
      go_wp2_with fail
      go_ret
      have hs := HB5.out.size
      refine ⟨ret_int hz.out.symm, ?_⟩
      repeat (first | exact HB5.out | refine bR ?_ _ | refine bC ?_ _ | refine bA ?_ _)
     ·have hz : Hid (n = 0) := hD (HR5.out.trans (if_neg (by have := HQ.out; simpa using this)))
      go_wp2_with fail
      go_ret
      have hs := HB5.out.size
      refine ⟨ret_int hz.out.symm, ?_⟩
      repeat (first | exact HB5.out | refine bR ?_ _ | refine bC ?_ _ | refine bA ?_ _)
end Go.Proofs.YtefkfglkpebbmadGreat
