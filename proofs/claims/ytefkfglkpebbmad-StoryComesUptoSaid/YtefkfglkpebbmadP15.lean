/- Walks of functions, and plain words. No conditions. -/
import Derived.Test.YtefkfglkpebbmadP14
set_option linter.unusedVariables false
set_option linter.unusedSimpArgs false
set_option maxRecDepth 100000
set_option maxHeartbeats 40000000
namespace Go.Proofs.Ytefkfglkpebbmad
open Go.RowKit
variable {x : Wor} {w : World}
theorem stoRuns_bad (h : worCheck x ≠ 0) : stoRuns x = (0, [], worCheck x) := by unfold stoRuns; rw [if_pos h]
theorem stoRuns_off (h : worCheck x = 0) (hu : x.d.up = false) : stoRuns x = (0, [], 5) := by unfold stoRuns; rw [if_neg (by omega), if_pos hu]
theorem stoRuns_up (h : worCheck x = 0) (hu : x.d.up = true) : stoRuns x = ((x.d.rec_.at_ x.d.running).ver, x.d.image x.d.running x.d.rec_, 0) := by unfold stoRuns; rw [if_neg (by omega), if_neg (by rw [hu]; simp)]
def SrRet (w : World) (v : Int) (b : List UInt8) (n : Int) : Ending → World → Prop := fun en w' =>
 ∃ A c, en = .returned (.tuple #[iv v, .slice A b.length c, iv n]) ∧ b.length ≤ c ∧ Fresh w.heap.size w' (fun v => Bts v A b) ∧ Below w.heap.size w w'
def srJ (w0 : World) (b : List UInt8) : Nat → (Nat → Value) → World → Prop
 | 0, _, w => w = w0.drew
 | 1, cv, w => ∃ A c, cv 12 = .slice A b.length c ∧ Own w w0.heap.size 5 1 A b.length c (b.map bv) ∧ Below w0.heap.size w0 w
 | _, cv, w => ∃ A c, cv 14 = .slice A b.length c ∧ Own w w0.heap.size 5 1 A b.length c (b.map bv) ∧ Below w0.heap.size w0 w
theorem srJ_bel {w0 : World} {b : List UInt8} {k : Nat} {cv : Nat → Value} (hJ : srJ w0 b k cv w) : Below w0.heap.size w0 w := by
 match k, hJ with
 | 0, hJ => obtain rfl : w = w0.drew := hJ; exact (Below.refl _ _).drew
 | 1, ⟨_, _, _, _, h⟩ => exact h
 | n + 2, ⟨_, _, _, _, h⟩ => exact h
theorem stoRuns_calls (x : Wor) (L : WLoc) (w : World) (h : WorIn w x L) : Calls Try.prog 11 #[.agg (worA x L)] w (SrRet w (stoRuns x).1 (stoRuns x).2.1 (stoRuns x).2.2) := by
 have HBA : Hid (Below w.heap.size w (w.alloc (.cells (worA x L) 41))) := hD ((Below.refl _ _).alloc (Nat.le_refl _) _)
 have HIN := hD h
 have K1 := hD (fun w h => worCheck_calls x L w h)
 by_cases hc : worCheck x ≠ 0
 ·rw [stoRuns_bad hc]
  have q : (worCheck x != 0) = true := by simp [hc]
  generalize worCheck x = n at *
  clear hc h
  go_enter Try.func11, Try.ntmps11
  go_wp2_with fail
  refine (K1.out _ (HIN.out.stays HBA.out)).mono ?_
  rintro e w1 ⟨rfl, hb⟩
  obtain ⟨a0r, a0f, a0n, a0c, a0z, a0l⟩ := kp (w.heap.size) (worA x L) hb
  have hs1 : w.heap.size + 1 ≤ w1.heap.size := by have := hb.size; simpa using this
  have HB1 : Hid (Below w.heap.size w w1) := hD (HBA.out.trans (hb.mono (by simp)))
  clear hb
  go_wp2_with fail
  go_ret3
  exact ⟨none, 0, rfl, Nat.le_refl _, fun _ _ => bts_nil _ _, HB1.out⟩
 have hc := Decidable.not_not.1 hc
 have hok := (worCheck_ok.1 hc).dev
 rw [hc] at K1
 cases hu : x.d.up
 ·rw [stoRuns_off hc hu]
  clear hc h hok
  go_enter Try.func11, Try.ntmps11
  go_wp2_with fail
  refine (K1.out _ (HIN.out.stays HBA.out)).mono ?_
  rintro e w1 ⟨rfl, hb⟩
  obtain ⟨a0r, a0f, a0n, a0c, a0z, a0l⟩ := kp (w.heap.size) (worA x L) hb
  have hs1 : w.heap.size + 1 ≤ w1.heap.size := by have := hb.size; simpa using this
  have HB1 : Hid (Below w.heap.size w w1) := hD (HBA.out.trans (hb.mono (by simp)))
  clear hb
  go_wp2_with fail
  go_ret3
  exact ⟨none, 0, rfl, Nat.le_refl _, fun _ _ => bts_nil _ _, HB1.out⟩
 rw [stoRuns_up hc hu]
 have hrec := rec_ok hok
 have K2 := hD (fun w => read_ok x.d.c0 x.d.c1 w hok.cops)
 obtain ⟨rk, hrk⟩ : ∃ rk, (recRead x.d.c0 x.d.c1).2 = rk := ⟨_, rfl⟩
 have hre : (recRead x.d.c0 x.d.c1).1 = x.d.rec_ := rfl
 rw [hrk, hre] at K2
 have hrun := (hok.run hu).1
 clear hc h hrk hre
 rcases hrun with hk | hk
 first | case' inl => have T2 : Hid True := hD trivial | case' pos => have T2 : Hid True := hD trivial | case' refine_1 => have T2 : Hid True := hD trivial
 iterate 2
  ·first
    |
     revert T2; intro T2
     have hver : (x.d.rec_.at_ x.d.running).ver = x.d.rec_.a.ver := by rw [hk, at_0]
    | have hver : (x.d.rec_.at_ x.d.running).ver = x.d.rec_.b.ver := by rw [hk, at_1]
   first
    |
     revert T2; intro T2
     have himg : x.d.image x.d.running x.d.rec_ = x.d.s0.take x.d.rec_.a.size.toNat := by rw [hk]; unfold Dev.image; rw [at_0]; simp [Dev.slot]
    | have himg : x.d.image x.d.running x.d.rec_ = x.d.s1.take x.d.rec_.b.size.toNat := by rw [hk]; unfold Dev.image; rw [at_1]; simp [Dev.slot]
   first
    |
     revert T2; intro T2
     have hsz := (recCheck_parts hrec).2.1
    | have hsz := (recCheck_parts hrec).2.2.1
   first
    |
     revert T2; intro T2
     have hsz2 : 0 ≤ x.d.rec_.a.size ∧ x.d.rec_.a.size ≤ 64 := by
      unfold infCheck at hsz
      by_cases hh : InfRange x.d.rec_.a
      ·unfold InfRange at hh; omega
      ·rw [if_neg hh] at hsz; exact absurd hsz (by decide)
    |
     have hsz2 : 0 ≤ x.d.rec_.b.size ∧ x.d.rec_.b.size ≤ 64 := by
      unfold infCheck at hsz
      by_cases hh : InfRange x.d.rec_.b
      ·unfold InfRange at hh; omega
      ·rw [if_neg hh] at hsz; exact absurd hsz (by decide)
   first
    |
     revert T2; intro T2
     obtain ⟨y, hy⟩ : ∃ y : Nat, x.d.rec_.a.size = (y : Int) := ⟨x.d.rec_.a.size.toNat, by omega⟩
    | obtain ⟨y, hy⟩ : ∃ y : Nat, x.d.rec_.b.size = (y : Int) := ⟨x.d.rec_.b.size.toNat, by omega⟩
   first
    |
     revert T2; intro T2
     rw [show x.d.rec_.a.size.toNat = y by omega] at himg
    | rw [show x.d.rec_.b.size.toNat = y by omega] at himg
   first
    |
     revert T2; intro T2
     obtain ⟨b, hb⟩ : ∃ b, x.d.s0.take y = b := ⟨_, rfl⟩
    | obtain ⟨b, hb⟩ : ∃ b, x.d.s1.take y = b := ⟨_, rfl⟩
   rw [hver, himg, hb]
   first
    |
     revert T2; intro T2
     have hbl : b.length = y := by rw [← hb, List.length_take, hok.l0]; omega
    | have hbl : b.length = y := by rw [← hb, List.length_take, hok.l1]; omega
   have HBL := hD hbl
   first
    |
     revert T2; intro T2
     have HBT : Hid (Bts w L.l.a0 b) := hD (by rw [← hb]; exact mid_take HIN.out.dev.b0 y)
    | have HBT : Hid (Bts w L.l.a1 b) := hD (by rw [← hb]; exact mid_take HIN.out.dev.b1 y)
   first
    |
     revert T2; intro T2
     obtain ⟨ba, oa, hAa, -⟩ := HIN.out.dev.b0 0 (by rw [hok.l0]; decide)
    | obtain ⟨ba, oa, hAa, -⟩ := HIN.out.dev.b1 0 (by rw [hok.l1]; decide)
   first
    |
     revert T2; intro T2
     have HSL : Hid (∀ W, (Instr.slice 24 (.slice L.l.a0 x.d.s0.length L.l.c0) none (some (iv x.d.rec_.a.size)) none).run Try.prog W = .ok (.slice L.l.a0 b.length L.l.c0) W) := hD (by rw [hbl]; exact pre_slice y hy HIN.out.dev.k0 (by rw [hok.l0]; omega) (by rw [hok.l0]; decide) ⟨ba, oa, hAa⟩)
    | have HSL : Hid (∀ W, (Instr.slice 24 (.slice L.l.a1 x.d.s1.length L.l.c1) none (some (iv x.d.rec_.b.size)) none).run Try.prog W = .ok (.slice L.l.a1 b.length L.l.c1) W) := hD (by rw [hbl]; exact pre_slice y hy HIN.out.dev.k1 (by rw [hok.l1]; omega) (by rw [hok.l1]; decide) ⟨ba, oa, hAa⟩)
   have HB64 : Hid (b.length ≤ 64) := hD (by omega)
   have HK := hD hk
   clear hver himg hsz hsz2 hy hb hbl hAa hrec hok
   go_enter Try.func11, Try.ntmps11
   go_wp2_with fail
   refine (K1.out _ (HIN.out.stays HBA.out)).mono ?_
   rintro e w1 ⟨rfl, hb⟩
   obtain ⟨a0r, a0f, a0n, a0c, a0z, a0l⟩ := kp (w.heap.size) (worA x L) hb
   have hs1 : w.heap.size + 1 ≤ w1.heap.size := by have := hb.size; simpa using this
   have HB1 : Hid (Below w.heap.size w w1) := hD (HBA.out.trans (hb.mono (by simp)))
   clear hb
   go_wp2_with fail
   refine (K2.out _).mono ?_
   rintro e w2 ⟨rfl, hb⟩
   obtain ⟨a0r, a0f, a0n, a0c, a0z, a0l⟩ := kp (w.heap.size) (worA x L) hb
   have hs2 : w1.heap.size ≤ w2.heap.size := hb.size
   have HB2 : Hid (Below w.heap.size w w2) := hD (HB1.out.trans (hb.mono HB1.out.size))
   clear hb
   go_wp2_with fail
   first
    |
     revert T2; intro T2
     obtain ⟨w3, hw3⟩ : ∃ w3, (w2.alloc (.cells (recA x.d.rec_) 30)).alloc (.cells (infA x.d.rec_.a) 27) = w3 := ⟨_, rfl⟩
    | obtain ⟨w3, hw3⟩ : ∃ w3, (w2.alloc (.cells (recA x.d.rec_) 30)).alloc (.cells (infA x.d.rec_.b) 27) = w3 := ⟨_, rfl⟩
   have z1 : rowOf w3 w.heap.size = worA x L := by rw [← hw3, rowOf_alloc, if_neg (by simp; omega), rowOf_alloc, if_neg (by omega)]; exact a0r
   have z2 : frOf w3 w.heap.size = (0, 0) := by rw [← hw3, frOf_alloc, if_neg (by simp; omega), frOf_alloc, if_neg (by omega)]; exact a0f
   first
    |
     revert T2; intro T2
     have z3 : rowOf w3 (w2.heap.size + 1) = infA x.d.rec_.a := by rw [← hw3, rowOf_alloc, if_pos (by simp)]
    | have z3 : rowOf w3 (w2.heap.size + 1) = infA x.d.rec_.b := by rw [← hw3, rowOf_alloc, if_pos (by simp)]
   have z4 : frOf w3 (w2.heap.size + 1) = (0, 0) := by rw [← hw3, frOf_alloc, if_pos (by simp)]
   have HB3 : Hid (Below w.heap.size w w3) := hD (by rw [← hw3]; exact (HB2.out.alloc HB2.out.size _).alloc (by simp; omega) _)
   try rw [hw3]
   have RW := hD z1
   have FW := hD z2
   have RX := hD z3
   have FX := hD z4
   clear hw3 z1 z2 z3 z4 a0r a0f a0n a0c a0z a0l hk
   first
    |
     revert T2; intro T2
     refine wp_region_mix (by kernel_rfl) (some 33 :: some 34 :: some 35 :: some 36 :: some 37 :: some 38 :: some 39 :: some 40 :: some 41 :: some 42 :: some 43 :: some 44 :: some 45 :: some 2 :: some 3 :: some 4 :: []) (none :: none :: none :: none :: none :: none :: none :: none :: none :: none :: none :: none :: some 0 :: none :: some 1 :: none :: []) (.pointer (some ⟨w2.heap.size + 1, 0, none⟩) :: iv x.d.rec_.a.ver :: .pointer (some ⟨w.heap.size, 1, none⟩) :: .pointer (some ⟨w.heap.size, 28, none⟩) :: iv 0 :: .pointer (some ⟨w.heap.size, 1, none⟩) :: .pointer (some ⟨w.heap.size, 1, none⟩) :: .pointer (some ⟨w.heap.size, 1, none⟩) :: .slice L.l.a0 x.d.s0.length L.l.c0 :: .pointer (some ⟨w2.heap.size + 1, 1, none⟩) :: iv x.d.rec_.a.size :: .slice L.l.a0 b.length L.l.c0 :: undef :: iv x.d.rec_.a.ver :: undef :: .int .i64 0 :: []) 2 (srJ w3 b) 46 rfl rfl (by decide +kernel) (by decide +kernel) (by decide +kernel) (by decide +kernel) rfl rfl (by decide +kernel) (by decide +kernel) (rfl) ?_ ?_
    | refine wp_region_mix (by kernel_rfl) (some 33 :: some 34 :: some 35 :: some 36 :: some 37 :: some 38 :: some 39 :: some 40 :: some 41 :: some 42 :: some 43 :: some 44 :: some 45 :: some 2 :: some 3 :: some 4 :: []) (none :: none :: none :: none :: none :: none :: none :: none :: none :: none :: none :: none :: some 0 :: none :: some 1 :: none :: []) (.pointer (some ⟨w2.heap.size + 1, 0, none⟩) :: iv x.d.rec_.b.ver :: .pointer (some ⟨w.heap.size, 1, none⟩) :: .pointer (some ⟨w.heap.size, 28, none⟩) :: iv 1 :: .pointer (some ⟨w.heap.size, 1, none⟩) :: .pointer (some ⟨w.heap.size, 1, none⟩) :: .pointer (some ⟨w.heap.size, 2, none⟩) :: .slice L.l.a1 x.d.s1.length L.l.c1 :: .pointer (some ⟨w2.heap.size + 1, 1, none⟩) :: iv x.d.rec_.b.size :: .slice L.l.a1 b.length L.l.c1 :: undef :: iv x.d.rec_.b.ver :: undef :: .int .i64 0 :: []) 2 (srJ w3 b) 46 rfl rfl (by decide +kernel) (by decide +kernel) (by decide +kernel) (by decide +kernel) rfl rfl (by decide +kernel) (by decide +kernel) (rfl) ?_ ?_
   ·refine ⟨?_, ?_⟩
    ·intro done cv k0 a wq hw h hJ hn
     have e9 := mO 9 (.pointer (some ⟨w2.heap.size + 1, 0, none⟩)) h
     go_simp
    refine ⟨?_, ?_⟩
    ·intro done cv k0 a wq hw h hJ hn
     have e33 := mN 0 33 h hw
     obtain ⟨r_, f_, n_, c_, z_, l_⟩ := keep1 (srJ_bel hJ) RX.out (by go_simp) FX.out
     go_simp
    refine ⟨?_, ?_⟩
    ·intro done cv k0 a wq hw h hJ hn
     have e1 := mO 1 (.pointer (some ⟨w.heap.size, 0, none⟩)) h
     go_simp
    refine ⟨?_, ?_⟩
    ·intro done cv k0 a wq hw h hJ hn
     have e35 := mN 2 35 h hw
     go_simp
    refine ⟨?_, ?_⟩
    ·intro done cv k0 a wq hw h hJ hn
     have e36 := mN 3 36 h hw
     obtain ⟨r_, f_, n_, c_, z_, l_⟩ := keep1 (srJ_bel hJ) RW.out (by go_simp) FW.out
     have hk_ := HK.out
     go_simp
    refine ⟨?_, ?_⟩
    ·intro done cv k0 a wq hw h hJ hn
     have e1 := mO 1 (.pointer (some ⟨w.heap.size, 0, none⟩)) h
     go_simp
    refine ⟨?_, ?_⟩
    ·intro done cv k0 a wq hw h hJ hn
     have e38 := mN 5 38 h hw
     go_simp
    refine ⟨?_, ?_⟩
    ·intro done cv k0 a wq hw h hJ hn
     have e39 := mN 6 39 h hw; have e37 := mN 4 37 h hw
     go_simp
    refine ⟨?_, ?_⟩
    ·intro done cv k0 a wq hw h hJ hn
     have e40 := mN 7 40 h hw
     obtain ⟨r_, f_, n_, c_, z_, l_⟩ := keep1 (srJ_bel hJ) RW.out (by go_simp) FW.out
     go_simp
    refine ⟨?_, ?_⟩
    ·intro done cv k0 a wq hw h hJ hn
     have e9 := mO 9 (.pointer (some ⟨w2.heap.size + 1, 0, none⟩)) h
     go_simp
    refine ⟨?_, ?_⟩
    ·intro done cv k0 a wq hw h hJ hn
     have e42 := mN 9 42 h hw
     obtain ⟨r_, f_, n_, c_, z_, l_⟩ := keep1 (srJ_bel hJ) RX.out (by go_simp) FX.out
     go_simp
    refine ⟨?_, ?_⟩
    ·intro done cv k0 a wq hw h hJ hn
     have e41 := mN 8 41 h hw; have e43 := mN 10 43 h hw
     have hs_ := HSL.out
     go_simp
    refine ⟨?_, ?_⟩
    ·intro done cv a wq hw h hJ
     have e44 := mN 11 44 h hw
     obtain rfl : wq = w3.drew := hJ
     first
      |
       revert T2; intro T2
       refine wp_call (vals := #[.slice L.l.a0 b.length L.l.c0]) (by rw [List.map_toArray, List.map_cons, List.map_nil, ch_ev e44]) (enters_of Try.func26 (by kernel_rfl) rfl _ _) (cloneBytes_calls _ b.length _ (b.map bv) _ (by simp) (by have := HB64.out; omega) ((HBT.out.stays HB3.out).stays ((Below.refl _ _).drew)).src (bv_one _)) ?_
      | refine wp_call (vals := #[.slice L.l.a1 b.length L.l.c1]) (by rw [List.map_toArray, List.map_cons, List.map_nil, ch_ev e44]) (enters_of Try.func26 (by kernel_rfl) rfl _ _) (cloneBytes_calls _ b.length _ (b.map bv) _ (by simp) (by have := HB64.out; omega) ((HBT.out.stays HB3.out).stays ((Below.refl _ _).drew)).src (bv_one _)) ?_
     rintro e w' ⟨A5, c5, rfl, hown, hbel⟩
     exact ⟨_, rfl, _, rfl, A5, c5, by simp, hown, (Below.refl _ _).drew.trans hbel⟩
    refine ⟨?_, ?_⟩
    ·intro done cv k0 a wq hw h hJ hn
     have e34 := mN 1 34 h hw
     exact mx_assign (ch_ev e34)
    refine ⟨?_, ?_⟩
    ·intro done cv a wq hw h hJ
     have e45 := mx_cv (i := 12) (t := 45) h (hw 12 (by decide)) rfl rfl
     obtain ⟨A5, c5, y1, hown, hbel⟩ := hJ
     rw [y1] at e45
     exact wp_asg (ch_ev e45) ⟨_, rfl, A5, c5, by simp, hown, hbel⟩
    refine ⟨?_, ?_⟩
    ·intro done cv k0 a wq hw h hJ hn
     exact mx_assign rfl
    exact trivial
   intro cv4 w4 hJ
   obtain ⟨A5, c5, y14, hown, hbel⟩ := hJ
   simp only [mixAll, putAll_some, putAll_none, putAll_nil, List.getElem?_cons_zero, List.getElem?_cons_succ, Nat.zero_add, Nat.reduceAdd, List.setIfInBounds_toArray, List.set_cons_zero, List.set_cons_succ]
   rw [y14]
   have HB4 : Hid (Below w.heap.size w w4) := hD (HB3.out.trans (hbel.mono HB3.out.size))
   have HO := hD hown
   clear hown hbel y14
   go_wp2_with fail
   go_ret3
   exact ⟨A5, c5, rfl, HO.out.le, fun v hv => (own_fresh (HO.out.mono HB3.out.size) hv).src.bts, HB4.out⟩
theorem stoNext_bad (h : worCheck x ≠ 0) : stoNext x = (0, worCheck x) := by unfold stoNext; rw [if_pos h]
theorem stoNext_ok (h : worCheck x = 0) : stoNext x = if (devBoot x.d.off).2 ≠ 0 then (0, (devBoot x.d.off).2) else (((devBoot x.d.off).1.rec_.at_ (devBoot x.d.off).1.running).ver, 0) := by unfold stoNext; rw [if_neg (by omega)]
theorem booted_ok {d : Dev} (h : (devBoot d).2 = 0) : DevOk (devBoot d).1 ∧ ((devBoot d).1.running = 0 ∨ (devBoot d).1.running = 1) := by
 obtain ⟨h1, h2⟩ := boot_parts h
 rw [h2]
 have h3 := boot_ok_dev h1
 exact ⟨h3, (h3.run (by unfold Dev.boots; split <;> rfl)).1⟩
theorem stoNext_calls (x : Wor) (L : WLoc) (w : World) (h : WorIn w x L) : Calls Try.prog 9 #[.agg (worA x L)] w (RetB w (.tuple #[iv (stoNext x).1, iv (stoNext x).2])) := by
 have HBA : Hid (Below w.heap.size w (w.alloc (.cells (worA x L) 41))) := hD ((Below.refl _ _).alloc (Nat.le_refl _) _)
 have HIN := hD h
 have K1 := hD (fun w h => worCheck_calls x L w h)
 by_cases hc : worCheck x ≠ 0
 ·rw [stoNext_bad hc]
  have q : (worCheck x != 0) = true := by simp [hc]
  generalize worCheck x = n at *
  clear hc h
  go_enter Try.func9, Try.ntmps9
  go_wp2_with fail
  refine (K1.out _ (HIN.out.stays HBA.out)).mono ?_
  rintro e w1 ⟨rfl, hb⟩
  obtain ⟨a0r, a0f, a0n, a0c, a0z, a0l⟩ := kp (w.heap.size) (worA x L) hb
  have hs1 : w.heap.size + 1 ≤ w1.heap.size := by have := hb.size; simpa using this
  have HB1 : Hid (Below w.heap.size w w1) := hD (HBA.out.trans (hb.mono (by simp)))
  clear hb
  go_wp2_with fail
  go_ret2
  refine ⟨rfl, ?_⟩
  have hs := HB1.out.size
  repeat (first | exact HB1.out | refine bR ?_ _ | refine bC ?_ _ | refine bA ?_ _)
 have hc := Decidable.not_not.1 hc
 have hdef := stoNext_ok hc
 have hok := (worCheck_ok.1 hc).dev
 obtain ⟨res, hres⟩ : ∃ res, stoNext x = res := ⟨_, rfl⟩
 rw [hres] at hdef ⊢
 have HD := hD hdef
 rw [hc] at K1
 have KB := hD (fun L w h => devBoot_calls x.d.off L w h)
 clear hc h hdef hres
 cases hu : x.d.up
 ·have hoff : x.d.off = x.d := by unfold Dev.off; rw [hu]; rfl
  rw [hoff] at HD KB
  clear hok hoff
  go_enter Try.func9, Try.ntmps9
  go_wp2_with fail
  refine (K1.out _ (HIN.out.stays HBA.out)).mono ?_
  rintro e w1 ⟨rfl, hb⟩
  obtain ⟨a0r, a0f, a0n, a0c, a0z, a0l⟩ := kp (w.heap.size) (worA x L) hb
  have hs1 : w.heap.size + 1 ≤ w1.heap.size := by have := hb.size; simpa using this
  have HB1 : Hid (Below w.heap.size w w1) := hD (HBA.out.trans (hb.mono (by simp)))
  clear hb
  obtain ⟨⟨d3, e3⟩, hd3⟩ : ∃ z, devBoot x.d = z := ⟨_, rfl⟩
  have hbk := @booted_ok x.d
  rw [hd3] at HD KB hbk
  go_wp2_with fail
  refine (KB.out _ _ ?_).mono ?_
  ·refine HIN.out.dev.stays ?_
   have hs := HB1.out.size
   repeat (first | exact HB1.out | refine bR ?_ _ | refine bC ?_ _ | refine bA ?_ _)
  rintro e w2 ⟨L3, rfl, hfr3, hb⟩
  obtain ⟨a0r, a0f, a0n, a0c, a0z, a0l⟩ := kp (w1.heap.size) (devA x.d L.l) hb
  have hs2 : w1.heap.size + 1 ≤ w2.heap.size := by have := hb.size; first | omega | (simp [World.setRow] at this; omega)
  have HB2 : Hid (Below w.heap.size w w2) := hD (by
   refine Below.trans ?_ (hb.mono (by first | omega | (simp [World.setRow] <;> omega)))
   repeat (first | exact HB1.out | refine bR ?_ _ | refine bA ?_ _))
  clear hb hd3 hfr3
  by_cases c3 : e3 ≠ 0
  ·have hz : res = (0, e3) := HD.out.trans (if_pos c3)
   subst hz
   have q : (e3 != 0) = true := by simp [c3]
   clear c3 hbk
   go_wp2_with fail
   go_ret2
   refine ⟨rfl, ?_⟩
   have hs := HB2.out.size
   repeat (first | exact HB2.out | refine bR ?_ _ | refine bC ?_ _ | refine bA ?_ _)
  have c3 := Decidable.not_not.1 c3
  subst c3
  have hz : res = ((d3.rec_.at_ d3.running).ver, 0) := HD.out.trans (if_neg (by simp))
  subst hz
  obtain ⟨hok3, hrun⟩ := hbk rfl
  try dsimp only at hok3 hrun
  have K2 := hD (fun w => read_ok d3.c0 d3.c1 w hok3.cops)
  obtain ⟨rk, hrk⟩ : ∃ rk, (recRead d3.c0 d3.c1).2 = rk := ⟨_, rfl⟩
  have hre : (recRead d3.c0 d3.c1).1 = d3.rec_ := rfl
  rw [hrk, hre] at K2
  clear hok3 hrk hre HD KB
  go_wp2_with fail
  refine (K2.out _).mono ?_
  rintro e w9 ⟨rfl, hb⟩
  obtain ⟨a0r, a0f, a0n, a0c, a0z, a0l⟩ := kp (w1.heap.size) (devA d3 L3) hb
  have HB9 : Hid (Below w.heap.size w w9) := hD (by
   refine Below.trans ?_ (hb.mono (by first | omega | (simp [World.setRow] <;> omega)))
   have hs := HB2.out.size
   repeat (first | exact HB2.out | refine bR ?_ _ | refine bA ?_ _))
  clear hb K2
  rcases hrun with hk | hk
  ·have hv : (d3.rec_.at_ d3.running).ver = d3.rec_.a.ver := by rw [hk, at_0]
   have HV := hD hv
   clear hv
   go_wp2_with fail
   go_ret2
   refine ⟨by first | rfl | (dsimp only; rw [HV.out]; rfl) | (rw [HV.out]; rfl), ?_⟩
   have hs := HB9.out.size
   repeat (first | exact HB9.out | refine bR ?_ _ | refine bC ?_ _ | refine bA ?_ _)
  ·have hv : (d3.rec_.at_ d3.running).ver = d3.rec_.b.ver := by rw [hk, at_1]
   have HV := hD hv
   clear hv
   go_wp2_with fail
   go_ret2
   refine ⟨by first | rfl | (dsimp only; rw [HV.out]; rfl) | (rw [HV.out]; rfl), ?_⟩
   have hs := HB9.out.size
   repeat (first | exact HB9.out | refine bR ?_ _ | refine bC ?_ _ | refine bA ?_ _)
 ·have hoff : x.d.off = x.d.down := by unfold Dev.off; rw [hu]; rfl
  rw [hoff] at HD KB
  have hcr : devCrash x.d = (x.d.down, 0) := by
   unfold devCrash
   rw [if_neg (by have := devReady_ok.2 ⟨hok, hu⟩; omega)]
  have KC := hD (fun w h => devCrash_calls x.d L.l w h)
  rw [hcr] at KC
  clear hok hoff hcr
  go_enter Try.func9, Try.ntmps9
  go_wp2_with fail
  refine (K1.out _ (HIN.out.stays HBA.out)).mono ?_
  rintro e w1 ⟨rfl, hb⟩
  obtain ⟨a0r, a0f, a0n, a0c, a0z, a0l⟩ := kp (w.heap.size) (worA x L) hb
  have hs1 : w.heap.size + 1 ≤ w1.heap.size := by have := hb.size; simpa using this
  have HB1 : Hid (Below w.heap.size w w1) := hD (HBA.out.trans (hb.mono (by simp)))
  clear hb
  go_wp2_with fail
  refine (KC.out _ ?_).mono ?_
  ·refine HIN.out.dev.stays ?_
   have hs := HB1.out.size
   repeat (first | exact HB1.out | refine bR ?_ _ | refine bC ?_ _ | refine bA ?_ _)
  rintro e w2 ⟨L2, rfl, hfr, hb⟩
  obtain ⟨a0r, a0f, a0n, a0c, a0z, a0l⟩ := kp (w1.heap.size) (devA x.d L.l) hb
  have hs2 : w1.heap.size + 1 ≤ w2.heap.size := by have := hb.size; simpa using this
  have HB2 : Hid (Below w.heap.size w w2) := hD (by
   refine Below.trans ?_ (hb.mono (by first | omega | (simp <;> omega)))
   repeat (first | exact HB1.out | refine bA ?_ _))
  have HFR : Hid (Fresh (w1.heap.size + 1) w2 (fun v => DevIn v x.d.down L2)) := hD (by simpa using hfr)
  clear hb hfr KC
  obtain ⟨⟨d3, e3⟩, hd3⟩ : ∃ z, devBoot x.d.down = z := ⟨_, rfl⟩
  have hbk := @booted_ok x.d.down
  rw [hd3] at HD KB hbk
  go_wp2_with fail
  refine (KB.out _ _ ?_).mono ?_
  ·have hf9 : Fresh (w1.heap.size + 1) (w2.setRow w1.heap.size (devA x.d.down L2)) (fun v => DevIn v x.d.down L2) := HFR.out.row (by omega) _
   first | exact hf9.now | exact (HFR.out.row (by omega) _).now
  rintro e w3 ⟨L3, rfl, hfr3, hb⟩
  obtain ⟨a0r, a0f, a0n, a0c, a0z, a0l⟩ := kp (w1.heap.size) (devA x.d.down L2) hb
  have hs3 : w1.heap.size + 1 ≤ w3.heap.size := by have := hb.size; first | omega | (simp [World.setRow] at this; omega)
  have HB3 : Hid (Below w.heap.size w w3) := hD (by
   refine Below.trans ?_ (hb.mono (by first | omega | (simp [World.setRow] <;> omega)))
   repeat (first | exact HB2.out | refine bR ?_ _ | refine bA ?_ _))
  clear hb hd3 hfr3
  by_cases c3 : e3 ≠ 0
  ·have hz : res = (0, e3) := HD.out.trans (if_pos c3)
   subst hz
   have q : (e3 != 0) = true := by simp [c3]
   clear c3 hbk
   go_wp2_with fail
   go_ret2
   refine ⟨rfl, ?_⟩
   have hs := HB3.out.size
   repeat (first | exact HB3.out | refine bR ?_ _ | refine bC ?_ _ | refine bA ?_ _)
  have c3 := Decidable.not_not.1 c3
  subst c3
  have hz : res = ((d3.rec_.at_ d3.running).ver, 0) := HD.out.trans (if_neg (by simp))
  subst hz
  obtain ⟨hok3, hrun⟩ := hbk rfl
  try dsimp only at hok3 hrun
  have K2 := hD (fun w => read_ok d3.c0 d3.c1 w hok3.cops)
  obtain ⟨rk, hrk⟩ : ∃ rk, (recRead d3.c0 d3.c1).2 = rk := ⟨_, rfl⟩
  have hre : (recRead d3.c0 d3.c1).1 = d3.rec_ := rfl
  rw [hrk, hre] at K2
  clear hok3 hrk hre HD KB
  go_wp2_with fail
  refine (K2.out _).mono ?_
  rintro e w9 ⟨rfl, hb⟩
  obtain ⟨a0r, a0f, a0n, a0c, a0z, a0l⟩ := kp (w1.heap.size) (devA d3 L3) hb
  have HB9 : Hid (Below w.heap.size w w9) := hD (by
   refine Below.trans ?_ (hb.mono (by first | omega | (simp [World.setRow] <;> omega)))
   have hs := HB3.out.size
   repeat (first | exact HB3.out | refine bR ?_ _ | refine bA ?_ _))
  clear hb K2
  rcases hrun with hk | hk
  ·have hv : (d3.rec_.at_ d3.running).ver = d3.rec_.a.ver := by rw [hk, at_0]
   have HV := hD hv
   clear hv
   go_wp2_with fail
   go_ret2
   refine ⟨by first | rfl | (dsimp only; rw [HV.out]; rfl) | (rw [HV.out]; rfl), ?_⟩
   have hs := HB9.out.size
   repeat (first | exact HB9.out | refine bR ?_ _ | refine bC ?_ _ | refine bA ?_ _)
  ·have hv : (d3.rec_.at_ d3.running).ver = d3.rec_.b.ver := by rw [hk, at_1]
   have HV := hD hv
   clear hv
   go_wp2_with fail
   go_ret2
   refine ⟨by first | rfl | (dsimp only; rw [HV.out]; rfl) | (rw [HV.out]; rfl), ?_⟩
   have hs := HB9.out.size
   repeat (first | exact HB9.out | refine bR ?_ _ | refine bC ?_ _ | refine bA ?_ _)
theorem hps_one {g : Nat} {t : TypeId} {f : Nat × Nat} {k n : Int} (h : w.heap[g]? = some (.cells #[iv k, iv n] t f)) (h1 : I64 k) (h2 : I64 n) : Hps w (some ⟨g, 0, none⟩) [(k, n)] := by
 intro i hi
 obtain rfl : i = 0 := by simpa using hi
 refine ⟨g, 0, rfl, blk_lt h, [iv k, iv n], rfl, fun j hj => ?_, rfl, h1, h2⟩
 rw [cell_of_row w g _ _ _ _ h]
 match j, hj with
 | 0, _ => rfl
 | 1, _ => rfl
theorem runs_calls (W : World) : Calls Try.prog 8 #[] W (RetB W (.bool true)) := by
 obtain ⟨x0, hx0⟩ : ∃ x0, (worNew ims).1 = x0 := ⟨_, rfl⟩
 obtain ⟨x1, hx1⟩ : ∃ x1, (worRun x0 [(9, 0)]).1 = x1 := ⟨_, rfl⟩
 obtain ⟨v1, hv1⟩ : ∃ v, (stoRuns x1).1 = v := ⟨_, rfl⟩
 obtain ⟨b1, hb1⟩ : ∃ v, (stoRuns x1).2.1 = v := ⟨_, rfl⟩
 have f1 := runs_runs
 have f2 := runs_next
 have f3 := runs_run
 have f4 := runs_late
 rw [hx0] at f1 f2 f3 f4
 rw [hx1] at f4
 have K1 : Hid (∀ A c w, ims.length ≤ c → Ims w A ims → Calls Try.prog 18 #[.slice A ims.length c] w (WvRet w x0 0)) := hD (fun A c w hc h => by
  have := worNew_calls A c ims w hc (by decide) h
  rwa [gone_new, hx0] at this)
 have K2 : Hid (∀ L w, WorIn w x0 L → Calls Try.prog 11 #[.agg (worA x0 L)] w (SrRet w 1 im0 0)) := hD (fun L w h => by
  have := stoRuns_calls x0 L w h
  rwa [f1] at this)
 have K3 : Hid (∀ L w, WorIn w x0 L → Calls Try.prog 9 #[.agg (worA x0 L)] w (RetB w (.tuple #[iv 1, iv 0]))) := hD (fun L w h => by
  have := stoNext_calls x0 L w h
  rwa [f2] at this)
 have K4 : Hid (∀ L B cl w, WorIn w x0 L → 1 ≤ cl → Hps w B [(9, 0)] → Calls Try.prog 20 #[.agg (worA x0 L), .slice B 1 cl] w (WrRet w x1 [0] 0)) := hD (fun L B cl w h hc hh => by
  have := worRun_calls x0 L B cl [(9, 0)] w h (by decide) hc hh
  rwa [f3, hx1] at this)
 have K5 : Hid (∀ L w, WorIn w x1 L → Calls Try.prog 11 #[.agg (worA x1 L)] w (SrRet w v1 b1 5)) := hD (fun L w h => by
  have := stoRuns_calls x1 L w h
  rwa [f4, hv1, hb1] at this)
 clear f1 f2 f3 f4 hx0 hx1 hv1 hb1
 have HL0 : Hid (im0.length = 8) := hD rfl
 have HE0 : Hid (∀ (A : Option Addr) (c : Nat) (w : World), im0.length ≤ c → Bts w A im0 → (convert 24 9 (.slice A im0.length c)).run Try.prog w = .ok (.string ⟨#[97, 98, 99, 100, 101, 102, 103, 104]⟩) w) := hD (fun A c w h1 h2 => conv_str A c im0 w h1 h2)
 generalize im0 = i0 at *
 go_enter Try.func8, Try.ntmps8
 go_wp2_with fail
 refine (lawImages_calls _).mono ?_
 rintro e w1 ⟨A, c, rfl, hc, hi, hb1⟩
 have HB1 := hD hb1
 have HI1 := hD hi
 have HC1 := hD hc
 clear hb1 hi hc
 go_wp2_with fail
 refine (K1.out _ _ _ HC1.out (by first | exact HI1.out | exact HI1.out.stays (Below.refl _ _))).mono ?_
 rintro e w2 ⟨L, rfl, hf, hb2⟩
 have HW2 := hD hf.now
 have HB2 : Hid (Below W.heap.size W w2) := hD (HB1.out.trans (hb2.mono HB1.out.size))
 clear hb2 hf
 go_wp2_with fail
 have hin3 : WorIn (w2.alloc (.cells (worA x0 L) 41)) x0 L := HW2.out.stays ((Below.refl _ _).alloc (Nat.le_refl _) _)
 refine (K2.out _ _ hin3).mono ?_
 rintro e w3 ⟨A3, c3, rfl, hc3, hbt, hb⟩
 obtain ⟨a0r, a0f, a0n, a0c, a0z, a0l⟩ := kp (w2.heap.size) (worA x0 L) hb
 have HB3 : Hid (Below W.heap.size W w3) := hD ((HB2.out.alloc HB2.out.size _).trans (hb.mono (by have := HB2.out.size; simp; omega)))
 have HW3 := hD (hin3.stays hb)
 have HT3 := hD hbt.now
 have HF3 := hD hbt
 have HC3 := hD hc3
 clear hb hbt hc3 hin3
 go_wp2_with fail
 refine (K3.out _ _ HW3.out).mono ?_
 rintro e w4 ⟨rfl, hb⟩
 obtain ⟨a0r, a0f, a0n, a0c, a0z, a0l⟩ := kp (w2.heap.size) (worA x0 L) hb
 have HB4 : Hid (Below W.heap.size W w4) := hD (HB3.out.trans (hb.mono HB3.out.size))
 have HB34 := hD hb
 have HW4 := hD (HW3.out.stays hb)
 have HT4 := hD (HT3.out.stays hb)
 clear hb
 go_wp2_with fail
 refine (K4.out _ _ _ _ (HW4.out.stays ((Below.refl _ _).alloc (Nat.le_refl _) _)) (Nat.le_refl _) (hps_one (blk_top rfl) ⟨by decide, by decide⟩ ⟨by decide, by decide⟩)).mono ?_
 rintro e w5 ⟨L5, A5, c5, b5, rfl, ho5, hbs5, hw5, hb⟩
 obtain ⟨a0r, a0f, a0n, a0c, a0z, a0l⟩ := kp (w2.heap.size) (worA x0 L) hb
 have hbx : Below w4.heap.size w4 w5 := ((Below.refl _ _).alloc (Nat.le_refl _) _).trans (hb.mono (by simp))
 have HB5 : Hid (Below W.heap.size W w5) := hD (HB4.out.trans (hbx.mono HB4.out.size))
 have HT5 := hD (HT4.out.stays hbx)
 have HB35 : Hid (Below w3.heap.size w3 w5) := hD (HB34.out.trans (hbx.mono HB34.out.size))
 have hp5 : 0 < (rowOf w5 w2.heap.size).size := by rw [a0r]; simp [worA]
 have hs5 : w2.heap.size < b5 := by have := hb.size; simp at hbs5; omega
 have HW5 : Hid (WorIn (w5.setRow w2.heap.size (worA x1 L5)) x1 L5) := hD (hw5 _ (fun q h1 _ _ => setRow_other _ _ _ _ (by omega)))
 have HB5' : Hid (Below W.heap.size W (w5.setRow w2.heap.size (worA x1 L5))) := hD (below_row HB5.out HB2.out.size _)
 have HT5' : Hid (Bts (w5.setRow w2.heap.size (worA x1 L5)) A3 i0) := hD (HF3.out _ (fun k h1 h2 => by
  simp at h1
  exact (setRow_other _ _ _ _ (by omega)).trans ((HB35.out.block k h2))))
 clear hb hbx ho5 hbs5 hw5
 go_wp2_with fail
 refine (K5.out _ _ HW5.out).mono ?_
 rintro e w6 ⟨A6, c6, rfl, hc6, hbt6, hb⟩
 have HB6 : Hid (Below W.heap.size W w6) := hD (HB5'.out.trans (hb.mono HB5'.out.size))
 have ks := HE0.out A3 c3 w6 HC3.out (HT5'.out.stays hb)
 clear hb hbt6 hc6 a0r a0f a0n a0c a0z a0l
 go_wp2_with fail
 go_ret
 refine ⟨rfl, ?_⟩
 first | exact HB6.out | (repeat (first | exact HB6.out | refine below_drewN ?_ _ | refine Below.drew ?_))
section
open Go.RowKit Go.WideShapes Go.ChangeShapes Go.ChangeAt
section
variable {H : Type} {enc : TypeId × Value → H} {P : Program} {w : World} {sp : Nat → Bool} {held : Bool} {t e : TypeId}
theorem readBy_hap {f0 f1 : Field} (ht : P.underlying t = some (.struct #[f0, f1])) (hs : P.cellsOf t = 2) (o0 : f0.offset = 0) (o1 : f1.offset = 1) (k0 : P.cellsOf f0.type = 1) (k1 : P.cellsOf f1.type = 1)
  (t0 : P.underlying f0.type = some (.int .i64)) (t1 : P.underlying f1.type = some (.int .i64)) : ReadBy enc P w sp held t rHap := by
 intro fuel cs d ps h hb
 obtain ⟨hl, hf⟩ := field_of ht h hb
 obtain ⟨a, ha⟩ := hf 0 f0 rfl (readBy_int t0)
 obtain ⟨b, hb⟩ := hf 1 f1 rfl (readBy_int t1)
 rw [hs] at hl
 match cs, hl with
 | [x, y], _ =>
  rw [o0, k0] at ha
  rw [o1, k1] at hb
  obtain ⟨ha, ha'⟩ := ha
  obtain ⟨hb, hb'⟩ := hb
  simp at ha hb
  subst ha hb
  exact ⟨(a, b), rfl, ha', hb'⟩
theorem readBy_img (ht : P.underlying t = some (.slice e)) (he : P.underlying e = some (.int .u8)) (hs : P.cellsOf e = 1) : ReadBy enc P w sp held t rImg := by
 intro fuel cs d ps h hb
 obtain ⟨xs, A, c, hx, h1, h2, h3⟩ := readBy_slice ht hs (by omega) (readBy_byte he) fuel cs d ps h hb
 exact ⟨xs, A, c, hx, h1, h2, h3.bts⟩
end
section
variable {H : Type} {enc : TypeId × Value → H} {w : World} {sp : Nat → Bool} {held : Bool}
theorem reads_hap : ReadBy enc Try.prog w sp held 52 rHap :=
 readBy_hap Try.underlying52 (by kernel_rfl) rfl rfl (by kernel_rfl) (by kernel_rfl) Try.underlying3 Try.underlying3
theorem reads_img : ReadBy enc Try.prog w sp held 24 rImg :=
 readBy_img Try.underlying24 Try.underlying5 (by kernel_rfl)
end
def ArgHaps (W : World) (v : Value) (l : List (Int × Int)) : Prop := ∃ A c, v = .slice A l.length c ∧ l.length ≤ c ∧ l.length ≤ 1048576 ∧ Hps W A l
def ArgImgs (W : World) (v : Value) (l : List (List UInt8)) : Prop := ∃ A c, v = .slice A l.length c ∧ l.length ≤ c ∧ l.length ≤ 1048576 ∧ Ims W A l
section
variable {H : Type} {enc : TypeId × Value → H} {w : World} {base : Nat} {v : Value} {d : DataW H} {p : List MemPlace}
theorem argHaps_of (ho : Value.okWide Try.prog w .any base 23 v) (h : DataW.Trod enc Try.prog w 0 (fun _ => true) true 23 v d p) (hb : Rows.uptoBulk d ≤ 1048576) : ∃ xs, ArgHaps w v xs := by
 obtain ⟨xs, A, c, hv, h1, h2, h3⟩ := argSlice_of Try.underlying23 (by kernel_rfl : Try.prog.cellsOf 52 = 2) (by omega) reads_hap ho h hb
 exact ⟨xs, A, c, hv, h1, h2, h3⟩
theorem argImgs_of (ho : Value.okWide Try.prog w .any base 22 v) (h : DataW.Trod enc Try.prog w 0 (fun _ => true) true 22 v d p) (hb : Rows.uptoBulk d ≤ 1048576) : ∃ xs, ArgImgs w v xs := by
 obtain ⟨xs, A, c, hv, h1, h2, h3⟩ := argSlice_of Try.underlying22 (by kernel_rfl : Try.prog.cellsOf 24 = 1) (by omega) reads_img ho h hb
 exact ⟨xs, A, c, hv, h1, h2, h3⟩
end
end
theorem Ims.at_ {A : Option Addr} {l : List (List UInt8)} (h : Ims w A l) {n : Nat} (hn : n < l.length) : ∃ b o B m, A = some ⟨b, o, none⟩ ∧ b < w.heap.size ∧ w.cell? ⟨b, o + n, none⟩ = some (.slice B l[n].length m) ∧ l[n].length ≤ m ∧ Bts w B l[n] := by
 obtain ⟨b, o, rfl, hb, cs, h1, h2, B, m, h3, h4, h5, h6⟩ := h n hn
 subst h3
 refine ⟨b, o, B, m, rfl, hb, ?_, h4, h6⟩
 have := h2 0 (by simp)
 simpa using this
theorem relAt_get {l : List (List UInt8)} {n : Nat} (hn : n < l.length) : relAt l ((n : Int) + 1) = l[n] := by
 unfold relAt
 rw [show ((n : Int) + 1 - 1).toNat = n by omega, List.getD_eq_getElem?_getD, List.getElem?_eq_getElem hn]; rfl
end Go.Proofs.Ytefkfglkpebbmad
