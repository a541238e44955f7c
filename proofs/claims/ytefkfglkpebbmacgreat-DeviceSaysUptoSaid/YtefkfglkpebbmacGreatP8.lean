/- Walks of functions, and plain words. No conditions. -/
import Derived.Test.YtefkfglkpebbmacGreatP7
set_option linter.unusedVariables false
set_option linter.unusedSimpArgs false
set_option maxRecDepth 100000
set_option maxHeartbeats 40000000
namespace Go.Proofs.YtefkfglkpebbmacGreat
open Go.RowKit
theorem x16 {p : Prop} (h : p := by
 go_quiet (fail)
 go_wp2_with fail
 go_meet
 case rel => exact ⟨by rw [hres], hD (below_drewN _ _)⟩) : p := h
theorem x218 {p : Prop} (h : p := by
 clear c3
 go_wp2_with fail
 go_meet
 case rel => exact ⟨rfl, hD (Below.refl _ _)⟩) : p := h
theorem devCheck_busy_ (d : Dev) (L : DLoc) (w : World) (h : DevIn w d L) (h0 : d.s0.length = 64) (h1 : d.s1.length = 64) (hc : copCheck d.c0 d.c1 = 0) (hu : d.up = true) (hbz : d.busy = true) (hrg : ¬ (d.running < 0 ∨ 1 < d.running ∨ (d.running ≠ d.rec_.active ∧ d.rec_.trying = false))) (hgl : chkList d.got = 0) : Calls Tryz.prog 7 #[.agg (devA d L)] w (RetB w (iv (devCheck d))) := by
 have HIN := hD h
 clear h
 obtain ⟨n, hn⟩ : ∃ n, devCheck d = n := ⟨_, rfl⟩
 rw [hn]
 have HN := hD hn
 clear hn
 have i0 : ∀ w, (Instr.index 23 (.agg (slotsA L.a0 d.s0.length L.c0 L.a1 d.s1.length L.c1)) (.int .i64 0)).run Tryz.prog w = .ok (.slice L.a0 d.s0.length L.c0) w := fun _ => by kernel_rfl
 have i1 : ∀ w, (Instr.index 23 (.agg (slotsA L.a0 d.s0.length L.c0 L.a1 d.s1.length L.c1)) (.int .i64 1)).run Tryz.prog w = .ok (.slice L.a1 d.s1.length L.c1) w := fun _ => by kernel_rfl
 have l0 : ((d.s0.length : Int) != 64) = false := by simp; omega
 have l1 : ((d.s1.length : Int) != 64) = false := by simp; omega
 have HL0 := hD h0
 have HL1 := hD h1
 have HCC := hD hc
 have HUP := hD hu
 have HRG := hD hrg
 have HGT := hD hgl
 have HBZ := hD hbz
 clear hrg hgl hbz
 clear h0 h1 hc hu
 have HBA := hD ((Below.refl w.heap.size w).alloc (Nat.le_refl _) (.cells (devA d L) 37))
 go_enter Tryz.func7, Tryz.ntmps7
 go_wp2_with fail
 go_loopw [12] (fun i wr => ∃ k : Nat, k <= 2 ∧ i = .int .i64 k ∧ wr = w.alloc (.cells (devA d L) 37)) (fun i _ => (2 - intOf i).toNat)
 case atStart => exact ⟨0, by omega, rfl, rfl⟩
 case round =>
 obtain ⟨k, hk, rfl, rfl⟩ := hrel
 by_cases hlt : k < 2
 ·exact x77
 obtain rfl : k = 2 := by omega
 clear hk hlt i0 i1 l0 l1
 have a0r : rowOf (w.alloc (.cells (devA d L) 37)) w.heap.size = devA d L := by rw [rowOf_alloc, if_pos rfl]
 have a0f : frOf (w.alloc (.cells (devA d L) 37)) w.heap.size = (0, 0) := by rw [frOf_alloc, if_pos rfl]
 have a0l : w.heap.size < (w.alloc (.cells (devA d L) 37)).heap.size := by simp
 have hc := HCC.out
 have KR := hD (fun w => read_ok d.c0 d.c1 w hc)
 have hact := rec_active (recRead_ok hc)
 have hok := recRead_ok hc
 have hrec : (recRead d.c0 d.c1).1 = d.rec_ := rfl
 obtain ⟨rk, hrk⟩ : ∃ rk, (recRead d.c0 d.c1).2 = rk := ⟨_, rfl⟩
 rw [hrk, hrec] at KR
 have EUP := hD (fun hu => HN.out.symm.trans (devCheck_is_up HL0.out HL1.out hc hu))
 rw [hrec] at hact hok EUP
 have himc := fun w k hk h q1 q2 => image_calls d L k d.rec_ w hk h (slot_len HL0.out HL1.out k) q1 q2
 have HIM := hD himc
 clear himc
 generalize d.rec_ = r at *
 obtain ⟨ka, ha, ha1⟩ : ∃ ka : Nat, r.active = (ka : Int) ∧ ka <= 1 := ⟨r.active.toNat, by omega, by omega⟩
 have HOK := hD hok
 have HA := hD ha
 clear hrec hrk hok hact ha HN hc
 go_wp2_with fail
 refine (KR.out _).mono ?_
 rintro e w1 ⟨rfl, hb⟩
 have HB1 : Hid (Below w.heap.size w w1) := hD (HBA.out.trans (hb.mono (by omega)))
 obtain ⟨a0r, a0f, a0n, a0c, a0z, a0l⟩ := keep1 (g := w.heap.size) (cs := devA d L) hb a0r (by go_simp) a0f
 clear hb KR HBA
 obtain ⟨g, hg⟩ : ∃ g, w.heap.size = g := ⟨_, rfl⟩
 rw [hg] at a0r a0f a0n a0c a0z a0l ⊢
 have HG := hD hg
 clear hg
 go_upto_region 8 with fail
 obtain ⟨w4, hw4⟩ : ∃ w4, w1.alloc (.cells (recA r) 28) = w4 := ⟨_, rfl⟩
 have hb : Below w1.heap.size w1 w4 := by rw [← hw4]; exact (Below.refl _ _).alloc (Nat.le_refl _) _
 have r0r : rowOf w4 w1.heap.size = recA r := by rw [← hw4, rowOf_alloc, if_pos rfl]
 have r0f : frOf w4 w1.heap.size = (0, 0) := by rw [← hw4, frOf_alloc, if_pos rfl]
 obtain ⟨a0r, a0f, a0n, a0c, a0z, a0l⟩ := keep1 (g := g) (cs := devA d L) hb a0r (by go_simp) a0f
 have HB4 := bT HB1 hb
 rw [hw4]
 obtain ⟨gr, hgr⟩ : ∃ gr, w1.heap.size = gr := ⟨_, rfl⟩
 rw [hgr] at r0r r0f ⊢
 clear hw4 hb hgr HB1
 obtain ⟨r0r, r0f, r0n, r0c, r0z, r0l⟩ := keep1 (Below.refl w4.heap.size w4) r0r (by simp [recA]) r0f
 have hu := HUP.out
 have E := hD (EUP.out hu)
 clear EUP
 go_upto_region 14 with fail
 go_cut [76] (fun v wx => v = .bool false ∧ Hid (Below w4.heap.size w4 wx))
 case first =>
  have c1 : ¬ d.running < 0 := fun h => HRG.out (.inl h)
  have c2 : ¬ 1 < d.running := fun h => HRG.out (.inr (.inl h))
  by_cases c3 : d.running = r.active
  ·have q3 : (d.running != r.active) = false := by simp [c3]
   exact x218
  have q3 : (d.running != r.active) = true := by simp [c3]
  have c4 : r.trying = true := by cases h : r.trying; exact absurd (.inr (.inr ⟨c3, h⟩)) HRG.out; rfl
  exact x218
 case rest =>
 obtain ⟨rfl, hb⟩ := hcut
 obtain ⟨a0r, a0f, a0n, a0c, a0z, a0l⟩ := keep1 (g := g) (cs := devA d L) hb.out a0r (by go_simp) a0f
 obtain ⟨r0r, r0f, r0n, r0c, r0z, r0l⟩ := keep1 (g := gr) (cs := recA r) hb.out r0r (by simp [recA]) r0f
 have HB5 := bT HB4 hb.out
 clear hb
 go_wp2_with fail
 refine (chkList_calls L.ag L.cg d.got _ HIN.out.lg (HIN.out.got.stays HB5.out)).mono ?_
 rintro e w6 ⟨rfl, hb⟩
 obtain ⟨a0r, a0f, a0n, a0c, a0z, a0l⟩ := keep1 (g := g) (cs := devA d L) hb a0r (by go_simp) a0f
 obtain ⟨r0r, r0f, r0n, r0c, r0z, r0l⟩ := keep1 (g := gr) (cs := recA r) hb r0r (by simp [recA]) r0f
 have HB6 := bT HB5 hb
 clear hb HB5 HB4
 rw [HGT.out]
 have c2 := HBZ.out
 have E2 := hD (E.out.trans (devUp_busy HRG.out HGT.out c2))
 clear E HRG HGT
 go_upto_region 23 with fail
 obtain ⟨a', ha', ha2⟩ : ∃ a' : Nat, ka + a' = 1 ∧ a' <= 1 := ⟨1 - ka, by omega, by omega⟩
 have hsub : (1 : Int) - (ka : Int) = (a' : Int) := by omega
 have hwr : IntKind.i64.wrap ((1 : Int) - (ka : Int)) = (a' : Int) := by rw [hsub]; exact IntWalk.i64_in _ (by omega)
 obtain ⟨bad, hbad⟩ : ∃ b, decide (r.trying = true ∨ d.job.to_ < r.floor ∨ d.job.from_ ≠ (r.at_ r.active).ver ∨ (r.at_ (1 - r.active)).ver ≠ 0) = b := ⟨_, rfl⟩
 have HBAD := hD hbad
 have hbad2 := hbad
 rw [HA.out, hsub] at hbad2
 have HBAD2 := hD hbad2
 clear hbad hbad2
 go_cut [127] (fun v wx => v = .bool bad ∧ Hid (Below w6.heap.size w6 wx))
 case first =>
  have ha := HA.out
  have pv := recA_ver r ha1
  have pv2 := recA_ver r ha2
  have z3 := (at_sizes HOK.out (a' : Int)).2.2
  have k1 : (0 : Int) <= (ka : Int) := by omega
  have k2 : (ka : Int) < 2 := by omega
  have k3 : ¬ (2 : Int) <= (ka : Int) := by omega
  have k4 : (0 : Int) <= (a' : Int) := by omega
  have k5 : (a' : Int) < 2 := by omega
  have k6 : ¬ (2 : Int) <= (a' : Int) := by omega
  clear HBAD
  cases c3 : r.trying
  ·by_cases c4 : d.job.to_ < r.floor
   ·have hres : bad = true := by rw [← HBAD2.out]; exact decide_eq_true (.inr (.inl c4))
    have q4 : decide (d.job.to_ < r.floor) = true := decide_eq_true c4
    clear c4 pv pv2
    exact x16
   ·have q4 : decide (d.job.to_ < r.floor) = false := decide_eq_false c4
    generalize (r.at_ (ka : Int)).ver = x1 at *
    generalize (r.at_ (a' : Int)).ver = x2 at *
    by_cases c5 : d.job.from_ = x1
    ·have q5 : (d.job.from_ != x1) = false := by simp [c5]
     by_cases c6 : x2 = 0
     ·have hres : bad = false := by rw [← HBAD2.out]; exact decide_eq_false (by rintro (h | h | h | h); rw [c3] at h; cases h; exact c4 h; exact h c5; exact h c6)
      have q6 : (x2 != 0) = false := by simp [c6]
      clear c4 c5 c6
      exact x16
     have hres : bad = true := by rw [← HBAD2.out]; exact decide_eq_true (.inr (.inr (.inr c6)))
     have q6 : (x2 != 0) = true := by simp [c6]
     clear c4 c5 c6
     exact x16
    have q5 : (d.job.from_ != x1) = true := by simp [c5]
    have hres : bad = true := by rw [← HBAD2.out]; exact decide_eq_true (.inr (.inr (.inl c5)))
    clear c4 c5 pv2
    exact x16
  have hres : bad = true := by rw [← HBAD2.out]; exact decide_eq_true (.inl c3)
  clear pv pv2
  exact x16
 case rest =>
 obtain ⟨rfl, hb⟩ := hcut
 obtain ⟨a0r, a0f, a0n, a0c, a0z, a0l⟩ := keep1 (g := g) (cs := devA d L) hb.out a0r (by go_simp) a0f
 obtain ⟨r0r, r0f, r0n, r0c, r0z, r0l⟩ := keep1 (g := gr) (cs := recA r) hb.out r0r (by simp [recA]) r0f
 have HB7 := bT HB6 hb.out
 clear hb HB6 HBAD2
 cases hbd : bad
 case true =>
  have hz : Hid (n = 3) := hD (E2.out.trans (devBusy_form (of_decide_eq_true (HBAD.out.trans hbd))))
  clear hbd
  exact x21
 have hnf := of_decide_eq_false (HBAD.out.trans hbd)
 have hrest := E2.out.trans (devBusy_rest hnf)
 clear hbd HBAD E2 hnf
 obtain ⟨img, himg⟩ : ∃ img, d.image r.active r = img := ⟨_, rfl⟩
 rw [himg] at hrest
 have hil : img.length <= 64 := by
  exact x191
 rw [HA.out] at himg
 rw [HA.out, hsub] at hrest
 have hpok := @patDo_ok (sumOn 1) d.job img
 obtain ⟨⟨b, en⟩, hpd⟩ : ∃ x, patDo (sumOn 1) d.job img = x := ⟨_, rfl⟩
 rw [hpd] at hrest hpok
 have HBL : Hid (en = 0 -> b.length <= 64 ∧ (b.length : Int) = d.job.size ∧ d.job.size <= 64) := hD (fun e => by
  exact x154)
 dsimp only at hrest
 have HR3 := hD hrest
 have HPD := hD hpd
 have KI : Hid (∀ wq, Below wc.heap.size wc wq -> Calls Tryz.prog 38 #[.agg (devA d L), iv (ka : Int), .agg (recA r)] wq (ImRet wq img)) := hD (fun wq h => by
  rw [← himg]
  exact HIM.out wq (ka : Int) (by omega) ((HIN.out.stays HB7.out).stays h) (at_sizes HOK.out _).1 (at_sizes HOK.out _).2.1)
 clear hrest hpok hpd himg hsub
 have RD : Hid (rowOf wc g = devA d L) := hD a0r
 have FD : Hid (frOf wc g = (0, 0)) := hD a0f
 have RR : Hid (rowOf wc gr = recA r) := hD r0r
 have FR : Hid (frOf wc gr = (0, 0)) := hD r0f
 have KD : Hid (∀ wq A c, Below wc.heap.size wc wq -> img.length <= c -> Bts wq A img -> Calls Tryz.prog 37 #[.agg (patA d.job.from_ d.job.to_ d.job.old d.job.new_ d.job.size L.aj d.job.ops.length L.cj), .slice A img.length c] wq (ByRet2 wq b en)) := hD (fun wq A c h hc hb => by
  have hq := patDo_calls L.aj A L.cj c d.job img wq hc (by omega) hb ((HIN.out.job.stays HB7.out).stays h)
  rw [HPD.out] at hq
  exact hq)
 go_wp2_with fail
 refine wp_region_free (by kernel_rfl) (some 129 :: some 130 :: some 131 :: some 132 :: some 133 :: some 134 :: some 135 :: some 136 :: some 128 :: some 137 :: some 138 :: some 9 :: some 7 :: []) (false :: false :: false :: false :: false :: false :: true :: true :: true :: true :: true :: true :: true :: []) (.pointer (some ⟨g, 30, none⟩) :: .agg (patA d.job.from_ d.job.to_ d.job.old d.job.new_ d.job.size L.aj d.job.ops.length L.cj) :: .agg (devA d L) :: .pointer (some ⟨gr, 1, none⟩) :: iv (ka : Int) :: .agg (recA r) :: undef :: undef :: undef :: undef :: undef :: undef :: undef :: []) (imJ wc 6 7 8 9 10 11 12 img b en) 185 rfl rfl (by decide +kernel) (by decide +kernel) (by decide +kernel) rfl rfl (rfl) ?_ ?_
 ·refine ⟨?_, ?_, ?_, ?_, ?_, ?_, ?_, ?_, ?_, ?_, ?_, ?_, ?_, trivial⟩
  all_goals intro done cv a wq hn hw hcl h hJ
  ·have e1 := fO 1 (.pointer (some ⟨g, 0, none⟩)) h
   go_simp
  ·have e129 := fN 0 129 h hw
   exact x61
  ·have e1 := fO 1 (.pointer (some ⟨g, 0, none⟩)) h
   exact x61
  ·have e5 := fO 5 (.pointer (some ⟨gr, 0, none⟩)) h
   go_simp
  ·have e132 := fN 3 132 h hw
   obtain ⟨r_, f_, n_, c_, z_, l_⟩ := keep1 (imJ_bel hJ) RR.out (by simp [recA]) FR.out
   have hk_ := HA.out
   go_simp
  ·have e5 := fO 5 (.pointer (some ⟨gr, 0, none⟩)) h
   obtain ⟨r_, f_, n_, c_, z_, l_⟩ := keep1 (imJ_bel hJ) RR.out (by simp [recA]) FR.out
   go_simp
  ·have e131 := fN 2 131 h hw; have e133 := fN 4 133 h hw; have e134 := fN 5 134 h hw
   have n6 := hn
   have n7 := nW 7 6 hcl n6
   obtain rfl : wq = wc.drew := imJ_0 (by simp [maskB, n6]) (by simp [maskB, n7]) hJ
   refine wp_call (vals := #[.agg (devA d L), iv (ka : Int), .agg (recA r)]) (by rw [List.map_toArray, List.map_cons, List.map_cons, List.map_cons, List.map_nil, ch_ev e131, ch_ev e133, ch_ev e134]) (enters_of Tryz.func38 (by kernel_rfl) rfl _ _) (KI.out _ ((Below.refl _ _).drew)) ?_
   rintro e w' ⟨A1, c1, rfl, h3, h4, h5⟩
   exact ⟨_, rfl, _, rfl, imJ_i (by decide) (by simp [maskB, n7]) h3 h4 ((Below.refl _ _).drew.trans h5)⟩
  ·have e130 := fN 1 130 h hw; have e135 := fr_cv (i := 6) (t := 135) h (hw 6 (by decide)) rfl rfl
   have n7 := hn
   have m6 := hw 6 (by decide)
   have n8 := nW 8 7 hcl n7
   have n9 := nW 9 8 hcl n8
   have n10 := nW 10 8 hcl n8
   have n11 := nW 11 7 hcl n7
   have n12 := nW 12 7 hcl n7
   obtain ⟨A1, c1, y1, h3, h4, h5⟩ := imJ_1 (by simp [maskB, m6]) (by simp [maskB, n7]) hJ
   rw [y1] at e135
   refine wp_call (vals := #[.agg (patA d.job.from_ d.job.to_ d.job.old d.job.new_ d.job.size L.aj d.job.ops.length L.cj), .slice A1 (img).length c1]) (by rw [List.map_toArray, List.map_cons, List.map_cons, List.map_nil, ch_ev e130, ch_ev e135]) (enters_of Tryz.func37 (by kernel_rfl) rfl _ _) (KD.out _ _ _ h5 h3 h4) ?_
   rintro e w' ⟨A2, c2, rfl, g1, g2, g3⟩
   exact ⟨_, rfl, _, rfl, imJ_d (by simp [maskB, n8]) (by simp [maskB, n9]) (by simp [maskB, n10]) (by simp [maskB, n11]) (by simp [maskB, n12]) (by decide) (by decide) (by decide) (by decide) (by decide) g1 g2 (h5.trans (g3.mono h5.size))⟩
  ·have e136 := fr_cv (i := 7) (t := 136) h (hw 7 (by decide)) rfl rfl
   have m7 := hw 7 (by decide)
   refine wp_val (v := cv 7) (mx_move (ch_ev e136)) ⟨_, rfl, imJ_k (by simp [maskB, m7]) (by decide) hJ (fun A2 c2 _ _ _ q => ⟨fun _ => q, fun h => absurd h (by decide), fun h => absurd h (by decide), fun h => absurd h (by decide), fun h => absurd h (by decide)⟩)⟩
  ·have e128 := fr_cv (i := 8) (t := 128) h (hw 8 (by decide)) rfl rfl
   have m8 := hw 8 (by decide)
   have m7 := hcl 8 _ rfl m8 7 (by decide)
   obtain ⟨A2, c2, y1, _, _, _, g5, _⟩ := imJ_2 (by simp [maskB, m7]) hJ
   have y := g5 (by simp [maskB, m8])
   rw [y] at e128
   refine wp_val (v := .slice A2 (b).length c2) (by go_simp) ⟨_, rfl, imJ_k (by simp [maskB, m7]) (by decide) hJ (fun A3 c3 h8 _ _ _ => ⟨fun h => absurd h (by decide), fun _ => by have q := h8 (by simp [maskB, m8]); rw [y] at q; simp at q ⊢; exact q, fun h => absurd h (by decide), fun h => absurd h (by decide), fun h => absurd h (by decide)⟩)⟩
  ·have e128 := fr_cv (i := 8) (t := 128) h (hw 8 (by decide)) rfl rfl
   have m8 := hw 8 (by decide)
   have m7 := hcl 8 _ rfl m8 7 (by decide)
   obtain ⟨A2, c2, y1, _, _, _, g5, _⟩ := imJ_2 (by simp [maskB, m7]) hJ
   have y := g5 (by simp [maskB, m8])
   rw [y] at e128
   refine wp_val (v := iv en) (by go_simp) ⟨_, rfl, imJ_k (by simp [maskB, m7]) (by decide) hJ (fun A3 c3 h8 _ _ _ => ⟨fun h => absurd h (by decide), fun h => absurd h (by decide), fun _ => rfl, fun h => absurd h (by decide), fun h => absurd h (by decide)⟩)⟩
  ·have e137 := fr_cv (i := 9) (t := 137) h (hw 9 (by decide)) rfl rfl
   have m7 := hw 7 (by decide)
   have m9 := hw 9 (by decide)
   obtain ⟨A2, c2, y1, _, _, _, _, g6, _⟩ := imJ_2 (by simp [maskB, m7]) hJ
   have y := g6 (by simp [maskB, m9])
   rw [y] at e137
   refine wp_asg (v := .slice A2 (b).length c2) (ch_ev e137) ⟨_, rfl, imJ_k (by simp [maskB, m7]) (by decide) hJ (fun A3 c3 _ h9 _ _ => ⟨fun h => absurd h (by decide), fun h => absurd h (by decide), fun h => absurd h (by decide), fun _ => by have q := h9 (by simp [maskB, m9]); rw [y] at q; exact q, fun h => absurd h (by decide)⟩)⟩
  ·have e138 := fr_cv (i := 10) (t := 138) h (hw 10 (by decide)) rfl rfl
   have m7 := hw 7 (by decide)
   have m10 := hw 10 (by decide)
   obtain ⟨A2, c2, y1, _, _, _, _, _, g7, _⟩ := imJ_2 (by simp [maskB, m7]) hJ
   have y := g7 (by simp [maskB, m10])
   rw [y] at e138
   refine wp_asg (v := iv en) (ch_ev e138) ⟨_, rfl, imJ_k (by simp [maskB, m7]) (by decide) hJ (fun A3 c3 _ _ _ _ => ⟨fun h => absurd h (by decide), fun h => absurd h (by decide), fun h => absurd h (by decide), fun h => absurd h (by decide), fun _ => rfl⟩)⟩
 intro dn cv w8 hall hJ
 obtain ⟨A2, c2', y7, g1, g2, g3, g5, g6, g7, g8, g9⟩ := imJ_2 (hall 7 rfl (by decide)) hJ
 replace g5 := g5 (hall 8 rfl (by decide))
 replace g6 := g6 (hall 9 rfl (by decide))
 replace g7 := g7 (hall 10 rfl (by decide))
 replace g8 := g8 (hall 11 rfl (by decide))
 replace g9 := g9 (hall 12 rfl (by decide))
 simp only [freeAll, putAll_some, putAll_none, putAll_nil, List.getD_cons_zero, List.getD_cons_succ, Bool.false_eq_true, if_true, if_false, reduceIte, Nat.zero_add, Nat.reduceAdd, List.setIfInBounds_toArray, List.set_cons_zero, List.set_cons_succ]
 rw [y7, g5, g6, g7, g8, g9]
 obtain ⟨a0r, a0f, a0n, a0c, a0z, a0l⟩ := keep1 (g := g) (cs := devA d L) g3 a0r (by go_simp) a0f
 obtain ⟨r0r, r0f, r0n, r0c, r0z, r0l⟩ := keep1 (g := gr) (cs := recA r) g3 r0r (by simp [recA]) r0f
 have HB8 : Hid (Below w.heap.size w w8) := hD (HB7.out.trans (g3.mono HB7.out.size))
 have HBB := hD g1
 have HC2 := hD g2
 clear hJ hall y7 g5 g6 g7 g8 g9 g1 g2 g3 KI KD RD FD RR FR HIM HB7 HPD
 by_cases c1 : en = 0
 case neg =>
  have q : (en != 0) = true := by simp [c1]
  have hz : Hid (n = en) := hD (HR3.out.trans (if_pos c1))
  clear c1
  exact x21
 subst c1
 obtain ⟨b1, b2, b3⟩ := HBL.out rfl
 have HR4 := hD (HR3.out.trans (if_neg (by decide)))
 have hw8 : IntKind.i64.wrap (d.job.size + 8) = d.job.size + 8 := IntWalk.i64_in _ (by omega)
 have HB1 := hD b1
 clear HR3 HBL b2
 go_upto_region 28 with fail
 obtain ⟨bad2, hbad2⟩ : ∃ b, decide (d.done < 0 ∨ 64 < d.done ∨ d.done % 8 ≠ 0 ∨ d.job.size + 8 <= d.done) = b := ⟨_, rfl⟩
 have HBAD := hD hbad2
 clear hbad2 b1 b3
 go_cut [168] (fun v wx => v = .bool bad2 ∧ Hid (Below w8.heap.size w8 wx))
 case first =>
  by_cases c1 : d.done < 0
  ·have hres : bad2 = true := by rw [← HBAD.out]; exact decide_eq_true (.inl c1)
   exact x15
  have hmod : d.done.tmod 8 = d.done % 8 := Int.tmod_eq_emod_of_nonneg (by omega)
  by_cases c2 : 64 < d.done
  ·have hres : bad2 = true := by rw [← HBAD.out]; exact decide_eq_true (.inr (.inl c2))
   have q : (d.s0.length : Int) < d.done := by have := HL0.out; omega
   clear c2
   exact x15
  have q2 : ¬ (d.s0.length : Int) < d.done := by have := HL0.out; omega
  by_cases c3 : d.done % 8 = 0
  case neg =>
   have hres : bad2 = true := by rw [← HBAD.out]; exact decide_eq_true (.inr (.inr (.inl c3)))
   have q3 : (d.done.tmod 8 != 0) = true := by rw [hmod]; simp [c3]
   clear hmod
   exact x15
  have q3 : (d.done.tmod 8 != 0) = false := by rw [hmod]; simp [c3]
  by_cases c4 : d.job.size + 8 <= d.done
  ·have hres : bad2 = true := by rw [← HBAD.out]; exact decide_eq_true (.inr (.inr (.inr c4)))
   clear hmod
   exact x15
  have hres : bad2 = false := by rw [← HBAD.out]; exact decide_eq_false (by omega)
  clear hmod
  exact x15
 case rest =>
 obtain ⟨rfl, hb⟩ := hcut
 obtain ⟨a0r, a0f, a0n, a0c, a0z, a0l⟩ := keep1 (g := g) (cs := devA d L) hb.out a0r (by go_simp) a0f
 obtain ⟨r0r, r0f, r0n, r0c, r0z, r0l⟩ := keep1 (g := gr) (cs := recA r) hb.out r0r (by simp [recA]) r0f
 have HB9 := bT HB8 hb.out
 have HBB := hD (HBB.out.stays hb.out)
 clear hb HB8 hw8
 cases hbd : bad2
 case true =>
  have hz : Hid (n = 2) := hD (HR4.out.trans (if_pos (of_decide_eq_true (HBAD.out.trans hbd))))
  clear hbd
  exact x21
 have hnb := of_decide_eq_false (HBAD.out.trans hbd)
 have HR5 := hD (HR4.out.trans (if_neg hnb))
 obtain ⟨dn', hdn⟩ : ∃ dn' : Nat, d.done = (dn' : Int) := ⟨d.done.toNat, by omega⟩
 have hdt : d.done.toNat = dn' := by omega
 rw [hdt] at HR5
 have hd64 : dn' <= 64 := by omega
 have HDN := hD hdn
 clear hbd HBAD HR4 hnb hdt
 have hsl := slot_len HL0.out HL1.out (a' : Int)
 obtain ⟨A6, c6, p1, p2, p3⟩ := devSlotA (HIN.out.stays HB9.out) ha2
 generalize d.slot (a' : Int) = sl at *
 have HP1 := hD p1
 have HX := hD p3
 obtain ⟨bx, ox, hax, -⟩ := p3 0 (by omega)
 have HSL := hD (pre_slice (A := A6) (n := sl.length) (c := c6) dn' hdn p2 (by omega) (by omega) ⟨bx, ox, hax⟩)
 have hrl := room_len HB1.out
 obtain ⟨eq, heq⟩ : ∃ eq, decide (sl.take dn' = (room b).take dn') = eq := ⟨_, rfl⟩
 have hlt1 : (sl.take dn').length = dn' := by rw [List.length_take, hsl]; omega
 have hlt2 : ((room b).take dn').length = dn' := by rw [List.length_take, hrl]; omega
 have KQ : Hid (∀ wq A c, Below wc.heap.size wc wq -> Bts wq A ((room b).take dn') -> Calls Tryz.prog 39 #[.slice A6 dn' c6, .slice A dn' c] wq (RetN wq (.bool eq))) := hD (fun wq A c h hb => by
  have hq := equalBytes_calls A6 A c6 c (sl.take dn') ((room b).take dn') wq (by omega) (by omega) (mid_take (HX.out.stays h) dn') hb
  rw [heq, hlt1, hlt2] at hq
  exact hq)
 have HQ := hD heq
 have HRL := hD hrl
 obtain ⟨rb, hrb⟩ : ∃ rb, room b = rb := ⟨_, rfl⟩
 rw [hrb] at KQ HQ HRL HR5
 have HRB := hD hrb
 have HKS : Hid ((0 : Int) <= (a' : Int) ∧ (a' : Int) < 2 ∧ ¬ (2 : Int) <= (a' : Int) ∧ IntKind.i64.wrap ((1 : Int) - (ka : Int)) = (a' : Int)) := hD ⟨by omega, by omega, by omega, hwr⟩
 clear hsl p1 p2 p3 hax hrl heq hlt1 hlt2 hrb hwr hdn
 go_wp2_with fail
 have RD : Hid (rowOf wc g = devA d L) := hD a0r
 have FD : Hid (frOf wc g = (0, 0)) := hD a0f
 have RR : Hid (rowOf wc gr = recA r) := hD r0r
 have FR : Hid (frOf wc gr = (0, 0)) := hD r0f
 refine wp_region_mix (by kernel_rfl) (some 169 :: some 170 :: some 171 :: some 172 :: some 173 :: some 174 :: some 175 :: some 176 :: some 177 :: some 178 :: some 179 :: some 180 :: some 181 :: some 182 :: some 183 :: some 184 :: []) (none :: none :: none :: none :: none :: none :: none :: none :: none :: none :: some 0 :: none :: none :: some 1 :: some 2 :: some 3 :: []) (.pointer (some ⟨gr, 1, none⟩) :: iv (ka : Int) :: iv (a' : Int) :: .pointer (some ⟨g, 0, none⟩) :: .pointer (some ⟨g, a', none⟩) :: .slice A6 sl.length c6 :: .pointer (some ⟨g, 36, none⟩) :: iv d.done :: .slice A6 dn' c6 :: .slice A2 b.length c2' :: undef :: .pointer (some ⟨g, 36, none⟩) :: iv d.done :: undef :: undef :: undef :: []) 4 (rmJ wc rb dn' eq) 185 rfl rfl (by decide +kernel) (by decide +kernel) (by decide +kernel) (by decide +kernel) rfl rfl (by decide +kernel) (by decide +kernel) (rfl) ?_ ?_
 ·refine ⟨?_, ?_, ?_, ?_, ?_, ?_, ?_, ?_, ?_, ?_, ?_, ?_, ?_, ?_, ?_, ?_, trivial⟩
  ·exact x204
  ·intro done cv k0 a wq hw h hJ hn
   have e169 := mN 0 169 h hw
   exact x177
  ·intro done cv k0 a wq hw h hJ hn
   have e170 := mN 1 170 h hw
   exact x184
  ·exact x25
  ·intro done cv k0 a wq hw h hJ hn
   have e172 := mN 3 172 h hw; have e171 := mN 2 171 h hw
   exact x184
  ·intro done cv k0 a wq hw h hJ hn
   have e173 := mN 4 173 h hw
   exact x213
  ·exact x25
  ·intro done cv k0 a wq hw h hJ hn
   have e175 := mN 6 175 h hw
   exact x144
  ·intro done cv k0 a wq hw h hJ hn
   have e174 := mN 5 174 h hw; have e176 := mN 7 176 h hw
   have hs_ := HSL.out
   go_simp
  ·intro done cv k0 a wq hw h hJ hn
   have e9 := mO 9 (.slice A2 b.length c2') h
   exact mx_move (ch_ev e9)
  ·intro done cv a wq hw h hJ
   have e178 := mN 9 178 h hw
   obtain rfl : wq = wc.drew := hJ
   refine wp_call (vals := #[.slice A2 b.length c2']) (by rw [List.map_toArray, List.map_cons, List.map_nil, ch_ev e178]) (enters_of Tryz.func21 (by kernel_rfl) rfl _ _) (room_calls A2 c2' b _ HB1.out (HBB.out.stays (Below.refl _ _).drew)) ?_
   exact x140
  ·exact x25
  ·intro done cv k0 a wq hw h hJ hn
   have e180 := mN 11 180 h hw
   exact x144
  ·intro done cv a wq hw h hJ
   have e179 := mx_cv (i := 10) (t := 179) h (hw 10 (by decide)) rfl rfl; have e181 := mN 12 181 h hw
   obtain ⟨A5, c5, y1, g1, g2, g3⟩ := hJ
   rw [y1] at e179
   exact x79
  ·intro done cv a wq hw h hJ
   have e177 := mN 8 177 h hw; have e182 := mx_cv (i := 13) (t := 182) h (hw 13 (by decide)) rfl rfl
   obtain ⟨A5, c5, y1, g1, g2, g3⟩ := hJ
   rw [y1] at e182
   refine wp_call (vals := #[.slice A6 dn' c6, .slice A5 dn' c5]) (by rw [List.map_toArray, List.map_cons, List.map_cons, List.map_nil, ch_ev e177, ch_ev e182]) (enters_of Tryz.func39 (by kernel_rfl) rfl _ _) (KQ.out _ _ _ g3 g1) ?_
   rintro e w' ⟨rfl, m, rfl⟩
   exact ⟨_, rfl, _, rfl, by simp, Below.drewN' g3 m⟩
  ·intro done cv a wq hw h hJ
   have e183 := mx_cv (i := 14) (t := 183) h (hw 14 (by decide)) rfl rfl
   obtain ⟨y1, g3⟩ := hJ
   rw [y1] at e183
   refine wp_val (v := .bool (!eq)) (by go_simp) ⟨_, rfl, by simp, g3⟩
 intro cv5 w10 hJ
 obtain ⟨y15, hb⟩ := hJ
 simp only [mixAll, putAll_some, putAll_none, putAll_nil, List.getElem?_cons_zero, List.getElem?_cons_succ, Nat.zero_add, Nat.reduceAdd, List.setIfInBounds_toArray, List.set_cons_zero, List.set_cons_succ]
 rw [y15]
 have HB10 := bT HB9 hb
 clear hb y15
 cases eq
 ·have hz : Hid (n = 3) := hD (HR5.out.trans (if_pos (by have := HQ.out; simpa using this)))
  exact x21
 have hz : Hid (n = 0) := hD (HR5.out.trans (if_neg (by have := HQ.out; simpa using this)))
 exact x21
theorem devCheck_calls (d : Dev) (L : DLoc) (w : World) (h : DevIn w d L) : Calls Tryz.prog 7 #[.agg (devA d L)] w (RetB w (iv (devCheck d))) := by
 by_cases hA : d.s0.length = 64 ∧ d.s1.length = 64 ∧ copCheck d.c0 d.c1 = 0 ∧ d.up = true
 case neg => exact devCheck_off_ d L w h hA
 obtain ⟨h0, h1, hc, hu⟩ := hA
 by_cases hB : d.busy = false ∨ (d.running < 0 ∨ 1 < d.running ∨ (d.running ≠ d.rec_.active ∧ d.rec_.trying = false)) ∨ chkList d.got ≠ 0
 ·exact devCheck_idle_ d L w h h0 h1 hc hu hB
 refine devCheck_busy_ d L w h h0 h1 hc hu ?_ (fun h => hB (.inr (.inl h))) (Decidable.not_not.1 fun h => hB (.inr (.inr h)))
 cases e : d.busy
 ·exact absurd (.inl e) hB
 rfl
theorem x89 {p : Prop} (h : p := by
 rw [List.getElem?_set] at h2
 by_cases hjk : k = j
 ·by_cases hdl : k < ds.length
  ·rw [if_pos hjk, if_pos hdl] at h2
   injection h2 with h2
   subst h2
   have := hgw q hq
   omega
  ·rw [if_pos hjk, if_neg hdl] at h2; cases h2
 rw [if_neg hjk] at h2
 exact HN.out j o d' (by omega) h1 h2 hx q hq) : p := h
theorem x96 {p : Prop} (h : p := by
 obtain rfl : k = l.length := by omega
 have dl : decide ((l.length : Int) < (l.length : Int)) = false := by simp
 go_wp2_with fail
 go_ret
 exact ⟨A1, c1, ds, rfl, HR.out, fun i o d h1 h2 hx q hq => HN.out i o d (List.getElem?_eq_some_iff.1 h1).1 h1 h2 hx q hq, HB.out⟩) : p := h
theorem x153 {p : Prop} (h : p := by
 go_wp2_with fail
 go_roundw
 case rel => exact ⟨k + 1, ds.set k (B, d), by omega, by go_num, HR3, HN3, HBB⟩
 case measure => simp [intOf]; omega) : p := h
def KrRet {α : Type} (K : Kd α) (w : World) (l : List α) : Ending -> World -> Prop := fun en w' =>
 ∃ A c ds, en = .returned (.slice A l.length c) ∧ GRow K w' w.heap.size l ds A c ∧ Each K l ds (fun k => w.heap.size <= k) ∧ Below w.heap.size w w'
theorem opsCopy_calls (A : Option Addr) (c : Nat) (l : List Stp) (w : World) (hl : l.length <= 1048576) (hs : Sps w A l) :
  Calls Tryz.prog 107 #[.slice A l.length c] w (KrRet kOp w l) := by
 obtain ⟨ds0, hg⟩ := hs.gsrc
 have hbd := hs.bound
 have HBD := hD hbd
 have HG := hD hg
 have K1 := hD (cloneOps_calls A l.length c (kOp.cells l ds0) w (cells_len _ _ hg.len) (by omega) hg.row (cells_oneCell _ _))
 clear hs hg hbd
 go_enter Tryz.func107, Tryz.ntmps107
 go_wp2_with fail
 refine K1.out.mono ?_
 rintro e w1 ⟨A1, c1, rfl, hown, hb1⟩
 have hrow : GRow kOp w1 w.heap.size l ds0 A1 c1 := ⟨HG.out.len, hown, (HG.out.stays hb1).data, fun i o d h1 h2 hx k hk e => by
  have := HG.out.each i o d h1 h2 hx k hk
  have := (hown.block k e).1
  omega⟩
 have HR0 := hD hrow
 have HB0 : Hid (Below w.heap.size w w1) := hD hb1
 clear hown hb1 hrow K1
 go_wp2_with fail
 go_loopw [9] (fun i wr => ∃ (k : Nat) (ds : List (Option Addr × Nat)), k <= l.length ∧ i = .int .i64 k ∧ Hid (GRow kOp wr w.heap.size l ds A1 c1) ∧ Hid (∀ (j : Nat) (o : Stp) (d : Option Addr × Nat), j < k -> l[j]? = some o -> ds[j]? = some d -> kOp.dat o ≠ [] -> ∀ q, d.1.map (·.block) = some q -> w.heap.size <= q) ∧ Hid (Below w.heap.size w wr)) (fun i _ => l.length - (intOf i).toNat)
 case atStart => exact ⟨0, ds0, Nat.zero_le _, rfl, HR0, hD (fun j o d h => by omega), HB0⟩
 case round =>
  clear HR0 HB0
  rename World => wr
  obtain ⟨k, ds, hk, rfl, HR, HN, HB⟩ := hrel
  have hsz := HB.out.size
  by_cases hlt : k < l.length
  ·obtain ⟨g, rfl, hg1, hg2⟩ := HR.out.row.form (by omega)
   have hlk : l[k]? = some l[k] := List.getElem?_eq_getElem hlt
   have hdk : ds[k]? = some (ds[k]'(by have := HR.out.len; omega)) := List.getElem?_eq_getElem _
   obtain ⟨x, hx⟩ : ∃ x, l[k] = x := ⟨_, rfl⟩
   obtain ⟨e, he⟩ : ∃ e, ds[k]'(by have := HR.out.len; omega) = e := ⟨_, rfl⟩
   rw [hx] at hlk
   rw [he] at hdk
   have hcell : ∀ j, j < 3 -> wr.cell? ⟨g, k * 3 + j, none⟩ = (kOp.cell x e)[j]? := fun j hj => by
    rw [HR.out.row.cellAt _ (show k * 3 + j < l.length * 3 by omega)]
    exact cells_at (K := kOp) l ds HR.out.len k j x e hlk hdk hj
   have q0 : wr.cell? ⟨g, k * 3, none⟩ = some (iv x.at_) := hcell 0 (by decide)
   have q1 : wr.cell? ⟨g, k * 3 + 1, none⟩ = some (iv x.len) := hcell 1 (by decide)
   have q2 : wr.cell? ⟨g, k * 3 + 2, none⟩ = some (.slice e.1 x.data.length e.2) := hcell 2 (by decide)
   obtain ⟨hd1, hd2⟩ := HR.out.data k x e hlk hdk
   have hxl : x.data.length <= 1048576 := (HBD.out x (List.mem_of_getElem? hlk)).2.2
   have HD1 : Hid (Bts wr e.1 x.data) := hD hd1
   have HLK := hD hlk
   have HDK := hD hdk
   have K2 := hD (fun w h => cloneBytes_calls e.1 x.data.length e.2 (x.data.map bv) w (by simp) (by omega) h (bv_one _))
   have hfr : wr.frozen? ⟨g, k * 3 + 2, none⟩ = false := HR.out.row.frozenAt _
   have dl : decide ((k : Int) < (l.length : Int)) = true := decide_eq_true (by omega)
   have hwk : IntKind.i64.wrap ((k : Int) + 1) = (k : Int) + 1 := IntWalk.i64_in _ (by omega)
   have hcap : (l.length : Int) <= (c1 : Int) := by have := HR.out.row.le; omega
   clear hcell hx he hlk hdk hd1 hd2
   go_wp2_with fail
   have hba := (Below.refl wr.heap.size wr).alloc (Nat.le_refl _) (.cells (#[iv x.at_, iv x.len, .slice e.1 x.data.length e.2]) 121)
   refine (K2.out _ (HD1.out.stays hba).src).mono ?_
   rintro en w2 ⟨B, d, rfl, hob, hb2⟩
   have hb3 := hba.trans (hb2.mono (by simp))
   have HR2 := hD (HR.out.below hb3)
   have hq2 : w2.cell? ⟨g, k * 3 + 2, none⟩ = some (.slice e.1 x.data.length e.2) := (hb3.cell (p := ⟨g, k * 3 + 2, none⟩) hg2).trans q2
   have hf2 : w2.frozen? ⟨g, k * 3 + 2, none⟩ = false := (hb3.frozen (p := ⟨g, k * 3 + 2, none⟩) hg2).trans hfr
   have HBB : Hid (Below w.heap.size w (w2.setCell ⟨g, k * 3 + 2, none⟩ (.slice B x.data.length d))) := hD ((HB.out.trans (hb3.mono hsz)).setCell (p := ⟨g, k * 3 + 2, none⟩) hg1 _)
   have hgw : ∀ q, B.map (·.block) = some q -> wr.heap.size + 1 <= q := fun q h => by have := (hob.block q h).1; simpa using this
   have HR3 : Hid (GRow kOp (w2.setCell ⟨g, k * 3 + 2, none⟩ (.slice B x.data.length d)) w.heap.size l (ds.set k (B, d)) (some ⟨g, 0, none⟩) c1) := hD (HR2.out.setData (e := (B, d)) HLK.out hob.src.bts (by show x.data.length <= d; simpa using hob.le) (fun _ q h e2 => by have := hgw q h; omega))
   have HN3 : Hid (∀ (j : Nat) (o : Stp) (d' : Option Addr × Nat), j < k + 1 -> l[j]? = some o -> (ds.set k (B, d))[j]? = some d' -> kOp.dat o ≠ [] -> ∀ q, d'.1.map (·.block) = some q -> w.heap.size <= q) := hD (fun j o d' hj h1 h2 hx q hq => by
    exact x89)
   obtain ⟨a0r, a0f, a0n, a0c, a0z, a0l⟩ := kp (wr.heap.size) (#[iv x.at_, iv x.len, .slice e.1 x.data.length e.2]) hb2
   clear hob hb2 hb3 hba q0 q1 q2 hfr hgw a0r a0f a0n a0c a0z a0l
   exact x153
  exact x96
def PcRet (w : World) (p : Pat) : Ending -> World -> Prop := fun en w' =>
 ∃ A c, en = .returned (.agg (patA p.from_ p.to_ p.old p.new_ p.size A p.ops.length c)) ∧ Fresh w.heap.size w' (fun v => PatIn v p A c) ∧ Below w.heap.size w w'
theorem patCopy_calls (B : Option Addr) (d : Nat) (p : Pat) (w : World) (hp : PatIn w p B d) :
  Calls Tryz.prog 88 #[.agg (patA p.from_ p.to_ p.old p.new_ p.size B p.ops.length d)] w (PcRet w p) := by
 obtain ⟨f, t, o, n, sz, l⟩ := p
 obtain ⟨hcap, hlen, hops, j0, j1, j2, j3, j4⟩ := hp
 dsimp only at *
 have hba := ((Below.refl w.heap.size w).alloc (Nat.le_refl _) (.cells (patA f t o n sz B l.length d) 35)).alloc (by simp) (.cells (patA 0 0 0 0 0 none 0 0) 35)
 have HBD := hD hops.bound
 have HS := hD hops
 have HI : Hid (I64 f ∧ I64 t ∧ I64 o ∧ I64 n ∧ I64 sz) := hD ⟨j0, j1, j2, j3, j4⟩
 have HBA := hD hba
 clear hops hba j0 j1 j2 j3 j4
 go_enter Tryz.func88, Tryz.ntmps88
 go_wp2_with fail
 refine (opsCopy_calls B d l _ hlen (HS.out.stays HBA.out)).mono ?_
 rintro e w1 ⟨A1, c1, ds, rfl, hg, he, hb1⟩
 obtain ⟨a0r, a0f, a0n, a0c, a0z, a0l⟩ := kp (w.heap.size) (patA f t o n sz B l.length d) hb1
 obtain ⟨a1r, a1f, a1n, a1c, a1z, a1l⟩ := kp (w.heap.size + 1) (patA 0 0 0 0 0 none 0 0) hb1
 have HB1 := hD (HBA.out.trans (hb1.mono (by simp; omega)))
 have hfr := hg.fresh he
 have HF : Hid (Fresh (w.heap.size + 2) w1 (fun v => GRow kOp v (w.heap.size + 2) l ds A1 c1)) := hD (by simpa using hfr)
 have HC := hD hg.row.le
 clear hb1 hg he hfr
 go_wp2_with fail
 refine bodyPost_ret (results_c rfl rfl (cs := patA f t o n sz A1 l.length c1) (by go_simp) (by go_simp) (by go_simp)) rfl ?_
 refine ⟨A1, c1, rfl, ?_, ?_⟩
 ·refine Fresh.imp (P := fun v => GRow kOp v (w.heap.size + 2) l ds A1 c1) (Fresh.mono (base := w.heap.size + 2) ?_ (by omega)) (fun v hv => ⟨HC.out, hlen, hv.src.sps HBD.out, HI.out.1, HI.out.2.1, HI.out.2.2.1, HI.out.2.2.2.1, HI.out.2.2.2.2⟩)
  repeat (first | exact HF.out | refine Fresh.row ?_ (by omega) _ | refine Fresh.cell ?_ (by simp) _)
 have hs := HB1.out.size
 exact x0
theorem chkCopy_calls (A : Option Addr) (c : Nat) (l : List Chk) (w : World) (hl : l.length <= 1048576) (hs : Chs w A l) :
  Calls Tryz.prog 82 #[.slice A l.length c] w (KrRet kChk w l) := by
 obtain ⟨ds0, hg⟩ := hs.gsrc
 have hbd := hs.bound
 have HBD := hD hbd
 have HG := hD hg
 have K1 := hD (cloneChunks_calls A l.length c (kChk.cells l ds0) w (cells_len _ _ hg.len) (by omega) hg.row (cells_oneCell _ _))
 clear hs hg hbd
 go_enter Tryz.func82, Tryz.ntmps82
 go_wp2_with fail
 refine K1.out.mono ?_
 rintro e w1 ⟨A1, c1, rfl, hown, hb1⟩
 have hrow : GRow kChk w1 w.heap.size l ds0 A1 c1 := ⟨HG.out.len, hown, (HG.out.stays hb1).data, fun i o d h1 h2 hx k hk e => by
  have := HG.out.each i o d h1 h2 hx k hk
  have := (hown.block k e).1
  omega⟩
 have HR0 := hD hrow
 have HB0 : Hid (Below w.heap.size w w1) := hD hb1
 clear hown hb1 hrow K1
 go_wp2_with fail
 go_loopw [9] (fun i wr => ∃ (k : Nat) (ds : List (Option Addr × Nat)), k <= l.length ∧ i = .int .i64 k ∧ Hid (GRow kChk wr w.heap.size l ds A1 c1) ∧ Hid (∀ (j : Nat) (o : Chk) (d : Option Addr × Nat), j < k -> l[j]? = some o -> ds[j]? = some d -> kChk.dat o ≠ [] -> ∀ q, d.1.map (·.block) = some q -> w.heap.size <= q) ∧ Hid (Below w.heap.size w wr)) (fun i _ => l.length - (intOf i).toNat)
 case atStart => exact ⟨0, ds0, Nat.zero_le _, rfl, HR0, hD (fun j o d h => by omega), HB0⟩
 case round =>
  clear HR0 HB0
  rename World => wr
  obtain ⟨k, ds, hk, rfl, HR, HN, HB⟩ := hrel
  have hsz := HB.out.size
  by_cases hlt : k < l.length
  ·obtain ⟨g, rfl, hg1, hg2⟩ := HR.out.row.form (by omega)
   have hlk : l[k]? = some l[k] := List.getElem?_eq_getElem hlt
   have hdk : ds[k]? = some (ds[k]'(by have := HR.out.len; omega)) := List.getElem?_eq_getElem _
   obtain ⟨x, hx⟩ : ∃ x, l[k] = x := ⟨_, rfl⟩
   obtain ⟨e, he⟩ : ∃ e, ds[k]'(by have := HR.out.len; omega) = e := ⟨_, rfl⟩
   rw [hx] at hlk
   rw [he] at hdk
   have hcell : ∀ j, j < 5 -> wr.cell? ⟨g, k * 5 + j, none⟩ = (kChk.cell x e)[j]? := fun j hj => by
    rw [HR.out.row.cellAt _ (show k * 5 + j < l.length * 5 by omega)]
    exact cells_at (K := kChk) l ds HR.out.len k j x e hlk hdk hj
   have q0 : wr.cell? ⟨g, k * 5, none⟩ = some (iv x.from_) := hcell 0 (by decide)
   have q1 : wr.cell? ⟨g, k * 5 + 1, none⟩ = some (iv x.to_) := hcell 1 (by decide)
   have q2 : wr.cell? ⟨g, k * 5 + 2, none⟩ = some (iv x.n) := hcell 2 (by decide)
   have q3 : wr.cell? ⟨g, k * 5 + 3, none⟩ = some (iv x.of_) := hcell 3 (by decide)
   have q4 : wr.cell? ⟨g, k * 5 + 4, none⟩ = some (.slice e.1 x.data.length e.2) := hcell 4 (by decide)
   obtain ⟨hd1, hd2⟩ := HR.out.data k x e hlk hdk
   have hxl : x.data.length <= 1048576 := (HBD.out x (List.mem_of_getElem? hlk)).1
   have HD1 : Hid (Bts wr e.1 x.data) := hD hd1
   have HLK := hD hlk
   have HDK := hD hdk
   have K2 := hD (fun w h => cloneBytes_calls e.1 x.data.length e.2 (x.data.map bv) w (by simp) (by omega) h (bv_one _))
   have hfr : wr.frozen? ⟨g, k * 5 + 4, none⟩ = false := HR.out.row.frozenAt _
   have dl : decide ((k : Int) < (l.length : Int)) = true := decide_eq_true (by omega)
   have hwk : IntKind.i64.wrap ((k : Int) + 1) = (k : Int) + 1 := IntWalk.i64_in _ (by omega)
   have hcap : (l.length : Int) <= (c1 : Int) := by have := HR.out.row.le; omega
   clear hcell hx he hlk hdk hd1 hd2
   go_wp2_with fail
   have hba := (Below.refl wr.heap.size wr).alloc (Nat.le_refl _) (.cells (chkA x.from_ x.to_ x.n x.of_ e.1 x.data.length e.2) 39)
   refine (K2.out _ (HD1.out.stays hba).src).mono ?_
   rintro en w2 ⟨B, d, rfl, hob, hb2⟩
   have hb3 := hba.trans (hb2.mono (by simp))
   have HR2 := hD (HR.out.below hb3)
   have hq2 : w2.cell? ⟨g, k * 5 + 4, none⟩ = some (.slice e.1 x.data.length e.2) := (hb3.cell (p := ⟨g, k * 5 + 4, none⟩) hg2).trans q4
   have hf2 : w2.frozen? ⟨g, k * 5 + 4, none⟩ = false := (hb3.frozen (p := ⟨g, k * 5 + 4, none⟩) hg2).trans hfr
   have HBB : Hid (Below w.heap.size w (w2.setCell ⟨g, k * 5 + 4, none⟩ (.slice B x.data.length d))) := hD ((HB.out.trans (hb3.mono hsz)).setCell (p := ⟨g, k * 5 + 4, none⟩) hg1 _)
   have hgw : ∀ q, B.map (·.block) = some q -> wr.heap.size + 1 <= q := fun q h => by have := (hob.block q h).1; simpa using this
   have HR3 : Hid (GRow kChk (w2.setCell ⟨g, k * 5 + 4, none⟩ (.slice B x.data.length d)) w.heap.size l (ds.set k (B, d)) (some ⟨g, 0, none⟩) c1) := hD (HR2.out.setData (e := (B, d)) HLK.out hob.src.bts (by show x.data.length <= d; simpa using hob.le) (fun _ q h e2 => by have := hgw q h; omega))
   have HN3 : Hid (∀ (j : Nat) (o : Chk) (d' : Option Addr × Nat), j < k + 1 -> l[j]? = some o -> (ds.set k (B, d))[j]? = some d' -> kChk.dat o ≠ [] -> ∀ q, d'.1.map (·.block) = some q -> w.heap.size <= q) := hD (fun j o d' hj h1 h2 hx q hq => by
    exact x89)
   obtain ⟨a0r, a0f, a0n, a0c, a0z, a0l⟩ := kp (wr.heap.size) (chkA x.from_ x.to_ x.n x.of_ e.1 x.data.length e.2) hb2
   clear hob hb2 hb3 hba q0 q1 q2 q3 q4 hfr hgw a0r a0f a0n a0c a0z a0l
   exact x153
  exact x96
end Go.Proofs.YtefkfglkpebbmacGreat
