/- Walks of functions, and plain words. No conditions. -/
import Derived.Test.YtefkfglkpebbmadP8
import Derived.BigRegion
set_option linter.unusedVariables false
set_option linter.unusedSimpArgs false
set_option maxRecDepth 100000
set_option maxHeartbeats 40000000
namespace Go.Proofs.Ytefkfglkpebbmad
open Go.RowKit
theorem GRow.append {w w' : World} {base : Nat} {l t : List Chk} {ds es : List (Option Addr × Nat)} {A B A' : Option Addr} {c e c' b2 : Nat} (h : GRow kChk w base l ds A c) (g : GRow kChk w b2 t es B e) (hab : Each kChk t es (fun k => A.map (·.block) ≠ some k))
  (h1 : Own w' base 80 5 A' (l.length + t.length) c' (kChk.cells l ds ++ kChk.cells t es)) (hg : w.grownBy w' (A.map (·.block))) (hb : Below base w w') (hor : A'.map (·.block) = A.map (·.block) ∨ A'.map (·.block) = some w.heap.size) : GRow kChk w' base (l ++ t) (ds ++ es) A' c' := by
 have hl := h.len
 have ht := g.len
 refine h.remake (by simp; omega) ?_ hb (fun k hk hn => hg.block k hk (fun e => hn e.symm)) ?_ fun i o d hi hd => ?_
 ·rw [cells_append _ _ _ _ hl, List.length_append]; exact h1
 ·rcases hor with h | h
  ·exact .inl h
  ·exact .inr (fun k hk => by rw [h] at hk; injection hk with hk; omega)
 ·by_cases hil : i < l.length
  ·rw [List.getElem?_append_left hil] at hi
   rw [List.getElem?_append_left (by omega)] at hd
   exact .inl ⟨i, hi, hd⟩
  ·rw [List.getElem?_append_right (by omega)] at hi
   rw [List.getElem?_append_right (by omega), show i - ds.length = i - l.length by omega] at hd
   have h9 := g.data _ o d hi hd
   exact .inr ⟨h9.1, h9.2, fun hx k hk => hab _ o d hi hd hx k hk⟩
theorem Each.append {l t : List Chk} {ds es : List (Option Addr × Nat)} {P : Nat → Prop} (h : Each kChk l ds P) (g : Each kChk t es P) (hl : ds.length = l.length) : Each kChk (l ++ t) (ds ++ es) P := fun i o d hi hd hx k hk => by
 by_cases hil : i < l.length
 ·rw [List.getElem?_append_left hil] at hi
  rw [List.getElem?_append_left (by omega)] at hd
  exact h _ o d hi hd hx k hk
 ·rw [List.getElem?_append_right (by omega)] at hi
  rw [List.getElem?_append_right (by omega), show i - ds.length = i - l.length by omega] at hd
  exact g _ o d hi hd hx k hk
theorem cut_bound {p : Pat} {y : Chk} (hy : y ∈ (chkCut p).1) : ChkB y := by
 by_cases h : (chkCut p).2 = 0
 ·have hc := (chkCheck_ok.1 (cut_chunks h y hy))
  obtain ⟨h1, h2⟩ := hc
  unfold Chk.range at h1
  unfold Chk.full at h2
  refine ⟨by omega, ⟨by omega, by omega⟩, ⟨by omega, by omega⟩, ⟨by omega, by omega⟩, ⟨by omega, by omega⟩⟩
 ·exfalso
  unfold chkCut at hy h
  by_cases h1 : patCheck p ≠ 0
  ·rw [if_pos h1] at hy; simp at hy
  ·rw [if_neg h1] at hy h
   split at hy
   ·simp at hy
   ·rename_i h2
    rw [if_neg h2] at h
    exact h rfl
theorem send_calls (g base m top : Nat) (ds : List (Option Addr × Nat)) (t : Int) (x : Wor) (L : WLoc) (w : World) (hr : rowOf w g = worA x L) (hf : frOf w g = (0, 0)) (hg : g < base ∨ top ≤ g) (h : WorAt w base m top ds x L) (hok : WorOk x) (hit : I64 t) : Calls Try.prog 39 #[.pointer (some ⟨g, 0, none⟩), iv t] w (HaRet w g base (worSend x t).1 (worSend x t).2) := by
 have hlt : g < w.heap.size := row_lt (w := w) (by rw [hr]; simp [worA])
 have hm3 := h.h3
 have hm2 := h.h2
 have hm1 := h.h1
 have hrec := rec_ok hok.dev
 have HREC := hD hrec
 have hact := rec_active hrec
 have HIT := hD hit
 have HW := hD h
 have K2 := hD (fun w => read_ok x.d.c0 x.d.c1 w hok.dev.cops)
 obtain ⟨rk, hrk⟩ : ∃ rk, (recRead x.d.c0 x.d.c1).2 = rk := ⟨_, rfl⟩
 have hre : (recRead x.d.c0 x.d.c1).1 = x.d.rec_ := rfl
 rw [hrk, hre] at K2
 have hdef : worSend x t = if t < 1 ∨ (x.rel.length : Int) < t ∨ (x.rel.length : Int) < x.d.good then (Wor.zero, 4)
  else if (patMake (sumOn 1) x.d.good t (relAt x.rel x.d.good) (relAt x.rel t)).2 ≠ 0 then (Wor.zero, (patMake (sumOn 1) x.d.good t (relAt x.rel x.d.good) (relAt x.rel t)).2)
  else if (chkCut (patMake (sumOn 1) x.d.good t (relAt x.rel x.d.good) (relAt x.rel t)).1).2 ≠ 0 then (Wor.zero, (chkCut (patMake (sumOn 1) x.d.good t (relAt x.rel x.d.good) (relAt x.rel t)).1).2)
  else if 120 < x.net.length + (chkCut (patMake (sumOn 1) x.d.good t (relAt x.rel x.d.good) (relAt x.rel t)).1).1.length then (Wor.zero, 1)
  else ({ x with net := x.net ++ (chkCut (patMake (sumOn 1) x.d.good t (relAt x.rel x.d.good) (relAt x.rel t)).1).1 }, 0) := rfl
 have HD := hD hdef
 generalize worSend x t = res at *
 obtain ⟨a0r, a0f, a0n, a0c, a0z, a0l⟩ := keep1 (Below.refl w.heap.size w) hr (by go_simp) hf
 clear hdef hrec hrk hre hr hf h hit
 go_enter Try.func39, Try.ntmps39
 go_wp2_with fail
 refine (K2.out _).mono ?_
 rintro e w1 ⟨rfl, hb⟩
 obtain ⟨a0r, a0f, a0n, a0c, a0z, a0l⟩ := keep1 (g := g) (cs := worA x L) hb a0r (by go_simp) a0f
 have hs1 := hb.size
 have HX1 : Hid (Bex g base w w1) := hD ((Bex.refl g base w).below hb (by omega) (by omega))
 have HW1 : Hid (WorAt w1 base m top ds x L) := hD (HW.out.same (fun k a b => hb.block k (by omega)) (by omega))
 clear hb HW
 rcases hact with hk | hk
 first | case' inl => have T2 : Hid True := hD trivial | case' pos => have T2 : Hid True := hD trivial | case' refine_1 => have T2 : Hid True := hD trivial
 iterate 2
  ·first
    |
     revert T2; intro T2
     have hgood : x.d.good = x.d.rec_.a.ver := by unfold Dev.good; rw [hk, at_0]
    | have hgood : x.d.good = x.d.rec_.b.ver := by unfold Dev.good; rw [hk, at_1]
   have HGD := hD hgood
   first
    |
     revert T2; intro T2
     obtain ⟨fv, hfv⟩ : ∃ fv, x.d.rec_.a.ver = fv := ⟨_, rfl⟩
    | obtain ⟨fv, hfv⟩ : ∃ fv, x.d.rec_.b.ver = fv := ⟨_, rfl⟩
   have hfv1 : 1 ≤ fv ∧ fv ≤ 30 := by
    have hp := recCheck_parts HREC.out
    first
     |
      revert T2; intro T2
      have hi := hp.2.1
     | have hi := hp.2.2.1
    have hv := hp.2.2.2.1
    first
     |
      revert T2; intro T2
      rw [hk, at_0] at hv
     | rw [hk, at_1] at hv
    unfold infCheck at hi
    first
     |
      revert T2; intro T2
      by_cases hh : InfRange x.d.rec_.a
     | by_cases hh : InfRange x.d.rec_.b
    ·unfold InfRange at hh; omega
    ·rw [if_neg hh] at hi; exact absurd hi (by decide)
   rw [hgood, hfv] at HD
   have HFV := hD hfv
   have hfv1' := hfv1
   clear hgood
   by_cases c1 : t < 1 ∨ (x.rel.length : Int) < t ∨ (x.rel.length : Int) < fv
   ·have hz : res = (Wor.zero, 4) := HD.out.trans (if_pos c1)
    subst hz
    have hsx : w.heap.size ≤ (w1.alloc (.cells (recA x.d.rec_) 30)).heap.size := by simp; omega
    by_cases d1 : t < 1
    ·clear c1
     go_wp2_with fail
     go_ret
     exact ⟨rfl, fun e => absurd e (by decide), HX1.out.alloc (by omega) (by omega) _, hsx⟩
    by_cases d2 : (x.rel.length : Int) < t
    ·clear c1
     go_wp2_with fail
     go_ret
     exact ⟨rfl, fun e => absurd e (by decide), HX1.out.alloc (by omega) (by omega) _, hsx⟩
    have d3 : (x.rel.length : Int) < fv := (c1.resolve_left d1).resolve_left d2
    clear c1
    go_wp2_with fail
    go_ret
    exact ⟨rfl, fun e => absurd e (by decide), HX1.out.alloc (by omega) (by omega) _, hsx⟩
   have HD2 := hD (HD.out.trans (if_neg c1))
   have d1 : ¬ t < 1 := fun e => c1 (.inl e)
   have d2 : ¬ (x.rel.length : Int) < t := fun e => c1 (.inr (.inl e))
   have d3 : ¬ (x.rel.length : Int) < fv := fun e => c1 (.inr (.inr e))
   clear c1 HD
   obtain ⟨fi, hfi⟩ : ∃ fi : Nat, fv = (fi : Int) + 1 := ⟨(fv - 1).toNat, by omega⟩
   obtain ⟨ti, hti⟩ : ∃ ti : Nat, t = (ti : Int) + 1 := ⟨(t - 1).toNat, by omega⟩
   have hfl : fi < x.rel.length := by omega
   have htl : ti < x.rel.length := by omega
   have hr1 : relAt x.rel fv = x.rel[fi] := by unfold relAt; rw [show (fv - 1).toNat = fi by omega]; simp [hfl]
   have hr2 : relAt x.rel t = x.rel[ti] := by unfold relAt; rw [show (t - 1).toNat = ti by omega]; simp [htl]
   rw [hr1, hr2] at HD2
   have HFI := hD hfi
   have HTI := hD hti
   clear hfi hti hr1 hr2
   go_wp2_with fail
   clear hk hfv
   obtain ⟨w3, hw3⟩ : ∃ w3, w1.alloc (.cells (recA x.d.rec_) 30) = w3 := ⟨_, rfl⟩
   have z1 : rowOf w3 g = worA x L := by rw [← hw3, rowOf_alloc, if_neg (by omega)]; exact a0r
   have z2 : frOf w3 g = (0, 0) := by rw [← hw3, frOf_alloc, if_neg (by omega)]; exact a0f
   have hsz3 : w3.heap.size = w1.heap.size + 1 := by rw [← hw3]; simp
   have HX3 : Hid (Bex g base w w3) := hD (by rw [← hw3]; exact HX1.out.alloc (by omega) (by omega) _)
   have HW3 : Hid (WorAt w3 base m top ds x L) := hD (HW1.out.same (fun k a b => by rw [← hw3]; exact Below.heap_alloc w1 _ k (by omega)) (by omega))
   try rw [hw3]
   have RW3 := hD z1
   have FW3 := hD z2
   obtain ⟨br, orr, hAr, hbr, cs1, hcl1, hcc1, B1, e1, rfl, hd1, hd2, hd3⟩ := HW3.out.rel.now fi hfl
   obtain ⟨br2, orr2, hAr2, hbr2, cs2, hcl2, hcc2, B2, e2, rfl, hd4, hd5, hd6⟩ := HW3.out.rel.now ti htl
   rw [hAr] at hAr2
   injection hAr2 with hAr2
   injection hAr2 with q1 q2
   subst q1 q2
   obtain ⟨b1, hb1⟩ : ∃ b1, x.rel[fi] = b1 := ⟨_, rfl⟩
   obtain ⟨b2, hb2⟩ : ∃ b2, x.rel[ti] = b2 := ⟨_, rfl⟩
   rw [hb1] at hcc1 hd1 hd3 HD2
   rw [hb2] at hcc2 hd4 hd6 HD2
   have HC1 : Hid (w3.cell? ⟨br, orr + fi, none⟩ = some (.slice B1 b1.length e1)) := hD (by have := hcc1 0 (by simp); simpa using this)
   have HC2 : Hid (w3.cell? ⟨br, orr + ti, none⟩ = some (.slice B2 b2.length e2)) := hD (by have := hcc2 0 (by simp); simpa using this)
   have HLB : Hid (b1.length ≤ 64 ∧ b2.length ≤ 64) := hD (by
    have hre := (relCheck_ok.1 hok.rel).2.2
    exact ⟨by rw [← hb1]; exact hre _ (List.getElem_mem hfl), by rw [← hb2]; exact hre _ (List.getElem_mem htl)⟩)
   have HB1 : Hid (Bts w3 B1 b1) := hD hd3
   have HB2 : Hid (Bts w3 B2 b2) := hD hd6
   have HAR := hD hAr
   have HBR := hD hbr
   obtain ⟨⟨p, en⟩, hpm⟩ : ∃ z, patMake (sumOn 1) fv t b1 b2 = z := ⟨_, rfl⟩
   rw [hpm] at HD2
   have KM : Hid (∀ wq, Below w3.heap.size w3 wq → Calls Try.prog 56 #[iv fv, iv t, .slice B1 b1.length e1, .slice B2 b2.length e2] wq (PaRet wq p en)) := hD (fun wq hq => by
    have h9 := patMake_fit B1 B2 e1 e2 fv t b1 b2 wq ⟨by omega, by omega⟩ HIT.out HLB.out.1 HLB.out.2 (HB1.out.stays hq) (HB2.out.stays hq)
    rw [hpm] at h9
    exact h9)
   have hkr := HW3.out.kr
   have hr30 := (relCheck_ok.1 hok.rel).2.1
   have HW1' : Hid (IntKind.i64.wrap (fv - 1) = (fi : Int)) := hD (by rw [HFI.out, show (fi : Int) + 1 - 1 = (fi : Int) by omega]; exact IntWalk.i64_in _ (by omega))
   have HW2' : Hid (IntKind.i64.wrap (t - 1) = (ti : Int)) := hD (by rw [HTI.out, show (ti : Int) + 1 - 1 = (ti : Int) by omega]; exact IntWalk.i64_in _ (by omega))
   clear hcc1 hcc2 hd1 hd2 hd3 hd4 hd5 hd6 hcl1 hcl2 hAr hbr hbr2 hb1 hb2 hpm hw3 z1 z2 a0r a0f a0n a0c a0z a0l
   refine wp_region_free (by kernel_rfl) (some 51 :: some 52 :: some 53 :: some 54 :: some 55 :: some 56 :: some 57 :: some 58 :: some 59 :: some 60 :: some 61 :: some 62 :: some 63 :: some 64 :: some 65 :: some 66 :: some 67 :: some 68 :: some 69 :: some 50 :: some 70 :: some 71 :: some 9 :: none :: some 7 :: []) (false :: false :: false :: false :: false :: false :: false :: false :: false :: false :: false :: false :: false :: false :: false :: false :: false :: false :: true :: true :: true :: true :: true :: true :: true :: []) (iv fv :: iv t :: .pointer (some ⟨g, 0, none⟩) :: .pointer (some ⟨g, 0, none⟩) :: .pointer (some ⟨g, 0, none⟩) :: .slice L.ar x.rel.length L.cr :: iv fv :: .int .i64 (fi : Int) :: .pointer (some ⟨br, orr + fi, none⟩) :: .slice B1 b1.length e1 :: .pointer (some ⟨g, 0, none⟩) :: .pointer (some ⟨g, 0, none⟩) :: .pointer (some ⟨g, 0, none⟩) :: .slice L.ar x.rel.length L.cr :: iv t :: .int .i64 (ti : Int) :: .pointer (some ⟨br, orr + ti, none⟩) :: .slice B2 b2.length e2 :: undef :: undef :: undef :: undef :: undef :: undef :: undef :: []) (cbJ w3 18 19 20 21 22 23 24 (fun q : Option Addr × Nat => patA p.from_ p.to_ p.old p.new_ p.size q.1 p.ops.length q.2) (patA 0 0 0 0 0 none 0 0) en (fun q u => PatIn u p q.1 q.2)) 101 rfl rfl (by decide +kernel) (by decide +kernel) (by decide +kernel) rfl rfl (cbJ_start ((none, 0) : Option Addr × Nat)) ?_ ?_
   ·refine ⟨?_, ?_⟩
    ·intro done cv a wq hn hw hcl h hJ
     have e8 := fO 8 (iv fv) h
     exact mx_move (ch_ev e8)
    refine ⟨?_, ?_⟩
    ·intro done cv a wq hn hw hcl h hJ
     have e1 := fO 1 (iv t) h
     exact mx_move (ch_ev e1)
    refine ⟨?_, ?_⟩
    ·intro done cv a wq hn hw hcl h hJ
     have e0 := fO 0 (.pointer (some ⟨g, 0, none⟩)) h
     exact mx_move (ch_ev e0)
    refine ⟨?_, ?_⟩
    ·intro done cv a wq hn hw hcl h hJ
     have e53 := fN 2 53 h hw
     go_simp
    refine ⟨?_, ?_⟩
    ·intro done cv a wq hn hw hcl h hJ
     have e54 := fN 3 54 h hw
     go_simp
    refine ⟨?_, ?_⟩
    ·intro done cv a wq hn hw hcl h hJ
     have e55 := fN 4 55 h hw
     obtain ⟨r_, f_, n_, c_, z_, l_⟩ := keep1 (cbJ_bel hJ) RW3.out (by go_simp) FW3.out
     go_simp
    refine ⟨?_, ?_⟩
    ·intro done cv a wq hn hw hcl h hJ
     have e8 := fO 8 (iv fv) h
     exact mx_move (ch_ev e8)
    refine ⟨?_, ?_⟩
    ·intro done cv a wq hn hw hcl h hJ
     have e57 := fN 6 57 h hw
     have h_ := HW1'.out
     go_simp
    refine ⟨?_, ?_⟩
    ·intro done cv a wq hn hw hcl h hJ
     have e56 := fN 5 56 h hw; have e58 := fN 7 58 h hw
     have h_ := HAR.out
     have h2_ : (fi : Int) < (x.rel.length : Int) := by omega
     have h3_ : (x.rel.length : Int) ≤ (L.cr : Int) := by omega
     go_simp
    refine ⟨?_, ?_⟩
    ·intro done cv a wq hn hw hcl h hJ
     have e59 := fN 8 59 h hw
     have hq_ := ((cbJ_bel hJ).cell (p := ⟨br, orr + fi, none⟩) HBR.out).trans HC1.out
     go_simp
    refine ⟨?_, ?_⟩
    ·intro done cv a wq hn hw hcl h hJ
     have e0 := fO 0 (.pointer (some ⟨g, 0, none⟩)) h
     exact mx_move (ch_ev e0)
    refine ⟨?_, ?_⟩
    ·intro done cv a wq hn hw hcl h hJ
     have e61 := fN 10 61 h hw
     go_simp
    refine ⟨?_, ?_⟩
    ·intro done cv a wq hn hw hcl h hJ
     have e62 := fN 11 62 h hw
     go_simp
    refine ⟨?_, ?_⟩
    ·intro done cv a wq hn hw hcl h hJ
     have e63 := fN 12 63 h hw
     obtain ⟨r_, f_, n_, c_, z_, l_⟩ := keep1 (cbJ_bel hJ) RW3.out (by go_simp) FW3.out
     go_simp
    refine ⟨?_, ?_⟩
    ·intro done cv a wq hn hw hcl h hJ
     have e1 := fO 1 (iv t) h
     exact mx_move (ch_ev e1)
    refine ⟨?_, ?_⟩
    ·intro done cv a wq hn hw hcl h hJ
     have e65 := fN 14 65 h hw
     have h_ := HW2'.out
     go_simp
    refine ⟨?_, ?_⟩
    ·intro done cv a wq hn hw hcl h hJ
     have e64 := fN 13 64 h hw; have e66 := fN 15 66 h hw
     have h_ := HAR.out
     have h2_ : (ti : Int) < (x.rel.length : Int) := by omega
     have h3_ : (x.rel.length : Int) ≤ (L.cr : Int) := by omega
     go_simp
    refine ⟨?_, ?_⟩
    ·intro done cv a wq hn hw hcl h hJ
     have e67 := fN 16 67 h hw
     have hq_ := ((cbJ_bel hJ).cell (p := ⟨br, orr + ti, none⟩) HBR.out).trans HC2.out
     go_simp
    refine ⟨?_, ?_⟩
    ·intro done cv a wq hn hw hcl h hJ
     have e51 := fN 0 51 h hw; have e52 := fN 1 52 h hw; have e60 := fN 9 60 h hw; have e68 := fN 17 68 h hw
     have n18 := hn
     have n19 := nW 19 18 hcl n18
     have n20 := nW 20 19 hcl n19
     have n21 := nW 21 19 hcl n19
     have n24 := nW 24 21 hcl n21
     have n23 := nW 23 20 hcl n20
     have hbq := cbJ_bel hJ
     refine wp_call (vals := #[iv fv, iv t, .slice B1 b1.length e1, .slice B2 b2.length e2]) (by rw [List.map_toArray, List.map_cons, List.map_cons, List.map_cons, List.map_cons, List.map_nil, ch_ev e51, ch_ev e52, ch_ev e60, ch_ev e68]) (enters_of Try.func56 (by kernel_rfl) rfl _ _) (KM.out _ hbq) ?_
     rintro e w' ⟨A3, c3, rfl, hfr, hbel⟩
     exact ⟨_, rfl, _, rfl, cbJ_c (by simp [maskB, n19]) (by simp [maskB, n20]) (by simp [maskB, n21]) (by simp [maskB, n24]) (by simp [maskB, n23]) (by decide) (by decide) (by decide) (by decide) (by decide) (by decide) hJ (x := (A3, c3)) hfr hbel⟩
    refine ⟨?_, ?_⟩
    ·intro done cv a wq hn hw hcl h hJ
     have e69 := fr_cv (i := 18) (t := 69) h (hw 18 (by decide)) rfl rfl
     have m18 := hw 18 (by decide)
     refine wp_val (v := cv 18) (mx_move (ch_ev e69)) ⟨_, rfl, cbJ_k (by decide) (by decide) (by decide) hJ (fun x q _ _ _ => ⟨fun _ => q (by simp [maskB, m18]), fun h => absurd h (by decide), fun h => absurd h (by decide), fun h => absurd h (by decide)⟩)⟩
    refine ⟨?_, ?_⟩
    ·intro done cv a wq hn hw hcl h hJ
     have e50 := fr_cv (i := 19) (t := 50) h (hw 19 (by decide)) rfl rfl
     have m19 := hw 19 (by decide)
     obtain ⟨x, b_, gb_, w2_, hj_⟩ := hJ
     have y := hj_.v1 (by simp [maskB, m19])
     rw [y] at e50
     refine wp_val (v := .agg ((fun q : Option Addr × Nat => patA p.from_ p.to_ p.old p.new_ p.size q.1 p.ops.length q.2) x)) (by go_simp) ⟨_, rfl, cbJ_k (by decide) (by decide) (by decide) ⟨x, b_, gb_, w2_, hj_⟩ (fun x3 _ h8 _ _ => ⟨fun h => absurd h (by decide), fun _ => by have q9 := h8 (by simp [maskB, m19]); rw [y] at q9; simp at q9 ⊢; first | exact q9 | exact q9.symm | trivial, fun h => absurd h (by decide), fun h => absurd h (by decide)⟩)⟩
    refine ⟨?_, ?_⟩
    ·intro done cv a wq hn hw hcl h hJ
     have e50 := fr_cv (i := 19) (t := 50) h (hw 19 (by decide)) rfl rfl
     have m19 := hw 19 (by decide)
     obtain ⟨x, b_, gb_, w2_, hj_⟩ := hJ
     have y := hj_.v1 (by simp [maskB, m19])
     rw [y] at e50
     refine wp_val (v := iv en) (by go_simp) ⟨_, rfl, cbJ_k (by decide) (by decide) (by decide) ⟨x, b_, gb_, w2_, hj_⟩ (fun x3 _ h8 _ _ => ⟨fun h => absurd h (by decide), fun h => absurd h (by decide), fun _ => rfl, fun h => absurd h (by decide)⟩)⟩
    refine ⟨?_, ?_⟩
    ·intro done cv a wq hn hw hcl h hJ
     have n22 := hn
     have n23 := nW 23 22 hcl n22
     refine wp_alloc (zr := patA 0 0 0 0 0 none 0 0) (fun ev => by go_simp) ⟨_, rfl, cbJ_a (by go_simp) (by simp [maskB, n22]) (by simp [maskB, n23]) (by decide) (by decide) (by decide) (by decide) (by decide) (by decide) hJ⟩
    refine ⟨?_, ?_⟩
    ·intro done cv a wq hn hw hcl h hJ
     have e9 := fr_cv (i := 22) (t := 9) h (hw 22 (by decide)) rfl rfl; have e70 := fr_cv (i := 20) (t := 70) h (hw 20 (by decide)) rfl rfl
     have n23 := hn
     have m22 := hw 22 (by decide)
     have m20 := hw 20 (by decide)
     have m19 := hcl 20 _ rfl m20 19 (by decide)
     have m18 := hcl 19 _ rfl m19 18 (by decide)
     obtain ⟨x, gb_, y1, y2, r_, f_, hJ2⟩ := cbJ_s (v := undef) (by go_simp) (by simp [maskB, m18]) (by simp [maskB, n23]) (by simp [maskB, m22]) (by simp [maskB, m20]) (by decide) (by decide) (by decide) (by decide) (by decide) (by decide) hJ
     rw [y1] at e9
     rw [y2] at e70
     refine wp_srow e9 e70 (by go_simp) (by go_simp) r_ (by go_simp) f_ (by go_simp) ⟨undef, rfl, ?_⟩
     rw [splice_all _ _ (by go_simp)]
     exact hJ2
    refine ⟨?_, ?_⟩
    ·intro done cv a wq hn hw hcl h hJ
     have e71 := fr_cv (i := 21) (t := 71) h (hw 21 (by decide)) rfl rfl
     have m21 := hw 21 (by decide)
     obtain ⟨x, b_, gb_, w2_, hj_⟩ := hJ
     have y := hj_.v3 (by simp [maskB, m21])
     rw [y] at e71
     refine wp_asg (v := iv en) (ch_ev e71) ⟨_, rfl, cbJ_k (by decide) (by decide) (by decide) ⟨x, b_, gb_, w2_, hj_⟩ (fun x3 _ _ _ _ => ⟨fun h => absurd h (by decide), fun h => absurd h (by decide), fun h => absurd h (by decide), fun _ => rfl⟩)⟩
    exact trivial
   intro dn cv w5 hall hJ
   obtain ⟨⟨A3, c3⟩, b5, gb, w4, y18, g4, g5, g6, g7, g8, rb, fb, hgb1, hgb2, hbel, hb5, hfr, hkp, hsz4, hap⟩ := cbJ_end (hall 18 rfl (by decide)) (hall 19 rfl (by decide)) (hall 20 rfl (by decide)) (hall 21 rfl (by decide)) (hall 24 rfl (by decide)) (hall 22 rfl (by decide)) (hall 23 rfl (by decide)) hJ
   simp only [freeAll, putAll_some, putAll_none, putAll_nil, List.getD_cons_zero, List.getD_cons_succ, Bool.false_eq_true, if_true, if_false, reduceIte, Nat.zero_add, Nat.reduceAdd, List.setIfInBounds_toArray, List.set_cons_zero, List.set_cons_succ]
   rw [y18, g4, g5, g6, g7, g8]
   dsimp only at rb hfr
   have hs4 := hbel.size
   obtain ⟨a0r, a0f, a0n, a0c, a0z, a0l⟩ := keep1 hbel RW3.out (by go_simp) FW3.out
   have HX5 := hD (HX3.out.below hbel (by omega) (by omega))
   have HW5 : Hid (WorAt w5 base m top ds x L) := hD (HW3.out.same (fun k a b => hbel.block k (by omega)) (by omega))
   have HP5 : Hid (PatIn w5 p A3 c3) := hD (Fresh.kp hfr hkp (Nat.le_refl _) hsz4).now
   have HRB := hD rb
   have HFB := hD fb
   clear hJ hall y18 g4 g5 g6 g7 g8 hfr hbel KM RW3 FW3 hkp hap rb fb
   by_cases c2 : en ≠ 0
   ·have hz : res = (Wor.zero, en) := HD2.out.trans (if_pos c2)
    subst hz
    have q : (en != 0) = true := by simp [c2]
    have HC := hD c2
    clear c2
    go_wp2_with fail
    go_ret
    exact ⟨rfl, fun e => absurd e HC.out, HX5.out, by omega⟩
   have c2 := Decidable.not_not.1 c2
   subst c2
   have HD3 := hD (HD2.out.trans (if_neg (by simp)))
   clear HD2
   dsimp only at HD3
   obtain ⟨⟨l, e3⟩, hct⟩ : ∃ z, chkCut p = z := ⟨_, rfl⟩
   rw [hct] at HD3
   have KC := hD (chkCut_calls A3 c3 p w5 HP5.out)
   rw [hct] at KC
   have HBL : Hid (∀ y ∈ l, ChkB y) := hD (fun y hy => by
    have h9 : l = (chkCut p).1 := by rw [hct]
    rw [h9] at hy
    exact cut_bound hy)
   have q0 : ((0 : Int) != 0) = false := rfl
   have r0 := HRB.out
   have r1 := HFB.out
   clear hct
   go_wp2_with fail
   refine KC.out.mono ?_
   rintro e w6 ⟨A4, c4, ds4, rfl, hrow, heach, hb⟩
   obtain ⟨a0r, a0f, a0n, a0c, a0z, a0l⟩ := keep1 (g := g) (cs := worA x L) hb a0r (by go_simp) a0f
   have hs6 := hb.size
   have HX6 := hD (HX5.out.below hb (by omega) (by omega))
   have HW6 : Hid (WorAt w6 base m top ds x L) := hD (HW5.out.same (fun k a b => hb.block k (by omega)) (by omega))
   have HR4 := hD hrow
   have HE4 := hD heach
   clear hb hrow heach KC r0 r1
   by_cases k3 : e3 ≠ 0
   ·have hz : res = (Wor.zero, e3) := HD3.out.trans (if_pos k3)
    subst hz
    have q : (e3 != 0) = true := by simp [k3]
    have HC := hD k3
    clear k3
    go_wp2_with fail
    go_ret
    exact ⟨rfl, fun e => absurd e HC.out, HX6.out, by omega⟩
   have k3 := Decidable.not_not.1 k3
   subst k3
   have HD4 := hD (HD3.out.trans (if_neg (by simp)))
   clear HD3
   have hnl := HW6.out.ln
   have hwr : IntKind.i64.wrap (120 - (x.net.length : Int)) = 120 - (x.net.length : Int) := IntWalk.i64_in _ (by omega)
   by_cases k4 : 120 < x.net.length + l.length
   ·have hz : res = (Wor.zero, 1) := HD4.out.trans (if_pos k4)
    subst hz
    have q : 120 - (x.net.length : Int) < (l.length : Int) := by omega
    have q' : 120 < (l.length : Int) + (x.net.length : Int) := by omega
    go_wp2_with fail
    go_ret
    exact ⟨rfl, fun e => absurd e (by decide), HX6.out, by omega⟩
   have hz : res = ({ x with net := x.net ++ l }, 0) := HD4.out.trans (if_neg k4)
   subst hz
   have q : ¬ 120 - (x.net.length : Int) < (l.length : Int) := by omega
   have hown := HW6.out.net.row
   have hsrc := HR4.out.row.src
   have hcl4 : (kChk.cells l ds4).length = l.length * 5 := cells_len _ _ HR4.out.len
   have hone := cells_oneCell (K := kChk) l ds4
   have hm6 : m ≤ w6.heap.size := by omega
   have hlim : x.net.length + l.length ≤ 1073741824 := by omega
   have hgA : some g ≠ L.an.map (·.block) := fun e => by
    have e1 := HW6.out.blk g e.symm
    have e2 := (HW6.out.net.row.block g e.symm).1
    omega
   go_wp2_with (at_builtin; go_must (refine wpList_app w6 rfl _ _ 34 rfl elChunks m L.an x.net.length L.cn (kChk.cells x.net ds) rfl hown A4 l.length c4 (kChk.cells l ds4) rfl hsrc hcl4 hone hlim hm6 ?_; intro A' c' w7 hown7 hg7 hb7 hor7; have b7r : rowOf w7 g = worA x L := (rowOf_heap (hg7.block g a0l (fun e => hgA e))).1.trans a0r; have b7f : frOf w7 g = (0, 0) := (rowOf_heap (hg7.block g a0l (fun e => hgA e))).2.trans a0f; have b7c : ∀ j, w7.cell? ⟨g, j, none⟩ = (worA x L)[j]? := (fun j => by rw [cell_row (by rw [b7r]; simp [worA]), b7r]); have b7z : ∀ j, w7.frozen? ⟨g, j, none⟩ = false := (fun j => frozen_row (by rw [b7r]; simp [worA]) b7f j)))
   have hG7 : GRow kChk w7 m (x.net ++ l) (ds ++ ds4) A' c' := HW6.out.net.append HR4.out (fun i o d h1 h2 hx k hk e => by
    have h9 := HE4.out i o d h1 h2 hx k hk
    have h8 := HW6.out.blk k e
    omega) hown7 hg7 hb7 hor7
   have hE7 : Each kChk (x.net ++ l) (ds ++ ds4) (fun k => m ≤ k ∧ k ≠ g ∧ k < w6.heap.size) := (HW6.out.each.imp fun k hk => by
    have hk' : m ≤ k ∧ k < top := hk
    omega).append (fun i o d h1 h2 hx k hk => by
    have h9 : w5.heap.size ≤ k := HE4.out i o d h1 h2 hx k hk
    have h8 := HR4.out.src.each i o d h1 h2 hx k hk
    omega) HW6.out.net.len
   have hblk7 : ∀ k, A'.map (·.block) = some k → m ≤ k ∧ k ≠ g := fun k e => by
    rcases hor7 with h9 | h9
    ·rw [h9] at e
     have e1 := HW6.out.blk k e
     have e2 := (HW6.out.net.row.block k e).1
     omega
    ·rw [h9] at e
     injection e with e
     omega
   have hnl2 : (x.net ++ l).length = x.net.length + l.length := List.length_append
   have hrow8 : rowOf (w7.setCell ⟨g, 38, none⟩ (.slice A' (x.net.length + l.length) c')) g = worA { x with net := x.net ++ l } { L with an := A', cn := c' } := by
    rw [rowOf_setCell, if_pos rfl, b7r, ← hnl2, worA_set_net]
   have hs7 := hb7.size
   have HG7 := hD hG7
   have HE7 := hD hE7
   have HBK := hD hblk7
   have HB7 : Hid (∀ y ∈ x.net ++ l, ChkB y) := hD (fun y hy => by
    rcases List.mem_append.1 hy with hy | hy
    ·exact HW6.out.bd y hy
    ·exact HBL.out y hy)
   have HX7 : Hid (Bex g base w w7) := hD ⟨HX6.out.1.trans (hb7.mono (Nat.zero_le _)), fun k h1 h2 => (hb7.block k (by omega)).trans (HX6.out.2 k h1 h2)⟩
   clear hown7 hg7 hor7 hG7 hE7 hblk7
   go_ret
   refine ⟨rfl, fun _ => ⟨{ L with an := A', cn := c' }, hrow8, by rw [frOf_setCell]; exact b7f, ?_⟩, ?_, ?_⟩
   ·intro v hv
    have hb8 : ∀ k, base ≤ k → k ≠ g → k < w7.heap.size → v.heap[k]? = w7.heap[k]? := fun k h1 h0 h2 => (hv k h1 h0 (by simp; omega)).trans (Below.heap_setCell _ _ _ _ h0)
    have hbm : ∀ k, base ≤ k → k < m → v.heap[k]? = w6.heap[k]? := fun k h1 h2 => (hb8 k h1 (by omega) (by omega)).trans (hb7.block k h2)
    have hgr := HG7.out.ex (v := v) (fun k e => by
     have h9 := HBK.out k e
     have h8 := (HG7.out.row.block k e).2
     exact hb8 k (by omega) h9.2 h8) (HE7.out.imp fun k hk => by
     have hk' : m ≤ k ∧ k ≠ g ∧ k < w6.heap.size := hk
     exact hb8 k (by omega) hk'.2.1 (by omega))
    exact ⟨HW6.out.kr, HW6.out.lr, HW6.out.rel v hbm, HW6.out.dev v hbm, hgr.row.le, by show (x.net ++ l).length ≤ _; rw [hnl2]; omega, hgr.src.chs HB7.out⟩
   ·exact ⟨HX7.out.1.setCell (p := ⟨g, 38, none⟩) (Nat.zero_le _) _, fun k h1 h2 => (Below.heap_setCell _ _ _ _ (by show k ≠ g; omega)).trans (HX7.out.2 k h1 h2)⟩
   ·simp; omega
attribute [go_sem] setRow_setRow
theorem write_bad (c d : Cop) (r : Rec) (torn : Bool) (w : World) (h : copCheck c d ≠ 0) : Calls Try.prog 37 #[.agg (copsA c d), .agg (recA r), .bool torn] w (RetB w (.tuple #[.agg (copsA Cop.zero Cop.zero), iv (copCheck c d)])) := by
 have hb : (copCheck c d != 0) = true := by simp [h]
 go_enter Try.func37, Try.ntmps37
 go_wp2_with fail
 refine (read_bad c d _ h).mono ?_
 rintro e w1 ⟨rfl, hb1⟩
 obtain ⟨r0, f0, n0, c0, z0, l0⟩ := keep1 (g := w.heap.size) (cs := copsA c d) hb1 (by go_simp) (by go_simp) (by go_simp)
 obtain ⟨r1, f1, n1, c1, z1, l1⟩ := keep1 (g := w.heap.size + 1) (cs := recA r) hb1 (by go_simp) (by go_simp) (by go_simp)
 obtain ⟨r2, f2, n2, c2, z2, l2⟩ := keep1 (g := w.heap.size + 1 + 1) (cs := copsA Cop.zero Cop.zero) hb1 (by go_simp) (by go_simp) (by go_simp)
 obtain ⟨r3, f3, n3, c3, z3, l3⟩ := keep1 (g := w.heap.size + 1 + 1 + 1) (cs := copsA Cop.zero Cop.zero) hb1 (by go_simp) (by go_simp) (by go_simp)
 have HB := Lib.hid ((((((Below.refl _ _).alloc (Nat.le_refl _) _).alloc (by simp) _).alloc (by simp; omega) _).alloc (by simp; omega) _).trans (hb1.mono (B' := w.heap.size) (by simp; omega)))
 clear hb1 h
 go_wp2_with fail
 refine bodyPost_ret (results_ct rfl rfl (cs := copsA Cop.zero Cop.zero) (by go_simp) (by go_simp) (by go_simp)) rfl ⟨rfl, ?_⟩
 have hs := HB.out.size
 repeat (first | exact HB.out | refine below_row ?_ (by omega) _ | refine Below.setCell ?_ (by simp <;> omega) _ | refine Below.alloc ?_ (by simp <;> omega) _)
theorem write_ok (c d : Cop) (r : Rec) (torn : Bool) (w : World) (h : copCheck c d = 0) : Calls Try.prog 37 #[.agg (copsA c d), .agg (recA r), .bool torn] w
  (RetB w (.tuple #[.agg (copsA (recWrite c d r torn).1.1 (recWrite c d r torn).1.2), iv (recWrite c d r torn).2])) := by
 have hrg := recCheck_range0 (recRead_ok h)
 have hk : (recRead c d).2 = 0 ∨ (recRead c d).2 = 1 := by unfold recRead; split <;> simp
 have hw : recWrite c d r torn = if recCheck { r with gen := (recRead c d).1.gen + 1 } = 0 then (recPut c d r torn, 0) else ((Cop.zero, Cop.zero), recCheck { r with gen := (recRead c d).1.gen + 1 }) := by unfold recWrite; rw [if_pos h]
 have hp : recPut c d r torn = if (recRead c d).2 = 0 then (c, if torn = true then Cop.zero else ⟨true, { r with gen := (recRead c d).1.gen + 1 }⟩) else (if torn = true then Cop.zero else ⟨true, { r with gen := (recRead c d).1.gen + 1 }⟩, d) := rfl
 have hread := read_ok c d
 have hread := fun w => hread w h
 generalize recRead c d = q at *
 obtain ⟨was, k⟩ := q
 simp only at hk hw hp hread hrg
 have HW := Lib.hid hw
 have HP := Lib.hid hp
 have HRd := Lib.hid hread
 have hg1 := hrg.1
 have hg2 := hrg.2.1
 clear hw hp hread hrg h
 go_enter Try.func37, Try.ntmps37
 go_wp2_with fail
 refine (HRd.out _).mono ?_
 rintro e w1 ⟨rfl, hb1⟩
 obtain ⟨r0, f0, n0, c0, z0, l0⟩ := keep1 (g := w.heap.size) (cs := copsA c d) hb1 (by go_simp) (by go_simp) (by go_simp)
 obtain ⟨r1, f1, n1, c1, z1, l1⟩ := keep1 (g := w.heap.size + 1) (cs := recA r) hb1 (by go_simp) (by go_simp) (by go_simp)
 obtain ⟨r2, f2, n2, c2, z2, l2⟩ := keep1 (g := w.heap.size + 1 + 1) (cs := copsA Cop.zero Cop.zero) hb1 (by go_simp) (by go_simp) (by go_simp)
 obtain ⟨r3, f3, n3, c3, z3, l3⟩ := keep1 (g := w.heap.size + 1 + 1 + 1) (cs := copsA Cop.zero Cop.zero) hb1 (by go_simp) (by go_simp) (by go_simp)
 have HB := Lib.hid ((((((Below.refl _ _).alloc (Nat.le_refl _) _).alloc (by simp) _).alloc (by simp; omega) _).alloc (by simp; omega) _).trans (hb1.mono (B' := w.heap.size) (by simp; omega)))
 clear hb1
 go_wp2_with fail
 refine (recCheckA_calls { r with gen := was.gen + 1 } _).mono ?_
 rintro e w2 ⟨rfl, hb2⟩
 obtain ⟨r5, f5, n5, c5, z5, l5⟩ := keep1 (g := w.heap.size) (cs := copsA c d) hb2 (by go_simp) (by go_simp) (by go_simp)
 obtain ⟨r6, f6, n6, c6, z6, l6⟩ := keep1 (g := w.heap.size + 1) (cs := recA { r with gen := was.gen + 1 }) hb2 (by go_simp) (by go_simp) (by go_simp)
 obtain ⟨r7, f7, n7, c7, z7, l7⟩ := keep1 (g := w.heap.size + 1 + 1) (cs := copsA Cop.zero Cop.zero) hb2 (by go_simp) (by go_simp) (by go_simp)
 obtain ⟨r8, f8, n8, c8, z8, l8⟩ := keep1 (g := w.heap.size + 1 + 1 + 1) (cs := copsA Cop.zero Cop.zero) hb2 (by go_simp) (by go_simp) (by go_simp)
 have hs := HB.out.size
 have HB2 : Hid (Below w.heap.size w w2) := ((HB.out.setCell (p := ⟨w.heap.size + 1, 0, none⟩) (by simp) (.int .i64 (was.gen + 1))).alloc (by simp; omega) (.cells (recA was) 30)).trans (hb2.mono (by simp; omega))
 have hs2 := HB2.out.size
 clear hb2 r0 f0 n0 c0 z0 l0 r1 f1 n1 c1 z1 l1 r2 f2 n2 c2 z2 l2 r3 f3 n3 c3 z3 l3 hs
 by_cases hz : recCheck { r with gen := was.gen + 1 } = 0
 ·have hz' : (recCheck { r with gen := was.gen + 1 } != 0) = false := by simp [hz]
  have HE := Lib.hid (HW.out.trans (if_pos hz))
  clear hz HW
  rcases hk with rfl | rfl
  ·have HP2 := Lib.hid (HP.out.trans (if_pos rfl))
   cases torn
   ·go_wp2_with fail
    refine bodyPost_ret (results_ct rfl rfl (cs := copsA c ⟨true, { r with gen := was.gen + 1 }⟩) (by go_simp) (by go_simp) (by first | (go_simp; done) | (go_simp; kernel_rfl))) rfl ⟨by rw [HE.out, HP2.out]; rfl, ?_⟩
    repeat (first | exact HB2.out | refine below_row ?_ (by omega) _ | refine Below.setCell ?_ (by simp <;> omega) _ | refine Below.alloc ?_ (by simp <;> omega) _)
   ·go_wp2_with fail
    refine bodyPost_ret (results_ct rfl rfl (cs := copsA c Cop.zero) (by go_simp) (by go_simp) (by first | (go_simp; done) | (go_simp; kernel_rfl))) rfl ⟨by rw [HE.out, HP2.out]; rfl, ?_⟩
    repeat (first | exact HB2.out | refine below_row ?_ (by omega) _ | refine Below.setCell ?_ (by simp <;> omega) _ | refine Below.alloc ?_ (by simp <;> omega) _)
  ·have HP2 := Lib.hid (HP.out.trans (if_neg (by decide)))
   cases torn
   ·go_wp2_with fail
    refine bodyPost_ret (results_ct rfl rfl (cs := copsA ⟨true, { r with gen := was.gen + 1 }⟩ d) (by go_simp) (by go_simp) (by first | (go_simp; done) | (go_simp; kernel_rfl))) rfl ⟨by rw [HE.out, HP2.out]; rfl, ?_⟩
    repeat (first | exact HB2.out | refine below_row ?_ (by omega) _ | refine Below.setCell ?_ (by simp <;> omega) _ | refine Below.alloc ?_ (by simp <;> omega) _)
   ·go_wp2_with fail
    refine bodyPost_ret (results_ct rfl rfl (cs := copsA Cop.zero d) (by go_simp) (by go_simp) (by first | (go_simp; done) | (go_simp; kernel_rfl))) rfl ⟨by rw [HE.out, HP2.out]; rfl, ?_⟩
    repeat (first | exact HB2.out | refine below_row ?_ (by omega) _ | refine Below.setCell ?_ (by simp <;> omega) _ | refine Below.alloc ?_ (by simp <;> omega) _)
 ·have hz' : (recCheck { r with gen := was.gen + 1 } != 0) = true := by simp [hz]
  have HE := Lib.hid (HW.out.trans (if_neg hz))
  clear hz HW HP hk
  go_wp2_with fail
  refine bodyPost_ret (results_ct rfl rfl (cs := copsA Cop.zero Cop.zero) (by go_simp) (by go_simp) (by first | (go_simp; done) | (go_simp; kernel_rfl))) rfl ⟨by rw [HE.out]; rfl, ?_⟩
  repeat (first | exact HB2.out | refine below_row ?_ (by omega) _ | refine Below.setCell ?_ (by simp <;> omega) _ | refine Below.alloc ?_ (by simp <;> omega) _)
theorem write_calls (c d : Cop) (r : Rec) (torn : Bool) (w : World) : Calls Try.prog 37 #[.agg (copsA c d), .agg (recA r), .bool torn] w
  (RetB w (.tuple #[.agg (copsA (recWrite c d r torn).1.1 (recWrite c d r torn).1.2), iv (recWrite c d r torn).2])) := by
 by_cases h : copCheck c d = 0
 ·exact write_ok c d r torn w h
 ·have e : recWrite c d r torn = ((Cop.zero, Cop.zero), copCheck c d) := by unfold recWrite; rw [if_neg h]
  rw [e]; exact write_bad c d r torn w h
theorem start_calls (r : Rec) (w : World) : Calls Try.prog 36 #[.agg (recA r)] w (RetB w (.tuple #[iv (recStart r).1, .agg (recA (recStart r).2.1), iv (recStart r).2.2])) := by
 go_enter Try.func36, Try.ntmps36
 go_wp2_with fail
 refine (recCheckA_calls r _).mono ?_
 rintro e w1 ⟨rfl, hb1⟩
 obtain ⟨r0, f0, n0, c0, z0, l0⟩ := keep1 (g := w.heap.size) (cs := recA r) hb1 (by go_simp) (by go_simp) (by go_simp)
 obtain ⟨r1, f1, n1, c1, z1, l1⟩ := keep1 (g := w.heap.size + 1) (cs := recA Rec.zero) hb1 (by go_simp) (by go_simp) (by go_simp)
 have HB := Lib.hid ((((Below.refl _ _).alloc (Nat.le_refl _) _).alloc (by simp) _).trans (hb1.mono (B' := w.heap.size) (by simp; omega)))
 have hs := HB.out.size
 clear hb1
 by_cases hz : recCheck r = 0
 ·have hz' : (recCheck r != 0) = false := by simp [hz]
  have hrg := recCheck_range0 hz
  have hg1 := hrg.2.2.1
  have hg2 := hrg.2.2.2.1
  have hg3 := hrg.2.2.2.2.1
  have hg4 := hrg.2.2.2.2.2.1
  cases ht : r.trying
  ·have hE : recStart r = (r.active, r, 0) := by unfold recStart; rw [if_pos hz, if_neg (by simp [ht])]
   have HE := Lib.hid hE
   clear hE hrg hz
   go_wp2_with fail
   go_region
   all_goals (
    go_wp2_with fail
    refine bodyPost_ret (results_tct rfl rfl (cs := recA r) (by go_simp) (by go_simp) (by go_simp)) rfl ⟨by rw [HE.out]; rfl, ?_⟩
    repeat (first | exact HB.out | refine below_row ?_ (by omega) _ | refine Below.setCell ?_ (by simp <;> omega) _ | refine Below.alloc ?_ (by simp <;> omega) _ | refine Below.drew ?_))
  ·by_cases h0 : r.tries = 0
   ·have hE : recStart r = (r.active, { r with trying := false }, 0) := by unfold recStart; rw [if_pos hz, if_pos ht, if_pos h0]
    have h0' : (r.tries == 0) = true := by simp [h0]
    have HE := Lib.hid hE
    clear hE hrg hz h0
    go_wp2_with fail
    go_region
    all_goals (
     go_wp2_with fail
     refine bodyPost_ret (results_tct rfl rfl (cs := recA { r with trying := false }) (by go_simp) (by go_simp) (by go_simp)) rfl ⟨by rw [HE.out]; rfl, ?_⟩
     repeat (first | exact HB.out | refine below_row ?_ (by omega) _ | refine Below.setCell ?_ (by simp <;> omega) _ | refine Below.alloc ?_ (by simp <;> omega) _ | refine Below.drew ?_))
   ·have hE : recStart r = (1 - r.active, { r with tries := r.tries - 1 }, 0) := by unfold recStart; rw [if_pos hz, if_pos ht, if_neg h0]
    have h0' : (r.tries == 0) = false := by simp [h0]
    have HE := Lib.hid hE
    clear hE hrg hz h0
    go_wp2_with fail
    go_region
    all_goals (
     go_wp2_with fail
     refine bodyPost_ret (results_tct rfl rfl (cs := recA { r with tries := r.tries - 1 }) (by go_simp) (by go_simp) (by go_simp)) rfl ⟨by rw [HE.out]; rfl, ?_⟩
     repeat (first | exact HB.out | refine below_row ?_ (by omega) _ | refine Below.setCell ?_ (by simp <;> omega) _ | refine Below.alloc ?_ (by simp <;> omega) _ | refine Below.drew ?_))
 ·have hz' : (recCheck r != 0) = true := by simp [hz]
  have hE : recStart r = (0, Rec.zero, recCheck r) := by unfold recStart; rw [if_neg hz]
  have HE := Lib.hid hE
  clear hE hz
  go_wp2_with fail
  all_goals (
   go_wp2_with fail
   refine bodyPost_ret (results_tct rfl rfl (cs := recA Rec.zero) (by go_simp) (by go_simp) (by go_simp)) rfl ⟨by rw [HE.out]; rfl, ?_⟩
   repeat (first | exact HB.out | refine below_row ?_ (by omega) _ | refine Below.setCell ?_ (by simp <;> omega) _ | refine Below.alloc ?_ (by simp <;> omega) _ | refine Below.drew ?_))
theorem confirm_calls (r : Rec) (w : World) : Calls Try.prog 61 #[.agg (recA r)] w (RetB w (.tuple #[.agg (recA (recConfirm r).1), iv (recConfirm r).2])) := by
 go_enter Try.func61, Try.ntmps61
 go_wp2_with fail
 refine (recCheckA_calls r _).mono ?_
 rintro e w1 ⟨rfl, hb1⟩
 obtain ⟨r0, f0, n0, c0, z0, l0⟩ := keep1 (g := w.heap.size) (cs := recA r) hb1 (by go_simp) (by go_simp) (by go_simp)
 obtain ⟨r1, f1, n1, c1, z1, l1⟩ := keep1 (g := w.heap.size + 1) (cs := recA Rec.zero) hb1 (by go_simp) (by go_simp) (by go_simp)
 have HB := Lib.hid ((((Below.refl _ _).alloc (Nat.le_refl _) _).alloc (by simp) _).trans (hb1.mono (B' := w.heap.size) (by simp; omega)))
 have hs := HB.out.size
 clear hb1
 by_cases hz : recCheck r = 0
 ·have hz' : (recCheck r != 0) = false := by simp [hz]
  have hrg := recCheck_range0 hz
  have hg1 := hrg.2.2.1
  have hg2 := hrg.2.2.2.1
  have hg3 := hrg.2.2.2.2.1
  have hg4 := hrg.2.2.2.2.2.1
  have hg5 := hrg.2.2.2.2.2.2.1
  have hg6 := hrg.2.2.2.2.2.2.2
  cases ht : r.trying
  ·have hE : recConfirm r = (Rec.zero, 5) := by unfold recConfirm; rw [if_pos hz, if_neg (by simp [ht])]
   have HE := Lib.hid hE
   clear hE hrg hz
   go_wp2_with fail
   refine bodyPost_ret (results_ct rfl rfl (cs := recA Rec.zero) (by go_simp) (by go_simp) (by go_simp)) rfl ⟨by rw [HE.out]; rfl, ?_⟩
   repeat (first | exact HB.out | refine below_row ?_ (by omega) _ | refine Below.setCell ?_ (by simp <;> omega) _ | refine Below.alloc ?_ (by simp <;> omega) _ | refine Below.drew ?_)
  ·have hE : recConfirm r = (recDone r, 0) := by unfold recConfirm; rw [if_pos hz, if_pos ht]
   have hk : r.active = 0 ∨ r.active = 1 := by omega
   clear hrg hz
   rcases hk with hk | hk
   ·have HE := Lib.hid (hE.trans (show _ = ((⟨r.gen, 1, false, 0, max r.floor r.b.ver, r.a, r.b⟩ : Rec), (0 : Int)) by unfold recDone Rec.at_; simp [hk]))
    clear hE
    go_wp2_with fail
    go_region
    all_goals go_wp2_with fail
    all_goals (
     refine bodyPost_ret (results_ct rfl rfl (cs := recA ⟨r.gen, 1, false, 0, max r.floor r.b.ver, r.a, r.b⟩) (by go_simp; refine congrArg (fun z => recA ⟨_, _, _, _, z, _, _⟩) ?_; omega) (by go_simp) (by go_simp)) rfl ⟨by rw [HE.out]; rfl, ?_⟩
     repeat (first | exact HB.out | refine below_row ?_ (by omega) _ | refine Below.setCell ?_ (by simp <;> omega) _ | refine Below.alloc ?_ (by simp <;> omega) _ | refine Below.drew ?_))
   ·have HE := Lib.hid (hE.trans (show _ = ((⟨r.gen, 0, false, 0, max r.floor r.a.ver, r.a, r.b⟩ : Rec), (0 : Int)) by unfold recDone Rec.at_; simp [hk]))
    clear hE
    go_wp2_with fail
    go_region
    all_goals go_wp2_with fail
    all_goals (
     refine bodyPost_ret (results_ct rfl rfl (cs := recA ⟨r.gen, 0, false, 0, max r.floor r.a.ver, r.a, r.b⟩) (by go_simp; refine congrArg (fun z => recA ⟨_, _, _, _, z, _, _⟩) ?_; omega) (by go_simp) (by go_simp)) rfl ⟨by rw [HE.out]; rfl, ?_⟩
     repeat (first | exact HB.out | refine below_row ?_ (by omega) _ | refine Below.setCell ?_ (by simp <;> omega) _ | refine Below.alloc ?_ (by simp <;> omega) _ | refine Below.drew ?_))
 ·have hz' : (recCheck r != 0) = true := by simp [hz]
  have hE : recConfirm r = (Rec.zero, recCheck r) := by unfold recConfirm; rw [if_neg hz]
  have HE := Lib.hid hE
  clear hE hz
  go_wp2_with fail
  refine bodyPost_ret (results_ct rfl rfl (cs := recA Rec.zero) (by go_simp) (by go_simp) (by go_simp)) rfl ⟨by rw [HE.out]; rfl, ?_⟩
  repeat (first | exact HB.out | refine below_row ?_ (by omega) _ | refine Below.setCell ?_ (by simp <;> omega) _ | refine Below.alloc ?_ (by simp <;> omega) _ | refine Below.drew ?_)
theorem DevIn.cops {w : World} {d : Dev} {L : DLoc} (h : DevIn w d L) (p q : Cop) : DevIn w { d with c0 := p, c1 := q } L := ⟨h.k0, h.l0, h.b0, h.k1, h.l1, h.b1, h.kg, h.lg, h.got, h.job, h.ir, h.id⟩
theorem devConfirm_bad (d : Dev) (L : DLoc) (w : World) (h : DevIn w d L)  (hne : devReady d ≠ 0) : Calls Try.prog 44 #[.agg (devA d L)] w (DvRet w Dev.zero (devReady d)) := by
 have hba : Below w.heap.size w ((w.alloc (.cells (devA d L) 39)).alloc (.cells (devA Dev.zero DLoc.zero) 39)) := bA (bA (Below.refl _ _) _) _
 have HBA := hD hba
 have HIN := hD h
 have KB := hD (fun w h => ready_bad d L w h hne)
 have q : (devReady d != 0) = true := by simp [hne]
 generalize devReady d = n at *
 clear hne h hba
 go_enter Try.func44, Try.ntmps44
 go_wp2_with fail
 refine (KB.out _ (HIN.out.stays HBA.out)).mono ?_
 rintro e w1 ⟨rfl, hb1⟩
 obtain ⟨a0r, a0f, a0n, a0c, a0z, a0l⟩ := kp (w.heap.size) (devA d L) hb1
 obtain ⟨a1r, a1f, a1n, a1c, a1z, a1l⟩ := kp (w.heap.size + 1) (devA Dev.zero DLoc.zero) hb1
 have HB1 := hD (HBA.out.trans (hb1.mono (by simp <;> omega)))
 clear hb1
 go_wp2_with fail
 refine bodyPost_ret (results_ct rfl rfl (cs := devA Dev.zero DLoc.zero) (by go_simp) (by go_simp) (by go_simp)) rfl ⟨DLoc.zero, rfl, .const fun v => DevIn.zero v, ?_⟩
 have hs := HB1.out.size
 repeat (first | exact HB1.out | refine bR ?_ _ | refine bC ?_ _ | refine bA ?_ _)
theorem devConfirm_ok (d : Dev) (L : DLoc) (w : World) (h : DevIn w d L)  (hz : devReady d = 0) : Calls Try.prog 44 #[.agg (devA d L)] w (DvRet w (devConfirm d).1 (devConfirm d).2) := by
 have hba : Below w.heap.size w ((w.alloc (.cells (devA d L) 39)).alloc (.cells (devA Dev.zero DLoc.zero) 39)) := bA (bA (Below.refl _ _) _) _
 have HBA := hD hba
 have HIN := hD h
 have KR := hD (fun w h => ready_ok d L w h hz)
 have hdef : devConfirm d = if d.running = d.rec_.active then (Dev.zero, 5)
   else if (recConfirm d.rec_).2 ≠ 0 then (Dev.zero, (recConfirm d.rec_).2)
   else if (recWrite d.c0 d.c1 (recConfirm d.rec_).1 false).2 ≠ 0 then (Dev.zero, (recWrite d.c0 d.c1 (recConfirm d.rec_).1 false).2)
   else (d.write (recConfirm d.rec_).1 false, 0) := by unfold devConfirm; rw [if_neg (by omega)]
 have K2 := hD (fun w => confirm_calls d.rec_ w)
 obtain ⟨⟨r2, e2⟩, hq⟩ : ∃ x, recConfirm d.rec_ = x := ⟨_, rfl⟩
 unfold Dev.write at hdef
 rw [hq] at hdef K2
 dsimp only at hdef
 have K3 := hD (fun w => write_calls d.c0 d.c1 r2 false w)
 obtain ⟨⟨⟨p1, p2⟩, e3⟩, hw⟩ : ∃ x, recWrite d.c0 d.c1 r2 false = x := ⟨_, rfl⟩
 rw [hw] at hdef K3
 dsimp only at hdef
 have HD := hD hdef
 generalize devConfirm d = res at *
 clear hz h hba hdef hq hw
 go_enter Try.func44, Try.ntmps44
 go_wp2_with fail
 refine (KR.out _ (HIN.out.stays HBA.out)).mono ?_
 rintro e w1 ⟨L1, rfl, hfr, hb1⟩
 obtain ⟨a0r, a0f, a0n, a0c, a0z, a0l⟩ := kp (w.heap.size) (devA d L) hb1
 obtain ⟨a1r, a1f, a1n, a1c, a1z, a1l⟩ := kp (w.heap.size + 1) (devA Dev.zero DLoc.zero) hb1
 have HFR : Hid (Fresh (w.heap.size + 2) w1 (fun v => DvOwn v (w.heap.size + 2) d L1)) := hD (by simpa [Nat.add_assoc] using hfr)
 have HB1 := hD (HBA.out.trans (hb1.mono (by simp <;> omega)))
 have hsz1 : w.heap.size + 2 ≤ w1.heap.size := by have := hb1.size; simp at this; omega
 have HK1 : Hid (Kp (w.heap.size + 2) w1 w1) := hD (Kp.refl _ _)
 clear hb1 hfr
 by_cases c1 : d.running = d.rec_.active
 ·have hz : res = (Dev.zero, 5) := HD.out.trans (if_pos c1)
  subst hz
  have q : (d.running == d.rec_.active) = true := by simp [c1]
  clear c1
  go_wp2_with fail
  refine bodyPost_ret (results_ct rfl rfl (cs := devA Dev.zero DLoc.zero) (by go_simp) (by go_simp) (by go_simp)) rfl ⟨DLoc.zero, rfl, .const fun v => DevIn.zero v, ?_⟩
  have hs := HB1.out.size
  repeat (first | exact HB1.out | refine bR ?_ _ | refine bC ?_ _ | refine bA ?_ _)
 have q1 : (d.running == d.rec_.active) = false := by simp [c1]
 have HD2 := hD (HD.out.trans (if_neg c1))
 clear c1 HD
 go_wp2_with fail
 refine (K2.out _).mono ?_
 rintro e w2 ⟨rfl, hb⟩
 obtain ⟨a0r, a0f, a0n, a0c, a0z, a0l⟩ := kp (w.heap.size) (devA d L1) hb
 obtain ⟨a1r, a1f, a1n, a1c, a1z, a1l⟩ := kp (w.heap.size + 1) (devA Dev.zero DLoc.zero) hb
 obtain ⟨a2r, a2f, a2n, a2c, a2z, a2l⟩ := kp (w1.heap.size) (recA d.rec_) hb
 have hbs2 := hb.size
 have hsz2 : w1.heap.size ≤ w2.heap.size := by first | omega | (simp at hbs2; omega)
 have HK2 : Hid (Kp (w.heap.size + 2) w1 w2) := hD (by
  refine Kp.below ?_ (by first | omega | (simp <;> omega)) hb
  repeat (first | exact HK1.out | exact Kp.refl _ _ | refine Kp.row ?_ (by omega) _ | refine Kp.cell ?_ (by first | (show _ < _ ∨ _ ≤ _; omega) | (simp <;> omega)) _ | refine Kp.alloc ?_ (by first | omega | (simp <;> omega)) _))
 have HB2 : Hid (Below w.heap.size w w2) := hD (by
  refine Below.trans ?_ (hb.mono (by first | omega | (simp <;> omega)))
  have hs := HB1.out.size
  repeat (first | exact HB1.out | refine bR ?_ _ | refine bC ?_ _ | refine bA ?_ _))
 clear hb hbs2
 by_cases c2 : e2 ≠ 0
 ·have hz : res = (Dev.zero, e2) := HD2.out.trans (if_pos c2)
  subst hz
  have q : (e2 != 0) = true := by simp [c2]
  clear c2
  go_wp2_with fail
  refine bodyPost_ret (results_ct rfl rfl (cs := devA Dev.zero DLoc.zero) (by go_simp) (by go_simp) (by go_simp)) rfl ⟨DLoc.zero, rfl, .const fun v => DevIn.zero v, ?_⟩
  have hs := HB2.out.size
  repeat (first | exact HB2.out | refine bR ?_ _ | refine bC ?_ _ | refine bA ?_ _)
 have c2 := Decidable.not_not.1 c2
 subst c2
 have HD3 := hD (HD2.out.trans (if_neg (by decide)))
 clear HD2
 go_wp2_with fail
 refine (K3.out _).mono ?_
 rintro e w3 ⟨rfl, hb⟩
 obtain ⟨a0r, a0f, a0n, a0c, a0z, a0l⟩ := kp (w.heap.size) (devA d L1) hb
 obtain ⟨a1r, a1f, a1n, a1c, a1z, a1l⟩ := kp (w.heap.size + 1) (devA Dev.zero DLoc.zero) hb
 have hbs3 := hb.size
 have hsz3 : w1.heap.size ≤ w3.heap.size := by first | omega | (simp at hbs3; omega)
 have HK3 : Hid (Kp (w.heap.size + 2) w1 w3) := hD (by
  refine Kp.below ?_ (by first | omega | (simp <;> omega)) hb
  repeat (first | exact HK2.out | exact Kp.refl _ _ | refine Kp.row ?_ (by omega) _ | refine Kp.cell ?_ (by first | (show _ < _ ∨ _ ≤ _; omega) | (simp <;> omega)) _ | refine Kp.alloc ?_ (by first | omega | (simp <;> omega)) _))
 have HB3 : Hid (Below w.heap.size w w3) := hD (by
  refine Below.trans ?_ (hb.mono (by first | omega | (simp <;> omega)))
  have hs := HB2.out.size
  repeat (first | exact HB2.out | refine bR ?_ _ | refine bC ?_ _ | refine bA ?_ _))
 clear hb hbs3
 by_cases c3 : e3 ≠ 0
 ·have hz : res = (Dev.zero, e3) := HD3.out.trans (if_pos c3)
  subst hz
  have q : (e3 != 0) = true := by simp [c3]
  clear c3
  go_wp2_with fail
  refine bodyPost_ret (results_ct rfl rfl (cs := devA Dev.zero DLoc.zero) (by go_simp) (by go_simp) (by go_simp)) rfl ⟨DLoc.zero, rfl, .const fun v => DevIn.zero v, ?_⟩
  have hs := HB3.out.size
  repeat (first | exact HB3.out | refine bR ?_ _ | refine bC ?_ _ | refine bA ?_ _)
 have c3 := Decidable.not_not.1 c3
 subst c3
 have hz : res = ({ d with c0 := p1, c1 := p2 }, 0) := HD3.out.trans (if_neg (by decide))
 subst hz
 go_wp2_with fail
 refine bodyPost_ret (results_ct rfl rfl (cs := devA { d with c0 := p1, c1 := p2 } L1) (by go_simp) (by go_simp) (by go_simp)) rfl ⟨L1, rfl, ?_, ?_⟩
 ·refine Fresh.imp (P := fun v => DvOwn v (w.heap.size + 2) d L1) (Fresh.kp HFR.out ?_ (by omega) (by first | omega | (simp <;> omega))) (fun v hv => hv.devIn.cops p1 p2)
  repeat (first | exact HK3.out | exact Kp.refl _ _ | refine Kp.row ?_ (by omega) _ | refine Kp.cell ?_ (by first | (show _ < _ ∨ _ ≤ _; omega) | (simp <;> omega)) _ | refine Kp.alloc ?_ (by first | omega | (simp <;> omega)) _)
 ·have hs := HB3.out.size
  repeat (first | exact HB3.out | refine bR ?_ _ | refine bC ?_ _ | refine bA ?_ _)
theorem devConfirm_calls (d : Dev) (L : DLoc) (w : World) (h : DevIn w d L) : Calls Try.prog 44 #[.agg (devA d L)] w (DvRet w (devConfirm d).1 (devConfirm d).2) := by
 by_cases hz : devReady d = 0
 ·exact devConfirm_ok d L w h hz
 ·have e : devConfirm d = (Dev.zero, devReady d) := by unfold devConfirm; rw [if_pos hz]
  rw [e]; exact devConfirm_bad d L w h hz
end Go.Proofs.Ytefkfglkpebbmad
