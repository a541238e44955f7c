/- The walk of the law WorldParts. Printed by gen_wparts.py. No conditions. -/
import Derived.Test.YtefkfglkpebbmacPMGoneWalk
import Derived.Test.YtefkfglkpebbmacPMWorArgs
import Derived.Test.YtefkfglkpebbmacPXWorSame
import Derived.Test.YtefkfglkpebbmacPXTailBox
import Derived.Test.YtefkfglkpebbmacPXConcatErrnos
import Derived.Test.YtefkfglkpebbmacPXEqErrs
import Derived.Test.YtefkfglkpebbmacPXAtFn
set_option linter.unusedVariables false
set_option linter.unusedSimpArgs false
set_option maxRecDepth 100000
set_option maxHeartbeats 40000000
namespace Go.Proofs.Ytefkfglkpebbmac
open Go.RowKit
variable {l : List (Int × Int)} {w : World}
theorem run_parts {w : Wor} {y : Wor} {said : List Int} (h : worRun w l = (y, said, 0)) {k : Nat} (hk : k ≤ l.length) :
  ∃ y1 s1 s2, worRun w (l.take k) = (y1, s1, 0) ∧ worRun y1 (l.drop k) = (y, s2, 0) ∧ said = s1 ++ s2 ∧ s1.length = k ∧ s2.length = l.length - k := by
 have hc : worCheck w = 0 := by
  unfold worRun at h
  by_cases e : worCheck w = 0
  ·exact e
  ·rw [if_pos e] at h; exact absurd (congrArg (fun q => q.2.2) h) e
 have hm : ¬ 200 < l.length := fun e => by
  unfold worRun at h
  rw [if_neg (by simpa using hc), if_pos e] at h
  exact absurd (congrArg (fun q => q.2.2) h) (by simp)
 rw [worRun_ok hc hm] at h
 have h1 : worGo l w = y := congrArg (fun q => q.1) h
 have h2 : worSaid l w = said := congrArg (fun q => q.2.1) h
 have hkeep : ∀ (m : List (Int × Int)) (v : Wor), WorOk v → WorOk (worGo m v) := by
  intro m
  induction m with
  | nil => exact fun v hv => hv
  | cons a m ih =>
   intro v hv
   refine ih _ ?_
   unfold worTry
   split
   ·rename_i e; exact (happen_keeps hv e).1
   ·exact hv
 have ha := worGo_append (l.take k) (l.drop k) w
 rw [List.take_append_drop] at ha
 refine ⟨worGo (l.take k) w, worSaid (l.take k) w, worSaid (l.drop k) (worGo (l.take k) w), worRun_ok hc (by rw [List.length_take]; omega), ?_, ?_, ?_, ?_⟩
 ·rw [worRun_ok (worCheck_ok.2 (hkeep _ _ (worCheck_ok.1 hc))) (by rw [List.length_drop]; omega), ← ha.1, h1]
 ·rw [← h2, ha.2]
 ·rw [said_len, List.length_take]; omega
 ·rw [said_len, List.length_drop]
def wpR (y : Wor) (said : List Int) (x : WLoc × Option Addr × Nat) (v : World) : Prop := WorIn v y x.1 ∧ Nts v x.2.1 said ∧ said.length ≤ x.2.2
def wpV (y : Wor) (said : List Int) (x : WLoc × Option Addr × Nat) : Nat → Value
 | 4 => .tuple #[.agg (worA y x.1), .slice x.2.1 said.length x.2.2, iv 0]
 | 5 => .tuple #[.agg (worA y x.1), .slice x.2.1 said.length x.2.2, iv 0]
 | 6 => .agg (worA y x.1)
 | 7 => .slice x.2.1 said.length x.2.2
 | 8 => iv 0
 | 11 => .slice x.2.1 said.length x.2.2
 | 12 => iv 0
 | _ => undef
theorem wr_fresh {w' : World} {y : Wor} {said : List Int} {L : WLoc} {A : Option Addr} {c b : Nat} (ho : Own w' b 24 1 A said.length c (said.map iv)) (hb : w.heap.size ≤ b) (hw : ∀ v : World, (∀ q, b ≤ q → A.map (·.block) ≠ some q → q < w'.heap.size → v.heap[q]? = w'.heap[q]?) → WorIn v y L) :
  Fresh w.heap.size w' (wpR y said (L, A, c)) := fun v hv =>
 ⟨hw v (fun q h1 _ h3 => hv q (by omega) h3), (own_fresh ho (fun q h1 h2 => hv q (by omega) h2)).src.nts, ho.le⟩
theorem hps_take {B : Option Addr} (h : Hps w B l) (k : Nat) : Hps w B (l.take k) := by
 intro i hi
 have h2 : i < l.length := by simp at hi; omega
 obtain ⟨b, o, e, hl, cs, h3, h4, h5⟩ := h i h2
 exact ⟨b, o, e, hl, cs, h3, h4, by simpa using h5⟩
theorem hap_head (B : Option Addr) (n c k : Nat) (hk : k ≤ n) (hc : n ≤ c) (hA : B = none → k = 0) (wq : World) : (Instr.slice 89 (.slice B n c) none (some (.int .i64 (k : Int))) none).run Try.prog wq = .ok (.slice B k c) wq := by
 have k1 : (k : Int) ≤ (c : Int) := by omega
 cases B with
 | none =>
  have k2 : k = 0 := hA rfl
  subst k2
  go_simp
 | some a =>
  by_cases k2 : c = 0
  ·subst k2
   have k3 : k = 0 := by omega
   subst k3
   go_simp
  ·go_simp
theorem hap_tail {B : Option Addr} {c k : Nat} (hk : k ≤ l.length) (hc : l.length ≤ c) (h : Hps w B l) : ∃ B2 c2, l.length - k ≤ c2 ∧ Hps w B2 (l.drop k) ∧ ∀ wq, (Instr.slice 89 (.slice B l.length c) (some (.int .i64 (k : Int))) none none).run Try.prog wq = .ok (.slice B2 (l.length - k) c2) wq := by
 have k1 : (k : Int) ≤ (l.length : Int) := by omega
 have k2 : (l.length : Int) ≤ (c : Int) := by omega
 cases B with
 | none =>
  have hl : l.length = 0 := by
   rcases Nat.eq_zero_or_pos l.length with h0 | h0
   ·exact h0
   ·obtain ⟨b, o, h9, _⟩ := h 0 h0; cases h9
  have k3 : k = 0 := by omega
  subst k3
  rw [hl]
  refine ⟨none, c, by omega, by simpa using h, fun wq => ?_⟩
  go_simp
 | some a =>
  obtain ⟨b, o, e⟩ := a
  by_cases hl : l.length = 0
  ·have k3 : k = 0 := by omega
   subst k3
   rw [hl]
   refine ⟨some ⟨b, o, e⟩, c, by omega, by simpa using h, fun wq => ?_⟩
   go_simp
  ·have he : e = none := by
    obtain ⟨b', o', h9, _⟩ := h 0 (by omega)
    injection h9 with h9; injection h9
   subst he
   by_cases hck : c = k
   ·have k3 : k = l.length := by omega
    subst k3
    refine ⟨some ⟨b, o, none⟩, c - l.length, by omega, by intro i hi; simp at hi, fun wq => ?_⟩
    go_simp
   ·refine ⟨some ⟨b, o + k * 2, none⟩, c - k, by omega, ?_, fun wq => ?_⟩
    ·intro i hi
     have hi2 : k + i < l.length := by simp at hi; omega
     obtain ⟨b', o', h9, hbl, cs, h3, h4, h5⟩ := h (k + i) hi2
     injection h9 with h9; injection h9 with h9 h10 h11
     subst h9 h10
     refine ⟨_, _, rfl, hbl, cs, h3, fun j hj => ?_, by simpa using h5⟩
     rw [show o + k * 2 + i * 2 + j = o + (k + i) * 2 + j by omega]
     exact h4 j hj
    ·go_simp
theorem WorldParts_walk (W : World) (v0 v1 v2 : Value) (x0 : Wor) (l : List (Int × Int)) (kz : Int) (g0 : ArgWor W v0 x0) (g1 : ArgHaps W v1 l) (g2 : v2 = iv kz ∧ I64 kz) : Calls Try.prog 11 #[v0, v1, v2] W (RetB W (.bool true)) := by
 obtain ⟨L, rfl, hin⟩ := g0
 obtain ⟨B, cl, rfl, hcl, hll, hh⟩ := g1
 obtain ⟨rfl, hz1, hz2⟩ := g2
 have KG := hD (fun w => gone_calls w)
 obtain ⟨⟨y, said, e'⟩, hres⟩ : ∃ res, worRun x0 l = res := ⟨_, rfl⟩
 have K1 : Hid (∀ w, WorIn w x0 L → Hps w B l → Calls Try.prog 71 #[.agg (worA x0 L), .slice B l.length cl] w (WrRet w y said e')) := hD (fun w h hh => by
  have := worRun_calls x0 L B cl l w h hll hcl hh
  rwa [hres] at this)
 have HIN := hD hin
 have HH := hD hh
 have HRES := hD hres
 have HBA : Hid (Below W.heap.size W (W.alloc (.cells (worA x0 L) 88))) := hD ((Below.refl _ _).alloc (Nat.le_refl _) _)
 clear hin hres hh
 go_enter Try.func11, Try.ntmps11
 go_wp2_with fail
 refine (K1.out _ (HIN.out.stays HBA.out) (HH.out.stays HBA.out)).mono ?_
 rintro e w1 ⟨L1, A1, c1, b1, rfl, ho1, hbs1, hw1, hb⟩
 obtain ⟨a0r, a0f, a0n, a0c, a0z, a0l⟩ := kp (W.heap.size) (worA x0 L) hb
 have HB1 : Hid (Below W.heap.size W w1) := hD (HBA.out.trans (hb.mono (by simp)))
 have HI1 : Hid (WorIn w1 y L1 ∧ Nts w1 A1 said ∧ said.length ≤ c1) := hD ⟨hw1 w1 (fun _ _ _ _ => rfl), ho1.src.nts, ho1.le⟩
 have hs1 : W.heap.size + 1 ≤ w1.heap.size := by have := hb.size; simpa using this
 clear hb ho1 hbs1 hw1 K1
 go_wp2_with fail
 refine (KG.out _).mono ?_
 rintro e w2 ⟨rfl, hb⟩
 obtain ⟨a0r, a0f, a0n, a0c, a0z, a0l⟩ := kp (W.heap.size) (worA x0 L) hb
 obtain ⟨a1r, a1f, a1n, a1c, a1z, a1l⟩ := kp (w1.heap.size) (worA y L1) hb
 have hbx : Below w1.heap.size w1 w2 := ((Below.refl _ _).alloc (Nat.le_refl _) _).trans (hb.mono (by simp))
 have HB2 : Hid (Below W.heap.size W w2) := hD (HB1.out.trans (hbx.mono (by omega)))
 have HI2 : Hid (WorIn w2 y L1 ∧ Nts w2 A1 said ∧ said.length ≤ c1) := hD ⟨HI1.out.1.stays hbx, HI1.out.2.1.stays hbx, HI1.out.2.2⟩
 have hs2 : w1.heap.size + 1 ≤ w2.heap.size := by have := hb.size; simpa using this
 clear hb hbx HI1
 by_cases he : ¬ e' = 0
 ·have q : (e' != 0) = true := by simp [he]
  clear he HRES
  go_wp2_with fail
  refine (KG.out _).mono ?_
  rintro e w3 ⟨rfl, hb⟩
  have HB3 : Hid (Below W.heap.size W w3) := hD (HB2.out.trans (hb.mono HB2.out.size))
  clear hb
  go_wp2_with fail
  go_ret
  exact ⟨rfl, HB3.out⟩
 have he := Decidable.not_not.1 he
 subst he
 have hl200 : l.length ≤ 200 := by
  by_cases hm : 200 < l.length
  ·have h1 := HRES.out
   unfold worRun at h1
   by_cases hc : worCheck x0 ≠ 0
   ·rw [if_pos hc] at h1; exact absurd (congrArg (fun q => q.2.2) h1) hc
   ·rw [if_neg hc, if_pos hm] at h1; exact absurd (congrArg (fun q => q.2.2) h1) (by simp)
  ·omega
 have hmod1 := Int.emod_nonneg kz (show ((l.length : Int) + 1) ≠ 0 by omega)
 have hmod2 := Int.emod_lt_of_pos kz (show 0 < ((l.length : Int) + 1) by omega)
 obtain ⟨k, hk⟩ : ∃ k : Nat, kz % ((l.length : Int) + 1) = (k : Int) := ⟨(kz % ((l.length : Int) + 1)).toNat, by omega⟩
 have hkl : k ≤ l.length := by omega
 have hwl : IntKind.i64.wrap ((l.length : Int) + 1) = (l.length : Int) + 1 := IntWalk.i64_in _ (by omega)
 have KA := hD (fun w => at2_calls kz ((l.length : Int) + 1) w hz1 hz2 (by omega) (by omega))
 rw [hk] at KA
 obtain ⟨y1, s1, s2, p1, p2, p3, p4, p5⟩ := run_parts HRES.out hkl
 obtain ⟨B2, cl2, hcl2, hhs2, hsl2⟩ := hap_tail hkl hcl HH.out
 have HSL2 := hD hsl2
 have HHT := hD hhs2
 have HSL1 : Hid (∀ wq, (Instr.slice 89 (.slice B l.length cl) none (some (.int .i64 (k : Int))) none).run Try.prog wq = .ok (.slice B k cl) wq) := hD (hap_head B l.length cl k hkl hcl (fun e => by
  rcases Nat.eq_zero_or_pos l.length with h0 | h0
  ·omega
  ·obtain ⟨b, o, h9, _⟩ := HH.out 0 h0; rw [e] at h9; cases h9))
 have HHH : Hid (Hps W B (l.take k)) := hD (hps_take HH.out k)
 have KR1 : Hid (∀ w, WorIn w x0 L → Hps w B (l.take k) → Calls Try.prog 71 #[.agg (worA x0 L), .slice B k cl] w (WrRet w y1 s1 0)) := hD (fun w h hh => by
  have := worRun_calls x0 L B cl (l.take k) w h (by rw [List.length_take]; omega) (by rw [List.length_take]; omega) hh
  rw [p1, List.length_take, Nat.min_eq_left hkl] at this
  exact this)
 have KR2 : Hid (∀ L5 w, WorIn w y1 L5 → Hps w B2 (l.drop k) → Calls Try.prog 71 #[.agg (worA y1 L5), .slice B2 (l.length - k) cl2] w (WrRet w y s2 0)) := hD (fun L5 w h hh => by
  have := worRun_calls y1 L5 B2 cl2 (l.drop k) w h (by rw [List.length_drop]; omega) (by rw [List.length_drop]; exact hcl2) hh
  rw [p2, List.length_drop] at this
  exact this)
 have HSAID := hD p3
 have HLEN : Hid (s1.length = k ∧ s2.length = l.length - k) := hD ⟨p4, p5⟩
 clear p1 p2 p3 p4 p5 hhs2 hsl2 hmod1 hmod2 HRES hk
 go_wp2_with fail
 refine (KA.out _).mono ?_
 rintro e w3 ⟨rfl, rfl⟩
 have HR : Hid (rowOf w2 W.heap.size = worA x0 L ∧ frOf w2 W.heap.size = (0, 0)) := hD ⟨a0r, a0f⟩
 have HRY : Hid (rowOf w2 w1.heap.size = worA y L1 ∧ frOf w2 w1.heap.size = (0, 0)) := hD ⟨a1r, a1f⟩
 have HIN3 : Hid (WorIn w2 x0 L) := hD (HIN.out.stays HB2.out)
 have HH1 : Hid (Hps w2 B (l.take k)) := hD (HHH.out.stays HB2.out)
 have HH2 : Hid (Hps w2 B2 (l.drop k)) := hD (HHT.out.stays HB2.out)
 clear KA HIN HH HHH HHT a0r a0f a0n a0c a0z a0l a1r a1f a1n a1c a1z a1l
 go_wp2_with fail
 refine wp_region_free (by kernel_rfl) (some 35 :: some 36 :: some 37 :: some 38 :: some 39 :: some 34 :: some 40 :: some 41 :: some 42 :: some 10 :: none :: some 11 :: some 9 :: []) (false :: false :: false :: false :: true :: true :: true :: true :: true :: true :: true :: true :: true :: []) (.agg (worA x0 L) :: .slice B l.length cl :: .int .i64 (k : Int) :: .slice B k cl :: undef :: undef :: undef :: undef :: undef :: undef :: undef :: undef :: undef :: []) (tbJ w2 4 9 10 [4, 5, 6, 7, 8, 11, 12] (wpV y1 s1) (fun x => worA y1 x.1) (worA Wor.zero WLoc.zero) (wpR y1 s1)) 71 rfl rfl (by decide +kernel) (by decide +kernel) (by decide +kernel) rfl rfl (tbJ_start (WLoc.zero, none, 0)) ?_ ?_
 ·refine ⟨?_, ?_⟩
  ·intro done cv a wq hn hw hcl h hJ
   have e3 := fO 3 (.pointer (some ⟨W.heap.size, 0, none⟩)) h
   have hp := tbJ_bel hJ
   obtain ⟨b0r, b0f, b0n, b0c, b0z, b0l⟩ := keep1 (g := W.heap.size) (cs := worA x0 L) hp HR.out.1 (by go_simp) HR.out.2
   go_simp
  refine ⟨?_, ?_⟩
  ·intro done cv a wq hn hw hcl h hJ
   have e1 := fO 1 (.slice B l.length cl) h
   exact mx_move (ch_ev e1)
  refine ⟨?_, ?_⟩
  ·intro done cv a wq hn hw hcl h hJ
   have e2 := fO 2 (.int .i64 (k : Int)) h
   exact mx_move (ch_ev e2)
  refine ⟨?_, ?_⟩
  ·intro done cv a wq hn hw hcl h hJ
   have e36 := fN 1 36 h hw; have e37 := fN 2 37 h hw
   have hs_ := HSL1.out
   go_simp
  refine ⟨?_, ?_⟩
  ·intro done cv a wq hn hw hcl h hJ
   have e35 := fN 0 35 h hw; have e38 := fN 3 38 h hw
   have n4 := hn
   have n5 := nW 5 4 hcl n4
   have n6 := nW 6 5 hcl n5
   have n7 := nW 7 5 hcl n5
   have n8 := nW 8 5 hcl n5
   have n10 := nW 10 6 hcl n6
   have n11 := nW 11 7 hcl n7
   have n12 := nW 12 8 hcl n8
   have hp := tbJ_bel hJ
   have hi_ : ∀ j ∈ [4, 5, 6, 7, 8, 11, 12], j ≠ 4 → maskB [false, false, false, false, true, true, true, true, true, true, true, true, true] done j = false := by
    intro j hj hne
    simp only [List.mem_cons, List.not_mem_nil, or_false] at hj
    rcases hj with rfl | rfl | rfl | rfl | rfl | rfl | rfl
    ·exact absurd rfl hne
    ·exact (by simp [maskB, n5])
    ·exact (by simp [maskB, n6])
    ·exact (by simp [maskB, n7])
    ·exact (by simp [maskB, n8])
    ·exact (by simp [maskB, n11])
    ·exact (by simp [maskB, n12])
   refine wp_call (vals := #[.agg (worA x0 L), .slice B k cl]) (by rw [List.map_toArray, List.map_cons, List.map_cons, List.map_nil, ch_ev e35, ch_ev e38]) (enters_of Try.func71 (by kernel_rfl) rfl _ _) (KR1.out _ (HIN3.out.stays hp) (HH1.out.stays hp)) ?_
   rintro e w' ⟨L5, A5, c5, b5, rfl, ho5, hbs5, hw5, hb⟩
   exact ⟨_, rfl, _, rfl, tbJ_c hi_ (by simp [maskB, n10]) (by decide) (by decide) hJ (x := (L5, A5, c5)) rfl (wr_fresh ho5 hbs5 hw5) hb⟩
  refine ⟨?_, ?_⟩
  ·intro done cv a wq hn hw hcl h hJ
   have e39 := fr_cv (i := 4) (t := 39) h (hw 4 (by decide)) rfl rfl
   have m4 := hw 4 (by decide)
   obtain ⟨x, hv, hJ2⟩ := tbJ_k (k := 5) (by simp [maskB, m4]) (by decide) (by decide) (by decide) hJ
   have yv : cv 4 = .tuple #[.agg (worA y1 x.1), .slice x.2.1 (s1).length x.2.2, iv 0] := hv 4 (by simp) (by simp [maskB, m4])
   rw [yv] at e39
   refine wp_val (v := _) (mx_move (ch_ev e39)) ⟨_, rfl, hJ2 _ rfl⟩
  refine ⟨?_, ?_⟩
  ·intro done cv a wq hn hw hcl h hJ
   have e34 := fr_cv (i := 5) (t := 34) h (hw 5 (by decide)) rfl rfl
   have m5 := hw 5 (by decide)
   have m4 := hcl 5 _ rfl m5 4 (by decide)
   obtain ⟨x, hv, hJ2⟩ := tbJ_k (k := 6) (by simp [maskB, m4]) (by decide) (by decide) (by decide) hJ
   have yv : cv 5 = .tuple #[.agg (worA y1 x.1), .slice x.2.1 (s1).length x.2.2, iv 0] := hv 5 (by simp) (by simp [maskB, m5])
   rw [yv] at e34
   refine wp_val (v := .agg (worA y1 x.1)) ?_ ⟨_, rfl, hJ2 _ rfl⟩
   go_simp
  refine ⟨?_, ?_⟩
  ·intro done cv a wq hn hw hcl h hJ
   have e34 := fr_cv (i := 5) (t := 34) h (hw 5 (by decide)) rfl rfl
   have m5 := hw 5 (by decide)
   have m4 := hcl 5 _ rfl m5 4 (by decide)
   obtain ⟨x, hv, hJ2⟩ := tbJ_k (k := 7) (by simp [maskB, m4]) (by decide) (by decide) (by decide) hJ
   have yv : cv 5 = .tuple #[.agg (worA y1 x.1), .slice x.2.1 (s1).length x.2.2, iv 0] := hv 5 (by simp) (by simp [maskB, m5])
   rw [yv] at e34
   refine wp_val (v := .slice x.2.1 (s1).length x.2.2) ?_ ⟨_, rfl, hJ2 _ rfl⟩
   go_simp
  refine ⟨?_, ?_⟩
  ·intro done cv a wq hn hw hcl h hJ
   have e34 := fr_cv (i := 5) (t := 34) h (hw 5 (by decide)) rfl rfl
   have m5 := hw 5 (by decide)
   have m4 := hcl 5 _ rfl m5 4 (by decide)
   obtain ⟨x, hv, hJ2⟩ := tbJ_k (k := 8) (by simp [maskB, m4]) (by decide) (by decide) (by decide) hJ
   have yv : cv 5 = .tuple #[.agg (worA y1 x.1), .slice x.2.1 (s1).length x.2.2, iv 0] := hv 5 (by simp) (by simp [maskB, m5])
   rw [yv] at e34
   refine wp_val (v := iv 0) ?_ ⟨_, rfl, hJ2 _ rfl⟩
   go_simp
  refine ⟨?_, ?_⟩
  ·intro done cv a wq hn hw hcl h hJ
   have n9 := hn
   have n10 := nW 10 9 hcl n9
   refine wp_alloc (zr := worA Wor.zero WLoc.zero) (fun ev => by go_simp) ⟨_, rfl, tbJ_a (by simp [maskB, n9]) (by simp [maskB, n10]) (by simp) (by decide) (by decide) hJ⟩
  refine ⟨?_, ?_⟩
  ·intro done cv a wq hn hw hcl h hJ
   have e10 := fr_cv (i := 9) (t := 10) h (hw 9 (by decide)) rfl rfl; have e40 := fr_cv (i := 6) (t := 40) h (hw 6 (by decide)) rfl rfl
   have n10 := hn
   have m9 := hw 9 (by decide)
   have m6 := hw 6 (by decide)
   have m5 := hcl 6 _ rfl m6 5 (by decide)
   have m4 := hcl 5 _ rfl m5 4 (by decide)
   obtain ⟨x, gb_, yb_, hv, r_, f_, hJ2⟩ := tbJ_s (by go_simp) (by simp [maskB, m4]) (by simp [maskB, n10]) (by simp [maskB, m9]) (by simp) (by decide) (by decide) hJ
   rw [yb_] at e10
   have yv : cv 6 = .agg (worA y1 x.1) := hv 6 (by simp) (by simp [maskB, m6])
   rw [yv] at e40
   refine wp_srow e10 e40 (by go_simp) (by go_simp) r_ (by go_simp) f_ (by go_simp) ⟨undef, rfl, ?_⟩
   rw [splice_all _ _ (by go_simp)]
   exact hJ2 undef
  refine ⟨?_, ?_⟩
  ·intro done cv a wq hn hw hcl h hJ
   have e41 := fr_cv (i := 7) (t := 41) h (hw 7 (by decide)) rfl rfl
   have m7 := hw 7 (by decide)
   have m5 := hcl 7 _ rfl m7 5 (by decide)
   have m4 := hcl 5 _ rfl m5 4 (by decide)
   obtain ⟨x, hv, hJ2⟩ := tbJ_k (k := 11) (by simp [maskB, m4]) (by decide) (by decide) (by decide) hJ
   have yv : cv 7 = .slice x.2.1 (s1).length x.2.2 := hv 7 (by simp) (by simp [maskB, m7])
   rw [yv] at e41
   refine wp_asg (v := _) (ch_ev e41) ⟨_, rfl, hJ2 _ rfl⟩
  refine ⟨?_, ?_⟩
  ·intro done cv a wq hn hw hcl h hJ
   have e42 := fr_cv (i := 8) (t := 42) h (hw 8 (by decide)) rfl rfl
   have m8 := hw 8 (by decide)
   have m5 := hcl 8 _ rfl m8 5 (by decide)
   have m4 := hcl 5 _ rfl m5 4 (by decide)
   obtain ⟨x, hv, hJ2⟩ := tbJ_k (k := 12) (by simp [maskB, m4]) (by decide) (by decide) (by decide) hJ
   have yv : cv 8 = iv 0 := hv 8 (by simp) (by simp [maskB, m8])
   rw [yv] at e42
   refine wp_asg (v := _) (ch_ev e42) ⟨_, rfl, hJ2 _ rfl⟩
  exact trivial
 ·intro dn cv w4 hall hJ
  obtain ⟨x, b_, g5, w2_, hv, v9, hrow, hfr, hg1, hg2, hbel, hbb, hfre, hkp, hsz2, hap⟩ := tbJ_end (hall 4 rfl (by decide)) (hall 9 rfl (by decide)) (hall 10 rfl (by decide)) hJ
  have v11 : cv 11 = .slice x.2.1 (s1).length x.2.2 := hv 11 (by simp) (hall 11 rfl (by decide))
  have v12 : cv 12 = iv 0 := hv 12 (by simp) (hall 12 rfl (by decide))
  have hF := hfre.kp hkp hbb hsz2
  simp only [freeAll, putAll_some, putAll_none, putAll_nil, List.getD_cons_zero, List.getD_cons_succ, Bool.false_eq_true, if_true, if_false, reduceIte, Nat.zero_add, Nat.reduceAdd, List.setIfInBounds_toArray, List.set_cons_zero, List.set_cons_succ]
  rw [v9, v11, v12]
  obtain ⟨L5, A5, c5⟩ := x
  dsimp only at hrow hF ⊢
  clear hJ hv v9 v11 v12 hall hfre hkp hsz2 hap hbb
  generalize cv = cw5 at *
  have e1 := rowOf_heap (hbel.block W.heap.size (by omega))
  have e2 := rowOf_heap (hbel.block w1.heap.size (by omega))
  have HRX : Hid (rowOf w4 W.heap.size = worA x0 L ∧ frOf w4 W.heap.size = (0, 0)) := hD ⟨e1.1.trans HR.out.1, e1.2.trans HR.out.2⟩
  have HRY4 : Hid (rowOf w4 w1.heap.size = worA y L1 ∧ frOf w4 w1.heap.size = (0, 0)) := hD ⟨e2.1.trans HRY.out.1, e2.2.trans HRY.out.2⟩
  have HB4 : Hid (Below W.heap.size W w4) := hD (HB2.out.trans (hbel.mono HB2.out.size))
  have HI4 : Hid (WorIn w4 y L1 ∧ Nts w4 A1 said ∧ said.length ≤ c1) := hD ⟨HI2.out.1.stays hbel, HI2.out.2.1.stays hbel, HI2.out.2.2⟩
  have HIN5 : Hid (WorIn w4 y1 L5) := hD hF.now.1
  have HN5 : Hid (Nts w4 A5 s1 ∧ s1.length ≤ c5) := hD hF.now.2
  have HH24 : Hid (Hps w4 B2 (l.drop k)) := hD (HH2.out.stays hbel)
  have hs4 : w2.heap.size ≤ w4.heap.size := hbel.size
  clear e1 e2 HR HRY HIN3 HH1 HH2 HI2 KR1 hF hbel
  have HH2 := HH24
  have HR : Hid (rowOf w4 g5 = worA y1 L5 ∧ frOf w4 g5 = (0, 0)) := hD ⟨hrow, hfr⟩
  clear HH24 hrow hfr
  go_wp2_with fail
  refine wp_region_free (by kernel_rfl) (some 44 :: some 45 :: some 46 :: some 47 :: some 48 :: some 43 :: some 49 :: some 50 :: some 51 :: some 12 :: none :: some 13 :: some 14 :: []) (false :: false :: false :: false :: true :: true :: true :: true :: true :: true :: true :: true :: true :: []) (.agg (worA y1 L5) :: .slice B l.length cl :: .int .i64 (k : Int) :: .slice B2 (l.length - k) cl2 :: undef :: undef :: undef :: undef :: undef :: undef :: undef :: undef :: undef :: []) (tbJ w4 4 9 10 [4, 5, 6, 7, 8, 11, 12] (wpV y s2) (fun x => worA y x.1) (worA Wor.zero WLoc.zero) (wpR y s2)) 71 rfl rfl (by decide +kernel) (by decide +kernel) (by decide +kernel) rfl rfl (tbJ_start (WLoc.zero, none, 0)) ?_ ?_
  ·refine ⟨?_, ?_⟩
   ·intro done cv a wq hn hw hcl h hJ
    have e10 := fO 10 (.pointer (some ⟨g5, 0, none⟩)) h
    have hp := tbJ_bel hJ
    obtain ⟨b0r, b0f, b0n, b0c, b0z, b0l⟩ := keep1 (g := g5) (cs := worA y1 L5) hp HR.out.1 (by go_simp) HR.out.2
    go_simp
   refine ⟨?_, ?_⟩
   ·intro done cv a wq hn hw hcl h hJ
    have e1 := fO 1 (.slice B l.length cl) h
    exact mx_move (ch_ev e1)
   refine ⟨?_, ?_⟩
   ·intro done cv a wq hn hw hcl h hJ
    have e2 := fO 2 (.int .i64 (k : Int)) h
    exact mx_move (ch_ev e2)
   refine ⟨?_, ?_⟩
   ·intro done cv a wq hn hw hcl h hJ
    have e45 := fN 1 45 h hw; have e46 := fN 2 46 h hw
    have hs_ := HSL2.out
    go_simp
   refine ⟨?_, ?_⟩
   ·intro done cv a wq hn hw hcl h hJ
    have e44 := fN 0 44 h hw; have e47 := fN 3 47 h hw
    have n4 := hn
    have n5 := nW 5 4 hcl n4
    have n6 := nW 6 5 hcl n5
    have n7 := nW 7 5 hcl n5
    have n8 := nW 8 5 hcl n5
    have n10 := nW 10 6 hcl n6
    have n11 := nW 11 7 hcl n7
    have n12 := nW 12 8 hcl n8
    have hp := tbJ_bel hJ
    have hi_ : ∀ j ∈ [4, 5, 6, 7, 8, 11, 12], j ≠ 4 → maskB [false, false, false, false, true, true, true, true, true, true, true, true, true] done j = false := by
     intro j hj hne
     simp only [List.mem_cons, List.not_mem_nil, or_false] at hj
     rcases hj with rfl | rfl | rfl | rfl | rfl | rfl | rfl
     ·exact absurd rfl hne
     ·exact (by simp [maskB, n5])
     ·exact (by simp [maskB, n6])
     ·exact (by simp [maskB, n7])
     ·exact (by simp [maskB, n8])
     ·exact (by simp [maskB, n11])
     ·exact (by simp [maskB, n12])
    refine wp_call (vals := #[.agg (worA y1 L5), .slice B2 (l.length - k) cl2]) (by rw [List.map_toArray, List.map_cons, List.map_cons, List.map_nil, ch_ev e44, ch_ev e47]) (enters_of Try.func71 (by kernel_rfl) rfl _ _) (KR2.out _ _ (HIN5.out.stays hp) (HH2.out.stays hp)) ?_
    rintro e w' ⟨L5, A5, c5, b5, rfl, ho5, hbs5, hw5, hb⟩
    exact ⟨_, rfl, _, rfl, tbJ_c hi_ (by simp [maskB, n10]) (by decide) (by decide) hJ (x := (L5, A5, c5)) rfl (wr_fresh ho5 hbs5 hw5) hb⟩
   refine ⟨?_, ?_⟩
   ·intro done cv a wq hn hw hcl h hJ
    have e48 := fr_cv (i := 4) (t := 48) h (hw 4 (by decide)) rfl rfl
    have m4 := hw 4 (by decide)
    obtain ⟨x, hv, hJ2⟩ := tbJ_k (k := 5) (by simp [maskB, m4]) (by decide) (by decide) (by decide) hJ
    have yv : cv 4 = .tuple #[.agg (worA y x.1), .slice x.2.1 (s2).length x.2.2, iv 0] := hv 4 (by simp) (by simp [maskB, m4])
    rw [yv] at e48
    refine wp_val (v := _) (mx_move (ch_ev e48)) ⟨_, rfl, hJ2 _ rfl⟩
   refine ⟨?_, ?_⟩
   ·intro done cv a wq hn hw hcl h hJ
    have e43 := fr_cv (i := 5) (t := 43) h (hw 5 (by decide)) rfl rfl
    have m5 := hw 5 (by decide)
    have m4 := hcl 5 _ rfl m5 4 (by decide)
    obtain ⟨x, hv, hJ2⟩ := tbJ_k (k := 6) (by simp [maskB, m4]) (by decide) (by decide) (by decide) hJ
    have yv : cv 5 = .tuple #[.agg (worA y x.1), .slice x.2.1 (s2).length x.2.2, iv 0] := hv 5 (by simp) (by simp [maskB, m5])
    rw [yv] at e43
    refine wp_val (v := .agg (worA y x.1)) ?_ ⟨_, rfl, hJ2 _ rfl⟩
    go_simp
   refine ⟨?_, ?_⟩
   ·intro done cv a wq hn hw hcl h hJ
    have e43 := fr_cv (i := 5) (t := 43) h (hw 5 (by decide)) rfl rfl
    have m5 := hw 5 (by decide)
    have m4 := hcl 5 _ rfl m5 4 (by decide)
    obtain ⟨x, hv, hJ2⟩ := tbJ_k (k := 7) (by simp [maskB, m4]) (by decide) (by decide) (by decide) hJ
    have yv : cv 5 = .tuple #[.agg (worA y x.1), .slice x.2.1 (s2).length x.2.2, iv 0] := hv 5 (by simp) (by simp [maskB, m5])
    rw [yv] at e43
    refine wp_val (v := .slice x.2.1 (s2).length x.2.2) ?_ ⟨_, rfl, hJ2 _ rfl⟩
    go_simp
   refine ⟨?_, ?_⟩
   ·intro done cv a wq hn hw hcl h hJ
    have e43 := fr_cv (i := 5) (t := 43) h (hw 5 (by decide)) rfl rfl
    have m5 := hw 5 (by decide)
    have m4 := hcl 5 _ rfl m5 4 (by decide)
    obtain ⟨x, hv, hJ2⟩ := tbJ_k (k := 8) (by simp [maskB, m4]) (by decide) (by decide) (by decide) hJ
    have yv : cv 5 = .tuple #[.agg (worA y x.1), .slice x.2.1 (s2).length x.2.2, iv 0] := hv 5 (by simp) (by simp [maskB, m5])
    rw [yv] at e43
    refine wp_val (v := iv 0) ?_ ⟨_, rfl, hJ2 _ rfl⟩
    go_simp
   refine ⟨?_, ?_⟩
   ·intro done cv a wq hn hw hcl h hJ
    have n9 := hn
    have n10 := nW 10 9 hcl n9
    refine wp_alloc (zr := worA Wor.zero WLoc.zero) (fun ev => by go_simp) ⟨_, rfl, tbJ_a (by simp [maskB, n9]) (by simp [maskB, n10]) (by simp) (by decide) (by decide) hJ⟩
   refine ⟨?_, ?_⟩
   ·intro done cv a wq hn hw hcl h hJ
    have e12 := fr_cv (i := 9) (t := 12) h (hw 9 (by decide)) rfl rfl; have e49 := fr_cv (i := 6) (t := 49) h (hw 6 (by decide)) rfl rfl
    have n10 := hn
    have m9 := hw 9 (by decide)
    have m6 := hw 6 (by decide)
    have m5 := hcl 6 _ rfl m6 5 (by decide)
    have m4 := hcl 5 _ rfl m5 4 (by decide)
    obtain ⟨x, gb_, yb_, hv, r_, f_, hJ2⟩ := tbJ_s (by go_simp) (by simp [maskB, m4]) (by simp [maskB, n10]) (by simp [maskB, m9]) (by simp) (by decide) (by decide) hJ
    rw [yb_] at e12
    have yv : cv 6 = .agg (worA y x.1) := hv 6 (by simp) (by simp [maskB, m6])
    rw [yv] at e49
    refine wp_srow e12 e49 (by go_simp) (by go_simp) r_ (by go_simp) f_ (by go_simp) ⟨undef, rfl, ?_⟩
    rw [splice_all _ _ (by go_simp)]
    exact hJ2 undef
   refine ⟨?_, ?_⟩
   ·intro done cv a wq hn hw hcl h hJ
    have e50 := fr_cv (i := 7) (t := 50) h (hw 7 (by decide)) rfl rfl
    have m7 := hw 7 (by decide)
    have m5 := hcl 7 _ rfl m7 5 (by decide)
    have m4 := hcl 5 _ rfl m5 4 (by decide)
    obtain ⟨x, hv, hJ2⟩ := tbJ_k (k := 11) (by simp [maskB, m4]) (by decide) (by decide) (by decide) hJ
    have yv : cv 7 = .slice x.2.1 (s2).length x.2.2 := hv 7 (by simp) (by simp [maskB, m7])
    rw [yv] at e50
    refine wp_asg (v := _) (ch_ev e50) ⟨_, rfl, hJ2 _ rfl⟩
   refine ⟨?_, ?_⟩
   ·intro done cv a wq hn hw hcl h hJ
    have e51 := fr_cv (i := 8) (t := 51) h (hw 8 (by decide)) rfl rfl
    have m8 := hw 8 (by decide)
    have m5 := hcl 8 _ rfl m8 5 (by decide)
    have m4 := hcl 5 _ rfl m5 4 (by decide)
    obtain ⟨x, hv, hJ2⟩ := tbJ_k (k := 12) (by simp [maskB, m4]) (by decide) (by decide) (by decide) hJ
    have yv : cv 8 = iv 0 := hv 8 (by simp) (by simp [maskB, m8])
    rw [yv] at e51
    refine wp_asg (v := _) (ch_ev e51) ⟨_, rfl, hJ2 _ rfl⟩
   exact trivial
  ·intro dn cv w6 hall hJ
   obtain ⟨x, b_, g6, w2_, hv, v9, hrow, hfr, hg1, hg2, hbel, hbb, hfre, hkp, hsz2, hap⟩ := tbJ_end (hall 4 rfl (by decide)) (hall 9 rfl (by decide)) (hall 10 rfl (by decide)) hJ
   have v11 : cv 11 = .slice x.2.1 (s2).length x.2.2 := hv 11 (by simp) (hall 11 rfl (by decide))
   have v12 : cv 12 = iv 0 := hv 12 (by simp) (hall 12 rfl (by decide))
   have hF := hfre.kp hkp hbb hsz2
   simp only [freeAll, putAll_some, putAll_none, putAll_nil, List.getD_cons_zero, List.getD_cons_succ, Bool.false_eq_true, if_true, if_false, reduceIte, Nat.zero_add, Nat.reduceAdd, List.setIfInBounds_toArray, List.set_cons_zero, List.set_cons_succ]
   rw [v9, v11, v12]
   obtain ⟨L6, A6, c6⟩ := x
   dsimp only at hrow hF ⊢
   clear hJ hv v9 v11 v12 hall hfre hkp hsz2 hap hbb
   generalize cv = cw6 at *
   have e2 := rowOf_heap (hbel.block w1.heap.size (by omega))
   have r2 : rowOf w6 w1.heap.size = worA y L1 := e2.1.trans HRY4.out.1
   have f2 : frOf w6 w1.heap.size = (0, 0) := e2.2.trans HRY4.out.2
   have HB6 : Hid (Below W.heap.size W w6) := hD (HB4.out.trans (hbel.mono HB4.out.size))
   have HI6 : Hid (WorIn w6 y L1 ∧ Nts w6 A1 said ∧ said.length ≤ c1) := hD ⟨HI4.out.1.stays hbel, HI4.out.2.1.stays hbel, HI4.out.2.2⟩
   have HN6 : Hid (Nts w6 A5 s1 ∧ s1.length ≤ c5) := hD ⟨HN5.out.1.stays hbel, HN5.out.2⟩
   have HZ6 : Hid (WorIn w6 y L6 ∧ Nts w6 A6 s2 ∧ s2.length ≤ c6) := hD hF.now
   clear e2 HRY4 HI4 HN5 HIN5 HH2 HR KR2 hF hbel
   obtain ⟨a0r, a0f, a0n, a0c, a0z, a0l⟩ := keep1 (g := w1.heap.size) (cs := worA y L1) (Below.refl w6.heap.size w6) r2 (by go_simp) f2
   obtain ⟨a1r, a1f, a1n, a1c, a1z, a1l⟩ := keep1 (g := g6) (cs := worA y L6) (Below.refl w6.heap.size w6) hrow (by go_simp) hfr
   clear r2 f2 hrow hfr
   go_wp2_with fail
   refine (worSame_self y L1 L6 _ HI6.out.1 HZ6.out.1).mono ?_
   rintro e w7 ⟨rfl, hb⟩
   have HB7 : Hid (Below W.heap.size W w7) := hD (HB6.out.trans (hb.mono HB6.out.size))
   have HI7 : Hid (Nts w7 A1 said ∧ said.length ≤ c1) := hD ⟨HI6.out.2.1.stays hb, HI6.out.2.2⟩
   have HN7 : Hid (Nts w7 A5 s1 ∧ s1.length ≤ c5) := hD ⟨HN6.out.1.stays hb, HN6.out.2⟩
   have HZ7 : Hid (Nts w7 A6 s2 ∧ s2.length ≤ c6) := hD ⟨HZ6.out.2.1.stays hb, HZ6.out.2.2⟩
   clear hb HI6 HN6 HZ6 a0r a0f a0n a0c a0z a0l a1r a1f a1n a1c a1z a1l
   have hl1 := HLEN.out.1
   have hl2 := HLEN.out.2
   have KC : Hid (Calls Try.prog 75 #[.slice (some ⟨w7.heap.size, 0, none⟩) 2 2] (w7.alloc (.cells #[.slice A5 s1.length c5, .slice A6 s2.length c6] 90)) (SlRet (w7.alloc (.cells #[.slice A5 s1.length c5, .slice A6 s2.length c6] 90)) 24 1 (s1.length + s2.length) ((s1 ++ s2).map iv))) := hD (by
    have hb9 : Below w7.heap.size w7 (w7.alloc (.cells #[.slice A5 s1.length c5, .slice A6 s2.length c6] 90)) := (Below.refl _ _).alloc (Nat.le_refl _) _
    have h9 := concatErrnos_calls [⟨A5, s1.length, c5, s1.map iv⟩, ⟨A6, s2.length, c6, s2.map iv⟩] (some ⟨w7.heap.size, 0, none⟩) 2 (w7.alloc (.cells #[.slice A5 s1.length c5, .slice A6 s2.length c6] 90)) (by simp) (by simp [sumN]; omega) (src_blk (blk_top rfl)) (fun s hs => by
     simp at hs
     rcases hs with rfl | rfl
     ·exact ⟨by simp, (HN7.out.1.stays hb9).src, by intro u hu; simp at hu; obtain ⟨a, _, rfl⟩ := hu; rfl⟩
     ·exact ⟨by simp, (HZ7.out.1.stays hb9).src, by intro u hu; simp at hu; obtain ⟨a, _, rfl⟩ := hu; rfl⟩)
    have e9 : sumN [⟨A5, s1.length, c5, s1.map iv⟩, ⟨A6, s2.length, c6, s2.map iv⟩] = s1.length + s2.length := by simp [sumN]
    have e8 : [(⟨A5, s1.length, c5, s1.map iv⟩ : SrcOf), ⟨A6, s2.length, c6, s2.map iv⟩].flatMap SrcOf.cells = (s1 ++ s2).map iv := by simp
    rw [e9, e8] at h9
    exact h9)
   clear hl1 hl2
   go_wp2_with fail
   refine KC.out.mono ?_
   rintro e w8 ⟨A8, c8, rfl, ho8, hb⟩
   have HB8 : Hid (Below W.heap.size W w8) := hD ((HB7.out.alloc HB7.out.size _).trans (hb.mono (by have := HB7.out.size; simp; omega)))
   have hx8 : Below w7.heap.size w7 w8 := ((Below.refl _ _).alloc (Nat.le_refl _) _).trans (hb.mono (by simp))
   have KE : Hid (Calls Try.prog 74 #[.slice A1 said.length c1, .slice A8 (s1.length + s2.length) c8] w8 (RetN w8 (.bool true))) := hD (by
    have h9 := equalErrs_calls A1 A8 c1 c8 said (s1 ++ s2) w8 (by rw [HSAID.out, List.length_append]; have := HLEN.out; omega) (by rw [List.length_append]; have := HLEN.out; omega) (HI7.out.1.stays hx8) (by have := ho8.src; exact this.nts)
    rw [decide_eq_true HSAID.out, List.length_append] at h9
    exact h9)
   clear hb hx8 ho8
   go_wp2_with fail
   refine KE.out.mono ?_
   rintro e w9 ⟨rfl, n9, rfl⟩
   go_wp2_with fail
   go_ret
   exact ⟨rfl, Below.drewN' HB8.out n9⟩
end Go.Proofs.Ytefkfglkpebbmac
