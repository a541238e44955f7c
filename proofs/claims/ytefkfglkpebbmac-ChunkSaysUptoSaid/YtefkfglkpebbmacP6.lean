/- Walks of functions, and plain words. No conditions. -/
import Derived.Test.YtefkfglkpebbmacP5
set_option linter.unusedVariables false
set_option linter.unusedSimpArgs false
set_option maxRecDepth 100000
set_option maxHeartbeats 40000000
namespace Go.Proofs.Ytefkfglkpebbmac
open Go.RowKit
variable {x : Chk} {r : List Chk}
theorem chkJoin_list {l : List Chk} (h : chkList l ≠ 0) : chkJoin l = (Pat.zero, chkList l) := by unfold chkJoin; rw [if_pos h]
theorem chkJoin_nil : chkJoin [] = (Pat.zero, 5) := by unfold chkJoin; rw [if_neg (by simp [chkList, listGo])]
theorem chkJoin_few (h : chkList (x :: r) = 0) (g : ((x :: r).length : Int) < x.of_) : chkJoin (x :: r) = (Pat.zero, 5) := by
 unfold chkJoin
 rw [if_neg (by simpa using h)]
 dsimp only
 rw [if_pos g]
theorem chkJoin_pack (h : chkList (x :: r) = 0) (g : ¬ ((x :: r).length : Int) < x.of_) (u : (unpacked (dataOf (x :: r)) 400).2 ≠ 0) : chkJoin (x :: r) = (Pat.zero, (unpacked (dataOf (x :: r)) 400).2) := by
 unfold chkJoin
 rw [if_neg (by simpa using h)]
 dsimp only
 rw [if_neg g, if_pos u]
theorem chkJoin_read (h : chkList (x :: r) = 0) (g : ¬ ((x :: r).length : Int) < x.of_) (u : (unpacked (dataOf (x :: r)) 400).2 = 0) : chkJoin (x :: r) = joinDone (x :: r) (patRead (unpacked (dataOf (x :: r)) 400).1) x := by
 unfold chkJoin
 rw [if_neg (by simpa using h)]
 dsimp only
 rw [if_neg g, if_neg (by simpa using u)]
theorem dataOf_snoc (l : List Chk) (x : Chk) : dataOf (l ++ [x]) = dataOf l ++ x.data := by simp [dataOf]
theorem dataOf_le : ∀ (l : List Chk), (∀ x ∈ l, x.data.length ≤ 16) → (dataOf l).length ≤ 16 * l.length
 | [], _ => by simp [dataOf]
 | x :: l, h => by
  have ih := dataOf_le l (fun y hy => h y (by simp [hy]))
  have h1 := h x (by simp)
  have e : dataOf (x :: l) = x.data ++ dataOf l := by simp [dataOf]
  rw [e, List.length_append, List.length_cons]; omega
theorem patReadJ_calls (A : Option Addr) (c : Nat) (b : List UInt8) (w : World) (hc : b.length ≤ c) (hB : Bts w A b) :
  Calls Try.prog 98 #[.slice A b.length c] w (PaRet w (patRead b).1 (patRead b).2) := by
 by_cases h : 400 < b.length ∨ b.length < 8
 ·exact patRead_short A c b w h
 ·exact patRead_long A c b w hc (by omega) (by omega) hB
theorem chkJoin_calls (A : Option Addr) (c : Nat) (l : List Chk) (w : World) (hl : l.length ≤ 1048576) (hs : Chs w A l) :
  Calls Try.prog 37 #[.slice A l.length c] w (PaRet w (chkJoin l).1 (chkJoin l).2) := by
 have HS := hD hs
 have K1 := hD (fun w h => chkList_calls A c l w hl h)
 have hba := (Below.refl w.heap.size w).alloc (Nat.le_refl _) (.cells (patA 0 0 0 0 0 none 0 0) 35)
 have HBA := hD hba
 clear hs hba
 obtain ⟨r, hr⟩ : ∃ r, chkJoin l = r := ⟨_, rfl⟩
 rw [hr]
 have HR := hD hr
 clear hr
 by_cases he1 : chkList l ≠ 0
 ·have hz : r = (Pat.zero, chkList l) := by rw [← HR.out, chkJoin_list he1]
  have HZ := hD hz
  have q : (chkList l != 0) = true := by simp [he1]
  generalize chkList l = e1 at *
  clear he1 hz
  go_enter Try.func37, Try.ntmps37
  go_wp2_with fail
  refine (K1.out _ (HS.out.stays HBA.out)).mono ?_
  rintro e w1 ⟨rfl, hb1⟩
  obtain ⟨a0r, a0f, a0n, a0c, a0z, a0l⟩ := kp (w.heap.size) (patA 0 0 0 0 0 none 0 0) hb1
  have HB1 := hD (HBA.out.trans (hb1.mono (by simp)))
  clear hb1
  go_wp2_with fail
  refine bodyPost_ret (results_ct rfl rfl (cs := patA 0 0 0 0 0 none 0 0) (by go_simp) (by go_simp) (by go_simp)) rfl ?_
  rw [HZ.out]
  exact ⟨none, 0, rfl, .const fun v => patIn_zero v, below_row HB1.out (by omega) _⟩
 have he1 := Decidable.not_not.1 he1
 rw [he1] at K1
 have hll := chkList_len he1
 have hdl := dataOf_le l (fun x hx => by
  have := (chkCheck_ok.1 ((chkList_ok.1 he1).1 x hx)).2
  unfold Chk.full at this
  exact this.2.1)
 have HE1 := hD he1
 clear he1
 rcases Nat.eq_zero_or_pos l.length with hl0 | hlp
 ·have hz : r = (Pat.zero, 5) := by rw [← HR.out, List.eq_nil_of_length_eq_zero hl0, chkJoin_nil]
  have HZ := hD hz
  have q : ((l.length : Int) == 0) = true := by simp [hl0]
  clear hz hl0
  go_enter Try.func37, Try.ntmps37
  go_wp2_with fail
  refine (K1.out _ (HS.out.stays HBA.out)).mono ?_
  rintro e w1 ⟨rfl, hb1⟩
  obtain ⟨a0r, a0f, a0n, a0c, a0z, a0l⟩ := kp (w.heap.size) (patA 0 0 0 0 0 none 0 0) hb1
  have HB1 := hD (HBA.out.trans (hb1.mono (by simp)))
  clear hb1
  go_wp2_with fail
  refine bodyPost_ret (results_ct rfl rfl (cs := patA 0 0 0 0 0 none 0 0) (by go_simp) (by go_simp) (by go_simp)) rfl ?_
  rw [HZ.out]
  exact ⟨none, 0, rfl, .const fun v => patIn_zero v, below_row HB1.out (by omega) _⟩
 obtain ⟨g, o, B0, d0, rfl, hgl, hat0, -⟩ := HS.out.chk (i := 0) hlp
 rw [Nat.zero_mul, Nat.add_zero] at hat0
 obtain ⟨x, t, hxt⟩ : ∃ x t, l = x :: t := by
  rcases l with _ | ⟨x, t⟩
  ·simp at hlp
  ·exact ⟨x, t, rfl⟩
 have hx0 : l[0] = x := by subst hxt; rfl
 rw [hx0] at hat0
 have HAT := hD hat0
 have HXT := hD hxt
 have q0 : ((l.length : Int) == 0) = false := beq_eq_false_iff_ne.2 (by omega)
 have nb0 : ¬ l.length = 0 := by omega
 have nb1 : ¬ l = [] := by rw [hxt]; simp
 have nb2 : ¬ (l.length : Int) ≤ 0 := by omega
 clear hat0 hx0 hxt
 by_cases hfew : (l.length : Int) < x.of_
 ·have hz : r = (Pat.zero, 5) := by
   have h1 := HE1.out
   have h2 := HR.out
   rw [HXT.out] at h1 h2
   rw [← h2, chkJoin_few h1 (by rw [← HXT.out]; exact hfew)]
  have HZ := hD hz
  clear hz
  go_enter Try.func37, Try.ntmps37
  go_wp2_with fail
  refine (K1.out _ (HS.out.stays HBA.out)).mono ?_
  rintro e w1 ⟨rfl, hb1⟩
  obtain ⟨a0r, a0f, a0n, a0c, a0z, a0l⟩ := kp (w.heap.size) (patA 0 0 0 0 0 none 0 0) hb1
  have HB1 := hD (HBA.out.trans (hb1.mono (by simp)))
  obtain ⟨c0, c1, c2, c3, c4⟩ := HAT.out.stays hgl HB1.out
  clear hb1
  go_wp2_with fail
  refine bodyPost_ret (results_ct rfl rfl (cs := patA 0 0 0 0 0 none 0 0) (by go_simp) (by go_simp) (by go_simp)) rfl ?_
  rw [HZ.out]
  exact ⟨none, 0, rfl, .const fun v => patIn_zero v, below_row HB1.out (by omega) _⟩
 have hfw : ¬ (l.length : Int) < x.of_ := hfew
 obtain ⟨u, eu, hu⟩ : ∃ u eu, unpacked (dataOf l) 400 = (u, eu) := ⟨_, _, rfl⟩
 have hz : (eu ≠ 0 → r = (Pat.zero, eu)) ∧ (eu = 0 → r = joinDone l (patRead u) x) := by
  have h1 := HE1.out
  have h2 := HR.out
  have h3 : unpacked (dataOf (x :: t)) 400 = (u, eu) := by rw [← HXT.out]; exact hu
  rw [HXT.out] at h1 h2
  have h4 : ¬ ((x :: t).length : Int) < x.of_ := by rw [← HXT.out]; exact hfw
  refine ⟨fun e => ?_, fun e => ?_⟩
  ·rw [← h2, chkJoin_pack h1 h4 (by rw [h3]; exact e), h3]
  ·rw [← h2, chkJoin_read h1 h4 (by rw [h3]; exact e), h3, HXT.out]
 have HZ0 := hD hz
 have HU := hD hu
 clear hz hu hfew
 go_enter Try.func37, Try.ntmps37
 go_wp2_with fail
 refine (K1.out _ (HS.out.stays HBA.out)).mono ?_
 rintro e w1 ⟨rfl, hb1⟩
 obtain ⟨a0r, a0f, a0n, a0c, a0z, a0l⟩ := kp (w.heap.size) (patA 0 0 0 0 0 none 0 0) hb1
 have HB1 := hD (HBA.out.trans (hb1.mono (by simp)))
 have HRF1 := hD (And.intro a0r a0f)
 have hs1 := HB1.out.size
 obtain ⟨c0, c1, c2, c3, c4⟩ := HAT.out.stays hgl HB1.out
 clear hb1
 go_wp2_with fail
 clear c0 c1 c2 c3 c4 a0r a0f a0n a0c a0z
 go_loopw [5, 31] (fun v i wr => ∃ (k : Nat) (C : Option Addr) (cc : Nat) (b : List UInt8), k ≤ l.length ∧ i = .int .i64 k ∧ v = .slice C b.length cc ∧ Hid (b = dataOf (l.take k)) ∧ b.length ≤ 16 * k ∧ Hid (Own wr w1.heap.size 5 1 C b.length cc (b.map bv)) ∧ Hid (Below w1.heap.size w1 wr)) (fun _ i _ => l.length - (intOf i).toNat)
 case atStart => exact ⟨0, none, 0, [], Nat.zero_le _, rfl, rfl, hD (by simp [dataOf]), by simp, hD (Own.nil_ _ _ _ _), hD (Below.refl _ _)⟩
 case round =>
  rename World => wr
  obtain ⟨k, C, cc, b, hk, rfl, rfl, HBK, hbl, HO, HBR⟩ := hrel
  have hsr := HBR.out.size
  have HBW : Hid (Below w.heap.size w wr) := hD (HB1.out.trans (HBR.out.mono hs1))
  by_cases hlt : k < l.length
  ·obtain ⟨g', o', D, d, e, _, hat, hin⟩ := (HS.out.stays HBW.out).chk hlt
   injection e with e
   injection e with e1 e2
   subst e1 e2
   have hsn : dataOf (l.take (k + 1)) = b ++ l[k].data := by rw [List.take_succ_eq_append_getElem hlt, dataOf_snoc, ← HBK.out]
   have hyl : l[k].data.length ≤ 16 := by
    have := (chkCheck_ok.1 ((chkList_ok.1 HE1.out).1 l[k] (List.getElem_mem hlt))).2
    unfold Chk.full at this
    exact this.2.1
   obtain ⟨y, hy⟩ : ∃ y, l[k] = y := ⟨_, rfl⟩
   rw [hy] at hat hin hsn hyl
   have HSN := hD hsn
   obtain ⟨c0, c1, c2, c3, c4⟩ := hat
   have dl : decide ((k : Int) < (l.length : Int)) = true := decide_eq_true (by omega)
   have hwk : IntKind.i64.wrap ((k : Int) + 1) = (k : Int) + 1 := IntWalk.i64_in _ (by omega)
   have hoa := HO.out.alloc (.cells (chkA y.from_ y.to_ y.n y.of_ D y.data.length d) 49)
   have hsd := (hin.data.stays ((Below.refl wr.heap.size wr).alloc (Nat.le_refl _) (.cells (chkA y.from_ y.to_ y.n y.of_ D y.data.length d) 49))).src
   have hob : b.length + y.data.length ≤ 1073741824 := by omega
   have hle : w1.heap.size ≤ (wr.alloc (.cells (chkA y.from_ y.to_ y.n y.of_ D y.data.length d) 49)).heap.size := by simp; omega
   clear hy hin hsn
   go_wp2_with (at_builtin; go_must (refine wpList_app (wr.alloc (.cells (chkA y.from_ y.to_ y.n y.of_ D y.data.length d) 49)) rfl _ _ 22 rfl elBytes w1.heap.size C b.length cc (b.map bv) rfl hoa D y.data.length d (y.data.map bv) rfl hsd (by simp) (bv_one _) hob hle ?_; intro C1 cc1 w3 hown hgr hbel hor))
   have HL : Hid (b.length + y.data.length = (b ++ y.data).length) := hD (by simp)
   have HO3 : Hid (Own w3 w1.heap.size 5 1 C1 (b ++ y.data).length cc1 ((b ++ y.data).map bv)) := hD (by rw [List.map_append, ← HL.out]; exact hown)
   have HB3 : Hid (Below w1.heap.size w1 w3) := hD ((HBR.out.alloc hsr _).trans hbel)
   clear hown hgr hbel hor hoa hsd hob hle
   go_roundw
   case rel => exact ⟨k + 1, C1, cc1, b ++ y.data, by omega, by go_num, by rw [HL.out], hD HSN.out.symm, by simp; omega, HO3, HB3⟩
   case measure => simp [intOf]; omega
  ·obtain rfl : k = l.length := by omega
   have dl : decide ((l.length : Int) < (l.length : Int)) = false := by simp
   have hbd : b = dataOf l := by rw [HBK.out, List.take_length]
   have hbt := HO.out.src.bts
   have hbc := HO.out.le
   obtain ⟨b0r, b0f, b0n, b0c, b0z, b0l⟩ := keep1 (g := w.heap.size) (cs := patA 0 0 0 0 0 none 0 0) HBR.out HRF1.out.1 (by go_simp) HRF1.out.2
   have K2 := hD (unpack_calls C cc b 400 wr hbc (by omega) ⟨by decide, by decide⟩ hbt)
   rw [hbd, HU.out, ← hbd] at K2
   clear hbd hbt
   go_wp2_with fail
   refine K2.out.mono ?_
   rintro e w4 ⟨A4, c4, rfl, ho4, hb4⟩
   obtain ⟨a0r, a0f, a0n, a0c, a0z, a0l'⟩ := keep1 (g := w.heap.size) (cs := patA 0 0 0 0 0 none 0 0) hb4 b0r (by go_simp) b0f
   have HB4 := hD (HBW.out.trans (hb4.mono HBW.out.size))
   have hbt4 := ho4.src.bts
   have hbc4 := ho4.le
   have HT4 := hD hbt4
   have hn4 : w.heap.size < w4.heap.size := a0l'
   clear hb4 ho4 hbt4 b0r b0f b0n b0c b0z b0l
   by_cases heu : eu ≠ 0
   ·have q1 : (eu != 0) = true := by simp [heu]
    have HZ := hD (HZ0.out.1 heu)
    clear heu
    go_wp2_with fail
    refine bodyPost_ret (results_ct rfl rfl (cs := patA 0 0 0 0 0 none 0 0) (by go_simp) (by go_simp) (by go_simp)) rfl ?_
    rw [HZ.out]
    exact ⟨none, 0, rfl, .const fun v => patIn_zero v, below_row HB4.out (by omega) _⟩
   have heu := Decidable.not_not.1 heu
   have hz := HZ0.out.2 heu
   subst heu
   obtain ⟨p, ep, hp⟩ : ∃ p ep, patRead u = (p, ep) := ⟨_, _, rfl⟩
   rw [hp] at hz
   have K3 := hD (patReadJ_calls A4 c4 u w4 hbc4 HT4.out)
   rw [hp] at K3
   dsimp only at K3
   have HZJ := hD hz
   clear hz hp
   go_wp2_with fail
   refine K3.out.mono ?_
   rintro e w5 ⟨A5, c5, rfl, hf5, hb5⟩
   obtain ⟨b0r, b0f, b0n, b0c, b0z, b0l⟩ := keep1 (g := w.heap.size) (cs := patA 0 0 0 0 0 none 0 0) hb5 a0r (by go_simp) a0f
   have HB5 := hD (HB4.out.trans (hb5.mono HB4.out.size))
   have HF5 := hD hf5
   have hs4 := HB4.out.size
   have hs5 := hb5.size
   clear hb5 hf5 a0r a0f a0n a0c a0z a0l'
   have hba6 := (Below.refl w5.heap.size w5).alloc (Nat.le_refl _) (.cells (patA p.from_ p.to_ p.old p.new_ p.size A5 p.ops.length c5) 35)
   have HB6 := hD (HB5.out.trans (hba6.mono HB5.out.size))
   have HF6 := hD (HF5.out.below hba6 (Nat.le_refl _))
   have HG9 : Hid ((w5.alloc (.cells (patA p.from_ p.to_ p.old p.new_ p.size A5 p.ops.length c5) 35)).heap[w5.heap.size]? = some (.cells (patA p.from_ p.to_ p.old p.new_ p.size A5 p.ops.length c5) 35 (0, 0))) := hD (blk_top rfl)
   obtain ⟨a0r, a0f, a0n, a0c, a0z, a0l'⟩ := keep1 (g := w.heap.size) (cs := patA 0 0 0 0 0 none 0 0) hba6 b0r (by go_simp) b0f
   have hs6 := hba6.size
   have hn9 : w.heap.size < w5.heap.size := b0l
   clear hba6 b0r b0f b0n b0c b0z b0l
   by_cases hep : ep ≠ 0
   ·have hz : r = (p, ep) := by rw [HZJ.out]; unfold joinDone; rw [if_neg (fun h => hep h.1)]
    have HZ := hD hz
    have q1 : (ep == 0) = false := by simp [hep]
    clear hep hz
    go_wp2_with fail
    generalize w5.alloc (.cells (patA p.from_ p.to_ p.old p.new_ p.size A5 p.ops.length c5) 35) = w6 at *
    generalize w5.heap.size = g9 at *
    obtain ⟨z1, z2, z3, z4, z5⟩ := blkFacts HG9.out (by simp [patA])
    go_quiet (fail)
    have ng : ¬ g9 = w.heap.size := by omega
    have ng2 : ¬ w.heap.size = g9 := by omega
    go_wp2_with fail
    refine bodyPost_ret (results_ct rfl rfl (cs := patA p.from_ p.to_ p.old p.new_ p.size A5 p.ops.length c5) (by go_simp) (by go_simp) (by go_simp)) rfl ?_
    rw [HZ.out]
    exact ⟨A5, c5, rfl, ((HF6.out.drewN _).row (by omega) _).mono (by omega), below_row (Below.drewN' HB6.out _) (Nat.le_refl _) _⟩
   have hep := Decidable.not_not.1 hep
   subst hep
   obtain ⟨c0, c1, c2, c3, c4'⟩ := HAT.out.stays hgl HB6.out
   by_cases hf : p.from_ = x.from_
   ·have q2 : (p.from_ != x.from_) = false := by simp [hf]
    by_cases ht : p.to_ = x.to_
    ·have hz : r = (p, 0) := by rw [HZJ.out]; unfold joinDone; rw [if_neg (fun h => by rcases h.2 with h | h; exact h hf; exact h ht)]
     have HZ := hD hz
     have q3 : (p.to_ != x.to_) = false := by simp [ht]
     clear hz hf ht
     go_wp2_with fail
     generalize w5.alloc (.cells (patA p.from_ p.to_ p.old p.new_ p.size A5 p.ops.length c5) 35) = w6 at *
     generalize w5.heap.size = g9 at *
     obtain ⟨z1, z2, z3, z4, z5⟩ := blkFacts HG9.out (by simp [patA])
     go_quiet (fail)
     have ng : ¬ g9 = w.heap.size := by omega
     have ng2 : ¬ w.heap.size = g9 := by omega
     go_wp2_with fail
     refine bodyPost_ret (results_ct rfl rfl (cs := patA p.from_ p.to_ p.old p.new_ p.size A5 p.ops.length c5) (by go_simp) (by go_simp) (by go_simp)) rfl ?_
     rw [HZ.out]
     exact ⟨A5, c5, rfl, ((HF6.out.drewN _).row (by omega) _).mono (by omega), below_row (Below.drewN' HB6.out _) (Nat.le_refl _) _⟩
    ·have hz : r = (Pat.zero, 3) := by rw [HZJ.out]; unfold joinDone; rw [if_pos ⟨rfl, .inr ht⟩]
     have HZ := hD hz
     have q3 : (p.to_ != x.to_) = true := by simp [ht]
     clear hz hf ht
     go_wp2_with fail
     generalize w5.alloc (.cells (patA p.from_ p.to_ p.old p.new_ p.size A5 p.ops.length c5) 35) = w6 at *
     generalize w5.heap.size = g9 at *
     obtain ⟨z1, z2, z3, z4, z5⟩ := blkFacts HG9.out (by simp [patA])
     go_quiet (fail)
     go_wp2_with fail
     refine bodyPost_ret (results_ct rfl rfl (cs := patA 0 0 0 0 0 none 0 0) (by go_simp) (by go_simp) (by go_simp)) rfl ?_
     rw [HZ.out]
     exact ⟨none, 0, rfl, .const fun v => patIn_zero v, below_row (Below.drewN' HB6.out _) (by omega) _⟩
   ·have hz : r = (Pat.zero, 3) := by rw [HZJ.out]; unfold joinDone; rw [if_pos ⟨rfl, .inl hf⟩]
    have HZ := hD hz
    have q2 : (p.from_ != x.from_) = true := by simp [hf]
    clear hz hf
    go_wp2_with fail
    generalize w5.alloc (.cells (patA p.from_ p.to_ p.old p.new_ p.size A5 p.ops.length c5) 35) = w6 at *
    generalize w5.heap.size = g9 at *
    obtain ⟨z1, z2, z3, z4, z5⟩ := blkFacts HG9.out (by simp [patA])
    go_quiet (fail)
    go_wp2_with fail
    refine bodyPost_ret (results_ct rfl rfl (cs := patA 0 0 0 0 0 none 0 0) (by go_simp) (by go_simp) (by go_simp)) rfl ?_
    rw [HZ.out]
    exact ⟨none, 0, rfl, .const fun v => patIn_zero v, below_row (Below.drewN' HB6.out _) (by omega) _⟩
def ctC : Chk := ⟨1, 2, 0, 1, packed (patBytes ptP)⟩
def ctD : Chk := ⟨1, 2, 0, 1, [1, 2]⟩
theorem ct_cut : chkCut ptP = ([ctC], 0) := by decide +kernel
theorem ct_len : ctC.data.length = 16 := by decide +kernel
theorem ct_head : ctC.data[0]? = some 15 := by decide +kernel
theorem ct_list : chkList [ctC] = 0 := by decide +kernel
theorem ct_join : chkJoin [ctC] = (ptP, 0) := by decide +kernel
theorem ct_none : chkJoin [] = (Pat.zero, 5) := by decide +kernel
theorem ct_add : chkAdd [] ctD = ([ctD], 0) := by decide +kernel
theorem GRow.chs {w : World} {base : Nat} {l : List Chk} {ds : List (Option Addr × Nat)} {A : Option Addr} {c : Nat} (h : GRow kChk w base l ds A c) (hb : ∀ x ∈ l, ChkB x) : Chs w A l := h.src.chs hb
theorem cut_calls (W : World) (hml : ML W) : Calls Try.prog 34 #[] W (RetB W (.bool true)) := by
 have HML := hD hml
 clear hml
 have K1 : Hid (∀ (g h : Nat) w, ML w → Bts w (some ⟨g, 0, none⟩) ptOld → Bts w (some ⟨h, 0, none⟩) ptNew → Calls Try.prog 26 #[iv 1, iv 2, .slice (some ⟨g, 0, none⟩) 8 8, .slice (some ⟨h, 0, none⟩) 9 9] w (PaRet w ptP 0)) := hD fun g h w hm h1 h2 => by
  have := refMade_calls (some ⟨g, 0, none⟩) (some ⟨h, 0, none⟩) 8 9 1 2 ptOld ptNew w hm (by decide) (by decide) ⟨by decide, by decide⟩ ⟨by decide, by decide⟩ (by decide) (by decide) h1 h2
  rwa [pt_make.1] at this
 have K2 : Hid (∀ B d w, PatIn w ptP B d → Calls Try.prog 33 #[.agg (patA ptP.from_ ptP.to_ ptP.old ptP.new_ ptP.size B ptP.ops.length d)] w (ChkRet2 w [ctC] 0)) := hD fun B d w h => by
  have := chkCut_calls B d ptP w h
  rwa [ct_cut] at this
 have K3 : Hid (∀ A c w, Chs w A [ctC] → Calls Try.prog 37 #[.slice A 1 c] w (PaRet w ptP 0)) := hD fun A c w h => by
  have := chkJoin_calls A c [ctC] w (by decide) h
  rwa [ct_join] at this
 have K4 : Hid (∀ w, Calls Try.prog 37 #[.slice none 0 0] w (PaRet w Pat.zero 5)) := hD fun w => by
  have := chkJoin_calls none 0 [] w (by decide) (Chs.nil _ _)
  rwa [ct_none] at this
 have K5 : Hid (∀ g w, Bts w (some ⟨g, 0, none⟩) [1, 2] → Calls Try.prog 36 #[.slice none 0 0, .agg (chkA 1 2 0 1 (some ⟨g, 0, none⟩) 2 2)] w (ChkRet2 w [ctD] 0)) := hD fun g w h => by
  have := chkAdd_calls none (some ⟨g, 0, none⟩) 0 2 [] ctD w (by decide) (Chs.nil _ _) ⟨by decide, by decide, h, ⟨by decide, by decide⟩, ⟨by decide, by decide⟩, ⟨by decide, by decide⟩, ⟨by decide, by decide⟩⟩
  rwa [ct_add] at this
 have K6 : Hid (∀ A B c d w, PatIn w ptP A c → PatIn w ptP B d → Calls Try.prog 31 #[.agg (patA ptP.from_ ptP.to_ ptP.old ptP.new_ ptP.size A ptP.ops.length c), .agg (patA ptP.from_ ptP.to_ ptP.old ptP.new_ ptP.size B ptP.ops.length d)] w (RetB w (.bool true))) := hD fun A B c d w h1 h2 => by
  have := patSame_calls A B c d ptP ptP w h1 h2
  rwa [show decide (ptP = ptP) = true by simp] at this
 have K7 : Hid (∀ A c w, Chs w A [ctC] → Calls Try.prog 40 #[.slice A 1 c] w (RetB w (iv 0))) := hD fun A c w h => by
  have := chkList_calls A c [ctC] w (by decide) h
  rwa [ct_list] at this
 have HB1' : Hid (∀ x ∈ [ctC], ChkB x) := hD (fun x hx => by
  rw [List.mem_singleton.1 hx]
  exact ⟨by rw [ct_len]; decide, ⟨by decide, by decide⟩, ⟨by decide, by decide⟩, ⟨by decide, by decide⟩, ⟨by decide, by decide⟩⟩)
 have HLN := hD ct_len
 have HHD := hD ct_head
 generalize ctC = ch at *
 generalize ptP = p at *
 have kc := convert_const (P := Try.prog) 22 5 Try.underlying22 Try.underlying5
 go_enter Try.func34, Try.ntmps34
 go_wp2_with fail
 refine (K1.out _ _ _ (HML.out.stays (((Below.refl _ _).alloc (Nat.le_refl _) _).alloc (by simp) _)) ?_ ?_).mono ?_
 ·exact bts_ex ⟨_, _, _, blk_old (blk_top rfl), rfl⟩
 ·exact bts_ex ⟨_, _, _, blk_top (by simp), rfl⟩
 rintro e w1 ⟨A1, c1, rfl, hp1, hb1⟩
 have HP1 := hD hp1.now
 have HB1 : Hid (Below W.heap.size W w1) := hD ((((Below.refl _ _).alloc (Nat.le_refl _) _).alloc (by simp) _).trans (hb1.mono (by simp <;> omega)))
 clear hp1 hb1 kc
 go_wp2_with fail
 refine (K2.out _ _ _ (HP1.out.stays (by repeat (first | exact Below.refl _ _ | refine bA ?_ _)))).mono ?_
 rintro e w2 ⟨A2, c2, ds2, rfl, hg, hn, hb⟩
 obtain ⟨a0r, a0f, a0n, a0c, a0z, a0l⟩ := kp (w1.heap.size) (patA p.from_ p.to_ p.old p.new_ p.size A1 p.ops.length c1) hb
 have hbx : Below w1.heap.size w1 w2 := Below.trans (by repeat (first | exact Below.refl _ _ | refine bA ?_ _)) (hb.mono (by first | omega | (simp <;> omega)))
 have HB2 : Hid (Below W.heap.size W w2) := hD (HB1.out.trans (hbx.mono HB1.out.size))
 have HP2 := hD (HP1.out.stays hbx)
 have HC2 := hD (hg.chs HB1'.out)
 clear hg hn
 clear hb hbx
 go_wp2_with fail
 refine (K3.out _ _ _ (HC2.out.stays (by repeat (first | exact Below.refl _ _ | refine bA ?_ _)))).mono ?_
 rintro e w3 ⟨A3, c3, rfl, hq, hb⟩
 obtain ⟨a0r, a0f, a0n, a0c, a0z, a0l⟩ := kp (w1.heap.size) (patA p.from_ p.to_ p.old p.new_ p.size A1 p.ops.length c1) hb
 have hbx : Below w2.heap.size w2 w3 := Below.trans (by repeat (first | exact Below.refl _ _ | refine bA ?_ _)) (hb.mono (by first | omega | (simp <;> omega)))
 have HB3 : Hid (Below W.heap.size W w3) := hD (HB2.out.trans (hbx.mono HB2.out.size))
 have HP3 := hD (HP2.out.stays hbx)
 have HC3 := hD (HC2.out.stays hbx)
 have HQ3 := hD hq.now
 clear hq
 clear hb hbx
 go_wp2_with fail
 refine (K4.out _).mono ?_
 rintro e w4 ⟨A4, c4, rfl, hq, hb⟩
 obtain ⟨a0r, a0f, a0n, a0c, a0z, a0l⟩ := kp (w1.heap.size) (patA p.from_ p.to_ p.old p.new_ p.size A1 p.ops.length c1) hb
 obtain ⟨a1r, a1f, a1n, a1c, a1z, a1l⟩ := kp (w3.heap.size) (patA p.from_ p.to_ p.old p.new_ p.size A3 p.ops.length c3) hb
 have hbx : Below w3.heap.size w3 w4 := Below.trans (by repeat (first | exact Below.refl _ _ | refine bA ?_ _)) (hb.mono (by first | omega | (simp <;> omega)))
 have HB4 : Hid (Below W.heap.size W w4) := hD (HB3.out.trans (hbx.mono HB3.out.size))
 have HP4 := hD (HP3.out.stays hbx)
 have HC4 := hD (HC3.out.stays hbx)
 have HQ4 := hD (HQ3.out.stays hbx)
 clear hq
 clear hb hbx
 go_wp2_with fail
 refine (K5.out _ _ (bts_ex ⟨_, _, _, blk_top (by simp), rfl⟩)).mono ?_
 rintro e w5 ⟨A5, c5, ds5, rfl, hg, hn, hb⟩
 have nq1 : ¬w1.heap.size = w4.heap.size + 1 := by omega
 have nq3 : ¬w3.heap.size = w4.heap.size + 1 := by omega
 obtain ⟨a0r, a0f, a0n, a0c, a0z, a0l⟩ := kp (w1.heap.size) (patA p.from_ p.to_ p.old p.new_ p.size A1 p.ops.length c1) hb
 obtain ⟨a1r, a1f, a1n, a1c, a1z, a1l⟩ := kp (w3.heap.size) (patA p.from_ p.to_ p.old p.new_ p.size A3 p.ops.length c3) hb
 have hbx : Below w4.heap.size w4 w5 := Below.trans (by repeat (first | exact Below.refl _ _ | refine bA ?_ _)) (hb.mono (by first | omega | (simp <;> omega)))
 have HB5 : Hid (Below W.heap.size W w5) := hD (HB4.out.trans (hbx.mono HB4.out.size))
 have HP5 := hD (HP4.out.stays hbx)
 have HC5 := hD (HC4.out.stays hbx)
 have HQ5 := hD (HQ4.out.stays hbx)
 clear hg hn
 clear hb hbx
 obtain ⟨bb, oo, D, dd, rfl, hbl, ⟨e0, e1, e2, e3, e4⟩, hin⟩ := HC5.out.chk (i := 0) (by simp)
 simp only [List.getElem_cons_zero, Nat.zero_mul, Nat.add_zero] at e0 e1 e2 e3 e4 hin
 rw [HLN.out] at e4
 obtain ⟨b3, o3, rfl, hb3, hc3⟩ := hin.data 0 (by rw [HLN.out]; decide)
 have hx15 : ch.data[0]'(by rw [HLN.out]; decide) = 15 := by
  have := HHD.out
  rw [List.getElem?_eq_getElem (by rw [HLN.out]; decide)] at this
  injection this
 rw [hx15, Nat.add_zero] at hc3
 clear hx15 hin
 clear HHD HLN HB1' K1 K2 K3 K4 K5
 go_wp2_with fail
 refine (K6.out _ _ _ _ _ HP5.out HQ5.out).mono ?_
 rintro e w6 ⟨rfl, hb⟩
 have HB6 : Hid (Below W.heap.size W w6) := hD (HB5.out.trans (hb.mono HB5.out.size))
 have HC6 := hD (HC5.out.stays hb)
 clear hb
 go_wp2_with fail
 refine (K7.out _ _ _ HC6.out).mono ?_
 rintro e w7 ⟨rfl, hb⟩
 have HB7 : Hid (Below W.heap.size W w7) := hD (HB6.out.trans (hb.mono HB6.out.size))
 clear hb
 go_wp2_with fail
 go_ret
 exact ⟨rfl, HB7.out⟩
def idxR (p : Chk → Bool) : List Chk → Nat → Int
 | [], _ => -1
 | x :: r, k => if p x = true then (k : Int) else idxR p r (k + 1)
theorem idxR_f {p : Chk → Bool} {k : Nat} (h : p x = false) : idxR p (x :: r) k = idxR p r (k + 1) := if_neg (by simp [h])
theorem idxR_t {p : Chk → Bool} {k : Nat} (h : p x = true) : idxR p (x :: r) k = (k : Int) := if_pos h
theorem idxR_spec (p : Chk → Bool) : ∀ (l : List Chk) (k : Nat), (l.find? p = none ∧ idxR p l k = -1) ∨ ∃ j x, l[j]? = some x ∧ idxR p l k = ((k + j : Nat) : Int) ∧ l.find? p = some x
 | [], k => .inl ⟨rfl, rfl⟩
 | x :: r, k => by
  by_cases h : p x = true
  ·exact .inr ⟨0, x, rfl, by rw [idxR_t h]; simp, by simp [h]⟩
  ·have h := Bool.eq_false_iff.2 h
   rw [idxR_f h]
   rcases idxR_spec p r (k + 1) with ⟨h1, h2⟩ | ⟨j, y, h1, h2, h3⟩
   ·exact .inl ⟨by simp [h, h1], h2⟩
   ·exact .inr ⟨j + 1, y, by simpa using h1, by rw [h2]; congr 1; omega, by simp [h, h3]⟩
def isN (x : Chk) (n : Int) : Bool := x.n == n
theorem atN_isN (l : List Chk) (n : Int) : atN l n = l.find? (fun x => isN x n) := rfl
theorem raN_go (x : Chk) (n : Int) (B : Option Addr) (k g : Nat) (w : World) (hlt : g < w.heap.size) (hc : w.cell? ⟨g, 0, none⟩ = some (iv n)) (b0 : Bool) (hb0 : (x.n == n) = b0) :
  Calls Try.prog 112 #[.agg (chkA x.from_ x.to_ x.n x.of_ B x.data.length k), .pointer (some ⟨g, 0, none⟩)] w (RetB w (.bool (b0))) := by
 cases b0 <;> (
  go_enter Try.func112, Try.ntmps112
  go_wp2_with fail
  go_ret
  exact ⟨rfl, (Below.refl _ _).alloc (Nat.le_refl _) _⟩)
theorem raN_calls (x : Chk) (n : Int) (B : Option Addr) (k g : Nat) (w : World) (hlt : g < w.heap.size) (hc : w.cell? ⟨g, 0, none⟩ = some (iv n)) :
  Calls Try.prog 112 #[.agg (chkA x.from_ x.to_ x.n x.of_ B x.data.length k), .pointer (some ⟨g, 0, none⟩)] w (RetB w (.bool (isN x n))) := by
 refine (raN_go x n B k g w hlt hc _ rfl).mono fun _ _ h => ?_
 exact h
theorem raN_idx (A : Option Addr) (cc g : Nat) (l : List Chk) (n : Int) (w : World) (hl : l.length ≤ 1048576) (hs : Chs w A l) (hlt : g < w.heap.size) (hc : w.cell? ⟨g, 0, none⟩ = some (iv n)) :
  Calls Try.prog 107 #[.slice A l.length cc, .func (Fn.func 112) #[] #[.pointer (some ⟨g, 0, none⟩)]] w (RetB w (iv (idxR (fun x => isN x n) l 0))) := by
 have HS := Lib.hid hs
 have HCC : Hid (∀ (x : Chk) (B : Option Addr) (k : Nat) w', Below w.heap.size w w' → Calls Try.prog 112 #[.agg (chkA x.from_ x.to_ x.n x.of_ B x.data.length k), .pointer (some ⟨g, 0, none⟩)] w' (RetB w' (.bool ((fun x => isN x n) x)))) := Lib.hid fun x B k w' hb => raN_calls x n B k g w' (by have := hb.size; omega) ((hb.cell (p := ⟨g, 0, none⟩) hlt).trans hc)
 clear hs hc
 generalize (fun x => isN x n) = p at *
 obtain ⟨r, hr⟩ : ∃ r, idxR p l 0 = r := ⟨_, rfl⟩
 rw [hr]
 have HR : Hid (idxR p l 0 = r) := Lib.hid hr
 clear hr
 go_enter Try.func107, Try.ntmps107
 go_wp2_with fail
 go_loopw [8] (fun i wr => ∃ k : Nat, k ≤ l.length ∧ i = .int .i64 k ∧ Hid (idxR p (l.drop k) k = r) ∧ Hid (Below w.heap.size w wr)) (fun i _ => l.length - (intOf i).toNat)
 case atStart => exact ⟨0, Nat.zero_le _, rfl, Lib.hid HR.out, Lib.hid (Below.refl _ _)⟩
 case round =>
  rename World => wr
  obtain ⟨k, hk, rfl, HE, HB⟩ := hrel
  have hsz := HB.out.size
  by_cases hlk : k < l.length
  ·obtain ⟨b, o, B, cx, rfl, hs1, p0, p1, p2, p3, p4, p5⟩ := (HS.out.stays HB.out).at_ hlk
   have hdr : l.drop k = l[k] :: l.drop (k + 1) := List.drop_eq_getElem_cons hlk
   rw [hdr] at HE
   clear p5 hdr
   generalize l[k] = x at *
   obtain ⟨q, hq⟩ : ∃ q, p x = q := ⟨_, rfl⟩
   have HX : Hid (p x = q) := Lib.hid hq
   have HC2 : Hid (∀ w', Below wr.heap.size wr w' → Calls Try.prog 112 #[.agg (chkA x.from_ x.to_ x.n x.of_ B x.data.length cx), .pointer (some ⟨g, 0, none⟩)] w' (RetB w' (.bool q))) := Lib.hid fun w' hb => by
    have := HCC.out x B cx w' (HB.out.trans (hb.mono HB.out.size))
    rwa [hq] at this
   clear hq
   go_wp2_with fail
   refine (HC2.out _ ?_).mono ?_
   ·repeat (first | exact Below.refl _ _ | refine Below.alloc ?_ (by first | omega | (simp <;> omega)) _)
   rintro e w2 ⟨rfl, hb2⟩
   have HB2 : Hid (Below w.heap.size w w2) := by
    refine Lib.hid (HB.out.trans (Below.trans ?_ (hb2.mono (by first | omega | (simp <;> omega)))))
    repeat (first | exact Below.refl _ _ | refine Below.alloc ?_ (by first | omega | (simp <;> omega)) _)
   clear hb2
   cases q
   ·have HE2 : Hid (idxR p (l.drop (k + 1)) (k + 1) = r) := Lib.hid ((idxR_f HX.out).symm.trans HE.out)
    clear HE HX
    go_wp2_with fail
    go_roundw
    case rel => exact ⟨k + 1, by omega, by go_num, HE2, HB2⟩
    case measure => simp [intOf] <;> omega
   ·have HE2 : Hid ((k : Int) = r) := Lib.hid ((idxR_t HX.out).symm.trans HE.out)
    clear HE HX
    go_wp2_with fail
    go_ret
    exact ⟨by rw [← HE2.out]; rfl, HB2.out⟩
  ·have HE2 : Hid ((-1 : Int) = r) := Lib.hid (by
    rw [← HE.out, List.drop_of_length_le (by omega)]; rfl)
   clear HE
   go_wp2_with fail
   go_ret
   exact ⟨by rw [← HE2.out]; rfl, HB.out⟩
theorem refChkCheck_calls (A : Option Addr) (c : Nat) (f t n o : Int) (l : List UInt8) (w : World) (hn : I64 n) (ho : I64 o) :
  Calls Try.prog 48 #[.agg (chkA f t n o A l.length c)] w (RetB w (iv (chkCheck ⟨f, t, n, o, l⟩))) := by
 obtain ⟨hn1, hn2⟩ := hn
 obtain ⟨ho1, ho2⟩ := ho
 have hb : Below w.heap.size w (w.alloc (.cells (chkA f t n o A l.length c) 49)) := (Below.refl _ _).alloc (Nat.le_refl _) _
 have HB := Lib.hid hb
 clear hb
 by_cases h0 : f < (1 : Int) ∨ (30 : Int) < f
 ·have hz := Lib.hid (chkCheck_bad (x := ⟨f, t, n, o, l⟩) (by unfold Chk.range; dsimp only; omega))
  go_enter Try.func48, Try.ntmps48
  go_wp2_with fail
  refine (refIn_f (n := f) (a := 1) (b := 30) (by omega) _).mono ?_
  rintro e u ⟨rfl, rfl⟩
  go_wp2_with fail
  go_ret
  exact ⟨ret_int hz.out.symm, HB.out⟩
 by_cases h1 : t < (1 : Int) ∨ (30 : Int) < t
 ·have hz := Lib.hid (chkCheck_bad (x := ⟨f, t, n, o, l⟩) (by unfold Chk.range; dsimp only; omega))
  go_enter Try.func48, Try.ntmps48
  go_wp2_with fail
  refine (refIn_t (n := f) (a := 1) (b := 30) (by omega) _).mono ?_
  rintro e u ⟨rfl, rfl⟩
  go_wp2_with fail
  refine (refIn_f (n := t) (a := 1) (b := 30) (by omega) _).mono ?_
  rintro e u ⟨rfl, rfl⟩
  go_wp2_with fail
  go_ret
  exact ⟨ret_int hz.out.symm, HB.out⟩
 by_cases h2 : o < (1 : Int) ∨ (52 : Int) < o
 ·have hz := Lib.hid (chkCheck_bad (x := ⟨f, t, n, o, l⟩) (by unfold Chk.range; dsimp only; omega))
  go_enter Try.func48, Try.ntmps48
  go_wp2_with fail
  refine (refIn_t (n := f) (a := 1) (b := 30) (by omega) _).mono ?_
  rintro e u ⟨rfl, rfl⟩
  go_wp2_with fail
  refine (refIn_t (n := t) (a := 1) (b := 30) (by omega) _).mono ?_
  rintro e u ⟨rfl, rfl⟩
  go_wp2_with fail
  refine (refIn_f (n := o) (a := 1) (b := 52) (by omega) _).mono ?_
  rintro e u ⟨rfl, rfl⟩
  go_wp2_with fail
  go_ret
  exact ⟨ret_int hz.out.symm, HB.out⟩
 by_cases h3 : n < (0 : Int)
 ·have hz := Lib.hid (chkCheck_bad (x := ⟨f, t, n, o, l⟩) (by unfold Chk.range; dsimp only; omega))
  go_enter Try.func48, Try.ntmps48
  go_wp2_with fail
  refine (refIn_t (n := f) (a := 1) (b := 30) (by omega) _).mono ?_
  rintro e u ⟨rfl, rfl⟩
  go_wp2_with fail
  refine (refIn_t (n := t) (a := 1) (b := 30) (by omega) _).mono ?_
  rintro e u ⟨rfl, rfl⟩
  go_wp2_with fail
  refine (refIn_t (n := o) (a := 1) (b := 52) (by omega) _).mono ?_
  rintro e u ⟨rfl, rfl⟩
  go_wp2_with fail
  go_ret
  exact ⟨ret_int hz.out.symm, HB.out⟩
 by_cases h4 : o ≤ n
 ·have hz := Lib.hid (chkCheck_bad (x := ⟨f, t, n, o, l⟩) (by unfold Chk.range; dsimp only; omega))
  go_enter Try.func48, Try.ntmps48
  go_wp2_with fail
  refine (refIn_t (n := f) (a := 1) (b := 30) (by omega) _).mono ?_
  rintro e u ⟨rfl, rfl⟩
  go_wp2_with fail
  refine (refIn_t (n := t) (a := 1) (b := 30) (by omega) _).mono ?_
  rintro e u ⟨rfl, rfl⟩
  go_wp2_with fail
  refine (refIn_t (n := o) (a := 1) (b := 52) (by omega) _).mono ?_
  rintro e u ⟨rfl, rfl⟩
  go_wp2_with fail
  go_ret
  exact ⟨ret_int hz.out.symm, HB.out⟩
 have hr : Chk.range ⟨f, t, n, o, l⟩ := by unfold Chk.range; dsimp only; omega
 have HR := Lib.hid hr
 clear hr
 have hw : IntKind.i64.wrap (o - 1) = o - 1 := IntWalk.i64_in _ (by omega)
 by_cases g2 : n = o - 1
 ·have q1 : (n == o - 1) = true := by simp [g2]
  by_cases g0 : l.length = 0 ∨ 16 < l.length
  ·have hz := Lib.hid (chkCheck_form HR.out (fun e => by have := full_len.1 e; omega))
   have I := Lib.hid (fun w => refIn_f (n := (l.length : Int)) (a := 1) (b := 16) (by omega) w)
   clear g2 g0
   go_enter Try.func48, Try.ntmps48
   go_wp2_with fail
   refine (refIn_t (n := f) (a := 1) (b := 30) (by omega) _).mono ?_
   rintro e u ⟨rfl, rfl⟩
   go_wp2_with fail
   refine (refIn_t (n := t) (a := 1) (b := 30) (by omega) _).mono ?_
   rintro e u ⟨rfl, rfl⟩
   go_wp2_with fail
   refine (refIn_t (n := o) (a := 1) (b := 52) (by omega) _).mono ?_
   rintro e u ⟨rfl, rfl⟩
   go_wp2_with fail
   refine (I.out _).mono ?_
   rintro e u ⟨rfl, rfl⟩
   go_wp2_with fail
   go_ret
   exact ⟨ret_int hz.out.symm, HB.out⟩
  ·have hz := Lib.hid (chkCheck_fine HR.out (full_len.2 ⟨by omega, by omega, fun h => by omega⟩))
   have I := Lib.hid (fun w => refIn_t (n := (l.length : Int)) (a := 1) (b := 16) (by omega) w)
   clear g2 g0
   go_enter Try.func48, Try.ntmps48
   go_wp2_with fail
   refine (refIn_t (n := f) (a := 1) (b := 30) (by omega) _).mono ?_
   rintro e u ⟨rfl, rfl⟩
   go_wp2_with fail
   refine (refIn_t (n := t) (a := 1) (b := 30) (by omega) _).mono ?_
   rintro e u ⟨rfl, rfl⟩
   go_wp2_with fail
   refine (refIn_t (n := o) (a := 1) (b := 52) (by omega) _).mono ?_
   rintro e u ⟨rfl, rfl⟩
   go_wp2_with fail
   refine (I.out _).mono ?_
   rintro e u ⟨rfl, rfl⟩
   go_wp2_with fail
   go_ret
   exact ⟨ret_int hz.out.symm, HB.out⟩
 ·have q1 : (n == o - 1) = false := beq_eq_false_iff_ne.2 g2
  by_cases g0 : l.length = 16
  ·have hz := Lib.hid (chkCheck_fine HR.out (full_len.2 ⟨by omega, by omega, fun h => g0⟩))
   have I := Lib.hid (fun w => refIn_t (n := (l.length : Int)) (a := 16) (b := 16) (by omega) w)
   clear g2 g0
   go_enter Try.func48, Try.ntmps48
   go_wp2_with fail
   refine (refIn_t (n := f) (a := 1) (b := 30) (by omega) _).mono ?_
   rintro e u ⟨rfl, rfl⟩
   go_wp2_with fail
   refine (refIn_t (n := t) (a := 1) (b := 30) (by omega) _).mono ?_
   rintro e u ⟨rfl, rfl⟩
   go_wp2_with fail
   refine (refIn_t (n := o) (a := 1) (b := 52) (by omega) _).mono ?_
   rintro e u ⟨rfl, rfl⟩
   go_wp2_with fail
   refine (I.out _).mono ?_
   rintro e u ⟨rfl, rfl⟩
   go_wp2_with fail
   go_ret
   exact ⟨ret_int hz.out.symm, HB.out⟩
  ·have hz := Lib.hid (chkCheck_form HR.out (fun e => by have := (full_len.1 e).2.2 (by omega); omega))
   have I := Lib.hid (fun w => refIn_f (n := (l.length : Int)) (a := 16) (b := 16) (by omega) w)
   clear g2 g0
   go_enter Try.func48, Try.ntmps48
   go_wp2_with fail
   refine (refIn_t (n := f) (a := 1) (b := 30) (by omega) _).mono ?_
   rintro e u ⟨rfl, rfl⟩
   go_wp2_with fail
   refine (refIn_t (n := t) (a := 1) (b := 30) (by omega) _).mono ?_
   rintro e u ⟨rfl, rfl⟩
   go_wp2_with fail
   refine (refIn_t (n := o) (a := 1) (b := 52) (by omega) _).mono ?_
   rintro e u ⟨rfl, rfl⟩
   go_wp2_with fail
   refine (I.out _).mono ?_
   rintro e u ⟨rfl, rfl⟩
   go_wp2_with fail
   go_ret
   exact ⟨ret_int hz.out.symm, HB.out⟩
end Go.Proofs.Ytefkfglkpebbmac
