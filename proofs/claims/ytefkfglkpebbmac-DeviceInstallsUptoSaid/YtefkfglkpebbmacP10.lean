/- Walks of functions, and plain words. No conditions. -/
import Derived.Test.YtefkfglkpebbmacP8
import Derived.Test.YtefkfglkpebbmacP9
set_option linter.unusedVariables false
set_option linter.unusedSimpArgs false
set_option maxRecDepth 100000
set_option maxHeartbeats 40000000
namespace Go.Proofs.Ytefkfglkpebbmac
open Go.RowKit
variable {x : Chk} {r : List Chk} {a : Act} {w : World} {K : Act → World → Prop} {Q : Exit → Act → World → Prop} {t : TypeId} {p : String} {af : Array Edge} {gd : Option (Nat × Bool)} {g j : Nat} {cs : Array Value}
theorem chkJoin_list {l : List Chk} (h : chkList l ≠ 0) : chkJoin l = (Pat.zero, chkList l) := by unfold chkJoin; rw [if_pos h]
theorem chkJoin_nil : chkJoin [] = (Pat.zero, 5) := by unfold chkJoin; rw [if_neg (by simp [chkList, listGo])]
theorem chkJoin_few (h : chkList (x :: r) = 0) (g : ((x :: r).length : Int) < x.of_) : chkJoin (x :: r) = (Pat.zero, 5) := by
 unfold chkJoin
 rw [if_neg (by simpa using h)]
 dsimp only
 rw [if_pos g]
theorem chkJoin_pack (h : chkList (x :: r) = 0) (g : ¬ ((x :: r).length : Int) < x.of_) (u : (unpacked (dataOf (x :: r)) 400).2 ≠ 0) : chkJoin (x :: r) = (Pat.zero, (unpacked (dataOf (x :: r)) 400).2) := by
 unfold chkJoin
 rw [if_neg (by simpa using h)]
 dsimp only
 rw [if_neg g, if_pos u]
theorem chkJoin_read (h : chkList (x :: r) = 0) (g : ¬ ((x :: r).length : Int) < x.of_) (u : (unpacked (dataOf (x :: r)) 400).2 = 0) : chkJoin (x :: r) = joinDone (x :: r) (patRead (unpacked (dataOf (x :: r)) 400).1) x := by
 unfold chkJoin
 rw [if_neg (by simpa using h)]
 dsimp only
 rw [if_neg g, if_neg (by simpa using u)]
theorem dataOf_snoc (l : List Chk) (x : Chk) : dataOf (l ++ [x]) = dataOf l ++ x.data := by simp [dataOf]
theorem dataOf_le : ∀ (l : List Chk), (∀ x ∈ l, x.data.length ≤ 16) → (dataOf l).length ≤ 16 * l.length
 | [], _ => by simp [dataOf]
 | x :: l, h => by
  have ih := dataOf_le l (fun y hy => h y (by simp [hy]))
  have h1 := h x (by simp)
  have e : dataOf (x :: l) = x.data ++ dataOf l := by simp [dataOf]
  rw [e, List.length_append, List.length_cons]; omega
theorem patReadJ_calls (A : Option Addr) (c : Nat) (b : List UInt8) (w : World) (hc : b.length ≤ c) (hB : Bts w A b) :
  Calls Try.prog 98 #[.slice A b.length c] w (PaRet w (patRead b).1 (patRead b).2) := by
 by_cases h : 400 < b.length ∨ b.length < 8
 ·exact patRead_short A c b w h
 ·exact patRead_long A c b w hc (by omega) (by omega) hB
theorem chkJoin_calls (A : Option Addr) (c : Nat) (l : List Chk) (w : World) (hl : l.length ≤ 1048576) (hs : Chs w A l) :
  Calls Try.prog 37 #[.slice A l.length c] w (PaRet w (chkJoin l).1 (chkJoin l).2) := by
 have HS := hD hs
 have K1 := hD (fun w h => chkList_calls A c l w hl h)
 have hba := (Below.refl w.heap.size w).alloc (Nat.le_refl _) (.cells (patA 0 0 0 0 0 none 0 0) 35)
 have HBA := hD hba
 clear hs hba
 obtain ⟨r, hr⟩ : ∃ r, chkJoin l = r := ⟨_, rfl⟩
 rw [hr]
 have HR := hD hr
 clear hr
 by_cases he1 : chkList l ≠ 0
 ·have hz : r = (Pat.zero, chkList l) := by rw [← HR.out, chkJoin_list he1]
  have HZ := hD hz
  have q : (chkList l != 0) = true := by simp [he1]
  generalize chkList l = e1 at *
  clear he1 hz
  go_enter Try.func37, Try.ntmps37
  go_wp2_with fail
  refine (K1.out _ (HS.out.stays HBA.out)).mono ?_
  rintro e w1 ⟨rfl, hb1⟩
  obtain ⟨a0r, a0f, a0n, a0c, a0z, a0l⟩ := kp (w.heap.size) (patA 0 0 0 0 0 none 0 0) hb1
  have HB1 := hD (HBA.out.trans (hb1.mono (by simp)))
  clear hb1
  go_wp2_with fail
  refine bodyPost_ret (results_ct rfl rfl (cs := patA 0 0 0 0 0 none 0 0) (by go_simp) (by go_simp) (by go_simp)) rfl ?_
  rw [HZ.out]
  exact ⟨none, 0, rfl, .const fun v => patIn_zero v, below_row HB1.out (by omega) _⟩
 have he1 := Decidable.not_not.1 he1
 rw [he1] at K1
 have hll := chkList_len he1
 have hdl := dataOf_le l (fun x hx => by
  have := (chkCheck_ok.1 ((chkList_ok.1 he1).1 x hx)).2
  unfold Chk.full at this
  exact this.2.1)
 have HE1 := hD he1
 clear he1
 rcases Nat.eq_zero_or_pos l.length with hl0 | hlp
 ·have hz : r = (Pat.zero, 5) := by rw [← HR.out, List.eq_nil_of_length_eq_zero hl0, chkJoin_nil]
  have HZ := hD hz
  have q : ((l.length : Int) == 0) = true := by simp [hl0]
  clear hz hl0
  go_enter Try.func37, Try.ntmps37
  go_wp2_with fail
  refine (K1.out _ (HS.out.stays HBA.out)).mono ?_
  rintro e w1 ⟨rfl, hb1⟩
  obtain ⟨a0r, a0f, a0n, a0c, a0z, a0l⟩ := kp (w.heap.size) (patA 0 0 0 0 0 none 0 0) hb1
  have HB1 := hD (HBA.out.trans (hb1.mono (by simp)))
  clear hb1
  go_wp2_with fail
  refine bodyPost_ret (results_ct rfl rfl (cs := patA 0 0 0 0 0 none 0 0) (by go_simp) (by go_simp) (by go_simp)) rfl ?_
  rw [HZ.out]
  exact ⟨none, 0, rfl, .const fun v => patIn_zero v, below_row HB1.out (by omega) _⟩
 obtain ⟨g, o, B0, d0, rfl, hgl, hat0, -⟩ := HS.out.chk (i := 0) hlp
 rw [Nat.zero_mul, Nat.add_zero] at hat0
 obtain ⟨x, t, hxt⟩ : ∃ x t, l = x :: t := by
  rcases l with _ | ⟨x, t⟩
  ·simp at hlp
  ·exact ⟨x, t, rfl⟩
 have hx0 : l[0] = x := by subst hxt; rfl
 rw [hx0] at hat0
 have HAT := hD hat0
 have HXT := hD hxt
 have q0 : ((l.length : Int) == 0) = false := beq_eq_false_iff_ne.2 (by omega)
 have nb0 : ¬ l.length = 0 := by omega
 have nb1 : ¬ l = [] := by rw [hxt]; simp
 have nb2 : ¬ (l.length : Int) ≤ 0 := by omega
 clear hat0 hx0 hxt
 by_cases hfew : (l.length : Int) < x.of_
 ·have hz : r = (Pat.zero, 5) := by
   have h1 := HE1.out
   have h2 := HR.out
   rw [HXT.out] at h1 h2
   rw [← h2, chkJoin_few h1 (by rw [← HXT.out]; exact hfew)]
  have HZ := hD hz
  clear hz
  go_enter Try.func37, Try.ntmps37
  go_wp2_with fail
  refine (K1.out _ (HS.out.stays HBA.out)).mono ?_
  rintro e w1 ⟨rfl, hb1⟩
  obtain ⟨a0r, a0f, a0n, a0c, a0z, a0l⟩ := kp (w.heap.size) (patA 0 0 0 0 0 none 0 0) hb1
  have HB1 := hD (HBA.out.trans (hb1.mono (by simp)))
  obtain ⟨c0, c1, c2, c3, c4⟩ := HAT.out.stays hgl HB1.out
  clear hb1
  go_wp2_with fail
  refine bodyPost_ret (results_ct rfl rfl (cs := patA 0 0 0 0 0 none 0 0) (by go_simp) (by go_simp) (by go_simp)) rfl ?_
  rw [HZ.out]
  exact ⟨none, 0, rfl, .const fun v => patIn_zero v, below_row HB1.out (by omega) _⟩
 have hfw : ¬ (l.length : Int) < x.of_ := hfew
 obtain ⟨u, eu, hu⟩ : ∃ u eu, unpacked (dataOf l) 400 = (u, eu) := ⟨_, _, rfl⟩
 have hz : (eu ≠ 0 → r = (Pat.zero, eu)) ∧ (eu = 0 → r = joinDone l (patRead u) x) := by
  have h1 := HE1.out
  have h2 := HR.out
  have h3 : unpacked (dataOf (x :: t)) 400 = (u, eu) := by rw [← HXT.out]; exact hu
  rw [HXT.out] at h1 h2
  have h4 : ¬ ((x :: t).length : Int) < x.of_ := by rw [← HXT.out]; exact hfw
  refine ⟨fun e => ?_, fun e => ?_⟩
  ·rw [← h2, chkJoin_pack h1 h4 (by rw [h3]; exact e), h3]
  ·rw [← h2, chkJoin_read h1 h4 (by rw [h3]; exact e), h3, HXT.out]
 have HZ0 := hD hz
 have HU := hD hu
 clear hz hu hfew
 go_enter Try.func37, Try.ntmps37
 go_wp2_with fail
 refine (K1.out _ (HS.out.stays HBA.out)).mono ?_
 rintro e w1 ⟨rfl, hb1⟩
 obtain ⟨a0r, a0f, a0n, a0c, a0z, a0l⟩ := kp (w.heap.size) (patA 0 0 0 0 0 none 0 0) hb1
 have HB1 := hD (HBA.out.trans (hb1.mono (by simp)))
 have HRF1 := hD (And.intro a0r a0f)
 have hs1 := HB1.out.size
 obtain ⟨c0, c1, c2, c3, c4⟩ := HAT.out.stays hgl HB1.out
 clear hb1
 go_wp2_with fail
 clear c0 c1 c2 c3 c4 a0r a0f a0n a0c a0z
 go_loopw [5, 31] (fun v i wr => ∃ (k : Nat) (C : Option Addr) (cc : Nat) (b : List UInt8), k ≤ l.length ∧ i = .int .i64 k ∧ v = .slice C b.length cc ∧ Hid (b = dataOf (l.take k)) ∧ b.length ≤ 16 * k ∧ Hid (Own wr w1.heap.size 5 1 C b.length cc (b.map bv)) ∧ Hid (Below w1.heap.size w1 wr)) (fun _ i _ => l.length - (intOf i).toNat)
 case atStart => exact ⟨0, none, 0, [], Nat.zero_le _, rfl, rfl, hD (by simp [dataOf]), by simp, hD (Own.nil_ _ _ _ _), hD (Below.refl _ _)⟩
 case round =>
  rename World => wr
  obtain ⟨k, C, cc, b, hk, rfl, rfl, HBK, hbl, HO, HBR⟩ := hrel
  have hsr := HBR.out.size
  have HBW : Hid (Below w.heap.size w wr) := hD (HB1.out.trans (HBR.out.mono hs1))
  by_cases hlt : k < l.length
  ·obtain ⟨g', o', D, d, e, _, hat, hin⟩ := (HS.out.stays HBW.out).chk hlt
   injection e with e
   injection e with e1 e2
   subst e1 e2
   have hsn : dataOf (l.take (k + 1)) = b ++ l[k].data := by rw [List.take_succ_eq_append_getElem hlt, dataOf_snoc, ← HBK.out]
   have hyl : l[k].data.length ≤ 16 := by
    have := (chkCheck_ok.1 ((chkList_ok.1 HE1.out).1 l[k] (List.getElem_mem hlt))).2
    unfold Chk.full at this
    exact this.2.1
   obtain ⟨y, hy⟩ : ∃ y, l[k] = y := ⟨_, rfl⟩
   rw [hy] at hat hin hsn hyl
   have HSN := hD hsn
   obtain ⟨c0, c1, c2, c3, c4⟩ := hat
   have dl : decide ((k : Int) < (l.length : Int)) = true := decide_eq_true (by omega)
   have hwk : IntKind.i64.wrap ((k : Int) + 1) = (k : Int) + 1 := IntWalk.i64_in _ (by omega)
   have hoa := HO.out.alloc (.cells (chkA y.from_ y.to_ y.n y.of_ D y.data.length d) 49)
   have hsd := (hin.data.stays ((Below.refl wr.heap.size wr).alloc (Nat.le_refl _) (.cells (chkA y.from_ y.to_ y.n y.of_ D y.data.length d) 49))).src
   have hob : b.length + y.data.length ≤ 1073741824 := by omega
   have hle : w1.heap.size ≤ (wr.alloc (.cells (chkA y.from_ y.to_ y.n y.of_ D y.data.length d) 49)).heap.size := by simp; omega
   clear hy hin hsn
   go_wp2_with (at_builtin; go_must (refine wpList_app (wr.alloc (.cells (chkA y.from_ y.to_ y.n y.of_ D y.data.length d) 49)) rfl _ _ 22 rfl elBytes w1.heap.size C b.length cc (b.map bv) rfl hoa D y.data.length d (y.data.map bv) rfl hsd (by simp) (bv_one _) hob hle ?_; intro C1 cc1 w3 hown hgr hbel hor))
   have HL : Hid (b.length + y.data.length = (b ++ y.data).length) := hD (by simp)
   have HO3 : Hid (Own w3 w1.heap.size 5 1 C1 (b ++ y.data).length cc1 ((b ++ y.data).map bv)) := hD (by rw [List.map_append, ← HL.out]; exact hown)
   have HB3 : Hid (Below w1.heap.size w1 w3) := hD ((HBR.out.alloc hsr _).trans hbel)
   clear hown hgr hbel hor hoa hsd hob hle
   go_roundw
   case rel => exact ⟨k + 1, C1, cc1, b ++ y.data, by omega, by go_num, by rw [HL.out], hD HSN.out.symm, by simp; omega, HO3, HB3⟩
   case measure => simp [intOf]; omega
  ·obtain rfl : k = l.length := by omega
   have dl : decide ((l.length : Int) < (l.length : Int)) = false := by simp
   have hbd : b = dataOf l := by rw [HBK.out, List.take_length]
   have hbt := HO.out.src.bts
   have hbc := HO.out.le
   obtain ⟨b0r, b0f, b0n, b0c, b0z, b0l⟩ := keep1 (g := w.heap.size) (cs := patA 0 0 0 0 0 none 0 0) HBR.out HRF1.out.1 (by go_simp) HRF1.out.2
   have K2 := hD (unpack_calls C cc b 400 wr hbc (by omega) ⟨by decide, by decide⟩ hbt)
   rw [hbd, HU.out, ← hbd] at K2
   clear hbd hbt
   go_wp2_with fail
   refine K2.out.mono ?_
   rintro e w4 ⟨A4, c4, rfl, ho4, hb4⟩
   obtain ⟨a0r, a0f, a0n, a0c, a0z, a0l'⟩ := keep1 (g := w.heap.size) (cs := patA 0 0 0 0 0 none 0 0) hb4 b0r (by go_simp) b0f
   have HB4 := hD (HBW.out.trans (hb4.mono HBW.out.size))
   have hbt4 := ho4.src.bts
   have hbc4 := ho4.le
   have HT4 := hD hbt4
   have hn4 : w.heap.size < w4.heap.size := a0l'
   clear hb4 ho4 hbt4 b0r b0f b0n b0c b0z b0l
   by_cases heu : eu ≠ 0
   ·have q1 : (eu != 0) = true := by simp [heu]
    have HZ := hD (HZ0.out.1 heu)
    clear heu
    go_wp2_with fail
    refine bodyPost_ret (results_ct rfl rfl (cs := patA 0 0 0 0 0 none 0 0) (by go_simp) (by go_simp) (by go_simp)) rfl ?_
    rw [HZ.out]
    exact ⟨none, 0, rfl, .const fun v => patIn_zero v, below_row HB4.out (by omega) _⟩
   have heu := Decidable.not_not.1 heu
   have hz := HZ0.out.2 heu
   subst heu
   obtain ⟨p, ep, hp⟩ : ∃ p ep, patRead u = (p, ep) := ⟨_, _, rfl⟩
   rw [hp] at hz
   have K3 := hD (patReadJ_calls A4 c4 u w4 hbc4 HT4.out)
   rw [hp] at K3
   dsimp only at K3
   have HZJ := hD hz
   clear hz hp
   go_wp2_with fail
   refine K3.out.mono ?_
   rintro e w5 ⟨A5, c5, rfl, hf5, hb5⟩
   obtain ⟨b0r, b0f, b0n, b0c, b0z, b0l⟩ := keep1 (g := w.heap.size) (cs := patA 0 0 0 0 0 none 0 0) hb5 a0r (by go_simp) a0f
   have HB5 := hD (HB4.out.trans (hb5.mono HB4.out.size))
   have HF5 := hD hf5
   have hs4 := HB4.out.size
   have hs5 := hb5.size
   clear hb5 hf5 a0r a0f a0n a0c a0z a0l'
   have hba6 := (Below.refl w5.heap.size w5).alloc (Nat.le_refl _) (.cells (patA p.from_ p.to_ p.old p.new_ p.size A5 p.ops.length c5) 35)
   have HB6 := hD (HB5.out.trans (hba6.mono HB5.out.size))
   have HF6 := hD (HF5.out.below hba6 (Nat.le_refl _))
   have HG9 : Hid ((w5.alloc (.cells (patA p.from_ p.to_ p.old p.new_ p.size A5 p.ops.length c5) 35)).heap[w5.heap.size]? = some (.cells (patA p.from_ p.to_ p.old p.new_ p.size A5 p.ops.length c5) 35 (0, 0))) := hD (blk_top rfl)
   obtain ⟨a0r, a0f, a0n, a0c, a0z, a0l'⟩ := keep1 (g := w.heap.size) (cs := patA 0 0 0 0 0 none 0 0) hba6 b0r (by go_simp) b0f
   have hs6 := hba6.size
   have hn9 : w.heap.size < w5.heap.size := b0l
   clear hba6 b0r b0f b0n b0c b0z b0l
   by_cases hep : ep ≠ 0
   ·have hz : r = (p, ep) := by rw [HZJ.out]; unfold joinDone; rw [if_neg (fun h => hep h.1)]
    have HZ := hD hz
    have q1 : (ep == 0) = false := by simp [hep]
    clear hep hz
    go_wp2_with fail
    generalize w5.alloc (.cells (patA p.from_ p.to_ p.old p.new_ p.size A5 p.ops.length c5) 35) = w6 at *
    generalize w5.heap.size = g9 at *
    obtain ⟨z1, z2, z3, z4, z5⟩ := blkFacts HG9.out (by simp [patA])
    go_quiet (fail)
    have ng : ¬ g9 = w.heap.size := by omega
    have ng2 : ¬ w.heap.size = g9 := by omega
    go_wp2_with fail
    refine bodyPost_ret (results_ct rfl rfl (cs := patA p.from_ p.to_ p.old p.new_ p.size A5 p.ops.length c5) (by go_simp) (by go_simp) (by go_simp)) rfl ?_
    rw [HZ.out]
    exact ⟨A5, c5, rfl, ((HF6.out.drewN _).row (by omega) _).mono (by omega), below_row (Below.drewN' HB6.out _) (Nat.le_refl _) _⟩
   have hep := Decidable.not_not.1 hep
   subst hep
   obtain ⟨c0, c1, c2, c3, c4'⟩ := HAT.out.stays hgl HB6.out
   by_cases hf : p.from_ = x.from_
   ·have q2 : (p.from_ != x.from_) = false := by simp [hf]
    by_cases ht : p.to_ = x.to_
    ·have hz : r = (p, 0) := by rw [HZJ.out]; unfold joinDone; rw [if_neg (fun h => by rcases h.2 with h | h; exact h hf; exact h ht)]
     have HZ := hD hz
     have q3 : (p.to_ != x.to_) = false := by simp [ht]
     clear hz hf ht
     go_wp2_with fail
     generalize w5.alloc (.cells (patA p.from_ p.to_ p.old p.new_ p.size A5 p.ops.length c5) 35) = w6 at *
     generalize w5.heap.size = g9 at *
     obtain ⟨z1, z2, z3, z4, z5⟩ := blkFacts HG9.out (by simp [patA])
     go_quiet (fail)
     have ng : ¬ g9 = w.heap.size := by omega
     have ng2 : ¬ w.heap.size = g9 := by omega
     go_wp2_with fail
     refine bodyPost_ret (results_ct rfl rfl (cs := patA p.from_ p.to_ p.old p.new_ p.size A5 p.ops.length c5) (by go_simp) (by go_simp) (by go_simp)) rfl ?_
     rw [HZ.out]
     exact ⟨A5, c5, rfl, ((HF6.out.drewN _).row (by omega) _).mono (by omega), below_row (Below.drewN' HB6.out _) (Nat.le_refl _) _⟩
    ·have hz : r = (Pat.zero, 3) := by rw [HZJ.out]; unfold joinDone; rw [if_pos ⟨rfl, .inr ht⟩]
     have HZ := hD hz
     have q3 : (p.to_ != x.to_) = true := by simp [ht]
     clear hz hf ht
     go_wp2_with fail
     generalize w5.alloc (.cells (patA p.from_ p.to_ p.old p.new_ p.size A5 p.ops.length c5) 35) = w6 at *
     generalize w5.heap.size = g9 at *
     obtain ⟨z1, z2, z3, z4, z5⟩ := blkFacts HG9.out (by simp [patA])
     go_quiet (fail)
     go_wp2_with fail
     refine bodyPost_ret (results_ct rfl rfl (cs := patA 0 0 0 0 0 none 0 0) (by go_simp) (by go_simp) (by go_simp)) rfl ?_
     rw [HZ.out]
     exact ⟨none, 0, rfl, .const fun v => patIn_zero v, below_row (Below.drewN' HB6.out _) (by omega) _⟩
   ·have hz : r = (Pat.zero, 3) := by rw [HZJ.out]; unfold joinDone; rw [if_pos ⟨rfl, .inl hf⟩]
    have HZ := hD hz
    have q2 : (p.from_ != x.from_) = true := by simp [hf]
    clear hz hf
    go_wp2_with fail
    generalize w5.alloc (.cells (patA p.from_ p.to_ p.old p.new_ p.size A5 p.ops.length c5) 35) = w6 at *
    generalize w5.heap.size = g9 at *
    obtain ⟨z1, z2, z3, z4, z5⟩ := blkFacts HG9.out (by simp [patA])
    go_quiet (fail)
    go_wp2_with fail
    refine bodyPost_ret (results_ct rfl rfl (cs := patA 0 0 0 0 0 none 0 0) (by go_simp) (by go_simp) (by go_simp)) rfl ?_
    rw [HZ.out]
    exact ⟨none, 0, rfl, .const fun v => patIn_zero v, below_row (Below.drewN' HB6.out _) (by omega) _⟩
theorem wp_sb1c {x : Tmp} {b : Bool} (hx : a.tmps[x]? = some (.pointer (some ⟨g, j, none⟩)))
  (hr : rowOf w g = cs) (hj : j < cs.size) (hf : frOf w g = (0, 0)) (h : K a (w.setRow g (cs.setIfInBounds j (.bool b)))) :
  Oper.wp Try.prog ⟨none, .store 4 (.tmp x) (.const (.bool b)), t, p, af, gd⟩ a w K Q := by
 have e1 : a.eval (.tmp x) = .pointer (some ⟨g, j, none⟩) := by simp [Act.eval, hx]
 obtain ⟨t0, hb⟩ := row_blk (w := w) (g := g) (by rw [hr]; omega)
 rw [hr, hf] at hb
 have hc : w.cell? ⟨g, j, none⟩ = some cs[j] := by rw [cell_of_row _ _ _ _ _ _ hb]; simp [hj]
 have hz : w.frozen? ⟨g, j, none⟩ = false := frozen_of_row _ _ _ _ _ hb
 have hs := setCell_eq_setRow w g j cs t0 (0, 0) (.bool b) hb
 unfold Oper.wp execOp
 simp only [e1]
 go_simp
 first | exact h | (rw [hs]; exact h)
theorem wp_si1c {x : Tmp} (hx : a.tmps[x]? = some (.pointer (some ⟨g, j, none⟩)))
  (hr : rowOf w g = cs) (hj : j < cs.size) (hf : frOf w g = (0, 0)) (h : K a (w.setRow g (cs.setIfInBounds j (.int .i64 0)))) :
  Oper.wp Try.prog ⟨none, .store 3 (.tmp x) (.const (.int .i64 0)), t, p, af, gd⟩ a w K Q := by
 have e1 : a.eval (.tmp x) = .pointer (some ⟨g, j, none⟩) := by simp [Act.eval, hx]
 obtain ⟨t0, hb⟩ := row_blk (w := w) (g := g) (by rw [hr]; omega)
 rw [hr, hf] at hb
 have hc : w.cell? ⟨g, j, none⟩ = some cs[j] := by rw [cell_of_row _ _ _ _ _ _ hb]; simp [hj]
 have hz : w.frozen? ⟨g, j, none⟩ = false := frozen_of_row _ _ _ _ _ hb
 have hs := setCell_eq_setRow w g j cs t0 (0, 0) (.int .i64 0) hb
 unfold Oper.wp execOp
 simp only [e1]
 go_simp
 first | exact h | (rw [hs]; exact h)
theorem wp_sn1c {x : Tmp} (hx : a.tmps[x]? = some (.pointer (some ⟨g, j, none⟩)))
  (hr : rowOf w g = cs) (hj : j < cs.size) (hf : frOf w g = (0, 0)) (h : K a (w.setRow g (cs.setIfInBounds j (.slice none 0 0)))) :
  Oper.wp Try.prog ⟨none, .store 43 (.tmp x) (.const (.slice none 0 0)), t, p, af, gd⟩ a w K Q := by
 have e1 : a.eval (.tmp x) = .pointer (some ⟨g, j, none⟩) := by simp [Act.eval, hx]
 obtain ⟨t0, hb⟩ := row_blk (w := w) (g := g) (by rw [hr]; omega)
 rw [hr, hf] at hb
 have hc : w.cell? ⟨g, j, none⟩ = some cs[j] := by rw [cell_of_row _ _ _ _ _ _ hb]; simp [hj]
 have hz : w.frozen? ⟨g, j, none⟩ = false := frozen_of_row _ _ _ _ _ hb
 have hs := setCell_eq_setRow w g j cs t0 (0, 0) (.slice none 0 0) hb
 unfold Oper.wp execOp
 simp only [e1]
 go_simp
 first | exact h | (rw [hs]; exact h)
theorem DevIn.opened {d : Dev} {L : DLoc} (h : DevIn w d L) (p q : Cop) {j : Pat} {A : Option Addr} {c : Nat} (hj : PatIn w j A c) : DevIn w { d with c0 := p, c1 := q, busy := true, job := j, done := 0, got := [] } { L with aj := A, cj := c, ag := none, cg := 0 } :=
 ⟨h.k0, h.l0, h.b0, h.k1, h.l1, h.b1, Nat.le_refl _, Nat.zero_le _, Chs.nil _ _, hj, h.ir, ⟨by show -9223372036854775808 ≤ (0:Int); omega, by show (0:Int) ≤ 9223372036854775807; omega⟩⟩
theorem Fresh.and' {base : Nat} {P Q : World → Prop} (h : Fresh base w P) (g : Fresh base w Q) : Fresh base w (fun v => P v ∧ Q v) := fun v hv => ⟨h v hv, g v hv⟩
theorem setOther0 {r : Rec} (h : r.active = 0) : r.setOther Inf.zero = ⟨r.gen, 0, r.trying, r.tries, r.floor, r.a, Inf.zero⟩ := by
 unfold Rec.setOther
 rw [if_pos h, Rec.mk.injEq]; exact ⟨rfl, h, rfl, rfl, rfl, rfl, rfl⟩
theorem setOther1 {r : Rec} (h : r.active = 1) : r.setOther Inf.zero = ⟨r.gen, 1, r.trying, r.tries, r.floor, Inf.zero, r.b⟩ := by
 unfold Rec.setOther
 rw [if_neg (by omega), Rec.mk.injEq]; exact ⟨rfl, h, rfl, rfl, rfl, rfl, rfl⟩
def opJ (w0 : World) (g : Nat) (d : Dev) (L : DLoc) (p : Pat) (A : Option Addr) (c : Nat) : Nat → (Nat → Value) → World → Prop
 | 0, _, w => w = w0.drew
 | 1, _, w => w = w0.drew.setRow g (devA { d with busy := true } L)
 | 2, _, w => w = w0.drew.setRow g (devA { d with busy := true, job := p } { L with aj := A, cj := c })
 | 3, _, w => w = w0.drew.setRow g (devA { d with busy := true, job := p, done := 0 } { L with aj := A, cj := c })
 | _, _, w => w = w0.drew.setRow g (devA { d with busy := true, job := p, done := 0, got := [] } { L with aj := A, cj := c, ag := none, cg := 0 })
theorem opJ_row {w0 : World} {q k : Nat} {d : Dev} {L : DLoc} {p : Pat} {A : Option Addr} {c : Nat} {cv : Nat → Value} (hJ : opJ w0 g d L p A c k cv w) (hq : q ≠ g) (hr : rowOf w0 q = cs) (hf : frOf w0 q = (0, 0)) (hg : 0 < (rowOf w0 g).size) : rowOf w q = cs ∧ frOf w q = (0, 0) := by
 have key : ∀ new, w = w0.drew.setRow g new → rowOf w q = cs ∧ frOf w q = (0, 0) := fun new e => by
  subst e
  rw [rowOf_setRow _ _ _ _ (by rw [rowOf_drew]; exact hg), if_neg hq, frOf_setRow, rowOf_drew, frOf_drew]
  exact ⟨hr, hf⟩
 match k, hJ with
 | 0, hJ => obtain rfl : w = w0.drew := hJ; rw [rowOf_drew, frOf_drew]; exact ⟨hr, hf⟩
 | 1, hJ => exact key _ hJ
 | 2, hJ => exact key _ hJ
 | 3, hJ => exact key _ hJ
 | n + 4, hJ => exact key _ hJ
theorem devOpen_bad (d : Dev) (L : DLoc) (w : World) (h : DevIn w d L)  (hne : devReady d ≠ 0) : Calls Try.prog 57 #[.agg (devA d L)] w (DvRet w Dev.zero (devReady d)) := by
 have hba : Below w.heap.size w ((w.alloc (.cells (devA d L) 71)).alloc (.cells (devA Dev.zero DLoc.zero) 71)) := bA (bA (Below.refl _ _) _) _
 have HBA := hD hba
 have HIN := hD h
 have KB := hD (fun w h => ready_bad d L w h hne)
 have q : (devReady d != 0) = true := by simp [hne]
 generalize devReady d = n at *
 clear hne h hba
 go_enter Try.func57, Try.ntmps57
 go_wp2_with fail
 refine (KB.out _ (HIN.out.stays HBA.out)).mono ?_
 rintro e w1 ⟨rfl, hb1⟩
 obtain ⟨a0r, a0f, a0n, a0c, a0z, a0l⟩ := kp (w.heap.size) (devA d L) hb1
 obtain ⟨a1r, a1f, a1n, a1c, a1z, a1l⟩ := kp (w.heap.size + 1) (devA Dev.zero DLoc.zero) hb1
 have HB1 := hD (HBA.out.trans (hb1.mono (by simp <;> omega)))
 clear hb1
 go_wp2_with fail
 refine bodyPost_ret (results_ct rfl rfl (cs := devA Dev.zero DLoc.zero) (by go_simp) (by go_simp) (by go_simp)) rfl ⟨DLoc.zero, rfl, .const fun v => DevIn.zero v, ?_⟩
 have hs := HB1.out.size
 repeat (first | exact HB1.out | refine bR ?_ _ | refine bC ?_ _ | refine bA ?_ _)
theorem devOpen_ok (d : Dev) (L : DLoc) (w : World) (h : DevIn w d L)  (hz : devReady d = 0) : Calls Try.prog 57 #[.agg (devA d L)] w (DvRet w (devOpen d).1 (devOpen d).2) := by
 have hba : Below w.heap.size w ((w.alloc (.cells (devA d L) 71)).alloc (.cells (devA Dev.zero DLoc.zero) 71)) := bA (bA (Below.refl _ _) _) _
 have HBA := hD hba
 have HIN := hD h
 have KR := hD (fun w h => ready_ok d L w h hz)
 have hdef : devOpen d = if d.busy = true ∨ d.rec_.trying = true then (Dev.zero, 5)
   else if (chkJoin d.got).2 ≠ 0 then (Dev.zero, (chkJoin d.got).2)
   else if (chkJoin d.got).1.from_ ≠ (d.rec_.at_ d.rec_.active).ver ∨ (chkJoin d.got).1.to_ < d.rec_.floor then (Dev.zero, 4)
   else if (patDo (sumOn 1) (chkJoin d.got).1 (d.image d.rec_.active d.rec_)).2 ≠ 0 then (Dev.zero, (patDo (sumOn 1) (chkJoin d.got).1 (d.image d.rec_.active d.rec_)).2)
   else if (recWrite d.c0 d.c1 (d.rec_.setOther Inf.zero) false).2 ≠ 0 then (Dev.zero, (recWrite d.c0 d.c1 (d.rec_.setOther Inf.zero) false).2)
   else ({ d with c0 := (recWrite d.c0 d.c1 (d.rec_.setOther Inf.zero) false).1.1, c1 := (recWrite d.c0 d.c1 (d.rec_.setOther Inf.zero) false).1.2, busy := true, job := (chkJoin d.got).1, done := 0, got := [] }, 0) := by unfold devOpen; rw [if_neg (by omega)]; rfl
 obtain ⟨hok, hup⟩ := devReady_ok.1 hz
 have hrec := rec_ok hok
 have hact := rec_active hrec
 have HOK := hD hok
 have HREC := hD hrec
 have HLG := hD h.lg
 have KJ := hD (fun A c w hs => chkJoin_calls A c d.got w HLG.out hs)
 obtain ⟨⟨p, e2⟩, hq⟩ : ∃ y, chkJoin d.got = y := ⟨_, rfl⟩
 rw [hq] at hdef KJ
 dsimp only at hdef KJ
 obtain ⟨⟨⟨p1, p2⟩, e5⟩, hw⟩ : ∃ y, recWrite d.c0 d.c1 (d.rec_.setOther Inf.zero) false = y := ⟨_, rfl⟩
 have KW := hD (fun w => write_calls d.c0 d.c1 (d.rec_.setOther Inf.zero) false w)
 rw [hw] at hdef KW
 dsimp only at hdef KW
 have HD := hD hdef
 generalize devOpen d = res at *
 clear hz h hba hdef hok hrec hup hq hw
 go_enter Try.func57, Try.ntmps57
 go_wp2_with fail
 refine (KR.out _ (HIN.out.stays HBA.out)).mono ?_
 rintro e w1 ⟨L1, rfl, hfr, hb1⟩
 obtain ⟨a0r, a0f, a0n, a0c, a0z, a0l⟩ := kp (w.heap.size) (devA d L) hb1
 obtain ⟨a1r, a1f, a1n, a1c, a1z, a1l⟩ := kp (w.heap.size + 1) (devA Dev.zero DLoc.zero) hb1
 have HFR : Hid (Fresh (w.heap.size + 2) w1 (fun v => DvOwn v (w.heap.size + 2) d L1)) := hD (by simpa [Nat.add_assoc] using hfr)
 have HB1 := hD (HBA.out.trans (hb1.mono (by simp <;> omega)))
 have hsz1 : w.heap.size + 2 ≤ w1.heap.size := by have := hb1.size; simp at this; omega
 have HK1 : Hid (Kp (w.heap.size + 2) w1 w1) := hD (Kp.refl _ _)
 clear hb1 hfr
 cases hbz : d.busy
 case true =>
  have hz : res = (Dev.zero, 5) := HD.out.trans (if_pos (.inl hbz))
  subst hz
  go_wp2_with fail
  refine bodyPost_ret (results_ct rfl rfl (cs := devA Dev.zero DLoc.zero) (by go_simp) (by go_simp) (by go_simp)) rfl ⟨DLoc.zero, rfl, .const fun v => DevIn.zero v, ?_⟩
  have hs := HB1.out.size
  repeat (first | exact HB1.out | refine bR ?_ _ | refine bC ?_ _ | refine bA ?_ _)
 cases ht : d.rec_.trying
 case true =>
  have hz : res = (Dev.zero, 5) := HD.out.trans (if_pos (.inr ht))
  subst hz
  go_wp2_with fail
  refine bodyPost_ret (results_ct rfl rfl (cs := devA Dev.zero DLoc.zero) (by go_simp) (by go_simp) (by go_simp)) rfl ⟨DLoc.zero, rfl, .const fun v => DevIn.zero v, ?_⟩
  have hs := HB1.out.size
  repeat (first | exact HB1.out | refine bR ?_ _ | refine bC ?_ _ | refine bA ?_ _)
 have HD2 := hD (HD.out.trans (if_neg (by rw [hbz, ht]; decide)))
 clear HD
 go_wp2_with fail
 refine (KJ.out L1.ag L1.cg _ ?_).mono ?_
 ·refine (Fresh.kp (B := w.heap.size + 2) HFR.out ?_ (Nat.le_refl _) (by first | omega | (simp <;> omega))).now.devIn.got
  repeat (first | exact HK1.out | exact Kp.refl _ _ | refine Kp.row ?_ (by omega) _ | refine Kp.cell ?_ (by first | (show _ < _ ∨ _ ≤ _; omega) | (simp <;> omega)) _ | refine Kp.alloc ?_ (by first | omega | (simp <;> omega)) _)
 rintro en w2 ⟨A2, c2, rfl, hfr2, hb⟩
 have HS2 : Hid (w1.heap.size + 1 ≤ w2.heap.size) := hD (by have := hb.size; simpa using this)
 obtain ⟨a0r, a0f, a0n, a0c, a0z, a0l⟩ := kp (w.heap.size) (devA d L1) hb
 obtain ⟨a1r, a1f, a1n, a1c, a1z, a1l⟩ := kp (w.heap.size + 1) (devA Dev.zero DLoc.zero) hb
 obtain ⟨a2r, a2f, a2n, a2c, a2z, a2l⟩ := kp (w1.heap.size) (recA d.rec_) hb
 have hbs2 := hb.size
 have hsz2 : w1.heap.size ≤ w2.heap.size := by first | omega | (simp at hbs2; omega)
 have HK2 : Hid (Kp (w.heap.size + 2) w1 w2) := hD (by
  refine Kp.below ?_ (by first | omega | (simp <;> omega)) hb
  repeat (first | exact HK1.out | exact Kp.refl _ _ | refine Kp.row ?_ (by omega) _ | refine Kp.cell ?_ (by first | (show _ < _ ∨ _ ≤ _; omega) | (simp <;> omega)) _ | refine Kp.alloc ?_ (by first | omega | (simp <;> omega)) _))
 have HB2 : Hid (Below w.heap.size w w2) := hD (by
  refine Below.trans ?_ (hb.mono (by first | omega | (simp <;> omega)))
  have hs := HB1.out.size
  repeat (first | exact HB1.out | refine bR ?_ _ | refine bC ?_ _ | refine bA ?_ _))
 clear hb hbs2
 have HGP : Hid (Fresh (w1.heap.size + 1) w2 (fun v => PatIn v p A2 c2)) := hD (by simpa using hfr2)
 have hsz2b := HS2.out
 clear hfr2 hbz ht
 by_cases c2' : e2 ≠ 0
 ·have hz : res = (Dev.zero, e2) := HD2.out.trans (if_pos c2')
  subst hz
  have q : (e2 != 0) = true := by simp [c2']
  clear c2'
  go_wp2_with fail
  refine bodyPost_ret (results_ct rfl rfl (cs := devA Dev.zero DLoc.zero) (by go_simp) (by go_simp) (by go_simp)) rfl ⟨DLoc.zero, rfl, .const fun v => DevIn.zero v, ?_⟩
  have hs := HB2.out.size
  repeat (first | exact HB2.out | refine bR ?_ _ | refine bC ?_ _ | refine bA ?_ _)
 have c2' := Decidable.not_not.1 c2'
 subst c2'
 have HD3 := hD (HD2.out.trans (if_neg (by decide)))
 clear HD2
 have q0 : ((0 : Int) != 0) = false := rfl
 rcases hact with hk | hk
 first | case' inl => have T2 : Hid True := hD trivial | case' pos => have T2 : Hid True := hD trivial | case' refine_1 => have T2 : Hid True := hD trivial
 iterate 2
  ·have HKK := hD hk
   first
    |
     revert T2; intro T2
     have hver : (d.rec_.at_ d.rec_.active).ver = d.rec_.a.ver := by rw [hk, at_0]
    | have hver : (d.rec_.at_ d.rec_.active).ver = d.rec_.b.ver := by rw [hk, at_1]
   rw [hver] at HD3
   first
    |
     revert T2; intro T2
     obtain ⟨img, himg⟩ : ∃ img, d.image 0 d.rec_ = img := ⟨_, rfl⟩
    | obtain ⟨img, himg⟩ : ∃ img, d.image 1 d.rec_ = img := ⟨_, rfl⟩
   have himg2 : d.image d.rec_.active d.rec_ = img := by rw [hk]; exact himg
   rw [himg2] at HD3
   obtain ⟨⟨b, en⟩, hpd⟩ : ∃ y, patDo (sumOn 1) p img = y := ⟨_, rfl⟩
   rw [hpd] at HD3
   first
    |
     revert T2; intro T2
     have hsz := (recCheck_parts HREC.out).2.1
    | have hsz := (recCheck_parts HREC.out).2.2.1
   first
    |
     revert T2; intro T2
     have HSZ : Hid (0 ≤ d.rec_.a.size ∧ d.rec_.a.size ≤ 64) := hD (by
      unfold infCheck at hsz
      by_cases hh : InfRange d.rec_.a
      ·unfold InfRange at hh; omega
      ·rw [if_neg hh] at hsz; exact absurd hsz (by decide))
    |
     have HSZ : Hid (0 ≤ d.rec_.b.size ∧ d.rec_.b.size ≤ 64) := hD (by
      unfold infCheck at hsz
      by_cases hh : InfRange d.rec_.b
      ·unfold InfRange at hh; omega
      ·rw [if_neg hh] at hsz; exact absurd hsz (by decide))
   first
    |
     revert T2; intro T2
     have KI0 : Hid (∀ wq, DevIn wq d L1 → Calls Try.prog 118 #[.agg (devA d L1), iv 0, .agg (recA d.rec_)] wq (ImRet wq img)) := hD (fun wq h => by
      rw [← himg]
      exact image_calls0 d L1 d.rec_ wq h HOK.out.l0 HSZ.out.1 HSZ.out.2)
    |
     have KI0 : Hid (∀ wq, DevIn wq d L1 → Calls Try.prog 118 #[.agg (devA d L1), iv 1, .agg (recA d.rec_)] wq (ImRet wq img)) := hD (fun wq h => by
      rw [← himg]
      exact image_calls1 d L1 d.rec_ wq h HOK.out.l1 HSZ.out.1 HSZ.out.2)
   have HPD := hD hpd
   first
    |
     revert T2; intro T2
     have HIL : Hid (img.length ≤ 64) := hD (by
      rw [← himg]; unfold Dev.image; rw [List.length_take]
      have h9 : (d.rec_.at_ 0).size.toNat ≤ 64 := by rw [at_0]; have := HSZ.out; omega
      omega)
    |
     have HIL : Hid (img.length ≤ 64) := hD (by
      rw [← himg]; unfold Dev.image; rw [List.length_take]
      have h9 : (d.rec_.at_ 1).size.toNat ≤ 64 := by rw [at_1]; have := HSZ.out; omega
      omega)
   first
    |
     revert T2; intro T2
     have hso := setOther0 hk
    | have hso := setOther1 hk
   rw [hso] at KW
   have hk' := hk
   clear himg himg2 hpd hsz hver hso hk'
   clear hk
   go_wp2_with fail
   obtain ⟨w2p, hw2p⟩ : ∃ w2p, w2.alloc (.cells (patA p.from_ p.to_ p.old p.new_ p.size A2 p.ops.length c2) 35) = w2p := ⟨_, rfl⟩
   have r0 : rowOf w2p w.heap.size = devA d L1 := by rw [← hw2p, rowOf_alloc, if_neg a0n]; exact a0r
   have r0f : frOf w2p w.heap.size = (0, 0) := by rw [← hw2p, frOf_alloc, if_neg a0n]; exact a0f
   have r1 : rowOf w2p (w.heap.size + 1) = devA Dev.zero DLoc.zero := by rw [← hw2p, rowOf_alloc, if_neg a1n]; exact a1r
   have r1f : frOf w2p (w.heap.size + 1) = (0, 0) := by rw [← hw2p, frOf_alloc, if_neg a1n]; exact a1f
   have r2 : rowOf w2p w1.heap.size = recA d.rec_ := by rw [← hw2p, rowOf_alloc, if_neg a2n]; exact a2r
   have r2f : frOf w2p w1.heap.size = (0, 0) := by rw [← hw2p, frOf_alloc, if_neg a2n]; exact a2f
   have r3 : rowOf w2p w2.heap.size = patA p.from_ p.to_ p.old p.new_ p.size A2 p.ops.length c2 := by rw [← hw2p, rowOf_alloc, if_pos rfl]
   have r3f : frOf w2p w2.heap.size = (0, 0) := by rw [← hw2p, frOf_alloc, if_pos rfl]
   have hszp : w2p.heap.size = w2.heap.size + 1 := by rw [← hw2p]; simp
   have HBP : Hid (Below w.heap.size w w2p) := hD (by rw [← hw2p]; exact HB2.out.alloc HB2.out.size _)
   have HKP : Hid (Kp (w.heap.size + 2) w1 w2p) := hD (by rw [← hw2p]; exact HK2.out.alloc (by omega) _)
   have HGQ : Hid (Kp (w1.heap.size + 1) w2 w2p) := hD (by rw [← hw2p]; exact (Kp.refl _ _).alloc (Nat.le_refl _) _)
   rw [hw2p]
   have RD : Hid (rowOf w2p.drew w.heap.size = devA d L1) := hD (by rw [rowOf_drew]; exact r0)
   have FD : Hid (frOf w2p.drew w.heap.size = (0, 0)) := hD (by rw [frOf_drew]; exact r0f)
   have RZ : Hid (rowOf w2p.drew (w.heap.size + 1) = devA Dev.zero DLoc.zero) := hD (by rw [rowOf_drew]; exact r1)
   have FZ : Hid (frOf w2p.drew (w.heap.size + 1) = (0, 0)) := hD (by rw [frOf_drew]; exact r1f)
   have RR : Hid (rowOf w2p.drew w1.heap.size = recA d.rec_) := hD (by rw [rowOf_drew]; exact r2)
   have FR : Hid (frOf w2p.drew w1.heap.size = (0, 0)) := hD (by rw [frOf_drew]; exact r2f)
   have RP : Hid (rowOf w2p.drew w2.heap.size = patA p.from_ p.to_ p.old p.new_ p.size A2 p.ops.length c2) := hD (by rw [rowOf_drew]; exact r3)
   have FP : Hid (frOf w2p.drew w2.heap.size = (0, 0)) := hD (by rw [frOf_drew]; exact r3f)
   clear hw2p a0r a0f a0n a0c a0z a0l a1r a1f a1n a1c a1z a1l a2r a2f a2n a2c a2z a2l r0 r0f r1 r1f r2 r2f r3 r3f
   first
    |
     revert T2; intro T2
     by_cases d1 : p.from_ ≠ d.rec_.a.ver ∨ p.to_ < d.rec_.floor
    | by_cases d1 : p.from_ ≠ d.rec_.b.ver ∨ p.to_ < d.rec_.floor
   ·have hz : res = (Dev.zero, 4) := HD3.out.trans (if_pos d1)
    subst hz
    first
     |
      revert T2; intro T2
      by_cases d2 : p.from_ ≠ d.rec_.a.ver
     | by_cases d2 : p.from_ ≠ d.rec_.b.ver
    ·have HA := hD d2
     clear d1 d2
     first
      |
       revert T2; intro T2
       refine wp_region_chain (by kernel_rfl) (some 36 :: some 37 :: some 38 :: some 39 :: some 40 :: some 41 :: some 42 :: some 43 :: some 44 :: some 45 :: some 46 :: some 47 :: some 48 :: some 49 :: some 50 :: some 51 :: []) (.pointer (some ⟨w2.heap.size, 0, none⟩) :: iv p.from_ :: .pointer (some ⟨w1.heap.size, 1, none⟩) :: iv 0 :: .pointer (some ⟨w1.heap.size, 5, none⟩) :: .pointer (some ⟨w1.heap.size, 5, none⟩) :: .pointer (some ⟨w1.heap.size, 5, none⟩) :: iv d.rec_.a.ver :: .bool true :: .bool true :: undef :: undef :: undef :: undef :: undef :: .bool true :: []) 91 rfl rfl (by decide +kernel) (by decide +kernel) (by decide +kernel) rfl ?_ ?_
      | refine wp_region_chain (by kernel_rfl) (some 36 :: some 37 :: some 38 :: some 39 :: some 40 :: some 41 :: some 42 :: some 43 :: some 44 :: some 45 :: some 46 :: some 47 :: some 48 :: some 49 :: some 50 :: some 51 :: []) (.pointer (some ⟨w2.heap.size, 0, none⟩) :: iv p.from_ :: .pointer (some ⟨w1.heap.size, 1, none⟩) :: iv 1 :: .pointer (some ⟨w1.heap.size, 5, none⟩) :: .pointer (some ⟨w1.heap.size, 8, none⟩) :: .pointer (some ⟨w1.heap.size, 8, none⟩) :: iv d.rec_.b.ver :: .bool true :: .bool true :: undef :: undef :: undef :: undef :: undef :: .bool true :: []) 91 rfl rfl (by decide +kernel) (by decide +kernel) (by decide +kernel) rfl ?_ ?_
     ·refine ⟨.inl ⟨rfl, fun done a wq hw h => ?_⟩, ?_⟩
      ·have e6 := cO 6 (.pointer (some ⟨w2.heap.size, 0, none⟩)) h; refine ch_pure ?_; go_simp
      refine ⟨.inl ⟨rfl, fun done a wq hw h => ?_⟩, ?_⟩
      ·have e36 := cN 0 36 h hw; obtain ⟨r_, f_, n_, c_, z_, l_⟩ := keep1 h.bel RP.out (by go_simp) FP.out; refine ch_pure ?_; go_simp
      refine ⟨.inl ⟨rfl, fun done a wq hw h => ?_⟩, ?_⟩
      ·have e4 := cO 4 (.pointer (some ⟨w1.heap.size, 0, none⟩)) h; refine ch_pure ?_; go_simp
      refine ⟨.inl ⟨rfl, fun done a wq hw h => ?_⟩, ?_⟩
      ·have e38 := cN 2 38 h hw; obtain ⟨r_, f_, n_, c_, z_, l_⟩ := keep1 h.bel RR.out (by go_simp) FR.out; have hk_ := HKK.out; refine ch_pure ?_; go_simp
      refine ⟨.inl ⟨rfl, fun done a wq hw h => ?_⟩, ?_⟩
      ·have e4 := cO 4 (.pointer (some ⟨w1.heap.size, 0, none⟩)) h; refine ch_pure ?_; go_simp
      refine ⟨.inl ⟨rfl, fun done a wq hw h => ?_⟩, ?_⟩
      ·have e40 := cN 4 40 h hw; have e39 := cN 3 39 h hw; refine ch_pure ?_; go_simp
      refine ⟨.inl ⟨rfl, fun done a wq hw h => ?_⟩, ?_⟩
      ·have e41 := cN 5 41 h hw; refine ch_pure ?_; go_simp
      refine ⟨.inl ⟨rfl, fun done a wq hw h => ?_⟩, ?_⟩
      ·have e42 := cN 6 42 h hw; obtain ⟨r_, f_, n_, c_, z_, l_⟩ := keep1 h.bel RR.out (by go_simp) FR.out; refine ch_pure ?_; go_simp
      refine ⟨.inl ⟨rfl, fun done a wq hw h => ?_⟩, ?_⟩
      ·have e37 := cN 1 37 h hw; have e43 := cN 7 43 h hw; exact ch_neq_int (by kernel_rfl) (ch_ev e37) (ch_ev e43) (by have := HA.out; simp; omega)
      refine ⟨.inl ⟨rfl, fun done a wq hw h => ?_⟩, ?_⟩
      ·have e44 := cN 8 44 h hw; exact ch_move (ch_ev e44)
      iterate 5 refine ⟨.inr ⟨rfl, rfl⟩, ?_⟩
      refine ⟨.inl ⟨rfl, fun done a wq hw h => ?_⟩, ?_⟩
      ·have e45 := cN 9 45 h hw; exact ch_pick_t e45 rfl
      exact trivial
     ·intro w3 hb
      simp only [putAll_some, putAll_none, putAll_nil, List.setIfInBounds_toArray, List.set_cons_zero, List.set_cons_succ]
      have hb3 : Below w2p.heap.size w2p w3 := hb
      obtain ⟨a1r, a1f, a1n, a1c, a1z, a1l⟩ := keep1 hb RZ.out (by go_simp) FZ.out
      have HB3 : Hid (Below w.heap.size w w3) := hD (HBP.out.trans (hb3.mono HBP.out.size))
      clear hb hb3
      go_wp2_with fail
      refine bodyPost_ret (results_ct rfl rfl (cs := devA Dev.zero DLoc.zero) (by go_simp) (by go_simp) (by go_simp)) rfl ⟨DLoc.zero, rfl, .const fun v => DevIn.zero v, ?_⟩
      have hs := HB3.out.size
      repeat (first | exact HB3.out | refine bR ?_ _ | refine bC ?_ _ | refine bA ?_ _)
    ·first
      |
       revert T2; intro T2
       have HA : Hid (p.from_ = d.rec_.a.ver ∧ p.to_ < d.rec_.floor) := hD ⟨Decidable.not_not.1 d2, d1.resolve_left d2⟩
      | have HA : Hid (p.from_ = d.rec_.b.ver ∧ p.to_ < d.rec_.floor) := hD ⟨Decidable.not_not.1 d2, d1.resolve_left d2⟩
     clear d1 d2
     first
      |
       revert T2; intro T2
       refine wp_region_chain (by kernel_rfl) (some 36 :: some 37 :: some 38 :: some 39 :: some 40 :: some 41 :: some 42 :: some 43 :: some 44 :: some 45 :: some 46 :: some 47 :: some 48 :: some 49 :: some 50 :: some 51 :: []) (.pointer (some ⟨w2.heap.size, 0, none⟩) :: iv p.from_ :: .pointer (some ⟨w1.heap.size, 1, none⟩) :: iv 0 :: .pointer (some ⟨w1.heap.size, 5, none⟩) :: .pointer (some ⟨w1.heap.size, 5, none⟩) :: .pointer (some ⟨w1.heap.size, 5, none⟩) :: iv d.rec_.a.ver :: .bool false :: .bool false :: .pointer (some ⟨w2.heap.size, 1, none⟩) :: iv p.to_ :: .pointer (some ⟨w1.heap.size, 4, none⟩) :: iv d.rec_.floor :: .bool true :: .bool true :: []) 91 rfl rfl (by decide +kernel) (by decide +kernel) (by decide +kernel) rfl ?_ ?_
      | refine wp_region_chain (by kernel_rfl) (some 36 :: some 37 :: some 38 :: some 39 :: some 40 :: some 41 :: some 42 :: some 43 :: some 44 :: some 45 :: some 46 :: some 47 :: some 48 :: some 49 :: some 50 :: some 51 :: []) (.pointer (some ⟨w2.heap.size, 0, none⟩) :: iv p.from_ :: .pointer (some ⟨w1.heap.size, 1, none⟩) :: iv 1 :: .pointer (some ⟨w1.heap.size, 5, none⟩) :: .pointer (some ⟨w1.heap.size, 8, none⟩) :: .pointer (some ⟨w1.heap.size, 8, none⟩) :: iv d.rec_.b.ver :: .bool false :: .bool false :: .pointer (some ⟨w2.heap.size, 1, none⟩) :: iv p.to_ :: .pointer (some ⟨w1.heap.size, 4, none⟩) :: iv d.rec_.floor :: .bool true :: .bool true :: []) 91 rfl rfl (by decide +kernel) (by decide +kernel) (by decide +kernel) rfl ?_ ?_
     ·refine ⟨.inl ⟨rfl, fun done a wq hw h => ?_⟩, ?_⟩
      ·have e6 := cO 6 (.pointer (some ⟨w2.heap.size, 0, none⟩)) h; refine ch_pure ?_; go_simp
      refine ⟨.inl ⟨rfl, fun done a wq hw h => ?_⟩, ?_⟩
      ·have e36 := cN 0 36 h hw; obtain ⟨r_, f_, n_, c_, z_, l_⟩ := keep1 h.bel RP.out (by go_simp) FP.out; refine ch_pure ?_; go_simp
      refine ⟨.inl ⟨rfl, fun done a wq hw h => ?_⟩, ?_⟩
      ·have e4 := cO 4 (.pointer (some ⟨w1.heap.size, 0, none⟩)) h; refine ch_pure ?_; go_simp
      refine ⟨.inl ⟨rfl, fun done a wq hw h => ?_⟩, ?_⟩
      ·have e38 := cN 2 38 h hw; obtain ⟨r_, f_, n_, c_, z_, l_⟩ := keep1 h.bel RR.out (by go_simp) FR.out; have hk_ := HKK.out; refine ch_pure ?_; go_simp
      refine ⟨.inl ⟨rfl, fun done a wq hw h => ?_⟩, ?_⟩
      ·have e4 := cO 4 (.pointer (some ⟨w1.heap.size, 0, none⟩)) h; refine ch_pure ?_; go_simp
      refine ⟨.inl ⟨rfl, fun done a wq hw h => ?_⟩, ?_⟩
      ·have e40 := cN 4 40 h hw; have e39 := cN 3 39 h hw; refine ch_pure ?_; go_simp
      refine ⟨.inl ⟨rfl, fun done a wq hw h => ?_⟩, ?_⟩
      ·have e41 := cN 5 41 h hw; refine ch_pure ?_; go_simp
      refine ⟨.inl ⟨rfl, fun done a wq hw h => ?_⟩, ?_⟩
      ·have e42 := cN 6 42 h hw; obtain ⟨r_, f_, n_, c_, z_, l_⟩ := keep1 h.bel RR.out (by go_simp) FR.out; refine ch_pure ?_; go_simp
      refine ⟨.inl ⟨rfl, fun done a wq hw h => ?_⟩, ?_⟩
      ·have e37 := cN 1 37 h hw; have e43 := cN 7 43 h hw; exact ch_neq_int (by kernel_rfl) (ch_ev e37) (ch_ev e43) (by have := HA.out; simp; omega)
      refine ⟨.inl ⟨rfl, fun done a wq hw h => ?_⟩, ?_⟩
      ·have e44 := cN 8 44 h hw; exact ch_move (ch_ev e44)
      refine ⟨.inl ⟨rfl, fun done a wq hw h => ?_⟩, ?_⟩
      ·have e6 := cO 6 (.pointer (some ⟨w2.heap.size, 0, none⟩)) h; refine ch_pure ?_; go_simp
      refine ⟨.inl ⟨rfl, fun done a wq hw h => ?_⟩, ?_⟩
      ·have e46 := cN 10 46 h hw; obtain ⟨r_, f_, n_, c_, z_, l_⟩ := keep1 h.bel RP.out (by go_simp) FP.out; refine ch_pure ?_; go_simp
      refine ⟨.inl ⟨rfl, fun done a wq hw h => ?_⟩, ?_⟩
      ·have e4 := cO 4 (.pointer (some ⟨w1.heap.size, 0, none⟩)) h; refine ch_pure ?_; go_simp
      refine ⟨.inl ⟨rfl, fun done a wq hw h => ?_⟩, ?_⟩
      ·have e48 := cN 12 48 h hw; obtain ⟨r_, f_, n_, c_, z_, l_⟩ := keep1 h.bel RR.out (by go_simp) FR.out; refine ch_pure ?_; go_simp
      refine ⟨.inl ⟨rfl, fun done a wq hw h => ?_⟩, ?_⟩
      ·have e47 := cN 11 47 h hw; have e49 := cN 13 49 h hw; exact ch_lss_int (by kernel_rfl) (ch_ev e47) (ch_ev e49) (by have := HA.out; simp; omega)
      refine ⟨.inl ⟨rfl, fun done a wq hw h => ?_⟩, ?_⟩
      ·have e45 := cN 9 45 h hw; have e50 := cN 14 50 h hw; exact ch_pick_f e45 (ch_ev e50)
      exact trivial
     ·intro w3 hb
      simp only [putAll_some, putAll_none, putAll_nil, List.setIfInBounds_toArray, List.set_cons_zero, List.set_cons_succ]
      have hb3 : Below w2p.heap.size w2p w3 := hb
      obtain ⟨a1r, a1f, a1n, a1c, a1z, a1l⟩ := keep1 hb RZ.out (by go_simp) FZ.out
      have HB3 : Hid (Below w.heap.size w w3) := hD (HBP.out.trans (hb3.mono HBP.out.size))
      clear hb hb3
      go_wp2_with fail
      refine bodyPost_ret (results_ct rfl rfl (cs := devA Dev.zero DLoc.zero) (by go_simp) (by go_simp) (by go_simp)) rfl ⟨DLoc.zero, rfl, .const fun v => DevIn.zero v, ?_⟩
      have hs := HB3.out.size
      repeat (first | exact HB3.out | refine bR ?_ _ | refine bC ?_ _ | refine bA ?_ _)
   first
    |
     revert T2; intro T2
     have HA : Hid (p.from_ = d.rec_.a.ver ∧ ¬ p.to_ < d.rec_.floor) := hD ⟨Decidable.not_not.1 fun e => d1 (.inl e), fun e => d1 (.inr e)⟩
    | have HA : Hid (p.from_ = d.rec_.b.ver ∧ ¬ p.to_ < d.rec_.floor) := hD ⟨Decidable.not_not.1 fun e => d1 (.inl e), fun e => d1 (.inr e)⟩
   have HD4 := hD (HD3.out.trans (if_neg d1))
   clear d1 HD3
   first
    |
     revert T2; intro T2
     refine wp_region_chain (by kernel_rfl) (some 36 :: some 37 :: some 38 :: some 39 :: some 40 :: some 41 :: some 42 :: some 43 :: some 44 :: some 45 :: some 46 :: some 47 :: some 48 :: some 49 :: some 50 :: some 51 :: []) (.pointer (some ⟨w2.heap.size, 0, none⟩) :: iv p.from_ :: .pointer (some ⟨w1.heap.size, 1, none⟩) :: iv 0 :: .pointer (some ⟨w1.heap.size, 5, none⟩) :: .pointer (some ⟨w1.heap.size, 5, none⟩) :: .pointer (some ⟨w1.heap.size, 5, none⟩) :: iv d.rec_.a.ver :: .bool false :: .bool false :: .pointer (some ⟨w2.heap.size, 1, none⟩) :: iv p.to_ :: .pointer (some ⟨w1.heap.size, 4, none⟩) :: iv d.rec_.floor :: .bool false :: .bool false :: []) 91 rfl rfl (by decide +kernel) (by decide +kernel) (by decide +kernel) rfl ?_ ?_
    | refine wp_region_chain (by kernel_rfl) (some 36 :: some 37 :: some 38 :: some 39 :: some 40 :: some 41 :: some 42 :: some 43 :: some 44 :: some 45 :: some 46 :: some 47 :: some 48 :: some 49 :: some 50 :: some 51 :: []) (.pointer (some ⟨w2.heap.size, 0, none⟩) :: iv p.from_ :: .pointer (some ⟨w1.heap.size, 1, none⟩) :: iv 1 :: .pointer (some ⟨w1.heap.size, 5, none⟩) :: .pointer (some ⟨w1.heap.size, 8, none⟩) :: .pointer (some ⟨w1.heap.size, 8, none⟩) :: iv d.rec_.b.ver :: .bool false :: .bool false :: .pointer (some ⟨w2.heap.size, 1, none⟩) :: iv p.to_ :: .pointer (some ⟨w1.heap.size, 4, none⟩) :: iv d.rec_.floor :: .bool false :: .bool false :: []) 91 rfl rfl (by decide +kernel) (by decide +kernel) (by decide +kernel) rfl ?_ ?_
   ·refine ⟨.inl ⟨rfl, fun done a wq hw h => ?_⟩, ?_⟩
    ·have e6 := cO 6 (.pointer (some ⟨w2.heap.size, 0, none⟩)) h; refine ch_pure ?_; go_simp
    refine ⟨.inl ⟨rfl, fun done a wq hw h => ?_⟩, ?_⟩
    ·have e36 := cN 0 36 h hw; obtain ⟨r_, f_, n_, c_, z_, l_⟩ := keep1 h.bel RP.out (by go_simp) FP.out; refine ch_pure ?_; go_simp
    refine ⟨.inl ⟨rfl, fun done a wq hw h => ?_⟩, ?_⟩
    ·have e4 := cO 4 (.pointer (some ⟨w1.heap.size, 0, none⟩)) h; refine ch_pure ?_; go_simp
    refine ⟨.inl ⟨rfl, fun done a wq hw h => ?_⟩, ?_⟩
    ·have e38 := cN 2 38 h hw; obtain ⟨r_, f_, n_, c_, z_, l_⟩ := keep1 h.bel RR.out (by go_simp) FR.out; have hk_ := HKK.out; refine ch_pure ?_; go_simp
    refine ⟨.inl ⟨rfl, fun done a wq hw h => ?_⟩, ?_⟩
    ·have e4 := cO 4 (.pointer (some ⟨w1.heap.size, 0, none⟩)) h; refine ch_pure ?_; go_simp
    refine ⟨.inl ⟨rfl, fun done a wq hw h => ?_⟩, ?_⟩
    ·have e40 := cN 4 40 h hw; have e39 := cN 3 39 h hw; refine ch_pure ?_; go_simp
    refine ⟨.inl ⟨rfl, fun done a wq hw h => ?_⟩, ?_⟩
    ·have e41 := cN 5 41 h hw; refine ch_pure ?_; go_simp
    refine ⟨.inl ⟨rfl, fun done a wq hw h => ?_⟩, ?_⟩
    ·have e42 := cN 6 42 h hw; obtain ⟨r_, f_, n_, c_, z_, l_⟩ := keep1 h.bel RR.out (by go_simp) FR.out; refine ch_pure ?_; go_simp
    refine ⟨.inl ⟨rfl, fun done a wq hw h => ?_⟩, ?_⟩
    ·have e37 := cN 1 37 h hw; have e43 := cN 7 43 h hw; exact ch_neq_int (by kernel_rfl) (ch_ev e37) (ch_ev e43) (by have := HA.out; simp; omega)
    refine ⟨.inl ⟨rfl, fun done a wq hw h => ?_⟩, ?_⟩
    ·have e44 := cN 8 44 h hw; exact ch_move (ch_ev e44)
    refine ⟨.inl ⟨rfl, fun done a wq hw h => ?_⟩, ?_⟩
    ·have e6 := cO 6 (.pointer (some ⟨w2.heap.size, 0, none⟩)) h; refine ch_pure ?_; go_simp
    refine ⟨.inl ⟨rfl, fun done a wq hw h => ?_⟩, ?_⟩
    ·have e46 := cN 10 46 h hw; obtain ⟨r_, f_, n_, c_, z_, l_⟩ := keep1 h.bel RP.out (by go_simp) FP.out; refine ch_pure ?_; go_simp
    refine ⟨.inl ⟨rfl, fun done a wq hw h => ?_⟩, ?_⟩
    ·have e4 := cO 4 (.pointer (some ⟨w1.heap.size, 0, none⟩)) h; refine ch_pure ?_; go_simp
    refine ⟨.inl ⟨rfl, fun done a wq hw h => ?_⟩, ?_⟩
    ·have e48 := cN 12 48 h hw; obtain ⟨r_, f_, n_, c_, z_, l_⟩ := keep1 h.bel RR.out (by go_simp) FR.out; refine ch_pure ?_; go_simp
    refine ⟨.inl ⟨rfl, fun done a wq hw h => ?_⟩, ?_⟩
    ·have e47 := cN 11 47 h hw; have e49 := cN 13 49 h hw; exact ch_lss_int (by kernel_rfl) (ch_ev e47) (ch_ev e49) (by have := HA.out; simp; omega)
    refine ⟨.inl ⟨rfl, fun done a wq hw h => ?_⟩, ?_⟩
    ·have e45 := cN 9 45 h hw; have e50 := cN 14 50 h hw; exact ch_pick_f e45 (ch_ev e50)
    exact trivial
   ·intro w3 hb
    simp only [putAll_some, putAll_none, putAll_nil, List.setIfInBounds_toArray, List.set_cons_zero, List.set_cons_succ]
    have hb3 : Below w2p.heap.size w2p w3 := hb
    obtain ⟨a0r, a0f, a0n, a0c, a0z, a0l⟩ := keep1 hb RD.out (by go_simp) FD.out
    obtain ⟨a1r, a1f, a1n, a1c, a1z, a1l⟩ := keep1 hb RZ.out (by go_simp) FZ.out
    obtain ⟨a2r, a2f, a2n, a2c, a2z, a2l⟩ := keep1 hb RR.out (by go_simp) FR.out
    obtain ⟨a3r, a3f, a3n, a3c, a3z, a3l⟩ := keep1 hb RP.out (by go_simp) FP.out
    have hs3 := hb3.size
    have HB3 : Hid (Below w.heap.size w w3) := hD (HBP.out.trans (hb3.mono HBP.out.size))
    have HK3 : Hid (Kp (w.heap.size + 2) w1 w3) := hD (HKP.out.below (by omega) hb3)
    have HG3 : Hid (Kp (w1.heap.size + 1) w2 w3) := hD (HGQ.out.below (by omega) hb3)
    clear hb hb3 RD FD RZ FZ RR FR RP FP
    go_wp2_with fail
    have RD := hD a0r
    have FD := hD a0f
    have RZ := hD a1r
    have FZ := hD a1f
    have RR := hD a2r
    have FR := hD a2f
    have RP := hD a3r
    have FP := hD a3f
    have HI3 : Hid (DevIn w3 d L1) := hD (Fresh.kp HFR.out HK3.out (Nat.le_refl _) (by omega)).now.devIn
    have HP3 : Hid (PatIn w3 p A2 c2) := hD (Fresh.kp HGP.out HG3.out (Nat.le_refl _) (by omega)).now
    first
     |
      revert T2; intro T2
      have KI : Hid (∀ wq, Below w3.heap.size w3 wq → Calls Try.prog 118 #[.agg (devA d L1), iv 0, .agg (recA d.rec_)] wq (ImRet wq img)) := hD (fun wq h => KI0.out wq (HI3.out.stays h))
     | have KI : Hid (∀ wq, Below w3.heap.size w3 wq → Calls Try.prog 118 #[.agg (devA d L1), iv 1, .agg (recA d.rec_)] wq (ImRet wq img)) := hD (fun wq h => KI0.out wq (HI3.out.stays h))
    have KD : Hid (∀ wq A c, Below w3.heap.size w3 wq → img.length ≤ c → Bts wq A img → Calls Try.prog 25 #[.agg (patA p.from_ p.to_ p.old p.new_ p.size A2 p.ops.length c2), .slice A img.length c] wq (ByRet2 wq b en)) := hD (fun wq A c h hc hb => by
     have hq := patDo_calls A2 A c2 c p img wq hc (by have := HIL.out; omega) hb (HP3.out.stays h)
     rw [HPD.out] at hq
     exact hq)
    first
     |
      revert T2; intro T2
      refine wp_region_free (by kernel_rfl) (some 54 :: some 55 :: some 56 :: some 57 :: some 58 :: some 59 :: some 60 :: some 53 :: some 61 :: some 62 :: some 7 :: some 8 :: []) (false :: false :: false :: false :: false :: true :: true :: true :: true :: true :: true :: true :: []) (.agg (patA p.from_ p.to_ p.old p.new_ p.size A2 p.ops.length c2) :: .agg (devA d L1) :: .pointer (some ⟨w1.heap.size, 1, none⟩) :: iv 0 :: .agg (recA d.rec_) :: undef :: undef :: undef :: undef :: undef :: undef :: undef :: []) (imJ w3 5 6 7 8 9 10 11 img b en) 91 rfl rfl (by decide +kernel) (by decide +kernel) (by decide +kernel) rfl rfl (rfl) ?_ ?_
     | refine wp_region_free (by kernel_rfl) (some 54 :: some 55 :: some 56 :: some 57 :: some 58 :: some 59 :: some 60 :: some 53 :: some 61 :: some 62 :: some 7 :: some 8 :: []) (false :: false :: false :: false :: false :: true :: true :: true :: true :: true :: true :: true :: []) (.agg (patA p.from_ p.to_ p.old p.new_ p.size A2 p.ops.length c2) :: .agg (devA d L1) :: .pointer (some ⟨w1.heap.size, 1, none⟩) :: iv 1 :: .agg (recA d.rec_) :: undef :: undef :: undef :: undef :: undef :: undef :: undef :: []) (imJ w3 5 6 7 8 9 10 11 img b en) 91 rfl rfl (by decide +kernel) (by decide +kernel) (by decide +kernel) rfl rfl (rfl) ?_ ?_
    ·refine ⟨?_, ?_⟩
     ·intro done cv a wq hn hw hcl h hJ
      have e6 := fO 6 (.pointer (some ⟨w2.heap.size, 0, none⟩)) h
      obtain ⟨r_, f_, n_, c_, z_, l_⟩ := keep1 (imJ_bel hJ) RP.out (by go_simp) FP.out
      go_simp
     refine ⟨?_, ?_⟩
     ·intro done cv a wq hn hw hcl h hJ
      have e1 := fO 1 (.pointer (some ⟨w.heap.size, 0, none⟩)) h
      obtain ⟨r_, f_, n_, c_, z_, l_⟩ := keep1 (imJ_bel hJ) RD.out (by go_simp) FD.out
      go_simp
     refine ⟨?_, ?_⟩
     ·intro done cv a wq hn hw hcl h hJ
      have e4 := fO 4 (.pointer (some ⟨w1.heap.size, 0, none⟩)) h
      go_simp
     refine ⟨?_, ?_⟩
     ·intro done cv a wq hn hw hcl h hJ
      have e56 := fN 2 56 h hw
      obtain ⟨r_, f_, n_, c_, z_, l_⟩ := keep1 (imJ_bel hJ) RR.out (by go_simp) FR.out
      have hk_ := HKK.out
      go_simp
     refine ⟨?_, ?_⟩
     ·intro done cv a wq hn hw hcl h hJ
      have e4 := fO 4 (.pointer (some ⟨w1.heap.size, 0, none⟩)) h
      obtain ⟨r_, f_, n_, c_, z_, l_⟩ := keep1 (imJ_bel hJ) RR.out (by go_simp) FR.out
      go_simp
     refine ⟨?_, ?_⟩
     ·intro done cv a wq hn hw hcl h hJ
      have e55 := fN 1 55 h hw; have e57 := fN 3 57 h hw; have e58 := fN 4 58 h hw
      have n5 := hn
      have n6 := nW 6 5 hcl n5
      obtain rfl : wq = w3.drew := imJ_0 (by simp [maskB, n5]) (by simp [maskB, n6]) hJ
      first
       |
        revert T2; intro T2
        refine wp_call (vals := #[.agg (devA d L1), iv 0, .agg (recA d.rec_)]) (by rw [List.map_toArray, List.map_cons, List.map_cons, List.map_cons, List.map_nil, ch_ev e55, ch_ev e57, ch_ev e58]) (enters_of Try.func118 (by kernel_rfl) rfl _ _) (KI.out _ ((Below.refl _ _).drew)) ?_
       | refine wp_call (vals := #[.agg (devA d L1), iv 1, .agg (recA d.rec_)]) (by rw [List.map_toArray, List.map_cons, List.map_cons, List.map_cons, List.map_nil, ch_ev e55, ch_ev e57, ch_ev e58]) (enters_of Try.func118 (by kernel_rfl) rfl _ _) (KI.out _ ((Below.refl _ _).drew)) ?_
      rintro e w' ⟨A1, c1, rfl, h3, h4, h5⟩
      exact ⟨_, rfl, _, rfl, imJ_i (by decide) (by simp [maskB, n6]) h3 h4 ((Below.refl _ _).drew.trans h5)⟩
     refine ⟨?_, ?_⟩
     ·intro done cv a wq hn hw hcl h hJ
      have e54 := fN 0 54 h hw; have e59 := fr_cv (i := 5) (t := 59) h (hw 5 (by decide)) rfl rfl
      have n6 := hn
      have m5 := hw 5 (by decide)
      have n7 := nW 7 6 hcl n6
      have n8 := nW 8 7 hcl n7
      have n9 := nW 9 7 hcl n7
      have n10 := nW 10 6 hcl n6
      have n11 := nW 11 6 hcl n6
      obtain ⟨A1, c1, y1, h3, h4, h5⟩ := imJ_1 (by simp [maskB, m5]) (by simp [maskB, n6]) hJ
      rw [y1] at e59
      refine wp_call (vals := #[.agg (patA p.from_ p.to_ p.old p.new_ p.size A2 p.ops.length c2), .slice A1 (img).length c1]) (by rw [List.map_toArray, List.map_cons, List.map_cons, List.map_nil, ch_ev e54, ch_ev e59]) (enters_of Try.func25 (by kernel_rfl) rfl _ _) (KD.out _ _ _ h5 h3 h4) ?_
      rintro e w' ⟨A2, c2, rfl, g1, g2, g3⟩
      exact ⟨_, rfl, _, rfl, imJ_d (by simp [maskB, n7]) (by simp [maskB, n8]) (by simp [maskB, n9]) (by simp [maskB, n10]) (by simp [maskB, n11]) (by decide) (by decide) (by decide) (by decide) (by decide) g1 g2 (h5.trans (g3.mono h5.size))⟩
     refine ⟨?_, ?_⟩
     ·intro done cv a wq hn hw hcl h hJ
      have e60 := fr_cv (i := 6) (t := 60) h (hw 6 (by decide)) rfl rfl
      have m6 := hw 6 (by decide)
      refine wp_val (v := cv 6) (mx_move (ch_ev e60)) ⟨_, rfl, imJ_k (by simp [maskB, m6]) (by decide) hJ (fun A2 c2 _ _ _ q => ⟨fun _ => q, fun h => absurd h (by decide), fun h => absurd h (by decide), fun h => absurd h (by decide), fun h => absurd h (by decide)⟩)⟩
     refine ⟨?_, ?_⟩
     ·intro done cv a wq hn hw hcl h hJ
      have e53 := fr_cv (i := 7) (t := 53) h (hw 7 (by decide)) rfl rfl
      have m7 := hw 7 (by decide)
      have m6 := hcl 7 _ rfl m7 6 (by decide)
      obtain ⟨A2, c2, y1, _, _, _, g5, _⟩ := imJ_2 (by simp [maskB, m6]) hJ
      have y := g5 (by simp [maskB, m7])
      rw [y] at e53
      refine wp_val (v := .slice A2 (b).length c2) (by go_simp) ⟨_, rfl, imJ_k (by simp [maskB, m6]) (by decide) hJ (fun A3 c3 h8 _ _ _ => ⟨fun h => absurd h (by decide), fun _ => by have q := h8 (by simp [maskB, m7]); rw [y] at q; simp at q ⊢; exact q, fun h => absurd h (by decide), fun h => absurd h (by decide), fun h => absurd h (by decide)⟩)⟩
     refine ⟨?_, ?_⟩
     ·intro done cv a wq hn hw hcl h hJ
      have e53 := fr_cv (i := 7) (t := 53) h (hw 7 (by decide)) rfl rfl
      have m7 := hw 7 (by decide)
      have m6 := hcl 7 _ rfl m7 6 (by decide)
      obtain ⟨A2, c2, y1, _, _, _, g5, _⟩ := imJ_2 (by simp [maskB, m6]) hJ
      have y := g5 (by simp [maskB, m7])
      rw [y] at e53
      refine wp_val (v := iv en) (by go_simp) ⟨_, rfl, imJ_k (by simp [maskB, m6]) (by decide) hJ (fun A3 c3 h8 _ _ _ => ⟨fun h => absurd h (by decide), fun h => absurd h (by decide), fun _ => rfl, fun h => absurd h (by decide), fun h => absurd h (by decide)⟩)⟩
     refine ⟨?_, ?_⟩
     ·intro done cv a wq hn hw hcl h hJ
      have e61 := fr_cv (i := 8) (t := 61) h (hw 8 (by decide)) rfl rfl
      have m6 := hw 6 (by decide)
      have m8 := hw 8 (by decide)
      obtain ⟨A2, c2, y1, _, _, _, _, g6, _⟩ := imJ_2 (by simp [maskB, m6]) hJ
      have y := g6 (by simp [maskB, m8])
      rw [y] at e61
      refine wp_asg (v := .slice A2 (b).length c2) (ch_ev e61) ⟨_, rfl, imJ_k (by simp [maskB, m6]) (by decide) hJ (fun A3 c3 _ h9 _ _ => ⟨fun h => absurd h (by decide), fun h => absurd h (by decide), fun h => absurd h (by decide), fun _ => by have q := h9 (by simp [maskB, m8]); rw [y] at q; exact q, fun h => absurd h (by decide)⟩)⟩
     refine ⟨?_, ?_⟩
     ·intro done cv a wq hn hw hcl h hJ
      have e62 := fr_cv (i := 9) (t := 62) h (hw 9 (by decide)) rfl rfl
      have m6 := hw 6 (by decide)
      have m9 := hw 9 (by decide)
      obtain ⟨A2, c2, y1, _, _, _, _, _, g7, _⟩ := imJ_2 (by simp [maskB, m6]) hJ
      have y := g7 (by simp [maskB, m9])
      rw [y] at e62
      refine wp_asg (v := iv en) (ch_ev e62) ⟨_, rfl, imJ_k (by simp [maskB, m6]) (by decide) hJ (fun A3 c3 _ _ _ _ => ⟨fun h => absurd h (by decide), fun h => absurd h (by decide), fun h => absurd h (by decide), fun h => absurd h (by decide), fun _ => rfl⟩)⟩
     exact trivial
    intro dnn cv w4 hall hJ
    obtain ⟨A5, c5, y7, g1, g2, g3, g5, g6, g7, g8, g9⟩ := imJ_2 (hall 6 rfl (by decide)) hJ
    replace g5 := g5 (hall 7 rfl (by decide))
    replace g6 := g6 (hall 8 rfl (by decide))
    replace g7 := g7 (hall 9 rfl (by decide))
    replace g8 := g8 (hall 10 rfl (by decide))
    replace g9 := g9 (hall 11 rfl (by decide))
    simp only [freeAll, putAll_some, putAll_none, putAll_nil, List.getD_cons_zero, List.getD_cons_succ, Bool.false_eq_true, if_true, if_false, reduceIte, Nat.zero_add, Nat.reduceAdd, List.setIfInBounds_toArray, List.set_cons_zero, List.set_cons_succ]
    rw [y7, g5, g6, g7, g8, g9]
    obtain ⟨a0r, a0f, a0n, a0c, a0z, a0l⟩ := keep1 g3 RD.out (by go_simp) FD.out
    obtain ⟨a1r, a1f, a1n, a1c, a1z, a1l⟩ := keep1 g3 RZ.out (by go_simp) FZ.out
    obtain ⟨a2r, a2f, a2n, a2c, a2z, a2l⟩ := keep1 g3 RR.out (by go_simp) FR.out
    obtain ⟨a3r, a3f, a3n, a3c, a3z, a3l⟩ := keep1 g3 RP.out (by go_simp) FP.out
    have hs4 := g3.size
    have HB4 : Hid (Below w.heap.size w w4) := hD (HB3.out.trans (g3.mono HB3.out.size))
    have HK4 : Hid (Kp (w.heap.size + 2) w1 w4) := hD (HK3.out.below (by omega) g3)
    have HG4 : Hid (Kp (w1.heap.size + 1) w2 w4) := hD (HG3.out.below (by omega) g3)
    clear hJ hall y7 g5 g6 g7 g8 g9 g1 g2 g3 KI KD RD FD RZ FZ RR FR RP FP KI0 HI3 HP3
    by_cases e1 : en ≠ 0
    ·have hz : res = (Dev.zero, en) := HD4.out.trans (if_pos e1)
     subst hz
     have q : (en != 0) = true := by simp [e1]
     clear e1
     go_wp2_with fail
     refine bodyPost_ret (results_ct rfl rfl (cs := devA Dev.zero DLoc.zero) (by go_simp) (by go_simp) (by go_simp)) rfl ⟨DLoc.zero, rfl, .const fun v => DevIn.zero v, ?_⟩
     have hs := HB4.out.size
     repeat (first | exact HB4.out | refine bR ?_ _ | refine bC ?_ _ | refine bA ?_ _)
    have e1 := Decidable.not_not.1 e1
    subst e1
    have HD5 := hD (HD4.out.trans (if_neg (by decide)))
    clear HD4
    have hk := HKK.out
    have w1e : IntKind.i64.wrap (1 - 0) = 1 := by decide
    have w2e : IntKind.i64.wrap (1 - 1) = 0 := by decide
    have w3e : IntKind.i64.wrap 1 = 1 := by decide
    go_wp2_with fail
    refine (KW.out _).mono ?_
    rintro e w5 ⟨rfl, hb⟩
    have hbs := hb.size
    have hsz5 : w4.heap.size ≤ w5.heap.size := by simpa [World.setRow] using hbs
    obtain ⟨a0r, a0f, a0n, a0c, a0z, a0l⟩ := kp (w.heap.size) (devA d L1) hb
    obtain ⟨a1r, a1f, a1n, a1c, a1z, a1l⟩ := kp (w.heap.size + 1) (devA Dev.zero DLoc.zero) hb
    have hne21 : ¬ w2.heap.size = w1.heap.size := by omega
    obtain ⟨a3r, a3f, a3n, a3c, a3z, a3l⟩ := kp (w2.heap.size) (patA p.from_ p.to_ p.old p.new_ p.size A2 p.ops.length c2) hb
    have HB5 : Hid (Below w.heap.size w w5) := hD (by
     refine Below.trans ?_ (hb.mono (by first | omega | (simp <;> omega)))
     have hs := HB4.out.size
     repeat (first | exact HB4.out | refine bR ?_ _ | refine bC ?_ _ | refine bA ?_ _))
    have HK5 : Hid (Kp (w.heap.size + 2) w1 w5) := hD (by
     refine Kp.below ?_ (by first | omega | (simp [World.setRow] <;> omega)) hb
     repeat (first | exact HK4.out | exact Kp.refl _ _ | refine Kp.row ?_ (by omega) _ | refine Kp.cell ?_ (by first | (show _ < _ ∨ _ ≤ _; omega) | (simp <;> omega)) _ | refine Kp.alloc ?_ (by first | omega | (simp <;> omega)) _))
    have HG5 : Hid (Kp (w1.heap.size + 1) w2 w5) := hD (by
     refine Kp.below ?_ (by first | omega | (simp [World.setRow] <;> omega)) hb
     repeat (first | exact HG4.out | exact Kp.refl _ _ | refine Kp.row ?_ (by omega) _ | refine Kp.cell ?_ (by first | (show _ < _ ∨ _ ≤ _; omega) | (simp <;> omega)) _ | refine Kp.alloc ?_ (by first | omega | (simp <;> omega)) _))
    clear hb hbs hk w1e w2e w3e a2r a2f a2n a2c a2z a2l
    by_cases c6 : e5 ≠ 0
    ·have hz : res = (Dev.zero, e5) := HD5.out.trans (if_pos c6)
     subst hz
     have q : (e5 != 0) = true := by simp [c6]
     clear c6
     go_wp2_with fail
     refine bodyPost_ret (results_ct rfl rfl (cs := devA Dev.zero DLoc.zero) (by go_simp) (by go_simp) (by go_simp)) rfl ⟨DLoc.zero, rfl, .const fun v => DevIn.zero v, ?_⟩
     have hs := HB5.out.size
     repeat (first | exact HB5.out | refine bR ?_ _ | refine bC ?_ _ | refine bA ?_ _)
    have c6 := Decidable.not_not.1 c6
    subst c6
    have hz : res = ({ d with c0 := p1, c1 := p2, busy := true, job := p, done := 0, got := [] }, 0) := HD5.out.trans (if_neg (by decide))
    subst hz
    clear HD5
    go_wp2_with fail
    have hp0 : 0 < (rowOf w5 w.heap.size).size := by rw [a0r]; simp [devA]
    obtain ⟨w6, hw6⟩ : ∃ w6, w5.setRow w.heap.size (devA { d with c0 := p1, c1 := p2 } L1) = w6 := ⟨_, rfl⟩
    have RD : Hid (rowOf w6 w.heap.size = devA { d with c0 := p1, c1 := p2 } L1) := hD (by rw [← hw6, rowOf_setRow _ _ _ _ hp0, if_pos rfl])
    have FD : Hid (frOf w6 w.heap.size = (0, 0)) := hD (by rw [← hw6, frOf_setRow]; exact a0f)
    have RZ : Hid (rowOf w6 (w.heap.size + 1) = devA Dev.zero DLoc.zero) := hD (by rw [← hw6, rowOf_setRow _ _ _ _ hp0, if_neg (by omega)]; exact a1r)
    have FZ : Hid (frOf w6 (w.heap.size + 1) = (0, 0)) := hD (by rw [← hw6, frOf_setRow]; exact a1f)
    have RP : Hid (rowOf w6 w2.heap.size = patA p.from_ p.to_ p.old p.new_ p.size A2 p.ops.length c2) := hD (by rw [← hw6, rowOf_setRow _ _ _ _ hp0, if_neg (by omega)]; exact a3r)
    have FP : Hid (frOf w6 w2.heap.size = (0, 0)) := hD (by rw [← hw6, frOf_setRow]; exact a3f)
    have hsz6 : w6.heap.size = w5.heap.size := by rw [← hw6]; simp [World.setRow]
    have HB6 : Hid (Below w.heap.size w w6) := hD (by rw [← hw6]; exact below_row HB5.out (Nat.le_refl _) _)
    have HK6 : Hid (Kp (w.heap.size + 2) w1 w6) := hD (by rw [← hw6]; exact HK5.out.row (.inl (by omega)) _)
    have HG6 : Hid (Kp (w1.heap.size + 1) w2 w6) := hD (by rw [← hw6]; exact HG5.out.row (.inl (by omega)) _)
    have HQ1 : Hid (w2.heap.size ≠ w.heap.size) := hD (by omega)
    have HP0 : Hid (0 < (rowOf w6 w.heap.size).size) := hD (by rw [RD.out]; simp [devA])
    rw [hw6]
    clear hw6 hp0 a0r a0f a0n a0c a0z a0l a1r a1f a1n a1c a1z a1l a3r a3f a3n a3c a3z a3l
    refine wp_region_mix (by kernel_rfl) (some 85 :: some 86 :: none :: some 87 :: none :: some 88 :: none :: some 89 :: none :: []) (none :: none :: some 0 :: none :: some 1 :: none :: some 2 :: none :: some 3 :: []) (.agg (patA p.from_ p.to_ p.old p.new_ p.size A2 p.ops.length c2) :: .pointer (some ⟨w.heap.size, 29, none⟩) :: undef :: .pointer (some ⟨w.heap.size, 30, none⟩) :: undef :: .pointer (some ⟨w.heap.size, 36, none⟩) :: undef :: .pointer (some ⟨w.heap.size, 28, none⟩) :: undef :: []) 4 (opJ w6 w.heap.size { d with c0 := p1, c1 := p2 } L1 p A2 c2) 91 rfl rfl (by decide +kernel) (by decide +kernel) (by decide +kernel) (by decide +kernel) rfl rfl (by decide +kernel) (by decide +kernel) (rfl) ?_ ?_
    ·refine ⟨?_, ?_⟩
     ·intro done cv k0 a wq hw h hJ hn
      have e6 := mO 6 (.pointer (some ⟨w2.heap.size, 0, none⟩)) h
      obtain ⟨r_, f_⟩ := opJ_row hJ HQ1.out RP.out FP.out HP0.out
      go_simp
     refine ⟨?_, ?_⟩
     ·intro done cv k0 a wq hw h hJ hn
      have e1 := mO 1 (.pointer (some ⟨w.heap.size, 0, none⟩)) h
      go_simp
     refine ⟨?_, ?_⟩
     ·intro done cv a wq hw h hJ
      have e86 := mN 1 86 h hw
      obtain rfl : wq = w6.drew := hJ
      refine wp_sb1c e86 (cs := devA { d with c0 := p1, c1 := p2 } L1) (by rw [rowOf_drew]; exact RD.out) (by go_simp) (by rw [frOf_drew]; exact FD.out) ⟨undef, rfl, ?_⟩
      show _ = _
      rw [devA_set_busy]
     refine ⟨?_, ?_⟩
     ·intro done cv k0 a wq hw h hJ hn
      have e1 := mO 1 (.pointer (some ⟨w.heap.size, 0, none⟩)) h
      go_simp
     refine ⟨?_, ?_⟩
     ·intro done cv a wq hw h hJ
      have e87 := mN 3 87 h hw; have e85 := mN 0 85 h hw
      have hJ' : wq = w6.drew.setRow w.heap.size (devA { { d with c0 := p1, c1 := p2 } with busy := true } L1) := hJ
      subst hJ'
      refine wp_srow e87 e85 (by go_simp) (by go_simp) (cs := devA { { d with c0 := p1, c1 := p2 } with busy := true } L1) (by rw [rowOf_setRow _ _ _ _ (by rw [rowOf_drew]; exact HP0.out), if_pos rfl]) (by go_simp) (by rw [frOf_setRow, frOf_drew]; exact FD.out) (by go_simp) ⟨undef, rfl, ?_⟩
      show _ = _
      rw [devA_splice_job, setRow_setRow]
     refine ⟨?_, ?_⟩
     ·intro done cv k0 a wq hw h hJ hn
      have e1 := mO 1 (.pointer (some ⟨w.heap.size, 0, none⟩)) h
      go_simp
     refine ⟨?_, ?_⟩
     ·intro done cv a wq hw h hJ
      have e88 := mN 5 88 h hw
      have hJ' : wq = w6.drew.setRow w.heap.size (devA { { d with c0 := p1, c1 := p2 } with busy := true, job := p } { L1 with aj := A2, cj := c2 }) := hJ
      subst hJ'
      refine wp_si1c e88 (cs := devA { { d with c0 := p1, c1 := p2 } with busy := true, job := p } { L1 with aj := A2, cj := c2 }) (by rw [rowOf_setRow _ _ _ _ (by rw [rowOf_drew]; exact HP0.out), if_pos rfl]) (by go_simp) (by rw [frOf_setRow, frOf_drew]; exact FD.out) ⟨undef, rfl, ?_⟩
      show _ = _
      rw [devA_set_done, setRow_setRow]
     refine ⟨?_, ?_⟩
     ·intro done cv k0 a wq hw h hJ hn
      have e1 := mO 1 (.pointer (some ⟨w.heap.size, 0, none⟩)) h
      go_simp
     refine ⟨?_, ?_⟩
     ·intro done cv a wq hw h hJ
      have e89 := mN 7 89 h hw
      have hJ' : wq = w6.drew.setRow w.heap.size (devA { { d with c0 := p1, c1 := p2 } with busy := true, job := p, done := 0 } { L1 with aj := A2, cj := c2 }) := hJ
      subst hJ'
      refine wp_sn1c e89 (cs := devA { { d with c0 := p1, c1 := p2 } with busy := true, job := p, done := 0 } { L1 with aj := A2, cj := c2 }) (by rw [rowOf_setRow _ _ _ _ (by rw [rowOf_drew]; exact HP0.out), if_pos rfl]) (by go_simp) (by rw [frOf_setRow, frOf_drew]; exact FD.out) ⟨undef, rfl, ?_⟩
      show _ = _
      rw [devA_set_got0, setRow_setRow]
     exact trivial
    intro cv7 w7 hJ
    have hw7 : w7 = w6.drew.setRow w.heap.size (devA { d with c0 := p1, c1 := p2, busy := true, job := p, done := 0, got := [] } { L1 with aj := A2, cj := c2, ag := none, cg := 0 }) := hJ
    simp only [mixAll, putAll_some, putAll_none, putAll_nil, List.getElem?_cons_zero, List.getElem?_cons_succ, Nat.zero_add, Nat.reduceAdd, List.setIfInBounds_toArray, List.set_cons_zero, List.set_cons_succ]
    have r7 : rowOf w7 w.heap.size = devA { d with c0 := p1, c1 := p2, busy := true, job := p, done := 0, got := [] } { L1 with aj := A2, cj := c2, ag := none, cg := 0 } := by rw [hw7, rowOf_setRow _ _ _ _ (by rw [rowOf_drew]; exact HP0.out), if_pos rfl]
    have r7f : frOf w7 w.heap.size = (0, 0) := by rw [hw7, frOf_setRow, frOf_drew]; exact FD.out
    have r7z : rowOf w7 (w.heap.size + 1) = devA Dev.zero DLoc.zero := by rw [hw7, rowOf_setRow _ _ _ _ (by rw [rowOf_drew]; exact HP0.out), if_neg (by omega), rowOf_drew]; exact RZ.out
    have r7zf : frOf w7 (w.heap.size + 1) = (0, 0) := by rw [hw7, frOf_setRow, frOf_drew]; exact FZ.out
    have hsz7 : w7.heap.size = w6.heap.size := by
     have h9 : w7.heap.size = w6.drew.heap.size := by rw [hw7]; simp [World.setRow]
     exact h9
    have HB7 : Hid (Below w.heap.size w w7) := hD (by rw [hw7]; exact below_row HB6.out.drew (Nat.le_refl _) _)
    have HK7 : Hid (Kp (w.heap.size + 2) w1 w7) := hD (by rw [hw7]; exact Kp.row (w := w6.drew) HK6.out (.inl (by omega)) _)
    have HG7 : Hid (Kp (w1.heap.size + 1) w2 w7) := hD (by rw [hw7]; exact Kp.row (w := w6.drew) HG6.out (.inl (by omega)) _)
    clear hJ hw7 RD FD RZ FZ RP FP HP0
    go_wp2_with fail
    refine bodyPost_ret (results_ct rfl rfl (cs := devA { d with c0 := p1, c1 := p2, busy := true, job := p, done := 0, got := [] } { L1 with aj := A2, cj := c2, ag := none, cg := 0 }) (by go_simp) (by go_simp) (by go_simp)) rfl ⟨{ L1 with aj := A2, cj := c2, ag := none, cg := 0 }, rfl, ?_, ?_⟩
    ·refine Fresh.imp (P := fun v => DvOwn v (w.heap.size + 2) d L1 ∧ PatIn v p A2 c2) (Fresh.and' (Fresh.kp HFR.out ?_ (by omega) (by first | omega | (simp [World.setRow] <;> omega))) (Fresh.kp HGP.out ?_ (by omega) (by first | omega | (simp [World.setRow] <;> omega)))) (fun v hv => hv.1.devIn.opened p1 p2 hv.2)
     ·repeat (first | exact HK7.out | exact Kp.refl _ _ | refine Kp.row ?_ (by omega) _ | refine Kp.cell ?_ (by first | (show _ < _ ∨ _ ≤ _; omega) | (simp <;> omega)) _ | refine Kp.alloc ?_ (by first | omega | (simp <;> omega)) _)
     ·repeat (first | exact HG7.out | exact Kp.refl _ _ | refine Kp.row ?_ (by omega) _ | refine Kp.cell ?_ (by first | (show _ < _ ∨ _ ≤ _; omega) | (simp <;> omega)) _ | refine Kp.alloc ?_ (by first | omega | (simp <;> omega)) _)
    ·have hs := HB7.out.size
     repeat (first | exact HB7.out | refine bR ?_ _ | refine bC ?_ _ | refine bA ?_ _)
theorem devOpen_calls (d : Dev) (L : DLoc) (w : World) (h : DevIn w d L) : Calls Try.prog 57 #[.agg (devA d L)] w (DvRet w (devOpen d).1 (devOpen d).2) := by
 by_cases hz : devReady d = 0
 ·exact devOpen_ok d L w h hz
 ·have e : devOpen d = (Dev.zero, devReady d) := by unfold devOpen; rw [if_pos hz]
  rw [e]; exact devOpen_bad d L w h hz
end Go.Proofs.Ytefkfglkpebbmac
