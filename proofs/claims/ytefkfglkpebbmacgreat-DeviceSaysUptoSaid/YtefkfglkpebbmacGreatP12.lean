/- Walks of functions, and plain words. No conditions. -/
import Derived.Test.YtefkfglkpebbmacGreatP10
set_option linter.unusedVariables false
set_option linter.unusedSimpArgs false
set_option maxRecDepth 100000
set_option maxHeartbeats 40000000
namespace Go.Proofs.YtefkfglkpebbmacGreat
open Go.RowKit
variable {x : Chk} {r : List Chk}
theorem x6 {p : Prop} (h : p := by
 have hep := Decidable.not_not.1 hep
 subst hep
 obtain ⟨c0, c1, c2, c3, c4'⟩ := HAT.out.stays hgl HB6.out
 by_cases hf : p.from_ = x.from_
 ·have q2 : (p.from_ != x.from_) = false := by simp [hf]
  by_cases ht : p.to_ = x.to_
  ·have hz : r = (p, 0) := by rw [HZJ.out]; unfold joinDone; rw [if_neg (fun h => by rcases h.2 with h | h; exact h hf; exact h ht)]
   have HZ := hD hz
   have q3 : (p.to_ != x.to_) = false := by simp [ht]
   clear hz hf ht
   go_wp2_with fail
   generalize w5.alloc (.cells (patA p.from_ p.to_ p.old p.new_ p.size A5 p.ops.length c5) 35) = w6 at *
   generalize w5.heap.size = g9 at *
   obtain ⟨z1, z2, z3, z4, z5⟩ := blkFacts HG9.out (by simp [patA])
   go_quiet (fail)
   have ng : ¬ g9 = w.heap.size := by omega
   have ng2 : ¬ w.heap.size = g9 := by omega
   go_wp2_with fail
   refine bodyPost_ret (rC (patA p.from_ p.to_ p.old p.new_ p.size A5 p.ops.length c5)) rfl ?_
   rw [HZ.out]
   exact ⟨A5, c5, rfl, ((HF6.out.drewN _).row (by omega) _).mono (by omega), below_row (Below.drewN' HB6.out _) (Nat.le_refl _) _⟩
  have hz : r = (Pat.zero, 3) := by rw [HZJ.out]; unfold joinDone; rw [if_pos ⟨rfl, .inr ht⟩]
  have HZ := hD hz
  have q3 : (p.to_ != x.to_) = true := by simp [ht]
  clear hz hf ht
  go_wp2_with fail
  generalize w5.alloc (.cells (patA p.from_ p.to_ p.old p.new_ p.size A5 p.ops.length c5) 35) = w6 at *
  generalize w5.heap.size = g9 at *
  obtain ⟨z1, z2, z3, z4, z5⟩ := blkFacts HG9.out (by simp [patA])
  go_quiet (fail)
  go_wp2_with fail
  refine bodyPost_ret (rC (patA 0 0 0 0 0 none 0 0)) rfl ?_
  rw [HZ.out]
  exact ⟨none, 0, rfl, .const fun v => patIn_zero v, below_row (Below.drewN' HB6.out _) (by omega) _⟩
 have hz : r = (Pat.zero, 3) := by rw [HZJ.out]; unfold joinDone; rw [if_pos ⟨rfl, .inl hf⟩]
 have HZ := hD hz
 have q2 : (p.from_ != x.from_) = true := by simp [hf]
 clear hz hf
 go_wp2_with fail
 generalize w5.alloc (.cells (patA p.from_ p.to_ p.old p.new_ p.size A5 p.ops.length c5) 35) = w6 at *
 generalize w5.heap.size = g9 at *
 obtain ⟨z1, z2, z3, z4, z5⟩ := blkFacts HG9.out (by simp [patA])
 go_quiet (fail)
 go_wp2_with fail
 refine bodyPost_ret (rC (patA 0 0 0 0 0 none 0 0)) rfl ?_
 rw [HZ.out]
 exact ⟨none, 0, rfl, .const fun v => patIn_zero v, below_row (Below.drewN' HB6.out _) (by omega) _⟩) : p := h
theorem x7 {p : Prop} (h : p := by
 obtain ⟨g', o', D, d, e, _, hat, hin⟩ := (HS.out.stays HBW.out).chk hlt
 injection e with e
 injection e with e1 e2
 subst e1 e2
 have hsn : dataOf (l.take (k + 1)) = b ++ l[k].data := by rw [List.take_succ_eq_append_getElem hlt, dataOf_snoc, ← HBK.out]
 have hyl : l[k].data.length <= 16 := by
  have := (chkCheck_ok.1 ((chkList_ok.1 HE1.out).1 l[k] (List.getElem_mem hlt))).2
  unfold Chk.full at this
  exact this.2.1
 obtain ⟨y, hy⟩ : ∃ y, l[k] = y := ⟨_, rfl⟩
 rw [hy] at hat hin hsn hyl
 have HSN := hD hsn
 obtain ⟨c0, c1, c2, c3, c4⟩ := hat
 have dl : decide ((k : Int) < (l.length : Int)) = true := decide_eq_true (by omega)
 have hwk : IntKind.i64.wrap ((k : Int) + 1) = (k : Int) + 1 := IntWalk.i64_in _ (by omega)
 have hoa := HO.out.alloc (.cells (chkA y.from_ y.to_ y.n y.of_ D y.data.length d) 39)
 have hsd := (hin.data.stays ((Below.refl wr.heap.size wr).alloc (Nat.le_refl _) (.cells (chkA y.from_ y.to_ y.n y.of_ D y.data.length d) 39))).src
 have hob : b.length + y.data.length <= 1073741824 := by omega
 have hle : w1.heap.size <= (wr.alloc (.cells (chkA y.from_ y.to_ y.n y.of_ D y.data.length d) 39)).heap.size := by simp; omega
 clear hy hin hsn
 go_wp2_with (at_builtin; go_must (refine wpList_app (wr.alloc (.cells (chkA y.from_ y.to_ y.n y.of_ D y.data.length d) 39)) rfl _ _ 22 rfl elBytes w1.heap.size C b.length cc (b.map bv) rfl hoa D y.data.length d (y.data.map bv) rfl hsd (by simp) (bv_one _) hob hle ?_; intro C1 cc1 w3 hown hgr hbel hor))
 have HL : Hid (b.length + y.data.length = (b ++ y.data).length) := hD (by simp)
 have HO3 : Hid (Own w3 w1.heap.size 5 1 C1 (b ++ y.data).length cc1 ((b ++ y.data).map bv)) := hD (by rw [List.map_append, ← HL.out]; exact hown)
 have HB3 : Hid (Below w1.heap.size w1 w3) := hD ((HBR.out.alloc hsr _).trans hbel)
 clear hown hgr hbel hor hoa hsd hob hle
 go_roundw
 case rel => exact ⟨k + 1, C1, cc1, b ++ y.data, by omega, by go_num, by rw [HL.out], hD HSN.out.symm, by simp; omega, HO3, HB3⟩
 case measure => simp [intOf]; omega) : p := h
theorem x22 {p : Prop} (h : p := by
 go_wp2_with fail
 refine (K1.out _ (HS.out.stays HBA.out)).mono ?_
 rintro e w1 ⟨rfl, hb1⟩
 obtain ⟨a0r, a0f, a0n, a0c, a0z, a0l⟩ := kp (w.heap.size) (patA 0 0 0 0 0 none 0 0) hb1
 have HB1 := hD (HBA.out.trans (hb1.mono (by simp)))
 clear hb1
 go_wp2_with fail
 refine bodyPost_ret (rC (patA 0 0 0 0 0 none 0 0)) rfl ?_
 rw [HZ.out]
 exact ⟨none, 0, rfl, .const fun v => patIn_zero v, below_row HB1.out (by omega) _⟩) : p := h
theorem x28 {p : Prop} (h : p := by
 clear hb1
 go_wp2_with fail
 refine bodyPost_ret (rC (patA 0 0 0 0 0 none 0 0)) rfl ?_
 rw [HZ.out]
 exact ⟨none, 0, rfl, .const fun v => patIn_zero v, below_row HB1.out (by omega) _⟩) : p := h
theorem x68 {p : Prop} (h : p := by
 have h1 := HE1.out
 have h2 := HR.out
 have h3 : unpacked (dataOf (x :: t)) 400 = (u, eu) := by rw [← HXT.out]; exact hu
 rw [HXT.out] at h1 h2
 have h4 : ¬ ((x :: t).length : Int) < x.of_ := by rw [← HXT.out]; exact hfw
 refine ⟨fun e => ?_, fun e => ?_⟩
 ·rw [← h2, chkJoin_pack h1 h4 (by rw [h3]; exact e), h3]
 rw [← h2, chkJoin_read h1 h4 (by rw [h3]; exact e), h3, HXT.out]) : p := h
theorem x99 {p : Prop} (h : p := by
 have q1 : (eu != 0) = true := by simp [heu]
 have HZ := hD (HZ0.out.1 heu)
 clear heu
 go_wp2_with fail
 refine bodyPost_ret (rC (patA 0 0 0 0 0 none 0 0)) rfl ?_
 rw [HZ.out]
 exact ⟨none, 0, rfl, .const fun v => patIn_zero v, below_row HB4.out (by omega) _⟩) : p := h
theorem x174 {p : Prop} (h : p := by
 have h1 := HE1.out
 have h2 := HR.out
 rw [HXT.out] at h1 h2
 rw [← h2, chkJoin_few h1 (by rw [← HXT.out]; exact hfew)]) : p := h
theorem x206 {p : Prop} (h : p := by
 have := (chkCheck_ok.1 ((chkList_ok.1 he1).1 x hx)).2
 unfold Chk.full at this
 exact this.2.1) : p := h
theorem chkJoin_list {l : List Chk} (h : chkList l ≠ 0) : chkJoin l = (Pat.zero, chkList l) := by unfold chkJoin; rw [if_pos h]
theorem chkJoin_nil : chkJoin [] = (Pat.zero, 5) := by unfold chkJoin; rw [if_neg (by simp [chkList, listGo])]
theorem chkJoin_few (h : chkList (x :: r) = 0) (g : ((x :: r).length : Int) < x.of_) : chkJoin (x :: r) = (Pat.zero, 5) := by
 unfold chkJoin
 rw [if_neg (by simpa using h)]
 dsimp only
 rw [if_pos g]
theorem chkJoin_pack (h : chkList (x :: r) = 0) (g : ¬ ((x :: r).length : Int) < x.of_) (u : (unpacked (dataOf (x :: r)) 400).2 ≠ 0) : chkJoin (x :: r) = (Pat.zero, (unpacked (dataOf (x :: r)) 400).2) := by
 unfold chkJoin
 rw [if_neg (by simpa using h)]
 dsimp only
 rw [if_neg g, if_pos u]
theorem chkJoin_read (h : chkList (x :: r) = 0) (g : ¬ ((x :: r).length : Int) < x.of_) (u : (unpacked (dataOf (x :: r)) 400).2 = 0) : chkJoin (x :: r) = joinDone (x :: r) (patRead (unpacked (dataOf (x :: r)) 400).1) x := by
 unfold chkJoin
 rw [if_neg (by simpa using h)]
 dsimp only
 rw [if_neg g, if_neg (by simpa using u)]
theorem dataOf_snoc (l : List Chk) (x : Chk) : dataOf (l ++ [x]) = dataOf l ++ x.data := by simp [dataOf]
theorem dataOf_le : ∀ (l : List Chk), (∀ x ∈ l, x.data.length <= 16) -> (dataOf l).length <= 16 * l.length
 | [], _ => by simp [dataOf]
 | x :: l, h => by
  have ih := dataOf_le l (fun y hy => h y (by simp [hy]))
  have h1 := h x (by simp)
  have e : dataOf (x :: l) = x.data ++ dataOf l := by simp [dataOf]
  rw [e, List.length_append, List.length_cons]; omega
theorem patReadJ_calls (A : Option Addr) (c : Nat) (b : List UInt8) (w : World) (hc : b.length <= c) (hB : Bts w A b) :
  Calls Tryz.prog 86 #[.slice A b.length c] w (PaRet w (patRead b).1 (patRead b).2) := by
 by_cases h : 400 < b.length ∨ b.length < 8
 ·exact patRead_short A c b w h
 exact patRead_long A c b w hc (by omega) (by omega) hB
theorem chkJoin_calls (A : Option Addr) (c : Nat) (l : List Chk) (w : World) (hl : l.length <= 1048576) (hs : Chs w A l) :
  Calls Tryz.prog 45 #[.slice A l.length c] w (PaRet w (chkJoin l).1 (chkJoin l).2) := by
 have HS := hD hs
 have K1 := hD (fun w h => chkList_calls A c l w hl h)
 have hba := (Below.refl w.heap.size w).alloc (Nat.le_refl _) (.cells (patA 0 0 0 0 0 none 0 0) 35)
 have HBA := hD hba
 clear hs hba
 obtain ⟨r, hr⟩ : ∃ r, chkJoin l = r := ⟨_, rfl⟩
 rw [hr]
 have HR := hD hr
 clear hr
 by_cases he1 : chkList l ≠ 0
 ·have hz : r = (Pat.zero, chkList l) := by rw [← HR.out, chkJoin_list he1]
  have HZ := hD hz
  have q : (chkList l != 0) = true := by simp [he1]
  generalize chkList l = e1 at *
  clear he1 hz
  go_enter Tryz.func45, Tryz.ntmps45
  exact x22
 have he1 := Decidable.not_not.1 he1
 rw [he1] at K1
 have hll := chkList_len he1
 have hdl := dataOf_le l (fun x hx => by
  exact x206)
 have HE1 := hD he1
 clear he1
 rcases Nat.eq_zero_or_pos l.length with hl0 | hlp
 ·have hz : r = (Pat.zero, 5) := by rw [← HR.out, List.eq_nil_of_length_eq_zero hl0, chkJoin_nil]
  have HZ := hD hz
  have q : ((l.length : Int) == 0) = true := by simp [hl0]
  clear hz hl0
  go_enter Tryz.func45, Tryz.ntmps45
  exact x22
 obtain ⟨g, o, B0, d0, rfl, hgl, hat0, -⟩ := HS.out.chk (i := 0) hlp
 rw [Nat.zero_mul, Nat.add_zero] at hat0
 obtain ⟨x, t, hxt⟩ : ∃ x t, l = x :: t := by
  rcases l with _ | ⟨x, t⟩
  ·simp at hlp
  exact ⟨x, t, rfl⟩
 have hx0 : l[0] = x := by subst hxt; rfl
 rw [hx0] at hat0
 have HAT := hD hat0
 have HXT := hD hxt
 have q0 : ((l.length : Int) == 0) = false := beq_eq_false_iff_ne.2 (by omega)
 have nb0 : ¬ l.length = 0 := by omega
 have nb1 : ¬ l = [] := by rw [hxt]; simp
 have nb2 : ¬ (l.length : Int) <= 0 := by omega
 clear hat0 hx0 hxt
 by_cases hfew : (l.length : Int) < x.of_
 ·have hz : r = (Pat.zero, 5) := by
   exact x174
  have HZ := hD hz
  clear hz
  go_enter Tryz.func45, Tryz.ntmps45
  go_wp2_with fail
  refine (K1.out _ (HS.out.stays HBA.out)).mono ?_
  rintro e w1 ⟨rfl, hb1⟩
  obtain ⟨a0r, a0f, a0n, a0c, a0z, a0l⟩ := kp (w.heap.size) (patA 0 0 0 0 0 none 0 0) hb1
  have HB1 := hD (HBA.out.trans (hb1.mono (by simp)))
  obtain ⟨c0, c1, c2, c3, c4⟩ := HAT.out.stays hgl HB1.out
  exact x28
 have hfw : ¬ (l.length : Int) < x.of_ := hfew
 obtain ⟨u, eu, hu⟩ : ∃ u eu, unpacked (dataOf l) 400 = (u, eu) := ⟨_, _, rfl⟩
 have hz : (eu ≠ 0 -> r = (Pat.zero, eu)) ∧ (eu = 0 -> r = joinDone l (patRead u) x) := by
  exact x68
 have HZ0 := hD hz
 have HU := hD hu
 clear hz hu hfew
 go_enter Tryz.func45, Tryz.ntmps45
 go_wp2_with fail
 refine (K1.out _ (HS.out.stays HBA.out)).mono ?_
 rintro e w1 ⟨rfl, hb1⟩
 obtain ⟨a0r, a0f, a0n, a0c, a0z, a0l⟩ := kp (w.heap.size) (patA 0 0 0 0 0 none 0 0) hb1
 have HB1 := hD (HBA.out.trans (hb1.mono (by simp)))
 have HRF1 := hD (And.intro a0r a0f)
 have hs1 := HB1.out.size
 obtain ⟨c0, c1, c2, c3, c4⟩ := HAT.out.stays hgl HB1.out
 clear hb1
 go_wp2_with fail
 clear c0 c1 c2 c3 c4 a0r a0f a0n a0c a0z
 go_loopw [5, 31] (fun v i wr => ∃ (k : Nat) (C : Option Addr) (cc : Nat) (b : List UInt8), k <= l.length ∧ i = .int .i64 k ∧ v = .slice C b.length cc ∧ Hid (b = dataOf (l.take k)) ∧ b.length <= 16 * k ∧ Hid (Own wr w1.heap.size 5 1 C b.length cc (b.map bv)) ∧ Hid (Below w1.heap.size w1 wr)) (fun _ i _ => l.length - (intOf i).toNat)
 case atStart => exact ⟨0, none, 0, [], Nat.zero_le _, rfl, rfl, hD (by simp [dataOf]), by simp, hD (Own.nil_ _ _ _ _), hD (Below.refl _ _)⟩
 case round =>
  rename World => wr
  obtain ⟨k, C, cc, b, hk, rfl, rfl, HBK, hbl, HO, HBR⟩ := hrel
  have hsr := HBR.out.size
  have HBW : Hid (Below w.heap.size w wr) := hD (HB1.out.trans (HBR.out.mono hs1))
  by_cases hlt : k < l.length
  ·exact x7
  obtain rfl : k = l.length := by omega
  have dl : decide ((l.length : Int) < (l.length : Int)) = false := by simp
  have hbd : b = dataOf l := by rw [HBK.out, List.take_length]
  have hbt := HO.out.src.bts
  have hbc := HO.out.le
  obtain ⟨b0r, b0f, b0n, b0c, b0z, b0l⟩ := keep1 (g := w.heap.size) (cs := patA 0 0 0 0 0 none 0 0) HBR.out HRF1.out.1 (by go_simp) HRF1.out.2
  have K2 := hD (unpack_calls C cc b 400 wr hbc (by omega) ⟨by decide, by decide⟩ hbt)
  rw [hbd, HU.out, ← hbd] at K2
  clear hbd hbt
  go_wp2_with fail
  refine K2.out.mono ?_
  rintro e w4 ⟨A4, c4, rfl, ho4, hb4⟩
  obtain ⟨a0r, a0f, a0n, a0c, a0z, a0l'⟩ := keep1 (g := w.heap.size) (cs := patA 0 0 0 0 0 none 0 0) hb4 b0r (by go_simp) b0f
  have HB4 := bT HBW hb4
  have hbt4 := ho4.src.bts
  have hbc4 := ho4.le
  have HT4 := hD hbt4
  have hn4 : w.heap.size < w4.heap.size := a0l'
  clear hb4 ho4 hbt4 b0r b0f b0n b0c b0z b0l
  by_cases heu : eu ≠ 0
  ·exact x99
  have heu := Decidable.not_not.1 heu
  have hz := HZ0.out.2 heu
  subst heu
  obtain ⟨p, ep, hp⟩ : ∃ p ep, patRead u = (p, ep) := ⟨_, _, rfl⟩
  rw [hp] at hz
  have K3 := hD (patReadJ_calls A4 c4 u w4 hbc4 HT4.out)
  rw [hp] at K3
  dsimp only at K3
  have HZJ := hD hz
  clear hz hp
  go_wp2_with fail
  refine K3.out.mono ?_
  rintro e w5 ⟨A5, c5, rfl, hf5, hb5⟩
  obtain ⟨b0r, b0f, b0n, b0c, b0z, b0l⟩ := keep1 (g := w.heap.size) (cs := patA 0 0 0 0 0 none 0 0) hb5 a0r (by go_simp) a0f
  have HB5 := bT HB4 hb5
  have HF5 := hD hf5
  have hs4 := HB4.out.size
  have hs5 := hb5.size
  clear hb5 hf5 a0r a0f a0n a0c a0z a0l'
  have hba6 := (Below.refl w5.heap.size w5).alloc (Nat.le_refl _) (.cells (patA p.from_ p.to_ p.old p.new_ p.size A5 p.ops.length c5) 35)
  have HB6 := bT HB5 hba6
  have HF6 := hD (HF5.out.below hba6 (Nat.le_refl _))
  have HG9 : Hid ((w5.alloc (.cells (patA p.from_ p.to_ p.old p.new_ p.size A5 p.ops.length c5) 35)).heap[w5.heap.size]? = some (.cells (patA p.from_ p.to_ p.old p.new_ p.size A5 p.ops.length c5) 35 (0, 0))) := hD (blk_top rfl)
  obtain ⟨a0r, a0f, a0n, a0c, a0z, a0l'⟩ := keep1 (g := w.heap.size) (cs := patA 0 0 0 0 0 none 0 0) hba6 b0r (by go_simp) b0f
  have hs6 := hba6.size
  have hn9 : w.heap.size < w5.heap.size := b0l
  clear hba6 b0r b0f b0n b0c b0z b0l
  by_cases hep : ep ≠ 0
  ·have hz : r = (p, ep) := by rw [HZJ.out]; unfold joinDone; rw [if_neg (fun h => hep h.1)]
   have HZ := hD hz
   have q1 : (ep == 0) = false := by simp [hep]
   clear hep hz
   go_wp2_with fail
   generalize w5.alloc (.cells (patA p.from_ p.to_ p.old p.new_ p.size A5 p.ops.length c5) 35) = w6 at *
   generalize w5.heap.size = g9 at *
   obtain ⟨z1, z2, z3, z4, z5⟩ := blkFacts HG9.out (by simp [patA])
   go_quiet (fail)
   have ng : ¬ g9 = w.heap.size := by omega
   have ng2 : ¬ w.heap.size = g9 := by omega
   go_wp2_with fail
   refine bodyPost_ret (rC (patA p.from_ p.to_ p.old p.new_ p.size A5 p.ops.length c5)) rfl ?_
   rw [HZ.out]
   exact ⟨A5, c5, rfl, ((HF6.out.drewN _).row (by omega) _).mono (by omega), below_row (Below.drewN' HB6.out _) (Nat.le_refl _) _⟩
  exact x6
end Go.Proofs.YtefkfglkpebbmacGreat
