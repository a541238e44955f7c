/- Walks of functions, and plain words. No conditions. -/
import Derived.Test.YtefkfglkpebbmadGreatPE1
import Derived.Laws.IdiomStrings
import Derived.Laws.BytesArg
set_option linter.unusedVariables false
set_option linter.unusedSimpArgs false
set_option maxRecDepth 100000
set_option maxHeartbeats 40000000
namespace Go.Proofs.YtefkfglkpebbmadGreat
open Go.RowKit
theorem refPatCheckA_calls (A : Option Addr) (c : Nat) (f t o n sz : Int) (l : List Stp) (w : World) (hl : l.length ≤ 1048576) (hs : Sps w A l) :
  Calls Tryz.prog 59 #[.agg #[iv f, iv t, iv o, iv n, iv sz, .slice A l.length c]] w (RetB w (iv (patCheck ⟨f, t, o, n, sz, l⟩))) := by
 have hb : Below w.heap.size w (w.alloc (.cells #[iv f, iv t, iv o, iv n, iv sz, .slice A l.length c] 36)) := (Below.refl _ _).alloc (Nat.le_refl _) _
 have HB := Lib.hid hb
 have HC := Lib.hid (refCheck_calls A c l 64 sz _ hl (hs.stays hb))
 clear hb hs
 by_cases h0 : ¬ ((1 : Int) ≤ f ∧ f ≤ 30)
 ·have hz := Lib.hid (patCheck_bad (p := ⟨f, t, o, n, sz, l⟩) (by unfold Pat.range; dsimp only; omega))
  have I0 := Lib.hid (fun w => refIn_f (n := f) (a := 1) (b := 30) (by omega) w)
  clear HC h0
  go_enter Tryz.func59, Tryz.ntmps59
  go_wp2_with fail
  refine (I0.out _).mono ?_
  rintro e0 w0 ⟨rfl, rfl⟩
  go_wp2_with fail
  go_ret
  exact ⟨ret_int hz.out.symm, HB.out⟩
 have h0 := Decidable.not_not.1 h0
 have I0 := Lib.hid (fun w => refIn_t (n := f) (a := 1) (b := 30) h0 w)
 by_cases h1 : ¬ ((1 : Int) ≤ t ∧ t ≤ 30)
 ·have hz := Lib.hid (patCheck_bad (p := ⟨f, t, o, n, sz, l⟩) (by unfold Pat.range; dsimp only; omega))
  have I1 := Lib.hid (fun w => refIn_f (n := t) (a := 1) (b := 30) (by omega) w)
  clear HC h1
  go_enter Tryz.func59, Tryz.ntmps59
  go_wp2_with fail
  refine (I0.out _).mono ?_
  rintro e0 w0 ⟨rfl, rfl⟩
  go_wp2_with fail
  refine (I1.out _).mono ?_
  rintro e1 w1 ⟨rfl, rfl⟩
  go_wp2_with fail
  go_ret
  exact ⟨ret_int hz.out.symm, HB.out⟩
 have h1 := Decidable.not_not.1 h1
 have I1 := Lib.hid (fun w => refIn_t (n := t) (a := 1) (b := 30) h1 w)
 by_cases h2 : ¬ ((0 : Int) ≤ o ∧ o ≤ 65535)
 ·have hz := Lib.hid (patCheck_bad (p := ⟨f, t, o, n, sz, l⟩) (by unfold Pat.range; dsimp only; omega))
  have I2 := Lib.hid (fun w => refIn_f (n := o) (a := 0) (b := 65535) (by omega) w)
  clear HC h2
  go_enter Tryz.func59, Tryz.ntmps59
  go_wp2_with fail
  refine (I0.out _).mono ?_
  rintro e0 w0 ⟨rfl, rfl⟩
  go_wp2_with fail
  refine (I1.out _).mono ?_
  rintro e1 w1 ⟨rfl, rfl⟩
  go_wp2_with fail
  refine (I2.out _).mono ?_
  rintro e2 w2 ⟨rfl, rfl⟩
  go_wp2_with fail
  go_ret
  exact ⟨ret_int hz.out.symm, HB.out⟩
 have h2 := Decidable.not_not.1 h2
 have I2 := Lib.hid (fun w => refIn_t (n := o) (a := 0) (b := 65535) h2 w)
 by_cases h3 : ¬ ((0 : Int) ≤ n ∧ n ≤ 65535)
 ·have hz := Lib.hid (patCheck_bad (p := ⟨f, t, o, n, sz, l⟩) (by unfold Pat.range; dsimp only; omega))
  have I3 := Lib.hid (fun w => refIn_f (n := n) (a := 0) (b := 65535) (by omega) w)
  clear HC h3
  go_enter Tryz.func59, Tryz.ntmps59
  go_wp2_with fail
  refine (I0.out _).mono ?_
  rintro e0 w0 ⟨rfl, rfl⟩
  go_wp2_with fail
  refine (I1.out _).mono ?_
  rintro e1 w1 ⟨rfl, rfl⟩
  go_wp2_with fail
  refine (I2.out _).mono ?_
  rintro e2 w2 ⟨rfl, rfl⟩
  go_wp2_with fail
  refine (I3.out _).mono ?_
  rintro e3 w3 ⟨rfl, rfl⟩
  go_wp2_with fail
  go_ret
  exact ⟨ret_int hz.out.symm, HB.out⟩
 have h3 := Decidable.not_not.1 h3
 have I3 := Lib.hid (fun w => refIn_t (n := n) (a := 0) (b := 65535) h3 w)
 have hz := Lib.hid (patCheck_in (p := ⟨f, t, o, n, sz, l⟩) (by unfold Pat.range; dsimp only; omega))
 clear h0 h1 h2 h3
 go_enter Tryz.func59, Tryz.ntmps59
 go_wp2_with fail
 refine (I0.out _).mono ?_
 rintro e0 w0 ⟨rfl, rfl⟩
 go_wp2_with fail
 refine (I1.out _).mono ?_
 rintro e1 w1 ⟨rfl, rfl⟩
 go_wp2_with fail
 refine (I2.out _).mono ?_
 rintro e2 w2 ⟨rfl, rfl⟩
 go_wp2_with fail
 refine (I3.out _).mono ?_
 rintro e3 w3 ⟨rfl, rfl⟩
 go_wp2_with fail
 refine HC.out.mono ?_
 rintro e w9 ⟨rfl, hb1⟩
 have HB1 := Lib.hid (HB.out.trans (hb1.mono HB.out.size))
 clear hb1
 go_wp2_with fail
 go_ret
 exact ⟨ret_int hz.out.symm, HB1.out⟩
section
variable (A : Option Addr) (c : Nat) (l : List UInt8) (w : World)
theorem refSumOn_calls (s : Int) (hs : 0 ≤ s) (hs' : s ≤ 65520) (hl : l.length ≤ 67108864) (hr : Bts w A l) :
  Calls Tryz.prog 85 #[iv s, .slice A l.length c] w (Ret w (iv (sumOn s l))) := by
 go_enter Tryz.func85, Tryz.ntmps85
 go_wp2
 go_loop [5, 6, 7] (fun p n i => ∃ k : Nat, k ≤ l.length ∧ i = .int .i64 ((k : Int) - 1) ∧ p = .int .i64 (pw (l.length - k)) ∧ n = .int .i64 (sumOn 0 (l.drop k))) (fun _ _ i => (intOf i + 1).toNat)
 case atStart => exact ⟨l.length, Nat.le_refl _, rfl, by simp [pw], by simp [sumOn]⟩
 case round =>
  obtain ⟨k, hk, rfl, rfl, rfl⟩ := hrel
  have hb := sumOn_bd 0 (l.drop k) (by omega)
  have hp := pw_bd (l.length - k)
  by_cases hlt : 0 < k
  ·obtain ⟨j, rfl⟩ : ∃ j, k = j + 1 := ⟨k - 1, by omega⟩
   obtain ⟨b, o, rfl, hbs, hc⟩ := hr j (by omega)
   have hx := l[j].toNat_lt
   have hj : ((j : Int) + 1 - 1).toNat = j := by omega
   have HS : Hid (sumOn 0 (l.drop j) = (sumOn 0 (l.drop (j + 1)) + (l[j].toNat : Int) * pw (l.length - (j + 1))) % 65521) := sumOn_drop l j (by omega)
   have HP : Hid (pw (l.length - j) = pw (l.length - (j + 1)) * 31 % 65521) := by
    have := pw_succ (l.length - (j + 1))
    rwa [show l.length - (j + 1) + 1 = l.length - j by omega] at this
   have hm : 0 ≤ (l[j].toNat : Int) * pw (l.length - (j + 1)) := Int.mul_nonneg (by omega) hp.1
   have hm2 : (l[j].toNat : Int) * pw (l.length - (j + 1)) ≤ 256 * 65520 := Int.mul_le_mul (by omega) hp.2 hp.1 (by omega)
   go_wp2
   go_round
   case rel => exact ⟨j, by omega, rfl, by rw [HP.out], by rw [HS.out]⟩
   case measure => simp [intOf]
  ·obtain rfl : k = 0 := by omega
   have HF := Lib.hid (sumOn_ref s l (by omega))
   have hm : 0 ≤ s * pw l.length := Int.mul_nonneg hs (pw_bd _).1
   have hm2 : s * pw l.length ≤ 65520 * 65520 := Int.mul_le_mul hs' (pw_bd _).2 (pw_bd _).1 (by omega)
   simp only [Nat.sub_zero, List.drop_zero] at hb hp ⊢
   go_wp2
   go_ret
   exact ⟨ret_int (by rw [HF.out]), rfl⟩
theorem refSumOf_calls (hl : l.length ≤ 67108864) (hr : Bts w A l) :
  Calls Tryz.prog 60 #[.slice A l.length c] w (Ret w (iv (sumOn 1 l))) := by
 go_enter Tryz.func60, Tryz.ntmps60
 go_wp2_with (go_at_call 85; refine (refSumOn_calls A c l _ 1 (by omega) (by omega) hl hr).mono ?_; rintro e w' ⟨rfl, rfl⟩)
 go_ret
 exact ⟨rfl, rfl⟩
end
theorem refApplied_bad (A : Option Addr) (c : Nat) (old : List UInt8) (B : Option Addr) (d : Nat) (l : List Stp) (size : Int) (w : World) (ho : old.length ≤ 1048576) (hl : l.length ≤ 1048576) (hr : Sps w B l) (h : deltaCheck l old.length size ≠ 0) :
  Calls Tryz.prog 61 #[.slice A old.length c, .slice B l.length d, iv size] w (RetB w (.tuple #[.slice none 0 0, iv (deltaCheck l old.length size)])) := by
 have hb : (deltaCheck l old.length size != 0) = true := by simp [h]
 clear h
 go_enter Tryz.func61, Tryz.ntmps61
 go_wp2_with fail
 refine (refCheck_calls B d l old.length size w hl hr).mono ?_
 rintro e w1 ⟨rfl, hb1⟩
 go_wp2_with fail
 go_ret2
 exact ⟨rfl, hb1⟩
theorem refApplied_ok (A : Option Addr) (c : Nat) (old : List UInt8) (B : Option Addr) (d : Nat) (l : List Stp) (size : Int) (w : World) (hc : old.length ≤ c) (hA : Bts w A old) (hl : l.length ≤ 1048576) (hr : Sps w B l) (h : deltaCheck l old.length size = 0) :
  Calls Tryz.prog 61 #[.slice A old.length c, .slice B l.length d, iv size] w (ByRet2 w (applied old l) 0) := by
 have hd := deltaCheck_ok.1 h
 have hcc := refCheck_calls B d l old.length size w hl hr
 rw [h] at hcc
 have HC := Lib.hid hcc
 have HD := Lib.hid hd
 have HOLD := Lib.hid hA
 have HSP := Lib.hid hr
 have ho1 := hd.o1
 have hm := hd.many
 clear hcc h hd hA hr
 go_enter Tryz.func61, Tryz.ntmps61
 go_wp2_with fail
 refine HC.out.mono ?_
 rintro e w1 ⟨rfl, hb1⟩
 have HB1 := Lib.hid hb1
 have HO1 : Hid (Own w1 w.heap.size 5 1 none 0 0 (([] : List UInt8).map bv)) := Lib.hid (Own.nil_ _ _ _ _)
 clear hb1 HC
 go_wp2_with fail
 generalize hbase : w.heap.size = base at *
 have HBE := Lib.hid hbase
 clear hbase
 go_loopw [9, 23] (fun v i wr => ∃ (k : Nat) (C : Option Addr) (cc : Nat) (pre : List UInt8), k ≤ l.length ∧ i = .int .i64 k ∧ v = .slice C pre.length cc ∧ Hid (pre = applied old (l.take k)) ∧ Hid (Own wr base 5 1 C pre.length cc (pre.map bv)) ∧ Hid (Below base w wr)) (fun _ i _ => l.length - (intOf i).toNat)
 case atStart => exact ⟨0, none, 0, [], Nat.zero_le _, rfl, rfl, Lib.hid rfl, HO1, HB1⟩
 case round =>
  clear HO1 HB1
  rename World => wo
  obtain ⟨k, C, cc, pre, hk, rfl, rfl, HPRE, HO, HB⟩ := hrel
  by_cases hlt : k < l.length
  ·have hxo := HD.out.each l[k] (List.getElem_mem hlt)
   have hsum : (applied old (l.take (k + 1))).length ≤ 64 := by
    have h1 := (HD.out.take (k + 1)).2.2.2
    have h2 := applied_len (old := old) (l := l.take (k + 1)) (fun o ho => (HD.out.each o (List.mem_of_mem_take ho)).2)
    have h3 := HD.out.s1
    omega
   obtain ⟨sb, so, D, dc, rfl, hsb, p0, p1, p2, p3, p4, p5, -, -⟩ := (HSP.out.stays (HBE.out ▸ HB.out)).at_ hlt
   have hnext : applied old (l.take (k + 1)) = pre ++ l[k].piece old := by rw [List.take_succ_eq_append_getElem hlt, applied_append, applied_one, ← HPRE.out]
   rw [hnext] at hsum
   obtain ⟨x, hx⟩ : ∃ x, l[k] = x := ⟨_, rfl⟩
   rw [hx] at hxo hnext hsum p0 p1 p2 p3 p4 p5
   clear hx
   obtain ⟨at_, len, data⟩ := x
   obtain ⟨hform, hin⟩ := hxo
   unfold Stp.in_ at hin
   dsimp only at *
   obtain ⟨j1, j2, j3⟩ := hin
   obtain ⟨a, rfl⟩ := Int.eq_ofNat_of_zero_le j2
   obtain ⟨n, rfl⟩ := Int.eq_ofNat_of_zero_le j1
   have hpiece : (⟨(a : Int), (n : Int), data⟩ : Stp).piece old = (old.drop a).take n ++ data := rfl
   rw [hpiece] at hnext hsum
   have hone : pre ++ data ++ (old.drop a).take n = pre ++ ((old.drop a).take n ++ data) := by
    by_cases e : n = 0
    ·subst e; simp
    ·have := hform.2 (by simp; omega)
     simp at this
     rw [this]; simp
   rw [← hone] at hnext hsum
   have hnl : ((old.drop a).take n).length = n := by simp; omega
   have hsum2 : pre.length + data.length + n ≤ 64 := by rw [List.length_append, List.length_append, hnl] at hsum; exact hsum
   have HNX := Lib.hid hnext
   clear hnext hsum hform hone hpiece
   have dl : decide ((k : Int) < (l.length : Int)) = true := decide_eq_true (by omega)
   have hsw : base ≤ wo.heap.size := Nat.le_trans (Nat.le_of_eq HBE.out.symm) HB.out.size
   have hba : Below wo.heap.size wo (wo.alloc (.cells #[iv (a : Int), iv (n : Int), .slice D data.length dc] 122)) := (Below.refl _ _).alloc (Nat.le_refl _) _
   have hoa := HO.out.alloc (.cells #[iv (a : Int), iv (n : Int), .slice D data.length dc] 122)
   have hs1 := (p5.stays hba).src
   have hl1 : (data.map bv).length = data.length * 1 := by simp
   have hob : pre.length + data.length ≤ 1073741824 := by omega
   have hle : base ≤ (wo.alloc (.cells #[iv (a : Int), iv (n : Int), .slice D data.length dc] 122)).heap.size := by simp; omega
   have hgC : ∀ q, C.map (·.block) = some q → q < wo.heap.size := fun q e => (HO.out.block q e).2
   have hg0 : (wo.alloc (.cells #[iv (a : Int), iv (n : Int), .slice D data.length dc] 122)).heap[wo.heap.size]? = some (.cells #[iv (a : Int), iv (n : Int), .slice D data.length dc] 122 (0, 0)) := blk_top rfl
   go_wp2_with (at_builtin; go_must (refine wpList_app (wo.alloc (.cells #[iv (a : Int), iv (n : Int), .slice D data.length dc] 122)) rfl _ _ 23 rfl elBytes base C pre.length cc (pre.map bv) rfl hoa D data.length dc (data.map bv) rfl hs1 hl1 (bv_one _) hob hle ?_; intro C1 c1 w2 hown hgr hbel hor); (have hg2 := (hgr.block wo.heap.size (by simp) (fun e => by have := hgC _ e.symm; omega)).trans hg0); (have q1 : w2.cell? ⟨wo.heap.size, 1, none⟩ = some (iv (n : Int)) := by rw [cell_of_row _ _ _ _ _ _ hg2]; rfl))
   have HG2 := Lib.hid hg2
   have HB2 : Hid (Below base w w2) := Lib.hid ((HB.out.trans (hba.mono hsw)).trans hbel)
   have HO2 : Hid (Own w2 base 5 1 C1 (pre ++ data).length c1 ((pre ++ data).map bv)) := Lib.hid (by simpa using hown)
   have HC1 : Hid (∀ q, C1.map (·.block) = some q → q ≠ wo.heap.size) := Lib.hid (fun q e => by
    rcases hor with h | h
    ·rw [h] at e; have := hgC q e; omega
    ·rw [h] at e; injection e with e; simp at e; omega)
   clear hown hgr hbel hor hs1 hl1 hob hle hgC hg0 hg2 hoa hba p0 p1 p2 p3 p4 p5
   generalize hg : wo.heap.size = g at *
   have HGO : Hid (wo.heap.size = g) := Lib.hid hg
   clear hg
   have e0 : (pre ++ data).length = pre.length + data.length := by simp
   go_loopw [9, 33] (fun v i wr => ∃ (j : Nat) (C : Option Addr) (cc : Nat) (o1 : List UInt8), j ≤ n ∧ i = .int .i64 (j : Int) ∧ v = .slice C o1.length cc ∧ Hid (o1 = pre ++ data ++ (old.drop a).take j) ∧ Hid (o1.length = pre.length + data.length + j) ∧ Hid (Own wr base 5 1 C o1.length cc (o1.map bv)) ∧ Hid (∀ q, C.map (·.block) = some q → q ≠ g) ∧ Hid (wr.heap[g]? = some (.cells #[iv (a : Int), iv (n : Int), .slice D data.length dc] 122 (0, 0))) ∧ Hid (Below base w wr)) (fun _ i _ => n - (intOf i).toNat)
   case atStart => exact ⟨0, C1, c1, pre ++ data, Nat.zero_le _, rfl, by rw [e0], Lib.hid (by simp), Lib.hid (by simp), HO2, HC1, HG2, HB2⟩
   case round =>
    clear HO2 HC1 HG2 HB2 q1
    rename World => wi
    obtain ⟨j, C2, c2, o1, hj, rfl, rfl, HO1, HO1L, HOW, HCG, HG, HB3⟩ := hrel
    have ho1l : o1.length ≤ 64 := by have := HO1L.out; omega
    by_cases hjn : j < n
    ·have haj : a + j < old.length := by omega
     obtain ⟨ab, ao, rfl, hab, hxc⟩ := (HOLD.out.stays (HBE.out ▸ HB3.out)) (a + j) haj
     have HO1' : Hid (o1 ++ [old[a + j]] = pre ++ data ++ (old.drop a).take (j + 1)) := Lib.hid (by
      have hjl : j < (old.drop a).length := by simp; omega
      rw [List.take_succ_eq_append_getElem hjl, HO1.out]; simp)
     have q0 : wi.cell? ⟨g, 0, none⟩ = some (iv (a : Int)) := by rw [cell_of_row _ _ _ _ _ _ HG.out]; rfl
     have dl : decide ((j : Int) < (n : Int)) = true := decide_eq_true (by omega)
     have hw1 : IntKind.i64.wrap ((a : Int) + (j : Int)) = (a : Int) + (j : Int) := IntWalk.i64_in _ (by omega)
     have hw2 : IntKind.i64.wrap ((j : Int) + 1) = (j : Int) + 1 := IntWalk.i64_in _ (by omega)
     have hsi : base ≤ wi.heap.size := Nat.le_trans (Nat.le_of_eq HBE.out.symm) HB3.out.size
     have hoa := HOW.out.alloc (.cells #[bv old[a + j]] 5)
     have hs1 : Src (wi.alloc (.cells #[bv old[a + j]] 5)) (some ⟨wi.heap.size, 0, none⟩) [bv old[a + j]] := src_blk (blk_top rfl)
     have hob : o1.length + 1 ≤ 1073741824 := by omega
     have hle : base ≤ (wi.alloc (.cells #[bv old[a + j]] 5)).heap.size := by simp; omega
     go_wp2_with (at_builtin; go_must (refine wpList_app (wi.alloc (.cells #[bv old[a + j]] 5)) rfl _ _ 23 rfl elBytes base C2 o1.length c2 (o1.map bv) rfl hoa (some ⟨wi.heap.size, 0, none⟩) 1 1 [bv old[a + j]] rfl hs1 rfl (by simp [Value.oneCell']) hob hle ?_; intro C3 c3 w3 hown hgr hbel hor))
     have hgl : g < wi.heap.size := blk_lt HG.out
     have HG3 : Hid (w3.heap[g]? = some (.cells #[iv (a : Int), iv (n : Int), .slice D data.length dc] 122 (0, 0))) := Lib.hid ((hgr.block g (by simp; omega) (fun e => HCG.out g e.symm rfl)).trans ((Below.heap_alloc wi _ g hgl).trans HG.out))
     have HB4 : Hid (Below base w w3) := Lib.hid ((HB3.out.alloc hsi _).trans hbel)
     have HO4 : Hid (Own w3 base 5 1 C3 (o1 ++ [old[a + j]]).length c3 ((o1 ++ [old[a + j]]).map bv)) := Lib.hid (by simpa using hown)
     have HC4 : Hid (∀ q, C3.map (·.block) = some q → q ≠ g) := Lib.hid (fun q e => by
      rcases hor with h | h
      ·rw [h] at e; exact HCG.out q e
      ·rw [h] at e; injection e with e; simp at e; omega)
     have HL4 : Hid (o1.length + 1 = (o1 ++ [old[a + j]]).length) := Lib.hid (by simp)
     clear hown hgr hbel hor hs1 hob hle hoa q0 hxc
     go_roundw
     case rel => exact ⟨j + 1, C3, c3, o1 ++ [old[a + j]], by omega, by go_num, by rw [HL4.out], HO1', Lib.hid (by rw [← HL4.out, HO1L.out]; omega), HO4, HC4, HG3, HB4⟩
     case measure => simp [intOf]; omega
    ·obtain rfl : j = n := by omega
     have dl : decide ((j : Int) < (j : Int)) = false := by simp
     have hwk : IntKind.i64.wrap ((k : Int) + 1) = (k : Int) + 1 := IntWalk.i64_in _ (by omega)
     go_wp2_with fail
     go_roundw
     case rel => exact ⟨k + 1, C2, c2, o1, by omega, by go_num, rfl, Lib.hid (by rw [HNX.out, HO1.out]), HOW, HB3⟩
     case measure => simp [intOf]; omega
  ·obtain rfl : k = l.length := by omega
   have dl : decide ((l.length : Int) < (l.length : Int)) = false := by simp
   have hpre : pre = applied old l := by rw [HPRE.out, List.take_length]
   have HP := Lib.hid hpre
   clear hpre HPRE
   go_wp2_with fail
   go_ret2
   exact ⟨C, cc, by rw [← HP.out]; rfl, by rw [← HP.out]; exact HO.out.src.bts, by rw [← HP.out]; exact HO.out.le, HBE.out ▸ HB.out⟩
theorem refApplyAny_calls (A : Option Addr) (c : Nat) (old : List UInt8) (B : Option Addr) (d : Nat) (l : List Stp) (size : Int) (w : World) (hc : old.length ≤ c) (ho : old.length ≤ 1048576) (hA : Bts w A old) (hl : l.length ≤ 1048576) (hr : Sps w B l) :
  Calls Tryz.prog 61 #[.slice A old.length c, .slice B l.length d, iv size] w (ByRet2 w (axOf old l size).1 (axOf old l size).2) := by
 unfold axOf
 by_cases h : deltaCheck l old.length size = 0
 ·rw [if_neg (by simpa using h)]; exact refApplied_ok A c old B d l size w hc hA hl hr h
 ·rw [if_pos h]; exact (refApplied_bad A c old B d l size w ho hl hr h).mono fun _ _ => byRet2_nil
theorem conv_str (A : Option Addr) (c : Nat) (l : List UInt8) (w : World) (hc : l.length ≤ c) (h : Bts w A l) : (convert 23 9 (.slice A l.length c)).run Tryz.prog w = .ok (.string ⟨l.toArray⟩) w := by
 by_cases e : l = []
 ·subst e
  cases A with
  | none => exact run_convert_bytes_nil (P := Tryz.prog) w 23 5 Tryz.underlying23 Tryz.underlying5 0 c 9 Tryz.underlying9
  | some a => exact run_convert_bytes_back (P := Tryz.prog) w 23 9 5 a c [] Tryz.underlying23 Tryz.underlying5 Tryz.underlying9 (fun j hj => by simp at hj)
 ·obtain ⟨b, o, rfl, -, -⟩ := h 0 (by rcases l with _ | ⟨x, l⟩; exact absurd rfl e; simp)
  refine run_convert_bytes_back (P := Tryz.prog) w 23 9 5 ⟨b, o, none⟩ c l Tryz.underlying23 Tryz.underlying5 Tryz.underlying9 (fun j hj => ?_)
  obtain ⟨b', o', e, -, hc⟩ := h j hj
  injection e with e
  injection e with e1 e2
  subst e1 e2
  rw [show (⟨b, o, none⟩ : Addr).add j = ⟨b, o + j, none⟩ by simp [Addr.add]]
  exact hc
theorem bytesEqual_calls (A B : Option Addr) (c d : Nat) (l m : List UInt8) (w : World) (hc : l.length ≤ c) (hd : m.length ≤ d) (ha : Bts w A l) (hb : Bts w B m) :
  Calls Tryz.prog 9 #[.slice A l.length c, .slice B m.length d] w (Ret w (.bool (decide (l = m)))) := by
 have k1 := conv_str A c l w hc ha
 have k2 := conv_str B d m w hd hb
 go_enter Tryz.func9, Tryz.ntmps9
 go_wp2_with fail
 go_ret
 exact ⟨ret_bool (by by_cases e : l = m <;> simp [e]), rfl⟩
theorem refSame_calls (A B : Option Addr) (c d : Nat) (l m : List Stp) (w : World) (hl : l.length ≤ 1048576) (hm : m.length ≤ 1048576) (ha : Sps w A l) (hb : Sps w B m) :
  Calls Tryz.prog 72 #[.slice A l.length c, .slice B m.length d] w (RetB w (.bool (decide (l = m)))) := by
 by_cases hne : l.length = m.length
 ·have hdl : ((l.length : Int) != (m.length : Int)) = false := by simp [hne]
  have HE := Lib.hid hne
  have hm1 : l.length ≤ m.length := by omega
  have hm2 : m.length ≤ l.length := by omega
  clear hne
  have HA := Lib.hid ha
  have HB0 := Lib.hid hb
  clear ha hb
  go_enter Tryz.func72, Tryz.ntmps72
  go_wp2_with fail
  go_loopw [14] (fun i wr => ∃ k : Nat, k ≤ l.length ∧ i = .int .i64 k ∧ Hid (l.take k = m.take k) ∧ Hid (Below w.heap.size w wr)) (fun i _ => l.length - (intOf i).toNat)
  case atStart => exact ⟨0, Nat.zero_le _, rfl, Lib.hid rfl, Lib.hid (Below.refl _ _)⟩
  case round =>
   obtain ⟨k, hk, rfl, HT, HB⟩ := hrel
   by_cases hlt : k < l.length
   ·obtain ⟨b1, o1, B1, c1, rfl, hs1, p0, p1, p2, p3, p4, p5, -, -⟩ := (HA.out.stays HB.out).at_ hlt
    have hsz := HB.out.size
    have hbx : Below wr.heap.size wr (wr.alloc (.cells #[iv l[k].at_, iv l[k].len, .slice B1 l[k].data.length c1] 122)) := (Below.refl _ _).alloc (Nat.le_refl _) _
    obtain ⟨b2, o2, B2, c2, rfl, hs2, r0, r1, r2, r3, r4, r5, -, -⟩ := ((HB0.out.stays HB.out).stays hbx).at_ (i := k) (by omega)
    obtain ⟨b3, o3, B3, c3, e3, hs3, -⟩ := (HB0.out.stays HB.out).at_ (i := k) (by omega)
    injection e3 with e3
    injection e3 with e4 e5
    subst e4 e5
    have HBX := Lib.hid (HB.out.trans (hbx.mono hsz))
    have HX : Hid (l[k] = m[k]'(by omega) → l.take (k + 1) = m.take (k + 1)) := Lib.hid fun e => take_eq_succ HT.out hlt (by omega) e
    have HN : Hid (l[k] ≠ m[k]'(by omega) → l ≠ m) := Lib.hid fun e => ne_of_at hlt (by omega) e
    have p5x := p5.stays hbx
    generalize l[k] = x at *
    generalize m[k]'(by omega) = y at *
    obtain ⟨xa, xl, xd⟩ := x
    obtain ⟨ya, yl, yd⟩ := y
    dsimp only at *
    have HK : Hid (∀ w', Below (wr.alloc (.cells #[iv xa, iv xl, .slice B1 xd.length c1] 122)).heap.size (wr.alloc (.cells #[iv xa, iv xl, .slice B1 xd.length c1] 122)) w' → Calls Tryz.prog 9 #[.slice B1 xd.length c1, .slice B2 yd.length c2] w' (RetB w' (.bool (decide (xd = yd))))) :=
     Lib.hid fun w' hb => (bytesEqual_calls B1 B2 c1 c2 xd yd w' p3 r3 (p5x.stays hb) (r5.stays hb)).mono fun e w'' h => h.to
    clear p5 p5x r5 hbx HA HB0
    have hkm : k < m.length := by omega
    have hsx : wr.heap.size ≤ (wr.alloc (.cells #[iv xa, iv xl, .slice B1 xd.length c1] 122)).heap.size := by simp
    by_cases h1 : xa = ya
    ·subst h1
     by_cases h2 : xl = yl
     ·subst h2
      by_cases h3 : xd = yd
      ·subst h3
       have HC : Hid (∀ w', Below (wr.alloc (.cells #[iv xa, iv xl, .slice B1 xd.length c1] 122)).heap.size (wr.alloc (.cells #[iv xa, iv xl, .slice B1 xd.length c1] 122)) w' → Calls Tryz.prog 9 #[.slice B1 xd.length c1, .slice B2 xd.length c2] w' (RetB w' (.bool true))) := Lib.hid fun w' hb => by
        have := HK.out w' hb
        rwa [show decide (xd = xd) = true by simp] at this
       clear HK HN
       go_wp2_with fail
       refine wp_region_chain (by kernel_rfl) (some 19 :: some 20 :: some 21 :: some 22 :: some 23 :: some 24 :: some 25 :: some 26 :: some 27 :: some 28 :: some 29 :: some 30 :: some 31 :: some 32 :: some 33 :: some 34 :: some 35 :: some 36 :: some 37 :: some 38 :: some 39 :: some 40 :: some 41 :: some 42 :: some 43 :: some 44 :: some 45 :: some 46 :: some 47 :: []) (.pointer (some ⟨wr.heap.size, 0, none⟩) :: iv xa :: .slice (some ⟨b2, o2, none⟩) m.length d :: .int .i64 (k : Int) :: .pointer (some ⟨b2, o2 + k * 3, none⟩) :: .pointer (some ⟨b2, o2 + k * 3, none⟩) :: iv xa :: .bool false :: .bool false :: .pointer (some ⟨wr.heap.size, 1, none⟩) :: iv xl :: .slice (some ⟨b2, o2, none⟩) m.length d :: .int .i64 (k : Int) :: .pointer (some ⟨b2, o2 + k * 3, none⟩) :: .pointer (some ⟨b2, o2 + k * 3 + 1, none⟩) :: iv xl :: .bool false :: .bool false :: .bool false :: .pointer (some ⟨wr.heap.size, 2, none⟩) :: .slice B1 xd.length c1 :: .slice (some ⟨b2, o2, none⟩) m.length d :: .int .i64 (k : Int) :: .pointer (some ⟨b2, o2 + k * 3, none⟩) :: .pointer (some ⟨b2, o2 + k * 3 + 2, none⟩) :: .slice B2 xd.length c2 :: .bool true :: .bool false :: .bool false :: []) 49 rfl rfl (by decide +kernel) (by decide +kernel) (by decide +kernel) rfl ?_ ?_
       ·refine ⟨.inl ⟨rfl, fun done a wq hw h => ?_⟩, ?_⟩
        ·have e6 := ch_old (t := 6) (v := .pointer (some ⟨wr.heap.size, 0, none⟩)) h rfl rfl; refine ch_pure ?_; go_simp
        refine ⟨.inl ⟨rfl, fun done a wq hw h => ?_⟩, ?_⟩
        ·have e19 := ch_new (i := 0) (t := 19) h (hw 0 (by decide)) rfl rfl; have hc := (h.bel.cell (p := ⟨wr.heap.size, 0, none⟩) (by simp)).trans (show (wr.alloc (.cells #[iv xa, iv xl, .slice B1 xd.length c1] 122)).cell? ⟨wr.heap.size, 0, none⟩ = some (iv xa) by go_simp); refine ch_pure ?_; go_simp
        refine ⟨.inl ⟨rfl, fun done a wq hw h => ?_⟩, ?_⟩
        ·have e1 := ch_old (t := 1) (v := .slice (some ⟨b2, o2, none⟩) m.length d) h rfl rfl; exact ch_move (ch_ev e1)
        refine ⟨.inl ⟨rfl, fun done a wq hw h => ?_⟩, ?_⟩
        ·have e5 := ch_old (t := 5) (v := .int .i64 (k : Int)) h rfl rfl; exact ch_move (ch_ev e5)
        refine ⟨.inl ⟨rfl, fun done a wq hw h => ?_⟩, ?_⟩
        ·have e21 := ch_new (i := 2) (t := 21) h (hw 2 (by decide)) rfl rfl; have e22 := ch_new (i := 3) (t := 22) h (hw 3 (by decide)) rfl rfl; refine ch_pure ?_; go_simp
        refine ⟨.inl ⟨rfl, fun done a wq hw h => ?_⟩, ?_⟩
        ·have e23 := ch_new (i := 4) (t := 23) h (hw 4 (by decide)) rfl rfl; refine ch_pure ?_; go_simp
        refine ⟨.inl ⟨rfl, fun done a wq hw h => ?_⟩, ?_⟩
        ·have e24 := ch_new (i := 5) (t := 24) h (hw 5 (by decide)) rfl rfl; have hc := (h.bel.cell (p := ⟨b2, o2 + k * 3, none⟩) (by simp; omega)).trans (show (wr.alloc (.cells #[iv xa, iv xl, .slice B1 xd.length c1] 122)).cell? _ = some (iv xa) from r0); refine ch_pure ?_; go_simp
        refine ⟨.inl ⟨rfl, fun done a wq hw h => ?_⟩, ?_⟩
        ·have e20 := ch_new (i := 1) (t := 20) h (hw 1 (by decide)) rfl rfl; have e25 := ch_new (i := 6) (t := 25) h (hw 6 (by decide)) rfl rfl; exact ch_neq_int (by kernel_rfl) (ch_ev e20) (ch_ev e25) (by simp)
        refine ⟨.inl ⟨rfl, fun done a wq hw h => ?_⟩, ?_⟩
        ·have e26 := ch_new (i := 7) (t := 26) h (hw 7 (by decide)) rfl rfl; exact ch_move (ch_ev e26)
        refine ⟨.inl ⟨rfl, fun done a wq hw h => ?_⟩, ?_⟩
        ·have e6 := ch_old (t := 6) (v := .pointer (some ⟨wr.heap.size, 0, none⟩)) h rfl rfl; refine ch_pure ?_; go_simp
        refine ⟨.inl ⟨rfl, fun done a wq hw h => ?_⟩, ?_⟩
        ·have e28 := ch_new (i := 9) (t := 28) h (hw 9 (by decide)) rfl rfl; have hc := (h.bel.cell (p := ⟨wr.heap.size, 1, none⟩) (by simp)).trans (show (wr.alloc (.cells #[iv xa, iv xl, .slice B1 xd.length c1] 122)).cell? ⟨wr.heap.size, 1, none⟩ = some (iv xl) by go_simp); refine ch_pure ?_; go_simp
        refine ⟨.inl ⟨rfl, fun done a wq hw h => ?_⟩, ?_⟩
        ·have e1 := ch_old (t := 1) (v := .slice (some ⟨b2, o2, none⟩) m.length d) h rfl rfl; exact ch_move (ch_ev e1)
        refine ⟨.inl ⟨rfl, fun done a wq hw h => ?_⟩, ?_⟩
        ·have e5 := ch_old (t := 5) (v := .int .i64 (k : Int)) h rfl rfl; exact ch_move (ch_ev e5)
        refine ⟨.inl ⟨rfl, fun done a wq hw h => ?_⟩, ?_⟩
        ·have e30 := ch_new (i := 11) (t := 30) h (hw 11 (by decide)) rfl rfl; have e31 := ch_new (i := 12) (t := 31) h (hw 12 (by decide)) rfl rfl; refine ch_pure ?_; go_simp
        refine ⟨.inl ⟨rfl, fun done a wq hw h => ?_⟩, ?_⟩
        ·have e32 := ch_new (i := 13) (t := 32) h (hw 13 (by decide)) rfl rfl; refine ch_pure ?_; go_simp
        refine ⟨.inl ⟨rfl, fun done a wq hw h => ?_⟩, ?_⟩
        ·have e33 := ch_new (i := 14) (t := 33) h (hw 14 (by decide)) rfl rfl; have hc := (h.bel.cell (p := ⟨b2, o2 + k * 3 + 1, none⟩) (by simp; omega)).trans (show (wr.alloc (.cells #[iv xa, iv xl, .slice B1 xd.length c1] 122)).cell? _ = some (iv xl) from r1); refine ch_pure ?_; go_simp
        refine ⟨.inl ⟨rfl, fun done a wq hw h => ?_⟩, ?_⟩
        ·have e29 := ch_new (i := 10) (t := 29) h (hw 10 (by decide)) rfl rfl; have e34 := ch_new (i := 15) (t := 34) h (hw 15 (by decide)) rfl rfl; exact ch_neq_int (by kernel_rfl) (ch_ev e29) (ch_ev e34) (by simp)
        refine ⟨.inl ⟨rfl, fun done a wq hw h => ?_⟩, ?_⟩
        ·have e27 := ch_new (i := 8) (t := 27) h (hw 8 (by decide)) rfl rfl; have e35 := ch_new (i := 16) (t := 35) h (hw 16 (by decide)) rfl rfl; exact ch_pick_f e27 (ch_ev e35)
        refine ⟨.inl ⟨rfl, fun done a wq hw h => ?_⟩, ?_⟩
        ·have e36 := ch_new (i := 17) (t := 36) h (hw 17 (by decide)) rfl rfl; exact ch_move (ch_ev e36)
        refine ⟨.inl ⟨rfl, fun done a wq hw h => ?_⟩, ?_⟩
        ·have e6 := ch_old (t := 6) (v := .pointer (some ⟨wr.heap.size, 0, none⟩)) h rfl rfl; refine ch_pure ?_; go_simp
        refine ⟨.inl ⟨rfl, fun done a wq hw h => ?_⟩, ?_⟩
        ·have e38 := ch_new (i := 19) (t := 38) h (hw 19 (by decide)) rfl rfl; have hc := (h.bel.cell (p := ⟨wr.heap.size, 2, none⟩) (by simp)).trans (show (wr.alloc (.cells #[iv xa, iv xl, .slice B1 xd.length c1] 122)).cell? ⟨wr.heap.size, 2, none⟩ = some (.slice B1 xd.length c1) by go_simp); refine ch_pure ?_; go_simp
        refine ⟨.inl ⟨rfl, fun done a wq hw h => ?_⟩, ?_⟩
        ·have e1 := ch_old (t := 1) (v := .slice (some ⟨b2, o2, none⟩) m.length d) h rfl rfl; exact ch_move (ch_ev e1)
        refine ⟨.inl ⟨rfl, fun done a wq hw h => ?_⟩, ?_⟩
        ·have e5 := ch_old (t := 5) (v := .int .i64 (k : Int)) h rfl rfl; exact ch_move (ch_ev e5)
        refine ⟨.inl ⟨rfl, fun done a wq hw h => ?_⟩, ?_⟩
        ·have e40 := ch_new (i := 21) (t := 40) h (hw 21 (by decide)) rfl rfl; have e41 := ch_new (i := 22) (t := 41) h (hw 22 (by decide)) rfl rfl; refine ch_pure ?_; go_simp
        refine ⟨.inl ⟨rfl, fun done a wq hw h => ?_⟩, ?_⟩
        ·have e42 := ch_new (i := 23) (t := 42) h (hw 23 (by decide)) rfl rfl; refine ch_pure ?_; go_simp
        refine ⟨.inl ⟨rfl, fun done a wq hw h => ?_⟩, ?_⟩
        ·have e43 := ch_new (i := 24) (t := 43) h (hw 24 (by decide)) rfl rfl; have hc := (h.bel.cell (p := ⟨b2, o2 + k * 3 + 2, none⟩) (by simp; omega)).trans (show (wr.alloc (.cells #[iv xa, iv xl, .slice B1 xd.length c1] 122)).cell? _ = some (.slice B2 xd.length c2) from r2); refine ch_pure ?_; go_simp
        refine ⟨.inl ⟨rfl, fun done a wq hw h => ?_⟩, ?_⟩
        ·have e39 := ch_new (i := 20) (t := 39) h (hw 20 (by decide)) rfl rfl; have e44 := ch_new (i := 25) (t := 44) h (hw 25 (by decide)) rfl rfl; exact ch_call (by go_simp) (by go_simp) (HC.out _ ((Below.refl _ _).drew.trans h.bel))
        refine ⟨.inl ⟨rfl, fun done a wq hw h => ?_⟩, ?_⟩
        ·have e45 := ch_new (i := 26) (t := 45) h (hw 26 (by decide)) rfl rfl; refine ch_pure ?_; go_simp
        refine ⟨.inl ⟨rfl, fun done a wq hw h => ?_⟩, ?_⟩
        ·have e37 := ch_new (i := 18) (t := 37) h (hw 18 (by decide)) rfl rfl; have e46 := ch_new (i := 27) (t := 46) h (hw 27 (by decide)) rfl rfl; exact ch_pick_f e37 (ch_ev e46)
        exact trivial
       intro w1 hb
       have HB1 := Lib.hid (HBX.out.trans (hb.mono (by simp; omega)))
       clear hb r0 r1 r2
       simp only [putAll_some, putAll_none, putAll_nil, List.getElem?_cons_zero, List.getElem?_cons_succ, List.setIfInBounds_toArray, List.set_cons_zero, List.set_cons_succ]
       go_wp2_with fail
       go_roundw
       case rel => exact ⟨k + 1, by omega, by go_num, Lib.hid (by first | exact HX.out trivial | exact HX.out rfl), HB1⟩
       case measure => simp [intOf]; omega
      ·have HC : Hid (∀ w', Below (wr.alloc (.cells #[iv xa, iv xl, .slice B1 xd.length c1] 122)).heap.size (wr.alloc (.cells #[iv xa, iv xl, .slice B1 xd.length c1] 122)) w' → Calls Tryz.prog 9 #[.slice B1 xd.length c1, .slice B2 yd.length c2] w' (RetB w' (.bool false))) := Lib.hid fun w' hb => by
        have := HK.out w' hb
        rwa [show decide (xd = yd) = false by simp [h3]] at this
       have HNE : Hid ((⟨xa, xl, xd⟩ : Stp) ≠ ⟨xa, xl, yd⟩) := Lib.hid fun e => by injection e; contradiction
       clear HK HX h3
       go_wp2_with fail
       refine wp_region_chain (by kernel_rfl) (some 19 :: some 20 :: some 21 :: some 22 :: some 23 :: some 24 :: some 25 :: some 26 :: some 27 :: some 28 :: some 29 :: some 30 :: some 31 :: some 32 :: some 33 :: some 34 :: some 35 :: some 36 :: some 37 :: some 38 :: some 39 :: some 40 :: some 41 :: some 42 :: some 43 :: some 44 :: some 45 :: some 46 :: some 47 :: []) (.pointer (some ⟨wr.heap.size, 0, none⟩) :: iv xa :: .slice (some ⟨b2, o2, none⟩) m.length d :: .int .i64 (k : Int) :: .pointer (some ⟨b2, o2 + k * 3, none⟩) :: .pointer (some ⟨b2, o2 + k * 3, none⟩) :: iv xa :: .bool false :: .bool false :: .pointer (some ⟨wr.heap.size, 1, none⟩) :: iv xl :: .slice (some ⟨b2, o2, none⟩) m.length d :: .int .i64 (k : Int) :: .pointer (some ⟨b2, o2 + k * 3, none⟩) :: .pointer (some ⟨b2, o2 + k * 3 + 1, none⟩) :: iv xl :: .bool false :: .bool false :: .bool false :: .pointer (some ⟨wr.heap.size, 2, none⟩) :: .slice B1 xd.length c1 :: .slice (some ⟨b2, o2, none⟩) m.length d :: .int .i64 (k : Int) :: .pointer (some ⟨b2, o2 + k * 3, none⟩) :: .pointer (some ⟨b2, o2 + k * 3 + 2, none⟩) :: .slice B2 yd.length c2 :: .bool false :: .bool true :: .bool true :: []) 49 rfl rfl (by decide +kernel) (by decide +kernel) (by decide +kernel) rfl ?_ ?_
       ·refine ⟨.inl ⟨rfl, fun done a wq hw h => ?_⟩, ?_⟩
        ·have e6 := ch_old (t := 6) (v := .pointer (some ⟨wr.heap.size, 0, none⟩)) h rfl rfl; refine ch_pure ?_; go_simp
        refine ⟨.inl ⟨rfl, fun done a wq hw h => ?_⟩, ?_⟩
        ·have e19 := ch_new (i := 0) (t := 19) h (hw 0 (by decide)) rfl rfl; have hc := (h.bel.cell (p := ⟨wr.heap.size, 0, none⟩) (by simp)).trans (show (wr.alloc (.cells #[iv xa, iv xl, .slice B1 xd.length c1] 122)).cell? ⟨wr.heap.size, 0, none⟩ = some (iv xa) by go_simp); refine ch_pure ?_; go_simp
        refine ⟨.inl ⟨rfl, fun done a wq hw h => ?_⟩, ?_⟩
        ·have e1 := ch_old (t := 1) (v := .slice (some ⟨b2, o2, none⟩) m.length d) h rfl rfl; exact ch_move (ch_ev e1)
        refine ⟨.inl ⟨rfl, fun done a wq hw h => ?_⟩, ?_⟩
        ·have e5 := ch_old (t := 5) (v := .int .i64 (k : Int)) h rfl rfl; exact ch_move (ch_ev e5)
        refine ⟨.inl ⟨rfl, fun done a wq hw h => ?_⟩, ?_⟩
        ·have e21 := ch_new (i := 2) (t := 21) h (hw 2 (by decide)) rfl rfl; have e22 := ch_new (i := 3) (t := 22) h (hw 3 (by decide)) rfl rfl; refine ch_pure ?_; go_simp
        refine ⟨.inl ⟨rfl, fun done a wq hw h => ?_⟩, ?_⟩
        ·have e23 := ch_new (i := 4) (t := 23) h (hw 4 (by decide)) rfl rfl; refine ch_pure ?_; go_simp
        refine ⟨.inl ⟨rfl, fun done a wq hw h => ?_⟩, ?_⟩
        ·have e24 := ch_new (i := 5) (t := 24) h (hw 5 (by decide)) rfl rfl; have hc := (h.bel.cell (p := ⟨b2, o2 + k * 3, none⟩) (by simp; omega)).trans (show (wr.alloc (.cells #[iv xa, iv xl, .slice B1 xd.length c1] 122)).cell? _ = some (iv xa) from r0); refine ch_pure ?_; go_simp
        refine ⟨.inl ⟨rfl, fun done a wq hw h => ?_⟩, ?_⟩
        ·have e20 := ch_new (i := 1) (t := 20) h (hw 1 (by decide)) rfl rfl; have e25 := ch_new (i := 6) (t := 25) h (hw 6 (by decide)) rfl rfl; exact ch_neq_int (by kernel_rfl) (ch_ev e20) (ch_ev e25) (by simp)
        refine ⟨.inl ⟨rfl, fun done a wq hw h => ?_⟩, ?_⟩
        ·have e26 := ch_new (i := 7) (t := 26) h (hw 7 (by decide)) rfl rfl; exact ch_move (ch_ev e26)
        refine ⟨.inl ⟨rfl, fun done a wq hw h => ?_⟩, ?_⟩
        ·have e6 := ch_old (t := 6) (v := .pointer (some ⟨wr.heap.size, 0, none⟩)) h rfl rfl; refine ch_pure ?_; go_simp
        refine ⟨.inl ⟨rfl, fun done a wq hw h => ?_⟩, ?_⟩
        ·have e28 := ch_new (i := 9) (t := 28) h (hw 9 (by decide)) rfl rfl; have hc := (h.bel.cell (p := ⟨wr.heap.size, 1, none⟩) (by simp)).trans (show (wr.alloc (.cells #[iv xa, iv xl, .slice B1 xd.length c1] 122)).cell? ⟨wr.heap.size, 1, none⟩ = some (iv xl) by go_simp); refine ch_pure ?_; go_simp
        refine ⟨.inl ⟨rfl, fun done a wq hw h => ?_⟩, ?_⟩
        ·have e1 := ch_old (t := 1) (v := .slice (some ⟨b2, o2, none⟩) m.length d) h rfl rfl; exact ch_move (ch_ev e1)
        refine ⟨.inl ⟨rfl, fun done a wq hw h => ?_⟩, ?_⟩
        ·have e5 := ch_old (t := 5) (v := .int .i64 (k : Int)) h rfl rfl; exact ch_move (ch_ev e5)
        refine ⟨.inl ⟨rfl, fun done a wq hw h => ?_⟩, ?_⟩
        ·have e30 := ch_new (i := 11) (t := 30) h (hw 11 (by decide)) rfl rfl; have e31 := ch_new (i := 12) (t := 31) h (hw 12 (by decide)) rfl rfl; refine ch_pure ?_; go_simp
        refine ⟨.inl ⟨rfl, fun done a wq hw h => ?_⟩, ?_⟩
        ·have e32 := ch_new (i := 13) (t := 32) h (hw 13 (by decide)) rfl rfl; refine ch_pure ?_; go_simp
        refine ⟨.inl ⟨rfl, fun done a wq hw h => ?_⟩, ?_⟩
        ·have e33 := ch_new (i := 14) (t := 33) h (hw 14 (by decide)) rfl rfl; have hc := (h.bel.cell (p := ⟨b2, o2 + k * 3 + 1, none⟩) (by simp; omega)).trans (show (wr.alloc (.cells #[iv xa, iv xl, .slice B1 xd.length c1] 122)).cell? _ = some (iv xl) from r1); refine ch_pure ?_; go_simp
        refine ⟨.inl ⟨rfl, fun done a wq hw h => ?_⟩, ?_⟩
        ·have e29 := ch_new (i := 10) (t := 29) h (hw 10 (by decide)) rfl rfl; have e34 := ch_new (i := 15) (t := 34) h (hw 15 (by decide)) rfl rfl; exact ch_neq_int (by kernel_rfl) (ch_ev e29) (ch_ev e34) (by simp)
        refine ⟨.inl ⟨rfl, fun done a wq hw h => ?_⟩, ?_⟩
        ·have e27 := ch_new (i := 8) (t := 27) h (hw 8 (by decide)) rfl rfl; have e35 := ch_new (i := 16) (t := 35) h (hw 16 (by decide)) rfl rfl; exact ch_pick_f e27 (ch_ev e35)
        refine ⟨.inl ⟨rfl, fun done a wq hw h => ?_⟩, ?_⟩
        ·have e36 := ch_new (i := 17) (t := 36) h (hw 17 (by decide)) rfl rfl; exact ch_move (ch_ev e36)
        refine ⟨.inl ⟨rfl, fun done a wq hw h => ?_⟩, ?_⟩
        ·have e6 := ch_old (t := 6) (v := .pointer (some ⟨wr.heap.size, 0, none⟩)) h rfl rfl; refine ch_pure ?_; go_simp
        refine ⟨.inl ⟨rfl, fun done a wq hw h => ?_⟩, ?_⟩
        ·have e38 := ch_new (i := 19) (t := 38) h (hw 19 (by decide)) rfl rfl; have hc := (h.bel.cell (p := ⟨wr.heap.size, 2, none⟩) (by simp)).trans (show (wr.alloc (.cells #[iv xa, iv xl, .slice B1 xd.length c1] 122)).cell? ⟨wr.heap.size, 2, none⟩ = some (.slice B1 xd.length c1) by go_simp); refine ch_pure ?_; go_simp
        refine ⟨.inl ⟨rfl, fun done a wq hw h => ?_⟩, ?_⟩
        ·have e1 := ch_old (t := 1) (v := .slice (some ⟨b2, o2, none⟩) m.length d) h rfl rfl; exact ch_move (ch_ev e1)
        refine ⟨.inl ⟨rfl, fun done a wq hw h => ?_⟩, ?_⟩
        ·have e5 := ch_old (t := 5) (v := .int .i64 (k : Int)) h rfl rfl; exact ch_move (ch_ev e5)
        refine ⟨.inl ⟨rfl, fun done a wq hw h => ?_⟩, ?_⟩
        ·have e40 := ch_new (i := 21) (t := 40) h (hw 21 (by decide)) rfl rfl; have e41 := ch_new (i := 22) (t := 41) h (hw 22 (by decide)) rfl rfl; refine ch_pure ?_; go_simp
        refine ⟨.inl ⟨rfl, fun done a wq hw h => ?_⟩, ?_⟩
        ·have e42 := ch_new (i := 23) (t := 42) h (hw 23 (by decide)) rfl rfl; refine ch_pure ?_; go_simp
        refine ⟨.inl ⟨rfl, fun done a wq hw h => ?_⟩, ?_⟩
        ·have e43 := ch_new (i := 24) (t := 43) h (hw 24 (by decide)) rfl rfl; have hc := (h.bel.cell (p := ⟨b2, o2 + k * 3 + 2, none⟩) (by simp; omega)).trans (show (wr.alloc (.cells #[iv xa, iv xl, .slice B1 xd.length c1] 122)).cell? _ = some (.slice B2 yd.length c2) from r2); refine ch_pure ?_; go_simp
        refine ⟨.inl ⟨rfl, fun done a wq hw h => ?_⟩, ?_⟩
        ·have e39 := ch_new (i := 20) (t := 39) h (hw 20 (by decide)) rfl rfl; have e44 := ch_new (i := 25) (t := 44) h (hw 25 (by decide)) rfl rfl; exact ch_call (by go_simp) (by go_simp) (HC.out _ ((Below.refl _ _).drew.trans h.bel))
        refine ⟨.inl ⟨rfl, fun done a wq hw h => ?_⟩, ?_⟩
        ·have e45 := ch_new (i := 26) (t := 45) h (hw 26 (by decide)) rfl rfl; refine ch_pure ?_; go_simp
        refine ⟨.inl ⟨rfl, fun done a wq hw h => ?_⟩, ?_⟩
        ·have e37 := ch_new (i := 18) (t := 37) h (hw 18 (by decide)) rfl rfl; have e46 := ch_new (i := 27) (t := 46) h (hw 27 (by decide)) rfl rfl; exact ch_pick_f e37 (ch_ev e46)
        exact trivial
       intro w1 hb
       have HB1 := Lib.hid (HBX.out.trans (hb.mono (by simp; omega)))
       clear hb r0 r1 r2
       simp only [putAll_some, putAll_none, putAll_nil, List.getElem?_cons_zero, List.getElem?_cons_succ, List.setIfInBounds_toArray, List.set_cons_zero, List.set_cons_succ]
       go_wp2_with fail
       go_ret
       exact ⟨ret_bool (decide_eq_false (HN.out HNE.out)).symm, HB1.out⟩
     ·have HNE : Hid ((⟨xa, xl, xd⟩ : Stp) ≠ ⟨xa, yl, yd⟩) := Lib.hid fun e => by injection e; contradiction
      clear HK HX
      go_wp2_with fail
      refine wp_region_chain (by kernel_rfl) (some 19 :: some 20 :: some 21 :: some 22 :: some 23 :: some 24 :: some 25 :: some 26 :: some 27 :: some 28 :: some 29 :: some 30 :: some 31 :: some 32 :: some 33 :: some 34 :: some 35 :: some 36 :: some 37 :: some 38 :: some 39 :: some 40 :: some 41 :: some 42 :: some 43 :: some 44 :: some 45 :: some 46 :: some 47 :: []) (.pointer (some ⟨wr.heap.size, 0, none⟩) :: iv xa :: .slice (some ⟨b2, o2, none⟩) m.length d :: .int .i64 (k : Int) :: .pointer (some ⟨b2, o2 + k * 3, none⟩) :: .pointer (some ⟨b2, o2 + k * 3, none⟩) :: iv xa :: .bool false :: .bool false :: .pointer (some ⟨wr.heap.size, 1, none⟩) :: iv xl :: .slice (some ⟨b2, o2, none⟩) m.length d :: .int .i64 (k : Int) :: .pointer (some ⟨b2, o2 + k * 3, none⟩) :: .pointer (some ⟨b2, o2 + k * 3 + 1, none⟩) :: iv yl :: .bool true :: .bool true :: .bool true :: undef :: undef :: undef :: undef :: undef :: undef :: undef :: undef :: undef :: .bool true :: []) 49 rfl rfl (by decide +kernel) (by decide +kernel) (by decide +kernel) rfl ?_ ?_
      ·refine ⟨.inl ⟨rfl, fun done a wq hw h => ?_⟩, ?_⟩
       ·have e6 := ch_old (t := 6) (v := .pointer (some ⟨wr.heap.size, 0, none⟩)) h rfl rfl; refine ch_pure ?_; go_simp
       refine ⟨.inl ⟨rfl, fun done a wq hw h => ?_⟩, ?_⟩
       ·have e19 := ch_new (i := 0) (t := 19) h (hw 0 (by decide)) rfl rfl; have hc := (h.bel.cell (p := ⟨wr.heap.size, 0, none⟩) (by simp)).trans (show (wr.alloc (.cells #[iv xa, iv xl, .slice B1 xd.length c1] 122)).cell? ⟨wr.heap.size, 0, none⟩ = some (iv xa) by go_simp); refine ch_pure ?_; go_simp
       refine ⟨.inl ⟨rfl, fun done a wq hw h => ?_⟩, ?_⟩
       ·have e1 := ch_old (t := 1) (v := .slice (some ⟨b2, o2, none⟩) m.length d) h rfl rfl; exact ch_move (ch_ev e1)
       refine ⟨.inl ⟨rfl, fun done a wq hw h => ?_⟩, ?_⟩
       ·have e5 := ch_old (t := 5) (v := .int .i64 (k : Int)) h rfl rfl; exact ch_move (ch_ev e5)
       refine ⟨.inl ⟨rfl, fun done a wq hw h => ?_⟩, ?_⟩
       ·have e21 := ch_new (i := 2) (t := 21) h (hw 2 (by decide)) rfl rfl; have e22 := ch_new (i := 3) (t := 22) h (hw 3 (by decide)) rfl rfl; refine ch_pure ?_; go_simp
       refine ⟨.inl ⟨rfl, fun done a wq hw h => ?_⟩, ?_⟩
       ·have e23 := ch_new (i := 4) (t := 23) h (hw 4 (by decide)) rfl rfl; refine ch_pure ?_; go_simp
       refine ⟨.inl ⟨rfl, fun done a wq hw h => ?_⟩, ?_⟩
       ·have e24 := ch_new (i := 5) (t := 24) h (hw 5 (by decide)) rfl rfl; have hc := (h.bel.cell (p := ⟨b2, o2 + k * 3, none⟩) (by simp; omega)).trans (show (wr.alloc (.cells #[iv xa, iv xl, .slice B1 xd.length c1] 122)).cell? _ = some (iv xa) from r0); refine ch_pure ?_; go_simp
       refine ⟨.inl ⟨rfl, fun done a wq hw h => ?_⟩, ?_⟩
       ·have e20 := ch_new (i := 1) (t := 20) h (hw 1 (by decide)) rfl rfl; have e25 := ch_new (i := 6) (t := 25) h (hw 6 (by decide)) rfl rfl; exact ch_neq_int (by kernel_rfl) (ch_ev e20) (ch_ev e25) (by simp)
       refine ⟨.inl ⟨rfl, fun done a wq hw h => ?_⟩, ?_⟩
       ·have e26 := ch_new (i := 7) (t := 26) h (hw 7 (by decide)) rfl rfl; exact ch_move (ch_ev e26)
       refine ⟨.inl ⟨rfl, fun done a wq hw h => ?_⟩, ?_⟩
       ·have e6 := ch_old (t := 6) (v := .pointer (some ⟨wr.heap.size, 0, none⟩)) h rfl rfl; refine ch_pure ?_; go_simp
       refine ⟨.inl ⟨rfl, fun done a wq hw h => ?_⟩, ?_⟩
       ·have e28 := ch_new (i := 9) (t := 28) h (hw 9 (by decide)) rfl rfl; have hc := (h.bel.cell (p := ⟨wr.heap.size, 1, none⟩) (by simp)).trans (show (wr.alloc (.cells #[iv xa, iv xl, .slice B1 xd.length c1] 122)).cell? ⟨wr.heap.size, 1, none⟩ = some (iv xl) by go_simp); refine ch_pure ?_; go_simp
       refine ⟨.inl ⟨rfl, fun done a wq hw h => ?_⟩, ?_⟩
       ·have e1 := ch_old (t := 1) (v := .slice (some ⟨b2, o2, none⟩) m.length d) h rfl rfl; exact ch_move (ch_ev e1)
       refine ⟨.inl ⟨rfl, fun done a wq hw h => ?_⟩, ?_⟩
       ·have e5 := ch_old (t := 5) (v := .int .i64 (k : Int)) h rfl rfl; exact ch_move (ch_ev e5)
       refine ⟨.inl ⟨rfl, fun done a wq hw h => ?_⟩, ?_⟩
       ·have e30 := ch_new (i := 11) (t := 30) h (hw 11 (by decide)) rfl rfl; have e31 := ch_new (i := 12) (t := 31) h (hw 12 (by decide)) rfl rfl; refine ch_pure ?_; go_simp
       refine ⟨.inl ⟨rfl, fun done a wq hw h => ?_⟩, ?_⟩
       ·have e32 := ch_new (i := 13) (t := 32) h (hw 13 (by decide)) rfl rfl; refine ch_pure ?_; go_simp
       refine ⟨.inl ⟨rfl, fun done a wq hw h => ?_⟩, ?_⟩
       ·have e33 := ch_new (i := 14) (t := 33) h (hw 14 (by decide)) rfl rfl; have hc := (h.bel.cell (p := ⟨b2, o2 + k * 3 + 1, none⟩) (by simp; omega)).trans (show (wr.alloc (.cells #[iv xa, iv xl, .slice B1 xd.length c1] 122)).cell? _ = some (iv yl) from r1); refine ch_pure ?_; go_simp
       refine ⟨.inl ⟨rfl, fun done a wq hw h => ?_⟩, ?_⟩
       ·have e29 := ch_new (i := 10) (t := 29) h (hw 10 (by decide)) rfl rfl; have e34 := ch_new (i := 15) (t := 34) h (hw 15 (by decide)) rfl rfl; exact ch_neq_int (by kernel_rfl) (ch_ev e29) (ch_ev e34) (by simp [h2])
       refine ⟨.inl ⟨rfl, fun done a wq hw h => ?_⟩, ?_⟩
       ·have e27 := ch_new (i := 8) (t := 27) h (hw 8 (by decide)) rfl rfl; have e35 := ch_new (i := 16) (t := 35) h (hw 16 (by decide)) rfl rfl; exact ch_pick_f e27 (ch_ev e35)
       refine ⟨.inl ⟨rfl, fun done a wq hw h => ?_⟩, ?_⟩
       ·have e36 := ch_new (i := 17) (t := 36) h (hw 17 (by decide)) rfl rfl; exact ch_move (ch_ev e36)
       iterate 9 refine ⟨.inr ⟨rfl, rfl⟩, ?_⟩
       refine ⟨.inl ⟨rfl, fun done a wq hw h => ?_⟩, ?_⟩
       ·have e37 := ch_new (i := 18) (t := 37) h (hw 18 (by decide)) rfl rfl; exact ch_pick_t e37 rfl
       exact trivial
      intro w1 hb
      have HB1 := Lib.hid (HBX.out.trans (hb.mono (by simp; omega)))
      clear hb r0 r1 r2
      simp only [putAll_some, putAll_none, putAll_nil, List.getElem?_cons_zero, List.getElem?_cons_succ, List.setIfInBounds_toArray, List.set_cons_zero, List.set_cons_succ]
      go_wp2_with fail
      go_ret
      exact ⟨ret_bool (decide_eq_false (HN.out HNE.out)).symm, HB1.out⟩
    ·have HNE : Hid ((⟨xa, xl, xd⟩ : Stp) ≠ ⟨ya, yl, yd⟩) := Lib.hid fun e => by injection e; contradiction
     clear HK HX
     go_wp2_with fail
     refine wp_region_chain (by kernel_rfl) (some 19 :: some 20 :: some 21 :: some 22 :: some 23 :: some 24 :: some 25 :: some 26 :: some 27 :: some 28 :: some 29 :: some 30 :: some 31 :: some 32 :: some 33 :: some 34 :: some 35 :: some 36 :: some 37 :: some 38 :: some 39 :: some 40 :: some 41 :: some 42 :: some 43 :: some 44 :: some 45 :: some 46 :: some 47 :: []) (.pointer (some ⟨wr.heap.size, 0, none⟩) :: iv xa :: .slice (some ⟨b2, o2, none⟩) m.length d :: .int .i64 (k : Int) :: .pointer (some ⟨b2, o2 + k * 3, none⟩) :: .pointer (some ⟨b2, o2 + k * 3, none⟩) :: iv ya :: .bool true :: .bool true :: undef :: undef :: undef :: undef :: undef :: undef :: undef :: undef :: .bool true :: .bool true :: undef :: undef :: undef :: undef :: undef :: undef :: undef :: undef :: undef :: .bool true :: []) 49 rfl rfl (by decide +kernel) (by decide +kernel) (by decide +kernel) rfl ?_ ?_
     ·refine ⟨.inl ⟨rfl, fun done a wq hw h => ?_⟩, ?_⟩
      ·have e6 := ch_old (t := 6) (v := .pointer (some ⟨wr.heap.size, 0, none⟩)) h rfl rfl; refine ch_pure ?_; go_simp
      refine ⟨.inl ⟨rfl, fun done a wq hw h => ?_⟩, ?_⟩
      ·have e19 := ch_new (i := 0) (t := 19) h (hw 0 (by decide)) rfl rfl; have hc := (h.bel.cell (p := ⟨wr.heap.size, 0, none⟩) (by simp)).trans (show (wr.alloc (.cells #[iv xa, iv xl, .slice B1 xd.length c1] 122)).cell? ⟨wr.heap.size, 0, none⟩ = some (iv xa) by go_simp); refine ch_pure ?_; go_simp
      refine ⟨.inl ⟨rfl, fun done a wq hw h => ?_⟩, ?_⟩
      ·have e1 := ch_old (t := 1) (v := .slice (some ⟨b2, o2, none⟩) m.length d) h rfl rfl; exact ch_move (ch_ev e1)
      refine ⟨.inl ⟨rfl, fun done a wq hw h => ?_⟩, ?_⟩
      ·have e5 := ch_old (t := 5) (v := .int .i64 (k : Int)) h rfl rfl; exact ch_move (ch_ev e5)
      refine ⟨.inl ⟨rfl, fun done a wq hw h => ?_⟩, ?_⟩
      ·have e21 := ch_new (i := 2) (t := 21) h (hw 2 (by decide)) rfl rfl; have e22 := ch_new (i := 3) (t := 22) h (hw 3 (by decide)) rfl rfl; refine ch_pure ?_; go_simp
      refine ⟨.inl ⟨rfl, fun done a wq hw h => ?_⟩, ?_⟩
      ·have e23 := ch_new (i := 4) (t := 23) h (hw 4 (by decide)) rfl rfl; refine ch_pure ?_; go_simp
      refine ⟨.inl ⟨rfl, fun done a wq hw h => ?_⟩, ?_⟩
      ·have e24 := ch_new (i := 5) (t := 24) h (hw 5 (by decide)) rfl rfl; have hc := (h.bel.cell (p := ⟨b2, o2 + k * 3, none⟩) (by simp; omega)).trans (show (wr.alloc (.cells #[iv xa, iv xl, .slice B1 xd.length c1] 122)).cell? _ = some (iv ya) from r0); refine ch_pure ?_; go_simp
      refine ⟨.inl ⟨rfl, fun done a wq hw h => ?_⟩, ?_⟩
      ·have e20 := ch_new (i := 1) (t := 20) h (hw 1 (by decide)) rfl rfl; have e25 := ch_new (i := 6) (t := 25) h (hw 6 (by decide)) rfl rfl; exact ch_neq_int (by kernel_rfl) (ch_ev e20) (ch_ev e25) (by simp [h1])
      refine ⟨.inl ⟨rfl, fun done a wq hw h => ?_⟩, ?_⟩
      ·have e26 := ch_new (i := 7) (t := 26) h (hw 7 (by decide)) rfl rfl; exact ch_move (ch_ev e26)
      iterate 8 refine ⟨.inr ⟨rfl, rfl⟩, ?_⟩
      refine ⟨.inl ⟨rfl, fun done a wq hw h => ?_⟩, ?_⟩
      ·have e27 := ch_new (i := 8) (t := 27) h (hw 8 (by decide)) rfl rfl; exact ch_pick_t e27 rfl
      refine ⟨.inl ⟨rfl, fun done a wq hw h => ?_⟩, ?_⟩
      ·have e36 := ch_new (i := 17) (t := 36) h (hw 17 (by decide)) rfl rfl; exact ch_move (ch_ev e36)
      iterate 9 refine ⟨.inr ⟨rfl, rfl⟩, ?_⟩
      refine ⟨.inl ⟨rfl, fun done a wq hw h => ?_⟩, ?_⟩
      ·have e37 := ch_new (i := 18) (t := 37) h (hw 18 (by decide)) rfl rfl; exact ch_pick_t e37 rfl
      exact trivial
     intro w1 hb
     have HB1 := Lib.hid (HBX.out.trans (hb.mono (by simp; omega)))
     clear hb r0 r1 r2
     simp only [putAll_some, putAll_none, putAll_nil, List.getElem?_cons_zero, List.getElem?_cons_succ, List.setIfInBounds_toArray, List.set_cons_zero, List.set_cons_succ]
     go_wp2_with fail
     go_ret
     exact ⟨ret_bool (decide_eq_false (HN.out HNE.out)).symm, HB1.out⟩
   ·obtain rfl : k = l.length := by omega
    have HL : Hid (l = m) := Lib.hid (by
     have := HT.out
     rwa [List.take_length, HE.out, List.take_length] at this)
    go_wp2_with fail
    go_ret
    exact ⟨ret_bool (decide_eq_true HL.out).symm, HB.out⟩
 ·have hdl : ((l.length : Int) != (m.length : Int)) = true := by simp; omega
  have HE : Hid (l ≠ m) := Lib.hid fun e => hne (by rw [e])
  clear hne ha hb
  go_enter Tryz.func72, Tryz.ntmps72
  go_wp2_with fail
  go_ret
  exact ⟨ret_bool (decide_eq_false HE.out).symm, Below.refl _ _⟩
theorem refPatSameA_calls (A B : Option Addr) (c d : Nat) (f t o n sz f2 t2 o2 n2 sz2 : Int) (l m : List Stp) (w : World) (hl : l.length ≤ 1048576) (hm : m.length ≤ 1048576) (hs : Sps w A l) (hr : Sps w B m) :
  Calls Tryz.prog 48 #[.agg #[iv f, iv t, iv o, iv n, iv sz, .slice A l.length c], .agg #[iv f2, iv t2, iv o2, iv n2, iv sz2, .slice B m.length d]] w (RetB w (.bool (decide ((⟨f, t, o, n, sz, l⟩ : Pat) = ⟨f2, t2, o2, n2, sz2, m⟩)))) := by
 have hb : Below w.heap.size w ((w.alloc (.cells #[iv f, iv t, iv o, iv n, iv sz, .slice A l.length c] 36)).alloc (.cells #[iv f2, iv t2, iv o2, iv n2, iv sz2, .slice B m.length d] 36)) := ((Below.refl _ _).alloc (Nat.le_refl _) _).alloc (by simp) _
 obtain ⟨r, hR⟩ : ∃ r, decide ((⟨f, t, o, n, sz, l⟩ : Pat) = ⟨f2, t2, o2, n2, sz2, m⟩) = r := ⟨_, rfl⟩
 rw [hR]
 have HR := Lib.hid hR
 clear hR
 have HB := Lib.hid hb
 have HC := Lib.hid (refSame_calls A B c d l m _ hl hm (hs.stays hb) (hr.stays hb))
 clear hb hs hr
 by_cases h0 : ¬ f = f2
 ·have hz : false = r := (decide_eq_false (fun e => by injection e; contradiction)).symm.trans HR.out
  have HZ := Lib.hid hz
  have q : (f == f2) = false := by simp [h0]
  clear HC hz h0
  go_enter Tryz.func48, Tryz.ntmps48
  go_wp2_with fail
  go_ret
  exact ⟨ret_bool HZ.out, HB.out⟩
 have h0 := Decidable.not_not.1 h0
 subst h0
 have q0 : (f == f) = true := by simp
 by_cases h1 : ¬ t = t2
 ·have hz : false = r := (decide_eq_false (fun e => by injection e; contradiction)).symm.trans HR.out
  have HZ := Lib.hid hz
  have q : (t == t2) = false := by simp [h1]
  clear HC hz h1
  go_enter Tryz.func48, Tryz.ntmps48
  go_wp2_with fail
  go_ret
  exact ⟨ret_bool HZ.out, HB.out⟩
 have h1 := Decidable.not_not.1 h1
 subst h1
 have q1 : (t == t) = true := by simp
 by_cases h2 : ¬ o = o2
 ·have hz : false = r := (decide_eq_false (fun e => by injection e; contradiction)).symm.trans HR.out
  have HZ := Lib.hid hz
  have q : (o == o2) = false := by simp [h2]
  clear HC hz h2
  go_enter Tryz.func48, Tryz.ntmps48
  go_wp2_with fail
  go_ret
  exact ⟨ret_bool HZ.out, HB.out⟩
 have h2 := Decidable.not_not.1 h2
 subst h2
 have q2 : (o == o) = true := by simp
 by_cases h3 : ¬ n = n2
 ·have hz : false = r := (decide_eq_false (fun e => by injection e; contradiction)).symm.trans HR.out
  have HZ := Lib.hid hz
  have q : (n == n2) = false := by simp [h3]
  clear HC hz h3
  go_enter Tryz.func48, Tryz.ntmps48
  go_wp2_with fail
  go_ret
  exact ⟨ret_bool HZ.out, HB.out⟩
 have h3 := Decidable.not_not.1 h3
 subst h3
 have q3 : (n == n) = true := by simp
 by_cases h4 : ¬ sz = sz2
 ·have hz : false = r := (decide_eq_false (fun e => by injection e; contradiction)).symm.trans HR.out
  have HZ := Lib.hid hz
  have q : (sz == sz2) = false := by simp [h4]
  clear HC hz h4
  go_enter Tryz.func48, Tryz.ntmps48
  go_wp2_with fail
  go_ret
  exact ⟨ret_bool HZ.out, HB.out⟩
 have h4 := Decidable.not_not.1 h4
 subst h4
 have q4 : (sz == sz) = true := by simp
 have hz : decide (l = m) = r := by
  rw [← HR.out]
  by_cases e : l = m
  ·subst e; simp
  ·rw [decide_eq_false e, decide_eq_false (fun h => e (by injection h))]
 have HZ := Lib.hid hz
 clear hz
 go_enter Tryz.func48, Tryz.ntmps48
 go_wp2_with fail
 refine HC.out.mono ?_
 rintro e w9 ⟨rfl, hb1⟩
 have HB1 := Lib.hid (HB.out.trans (hb1.mono HB.out.size))
 clear hb1
 go_wp2_with fail
 go_ret
 exact ⟨ret_bool HZ.out, HB1.out⟩
theorem cloneRows_calls (A : Option Addr) (n c : Nat) (cs : List Value) (w : World) (hl : cs.length = n * 1) (hn0 : n ≤ 16777216) (hr : Src w A cs) (h1 : ∀ u ∈ cs, u.oneCell' = true) :
  Calls Tryz.prog 74 #[.slice A n c] w (SlRet w 23 1 n cs) := by
 rcases A with _ | ad
 ·have h0 : cs.length = 0 := by
   rcases Nat.eq_zero_or_pos cs.length with h | h
   ·exact h
   ·obtain ⟨b, o, h, _⟩ := hr 0 h
    cases h
  obtain rfl : n = 0 := by omega
  obtain rfl : cs = [] := List.eq_nil_of_length_eq_zero h0
  have hn := fun (wx : World) (a : Option Addr) (n c n' c' : Nat) => Lib.run_eql_slice_nil (P := Tryz.prog) wx 22 23 a n c n' c' Tryz.underlying22
  clear h0 hl
  go_enter Tryz.func74, Tryz.ntmps74
  go_wp2
  go_ret
  exact ⟨none, 0, rfl, Own.nil_ _ _ _ _, Below.refl _ _⟩
 ·have hn := fun (wx : World) (a : Option Addr) (n c n' c' : Nat) => Lib.run_eql_slice_nil (P := Tryz.prog) wx 22 23 a n c n' c' Tryz.underlying22
  have ho : Own (w.alloc (.cells #[] 23)) w.heap.size 23 1 (some ⟨w.heap.size, 0, none⟩) 0 0 [] := own_zero w _ _
  have hs := hr.stays ((Below.refl w.heap.size w).alloc (Nat.le_refl _) (.cells #[] 23))
  have hb1 : 0 + n ≤ 1073741824 := by omega
  have hb2 : w.heap.size ≤ (w.alloc (.cells #[] 23)).heap.size := by simp
  have HL := Lib.hid hl
  clear hl
  go_enter Tryz.func74, Tryz.ntmps74
  go_wp2_with (at_builtin; refine wpList_app _ rfl _ _ 22 rfl elRows w.heap.size (some ⟨w.heap.size, 0, none⟩) 0 0 [] rfl ho (some ad) n c cs rfl hs HL.out h1 hb1 hb2 ?_; intro A' c' w1 hown hg hb hx)
  go_ret
  simp only [Nat.zero_add, List.nil_append] at hown
  exact ⟨_, _, rfl, hown, ((Below.refl _ _).alloc (Nat.le_refl _) _).trans hb⟩
theorem cloneOps_calls (A : Option Addr) (n c : Nat) (cs : List Value) (w : World) (hl : cs.length = n * 3) (hn0 : n ≤ 16777216) (hr : Src w A cs) (h1 : ∀ u ∈ cs, u.oneCell' = true) :
  Calls Tryz.prog 105 #[.slice A n c] w (SlRet w 122 3 n cs) := by
 rcases A with _ | ad
 ·have h0 : cs.length = 0 := by
   rcases Nat.eq_zero_or_pos cs.length with h | h
   ·exact h
   ·obtain ⟨b, o, h, _⟩ := hr 0 h
    cases h
  obtain rfl : n = 0 := by omega
  obtain rfl : cs = [] := List.eq_nil_of_length_eq_zero h0
  have hn := fun (wx : World) (a : Option Addr) (n c n' c' : Nat) => Lib.run_eql_slice_nil (P := Tryz.prog) wx 34 122 a n c n' c' Tryz.underlying34
  clear h0 hl
  go_enter Tryz.func105, Tryz.ntmps105
  go_wp2
  go_ret
  exact ⟨none, 0, rfl, Own.nil_ _ _ _ _, Below.refl _ _⟩
 ·have hn := fun (wx : World) (a : Option Addr) (n c n' c' : Nat) => Lib.run_eql_slice_nil (P := Tryz.prog) wx 34 122 a n c n' c' Tryz.underlying34
  have ho : Own (w.alloc (.cells #[] 122)) w.heap.size 122 3 (some ⟨w.heap.size, 0, none⟩) 0 0 [] := own_zero w _ _
  have hs := hr.stays ((Below.refl w.heap.size w).alloc (Nat.le_refl _) (.cells #[] 122))
  have hb1 : 0 + n ≤ 1073741824 := by omega
  have hb2 : w.heap.size ≤ (w.alloc (.cells #[] 122)).heap.size := by simp
  have HL := Lib.hid hl
  clear hl
  go_enter Tryz.func105, Tryz.ntmps105
  go_wp2_with (at_builtin; refine wpList_app _ rfl _ _ 34 rfl elOps w.heap.size (some ⟨w.heap.size, 0, none⟩) 0 0 [] rfl ho (some ad) n c cs rfl hs HL.out h1 hb1 hb2 ?_; intro A' c' w1 hown hg hb hx)
  go_ret
  simp only [Nat.zero_add, List.nil_append] at hown
  exact ⟨_, _, rfl, hown, ((Below.refl _ _).alloc (Nat.le_refl _) _).trans hb⟩
theorem cloneChunks_calls (A : Option Addr) (n c : Nat) (cs : List Value) (w : World) (hl : cs.length = n * 5) (hn0 : n ≤ 16777216) (hr : Src w A cs) (h1 : ∀ u ∈ cs, u.oneCell' = true) :
  Calls Tryz.prog 91 #[.slice A n c] w (SlRet w 56 5 n cs) := by
 rcases A with _ | ad
 ·have h0 : cs.length = 0 := by
   rcases Nat.eq_zero_or_pos cs.length with h | h
   ·exact h
   ·obtain ⟨b, o, h, _⟩ := hr 0 h
    cases h
  obtain rfl : n = 0 := by omega
  obtain rfl : cs = [] := List.eq_nil_of_length_eq_zero h0
  have hn := fun (wx : World) (a : Option Addr) (n c n' c' : Nat) => Lib.run_eql_slice_nil (P := Tryz.prog) wx 33 56 a n c n' c' Tryz.underlying33
  clear h0 hl
  go_enter Tryz.func91, Tryz.ntmps91
  go_wp2
  go_ret
  exact ⟨none, 0, rfl, Own.nil_ _ _ _ _, Below.refl _ _⟩
 ·have hn := fun (wx : World) (a : Option Addr) (n c n' c' : Nat) => Lib.run_eql_slice_nil (P := Tryz.prog) wx 33 56 a n c n' c' Tryz.underlying33
  have ho : Own (w.alloc (.cells #[] 56)) w.heap.size 56 5 (some ⟨w.heap.size, 0, none⟩) 0 0 [] := own_zero w _ _
  have hs := hr.stays ((Below.refl w.heap.size w).alloc (Nat.le_refl _) (.cells #[] 56))
  have hb1 : 0 + n ≤ 1073741824 := by omega
  have hb2 : w.heap.size ≤ (w.alloc (.cells #[] 56)).heap.size := by simp
  have HL := Lib.hid hl
  clear hl
  go_enter Tryz.func91, Tryz.ntmps91
  go_wp2_with (at_builtin; refine wpList_app _ rfl _ _ 33 rfl elChunks w.heap.size (some ⟨w.heap.size, 0, none⟩) 0 0 [] rfl ho (some ad) n c cs rfl hs HL.out h1 hb1 hb2 ?_; intro A' c' w1 hown hg hb hx)
  go_ret
  simp only [Nat.zero_add, List.nil_append] at hown
  exact ⟨_, _, rfl, hown, ((Below.refl _ _).alloc (Nat.le_refl _) _).trans hb⟩
end Go.Proofs.YtefkfglkpebbmadGreat
