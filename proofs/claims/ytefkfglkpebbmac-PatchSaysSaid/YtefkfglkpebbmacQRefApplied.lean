/- The walk of the document's Applied. No conditions. -/
import Derived.Test.YtefkfglkpebbmacQRefCheck
import Derived.Test.YtefkfglkpebbmacQDeltaApply
import Derived.Test.YtefkfglkpebbmacQByteOps
import Derived.IntWalk
namespace Go.Proofs.Ytefkfglkpebbmac
open Go.RowKit
set_option linter.unusedVariables false
set_option linter.unusedSimpArgs false

set_option maxRecDepth 100000 in
set_option maxHeartbeats 4000000 in
theorem refApplied_bad (A : Option Addr) (c : Nat) (old : List UInt8) (B : Option Addr) (d : Nat) (l : List Stp) (size : Int) (w : World) (ho : old.length ≤ 140737488351232) (hl : l.length ≤ 3518437208780) (hr : Sps w B l) (h : deltaCheck l old.length size ≠ 0) :
    Calls Try.prog 17 #[.slice A old.length c, .slice B l.length d, iv size] w (RetB w (.tuple #[.slice none 0 0, iv (deltaCheck l old.length size)])) := by
  have hb : (deltaCheck l old.length size != 0) = true := by simp [h]
  clear h
  go_enter Try.func17, Try.ntmps17
  go_wp2_with fail
  refine (refCheck_calls B d l old.length size w hl hr).mono ?_
  rintro e w1 ⟨rfl, hb1⟩
  go_wp2_with fail
  go_ret2
  exact ⟨rfl, hb1⟩
set_option maxRecDepth 100000 in
set_option maxHeartbeats 8000000 in
theorem refApplied_ok (A : Option Addr) (c : Nat) (old : List UInt8) (B : Option Addr) (d : Nat) (l : List Stp) (size : Int) (w : World) (hc : old.length ≤ c) (hA : Bts w A old) (hl : l.length ≤ 3518437208780) (hr : Sps w B l) (h : deltaCheck l old.length size = 0) :
    Calls Try.prog 17 #[.slice A old.length c, .slice B l.length d, iv size] w (ByRet2 w (applied old l) 0) := by
  have hd := deltaCheck_ok.1 h
  have hcc := refCheck_calls B d l old.length size w hl hr
  rw [h] at hcc
  have HC := Lib.hid hcc
  have HD := Lib.hid hd
  have HOLD := Lib.hid hA
  have HSP := Lib.hid hr
  have ho1 := hd.o1
  have hm := hd.many
  clear hcc h hd hA hr
  go_enter Try.func17, Try.ntmps17
  go_wp2_with fail
  refine HC.out.mono ?_
  rintro e w1 ⟨rfl, hb1⟩
  have HB1 := Lib.hid hb1
  have HO1 : Hid (Own w1 w.heap.size 5 1 none 0 0 (([] : List UInt8).map bv)) := Lib.hid (Own.nil_ _ _ _ _)
  clear hb1 HC
  go_wp2_with fail
  generalize hbase : w.heap.size = base at *
  have HBE := Lib.hid hbase
  clear hbase
  go_loopw [9, 23] (fun v i wr => ∃ (k : Nat) (C : Option Addr) (cc : Nat) (pre : List UInt8), k ≤ l.length ∧ i = .int .i64 k ∧ v = .slice C pre.length cc ∧ Hid (pre = applied old (l.take k)) ∧ Hid (Own wr base 5 1 C pre.length cc (pre.map bv)) ∧ Hid (Below base w wr)) (fun _ i _ => l.length - (intOf i).toNat)
  case atStart => exact ⟨0, none, 0, [], Nat.zero_le _, rfl, rfl, Lib.hid rfl, HO1, HB1⟩
  case round =>
    clear HO1 HB1
    rename World => wo
    obtain ⟨k, C, cc, pre, hk, rfl, rfl, HPRE, HO, HB⟩ := hrel
    by_cases hlt : k < l.length
    · have hxo := HD.out.each l[k] (List.getElem_mem hlt)
      have hsum : (applied old (l.take (k + 1))).length ≤ 64 := by
        have h1 := (HD.out.take (k + 1)).2.2.2
        have h2 := applied_len (old := old) (l := l.take (k + 1)) (fun o ho => (HD.out.each o (List.mem_of_mem_take ho)).2)
        have h3 := HD.out.s1
        omega
      obtain ⟨sb, so, D, dc, rfl, hsb, p0, p1, p2, p3, p4, p5, -, -⟩ := (HSP.out.stays (HBE.out ▸ HB.out)).at_ hlt
      have hnext : applied old (l.take (k + 1)) = pre ++ l[k].piece old := by rw [List.take_succ_eq_append_getElem hlt, applied_append, applied_one, ← HPRE.out]
      rw [hnext] at hsum
      obtain ⟨x, hx⟩ : ∃ x, l[k] = x := ⟨_, rfl⟩
      rw [hx] at hxo hnext hsum p0 p1 p2 p3 p4 p5
      clear hx
      obtain ⟨at_, len, data⟩ := x
      obtain ⟨hform, hin⟩ := hxo
      unfold Stp.in_ at hin
      dsimp only at *
      obtain ⟨j1, j2, j3⟩ := hin
      obtain ⟨a, rfl⟩ := Int.eq_ofNat_of_zero_le j2
      obtain ⟨n, rfl⟩ := Int.eq_ofNat_of_zero_le j1
      have hpiece : (⟨(a : Int), (n : Int), data⟩ : Stp).piece old = (old.drop a).take n ++ data := rfl
      rw [hpiece] at hnext hsum
      have hone : pre ++ data ++ (old.drop a).take n = pre ++ ((old.drop a).take n ++ data) := by
        by_cases e : n = 0
        · subst e; simp
        · have := hform.2 (by simp; omega)
          simp at this
          rw [this]; simp
      rw [← hone] at hnext hsum
      have hnl : ((old.drop a).take n).length = n := by simp; omega
      have hsum2 : pre.length + data.length + n ≤ 64 := by rw [List.length_append, List.length_append, hnl] at hsum; exact hsum
      have HNX := Lib.hid hnext
      clear hnext hsum hform hone hpiece
      have dl : decide ((k : Int) < (l.length : Int)) = true := decide_eq_true (by omega)
      have hsw : base ≤ wo.heap.size := Nat.le_trans (Nat.le_of_eq HBE.out.symm) HB.out.size
      have hba : Below wo.heap.size wo (wo.alloc (.cells #[iv (a : Int), iv (n : Int), .slice D data.length dc] 117)) := (Below.refl _ _).alloc (Nat.le_refl _) _
      have hoa := HO.out.alloc (.cells #[iv (a : Int), iv (n : Int), .slice D data.length dc] 117)
      have hs1 := (p5.stays hba).src
      have hl1 : (data.map bv).length = data.length * 1 := by simp
      have hob : pre.length + data.length ≤ 137438953472 := by omega
      have hle : base ≤ (wo.alloc (.cells #[iv (a : Int), iv (n : Int), .slice D data.length dc] 117)).heap.size := by simp; omega
      have hgC : ∀ q, C.map (·.block) = some q → q < wo.heap.size := fun q e => (HO.out.block q e).2
      have hg0 : (wo.alloc (.cells #[iv (a : Int), iv (n : Int), .slice D data.length dc] 117)).heap[wo.heap.size]? = some (.cells #[iv (a : Int), iv (n : Int), .slice D data.length dc] 117 (0, 0)) := blk_top rfl
      go_wp2_with (at_builtin; go_must (refine wpList_app (wo.alloc (.cells #[iv (a : Int), iv (n : Int), .slice D data.length dc] 117)) rfl _ _ 22 rfl elBytes base C pre.length cc (pre.map bv) rfl hoa D data.length dc (data.map bv) rfl hs1 hl1 (bv_one _) hob hle ?_; intro C1 c1 w2 hown hgr hbel hor); (have hg2 := (hgr.block wo.heap.size (by simp) (fun e => by have := hgC _ e.symm; omega)).trans hg0); (have q1 : w2.cell? ⟨wo.heap.size, 1, none⟩ = some (iv (n : Int)) := by rw [cell_of_row _ _ _ _ _ _ hg2]; rfl))
      have HG2 := Lib.hid hg2
      have HB2 : Hid (Below base w w2) := Lib.hid ((HB.out.trans (hba.mono hsw)).trans hbel)
      have HO2 : Hid (Own w2 base 5 1 C1 (pre ++ data).length c1 ((pre ++ data).map bv)) := Lib.hid (by simpa using hown)
      have HC1 : Hid (∀ q, C1.map (·.block) = some q → q ≠ wo.heap.size) := Lib.hid (fun q e => by
        rcases hor with h | h
        · rw [h] at e; have := hgC q e; omega
        · rw [h] at e; injection e with e; simp at e; omega)
      clear hown hgr hbel hor hs1 hl1 hob hle hgC hg0 hg2 hoa hba p0 p1 p2 p3 p4 p5
      generalize hg : wo.heap.size = g at *
      have HGO : Hid (wo.heap.size = g) := Lib.hid hg
      clear hg
      have e0 : (pre ++ data).length = pre.length + data.length := by simp
      go_loopw [9, 33] (fun v i wr => ∃ (j : Nat) (C : Option Addr) (cc : Nat) (o1 : List UInt8), j ≤ n ∧ i = .int .i64 (j : Int) ∧ v = .slice C o1.length cc ∧ Hid (o1 = pre ++ data ++ (old.drop a).take j) ∧ Hid (o1.length = pre.length + data.length + j) ∧ Hid (Own wr base 5 1 C o1.length cc (o1.map bv)) ∧ Hid (∀ q, C.map (·.block) = some q → q ≠ g) ∧ Hid (wr.heap[g]? = some (.cells #[iv (a : Int), iv (n : Int), .slice D data.length dc] 117 (0, 0))) ∧ Hid (Below base w wr)) (fun _ i _ => n - (intOf i).toNat)
      case atStart => exact ⟨0, C1, c1, pre ++ data, Nat.zero_le _, rfl, by rw [e0], Lib.hid (by simp), Lib.hid (by simp), HO2, HC1, HG2, HB2⟩
      case round =>
        clear HO2 HC1 HG2 HB2 q1
        rename World => wi
        obtain ⟨j, C2, c2, o1, hj, rfl, rfl, HO1, HO1L, HOW, HCG, HG, HB3⟩ := hrel
        have ho1l : o1.length ≤ 64 := by have := HO1L.out; omega
        by_cases hjn : j < n
        · have haj : a + j < old.length := by omega
          obtain ⟨ab, ao, rfl, hab, hxc⟩ := (HOLD.out.stays (HBE.out ▸ HB3.out)) (a + j) haj
          have HO1' : Hid (o1 ++ [old[a + j]] = pre ++ data ++ (old.drop a).take (j + 1)) := Lib.hid (by
            have hjl : j < (old.drop a).length := by simp; omega
            rw [List.take_succ_eq_append_getElem hjl, HO1.out]; simp)
          have q0 : wi.cell? ⟨g, 0, none⟩ = some (iv (a : Int)) := by rw [cell_of_row _ _ _ _ _ _ HG.out]; rfl
          have dl : decide ((j : Int) < (n : Int)) = true := decide_eq_true (by omega)
          have hw1 : IntKind.i64.wrap ((a : Int) + (j : Int)) = (a : Int) + (j : Int) := IntWalk.i64_in _ (by omega)
          have hw2 : IntKind.i64.wrap ((j : Int) + 1) = (j : Int) + 1 := IntWalk.i64_in _ (by omega)
          have hsi : base ≤ wi.heap.size := Nat.le_trans (Nat.le_of_eq HBE.out.symm) HB3.out.size
          have hoa := HOW.out.alloc (.cells #[bv old[a + j]] 5)
          have hs1 : Src (wi.alloc (.cells #[bv old[a + j]] 5)) (some ⟨wi.heap.size, 0, none⟩) [bv old[a + j]] := src_blk (blk_top rfl)
          have hob : o1.length + 1 ≤ 137438953472 := by omega
          have hle : base ≤ (wi.alloc (.cells #[bv old[a + j]] 5)).heap.size := by simp; omega
          go_wp2_with (at_builtin; go_must (refine wpList_app (wi.alloc (.cells #[bv old[a + j]] 5)) rfl _ _ 22 rfl elBytes base C2 o1.length c2 (o1.map bv) rfl hoa (some ⟨wi.heap.size, 0, none⟩) 1 1 [bv old[a + j]] rfl hs1 rfl (by simp [Value.oneCell']) hob hle ?_; intro C3 c3 w3 hown hgr hbel hor))
          have hgl : g < wi.heap.size := blk_lt HG.out
          have HG3 : Hid (w3.heap[g]? = some (.cells #[iv (a : Int), iv (n : Int), .slice D data.length dc] 117 (0, 0))) := Lib.hid ((hgr.block g (by simp; omega) (fun e => HCG.out g e.symm rfl)).trans ((Below.heap_alloc wi _ g hgl).trans HG.out))
          have HB4 : Hid (Below base w w3) := Lib.hid ((HB3.out.alloc hsi _).trans hbel)
          have HO4 : Hid (Own w3 base 5 1 C3 (o1 ++ [old[a + j]]).length c3 ((o1 ++ [old[a + j]]).map bv)) := Lib.hid (by simpa using hown)
          have HC4 : Hid (∀ q, C3.map (·.block) = some q → q ≠ g) := Lib.hid (fun q e => by
            rcases hor with h | h
            · rw [h] at e; exact HCG.out q e
            · rw [h] at e; injection e with e; simp at e; omega)
          have HL4 : Hid (o1.length + 1 = (o1 ++ [old[a + j]]).length) := Lib.hid (by simp)
          clear hown hgr hbel hor hs1 hob hle hoa q0 hxc
          go_roundw
          case rel => exact ⟨j + 1, C3, c3, o1 ++ [old[a + j]], by omega, by go_num, by rw [HL4.out], HO1', Lib.hid (by rw [← HL4.out, HO1L.out]; omega), HO4, HC4, HG3, HB4⟩
          case measure => simp [intOf]; omega
        · obtain rfl : j = n := by omega
          have dl : decide ((j : Int) < (j : Int)) = false := by simp
          have hwk : IntKind.i64.wrap ((k : Int) + 1) = (k : Int) + 1 := IntWalk.i64_in _ (by omega)
          go_wp2_with fail
          go_roundw
          case rel => exact ⟨k + 1, C2, c2, o1, by omega, by go_num, rfl, Lib.hid (by rw [HNX.out, HO1.out]), HOW, HB3⟩
          case measure => simp [intOf]; omega
    · obtain rfl : k = l.length := by omega
      have dl : decide ((l.length : Int) < (l.length : Int)) = false := by simp
      have hpre : pre = applied old l := by rw [HPRE.out, List.take_length]
      have HP := Lib.hid hpre
      clear hpre HPRE
      go_wp2_with fail
      go_ret2
      exact ⟨C, cc, by rw [← HP.out]; rfl, by rw [← HP.out]; exact HO.out.src.bts, by rw [← HP.out]; exact HO.out.le, HBE.out ▸ HB.out⟩
end Go.Proofs.Ytefkfglkpebbmac
