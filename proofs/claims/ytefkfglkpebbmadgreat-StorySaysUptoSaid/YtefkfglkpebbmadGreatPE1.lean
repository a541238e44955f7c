/- Walks of functions, and plain words. No conditions. -/
import Derived.Test.YtefkfglkpebbmadGreatP0
import Derived.Laws.StructEq
import Derived.Deep.LoopGhost
import Derived.StillTailTactics
set_option linter.unusedVariables false
set_option linter.unusedSimpArgs false
set_option maxRecDepth 100000
set_option maxHeartbeats 40000000
namespace Go.Proofs.YtefkfglkpebbmadGreat
open Go.RowKit
variable {w : World} {g c : Nat} {t : TypeId} {A : Option Addr} {l : List Stp} {old size n : Int} {o x y : Stp}
theorem growBytes_calls (n : Nat) (w : World) (hn : n ≤ 67108864) :
  Calls Tryz.prog 104 #[.slice none 0 0, iv n] w (SlRet w 5 1 0 []) := by
 rcases Nat.eq_zero_or_pos n with rfl | hp
 ·go_enter Tryz.func104, Tryz.ntmps104
  go_wp2
  go_ret
  exact ⟨none, 0, rfl, Own.nil_ _ _ _ _, Below.refl _ _⟩
 ·obtain ⟨i, hi, hz, hs, hb⟩ := info_parts (P := Tryz.prog) (e := 5) (z := .int .u8 0) (size := 1) (bytes := 1) (by kernel_rfl)
  have hr := fun ty => Lib.run_append_grow_zeros (P := Tryz.prog) w 23 3 ty 5 i (.int .u8 0) .i64 .i64 Tryz.underlying23 Tryz.underlying3 hi hz none 0 0 [] (run_firstCells_none _ _ _ _ _) n hp (by omega) (by omega) (by omega) (by rw [hb]; omega)
   (growslice_fits (by omega) (by rw [hb]; omega))
  have hG := grownCap_ge w (0 + n) 0 5
  have hG2 := grownCap_le_maxLen w (0 + n) 0 5 (by unfold maxLen; omega)
  have h1 : (0 : Int) < (n : Int) := by omega
  obtain ⟨cap, hcd⟩ : ∃ cap, cap = grownCap w (0 + n) 0 5 := ⟨_, rfl⟩
  rw [← hcd] at hr hG hG2
  clear hcd
  have hO : Own (w.drew.alloc (.cells (([] : List Value).toArray ++ Builtin.zeroCells (Value.cells (.int .u8 0)) n ++ Builtin.zeroCells (Value.cells (.int .u8 0)) (cap - (0 + n))) 5)) w.heap.size 5 1 (some ⟨w.heap.size, 0, none⟩) 0 cap [] :=
   ⟨by simp, Or.inr ⟨_, _, _, rfl, Nat.le_refl _, blk_top rfl, by omega, hG2, by simp [Builtin.zeroCells, Value.cells]; omega, by simp⟩⟩
  have hB := ((Below.refl w.heap.size w).drew).alloc (Nat.le_refl _) (.cells (([] : List Value).toArray ++ Builtin.zeroCells (Value.cells (.int .u8 0)) n ++ Builtin.zeroCells (Value.cells (.int .u8 0)) (cap - (0 + n))) 5)
  generalize (Obj.cells (([] : List Value).toArray ++ Builtin.zeroCells (Value.cells (.int .u8 0)) n ++ Builtin.zeroCells (Value.cells (.int .u8 0)) (cap - (0 + n))) 5) = ob at *
  have hcap : cap ≤ 9223372036854775807 := by simp only [maxLen] at hG2; omega
  clear hi hz hs hb hG2
  go_enter Tryz.func104, Tryz.ntmps104
  go_wp2_with (at_builtin; refine Lib.wpList_append_run _ rfl _ _ _ _ rfl _ _ rfl rfl _ _ (hr _) ?_)
  go_ret
  exact ⟨_, _, rfl, hO, hB⟩
theorem concatBytes_calls (ss : List SrcOf) (ad : Option Addr) (c : Nat) (w : World) (hk : ss.length ≤ 16) (hn : sumN ss ≤ 67108864) (hr : Src w ad (ss.map SrcOf.val)) (hs : ∀ s ∈ ss, s.ok w 1) :
  Calls Tryz.prog 90 #[.slice ad ss.length c] w (SlRet w 5 1 (sumN ss) (ss.flatMap SrcOf.cells)) := by
 go_enter Tryz.func90, Tryz.ntmps90
 go_wp2_with fail
 go_loop [3, 5, 11] (fun z s i => ∃ k : Nat, k ≤ ss.length ∧ i = .int .i64 k ∧ z = .int .i64 (sumN (ss.take k))) (fun _ _ i => ss.length - (intOf i).toNat)
 case atStart => exact ⟨0, Nat.zero_le _, rfl, rfl⟩
 case round =>
  obtain ⟨k, hkl, rfl, rfl⟩ := hrel
  by_cases hlt : k < ss.length
  ·obtain ⟨b, o, rfl, hbs, hc⟩ := hr k (by simpa using hlt)
   have hsn := sumN_take ss k hlt
   have hle := sumN_le ss (k + 1)
   have HS := Lib.hid hsn
   have hb1 : (sumN (ss.take k) : Int) + (ss[k].n : Int) ≤ 67108864 := by omega
   have hc' : w.cell? ⟨b, o + k, none⟩ = some (.slice ss[k].A ss[k].n ss[k].c) := by simpa [SrcOf.val] using hc
   clear hsn hle hc
   go_wp2_with fail
   go_round
   case rel => exact ⟨k + 1, by omega, by go_num, by rw [HS.out]; go_num⟩
   case measure => simp [intOf] <;> omega
  ·obtain rfl : k = ss.length := by omega
   rw [List.take_length]
   go_wp2_with fail
   refine (growBytes_calls (sumN ss) w (by omega)).mono ?_
   rintro e w1 ⟨A0, c0, rfl, hO, hB⟩
   have HR := Lib.hid hr
   have HQ := Lib.hid hs
   clear hr hs
   go_wp2_with fail
   go_loopw [6, 8, 27] (fun z s i wr => ∃ (k : Nat) (A1 : Option Addr) (c1 : Nat), k ≤ ss.length ∧ i = .int .i64 k ∧ z = .slice A1 (sumN (ss.take k)) c1 ∧ Own wr w.heap.size 5 1 A1 (sumN (ss.take k)) c1 ((ss.take k).flatMap SrcOf.cells) ∧ Below w.heap.size w wr) (fun _ _ i _ => ss.length - (intOf i).toNat)
   case atStart => exact ⟨0, A0, c0, Nat.zero_le _, rfl, rfl, hO, hB⟩
   case round =>
    obtain ⟨k, A1, c1, hkl, rfl, rfl, hO1, hB1⟩ := hrel
    have hr2 := HR.out.stays hB1
    have hs2 : ∀ s ∈ ss, s.ok wr 1 := fun s h => (HQ.out s h).stays hB1
    by_cases hlt : k < ss.length
    ·obtain ⟨b, o, rfl, hbs, hc⟩ := hr2 k (by simpa using hlt)
     have hsn := sumN_take ss k hlt
     have hle := sumN_le ss (k + 1)
     have hfl : (ss.take (k + 1)).flatMap SrcOf.cells = (ss.take k).flatMap SrcOf.cells ++ ss[k].cells := by
      rw [List.take_succ_eq_append_getElem hlt, List.flatMap_append]; simp
     have HS := Lib.hid hsn
     have HF := Lib.hid hfl
     obtain ⟨q1, q2, q3⟩ := hs2 ss[k] (List.getElem_mem hlt)
     have Q1 := Lib.hid q1
     have hb1 : sumN (ss.take k) + ss[k].n ≤ 1073741824 := by omega
     have hb2 : w.heap.size ≤ wr.heap.size := hB1.size
     have hc' : wr.cell? ⟨b, o + k, none⟩ = some (.slice ss[k].A ss[k].n ss[k].c) := by simpa [SrcOf.val] using hc
     clear hsn hle hc hfl q1 hr2 hs2
     go_wp2_with (at_builtin; refine wpList_app _ rfl _ _ 23 rfl elBytes w.heap.size A1 (sumN (ss.take k)) c1 _ rfl hO1 ss[k].A ss[k].n ss[k].c ss[k].cells rfl q2 Q1.out q3 hb1 hb2 ?_; intro A' c' w2 hown hg hb hx)
     have hfin : Own w2 w.heap.size 5 1 A' (sumN (ss.take (k + 1))) c' ((ss.take (k + 1)).flatMap SrcOf.cells) := by rw [HS.out, HF.out]; exact hown
     have hB2 := hB1.trans hb
     clear hown hg hb hx q2 q3 hc' hbs
     go_roundw
     case rel => exact ⟨k + 1, A', c', by omega, by go_num, by rw [HS.out], hfin, hB2⟩
     case measure => simp [intOf] <;> omega
    ·obtain rfl : k = ss.length := by omega
     rw [List.take_length] at hO1
     clear hr2 hs2
     go_wp2_with fail
     go_ret
     exact ⟨_, _, by rw [List.take_length]; rfl, hO1, hB1⟩
def BtRet (w : World) (l : List UInt8) : Ending → World → Prop := fun en w' =>
 ∃ A c, en = .returned (.slice A l.length c) ∧ Own w' w.heap.size 5 1 A l.length c (l.map bv) ∧ Below w.heap.size w w'
theorem src_blk {cs : Array Value} {fr : Nat × Nat} (h : w.heap[g]? = some (.cells cs t fr)) : Src w (some ⟨g, 0, none⟩) cs.toList := by
 intro i hi
 refine ⟨_, _, rfl, blk_lt h, ?_⟩
 rw [cell_of_row _ _ _ _ _ _ h]
 simp
theorem bv_one (l : List UInt8) : ∀ u ∈ l.map bv, u.oneCell' = true := by
 intro u hu
 obtain ⟨x, _, rfl⟩ := List.mem_map.1 hu
 rfl
def srcB (A : Option Addr) (l : List UInt8) (c : Nat) : SrcOf := ⟨A, l.length, c, l.map bv⟩
theorem srcB_ok {l : List UInt8} (h : Bts w A l) : (srcB A l c).ok w 1 := ⟨by simp [srcB], h.src, bv_one l⟩
theorem concat2_calls {B : Option Addr} {a b : List UInt8} {d : Nat} {fr : Nat × Nat} (h : w.heap[g]? = some (.cells #[.slice A a.length c, .slice B b.length d] t fr))
  (hl : a.length + b.length ≤ 67108864) (ha : Bts w A a) (hb : Bts w B b) :
  Calls Tryz.prog 90 #[.slice (some ⟨g, 0, none⟩) 2 2] w (BtRet w (a ++ b)) := by
 refine (concatBytes_calls [srcB A a c, srcB B b d] (some ⟨g, 0, none⟩) 2 w (by simp) (by simp [sumN, srcB]; omega) (src_blk h) (fun s hs => ?_)).mono ?_
 ·simp only [List.mem_cons, List.not_mem_nil, or_false] at hs
  rcases hs with rfl | rfl
  ·exact srcB_ok ha
  ·exact srcB_ok hb
 ·rintro e w' ⟨A', c', rfl, ho, hbel⟩
  have e1 : sumN [srcB A a c, srcB B b d] = (a ++ b).length := by simp [sumN, srcB]
  have e2 : [srcB A a c, srcB B b d].flatMap SrcOf.cells = (a ++ b).map bv := by simp [srcB]
  rw [e1, e2] at ho
  rw [e1]
  exact ⟨A', c', rfl, ho, hbel⟩
theorem concat3_calls {B C : Option Addr} {a b l : List UInt8} {d k : Nat} {fr : Nat × Nat} (h : w.heap[g]? = some (.cells #[.slice A a.length c, .slice B b.length d, .slice C l.length k] t fr))
  (hl : a.length + b.length + l.length ≤ 67108864) (ha : Bts w A a) (hb : Bts w B b) (hc : Bts w C l) :
  Calls Tryz.prog 90 #[.slice (some ⟨g, 0, none⟩) 3 3] w (BtRet w (a ++ b ++ l)) := by
 refine (concatBytes_calls [srcB A a c, srcB B b d, srcB C l k] (some ⟨g, 0, none⟩) 3 w (by simp) (by simp [sumN, srcB]; omega) (src_blk h) (fun s hs => ?_)).mono ?_
 ·simp only [List.mem_cons, List.not_mem_nil, or_false] at hs
  rcases hs with rfl | rfl | rfl
  ·exact srcB_ok ha
  ·exact srcB_ok hb
  ·exact srcB_ok hc
 ·rintro e w' ⟨A', c', rfl, ho, hbel⟩
  have e1 : sumN [srcB A a c, srcB B b d, srcB C l k] = (a ++ b ++ l).length := by simp [sumN, srcB] <;> omega
  have e2 : [srcB A a c, srcB B b d, srcB C l k].flatMap SrcOf.cells = (a ++ b ++ l).map bv := by simp [srcB]
  rw [e1, e2] at ho
  rw [e1]
  exact ⟨A', c', rfl, ho, hbel⟩
def Box (w : World) (g : Nat) (T : TypeId) (v : Value) : Prop := w.heap[g]? = some (.cells #[v] T (0, 0))
theorem Own.same {w' : World} {base e size n : Nat} {xs : List Value} (h : Own w base e size A n c xs) (hk : ∀ k, A.map (·.block) = some k → w'.heap[k]? = w.heap[k]?) : Own w' base e size A n c xs := by
 obtain ⟨h1, h2⟩ := h
 refine ⟨h1, ?_⟩
 rcases h2 with h2 | ⟨g, cap, cur, hv, hg, hh, r⟩
 ·exact Or.inl h2
 ·refine Or.inr ⟨g, cap, cur, hv, hg, ?_, r⟩
  injection hv with hA _ _
  rw [hk g (by rw [hA]; rfl)]
  exact hh
section
open Go.RowKit
end
theorem dc_many (h : 40 < l.length ∨ old < 0 ∨ 64 < old ∨ size < 0 ∨ 64 < size) : deltaCheck l old size = 1 := by unfold deltaCheck; rw [if_pos h]
theorem dc_go (h : ¬ (40 < l.length ∨ old < 0 ∨ 64 < old ∨ size < 0 ∨ 64 < size)) : deltaCheck l old size = stepsCheck old l size := by unfold deltaCheck; rw [if_neg h]
theorem sc_form (h : ¬ o.form) : stepsCheck old (o :: l) size = 3 := by unfold stepsCheck; rw [if_pos h]
theorem sc_range (h : o.form) (g : ¬ o.in_ old) : stepsCheck old (o :: l) size = 2 := by unfold stepsCheck; rw [if_neg (by simpa using h), if_pos g]
theorem sc_many (h : o.form) (g : o.in_ old) (k : size < o.n) : stepsCheck old (o :: l) size = 1 := by unfold stepsCheck; rw [if_neg (by simpa using h), if_neg (by simpa using g), if_pos k]
theorem sc_on (h : o.form) (g : o.in_ old) (k : ¬ size < o.n) : stepsCheck old (o :: l) size = stepsCheck old l (size - o.n) := by
 conv => lhs; unfold stepsCheck
 rw [if_neg (by simpa using h), if_neg (by simpa using g), if_neg k]
def ScAt (old : Int) (l : List Stp) (size : Int) (k : Nat) (s : Int) : Prop := stepsCheck old (l.drop k) s = stepsCheck old l size
theorem ScAt.here {s : Int} {k : Nat} (h : ScAt old l size k s) (hk : k < l.length) : stepsCheck old (l[k] :: l.drop (k + 1)) s = stepsCheck old l size := by
 unfold ScAt at h; rwa [List.drop_eq_getElem_cons hk] at h
theorem deltaCheck_calls (A : Option Addr) (c : Nat) (l : List Stp) (old size : Int) (w : World) (hl : l.length ≤ 1048576) (hr : Sps w A l) :
  Calls Tryz.prog 103 #[.slice A l.length c, iv old, iv size] w (RetB w (iv (deltaCheck l old size))) := by
 by_cases hm : 40 < l.length ∨ old < 0 ∨ 64 < old ∨ size < 0 ∨ 64 < size
 ·have HR := Lib.hid (dc_many hm)
  by_cases h1 : 40 < l.length
  ·have h1' : (40 : Int) < (l.length : Int) := by omega
   clear hm h1
   go_enter Tryz.func103, Tryz.ntmps103
   go_wp2_with fail
   go_ret
   exact ⟨ret_int HR.out.symm, Below.refl _ _⟩
  have h1' : ¬ (40 : Int) < (l.length : Int) := by omega
  by_cases h2 : old < 0
  ·clear hm h1
   go_enter Tryz.func103, Tryz.ntmps103
   go_wp2_with fail
   go_ret
   exact ⟨ret_int HR.out.symm, Below.refl _ _⟩
  by_cases h3 : 64 < old
  ·clear hm h1
   go_enter Tryz.func103, Tryz.ntmps103
   go_wp2_with fail
   go_ret
   exact ⟨ret_int HR.out.symm, Below.refl _ _⟩
  by_cases h4 : size < 0
  ·clear hm h1
   go_enter Tryz.func103, Tryz.ntmps103
   go_wp2_with fail
   go_ret
   exact ⟨ret_int HR.out.symm, Below.refl _ _⟩
  have h5 : 64 < size := by omega
  clear hm h1
  go_enter Tryz.func103, Tryz.ntmps103
  go_wp2_with fail
  go_ret
  exact ⟨ret_int HR.out.symm, Below.refl _ _⟩
 ·have HR := Lib.hid (dc_go hm)
  have h1 : ¬ (40 : Int) < (l.length : Int) := by omega
  have h2 : ¬ old < 0 := by omega
  have h3 : ¬ 64 < old := by omega
  have h4 : ¬ size < 0 := by omega
  have h5 : ¬ 64 < size := by omega
  have h6 : l.length ≤ 40 := by omega
  clear hm
  go_enter Tryz.func103, Tryz.ntmps103
  go_wp2_with fail
  go_loopw [31, 2] (fun i s wr => ∃ (k : Nat) (z : Int), k ≤ l.length ∧ i = .int .i64 k ∧ s = .int .i64 z ∧ 0 ≤ z ∧ z ≤ 64 ∧ Hid (ScAt old l size k z) ∧ Hid (Below w.heap.size w wr)) (fun i _ _ => l.length - (intOf i).toNat)
  case atStart => exact ⟨0, size, Nat.zero_le _, rfl, rfl, by omega, by omega, Lib.hid (by unfold ScAt; rw [List.drop_zero]), Lib.hid (Below.refl _ _)⟩
  case round =>
   clear h4 h5
   obtain ⟨k, z, hk, rfl, rfl, hz0, hz1, HS, HB⟩ := hrel
   by_cases hlt : k < l.length
   ·obtain ⟨b, o, B, cc, rfl, hs, hc0, hc1, hc2, hd1, hd2, -, hi0, hi1⟩ := (hr.stays HB.out).at_ hlt
    have HH := Lib.hid (HS.out.here hlt)
    have hsz := HB.out.size
    clear HS
    unfold I64 at hi0 hi1
    obtain ⟨i00, i01⟩ := hi0
    obtain ⟨i10, i11⟩ := hi1
    generalize hx : l[k] = x at *
    clear hx
    obtain ⟨at_, len, data⟩ := x
    dsimp only at *
    have hdl : 0 ≤ (data.length : Int) := by omega
    by_cases hf : (⟨at_, len, data⟩ : Stp).form
    ·by_cases hin : (⟨at_, len, data⟩ : Stp).in_ old
     ·have hn : (⟨at_, len, data⟩ : Stp).n = len + data.length := rfl
      have hin' := hin
      unfold Stp.in_ at hin'
      dsimp only at hin'
      obtain ⟨j1, j2, j3⟩ := hin'
      have hf' := hf
      unfold Stp.form at hf'
      dsimp only at hf'
      by_cases hzn : z < len + data.length
      ·have HE := Lib.hid (HH.out.symm.trans (sc_many hf hin (by rw [hn]; exact hzn)))
       clear hf hin hn HH
       by_cases e0 : len = 0
       ·obtain ⟨rfl, e2, e3⟩ := hf'.1 e0
        subst e0
        have e4 : 1 ≤ data.length := by rcases data with _ | ⟨y, d⟩; exact absurd rfl e2; simp
        have q1 : ((data.length : Int) == 0) = false := by simp; omega
        have q2 : ¬ (64 : Int) < (data.length : Int) := by omega
        clear hf' e2
        go_wp2_with fail
        go_ret
        exact ⟨ret_int (by rw [HR.out, HE.out]), (HB.out.alloc hsz _)⟩
       ·have e2 := hf'.2 e0
        subst e2
        have q1 : (len == 0) = false := by simp [e0]
        have q2 : (len != 0) = true := by simp [e0]
        clear hf' e0
        simp only [List.length_nil, Int.ofNat_eq_natCast, Int.natCast_zero, Int.add_zero] at *
        go_wp2_with fail
        go_ret
        exact ⟨ret_int (by rw [HR.out, HE.out]), (HB.out.alloc hsz _)⟩
      ·have HE := Lib.hid ((sc_on hf hin (by rw [hn]; exact hzn)).symm.trans HH.out)
       clear hf hin HH
       rw [hn] at HE
       clear hn
       by_cases e0 : len = 0
       ·obtain ⟨rfl, e2, e3⟩ := hf'.1 e0
        subst e0
        have e4 : 1 ≤ data.length := by rcases data with _ | ⟨y, d⟩; exact absurd rfl e2; simp
        have q1 : ((data.length : Int) == 0) = false := by simp; omega
        have q2 : ¬ (64 : Int) < (data.length : Int) := by omega
        clear hf' e2
        go_wp2_with fail
        go_roundw
        case rel => exact ⟨k + 1, z - (0 + data.length), by omega, by go_num, by simp, by omega, by omega, HE, Lib.hid (HB.out.alloc hsz _)⟩
        case measure => simp [intOf]; omega
       ·have e2 := hf'.2 e0
        subst e2
        have q1 : (len == 0) = false := by simp [e0]
        have q2 : (len != 0) = true := by simp [e0]
        clear hf' e0
        have HE2 : Hid (ScAt old l size (k + 1) (z - len)) := by
         have := HE.out
         refine Lib.hid ?_
         simpa [ScAt] using this
        clear HE
        simp only [List.length_nil, Int.ofNat_eq_natCast, Int.natCast_zero, Int.add_zero] at *
        go_wp2_with fail
        go_roundw
        case rel => exact ⟨k + 1, z - len, by omega, by go_num, by simp, by omega, by omega, HE2, Lib.hid (HB.out.alloc hsz _)⟩
        case measure => simp [intOf]; omega
     ·have HE := Lib.hid (HH.out.symm.trans (sc_range hf hin))
      have hf' := hf
      unfold Stp.form at hf'
      dsimp only at hf'
      have hin' := hin
      unfold Stp.in_ at hin'
      dsimp only at hin'
      clear hf hin HH
      have e0 : len ≠ 0 := by
       intro e0
       obtain ⟨e1, _, _⟩ := hf'.1 e0
       omega
      have e2 := hf'.2 e0
      subst e2
      have q1 : (len == 0) = false := by simp [e0]
      have q2 : (len != 0) = true := by simp [e0]
      clear hf' e0
      simp only [List.length_nil, Int.ofNat_eq_natCast, Int.natCast_zero, Int.add_zero] at *
      have HI := Lib.hid hin'
      clear hin'
      by_cases r1 : len < 0
      ·go_wp2_with fail
       go_ret
       exact ⟨ret_int (by rw [HR.out, HE.out]), (HB.out.alloc hsz _)⟩
      by_cases r2 : at_ < 0
      ·go_wp2_with fail
       go_ret
       exact ⟨ret_int (by rw [HR.out, HE.out]), (HB.out.alloc hsz _)⟩
      by_cases r3 : old < len
      ·go_wp2_with fail
       go_ret
       exact ⟨ret_int (by rw [HR.out, HE.out]), (HB.out.alloc hsz _)⟩
      have r4 : old - len < at_ := by have := HI.out; omega
      go_wp2_with fail
      go_ret
      exact ⟨ret_int (by rw [HR.out, HE.out]), (HB.out.alloc hsz _)⟩
    ·have HE := Lib.hid (HH.out.symm.trans (sc_form hf))
     have hf' := hf
     unfold Stp.form at hf'
     dsimp only at hf'
     clear hf HH
     by_cases e0 : len = 0
     ·subst e0
      by_cases e1 : at_ = 0
      ·subst e1
       by_cases e2 : data = []
       ·subst e2
        clear hf'
        simp only [List.length_nil, Int.ofNat_eq_natCast, Int.natCast_zero, Int.add_zero] at *
        go_wp2_with fail
        go_ret
        exact ⟨ret_int (by rw [HR.out, HE.out]), (HB.out.alloc hsz _)⟩
       ·have e4 : 1 ≤ data.length := by rcases data with _ | ⟨y, d⟩; exact absurd rfl e2; simp
        have e3 : (64 : Int) < (data.length : Int) := by
         by_cases g : data.length ≤ 64
         ·exact absurd ⟨fun _ => ⟨rfl, e2, g⟩, fun h => absurd rfl h⟩ hf'
         ·omega
        have q1 : ((data.length : Int) == 0) = false := by simp; omega
        clear hf' e2
        go_wp2_with fail
        go_ret
        exact ⟨ret_int (by rw [HR.out, HE.out]), (HB.out.alloc hsz _)⟩
      ·have q1 : (at_ != 0) = true := by simp [e1]
       clear hf' e1
       go_wp2_with fail
       go_ret
       exact ⟨ret_int (by rw [HR.out, HE.out]), (HB.out.alloc hsz _)⟩
     ·have e2 : data ≠ [] := fun e => hf' ⟨fun h => absurd h e0, fun _ => e⟩
      have e4 : 1 ≤ data.length := by rcases data with _ | ⟨y, d⟩; exact absurd rfl e2; simp
      have q1 : (len == 0) = false := by simp [e0]
      have q2 : (len != 0) = true := by simp [e0]
      have q3 : (0 : Int) < (data.length : Int) := by omega
      clear hf' e0 e2
      go_wp2_with fail
      go_ret
      exact ⟨ret_int (by rw [HR.out, HE.out]), (HB.out.alloc hsz _)⟩
   ·obtain rfl : k = l.length := by omega
    have HE : Hid (stepsCheck old l size = if z = 0 then 0 else 3) := by
     have := HS.out
     unfold ScAt at this
     rw [List.drop_length] at this
     rw [← this]; rfl
    clear HS
    by_cases e : z = 0
    ·have HF := Lib.hid (HE.out.trans (if_pos e))
     subst e
     go_wp2_with fail
     go_ret
     exact ⟨ret_int (by rw [HR.out, HF.out]), HB.out⟩
    ·have HF := Lib.hid (HE.out.trans (if_neg e))
     have q : (z != 0) = true := by simp [e]
     clear e
     go_wp2_with fail
     go_ret
     exact ⟨ret_int (by rw [HR.out, HF.out]), HB.out⟩
theorem patCheck_bad {p : Pat} (h : ¬ p.range) : patCheck p = 2 := by unfold patCheck; rw [if_pos h]
theorem patCheck_in {p : Pat} (h : p.range) : patCheck p = deltaCheck p.ops 64 p.size := by unfold patCheck; rw [if_neg (by simpa using h)]
theorem patCheckA_calls (A : Option Addr) (c : Nat) (f t o n sz : Int) (l : List Stp) (w : World) (hl : l.length ≤ 1048576) (hs : Sps w A l) :
  Calls Tryz.prog 88 #[.agg #[iv f, iv t, iv o, iv n, iv sz, .slice A l.length c]] w (RetB w (iv (patCheck ⟨f, t, o, n, sz, l⟩))) := by
 have hb : Below w.heap.size w (w.alloc (.cells #[iv f, iv t, iv o, iv n, iv sz, .slice A l.length c] 36)) := (Below.refl _ _).alloc (Nat.le_refl _) _
 have HB := Lib.hid hb
 have HC := Lib.hid (deltaCheck_calls A c l 64 sz _ hl (hs.stays hb))
 clear hb hs
 by_cases h0 : f < (1 : Int)
 ·have hz := Lib.hid (patCheck_bad (p := ⟨f, t, o, n, sz, l⟩) (by unfold Pat.range; dsimp only; omega))
  clear HC
  go_enter Tryz.func88, Tryz.ntmps88
  go_wp2_with fail
  go_ret
  exact ⟨ret_int hz.out.symm, HB.out⟩
 by_cases h1 : (30 : Int) < f
 ·have hz := Lib.hid (patCheck_bad (p := ⟨f, t, o, n, sz, l⟩) (by unfold Pat.range; dsimp only; omega))
  clear HC
  go_enter Tryz.func88, Tryz.ntmps88
  go_wp2_with fail
  go_ret
  exact ⟨ret_int hz.out.symm, HB.out⟩
 by_cases h2 : t < (1 : Int)
 ·have hz := Lib.hid (patCheck_bad (p := ⟨f, t, o, n, sz, l⟩) (by unfold Pat.range; dsimp only; omega))
  clear HC
  go_enter Tryz.func88, Tryz.ntmps88
  go_wp2_with fail
  go_ret
  exact ⟨ret_int hz.out.symm, HB.out⟩
 by_cases h3 : (30 : Int) < t
 ·have hz := Lib.hid (patCheck_bad (p := ⟨f, t, o, n, sz, l⟩) (by unfold Pat.range; dsimp only; omega))
  clear HC
  go_enter Tryz.func88, Tryz.ntmps88
  go_wp2_with fail
  go_ret
  exact ⟨ret_int hz.out.symm, HB.out⟩
 by_cases h4 : o < (0 : Int)
 ·have hz := Lib.hid (patCheck_bad (p := ⟨f, t, o, n, sz, l⟩) (by unfold Pat.range; dsimp only; omega))
  clear HC
  go_enter Tryz.func88, Tryz.ntmps88
  go_wp2_with fail
  go_ret
  exact ⟨ret_int hz.out.symm, HB.out⟩
 by_cases h5 : (65535 : Int) < o
 ·have hz := Lib.hid (patCheck_bad (p := ⟨f, t, o, n, sz, l⟩) (by unfold Pat.range; dsimp only; omega))
  clear HC
  go_enter Tryz.func88, Tryz.ntmps88
  go_wp2_with fail
  go_ret
  exact ⟨ret_int hz.out.symm, HB.out⟩
 by_cases h6 : n < (0 : Int)
 ·have hz := Lib.hid (patCheck_bad (p := ⟨f, t, o, n, sz, l⟩) (by unfold Pat.range; dsimp only; omega))
  clear HC
  go_enter Tryz.func88, Tryz.ntmps88
  go_wp2_with fail
  go_ret
  exact ⟨ret_int hz.out.symm, HB.out⟩
 by_cases h7 : (65535 : Int) < n
 ·have hz := Lib.hid (patCheck_bad (p := ⟨f, t, o, n, sz, l⟩) (by unfold Pat.range; dsimp only; omega))
  clear HC
  go_enter Tryz.func88, Tryz.ntmps88
  go_wp2_with fail
  go_ret
  exact ⟨ret_int hz.out.symm, HB.out⟩
 have hz := Lib.hid (patCheck_in (p := ⟨f, t, o, n, sz, l⟩) (by unfold Pat.range; dsimp only; omega))
 go_enter Tryz.func88, Tryz.ntmps88
 go_wp2_with fail
 refine HC.out.mono ?_
 rintro e w1 ⟨rfl, hb1⟩
 have HB1 := Lib.hid (HB.out.trans (hb1.mono HB.out.size))
 clear hb1
 go_wp2_with fail
 go_ret
 exact ⟨ret_int hz.out.symm, HB1.out⟩
section
open Go.RowKit
end
section
variable (A : Option Addr) (c : Nat) (l : List UInt8) (w : World)
theorem sumOf_calls (hl : l.length ≤ 67108864) (hr : Bts w A l) :
  Calls Tryz.prog 73 #[.slice A l.length c] w (Ret w (iv (sumOn 1 l))) := by
 go_enter Tryz.func73, Tryz.ntmps73
 go_wp2
 go_loop [3, 5, 8] (fun s x i => ∃ k : Nat, k ≤ l.length ∧ i = .int .i64 k ∧ s = .int .i64 (sumOn 1 (l.take k))) (fun _ _ i => l.length - (intOf i).toNat)
 case atStart => exact ⟨0, Nat.zero_le _, rfl, rfl⟩
 case round =>
  obtain ⟨k, hk, rfl, rfl⟩ := hrel
  have hb := sumOn_bd 1 (l.take k) (by omega)
  by_cases hlt : k < l.length
  ·obtain ⟨b, o, rfl, hbs, hc⟩ := hr k hlt
   have hx := l[k].toNat_lt
   have HS : Hid (sumOn 1 (l.take (k + 1)) = (sumOn 1 (l.take k) * 31 + (l[k].toNat : Int)) % 65521) := sumOn_take 1 l k hlt
   go_wp2
   go_round
   case rel => exact ⟨k + 1, by omega, by go_num, by rw [HS.out]⟩
   case measure => simp [intOf] <;> omega
  ·go_wp2
   go_ret
   exact ⟨ret_int (by rw [List.take_of_length_le (by omega)]), rfl⟩
end
theorem recCheck_range (g ac : Int) (tr : Bool) (ts fl va sa ca vb sb cb : Int) (w : World) (h : ¬ (1 ≤ g ∧ g ≤ 1000000 ∧ 0 ≤ ac ∧ ac ≤ 1 ∧ 0 ≤ ts ∧ ts ≤ 3 ∧ 1 ≤ fl ∧ fl ≤ 30)) :
  Calls Tryz.prog 68 #[.agg #[iv g, iv ac, .bool tr, iv ts, iv fl, iv va, iv sa, iv ca, iv vb, iv sb, iv cb]] w (RetB w (iv 2)) := by
 have H := Lib.hid h
 clear h
 go_enter Tryz.func68, Tryz.ntmps68
 go_wp2_with fail
 all_goals first | (go_ret; exact ⟨rfl, (Below.refl _ _).alloc (Nat.le_refl _) _⟩) | (exfalso; have h := H.out; omega)
theorem recCheck_rest (g ac : Int) (tr : Bool) (ts fl va sa ca vb sb cb : Int) (w : World) (h1 : 1 ≤ g) (h2 : g ≤ 1000000) (h3 : 0 ≤ ac) (h4 : ac ≤ 1) (h5 : 0 ≤ ts) (h6 : ts ≤ 3) (h7 : 1 ≤ fl) (h8 : fl ≤ 30) :
  Calls Tryz.prog 68 #[.agg #[iv g, iv ac, .bool tr, iv ts, iv fl, iv va, iv sa, iv ca, iv vb, iv sb, iv cb]] w (RetB w (iv (recCheck ⟨g, ac, tr, ts, fl, ⟨va, sa, ca⟩, ⟨vb, sb, cb⟩⟩))) := by
 have i0 : ∀ w, (Instr.index 27 (.agg #[iv va, iv sa, iv ca, iv vb, iv sb, iv cb]) (.int .i64 0)).run Tryz.prog w = .ok (.agg #[iv va, iv sa, iv ca]) w := fun _ => by kernel_rfl
 have i1 : ∀ w, (Instr.index 27 (.agg #[iv va, iv sa, iv ca, iv vb, iv sb, iv cb]) (.int .i64 1)).run Tryz.prog w = .ok (.agg #[iv vb, iv sb, iv cb]) w := fun _ => by kernel_rfl
 go_enter Tryz.func68, Tryz.ntmps68
 go_wp2_with fail
 go_loopw [45] (fun i wr => ∃ k : Nat, k ≤ 2 ∧ i = .int .i64 k ∧ Below w.heap.size w wr ∧ (wr.heap[w.heap.size]? = some (.cells #[iv g, iv ac, .bool tr, iv ts, iv fl, iv va, iv sa, iv ca, iv vb, iv sb, iv cb] 29)) ∧ (0 < k → infCheck ⟨va, sa, ca⟩ = 0) ∧ (1 < k → infCheck ⟨vb, sb, cb⟩ = 0)) (fun i _ => (2 - intOf i).toNat)
 case atStart => exact ⟨0, by omega, rfl, (Below.refl _ _).alloc (Nat.le_refl _) _, blk_top rfl, by omega, by omega⟩
 case round =>
  obtain ⟨k, hk, rfl, hB, hblk, ha, hb⟩ := hrel
  have hrg : RangeOk ⟨g, ac, tr, ts, fl, ⟨va, sa, ca⟩, ⟨vb, sb, cb⟩⟩ := ⟨h1, h2, h3, h4, h5, h6, h7, h8⟩
  have HR := Lib.hid hrg
  clear hrg
  by_cases hlt : k < 2
  ·rcases (show k = 0 ∨ k = 1 by omega) with rfl | rfl
   ·have HK := Lib.hid hblk
    clear hblk ha hb
    by_cases hI : InfRange ⟨va, sa, ca⟩
    ·obtain ⟨j1, j2, j3, j4, j5, j6⟩ := hI
     simp only at j1 j2 j3 j4 j5 j6
     by_cases hv : va = 0
     ·subst hv
      by_cases hz : sa = 0 ∧ ca = 0
      ·obtain ⟨rfl, rfl⟩ := hz
       have HI : Hid (infCheck ⟨0, 0, 0⟩ = 0) := infCheck_ok ⟨j1, j2, j3, j4, j5, j6⟩ (fun _ => ⟨rfl, rfl⟩)
       clear j1 j2 j3 j4 j5 j6
       go_wp2_with fail
       go_roundw
       case rel => exact ⟨1, by omega, rfl, hB.alloc hB.size _, blk_old HK.out, fun _ => HI.out, by omega⟩
       case measure => simp [intOf] <;> omega
      ·have HF := Lib.hid (recCheck_a HR.out (infCheck_form ⟨j1, j2, j3, j4, j5, j6⟩ rfl hz) (by omega))
       have HZ := Lib.hid hz
       clear hz
       go_wp2_with fail
       all_goals first | (go_ret; exact ⟨ret_int HF.out.symm, hB.alloc hB.size _⟩) | (exfalso; have h := HZ.out; omega)
     ·have HI : Hid (infCheck ⟨va, sa, ca⟩ = 0) := infCheck_ok ⟨j1, j2, j3, j4, j5, j6⟩ (fun h => absurd h hv)
      have hv0 : (va == 0) = false := by rw [beq_eq_false_iff_ne]; exact hv
      clear hv
      go_wp2_with fail
      go_roundw
      case rel => exact ⟨1, by omega, rfl, hB.alloc hB.size _, blk_old HK.out, fun _ => HI.out, by omega⟩
      case measure => simp [intOf] <;> omega
    ·have HF := Lib.hid (recCheck_a HR.out (infCheck_bad hI) (by omega))
     have HI := Lib.hid hI
     clear hI
     go_wp2_with fail
     all_goals first | (go_ret; exact ⟨ret_int HF.out.symm, hB.alloc hB.size _⟩) | (exfalso; have h := HI.out; unfold InfRange at h; simp only at h; omega)
   ·have HK := Lib.hid hblk
    have HA := Lib.hid (ha (by omega))
    clear hblk ha hb
    by_cases hI : InfRange ⟨vb, sb, cb⟩
    ·obtain ⟨j1, j2, j3, j4, j5, j6⟩ := hI
     simp only at j1 j2 j3 j4 j5 j6
     by_cases hv : vb = 0
     ·subst hv
      by_cases hz : sb = 0 ∧ cb = 0
      ·obtain ⟨rfl, rfl⟩ := hz
       have HI : Hid (infCheck ⟨0, 0, 0⟩ = 0) := infCheck_ok ⟨j1, j2, j3, j4, j5, j6⟩ (fun _ => ⟨rfl, rfl⟩)
       clear j1 j2 j3 j4 j5 j6
       go_wp2_with fail
       go_roundw
       case rel => exact ⟨2, by omega, rfl, hB.alloc hB.size _, blk_old HK.out, fun _ => HA.out, fun _ => HI.out⟩
       case measure => simp [intOf] <;> omega
      ·have HF := Lib.hid (recCheck_b HR.out HA.out (infCheck_form ⟨j1, j2, j3, j4, j5, j6⟩ rfl hz) (by omega))
       have HZ := Lib.hid hz
       clear hz
       go_wp2_with fail
       all_goals first | (go_ret; exact ⟨ret_int HF.out.symm, hB.alloc hB.size _⟩) | (exfalso; have h := HZ.out; omega)
     ·have HI : Hid (infCheck ⟨vb, sb, cb⟩ = 0) := infCheck_ok ⟨j1, j2, j3, j4, j5, j6⟩ (fun h => absurd h hv)
      have hv0 : (vb == 0) = false := by rw [beq_eq_false_iff_ne]; exact hv
      clear hv
      go_wp2_with fail
      go_roundw
      case rel => exact ⟨2, by omega, rfl, hB.alloc hB.size _, blk_old HK.out, fun _ => HA.out, fun _ => HI.out⟩
      case measure => simp [intOf] <;> omega
    ·have HF := Lib.hid (recCheck_b HR.out HA.out (infCheck_bad hI) (by omega))
     have HI := Lib.hid hI
     clear hI
     go_wp2_with fail
     all_goals first | (go_ret; exact ⟨ret_int HF.out.symm, hB.alloc hB.size _⟩) | (exfalso; have h := HI.out; unfold InfRange at h; simp only at h; omega)
  ·obtain rfl : k = 2 := by omega
   have HA := Lib.hid (ha (by omega))
   have HB2 := Lib.hid (hb (by omega))
   clear ha hb
   have c0 : ∀ j, wr.cell? ⟨w.heap.size, j, none⟩ = (#[iv g, iv ac, .bool tr, iv ts, iv fl, iv va, iv sa, iv ca, iv vb, iv sb, iv cb] : Array Value)[j]? := fun j => cell_of_row _ _ _ _ _ _ hblk
   have k1 := c0 1
   have k2 := c0 2
   have k3 := c0 3
   have k4 := c0 4
   have k5 := c0 5
   have k8 := c0 8
   simp at k1 k2 k3 k4 k5 k8
   clear c0 hblk
   by_cases hF : FormOk ⟨g, ac, tr, ts, fl, ⟨va, sa, ca⟩, ⟨vb, sb, cb⟩⟩
   ·have HF := Lib.hid (recCheck_ok HR.out HA.out HB2.out hF)
    obtain ⟨f1, f2, f3, f4⟩ := hF
    rcases (show ac = 0 ∨ ac = 1 by omega) with rfl | rfl
    ·simp [Rec.at_] at f1 f2 f3 f4
     cases tr
     ·have e1 : (va == 0) = false := by rw [beq_eq_false_iff_ne]; simpa using f1
      have e2 : (ts != 0) = false := by have := f3 rfl; simp [this]
      have e4 : fl ≤ va := by simpa using f4
      clear f1 f2 f3 f4
      go_wp2_with fail
      go_quiet (fail)
      go_wp2_with fail
      go_ret
      exact ⟨ret_int HF.out.symm, Below.drewN' hB _⟩
     ·have e1 : (va == 0) = false := by rw [beq_eq_false_iff_ne]; simpa using f1
      have e2 : (vb == 0) = false := by rw [beq_eq_false_iff_ne]; simpa using (f2 rfl).1
      have e3 : fl ≤ vb := by simpa using (f2 rfl).2
      have d3 : decide (vb < fl) = false := by simpa using e3
      have e4 : fl ≤ va := by simpa using f4
      clear f1 f2 f3 f4
      go_wp2_with fail
      go_quiet (fail)
      go_wp2_with fail
      go_ret
      exact ⟨ret_int HF.out.symm, Below.drewN' hB _⟩
    ·simp [Rec.at_] at f1 f2 f3 f4
     cases tr
     ·have e1 : (vb == 0) = false := by rw [beq_eq_false_iff_ne]; simpa using f1
      have e2 : (ts != 0) = false := by have := f3 rfl; simp [this]
      have e4 : fl ≤ vb := by simpa using f4
      clear f1 f2 f3 f4
      go_wp2_with fail
      go_quiet (fail)
      go_wp2_with fail
      go_ret
      exact ⟨ret_int HF.out.symm, Below.drewN' hB _⟩
     ·have e1 : (vb == 0) = false := by rw [beq_eq_false_iff_ne]; simpa using f1
      have e2 : (va == 0) = false := by rw [beq_eq_false_iff_ne]; simpa using (f2 rfl).1
      have e3 : fl ≤ va := by simpa using (f2 rfl).2
      have d3 : decide (va < fl) = false := by simpa using e3
      have e4 : fl ≤ vb := by simpa using f4
      clear f1 f2 f3 f4
      go_wp2_with fail
      go_quiet (fail)
      go_wp2_with fail
      go_ret
      exact ⟨ret_int HF.out.symm, Below.drewN' hB _⟩
   ·have HF := Lib.hid (recCheck_form HR.out HA.out HB2.out hF)
    rcases (show ac = 0 ∨ ac = 1 by omega) with rfl | rfl
    ·cases tr
     ·have hn := hF
      clear hF
      by_cases n1 : va = 0
      ·have e1 : (va == 0) = true := by rw [beq_iff_eq]; exact n1
       clear n1
       clear hn
       go_wp2_with fail
       go_quiet (fail)
       go_wp2_with fail
       go_ret
       exact ⟨ret_int HF.out.symm, Below.drewN' hB _⟩
      have e1 : (va == 0) = false := by rw [beq_eq_false_iff_ne]; exact n1
      by_cases n2 : ts = 0
      ·have e2 : (ts != 0) = false := by simp [n2]
       have e4 : va < fl := by
        rcases Int.lt_or_le va fl with h | h
        ·exact h
        ·exact absurd ⟨by simpa [Rec.at_] using n1, by simp, fun _ => n2, by simpa [Rec.at_] using h⟩ hn
       clear n1 n2
       clear hn
       go_wp2_with fail
       go_quiet (fail)
       go_wp2_with fail
       go_ret
       exact ⟨ret_int HF.out.symm, Below.drewN' hB _⟩
      ·have e2 : (ts != 0) = true := by simp [n2]
       clear n1 n2
       clear hn
       go_wp2_with fail
       go_quiet (fail)
       go_wp2_with fail
       go_ret
       exact ⟨ret_int HF.out.symm, Below.drewN' hB _⟩
     ·have hn := hF
      clear hF
      by_cases n1 : va = 0
      ·have e1 : (va == 0) = true := by rw [beq_iff_eq]; exact n1
       clear n1
       clear hn
       go_wp2_with fail
       go_quiet (fail)
       go_wp2_with fail
       go_ret
       exact ⟨ret_int HF.out.symm, Below.drewN' hB _⟩
      have e1 : (va == 0) = false := by rw [beq_eq_false_iff_ne]; exact n1
      by_cases n2 : vb = 0
      ·have e2 : (vb == 0) = true := by rw [beq_iff_eq]; exact n2
       clear n1 n2
       clear hn
       go_wp2_with fail
       go_quiet (fail)
       go_wp2_with fail
       go_ret
       exact ⟨ret_int HF.out.symm, Below.drewN' hB _⟩
      have e2 : (vb == 0) = false := by rw [beq_eq_false_iff_ne]; exact n2
      by_cases n3 : vb < fl
      ·clear n1 n2
       clear hn
       go_wp2_with fail
       go_quiet (fail)
       go_wp2_with fail
       go_ret
       exact ⟨ret_int HF.out.symm, Below.drewN' hB _⟩
      have e3 : fl ≤ vb := by omega
      have d3 : decide (vb < fl) = false := by simpa using e3
      have e4 : va < fl := by
       rcases Int.lt_or_le va fl with h | h
       ·exact h
       ·exact absurd ⟨by simpa [Rec.at_] using n1, fun _ => ⟨by simpa [Rec.at_] using n2, by simpa [Rec.at_] using e3⟩, by simp, by simpa [Rec.at_] using h⟩ hn
      clear n1 n2 n3
      clear hn
      go_wp2_with fail
      go_quiet (fail)
      go_wp2_with fail
      go_ret
      exact ⟨ret_int HF.out.symm, Below.drewN' hB _⟩
    ·cases tr
     ·have hn := hF
      clear hF
      by_cases n1 : vb = 0
      ·have e1 : (vb == 0) = true := by rw [beq_iff_eq]; exact n1
       clear n1
       clear hn
       go_wp2_with fail
       go_quiet (fail)
       go_wp2_with fail
       go_ret
       exact ⟨ret_int HF.out.symm, Below.drewN' hB _⟩
      have e1 : (vb == 0) = false := by rw [beq_eq_false_iff_ne]; exact n1
      by_cases n2 : ts = 0
      ·have e2 : (ts != 0) = false := by simp [n2]
       have e4 : vb < fl := by
        rcases Int.lt_or_le vb fl with h | h
        ·exact h
        ·exact absurd ⟨by simpa [Rec.at_] using n1, by simp, fun _ => n2, by simpa [Rec.at_] using h⟩ hn
       clear n1 n2
       clear hn
       go_wp2_with fail
       go_quiet (fail)
       go_wp2_with fail
       go_ret
       exact ⟨ret_int HF.out.symm, Below.drewN' hB _⟩
      ·have e2 : (ts != 0) = true := by simp [n2]
       clear n1 n2
       clear hn
       go_wp2_with fail
       go_quiet (fail)
       go_wp2_with fail
       go_ret
       exact ⟨ret_int HF.out.symm, Below.drewN' hB _⟩
     ·have hn := hF
      clear hF
      by_cases n1 : vb = 0
      ·have e1 : (vb == 0) = true := by rw [beq_iff_eq]; exact n1
       clear n1
       clear hn
       go_wp2_with fail
       go_quiet (fail)
       go_wp2_with fail
       go_ret
       exact ⟨ret_int HF.out.symm, Below.drewN' hB _⟩
      have e1 : (vb == 0) = false := by rw [beq_eq_false_iff_ne]; exact n1
      by_cases n2 : va = 0
      ·have e2 : (va == 0) = true := by rw [beq_iff_eq]; exact n2
       clear n1 n2
       clear hn
       go_wp2_with fail
       go_quiet (fail)
       go_wp2_with fail
       go_ret
       exact ⟨ret_int HF.out.symm, Below.drewN' hB _⟩
      have e2 : (va == 0) = false := by rw [beq_eq_false_iff_ne]; exact n2
      by_cases n3 : va < fl
      ·clear n1 n2
       clear hn
       go_wp2_with fail
       go_quiet (fail)
       go_wp2_with fail
       go_ret
       exact ⟨ret_int HF.out.symm, Below.drewN' hB _⟩
      have e3 : fl ≤ va := by omega
      have d3 : decide (va < fl) = false := by simpa using e3
      have e4 : vb < fl := by
       rcases Int.lt_or_le vb fl with h | h
       ·exact h
       ·exact absurd ⟨by simpa [Rec.at_] using n1, fun _ => ⟨by simpa [Rec.at_] using n2, by simpa [Rec.at_] using e3⟩, by simp, by simpa [Rec.at_] using h⟩ hn
      clear n1 n2 n3
      clear hn
      go_wp2_with fail
      go_quiet (fail)
      go_wp2_with fail
      go_ret
      exact ⟨ret_int HF.out.symm, Below.drewN' hB _⟩
theorem recCheck_calls (g ac : Int) (tr : Bool) (ts fl va sa ca vb sb cb : Int) (w : World) :
  Calls Tryz.prog 68 #[.agg #[iv g, iv ac, .bool tr, iv ts, iv fl, iv va, iv sa, iv ca, iv vb, iv sb, iv cb]] w (RetB w (iv (recCheck ⟨g, ac, tr, ts, fl, ⟨va, sa, ca⟩, ⟨vb, sb, cb⟩⟩))) := by
 by_cases h : RangeOk ⟨g, ac, tr, ts, fl, ⟨va, sa, ca⟩, ⟨vb, sb, cb⟩⟩
 ·obtain ⟨h1, h2, h3, h4, h5, h6, h7, h8⟩ := h
  exact recCheck_rest g ac tr ts fl va sa ca vb sb cb w h1 h2 h3 h4 h5 h6 h7 h8
 ·rw [recCheck_bad h]
  exact recCheck_range g ac tr ts fl va sa ca vb sb cb w h
theorem equalBytes_calls (A B : Option Addr) (c d : Nat) (l m : List UInt8) (w : World) (hl : l.length ≤ 1048576) (hm : m.length ≤ 1048576) (ha : Bts w A l) (hb : Bts w B m) :
  Calls Tryz.prog 66 #[.slice A l.length c, .slice B m.length d] w (RetN w (.bool (decide (l = m)))) := by
 by_cases hne : l.length = m.length
 ·have hdl : ((l.length : Int) != (m.length : Int)) = false := by simp [hne]
  have HE := Lib.hid hne
  have hm1 : l.length ≤ m.length := by omega
  have hm2 : m.length ≤ l.length := by omega
  clear hne
  go_enter Tryz.func66, Tryz.ntmps66
  go_wp2
  go_loopw [5, 13] (fun u i wr => ∃ k n : Nat, k ≤ l.length ∧ i = .int .i64 k ∧ l.take k = m.take k ∧ w.drewN n = wr) (fun _ i _ => l.length - (intOf i).toNat)
  case atStart => exact ⟨0, 0, Nat.zero_le _, rfl, rfl, rfl⟩
  case round =>
   obtain ⟨k, n, hk, rfl, ht, rfl⟩ := hrel
   have HT := Lib.hid ht
   clear ht
   by_cases hlt : k < l.length
   ·obtain ⟨b1, o1, rfl, hs1, hc1⟩ := ha k hlt
    obtain ⟨b2, o2, rfl, hs2, hc2⟩ := hb k (by omega)
    by_cases he : l[k] = m[k]'(by omega)
    ·have hd : ((l[k].toNat : Int) != ((m[k]'(by omega)).toNat : Int)) = false := by simp [he]
     have HX := Lib.hid he
     clear he
     go_wp2_with fail
     go_quiet (fail)
     go_wp2_with fail
     go_roundw
     case rel => exact ⟨k + 1, _, by omega, by go_num, take_eq_succ HT.out hlt (by omega) HX.out, rfl⟩
     case measure => simp [intOf] <;> omega
    ·have hd : ((l[k].toNat : Int) != ((m[k]'(by omega)).toNat : Int)) = true := by simp; exact fun e => he (UInt8.toNat_inj.1 (by omega))
     have HX := Lib.hid he
     clear he
     go_wp2_with fail
     go_quiet (fail)
     go_wp2_with fail
     go_ret
     exact ⟨ret_bool (by rw [decide_eq_false (ne_of_at hlt (by omega) HX.out)]), _, (World.drewN_drewN _ _ _).symm⟩
   ·go_wp2_with fail
    go_ret
    refine ⟨ret_bool ?_, _, rfl⟩
    have h := HT.out
    rw [List.take_of_length_le (by omega), List.take_of_length_le (by omega)] at h
    rw [decide_eq_true h]
 ·have hdl : ((l.length : Int) != (m.length : Int)) = true := by simp; omega
  have HX := Lib.hid hne
  clear hne
  go_enter Tryz.func66, Tryz.ntmps66
  go_wp2
  go_ret
  exact ⟨ret_bool (by rw [decide_eq_false (fun e => HX.out (by rw [e]))]), 0, rfl⟩
theorem stp_ne_at (h : x.at_ ≠ y.at_) : x ≠ y := by rintro rfl; exact h rfl
theorem stp_ne_len (h : x.len ≠ y.len) : x ≠ y := by rintro rfl; exact h rfl
theorem stp_eq (h1 : x.at_ = y.at_) (h2 : x.len = y.len) : decide (x.data = y.data) = decide (x = y) := by
 obtain ⟨a, l, d⟩ := x
 obtain ⟨b, m, e⟩ := y
 simp only at h1 h2
 subst h1 h2
 simp
theorem same1_calls (x y : Stp) (B D : Option Addr) (c d : Nat) (w : World) (hx : x.data.length ≤ 1048576) (hy : y.data.length ≤ 1048576) (hB : Bts w B x.data) (hD : Bts w D y.data) :
  Calls Tryz.prog 102 #[.agg #[iv x.at_, iv x.len, .slice B x.data.length c], .agg #[iv y.at_, iv y.len, .slice D y.data.length d]] w (RetB w (.bool (decide (x = y)))) := by
 by_cases h1 : x.at_ = y.at_
 ·by_cases h2 : x.len = y.len
  ·have q1 : (x.at_ == y.at_) = true := by simp [h1]
   have q2 : (x.len == y.len) = true := by simp [h2]
   have HE := Lib.hid (stp_eq h1 h2)
   have bl := ((Below.refl w.heap.size w).alloc (Nat.le_refl _) (.cells #[iv x.at_, iv x.len, .slice B x.data.length c] 122)).alloc (by simp) (.cells #[iv y.at_, iv y.len, .slice D y.data.length d] 122)
   have HC := Lib.hid (equalBytes_calls B D c d x.data y.data _ hx hy (hB.stays bl) (hD.stays bl))
   have HB := Lib.hid bl
   clear h1 h2 hB hD bl
   go_enter Tryz.func102, Tryz.ntmps102
   go_wp2_with fail
   refine HC.out.mono ?_
   rintro e w1 ⟨rfl, n, rfl⟩
   go_wp2_with fail
   go_ret
   exact ⟨ret_bool HE.out, Below.drewN' HB.out n⟩
  ·have q1 : (x.at_ == y.at_) = true := by simp [h1]
   have q2 : (x.len == y.len) = false := by simp [h2]
   have HE := Lib.hid (decide_eq_false (stp_ne_len h2))
   clear h1 h2
   go_enter Tryz.func102, Tryz.ntmps102
   go_wp2_with fail
   go_ret
   exact ⟨ret_bool HE.out.symm, ((Below.refl _ _).alloc (Nat.le_refl _) _).alloc (by simp) _⟩
 ·have q1 : (x.at_ == y.at_) = false := by simp [h1]
  have HE := Lib.hid (decide_eq_false (stp_ne_at h1))
  clear h1
  go_enter Tryz.func102, Tryz.ntmps102
  go_wp2_with fail
  go_ret
  exact ⟨ret_bool HE.out.symm, ((Below.refl _ _).alloc (Nat.le_refl _) _).alloc (by simp) _⟩
theorem eqfOps_calls (A B : Option Addr) (c d : Nat) (l m : List Stp) (w : World) (hl : l.length ≤ 1048576) (hm : m.length ≤ 1048576) (ha : Sps w A l) (hb : Sps w B m) :
  Calls Tryz.prog 101 #[.slice A l.length c, .slice B m.length d, .func (Fn.func 102) #[] #[]] w (RetB w (.bool (decide (l = m)))) := by
 by_cases hne : l.length = m.length
 ·have hdl : ((l.length : Int) != (m.length : Int)) = false := by simp [hne]
  have HE := Lib.hid hne
  have hm1 : l.length ≤ m.length := by omega
  have hm2 : m.length ≤ l.length := by omega
  clear hne
  go_enter Tryz.func101, Tryz.ntmps101
  go_wp2_with fail
  go_loopw [17] (fun i wr => ∃ k : Nat, k ≤ l.length ∧ i = .int .i64 k ∧ Hid (l.take k = m.take k) ∧ Hid (Below w.heap.size w wr)) (fun i _ => l.length - (intOf i).toNat)
  case atStart => exact ⟨0, Nat.zero_le _, rfl, Lib.hid rfl, Lib.hid (Below.refl _ _)⟩
  case round =>
   obtain ⟨k, hk, rfl, HT, HB⟩ := hrel
   by_cases hlt : k < l.length
   ·obtain ⟨b1, o1, B1, c1, rfl, hs1, p0, p1, p2, p3, p4, p5, -, -⟩ := (ha.stays HB.out).at_ hlt
    obtain ⟨b2, o2, B2, c2, rfl, hs2, r0, r1, r2, r3, r4, r5, -, -⟩ := (hb.stays HB.out).at_ (i := k) (by omega)
    have hsz := HB.out.size
    have HX : Hid (∀ e : l[k] = m[k]'(by omega), l.take (k + 1) = m.take (k + 1)) := Lib.hid fun e => take_eq_succ HT.out hlt (by omega) e
    have HN : Hid (∀ e : l[k] ≠ m[k]'(by omega), l ≠ m) := Lib.hid fun e => ne_of_at hlt (by omega) e
    generalize l[k] = x at *
    generalize m[k]'(by omega) = y at *
    have hsb := fun w2 (h : Below wr.heap.size wr w2) => same1_calls x y B1 B2 c1 c2 w2 p4 r4 (p5.stays h) (r5.stays h)
    have HC := Lib.hid hsb
    clear hsb p5 r5
    go_wp2_with fail
    have bl := ((Below.refl wr.heap.size wr).alloc (Nat.le_refl _) (.cells #[iv x.at_, iv x.len, .slice B1 x.data.length c1] 122)).alloc (by simp) (.cells #[iv y.at_, iv y.len, .slice B2 y.data.length c2] 122)
    refine (HC.out _ bl).mono ?_
    rintro e w2 ⟨rfl, hb2⟩
    have HB2 : Hid (Below w.heap.size w w2) := Lib.hid ((HB.out.trans (bl.mono hsz)).trans (hb2.mono (by simp; omega)))
    clear bl hb2
    by_cases hxy : x = y
    ·have hd : decide (x = y) = true := by simp [hxy]
     have HY := Lib.hid (HX.out hxy)
     clear hxy HX HN
     go_wp2_with fail
     go_roundw
     case rel => exact ⟨k + 1, by omega, by go_num, HY, HB2⟩
     case measure => simp [intOf] <;> omega
    ·have hd : decide (x = y) = false := by simp [hxy]
     have HY := Lib.hid (HN.out hxy)
     clear hxy HX HN
     go_wp2_with fail
     go_ret
     exact ⟨ret_bool (by rw [decide_eq_false HY.out]), HB2.out⟩
   ·go_wp2_with fail
    go_ret
    refine ⟨ret_bool ?_, HB.out⟩
    have h := HT.out
    rw [List.take_of_length_le (by omega), List.take_of_length_le (by omega)] at h
    rw [decide_eq_true h]
 ·have hdl : ((l.length : Int) != (m.length : Int)) = true := by simp; omega
  have HX := Lib.hid hne
  clear hne
  go_enter Tryz.func101, Tryz.ntmps101
  go_wp2_with fail
  go_ret
  exact ⟨ret_bool (by rw [decide_eq_false (fun e => HX.out (by rw [e]))]), Below.refl _ _⟩
theorem equalOps_calls (A B : Option Addr) (c d : Nat) (l m : List Stp) (w : World) (hl : l.length ≤ 1048576) (hm : m.length ≤ 1048576) (ha : Sps w A l) (hb : Sps w B m) :
  Calls Tryz.prog 86 #[.slice A l.length c, .slice B m.length d] w (RetB w (.bool (decide (l = m)))) := by
 go_enter Tryz.func86, Tryz.ntmps86
 go_wp2_with fail
 refine (eqfOps_calls A B c d l m w hl hm ha hb).mono ?_
 rintro e w1 ⟨rfl, hb1⟩
 go_wp2_with fail
 go_ret
 exact ⟨rfl, hb1⟩
theorem patSameA_calls (A B : Option Addr) (c d : Nat) (f t o n sz f2 t2 o2 n2 sz2 : Int) (l m : List Stp) (w : World) (hl : l.length ≤ 1048576) (hm : m.length ≤ 1048576) (hs : Sps w A l) (hr : Sps w B m) :
  Calls Tryz.prog 62 #[.agg #[iv f, iv t, iv o, iv n, iv sz, .slice A l.length c], .agg #[iv f2, iv t2, iv o2, iv n2, iv sz2, .slice B m.length d]] w (RetB w (.bool (decide ((⟨f, t, o, n, sz, l⟩ : Pat) = ⟨f2, t2, o2, n2, sz2, m⟩)))) := by
 have hb : Below w.heap.size w ((w.alloc (.cells #[iv f, iv t, iv o, iv n, iv sz, .slice A l.length c] 36)).alloc (.cells #[iv f2, iv t2, iv o2, iv n2, iv sz2, .slice B m.length d] 36)) := ((Below.refl _ _).alloc (Nat.le_refl _) _).alloc (by simp) _
 obtain ⟨r, hR⟩ : ∃ r, decide ((⟨f, t, o, n, sz, l⟩ : Pat) = ⟨f2, t2, o2, n2, sz2, m⟩) = r := ⟨_, rfl⟩
 rw [hR]
 have HR := Lib.hid hR
 clear hR
 have HB := Lib.hid hb
 have HC := Lib.hid (equalOps_calls A B c d l m _ hl hm (hs.stays hb) (hr.stays hb))
 clear hb hs hr
 by_cases h0 : ¬ f = f2
 ·have hz : false = r := (decide_eq_false (fun e => by injection e; contradiction)).symm.trans HR.out
  have HZ := Lib.hid hz
  have q : (f == f2) = false := by simp [h0]
  clear HC hz h0
  go_enter Tryz.func62, Tryz.ntmps62
  go_wp2_with fail
  go_ret
  exact ⟨ret_bool HZ.out, HB.out⟩
 have h0 := Decidable.not_not.1 h0
 subst h0
 have q0 : (f == f) = true := by simp
 by_cases h1 : ¬ t = t2
 ·have hz : false = r := (decide_eq_false (fun e => by injection e; contradiction)).symm.trans HR.out
  have HZ := Lib.hid hz
  have q : (t == t2) = false := by simp [h1]
  clear HC hz h1
  go_enter Tryz.func62, Tryz.ntmps62
  go_wp2_with fail
  go_ret
  exact ⟨ret_bool HZ.out, HB.out⟩
 have h1 := Decidable.not_not.1 h1
 subst h1
 have q1 : (t == t) = true := by simp
 by_cases h2 : ¬ o = o2
 ·have hz : false = r := (decide_eq_false (fun e => by injection e; contradiction)).symm.trans HR.out
  have HZ := Lib.hid hz
  have q : (o == o2) = false := by simp [h2]
  clear HC hz h2
  go_enter Tryz.func62, Tryz.ntmps62
  go_wp2_with fail
  go_ret
  exact ⟨ret_bool HZ.out, HB.out⟩
 have h2 := Decidable.not_not.1 h2
 subst h2
 have q2 : (o == o) = true := by simp
 by_cases h3 : ¬ n = n2
 ·have hz : false = r := (decide_eq_false (fun e => by injection e; contradiction)).symm.trans HR.out
  have HZ := Lib.hid hz
  have q : (n == n2) = false := by simp [h3]
  clear HC hz h3
  go_enter Tryz.func62, Tryz.ntmps62
  go_wp2_with fail
  go_ret
  exact ⟨ret_bool HZ.out, HB.out⟩
 have h3 := Decidable.not_not.1 h3
 subst h3
 have q3 : (n == n) = true := by simp
 by_cases h4 : ¬ sz = sz2
 ·have hz : false = r := (decide_eq_false (fun e => by injection e; contradiction)).symm.trans HR.out
  have HZ := Lib.hid hz
  have q : (sz == sz2) = false := by simp [h4]
  clear HC hz h4
  go_enter Tryz.func62, Tryz.ntmps62
  go_wp2_with fail
  go_ret
  exact ⟨ret_bool HZ.out, HB.out⟩
 have h4 := Decidable.not_not.1 h4
 subst h4
 have q4 : (sz == sz) = true := by simp
 have hz : decide (l = m) = r := by
  rw [← HR.out]
  by_cases e : l = m
  ·subst e; simp
  ·rw [decide_eq_false e, decide_eq_false (fun h => e (by injection h))]
 have HZ := Lib.hid hz
 clear hz
 go_enter Tryz.func62, Tryz.ntmps62
 go_wp2_with fail
 refine HC.out.mono ?_
 rintro e w9 ⟨rfl, hb1⟩
 have HB1 := Lib.hid (HB.out.trans (hb1.mono HB.out.size))
 clear hb1
 go_wp2_with fail
 go_ret
 exact ⟨ret_bool HZ.out, HB1.out⟩
def ByRet2 (w : World) (l : List UInt8) (n : Int) : Ending → World → Prop := fun en w' =>
 ∃ A c, en = .returned (.tuple #[.slice A l.length c, iv n]) ∧ Bts w' A l ∧ l.length ≤ c ∧ Below w.heap.size w w'
theorem Bts.drop {b o : Nat} {l : List UInt8} (h : Bts w (some ⟨b, o, none⟩) l) (k : Nat) : Bts w (some ⟨b, o + k, none⟩) (l.drop k) := by
 intro i hi
 simp only [List.length_drop] at hi
 obtain ⟨b', o', hA, hlt, hc⟩ := h (k + i) (by omega)
 injection hA with hA
 injection hA with e1 e2
 subst e1 e2
 refine ⟨b, o + k, rfl, hlt, ?_⟩
 rw [Nat.add_assoc, hc]; simp
theorem Bts.take {l : List UInt8} (h : Bts w A l) (k : Nat) : Bts w A (l.take k) := by
 intro i hi
 simp only [List.length_take] at hi
 obtain ⟨b, o, hA, hlt, hc⟩ := h i (by omega)
 exact ⟨b, o, hA, hlt, by rw [hc]; simp⟩
theorem mid_bts (c : Nat) {old : List UInt8} {a n : Nat} (h : Bts w A old) (hc : old.length ≤ c) (hn : a + n ≤ old.length) : Bts w (if c = a then A else Option.map (fun x => x.add a) A) ((old.drop a).take n) := by
 by_cases e : n = 0
 ·subst e; rw [List.take_zero]; exact Bts.nil _ _
 ·obtain ⟨b, o, rfl, hlt, _⟩ := h 0 (by omega)
  rw [if_neg (by omega)]
  have e2 : Option.map (fun x : Addr => x.add a) (some ⟨b, o, none⟩) = some ⟨b, o + a, none⟩ := by simp [Addr.add]
  rw [e2]
  exact (h.drop a).take n
theorem deltaApply_bad (A : Option Addr) (c : Nat) (old : List UInt8) (B : Option Addr) (d : Nat) (l : List Stp) (size : Int) (w : World) (ho : old.length ≤ 1048576) (hl : l.length ≤ 1048576) (hr : Sps w B l) (h : deltaCheck l old.length size ≠ 0) :
  Calls Tryz.prog 89 #[.slice A old.length c, .slice B l.length d, iv size] w (RetB w (.tuple #[.slice none 0 0, iv (deltaCheck l old.length size)])) := by
 have hb : (deltaCheck l old.length size != 0) = true := by simp [h]
 clear h
 go_enter Tryz.func89, Tryz.ntmps89
 go_wp2_with fail
 refine (deltaCheck_calls B d l old.length size w hl hr).mono ?_
 rintro e w1 ⟨rfl, hb1⟩
 go_wp2_with fail
 go_ret2
 exact ⟨rfl, hb1⟩
theorem deltaApply_ok (A : Option Addr) (c : Nat) (old : List UInt8) (B : Option Addr) (d : Nat) (l : List Stp) (size : Int) (w : World) (hc : old.length ≤ c) (hA : Bts w A old) (hl : l.length ≤ 1048576) (hr : Sps w B l) (h : deltaCheck l old.length size = 0) :
  Calls Tryz.prog 89 #[.slice A old.length c, .slice B l.length d, iv size] w (ByRet2 w (applied old l) 0) := by
 have hd := deltaCheck_ok.1 h
 have hc0 : ∀ w, Calls Tryz.prog 103 #[.slice B l.length d, iv (old.length : Int), iv size] w (RetB w (iv (deltaCheck l old.length size))) → Calls Tryz.prog 103 #[.slice B l.length d, iv (old.length : Int), iv size] w (RetB w (iv 0)) := by
  intro w hw; rw [h] at hw; exact hw
 have hcc := hc0 w (deltaCheck_calls B d l old.length size w hl hr)
 have HC := Lib.hid hcc
 have HD := Lib.hid hd
 have ho1 := hd.o1
 have hm := hd.many
 clear hc0 hcc h hd
 go_enter Tryz.func89, Tryz.ntmps89
 go_wp2_with fail
 refine HC.out.mono ?_
 rintro e w1 ⟨rfl, hb1⟩
 have HB1 := Lib.hid hb1
 clear hb1
 go_wp2_with fail
 go_loopw [9, 22] (fun v i wr => ∃ (k : Nat) (C : Option Addr) (cc : Nat), k ≤ l.length ∧ i = .int .i64 k ∧ v = .slice C (applied old (l.take k)).length cc ∧ (applied old (l.take k)).length ≤ cc ∧ Bts wr C (applied old (l.take k)) ∧ Hid (Below w.heap.size w wr)) (fun _ i _ => l.length - (intOf i).toNat)
 case atStart => exact ⟨0, none, 0, Nat.zero_le _, rfl, rfl, Nat.le_refl _, Bts.nil _ _, HB1⟩
 case round =>
  obtain ⟨k, C, cc, hk, rfl, rfl, hcl, hC, HB⟩ := hrel
  by_cases hlt : k < l.length
  ·obtain ⟨b, o, D, dd, rfl, hs, hc0, hc1, hc2, hd1, hd2, hD, hi0, hi1⟩ := (hr.stays HB.out).at_ hlt
   have hsz := HB.out.size
   have hx : l.take (k + 1) = l.take k ++ [l[k]] := List.take_succ_eq_append_getElem hlt
   obtain ⟨hform, hin⟩ := HD.out.each _ (List.getElem_mem hlt)
   have hlen : (applied old (l.take (k + 1))).length ≤ 64 := by
    have h1 := applied_len (old := old) (l := l.take (k + 1)) (fun o ho => (HD.out.each o (List.mem_of_mem_take ho)).2)
    have h2 := HD.out.take (k + 1)
    have := h2.2.2.2
    have := HD.out.s1
    omega
   have happ : applied old (l.take (k + 1)) = applied old (l.take k) ++ l[k].piece old := by rw [hx, applied_append, applied_one]
   have HX := Lib.hid happ
   rw [happ] at hlen
   clear happ hx hform
   generalize hx : l[k] = x at *
   clear hx
   obtain ⟨at_, len, data⟩ := x
   unfold Stp.in_ at hin
   dsimp only at *
   obtain ⟨j1, j2, j3⟩ := hin
   obtain ⟨n, rfl⟩ := Int.eq_ofNat_of_zero_le j1
   obtain ⟨a, rfl⟩ := Int.eq_ofNat_of_zero_le j2
   have j4 : a + n ≤ old.length := by omega
   clear j1 j2 hi0 hi1
   generalize hp : applied old (l.take k) = pre at *
   clear hp
   have hpl : pre.length ≤ 64 := by rw [List.length_append] at hlen; omega
   have hdl : data.length ≤ 64 := by rw [List.length_append] at hlen; simp only [Stp.piece, List.length_append] at hlen; omega
   clear hlen
   have w1' : IntKind.i64.wrap ((a : Int) + (n : Int)) = (a : Int) + (n : Int) := IntWalk.i64_in _ (by omega)
   have w2 : ((a : Int) + (n : Int)).toNat = a + n := by omega
   have w3 : (0 : Int) ≤ (a : Int) := by omega
   have w4 : (a : Int) ≤ (a : Int) + (n : Int) := by omega
   have w5 : (a : Int) + (n : Int) ≤ (c : Int) := by omega
   have w6 : a + n - a = n := by omega
   have hMM : ∀ w', Below wr.heap.size wr w' → Bts w' (if c = a then A else Option.map (fun x => x.add a) A) ((old.drop a).take n) := fun w' hb => (mid_bts c (hA.stays HB.out) hc j4).stays hb
   have hml : ((old.drop a).take n).length = n := by simp; omega
   have HM := Lib.hid hMM
   have HML := Lib.hid hml
   have hDs : ∀ w', Below wr.heap.size wr w' → Bts w' D data := fun w' hb => hD.stays hb
   have hCs : ∀ w', Below wr.heap.size wr w' → Bts w' C pre := fun w' hb => hC.stays hb
   have HDs := Lib.hid hDs
   have HCs := Lib.hid hCs
   clear hMM hml hDs hCs hD hC
   go_wp2_with fail
   refine wp_region_still_tail 12 (by kernel_rfl) (by kernel_rfl) ?_
   change wpStill _ _ ((wr.alloc _).drew) _ _ _
   simp only [List.take_succ_cons, List.take_zero, List.drop_succ_cons, List.drop_zero]
   repeat still_step
   refine wpStill_nil ?_
   generalize (if c = a then A else Option.map (fun x => x.add a) A) = M at *
   have hb0 : Below wr.heap.size wr ((wr.alloc (.cells #[.int .i64 a, .int .i64 n, .slice D data.length dd] 122)).drew) := ((Below.refl _ _).alloc (Nat.le_refl _) _).drew
   change wpList _ _ _ _ _ ((wr.alloc (.cells #[.int .i64 a, .int .i64 n, .slice D data.length dd] 122)).drew)
   have HB0 := Lib.hid hb0
   have hs0 : wr.heap.size < ((wr.alloc (.cells #[.int .i64 a, .int .i64 n, .slice D data.length dd] 122)).drew).heap.size := by simp
   clear hb0
   generalize (wr.alloc (.cells #[.int .i64 a, .int .i64 n, .slice D data.length dd] 122)).drew = w2 at *
   have HT : Hid (applied old (l.take (k + 1)) = pre ++ (old.drop a).take n ++ data) := by
    refine Lib.hid ?_
    rw [HX.out]
    simp [Stp.piece]
   clear HX
   go_wp2_with fail
   have hcat := concat3_calls (w := w2.alloc (.cells #[.slice C pre.length cc, .slice M n (c - a), .slice D data.length dd] 23)) (g := w2.heap.size) (A := C) (B := M) (C := D) (a := pre) (b := (old.drop a).take n) (l := data) (c := cc) (d := c - a) (k := dd) (t := 23) (fr := (0, 0))
    (by rw [HML.out]; exact blk_top rfl) (by rw [HML.out]; omega) (HCs.out _ (HB0.out.alloc HB0.out.size _)) (HM.out _ (HB0.out.alloc HB0.out.size _)) (HDs.out _ (HB0.out.alloc HB0.out.size _))
   refine hcat.mono ?_
   rintro e w3 ⟨C', c', rfl, hown, hb3⟩
   have HO := Lib.hid hown
   have HB3 : Hid (Below w.heap.size w w3) := Lib.hid ((HB.out.trans (HB0.out.mono hsz)).trans ((((Below.refl _ _).alloc (Nat.le_refl _) _).mono (by omega)).trans (hb3.mono (by simp; omega))))
   clear hcat hown hb3
   go_wp2_with fail
   go_roundw
   case rel =>
    refine ⟨k + 1, C', c', by omega, by go_num, by rw [HT.out]; simp, ?_, ?_, HB3⟩
    ·rw [HT.out]; exact HO.out.le
    ·rw [HT.out]; exact HO.out.src.bts
   case measure => simp [intOf]; omega
  ·obtain rfl : k = l.length := by omega
   rw [List.take_length] at hcl hC
   go_wp2_with fail
   exact bodyPost_ret (results_tmp2 rfl _ _ _) rfl ⟨C, cc, by simp, hC, hcl, HB.out⟩
def axOf (old : List UInt8) (l : List Stp) (size : Int) : List UInt8 × Int := if deltaCheck l old.length size ≠ 0 then ([], deltaCheck l old.length size) else (applied old l, 0)
theorem byRet2_nil {e : Ending} {w' : World} (h : RetB w (.tuple #[.slice none 0 0, iv n]) e w') : ByRet2 w [] n e w' :=
 ⟨none, 0, h.1, Bts.nil _ _, Nat.le_refl _, h.2⟩
theorem applyAny_calls (A : Option Addr) (c : Nat) (old : List UInt8) (B : Option Addr) (d : Nat) (l : List Stp) (size : Int) (w : World) (hc : old.length ≤ c) (ho : old.length ≤ 1048576) (hA : Bts w A old) (hl : l.length ≤ 1048576) (hr : Sps w B l) :
  Calls Tryz.prog 89 #[.slice A old.length c, .slice B l.length d, iv size] w (ByRet2 w (axOf old l size).1 (axOf old l size).2) := by
 unfold axOf
 by_cases h : deltaCheck l old.length size = 0
 ·rw [if_neg (by simpa using h)]; exact deltaApply_ok A c old B d l size w hc hA hl hr h
 ·rw [if_pos h]; exact (deltaApply_bad A c old B d l size w ho hl hr h).mono fun _ _ => byRet2_nil
section
variable {w0 w w' : World} {base size n c m ib ia k : Nat} {e T : TypeId} {A A' : Option Addr} {c' : Nat} {xs ns : List Value} {F : World → Prop} {cv : Nat → Value}
end
structure PkAt (w : World) (base go gp : Nat) (out plain : List UInt8) (A : Option Addr) (c : Nat) (B : Option Addr) (d : Nat) : Prop where
 co : Box w go 23 (.slice A out.length c)
 cp : Box w gp 23 (.slice B plain.length d)
 oo : Own w base 5 1 A out.length c (out.map bv)
 op : Own w base 5 1 B plain.length d (plain.map bv)
 ne : ∀ k, A.map (·.block) = some k → B.map (·.block) ≠ some k
 lo : go < base
 lp : gp < base
 no : go ≠ gp
 le : base ≤ w.heap.size
theorem cloneBytes_calls (A : Option Addr) (n c : Nat) (cs : List Value) (w : World) (hl : cs.length = n * 1) (hn0 : n ≤ 16777216) (hr : Src w A cs) (h1 : ∀ u ∈ cs, u.oneCell' = true) :
  Calls Tryz.prog 13 #[.slice A n c] w (SlRet w 5 1 n cs) := by
 rcases A with _ | ad
 ·have h0 : cs.length = 0 := by
   rcases Nat.eq_zero_or_pos cs.length with h | h
   ·exact h
   ·obtain ⟨b, o, h, _⟩ := hr 0 h
    cases h
  obtain rfl : n = 0 := by omega
  obtain rfl : cs = [] := List.eq_nil_of_length_eq_zero h0
  have hn := fun (wx : World) (a : Option Addr) (n c n' c' : Nat) => Lib.run_eql_slice_nil (P := Tryz.prog) wx 23 5 a n c n' c' Tryz.underlying23
  clear h0 hl
  go_enter Tryz.func13, Tryz.ntmps13
  go_wp2
  go_ret
  exact ⟨none, 0, rfl, Own.nil_ _ _ _ _, Below.refl _ _⟩
 ·have hn := fun (wx : World) (a : Option Addr) (n c n' c' : Nat) => Lib.run_eql_slice_nil (P := Tryz.prog) wx 23 5 a n c n' c' Tryz.underlying23
  have ho : Own (w.alloc (.cells #[] 5)) w.heap.size 5 1 (some ⟨w.heap.size, 0, none⟩) 0 0 [] := own_zero w _ _
  have hs := hr.stays ((Below.refl w.heap.size w).alloc (Nat.le_refl _) (.cells #[] 5))
  have hb1 : 0 + n ≤ 1073741824 := by omega
  have hb2 : w.heap.size ≤ (w.alloc (.cells #[] 5)).heap.size := by simp
  have HL := Lib.hid hl
  clear hl
  go_enter Tryz.func13, Tryz.ntmps13
  go_wp2_with (at_builtin; refine wpList_app _ rfl _ _ 23 rfl elBytes w.heap.size (some ⟨w.heap.size, 0, none⟩) 0 0 [] rfl ho (some ad) n c cs rfl hs HL.out h1 hb1 hb2 ?_; intro A' c' w1 hown hg hb hx)
  go_ret
  simp only [Nat.zero_add, List.nil_append] at hown
  exact ⟨_, _, rfl, hown, ((Below.refl _ _).alloc (Nat.le_refl _) _).trans hb⟩
theorem refIn_t {a b : Int} (h : a ≤ n ∧ n ≤ b) (w : World) : Calls Tryz.prog 44 #[iv n, iv a, iv b] w (Ret w (.bool true)) := by
 obtain ⟨h1, h2⟩ := h
 go_enter Tryz.func44, Tryz.ntmps44
 go_wp2_with fail
 go_ret
 exact ⟨rfl, rfl⟩
theorem refIn_f {a b : Int} (h : n < a ∨ b < n) (w : World) : Calls Tryz.prog 44 #[iv n, iv a, iv b] w (Ret w (.bool false)) := by
 by_cases h1 : a ≤ n
 ·have h2 : ¬ n ≤ b := by omega
  clear h
  go_enter Tryz.func44, Tryz.ntmps44
  go_wp2_with fail
  go_ret
  exact ⟨rfl, rfl⟩
 ·clear h
  go_enter Tryz.func44, Tryz.ntmps44
  go_wp2_with fail
  go_ret
  exact ⟨rfl, rfl⟩
theorem refCheck_calls (A : Option Addr) (c : Nat) (l : List Stp) (old size : Int) (w : World) (hl : l.length ≤ 1048576) (hr : Sps w A l) :
  Calls Tryz.prog 84 #[.slice A l.length c, iv old, iv size] w (RetB w (iv (deltaCheck l old size))) := by
 by_cases hm : 40 < l.length ∨ old < 0 ∨ 64 < old ∨ size < 0 ∨ 64 < size
 ·have HR := Lib.hid (dc_many hm)
  by_cases h1 : 40 < l.length
  ·have h1' : (40 : Int) < (l.length : Int) := by omega
   clear hm h1
   go_enter Tryz.func84, Tryz.ntmps84
   go_wp2_with fail
   go_ret
   exact ⟨ret_int HR.out.symm, Below.refl _ _⟩
  have h1' : ¬ (40 : Int) < (l.length : Int) := by omega
  by_cases h2 : old < 0 ∨ 64 < old
  ·have I1 := Lib.hid (fun w => refIn_f (a := 0) (b := 64) h2 w)
   clear hm h1 h2
   go_enter Tryz.func84, Tryz.ntmps84
   go_wp2_with fail
   refine (I1.out _).mono ?_
   rintro e9 w9 ⟨rfl, rfl⟩
   go_wp2_with fail
   go_ret
   exact ⟨ret_int HR.out.symm, Below.refl _ _⟩
  have I1 := Lib.hid (fun w => refIn_t (n := old) (a := 0) (b := 64) (by omega) w)
  have I2 := Lib.hid (fun w => refIn_f (n := size) (a := 0) (b := 64) (by omega) w)
  clear hm h1 h2
  go_enter Tryz.func84, Tryz.ntmps84
  go_wp2_with fail
  refine (I1.out _).mono ?_
  rintro e9 w9 ⟨rfl, rfl⟩
  go_wp2_with fail
  refine (I2.out _).mono ?_
  rintro e9 w9 ⟨rfl, rfl⟩
  go_wp2_with fail
  go_ret
  exact ⟨ret_int HR.out.symm, Below.refl _ _⟩
 ·have HR := Lib.hid (dc_go hm)
  have h1 : ¬ (40 : Int) < (l.length : Int) := by omega
  have I1 := Lib.hid (fun w => refIn_t (n := old) (a := 0) (b := 64) (by omega) w)
  have I2 := Lib.hid (fun w => refIn_t (n := size) (a := 0) (b := 64) (by omega) w)
  have h2 : 0 ≤ old := by omega
  have h3 : old ≤ 64 := by omega
  have h4 : 0 ≤ size := by omega
  have h5 : size ≤ 64 := by omega
  have h6 : l.length ≤ 40 := by omega
  clear hm
  go_enter Tryz.func84, Tryz.ntmps84
  go_wp2_with fail
  refine (I1.out _).mono ?_
  rintro e9 w9 ⟨rfl, rfl⟩
  go_wp2_with fail
  refine (I2.out _).mono ?_
  rintro e9 w9 ⟨rfl, rfl⟩
  go_wp2_with fail
  go_loopw [26, 7] (fun i s wr => ∃ (k : Nat) (z : Int), k ≤ l.length ∧ i = .int .i64 k ∧ s = .int .i64 (size - z) ∧ 0 ≤ z ∧ z ≤ size ∧ Hid (ScAt old l size k z) ∧ Hid (Below w.heap.size w wr)) (fun i _ _ => l.length - (intOf i).toNat)
  case atStart => exact ⟨0, size, Nat.zero_le _, rfl, by simp, by omega, by omega, Lib.hid (by unfold ScAt; rw [List.drop_zero]), Lib.hid (Below.refl _ _)⟩
  case round =>
   obtain ⟨k, z, hk, rfl, rfl, hz0, hz1, HS, HB⟩ := hrel
   by_cases hlt : k < l.length
   ·obtain ⟨b, o, B, cc, rfl, hs, hc0, hc1, hc2, hd1, hd2, -, hi0, hi1⟩ := (hr.stays HB.out).at_ hlt
    have HH := Lib.hid (HS.out.here hlt)
    have hsz := HB.out.size
    clear HS
    unfold I64 at hi0 hi1
    obtain ⟨i00, i01⟩ := hi0
    obtain ⟨i10, i11⟩ := hi1
    generalize hx : l[k] = x at *
    clear hx
    obtain ⟨at_, len, data⟩ := x
    dsimp only at *
    have hdl : 0 ≤ (data.length : Int) := by omega
    by_cases hf : (⟨at_, len, data⟩ : Stp).form
    ·by_cases hin : (⟨at_, len, data⟩ : Stp).in_ old
     ·have hn : (⟨at_, len, data⟩ : Stp).n = len + data.length := rfl
      have hin' := hin
      unfold Stp.in_ at hin'
      dsimp only at hin'
      obtain ⟨j1, j2, j3⟩ := hin'
      have hf' := hf
      unfold Stp.form at hf'
      dsimp only at hf'
      have t1 : ¬ len < 0 := by omega
      have t2 : ¬ at_ < 0 := by omega
      have t3 : ¬ 64 < len := by omega
      have t4 : ¬ 64 < at_ := by omega
      have t5 : ¬ old < at_ + len := by omega
      have w1 : IntKind.i64.wrap (at_ + len) = at_ + len := IntWalk.i64_in _ (by omega)
      by_cases hzn : z < len + data.length
      ·have HE := Lib.hid (HH.out.symm.trans (sc_many hf hin (by rw [hn]; exact hzn)))
       clear hf hin hn HH
       by_cases e0 : len = 0
       ·obtain ⟨rfl, e2, e3⟩ := hf'.1 e0
        subst e0
        have e4 : 1 ≤ data.length := by rcases data with _ | ⟨y, d⟩; exact absurd rfl e2; simp
        have I3 := Lib.hid (fun w => refIn_t (n := (data.length : Int)) (a := 1) (b := 64) (by omega) w)
        have w2 : IntKind.i64.wrap ((size - z) + (data.length : Int)) = (size - z) + (data.length : Int) := IntWalk.i64_in _ (by omega)
        have t6 : size < (size - z) + (data.length : Int) := by omega
        clear hf' e2 w1 t1 t2 t3 t4 t5
        go_wp2_with fail
        refine (I3.out _).mono ?_
        rintro e9 w9 ⟨rfl, rfl⟩
        go_wp2_with fail
        go_ret
        exact ⟨ret_int (by rw [HR.out, HE.out]), (HB.out.alloc hsz _)⟩
       ·have e2 := hf'.2 e0
        subst e2
        have q1 : (len == 0) = false := by simp [e0]
        have q2 : (len != 0) = true := by simp [e0]
        clear hf' e0
        simp only [List.length_nil, Int.ofNat_eq_natCast, Int.natCast_zero, Int.add_zero] at *
        have w2 : IntKind.i64.wrap ((size - z) + len) = (size - z) + len := IntWalk.i64_in _ (by omega)
        have t6 : size < (size - z) + len := by omega
        go_wp2_with fail
        go_ret
        exact ⟨ret_int (by rw [HR.out, HE.out]), (HB.out.alloc hsz _)⟩
      ·have HE := Lib.hid ((sc_on hf hin (by rw [hn]; exact hzn)).symm.trans HH.out)
       clear hf hin HH
       rw [hn] at HE
       clear hn
       by_cases e0 : len = 0
       ·obtain ⟨rfl, e2, e3⟩ := hf'.1 e0
        subst e0
        have e4 : 1 ≤ data.length := by rcases data with _ | ⟨y, d⟩; exact absurd rfl e2; simp
        have I3 := Lib.hid (fun w => refIn_t (n := (data.length : Int)) (a := 1) (b := 64) (by omega) w)
        have w2 : IntKind.i64.wrap ((size - z) + (data.length : Int)) = (size - z) + (data.length : Int) := IntWalk.i64_in _ (by omega)
        have t6 : ¬ size < (size - z) + (data.length : Int) := by omega
        clear hf' e2 w1 t1 t2 t3 t4 t5
        go_wp2_with fail
        refine (I3.out _).mono ?_
        rintro e9 w9 ⟨rfl, rfl⟩
        go_wp2_with fail
        go_roundw
        case rel => exact ⟨k + 1, z - (0 + data.length), by omega, by go_num, by go_num, by omega, by omega, HE, Lib.hid (HB.out.alloc hsz _)⟩
        case measure => simp [intOf]; omega
       ·have e2 := hf'.2 e0
        subst e2
        have q1 : (len == 0) = false := by simp [e0]
        have q2 : (len != 0) = true := by simp [e0]
        clear hf' e0
        have HE2 : Hid (ScAt old l size (k + 1) (z - len)) := by
         have := HE.out
         refine Lib.hid ?_
         simpa [ScAt] using this
        clear HE
        simp only [List.length_nil, Int.ofNat_eq_natCast, Int.natCast_zero, Int.add_zero] at *
        have w2 : IntKind.i64.wrap ((size - z) + len) = (size - z) + len := IntWalk.i64_in _ (by omega)
        have t6 : ¬ size < (size - z) + len := by omega
        go_wp2_with fail
        go_roundw
        case rel => exact ⟨k + 1, z - len, by omega, by go_num, by go_num, by omega, by omega, HE2, Lib.hid (HB.out.alloc hsz _)⟩
        case measure => simp [intOf]; omega
     ·have HE := Lib.hid (HH.out.symm.trans (sc_range hf hin))
      have hf' := hf
      unfold Stp.form at hf'
      dsimp only at hf'
      have hin' := hin
      unfold Stp.in_ at hin'
      dsimp only at hin'
      clear hf hin HH
      have e0 : len ≠ 0 := by
       intro e0
       obtain ⟨e1, _, _⟩ := hf'.1 e0
       omega
      have e2 := hf'.2 e0
      subst e2
      have q1 : (len == 0) = false := by simp [e0]
      have q2 : (len != 0) = true := by simp [e0]
      clear hf' e0
      simp only [List.length_nil, Int.ofNat_eq_natCast, Int.natCast_zero, Int.add_zero] at *
      have HI := Lib.hid hin'
      clear hin'
      by_cases r1 : len < 0
      ·go_wp2_with fail
       go_ret
       exact ⟨ret_int (by rw [HR.out, HE.out]), (HB.out.alloc hsz _)⟩
      by_cases r2 : at_ < 0
      ·go_wp2_with fail
       go_ret
       exact ⟨ret_int (by rw [HR.out, HE.out]), (HB.out.alloc hsz _)⟩
      by_cases r3 : 64 < len
      ·go_wp2_with fail
       go_ret
       exact ⟨ret_int (by rw [HR.out, HE.out]), (HB.out.alloc hsz _)⟩
      by_cases r4 : 64 < at_
      ·go_wp2_with fail
       go_ret
       exact ⟨ret_int (by rw [HR.out, HE.out]), (HB.out.alloc hsz _)⟩
      have w1 : IntKind.i64.wrap (at_ + len) = at_ + len := IntWalk.i64_in _ (by omega)
      have r5 : old < at_ + len := by have := HI.out; omega
      go_wp2_with fail
      go_ret
      exact ⟨ret_int (by rw [HR.out, HE.out]), (HB.out.alloc hsz _)⟩
    ·have HE := Lib.hid (HH.out.symm.trans (sc_form hf))
     have hf' := hf
     unfold Stp.form at hf'
     dsimp only at hf'
     clear hf HH
     by_cases e0 : len = 0
     ·subst e0
      by_cases e1 : at_ = 0
      ·subst e1
       have I3 : Hid (∀ w, Calls Tryz.prog 44 #[iv (data.length : Int), iv 1, iv 64] w (Ret w (.bool false))) := Lib.hid (fun w => by
        by_cases e2 : data = []
        ·subst e2; exact refIn_f (Or.inl (by decide)) w
        ·refine refIn_f (Or.inr ?_) w
         by_cases g : data.length ≤ 64
         ·exact absurd ⟨fun _ => ⟨rfl, e2, g⟩, fun h => absurd rfl h⟩ hf'
         ·omega)
       clear hf'
       go_wp2_with fail
       refine (I3.out _).mono ?_
       rintro e9 w9 ⟨rfl, rfl⟩
       go_wp2_with fail
       go_ret
       exact ⟨ret_int (by rw [HR.out, HE.out]), (HB.out.alloc hsz _)⟩
      ·have q1 : (at_ != 0) = true := by simp [e1]
       clear hf' e1
       go_wp2_with fail
       go_ret
       exact ⟨ret_int (by rw [HR.out, HE.out]), (HB.out.alloc hsz _)⟩
     ·have e2 : data ≠ [] := fun e => hf' ⟨fun h => absurd h e0, fun _ => e⟩
      have e4 : 1 ≤ data.length := by rcases data with _ | ⟨y, d⟩; exact absurd rfl e2; simp
      have q1 : (len == 0) = false := by simp [e0]
      have q2 : (len != 0) = true := by simp [e0]
      have q3 : ((data.length : Int) != 0) = true := by simp; omega
      clear hf' e0 e2
      go_wp2_with fail
      go_ret
      exact ⟨ret_int (by rw [HR.out, HE.out]), (HB.out.alloc hsz _)⟩
   ·obtain rfl : k = l.length := by omega
    have HE : Hid (stepsCheck old l size = if z = 0 then 0 else 3) := by
     have := HS.out
     unfold ScAt at this
     rw [List.drop_length] at this
     rw [← this]; rfl
    clear HS
    by_cases e : z = 0
    ·have HF := Lib.hid (HE.out.trans (if_pos e))
     subst e
     go_wp2_with fail
     go_ret
     exact ⟨ret_int (by rw [HR.out, HF.out]), HB.out⟩
    ·have HF := Lib.hid (HE.out.trans (if_neg e))
     have q : size - z < size := by omega
     clear e
     go_wp2_with fail
     go_ret
     exact ⟨ret_int (by rw [HR.out, HF.out]), HB.out⟩
end Go.Proofs.YtefkfglkpebbmadGreat
