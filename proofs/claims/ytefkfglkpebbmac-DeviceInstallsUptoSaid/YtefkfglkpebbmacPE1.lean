/- Walks of functions, and plain words. No conditions. -/
import Derived.Test.YtefkfglkpebbmacP0
set_option linter.unusedVariables false
set_option linter.unusedSimpArgs false
set_option maxRecDepth 100000
set_option maxHeartbeats 40000000
namespace Go.Proofs.Ytefkfglkpebbmac
open Go.RowKit
variable {w w' : World} {g c k n j base e : Nat} {t T : TypeId} {A B : Option Addr} {a : Act} {K : Act → World → Prop} {Q : Exit → Act → World → Prop} {p : String} {af : Array Edge} {gd : Option (Nat × Bool)} {d s : Tmp} {v : Value} {size old : Int} {xs : List Value} {l : List Stp} {o : Stp}
theorem growBytes_calls (n : Nat) (w : World) (hn : n ≤ 67108864) :
  Calls Try.prog 138 #[.slice none 0 0, iv n] w (SlRet w 5 1 0 []) := by
 rcases Nat.eq_zero_or_pos n with rfl | hp
 ·go_enter Try.func138, Try.ntmps138
  go_wp2
  go_ret
  exact ⟨none, 0, rfl, Own.nil_ _ _ _ _, Below.refl _ _⟩
 ·obtain ⟨i, hi, hz, hs, hb⟩ := info_parts (P := Try.prog) (e := 5) (z := .int .u8 0) (size := 1) (bytes := 1) (by kernel_rfl)
  have hr := fun ty => Lib.run_append_grow_zeros (P := Try.prog) w 22 3 ty 5 i (.int .u8 0) .i64 .i64 Try.underlying22 Try.underlying3 hi hz none 0 0 [] (run_firstCells_none _ _ _ _ _) n hp (by omega) (by omega) (by omega) (by rw [hb]; omega)
   (growslice_fits (by omega) (by rw [hb]; omega))
  have hG := grownCap_ge w (0 + n) 0 5
  have hG2 := grownCap_le_maxLen w (0 + n) 0 5 (by unfold maxLen; omega)
  have h1 : (0 : Int) < (n : Int) := by omega
  obtain ⟨cap, hcd⟩ : ∃ cap, cap = grownCap w (0 + n) 0 5 := ⟨_, rfl⟩
  rw [← hcd] at hr hG hG2
  clear hcd
  have hO : Own (w.drew.alloc (.cells (([] : List Value).toArray ++ Builtin.zeroCells (Value.cells (.int .u8 0)) n ++ Builtin.zeroCells (Value.cells (.int .u8 0)) (cap - (0 + n))) 5)) w.heap.size 5 1 (some ⟨w.heap.size, 0, none⟩) 0 cap [] :=
   ⟨by simp, Or.inr ⟨_, _, _, rfl, Nat.le_refl _, blk_top rfl, by omega, hG2, by simp [Builtin.zeroCells, Value.cells]; omega, by simp⟩⟩
  have hB := ((Below.refl w.heap.size w).drew).alloc (Nat.le_refl _) (.cells (([] : List Value).toArray ++ Builtin.zeroCells (Value.cells (.int .u8 0)) n ++ Builtin.zeroCells (Value.cells (.int .u8 0)) (cap - (0 + n))) 5)
  generalize (Obj.cells (([] : List Value).toArray ++ Builtin.zeroCells (Value.cells (.int .u8 0)) n ++ Builtin.zeroCells (Value.cells (.int .u8 0)) (cap - (0 + n))) 5) = ob at *
  have hcap : cap ≤ 9223372036854775807 := by simp only [maxLen] at hG2; omega
  clear hi hz hs hb hG2
  go_enter Try.func138, Try.ntmps138
  go_wp2_with (at_builtin; refine Lib.wpList_append_run _ rfl _ _ _ _ rfl _ _ rfl rfl _ _ (hr _) ?_)
  go_ret
  exact ⟨_, _, rfl, hO, hB⟩
theorem concatBytes_calls (ss : List SrcOf) (ad : Option Addr) (c : Nat) (w : World) (hk : ss.length ≤ 16) (hn : sumN ss ≤ 67108864) (hr : Src w ad (ss.map SrcOf.val)) (hs : ∀ s ∈ ss, s.ok w 1) :
  Calls Try.prog 87 #[.slice ad ss.length c] w (SlRet w 5 1 (sumN ss) (ss.flatMap SrcOf.cells)) := by
 go_enter Try.func87, Try.ntmps87
 go_wp2_with fail
 go_loop [3, 5, 11] (fun z s i => ∃ k : Nat, k ≤ ss.length ∧ i = .int .i64 k ∧ z = .int .i64 (sumN (ss.take k))) (fun _ _ i => ss.length - (intOf i).toNat)
 case atStart => exact ⟨0, Nat.zero_le _, rfl, rfl⟩
 case round =>
  obtain ⟨k, hkl, rfl, rfl⟩ := hrel
  by_cases hlt : k < ss.length
  ·obtain ⟨b, o, rfl, hbs, hc⟩ := hr k (by simpa using hlt)
   have hsn := sumN_take ss k hlt
   have hle := sumN_le ss (k + 1)
   have HS := Lib.hid hsn
   have hb1 : (sumN (ss.take k) : Int) + (ss[k].n : Int) ≤ 67108864 := by omega
   have hc' : w.cell? ⟨b, o + k, none⟩ = some (.slice ss[k].A ss[k].n ss[k].c) := by simpa [SrcOf.val] using hc
   clear hsn hle hc
   go_wp2_with fail
   go_round
   case rel => exact ⟨k + 1, by omega, by go_num, by rw [HS.out]; go_num⟩
   case measure => simp [intOf] <;> omega
  ·obtain rfl : k = ss.length := by omega
   rw [List.take_length]
   go_wp2_with fail
   refine (growBytes_calls (sumN ss) w (by omega)).mono ?_
   rintro e w1 ⟨A0, c0, rfl, hO, hB⟩
   have HR := Lib.hid hr
   have HQ := Lib.hid hs
   clear hr hs
   go_wp2_with fail
   go_loopw [6, 8, 27] (fun z s i wr => ∃ (k : Nat) (A1 : Option Addr) (c1 : Nat), k ≤ ss.length ∧ i = .int .i64 k ∧ z = .slice A1 (sumN (ss.take k)) c1 ∧ Own wr w.heap.size 5 1 A1 (sumN (ss.take k)) c1 ((ss.take k).flatMap SrcOf.cells) ∧ Below w.heap.size w wr) (fun _ _ i _ => ss.length - (intOf i).toNat)
   case atStart => exact ⟨0, A0, c0, Nat.zero_le _, rfl, rfl, hO, hB⟩
   case round =>
    obtain ⟨k, A1, c1, hkl, rfl, rfl, hO1, hB1⟩ := hrel
    have hr2 := HR.out.stays hB1
    have hs2 : ∀ s ∈ ss, s.ok wr 1 := fun s h => (HQ.out s h).stays hB1
    by_cases hlt : k < ss.length
    ·obtain ⟨b, o, rfl, hbs, hc⟩ := hr2 k (by simpa using hlt)
     have hsn := sumN_take ss k hlt
     have hle := sumN_le ss (k + 1)
     have hfl : (ss.take (k + 1)).flatMap SrcOf.cells = (ss.take k).flatMap SrcOf.cells ++ ss[k].cells := by
      rw [List.take_succ_eq_append_getElem hlt, List.flatMap_append]; simp
     have HS := Lib.hid hsn
     have HF := Lib.hid hfl
     obtain ⟨q1, q2, q3⟩ := hs2 ss[k] (List.getElem_mem hlt)
     have Q1 := Lib.hid q1
     have hb1 : sumN (ss.take k) + ss[k].n ≤ 1073741824 := by omega
     have hb2 : w.heap.size ≤ wr.heap.size := hB1.size
     have hc' : wr.cell? ⟨b, o + k, none⟩ = some (.slice ss[k].A ss[k].n ss[k].c) := by simpa [SrcOf.val] using hc
     clear hsn hle hc hfl q1 hr2 hs2
     go_wp2_with (at_builtin; refine wpList_app _ rfl _ _ 22 rfl elBytes w.heap.size A1 (sumN (ss.take k)) c1 _ rfl hO1 ss[k].A ss[k].n ss[k].c ss[k].cells rfl q2 Q1.out q3 hb1 hb2 ?_; intro A' c' w2 hown hg hb hx)
     have hfin : Own w2 w.heap.size 5 1 A' (sumN (ss.take (k + 1))) c' ((ss.take (k + 1)).flatMap SrcOf.cells) := by rw [HS.out, HF.out]; exact hown
     have hB2 := hB1.trans hb
     clear hown hg hb hx q2 q3 hc' hbs
     go_roundw
     case rel => exact ⟨k + 1, A', c', by omega, by go_num, by rw [HS.out], hfin, hB2⟩
     case measure => simp [intOf] <;> omega
    ·obtain rfl : k = ss.length := by omega
     rw [List.take_length] at hO1
     clear hr2 hs2
     go_wp2_with fail
     go_ret
     exact ⟨_, _, by rw [List.take_length]; rfl, hO1, hB1⟩
def BtRet (w : World) (l : List UInt8) : Ending → World → Prop := fun en w' =>
 ∃ A c, en = .returned (.slice A l.length c) ∧ Own w' w.heap.size 5 1 A l.length c (l.map bv) ∧ Below w.heap.size w w'
theorem src_blk {cs : Array Value} {fr : Nat × Nat} (h : w.heap[g]? = some (.cells cs t fr)) : Src w (some ⟨g, 0, none⟩) cs.toList := by
 intro i hi
 refine ⟨_, _, rfl, blk_lt h, ?_⟩
 rw [cell_of_row _ _ _ _ _ _ h]
 simp
theorem bv_one (l : List UInt8) : ∀ u ∈ l.map bv, u.oneCell' = true := by
 intro u hu
 obtain ⟨x, _, rfl⟩ := List.mem_map.1 hu
 rfl
def srcB (A : Option Addr) (l : List UInt8) (c : Nat) : SrcOf := ⟨A, l.length, c, l.map bv⟩
theorem srcB_ok {l : List UInt8} (h : Bts w A l) : (srcB A l c).ok w 1 := ⟨by simp [srcB], h.src, bv_one l⟩
theorem concat2_calls {a b : List UInt8} {d : Nat} {fr : Nat × Nat} (h : w.heap[g]? = some (.cells #[.slice A a.length c, .slice B b.length d] t fr))
  (hl : a.length + b.length ≤ 67108864) (ha : Bts w A a) (hb : Bts w B b) :
  Calls Try.prog 87 #[.slice (some ⟨g, 0, none⟩) 2 2] w (BtRet w (a ++ b)) := by
 refine (concatBytes_calls [srcB A a c, srcB B b d] (some ⟨g, 0, none⟩) 2 w (by simp) (by simp [sumN, srcB]; omega) (src_blk h) (fun s hs => ?_)).mono ?_
 ·simp only [List.mem_cons, List.not_mem_nil, or_false] at hs
  rcases hs with rfl | rfl
  ·exact srcB_ok ha
  ·exact srcB_ok hb
 ·rintro e w' ⟨A', c', rfl, ho, hbel⟩
  have e1 : sumN [srcB A a c, srcB B b d] = (a ++ b).length := by simp [sumN, srcB]
  have e2 : [srcB A a c, srcB B b d].flatMap SrcOf.cells = (a ++ b).map bv := by simp [srcB]
  rw [e1, e2] at ho
  rw [e1]
  exact ⟨A', c', rfl, ho, hbel⟩
theorem concat3_calls {C : Option Addr} {a b l : List UInt8} {d : Nat} {fr : Nat × Nat} (h : w.heap[g]? = some (.cells #[.slice A a.length c, .slice B b.length d, .slice C l.length k] t fr))
  (hl : a.length + b.length + l.length ≤ 67108864) (ha : Bts w A a) (hb : Bts w B b) (hc : Bts w C l) :
  Calls Try.prog 87 #[.slice (some ⟨g, 0, none⟩) 3 3] w (BtRet w (a ++ b ++ l)) := by
 refine (concatBytes_calls [srcB A a c, srcB B b d, srcB C l k] (some ⟨g, 0, none⟩) 3 w (by simp) (by simp [sumN, srcB]; omega) (src_blk h) (fun s hs => ?_)).mono ?_
 ·simp only [List.mem_cons, List.not_mem_nil, or_false] at hs
  rcases hs with rfl | rfl | rfl
  ·exact srcB_ok ha
  ·exact srcB_ok hb
  ·exact srcB_ok hc
 ·rintro e w' ⟨A', c', rfl, ho, hbel⟩
  have e1 : sumN [srcB A a c, srcB B b d, srcB C l k] = (a ++ b ++ l).length := by simp [sumN, srcB] <;> omega
  have e2 : [srcB A a c, srcB B b d, srcB C l k].flatMap SrcOf.cells = (a ++ b ++ l).map bv := by simp [srcB]
  rw [e1, e2] at ho
  rw [e1]
  exact ⟨A', c', rfl, ho, hbel⟩
theorem wp_sb1 {n : UInt8} (hs : a.tmps[s]? = some (bv n))
  (h : K (a.put (some d) (.slice (some ⟨w.heap.size, 0, none⟩) 1 1)) (w.alloc (.cells #[bv n] 5))) :
  Oper.wp Try.prog ⟨some d, .buildSlice 22 1 #[(0, .tmp s)], t, p, af, gd⟩ a w K Q := by
 have e : a.eval (.tmp s) = bv n := by simp [Act.eval, hs]
 unfold Oper.wp execOp
 simp only [e, List.map_toArray, List.map_cons, List.map_nil]
 go_simp
 exact h
theorem wp_sb2 {r : Tmp} {n m : UInt8} (hs : a.tmps[s]? = some (bv n)) (hr : a.tmps[r]? = some (bv m))
  (h : K (a.put (some d) (.slice (some ⟨w.heap.size, 0, none⟩) 2 2)) (w.alloc (.cells #[bv n, bv m] 5))) :
  Oper.wp Try.prog ⟨some d, .buildSlice 22 2 #[(0, .tmp s), (1, .tmp r)], t, p, af, gd⟩ a w K Q := by
 have e1 : a.eval (.tmp s) = bv n := by simp [Act.eval, hs]
 have e2 : a.eval (.tmp r) = bv m := by simp [Act.eval, hr]
 unfold Oper.wp execOp
 simp only [e1, e2, List.map_toArray, List.map_cons, List.map_nil]
 go_simp
 exact h
theorem wp_ssl {x y : Tmp} {u : Value} (hx : a.tmps[x]? = some (.pointer (some ⟨g, j, none⟩))) (hy : a.tmps[y]? = some (.slice B n c))
  (hc : w.cell? ⟨g, j, none⟩ = some u) (hf : w.frozen? ⟨g, j, none⟩ = false) (h : K a (w.setCell ⟨g, j, none⟩ (.slice B n c))) :
  Oper.wp Try.prog ⟨none, .store 22 (.tmp x) (.tmp y), t, p, af, gd⟩ a w K Q := by
 have e1 : a.eval (.tmp x) = .pointer (some ⟨g, j, none⟩) := by simp [Act.eval, hx]
 have e2 : a.eval (.tmp y) = .slice B n c := by simp [Act.eval, hy]
 unfold Oper.wp execOp
 simp only [e1, e2]
 go_simp
 exact h
def Box (w : World) (g : Nat) (T : TypeId) (v : Value) : Prop := w.heap[g]? = some (.cells #[v] T (0, 0))
theorem Box.cell (h : Box w g T v) : w.cell? ⟨g, 0, none⟩ = some v := by rw [cell_of_row _ _ _ _ _ _ h]; rfl
theorem Box.free (h : Box w g T v) : w.frozen? ⟨g, 0, none⟩ = false := frozen_of_row w g 0 _ T h
theorem Box.lt (h : Box w g T v) : g < w.heap.size := blk_lt h
theorem Box.set (h : Box w g T v) (u : Value) : Box (w.setCell ⟨g, 0, none⟩ u) g T u := by
 unfold Box
 rw [setCell_eq_setRow w g 0 #[v] T (0, 0) u h]
 exact setRow_heap w g #[v] _ T (0, 0) h
theorem Box.other (h : Box w g T v) {p : Addr} (hp : p.block ≠ g) (u : Value) : Box (w.setCell p u) g T v := by
 unfold Box
 rw [Below.heap_setCell _ _ _ _ (fun e => hp e.symm)]; exact h
theorem Box.keep {B : Nat} (h : Box w g T v) (hb : Below B w w') (hg : g < B) : Box w' g T v := (hb.block g hg).trans h
theorem Box.drew (h : Box w g T v) : Box w.drew g T v := h
theorem Box.drewN (h : Box w g T v) (n : Nat) : Box (w.drewN n) g T v := h
theorem Box.alloc (h : Box w g T v) (o : Obj) : Box (w.alloc o) g T v := blk_old h
theorem Box.new (w : World) (T : TypeId) (v : Value) : Box (w.alloc (.cells #[v] T)) w.heap.size T v := blk_top rfl
theorem own_far {size go : Nat} (h : Own w base e size A n c xs) (hg : go < base) : A.map (·.block) ≠ some go := fun e => by
 have := (h.block go e).1; omega
theorem Own.same {size : Nat} (h : Own w base e size A n c xs) (hk : ∀ k, A.map (·.block) = some k → w'.heap[k]? = w.heap[k]?) : Own w' base e size A n c xs := by
 obtain ⟨h1, h2⟩ := h
 refine ⟨h1, ?_⟩
 rcases h2 with h2 | ⟨g, cap, cur, hv, hg, hh, r⟩
 ·exact Or.inl h2
 ·refine Or.inr ⟨g, cap, cur, hv, hg, ?_, r⟩
  injection hv with hA _ _
  rw [hk g (by rw [hA]; rfl)]
  exact hh
theorem dc_many (h : 40 < l.length ∨ old < 0 ∨ 64 < old ∨ size < 0 ∨ 64 < size) : deltaCheck l old size = 1 := by unfold deltaCheck; rw [if_pos h]
theorem dc_go (h : ¬ (40 < l.length ∨ old < 0 ∨ 64 < old ∨ size < 0 ∨ 64 < size)) : deltaCheck l old size = stepsCheck old l size := by unfold deltaCheck; rw [if_neg h]
theorem sc_form (h : ¬ o.form) : stepsCheck old (o :: l) size = 3 := by unfold stepsCheck; rw [if_pos h]
theorem sc_range (h : o.form) (g : ¬ o.in_ old) : stepsCheck old (o :: l) size = 2 := by unfold stepsCheck; rw [if_neg (by simpa using h), if_pos g]
theorem sc_many (h : o.form) (g : o.in_ old) (k : size < o.n) : stepsCheck old (o :: l) size = 1 := by unfold stepsCheck; rw [if_neg (by simpa using h), if_neg (by simpa using g), if_pos k]
theorem sc_on (h : o.form) (g : o.in_ old) (k : ¬ size < o.n) : stepsCheck old (o :: l) size = stepsCheck old l (size - o.n) := by
 conv => lhs; unfold stepsCheck
 rw [if_neg (by simpa using h), if_neg (by simpa using g), if_neg k]
def ScAt (old : Int) (l : List Stp) (size : Int) (k : Nat) (s : Int) : Prop := stepsCheck old (l.drop k) s = stepsCheck old l size
theorem ScAt.here {s : Int} (h : ScAt old l size k s) (hk : k < l.length) : stepsCheck old (l[k] :: l.drop (k + 1)) s = stepsCheck old l size := by
 unfold ScAt at h; rwa [List.drop_eq_getElem_cons hk] at h
theorem deltaCheck_calls (A : Option Addr) (c : Nat) (l : List Stp) (old size : Int) (w : World) (hl : l.length ≤ 1048576) (hr : Sps w A l) :
  Calls Try.prog 19 #[.slice A l.length c, iv old, iv size] w (RetB w (iv (deltaCheck l old size))) := by
 by_cases hm : 40 < l.length ∨ old < 0 ∨ 64 < old ∨ size < 0 ∨ 64 < size
 ·have HR := Lib.hid (dc_many hm)
  by_cases h1 : 40 < l.length
  ·have h1' : (40 : Int) < (l.length : Int) := by omega
   clear hm h1
   go_enter Try.func19, Try.ntmps19
   go_wp2_with fail
   go_ret
   exact ⟨ret_int HR.out.symm, Below.refl _ _⟩
  have h1' : ¬ (40 : Int) < (l.length : Int) := by omega
  by_cases h2 : old < 0
  ·clear hm h1
   go_enter Try.func19, Try.ntmps19
   go_wp2_with fail
   go_ret
   exact ⟨ret_int HR.out.symm, Below.refl _ _⟩
  by_cases h3 : 64 < old
  ·clear hm h1
   go_enter Try.func19, Try.ntmps19
   go_wp2_with fail
   go_ret
   exact ⟨ret_int HR.out.symm, Below.refl _ _⟩
  by_cases h4 : size < 0
  ·clear hm h1
   go_enter Try.func19, Try.ntmps19
   go_wp2_with fail
   go_ret
   exact ⟨ret_int HR.out.symm, Below.refl _ _⟩
  have h5 : 64 < size := by omega
  clear hm h1
  go_enter Try.func19, Try.ntmps19
  go_wp2_with fail
  go_ret
  exact ⟨ret_int HR.out.symm, Below.refl _ _⟩
 ·have HR := Lib.hid (dc_go hm)
  have h1 : ¬ (40 : Int) < (l.length : Int) := by omega
  have h2 : ¬ old < 0 := by omega
  have h3 : ¬ 64 < old := by omega
  have h4 : ¬ size < 0 := by omega
  have h5 : ¬ 64 < size := by omega
  have h6 : l.length ≤ 40 := by omega
  clear hm
  go_enter Try.func19, Try.ntmps19
  go_wp2_with fail
  go_loopw [31, 2] (fun i s wr => ∃ (k : Nat) (z : Int), k ≤ l.length ∧ i = .int .i64 k ∧ s = .int .i64 z ∧ 0 ≤ z ∧ z ≤ 64 ∧ Hid (ScAt old l size k z) ∧ Hid (Below w.heap.size w wr)) (fun i _ _ => l.length - (intOf i).toNat)
  case atStart => exact ⟨0, size, Nat.zero_le _, rfl, rfl, by omega, by omega, Lib.hid (by unfold ScAt; rw [List.drop_zero]), Lib.hid (Below.refl _ _)⟩
  case round =>
   clear h4 h5
   obtain ⟨k, z, hk, rfl, rfl, hz0, hz1, HS, HB⟩ := hrel
   by_cases hlt : k < l.length
   ·obtain ⟨b, o, B, cc, rfl, hs, hc0, hc1, hc2, hd1, hd2, -, hi0, hi1⟩ := (hr.stays HB.out).at_ hlt
    have HH := Lib.hid (HS.out.here hlt)
    have hsz := HB.out.size
    clear HS
    unfold I64 at hi0 hi1
    obtain ⟨i00, i01⟩ := hi0
    obtain ⟨i10, i11⟩ := hi1
    generalize hx : l[k] = x at *
    clear hx
    obtain ⟨at_, len, data⟩ := x
    dsimp only at *
    have hdl : 0 ≤ (data.length : Int) := by omega
    by_cases hf : (⟨at_, len, data⟩ : Stp).form
    ·by_cases hin : (⟨at_, len, data⟩ : Stp).in_ old
     ·have hn : (⟨at_, len, data⟩ : Stp).n = len + data.length := rfl
      have hin' := hin
      unfold Stp.in_ at hin'
      dsimp only at hin'
      obtain ⟨j1, j2, j3⟩ := hin'
      have hf' := hf
      unfold Stp.form at hf'
      dsimp only at hf'
      by_cases hzn : z < len + data.length
      ·have HE := Lib.hid (HH.out.symm.trans (sc_many hf hin (by rw [hn]; exact hzn)))
       clear hf hin hn HH
       by_cases e0 : len = 0
       ·obtain ⟨rfl, e2, e3⟩ := hf'.1 e0
        subst e0
        have e4 : 1 ≤ data.length := by rcases data with _ | ⟨y, d⟩; exact absurd rfl e2; simp
        have q1 : ((data.length : Int) == 0) = false := by simp; omega
        have q2 : ¬ (64 : Int) < (data.length : Int) := by omega
        clear hf' e2
        go_wp2_with fail
        go_ret
        exact ⟨ret_int (by rw [HR.out, HE.out]), (HB.out.alloc hsz _)⟩
       ·have e2 := hf'.2 e0
        subst e2
        have q1 : (len == 0) = false := by simp [e0]
        have q2 : (len != 0) = true := by simp [e0]
        clear hf' e0
        simp only [List.length_nil, Int.ofNat_eq_natCast, Int.natCast_zero, Int.add_zero] at *
        go_wp2_with fail
        go_ret
        exact ⟨ret_int (by rw [HR.out, HE.out]), (HB.out.alloc hsz _)⟩
      ·have HE := Lib.hid ((sc_on hf hin (by rw [hn]; exact hzn)).symm.trans HH.out)
       clear hf hin HH
       rw [hn] at HE
       clear hn
       by_cases e0 : len = 0
       ·obtain ⟨rfl, e2, e3⟩ := hf'.1 e0
        subst e0
        have e4 : 1 ≤ data.length := by rcases data with _ | ⟨y, d⟩; exact absurd rfl e2; simp
        have q1 : ((data.length : Int) == 0) = false := by simp; omega
        have q2 : ¬ (64 : Int) < (data.length : Int) := by omega
        clear hf' e2
        go_wp2_with fail
        go_roundw
        case rel => exact ⟨k + 1, z - (0 + data.length), by omega, by go_num, by simp, by omega, by omega, HE, Lib.hid (HB.out.alloc hsz _)⟩
        case measure => simp [intOf]; omega
       ·have e2 := hf'.2 e0
        subst e2
        have q1 : (len == 0) = false := by simp [e0]
        have q2 : (len != 0) = true := by simp [e0]
        clear hf' e0
        have HE2 : Hid (ScAt old l size (k + 1) (z - len)) := by
         have := HE.out
         refine Lib.hid ?_
         simpa [ScAt] using this
        clear HE
        simp only [List.length_nil, Int.ofNat_eq_natCast, Int.natCast_zero, Int.add_zero] at *
        go_wp2_with fail
        go_roundw
        case rel => exact ⟨k + 1, z - len, by omega, by go_num, by simp, by omega, by omega, HE2, Lib.hid (HB.out.alloc hsz _)⟩
        case measure => simp [intOf]; omega
     ·have HE := Lib.hid (HH.out.symm.trans (sc_range hf hin))
      have hf' := hf
      unfold Stp.form at hf'
      dsimp only at hf'
      have hin' := hin
      unfold Stp.in_ at hin'
      dsimp only at hin'
      clear hf hin HH
      have e0 : len ≠ 0 := by
       intro e0
       obtain ⟨e1, _, _⟩ := hf'.1 e0
       omega
      have e2 := hf'.2 e0
      subst e2
      have q1 : (len == 0) = false := by simp [e0]
      have q2 : (len != 0) = true := by simp [e0]
      clear hf' e0
      simp only [List.length_nil, Int.ofNat_eq_natCast, Int.natCast_zero, Int.add_zero] at *
      have HI := Lib.hid hin'
      clear hin'
      by_cases r1 : len < 0
      ·go_wp2_with fail
       go_ret
       exact ⟨ret_int (by rw [HR.out, HE.out]), (HB.out.alloc hsz _)⟩
      by_cases r2 : at_ < 0
      ·go_wp2_with fail
       go_ret
       exact ⟨ret_int (by rw [HR.out, HE.out]), (HB.out.alloc hsz _)⟩
      by_cases r3 : old < len
      ·go_wp2_with fail
       go_ret
       exact ⟨ret_int (by rw [HR.out, HE.out]), (HB.out.alloc hsz _)⟩
      have r4 : old - len < at_ := by have := HI.out; omega
      go_wp2_with fail
      go_ret
      exact ⟨ret_int (by rw [HR.out, HE.out]), (HB.out.alloc hsz _)⟩
    ·have HE := Lib.hid (HH.out.symm.trans (sc_form hf))
     have hf' := hf
     unfold Stp.form at hf'
     dsimp only at hf'
     clear hf HH
     by_cases e0 : len = 0
     ·subst e0
      by_cases e1 : at_ = 0
      ·subst e1
       by_cases e2 : data = []
       ·subst e2
        clear hf'
        simp only [List.length_nil, Int.ofNat_eq_natCast, Int.natCast_zero, Int.add_zero] at *
        go_wp2_with fail
        go_ret
        exact ⟨ret_int (by rw [HR.out, HE.out]), (HB.out.alloc hsz _)⟩
       ·have e4 : 1 ≤ data.length := by rcases data with _ | ⟨y, d⟩; exact absurd rfl e2; simp
        have e3 : (64 : Int) < (data.length : Int) := by
         by_cases g : data.length ≤ 64
         ·exact absurd ⟨fun _ => ⟨rfl, e2, g⟩, fun h => absurd rfl h⟩ hf'
         ·omega
        have q1 : ((data.length : Int) == 0) = false := by simp; omega
        clear hf' e2
        go_wp2_with fail
        go_ret
        exact ⟨ret_int (by rw [HR.out, HE.out]), (HB.out.alloc hsz _)⟩
      ·have q1 : (at_ != 0) = true := by simp [e1]
       clear hf' e1
       go_wp2_with fail
       go_ret
       exact ⟨ret_int (by rw [HR.out, HE.out]), (HB.out.alloc hsz _)⟩
     ·have e2 : data ≠ [] := fun e => hf' ⟨fun h => absurd h e0, fun _ => e⟩
      have e4 : 1 ≤ data.length := by rcases data with _ | ⟨y, d⟩; exact absurd rfl e2; simp
      have q1 : (len == 0) = false := by simp [e0]
      have q2 : (len != 0) = true := by simp [e0]
      have q3 : (0 : Int) < (data.length : Int) := by omega
      clear hf' e0 e2
      go_wp2_with fail
      go_ret
      exact ⟨ret_int (by rw [HR.out, HE.out]), (HB.out.alloc hsz _)⟩
   ·obtain rfl : k = l.length := by omega
    have HE : Hid (stepsCheck old l size = if z = 0 then 0 else 3) := by
     have := HS.out
     unfold ScAt at this
     rw [List.drop_length] at this
     rw [← this]; rfl
    clear HS
    by_cases e : z = 0
    ·have HF := Lib.hid (HE.out.trans (if_pos e))
     subst e
     go_wp2_with fail
     go_ret
     exact ⟨ret_int (by rw [HR.out, HF.out]), HB.out⟩
    ·have HF := Lib.hid (HE.out.trans (if_neg e))
     have q : (z != 0) = true := by simp [e]
     clear e
     go_wp2_with fail
     go_ret
     exact ⟨ret_int (by rw [HR.out, HF.out]), HB.out⟩
theorem patCheck_bad {p : Pat} (h : ¬ p.range) : patCheck p = 2 := by unfold patCheck; rw [if_pos h]
theorem patCheck_in {p : Pat} (h : p.range) : patCheck p = deltaCheck p.ops 64 p.size := by unfold patCheck; rw [if_neg (by simpa using h)]
theorem patCheckA_calls (A : Option Addr) (c : Nat) (f t o n sz : Int) (l : List Stp) (w : World) (hl : l.length ≤ 1048576) (hs : Sps w A l) :
  Calls Try.prog 29 #[.agg #[iv f, iv t, iv o, iv n, iv sz, .slice A l.length c]] w (RetB w (iv (patCheck ⟨f, t, o, n, sz, l⟩))) := by
 have hb : Below w.heap.size w (w.alloc (.cells #[iv f, iv t, iv o, iv n, iv sz, .slice A l.length c] 35)) := (Below.refl _ _).alloc (Nat.le_refl _) _
 have HB := Lib.hid hb
 have HC := Lib.hid (deltaCheck_calls A c l 64 sz _ hl (hs.stays hb))
 clear hb hs
 by_cases h0 : f < (1 : Int)
 ·have hz := Lib.hid (patCheck_bad (p := ⟨f, t, o, n, sz, l⟩) (by unfold Pat.range; dsimp only; omega))
  clear HC
  go_enter Try.func29, Try.ntmps29
  go_wp2_with fail
  go_ret
  exact ⟨ret_int hz.out.symm, HB.out⟩
 by_cases h1 : (30 : Int) < f
 ·have hz := Lib.hid (patCheck_bad (p := ⟨f, t, o, n, sz, l⟩) (by unfold Pat.range; dsimp only; omega))
  clear HC
  go_enter Try.func29, Try.ntmps29
  go_wp2_with fail
  go_ret
  exact ⟨ret_int hz.out.symm, HB.out⟩
 by_cases h2 : t < (1 : Int)
 ·have hz := Lib.hid (patCheck_bad (p := ⟨f, t, o, n, sz, l⟩) (by unfold Pat.range; dsimp only; omega))
  clear HC
  go_enter Try.func29, Try.ntmps29
  go_wp2_with fail
  go_ret
  exact ⟨ret_int hz.out.symm, HB.out⟩
 by_cases h3 : (30 : Int) < t
 ·have hz := Lib.hid (patCheck_bad (p := ⟨f, t, o, n, sz, l⟩) (by unfold Pat.range; dsimp only; omega))
  clear HC
  go_enter Try.func29, Try.ntmps29
  go_wp2_with fail
  go_ret
  exact ⟨ret_int hz.out.symm, HB.out⟩
 by_cases h4 : o < (0 : Int)
 ·have hz := Lib.hid (patCheck_bad (p := ⟨f, t, o, n, sz, l⟩) (by unfold Pat.range; dsimp only; omega))
  clear HC
  go_enter Try.func29, Try.ntmps29
  go_wp2_with fail
  go_ret
  exact ⟨ret_int hz.out.symm, HB.out⟩
 by_cases h5 : (65535 : Int) < o
 ·have hz := Lib.hid (patCheck_bad (p := ⟨f, t, o, n, sz, l⟩) (by unfold Pat.range; dsimp only; omega))
  clear HC
  go_enter Try.func29, Try.ntmps29
  go_wp2_with fail
  go_ret
  exact ⟨ret_int hz.out.symm, HB.out⟩
 by_cases h6 : n < (0 : Int)
 ·have hz := Lib.hid (patCheck_bad (p := ⟨f, t, o, n, sz, l⟩) (by unfold Pat.range; dsimp only; omega))
  clear HC
  go_enter Try.func29, Try.ntmps29
  go_wp2_with fail
  go_ret
  exact ⟨ret_int hz.out.symm, HB.out⟩
 by_cases h7 : (65535 : Int) < n
 ·have hz := Lib.hid (patCheck_bad (p := ⟨f, t, o, n, sz, l⟩) (by unfold Pat.range; dsimp only; omega))
  clear HC
  go_enter Try.func29, Try.ntmps29
  go_wp2_with fail
  go_ret
  exact ⟨ret_int hz.out.symm, HB.out⟩
 have hz := Lib.hid (patCheck_in (p := ⟨f, t, o, n, sz, l⟩) (by unfold Pat.range; dsimp only; omega))
 go_enter Try.func29, Try.ntmps29
 go_wp2_with fail
 refine HC.out.mono ?_
 rintro e w1 ⟨rfl, hb1⟩
 have HB1 := Lib.hid (HB.out.trans (hb1.mono HB.out.size))
 clear hb1
 go_wp2_with fail
 go_ret
 exact ⟨ret_int hz.out.symm, HB1.out⟩
section
variable (A B : Option Addr) (c d : Nat) (old b : List UInt8) (w : World)
theorem longest_calls (k : Nat) (hl : old.length ≤ 64) (hm : b.length ≤ 64) (hk : k ≤ b.length) (ha : Bts w A old) (hb : Bts w B b) :
  Calls Try.prog 86 #[.slice A old.length c, .slice B b.length d, iv k] w (RetN w (.tuple #[iv (longest old b k).1, iv (longest old b k).2, iv 0])) := by
 have h1 : ¬ (64 : Int) < (old.length : Int) := by omega
 have h2 : ¬ (64 : Int) < (b.length : Int) := by omega
 have h3 : ¬ (k : Int) < 0 := by omega
 have h4 : ¬ (b.length : Int) < (k : Int) := by omega
 go_enter Try.func86, Try.ntmps86
 go_wp2
 go_loopw [9, 10, 11, 12, 31] (fun p q x y i wr => ∃ j n : Nat, j ≤ old.length ∧ i = .int .i64 j ∧ p = iv (longTo old b k j).1 ∧ q = iv (longTo old b k j).2 ∧ w.drewN n = wr) (fun _ _ _ _ i _ => old.length - (intOf i).toNat)
 case atStart => exact ⟨0, 0, Nat.zero_le _, rfl, rfl, rfl, rfl⟩
 case round =>
  obtain ⟨j, n, hj, rfl, rfl, rfl, rfl⟩ := hrel
  have hb1 := longTo_le old b k j hj
  by_cases hlt : j < old.length
  ·have HP := Lib.hid (preAt_le old b j k)
   go_wp2_with fail
   go_loopw [12] (fun y wr => ∃ t n : Nat, t ≤ preAt old b j k ∧ y = .int .i64 t ∧ w.drewN n = wr) (fun y _ => preAt old b j k - (intOf y).toNat)
   case atStart => exact ⟨0, n, Nat.zero_le _, rfl, rfl⟩
   case round =>
    obtain ⟨t, n1, ht, rfl, rfl⟩ := hrel
    have hP := HP.out
    by_cases hin : t < preAt old b j k
    ·obtain ⟨i1, i2, he⟩ := preAt_lt old b j k t hin
     obtain ⟨b1, o1, rfl, hs1, hc1⟩ := ha (j + t) i1
     obtain ⟨b2, o2, rfl, hs2, hc2⟩ := hb (k + t) i2
     have d1 : decide ((j : Int) + (t : Int) < (old.length : Int)) = true := by simp; omega
     have d2 : decide ((k : Int) + (t : Int) < (b.length : Int)) = true := by simp; omega
     have d3 : ((old[j + t].toNat : Int) == (b[k + t].toNat : Int)) = true := by simp [he]
     have HE := Lib.hid he
     clear he
     go_wp2_with fail
     go_quiet (fail)
     go_wp2_with fail
     go_roundw
     case rel => exact ⟨t + 1, _, by omega, by go_num, rfl⟩
     case measure => simp [intOf] <;> omega
    ·obtain rfl : t = preAt old b j k := by omega
     have hst := preAt_stop old b j k
     clear ht hin
     by_cases hbest : (longTo old b k j).2 < preAt old b j k
     first | case' inl => have T10 : Hid True := Lib.hid trivial | case' pos => have T10 : Hid True := Lib.hid trivial | case' refine_1 => have T10 : Hid True := Lib.hid trivial
     iterate 2
      ·first
        |
         revert T10; intro T10
         have HT : Hid (longTo old b k (j + 1) = (j, preAt old b j k)) := longTo_yes hbest
        | have HT : Hid (longTo old b k (j + 1) = longTo old b k j) := longTo_no hbest
       first
        |
         revert T10; intro T10
         have hbest' : ((longTo old b k j).2 : Int) < (preAt old b j k : Int) := by omega
        | have hbest' : ¬ ((longTo old b k j).2 : Int) < (preAt old b j k : Int) := by omega
       by_cases c1 : j + preAt old b j k < old.length
       ·have d1 : decide ((j : Int) + (preAt old b j k : Int) < (old.length : Int)) = true := by simp; omega
        by_cases c2 : k + preAt old b j k < b.length
        ·have d2 : decide ((k : Int) + (preAt old b j k : Int) < (b.length : Int)) = true := by simp; omega
         have hne := hst c1 c2
         have d3 : ((old[j + preAt old b j k].toNat : Int) == (b[k + preAt old b j k].toNat : Int)) = false := by
          simp; exact fun e => hne (UInt8.toNat_inj.1 (by omega))
         obtain ⟨b1, o1, rfl, hs1, hc1⟩ := ha (j + preAt old b j k) c1
         obtain ⟨b2, o2, rfl, hs2, hc2⟩ := hb (k + preAt old b j k) c2
         clear hne hst
         go_wp2_with fail
         go_quiet (fail)
         go_wp2_with fail
         go_roundw
         case rel => exact ⟨j + 1, _, by omega, by go_num, by rw [HT.out], by rw [HT.out], rfl⟩
         case measure => simp [intOf] <;> omega
        ·have d2 : decide ((k : Int) + (preAt old b j k : Int) < (b.length : Int)) = false := by simp; omega
         clear hst
         go_wp2_with fail
         go_quiet (fail)
         go_wp2_with fail
         go_roundw
         case rel => exact ⟨j + 1, _, by omega, by go_num, by rw [HT.out], by rw [HT.out], rfl⟩
         case measure => simp [intOf] <;> omega
       ·have d1 : decide ((j : Int) + (preAt old b j k : Int) < (old.length : Int)) = false := by simp; omega
        clear hst
        go_wp2_with fail
        go_quiet (fail)
        go_wp2_with fail
        go_roundw
        case rel => exact ⟨j + 1, _, by omega, by go_num, by rw [HT.out], by rw [HT.out], rfl⟩
        case measure => simp [intOf] <;> omega
  ·go_wp2_with fail
   go_ret3
   refine ⟨?_, _, rfl⟩
   obtain rfl : j = old.length := by omega
   rfl
end
theorem data_le (old : List UInt8) : ∀ (l : List Stp), ∀ o ∈ l, o.data.length ≤ (applied old l).length
 | [], _, h => by cases h
 | x :: l, o, h => by
  rw [applied_cons, List.length_append]
  rcases List.mem_cons.1 h with rfl | h
  ·simp [Stp.piece]; omega
  ·have := data_le old l o h; omega
theorem blk_far {size : Nat} (h : Own w base e size A n c xs) (hg : w.grownBy w' (A.map (·.block))) {bb : Nat} (hb : bb < base) (hw : base ≤ w.heap.size) : w'.heap[bb]? = w.heap[bb]? := by
 refine hg.block bb (by omega) ?_
 intro e
 have := (h.block bb e.symm).1
 omega
def diffJ (w0 w2 : World) (l0 : List Stp) (o : Stp) (ds0 : List (Option Addr × Nat)) (d0 : Option Addr × Nat) (g cc : Nat) (x : UInt8) : Nat → (Nat → Value) → World → Prop
 | 0, _, w => w = w2.drew
 | 1, cv, w => w = w2.drew.alloc (.cells #[bv x] 5) ∧ cv 11 = .slice (some ⟨w2.heap.size, 0, none⟩) 1 1
 | 2, cv, w => ∃ B' c', cv 12 = .slice B' (o.data.length + 1) c' ∧ Own w w0.heap.size 5 1 B' (o.data.length + 1) c' (o.data.map bv ++ [bv x]) ∧ (w2.drew.alloc (.cells #[bv x] 5)).grownBy w (d0.1.map (·.block)) ∧ Below w0.heap.size (w2.drew.alloc (.cells #[bv x] 5)) w ∧
   (B'.map (·.block) = d0.1.map (·.block) ∨ B'.map (·.block) = some (w2.drew.alloc (.cells #[bv x] 5)).heap.size)
 | _, _, w => ∃ B' c', DRow w w0.heap.size (l0 ++ [⟨o.at_, o.len, o.data ++ [x]⟩]) (ds0 ++ [(B', c')]) (some ⟨g, 0, none⟩) cc ∧ Below w0.heap.size w0 w
theorem diffJ_cell2 {w0 w2 : World} {l0 : List Stp} {ds0 : List (Option Addr × Nat)} {d0 : Option Addr × Nat} {cc : Nat} {x : UInt8} {cv : Nat → Value} (hk : k ≤ 1) (h : diffJ w0 w2 l0 o ds0 d0 g cc x k cv w) (hc : w2.cell? ⟨g, j, none⟩ = some v) (hg : g < w2.heap.size) : w.cell? ⟨g, j, none⟩ = some v := by
 match k, hk, h with
 | 0, _, h => obtain rfl : w = w2.drew := h; exact hc
 | 1, _, ⟨h, _⟩ => rw [h, (((Below.refl w2.heap.size w2).drew).alloc (Nat.le_refl _) _).cell (p := ⟨g, j, none⟩) hg]; exact hc
theorem wp_slb {n : UInt8} (hs : a.tmps[s]? = some (bv n))
  (h : K (a.put (some d) (.slice (some ⟨w.heap.size, 0, none⟩) 1 1)) (w.alloc (.cells #[bv n] 5))) :
  Oper.wp Try.prog ⟨some d, .buildSlice 22 1 #[(0, .tmp s)], t, p, af, gd⟩ a w K Q := by
 have e : a.eval (.tmp s) = bv n := by simp [Act.eval, hs]
 unfold Oper.wp execOp
 simp only [e, List.map_toArray, List.map_cons, List.map_nil]
 go_simp
 exact h
theorem wp_stb {x y : Tmp} {u : Value} (hx : a.tmps[x]? = some (.pointer (some ⟨g, j, none⟩))) (hy : a.tmps[y]? = some (.slice B n c))
  (hc : w.cell? ⟨g, j, none⟩ = some u) (hf : w.frozen? ⟨g, j, none⟩ = false) (h : K a (w.setCell ⟨g, j, none⟩ (.slice B n c))) :
  Oper.wp Try.prog ⟨none, .store 22 (.tmp x) (.tmp y), t, p, af, gd⟩ a w K Q := by
 have e1 : a.eval (.tmp x) = .pointer (some ⟨g, j, none⟩) := by simp [Act.eval, hx]
 have e2 : a.eval (.tmp y) = .slice B n c := by simp [Act.eval, hy]
 unfold Oper.wp execOp
 simp only [e1, e2]
 go_simp
 exact h
theorem addByte_last (l : List Stp) (o : Stp) (x : UInt8) (h : ¬ 0 < o.len) : addByte (l ++ [o]) x = l ++ [⟨o.at_, o.len, o.data ++ [x]⟩] := by rw [addByte_snoc, if_neg h]
theorem addByte_new (l : List Stp) (o : Stp) (x : UInt8) (h : 0 < o.len) : addByte (l ++ [o]) x = (l ++ [o]) ++ [⟨0, 0, [] ++ [x]⟩] := by rw [addByte_snoc, if_pos h]; simp
theorem snoc_of {α : Type} (l : List α) (h : l ≠ []) : ∃ m x, l = m ++ [x] := ⟨l.dropLast, l.getLast h, (List.dropLast_concat_getLast h).symm⟩
theorem addByte_len (l : List Stp) (x : UInt8) : (addByte l x).length ≤ l.length + 1 := by
 by_cases h : l = []
 ·subst h; simp [addByte]
 ·obtain ⟨m, o, rfl⟩ := snoc_of l h
  rw [addByte_snoc]; split <;> simp
theorem diffN_len (old b : List UInt8) : ∀ q, (diffN old b q).2.length ≤ q
 | 0 => by simp [diffN]
 | q + 1 => by
  have ih := diffN_len old b q
  show (diffStep old b (diffN old b q)).2.length ≤ q + 1
  generalize diffN old b q = p at *
  unfold diffStep
  split
  ·split
   ·simp only [List.length_append, List.length_cons, List.length_nil]; omega
   ·have := addByte_len p.2 (b.getD p.1 0)
    show (addByte p.2 (b.getD p.1 0)).length ≤ q + 1
    omega
  ·omega
theorem drow_cell {ds : List (Option Addr × Nat)} (h : DRow w base (l ++ [o]) ds (some ⟨g, 0, none⟩) c) : ∃ ds0 d, ds = ds0 ++ [d] ∧ ds0.length = l.length ∧
  w.cell? ⟨g, l.length * 3, none⟩ = some (iv o.at_) ∧ w.cell? ⟨g, l.length * 3 + 1, none⟩ = some (iv o.len) ∧ w.cell? ⟨g, l.length * 3 + 2, none⟩ = some (.slice d.1 o.data.length d.2) ∧ (∀ j, w.frozen? ⟨g, j, none⟩ = false) ∧ Own w base 5 1 d.1 o.data.length d.2 (o.data.map bv) := by
 have hne : ds ≠ [] := by intro e; have := h.len; rw [e] at this; simp at this
 obtain ⟨ds0, d, rfl⟩ := snoc_of ds hne
 have hl : ds0.length = l.length := by have := h.len; simpa using this
 have hd : (ds0 ++ [d])[l.length]? = some d := by rw [← hl]; simp
 have hc : ∀ j, j < 3 → w.cell? ⟨g, l.length * 3 + j, none⟩ = (opCell o d)[j]? := fun j hj => by
  rw [h.row.cellAt _ (by simp; omega)]
  exact opCells_at _ _ h.len l.length j o d (by simp) hd hj
 exact ⟨ds0, d, rfl, hl, hc 0 (by omega), hc 1 (by omega), hc 2 (by omega), fun j => h.row.frozenAt j, h.data l.length o d (by simp) hd⟩
theorem diff3_calls (A B : Option Addr) (c d : Nat) (old b : List UInt8) (w : World) (ho : old.length ≤ 64) (hb : b.length ≤ 64) (hA : Bts w A old) (hB : Bts w B b) :
  Calls Try.prog 14 #[.slice A old.length c, .slice B b.length d] w (OpRet3 w (diffed old b) 0) := by
 have h1 : ¬ (64 : Int) < (old.length : Int) := by omega
 have h2 : ¬ (64 : Int) < (b.length : Int) := by omega
 go_enter Try.func14, Try.ntmps14
 go_wp2_with fail
 go_loopw [6, 7] (fun v i wr => ∃ (q : Nat) (C : Option Addr) (cc : Nat) (ds : List (Option Addr × Nat)), i = .int .i64 ((diffN old b q).1 : Int) ∧ v = .slice C (diffN old b q).2.length cc ∧ DRow wr w.heap.size (diffN old b q).2 ds C cc ∧ Hid (Below w.heap.size w wr)) (fun _ i _ => b.length - (intOf i).toNat)
 case atStart => exact ⟨0, none, 0, [], rfl, rfl, DRow.nil _ _, Lib.hid (Below.refl _ _)⟩
 case round =>
  obtain ⟨q, C, cc, ds, rfl, rfl, hD, HB⟩ := hrel
  have hinv := diffN_inv old b q
  have hle := hinv.le
  have hsz := HB.out.size
  by_cases hlt : (diffN old b q).1 < b.length
  ·have hlen : (diffN old b q).2.length ≤ 64 := by
    have := diffN_len old b q
    have := diffN_mono old b q hlt
    omega
   have hlong := fun h4 => diffStep_long (old := old) (b := b) hlt h4
   have hbyte := fun h4 => diffStep_byte (old := old) (b := b) hlt h4
   have hM : ∀ o ∈ (diffN old b q).2, o.data.length ≤ 64 := fun o ho => by
    have h1 := data_le old _ o ho
    rw [hinv.gives] at h1
    simp at h1; omega
   have HM := Lib.hid hM
   clear hM
   have hst : diffN old b (q + 1) = diffStep old b (diffN old b q) := rfl
   have hin := longest_in old b (diffN old b q).1
   have hcl := fun wq h1 h2 => longest_calls A B c d old b wq (diffN old b q).1 ho hb hle h1 h2
   rw [← hst] at hlong hbyte
   clear hst hinv
   generalize diffN old b q = p at *
   obtain ⟨i, l⟩ := p
   dsimp only at *
   generalize longest old b i = lg at *
   obtain ⟨wh, m⟩ := lg
   dsimp only at *
   have HL := Lib.hid hlong
   have HY := Lib.hid hbyte
   have HK := Lib.hid hcl
   have HD := Lib.hid hD
   have hA' := hA.stays HB.out
   have hB' := hB.stays HB.out
   obtain ⟨hi1, hi2⟩ := hin
   clear hlong hbyte hcl hD
   obtain ⟨bb, bo, rfl, hbw, hbx0⟩ := hB i hlt
   have hbx : wr.cell? ⟨bb, bo + i, none⟩ = some (bv b[i]) := (HB.out.cell (p := ⟨bb, bo + i, none⟩) hbw).trans hbx0
   have hbs : bb < wr.heap.size := Nat.lt_of_lt_of_le hbw hsz
   go_wp2_with fail
   refine (HK.out _ hA' hB').mono ?_
   rintro e w1 ⟨rfl, nd, rfl⟩
   clear hA' hB'
   by_cases h4 : 4 ≤ m
   ·have h4' : (4 : Int) ≤ (m : Int) := by omega
    have HP := Lib.hid (HL.out h4)
    have hb0 : Below w.heap.size w (((wr.drewN nd)).alloc (.cells #[iv wh, iv m, .slice none 0 0] 117)) := (Below.drewN' HB.out nd).alloc hsz _
    have hD0 := (HD.out.drewN nd).below ((Below.refl (wr.drewN nd).heap.size (wr.drewN nd)).alloc (Nat.le_refl _) (.cells #[iv wh, iv m, .slice none 0 0] 117))
    have HB0 := Lib.hid hb0
    have HD0 := Lib.hid hD0
    clear hb0 hD0
    go_wp2_with (at_builtin; go_must (refine wpList_app _ rfl (.tmp 35) (.tmp 39) 23 rfl elOps w.heap.size C l.length cc (opCells l ds) rfl HD0.out.row (some ⟨wr.heap.size, 0, none⟩) 1 1 [iv wh, iv m, .slice none 0 0] rfl (src_blk (blk_top (by simp))) rfl (by simp [Value.oneCell']) (by omega) (by simp; omega) ?_))
    intro C' cc' w' hown hgr hbel hor
    have HD1 := Lib.hid (HD0.out.push hown hgr (by simpa using hor))
    have HB1 : Hid (Below w.heap.size w w') := Lib.hid (HB0.out.trans hbel)
    clear hown hgr hbel hor
    go_wp2_with fail
    go_roundw
    case rel => exact ⟨q + 1, C', cc', _, by rw [HP.out]; go_num, by rw [HP.out]; simp, by rw [HP.out]; exact HD1.out, HB1⟩
    case measure => simp [intOf]; omega
   ·have h4' : ¬ (4 : Int) ≤ (m : Int) := by omega
    have HP := Lib.hid (HY.out h4)
    clear HL HY
    have hbx' : (wr.drewN nd).cell? ⟨bb, bo + i, none⟩ = some (bv b[i]) := hbx
    by_cases hl0 : l = []
    ·obtain ⟨o, ho9⟩ : ∃ o : Stp, o = ⟨0, 0, []⟩ := ⟨_, rfl⟩
     have HQ : Hid (diffN old b (q + 1) = (i + 1, l ++ [⟨o.at_, o.len, o.data ++ [b.getD i 0]⟩])) := by
      rw [ho9]
      rw [hl0] at HP ⊢
      exact HP.out
     have hl1 : (l.length : Int) - 1 < 0 := by rw [hl0]; simp
     have hod : o.data.length ≤ 64 := by rw [ho9]; simp
     clear HP hl0
     have hb0 : Below w.heap.size w (((wr.drewN nd)).alloc (.cells #[iv 0, iv 0, .slice none 0 0] 117)) := (Below.drewN' HB.out nd).alloc hsz _
     have hD0 := (HD.out.drewN nd).below ((Below.refl (wr.drewN nd).heap.size (wr.drewN nd)).alloc (Nat.le_refl _) (.cells #[iv 0, iv 0, .slice none 0 0] 117))
     have HB0 := Lib.hid hb0
     have HD0 := Lib.hid hD0
     have hbb : ((wr.drewN nd).alloc (.cells #[iv 0, iv 0, .slice none 0 0] 117)).cell? ⟨bb, bo + i, none⟩ = some (bv b[i]) := by
      rw [((Below.refl (wr.drewN nd).heap.size (wr.drewN nd)).alloc (Nat.le_refl _) (.cells #[iv 0, iv 0, .slice none 0 0] 117)).cell (p := ⟨bb, bo + i, none⟩) hbs]; exact hbx'
     have HBB := Lib.hid hbb
     clear hb0 hD0 hbb
     go_wp2_with (at_builtin; go_must (refine wpList_app _ rfl (.tmp 57) (.tmp 59) 23 rfl elOps w.heap.size C l.length cc (opCells l ds) rfl HD0.out.row (some ⟨wr.heap.size, 0, none⟩) 1 1 [iv 0, iv 0, .slice none 0 0] rfl (src_blk (blk_top (by simp))) rfl (by simp [Value.oneCell']) (by omega) (by simp; omega) ?_))
     intro C' cc2 w2 hown hgr hbel hor
     obtain ⟨g2, rfl, hg1, hg2⟩ := hown.form (by omega)
     have HDc := Lib.hid (HD0.out.push hown hgr (by simpa using hor))
     have HBc : Hid (Below w.heap.size w w2) := Lib.hid (HB0.out.trans hbel)
     have hbx2 : w2.cell? ⟨bb, bo + i, none⟩ = some (bv b[i]) := by
      have hl := blk_far HD0.out.row hgr (bb := bb) hbw (by have := HB0.out.size; omega)
      exact (World.cell?_of_block hl).trans HBB.out
     clear hown hgr hbel hor HBB hbx hbx' HD HD0 HB0 hl1
     have hbx' := hbx2
     clear hbx2
     rw [← ho9] at HDc
     clear ho9
     obtain ⟨d0, hd0⟩ : ∃ d0 : Option Addr × Nat, (none, 0) = d0 := ⟨_, rfl⟩
     rw [hd0] at HDc
     clear hd0
     obtain ⟨ds1, d1, hds, hdl1, kc0, kc1, kc2, kfz, kdo⟩ := drow_cell HDc.out
     obtain ⟨rfl, hd1⟩ := List.append_inj' hds rfl
     obtain rfl : d0 = d1 := by simpa using hd1
     have kg := (HDc.out.row.block g2 rfl)
     obtain ⟨kg1, kg2⟩ := kg
     have kne : d0.1.map (·.block) ≠ some g2 := fun e => HDc.out.off l.length d0 (by rw [← hdl1]; simp) g2 e rfl
     have KNE := Lib.hid kne
     have KDO := Lib.hid kdo
     have KFZ := Lib.hid kfz
     have hsz2 := HBc.out.size
     clear hds hd1 kc0 kc1 kdo kne kfz hdl1
     have hix : ¬ (l.length : Int) + 1 ≤ (l.length : Int) := by omega
     go_wp2_with fail
     refine wp_region_mix (by kernel_rfl) (some 64 :: some 65 :: some 66 :: some 67 :: some 68 :: some 69 :: some 70 :: some 71 :: some 72 :: some 73 :: some 74 :: some 75 :: some 76 :: some 77 :: some 78 :: none :: []) (none :: none :: none :: none :: none :: none :: none :: none :: none :: none :: none :: some 0 :: some 1 :: none :: none :: some 2 :: []) (.slice (some ⟨g2, 0, none⟩) (l.length + 1) cc2 :: .int .i64 (l.length : Int) :: .slice (some ⟨g2, 0, none⟩) (l.length + 1) cc2 :: .int .i64 (l.length : Int) :: .pointer (some ⟨g2, l.length * 3, none⟩) :: .pointer (some ⟨g2, l.length * 3 + 2, none⟩) :: .slice d0.1 o.data.length d0.2 :: .slice (some ⟨bb, bo, none⟩) b.length d :: .int .i64 (i : Int) :: .pointer (some ⟨bb, bo + i, none⟩) :: bv b[i] :: undef :: undef :: .pointer (some ⟨g2, l.length * 3, none⟩) :: .pointer (some ⟨g2, l.length * 3 + 2, none⟩) :: undef :: []) 3 (diffJ w w2 l o ds d0 g2 cc2 b[i]) 82 rfl rfl (by decide +kernel) (by decide +kernel) (by decide +kernel) (by decide +kernel) rfl rfl (by decide +kernel) (by decide +kernel) (rfl) ?_ ?_
     ·refine ⟨?_, ?_⟩
      ·intro done cv k a wq hw h hJ hn
       have e6 := mx_old (t := 6) (v := .slice (some ⟨g2, 0, none⟩) (l.length + 1) cc2) h rfl rfl
       exact mx_move (ch_ev e6)
      refine ⟨?_, ?_⟩
      ·intro done cv k a wq hw h hJ hn
       have e12 := mx_old (t := 12) (v := .int .i64 (l.length : Int)) h rfl rfl
       exact mx_move (ch_ev e12)
      refine ⟨?_, ?_⟩
      ·intro done cv k a wq hw h hJ hn
       have e6 := mx_old (t := 6) (v := .slice (some ⟨g2, 0, none⟩) (l.length + 1) cc2) h rfl rfl
       exact mx_move (ch_ev e6)
      refine ⟨?_, ?_⟩
      ·intro done cv k a wq hw h hJ hn
       have e12 := mx_old (t := 12) (v := .int .i64 (l.length : Int)) h rfl rfl
       exact mx_move (ch_ev e12)
      refine ⟨?_, ?_⟩
      ·intro done cv k a wq hw h hJ hn
       have e66 := mx_new (i := 2) (t := 66) h (hw 2 (by decide)) rfl rfl rfl; have e67 := mx_new (i := 3) (t := 67) h (hw 3 (by decide)) rfl rfl rfl
       go_simp
      refine ⟨?_, ?_⟩
      ·intro done cv k a wq hw h hJ hn
       have e68 := mx_new (i := 4) (t := 68) h (hw 4 (by decide)) rfl rfl rfl
       go_simp
      refine ⟨?_, ?_⟩
      ·intro done cv k a wq hw h hJ hn
       have e69 := mx_new (i := 5) (t := 69) h (hw 5 (by decide)) rfl rfl rfl
       have hk := hn 12 _ 1 rfl rfl (by decide)
       have hc := diffJ_cell2 hk hJ kc2 kg2
       go_simp
      refine ⟨?_, ?_⟩
      ·intro done cv k a wq hw h hJ hn
       have e1 := mx_old (t := 1) (v := .slice (some ⟨bb, bo, none⟩) b.length d) h rfl rfl
       exact mx_move (ch_ev e1)
      refine ⟨?_, ?_⟩
      ·intro done cv k a wq hw h hJ hn
       have e7 := mx_old (t := 7) (v := .int .i64 (i : Int)) h rfl rfl
       exact mx_move (ch_ev e7)
      refine ⟨?_, ?_⟩
      ·intro done cv k a wq hw h hJ hn
       have e71 := mx_new (i := 7) (t := 71) h (hw 7 (by decide)) rfl rfl rfl; have e72 := mx_new (i := 8) (t := 72) h (hw 8 (by decide)) rfl rfl rfl
       go_simp
      refine ⟨?_, ?_⟩
      ·intro done cv k a wq hw h hJ hn
       have e73 := mx_new (i := 9) (t := 73) h (hw 9 (by decide)) rfl rfl rfl
       have hk := hn 11 _ 0 rfl rfl (by decide)
       obtain rfl : k = 0 := by omega
       obtain rfl : wq = w2.drew := hJ
       go_simp
      refine ⟨?_, ?_⟩
      ·intro done cv a wq hw h hJ
       have e74 := mx_new (i := 10) (t := 74) h (hw 10 (by decide)) rfl rfl rfl
       obtain rfl : wq = w2.drew := hJ
       exact wp_slb e74 ⟨_, rfl, rfl, by simp⟩
      refine ⟨?_, ?_⟩
      ·intro done cv a wq hw h hJ
       have e70 := mx_new (i := 6) (t := 70) h (hw 6 (by decide)) rfl rfl rfl; have e75 := mx_cv (i := 11) (t := 75) h (hw 11 (by decide)) rfl rfl
       obtain ⟨rfl, hv⟩ := hJ
       rw [hv] at e75
       refine wp_app _ (.tmp 70) (.tmp 75) 22 rfl elBytes w.heap.size d0.1 o.data.length d0.2 (o.data.map bv) (ch_ev e70) (KDO.out.drew.alloc _) (some ⟨w2.heap.size, 0, none⟩) 1 1 [bv b[i]] (ch_ev e75) (src_blk (blk_top (by simp))) rfl (by simp [Value.oneCell']) (by omega) (by simp; omega) ?_
       intro B' c' w3 hown hgr hbel hor
       exact ⟨_, rfl, B', c', by simp, hown, hgr, hbel, hor⟩
      refine ⟨?_, ?_⟩
      ·intro done cv k a wq hw h hJ hn
       have e64 := mx_new (i := 0) (t := 64) h (hw 0 (by decide)) rfl rfl rfl; have e65 := mx_new (i := 1) (t := 65) h (hw 1 (by decide)) rfl rfl rfl
       go_simp
      refine ⟨?_, ?_⟩
      ·intro done cv k a wq hw h hJ hn
       have e77 := mx_new (i := 13) (t := 77) h (hw 13 (by decide)) rfl rfl rfl
       go_simp
      refine ⟨?_, ?_⟩
      ·intro done cv a wq hw h hJ
       have e78 := mx_new (i := 14) (t := 78) h (hw 14 (by decide)) rfl rfl rfl; have e76 := mx_cv (i := 12) (t := 76) h (hw 12 (by decide)) rfl rfl
       obtain ⟨B', c', hv, hown, hgr, hbel, hor⟩ := hJ
       rw [hv] at e76
       have hk3 : wq.heap[g2]? = (w2.drew.alloc (.cells #[bv b[i]] 5)).heap[g2]? := hgr.block g2 (by simp; omega) (fun e => KNE.out e.symm)
       have hk2 : (w2.drew.alloc (.cells #[bv b[i]] 5)).heap[g2]? = w2.heap[g2]? := Below.heap_alloc w2.drew _ g2 kg2
       have hkk : wq.heap[g2]? = w2.heap[g2]? := hk3.trans hk2
       have kc3 : wq.cell? ⟨g2, l.length * 3 + 2, none⟩ = some (.slice d0.1 o.data.length d0.2) := (World.cell?_of_block hkk).trans kc2
       have kf3 : wq.frozen? ⟨g2, l.length * 3 + 2, none⟩ = false := by
        have := KFZ.out (l.length * 3 + 2)
        unfold World.frozen? at this ⊢
        rw [hkk]; exact this
       have HD3 := HDc.out.below (((Below.refl w2.heap.size w2).drew).alloc (Nat.le_refl _) (.cells #[bv b[i]] 5))
       have HDn := HD3.add hown hgr hor
       have HBn : Below w.heap.size w wq := (HBc.out.drew.alloc hsz2 _).trans hbel
       exact wp_stb e78 e76 kc3 kf3 ⟨undef, rfl, B', c', HDn, HBn.setCell kg1 _⟩
      exact trivial
     ·rintro cv w3 ⟨B', c', HDn', HBn'⟩
      have HDn := Lib.hid HDn'
      have HBn := Lib.hid HBn'
      clear HDn' HBn' kc2 kg1 kg2 hbx'
      simp only [mixAll, putAll_some, putAll_none, putAll_nil, List.getElem?_cons_zero, List.getElem?_cons_succ, Nat.zero_add, Nat.reduceAdd, List.setIfInBounds_toArray, List.set_cons_zero, List.set_cons_succ]
      go_wp2_with fail
      go_roundw
      case rel =>
       have hget : b.getD i 0 = b[i] := by rw [List.getD_eq_getElem?_getD, List.getElem?_eq_getElem hlt]; rfl
       refine ⟨q + 1, some ⟨g2, 0, none⟩, cc2, ds ++ [(B', c')], by rw [HQ.out]; go_num, by rw [HQ.out]; simp, ?_, HBn⟩
       rw [HQ.out, hget]
       exact HDn.out
      case measure => simp [intOf]; omega
    ·have hlp : 1 ≤ l.length := by
      rcases l with _ | ⟨x, l⟩
      ·exact absurd rfl hl0
      ·simp
     obtain ⟨l0, o, hlo⟩ := snoc_of l hl0
     have hD9 := HD.out
     obtain ⟨g, rfl, hg1, hg2⟩ := hD9.row.form hlp
     have hD8 := hD9.drewN nd
     rw [hlo] at hD8
     obtain ⟨ds0, d0, hdse, hdl, hc0, hc1, hc2, hfz, hdo⟩ := drow_cell hD8
     have hll : l0.length = l.length - 1 := by rw [hlo]; simp
     rw [hll] at hc1
     by_cases hol : 0 < o.len
     ·obtain ⟨o2, ho9⟩ : ∃ o : Stp, o = ⟨0, 0, []⟩ := ⟨_, rfl⟩
      have HQ : Hid (diffN old b (q + 1) = (i + 1, l ++ [⟨o2.at_, o2.len, o2.data ++ [b.getD i 0]⟩])) := Lib.hid (HP.out.trans (by rw [ho9, hlo, addByte_new _ _ _ hol]))
      have hod : o2.data.length ≤ 64 := by rw [ho9]; simp
      have hl1 : ¬ (l.length : Int) - 1 < 0 := by omega
      clear HP hl0 hD9 hD8 hlo hdse hdl hc0 hc2 hfz hdo hll
      have hb0 : Below w.heap.size w (((wr.drewN nd)).alloc (.cells #[iv 0, iv 0, .slice none 0 0] 117)) := (Below.drewN' HB.out nd).alloc hsz _
      have hD0 := (HD.out.drewN nd).below ((Below.refl (wr.drewN nd).heap.size (wr.drewN nd)).alloc (Nat.le_refl _) (.cells #[iv 0, iv 0, .slice none 0 0] 117))
      have HB0 := Lib.hid hb0
      have HD0 := Lib.hid hD0
      have hbb : ((wr.drewN nd).alloc (.cells #[iv 0, iv 0, .slice none 0 0] 117)).cell? ⟨bb, bo + i, none⟩ = some (bv b[i]) := by
       rw [((Below.refl (wr.drewN nd).heap.size (wr.drewN nd)).alloc (Nat.le_refl _) (.cells #[iv 0, iv 0, .slice none 0 0] 117)).cell (p := ⟨bb, bo + i, none⟩) hbs]; exact hbx'
      have HBB := Lib.hid hbb
      clear hb0 hD0 hbb
      go_wp2_with (at_builtin; go_must (refine wpList_app _ rfl (.tmp 57) (.tmp 59) 23 rfl elOps w.heap.size _ l.length cc (opCells l ds) rfl HD0.out.row (some ⟨wr.heap.size, 0, none⟩) 1 1 [iv 0, iv 0, .slice none 0 0] rfl (src_blk (blk_top (by simp))) rfl (by simp [Value.oneCell']) (by omega) (by simp; omega) ?_))
      intro C' cc2 w2 hown hgr hbel hor
      obtain ⟨g2, rfl, hg1, hg2⟩ := hown.form (by omega)
      have HDc := Lib.hid (HD0.out.push hown hgr (by simpa using hor))
      have HBc : Hid (Below w.heap.size w w2) := Lib.hid (HB0.out.trans hbel)
      have hbx2 : w2.cell? ⟨bb, bo + i, none⟩ = some (bv b[i]) := by
       have hl := blk_far HD0.out.row hgr (bb := bb) hbw (by have := HB0.out.size; omega)
       exact (World.cell?_of_block hl).trans HBB.out
      clear hown hgr hbel hor HBB hbx hbx' HD HD0 HB0 hl1 hol hlp
      have hbx' := hbx2
      clear hbx2
      rw [← ho9] at HDc
      clear ho9
      obtain ⟨d9, hd0⟩ : ∃ d9 : Option Addr × Nat, (none, 0) = d9 := ⟨_, rfl⟩
      rw [hd0] at HDc
      clear hd0
      obtain ⟨ds1, d1, hds, hdl1, kc0, kc1, kc2, kfz, kdo⟩ := drow_cell HDc.out
      obtain ⟨rfl, hd1⟩ := List.append_inj' hds rfl
      obtain rfl : d9 = d1 := by simpa using hd1
      have kg := (HDc.out.row.block g2 rfl)
      obtain ⟨kg1, kg2⟩ := kg
      have kne : d9.1.map (·.block) ≠ some g2 := fun e => HDc.out.off l.length d9 (by rw [← hdl1]; simp) g2 e rfl
      have KNE := Lib.hid kne
      have KDO := Lib.hid kdo
      have KFZ := Lib.hid kfz
      have hsz2 := HBc.out.size
      clear hds hd1 kc0 kc1 kdo kne kfz hdl1
      have hix : ¬ (l.length : Int) + 1 ≤ (l.length : Int) := by omega
      go_wp2_with fail
      refine wp_region_mix (by kernel_rfl) (some 64 :: some 65 :: some 66 :: some 67 :: some 68 :: some 69 :: some 70 :: some 71 :: some 72 :: some 73 :: some 74 :: some 75 :: some 76 :: some 77 :: some 78 :: none :: []) (none :: none :: none :: none :: none :: none :: none :: none :: none :: none :: none :: some 0 :: some 1 :: none :: none :: some 2 :: []) (.slice (some ⟨g2, 0, none⟩) (l.length + 1) cc2 :: .int .i64 (l.length : Int) :: .slice (some ⟨g2, 0, none⟩) (l.length + 1) cc2 :: .int .i64 (l.length : Int) :: .pointer (some ⟨g2, l.length * 3, none⟩) :: .pointer (some ⟨g2, l.length * 3 + 2, none⟩) :: .slice d9.1 o2.data.length d9.2 :: .slice (some ⟨bb, bo, none⟩) b.length d :: .int .i64 (i : Int) :: .pointer (some ⟨bb, bo + i, none⟩) :: bv b[i] :: undef :: undef :: .pointer (some ⟨g2, l.length * 3, none⟩) :: .pointer (some ⟨g2, l.length * 3 + 2, none⟩) :: undef :: []) 3 (diffJ w w2 l o2 ds d9 g2 cc2 b[i]) 82 rfl rfl (by decide +kernel) (by decide +kernel) (by decide +kernel) (by decide +kernel) rfl rfl (by decide +kernel) (by decide +kernel) (rfl) ?_ ?_
      ·refine ⟨?_, ?_⟩
       ·intro done cv k a wq hw h hJ hn
        have e6 := mx_old (t := 6) (v := .slice (some ⟨g2, 0, none⟩) (l.length + 1) cc2) h rfl rfl
        exact mx_move (ch_ev e6)
       refine ⟨?_, ?_⟩
       ·intro done cv k a wq hw h hJ hn
        have e12 := mx_old (t := 12) (v := .int .i64 (l.length : Int)) h rfl rfl
        exact mx_move (ch_ev e12)
       refine ⟨?_, ?_⟩
       ·intro done cv k a wq hw h hJ hn
        have e6 := mx_old (t := 6) (v := .slice (some ⟨g2, 0, none⟩) (l.length + 1) cc2) h rfl rfl
        exact mx_move (ch_ev e6)
       refine ⟨?_, ?_⟩
       ·intro done cv k a wq hw h hJ hn
        have e12 := mx_old (t := 12) (v := .int .i64 (l.length : Int)) h rfl rfl
        exact mx_move (ch_ev e12)
       refine ⟨?_, ?_⟩
       ·intro done cv k a wq hw h hJ hn
        have e66 := mx_new (i := 2) (t := 66) h (hw 2 (by decide)) rfl rfl rfl; have e67 := mx_new (i := 3) (t := 67) h (hw 3 (by decide)) rfl rfl rfl
        go_simp
       refine ⟨?_, ?_⟩
       ·intro done cv k a wq hw h hJ hn
        have e68 := mx_new (i := 4) (t := 68) h (hw 4 (by decide)) rfl rfl rfl
        go_simp
       refine ⟨?_, ?_⟩
       ·intro done cv k a wq hw h hJ hn
        have e69 := mx_new (i := 5) (t := 69) h (hw 5 (by decide)) rfl rfl rfl
        have hk := hn 12 _ 1 rfl rfl (by decide)
        have hc := diffJ_cell2 hk hJ kc2 kg2
        go_simp
       refine ⟨?_, ?_⟩
       ·intro done cv k a wq hw h hJ hn
        have e1 := mx_old (t := 1) (v := .slice (some ⟨bb, bo, none⟩) b.length d) h rfl rfl
        exact mx_move (ch_ev e1)
       refine ⟨?_, ?_⟩
       ·intro done cv k a wq hw h hJ hn
        have e7 := mx_old (t := 7) (v := .int .i64 (i : Int)) h rfl rfl
        exact mx_move (ch_ev e7)
       refine ⟨?_, ?_⟩
       ·intro done cv k a wq hw h hJ hn
        have e71 := mx_new (i := 7) (t := 71) h (hw 7 (by decide)) rfl rfl rfl; have e72 := mx_new (i := 8) (t := 72) h (hw 8 (by decide)) rfl rfl rfl
        go_simp
       refine ⟨?_, ?_⟩
       ·intro done cv k a wq hw h hJ hn
        have e73 := mx_new (i := 9) (t := 73) h (hw 9 (by decide)) rfl rfl rfl
        have hk := hn 11 _ 0 rfl rfl (by decide)
        obtain rfl : k = 0 := by omega
        obtain rfl : wq = w2.drew := hJ
        go_simp
       refine ⟨?_, ?_⟩
       ·intro done cv a wq hw h hJ
        have e74 := mx_new (i := 10) (t := 74) h (hw 10 (by decide)) rfl rfl rfl
        obtain rfl : wq = w2.drew := hJ
        exact wp_slb e74 ⟨_, rfl, rfl, by simp⟩
       refine ⟨?_, ?_⟩
       ·intro done cv a wq hw h hJ
        have e70 := mx_new (i := 6) (t := 70) h (hw 6 (by decide)) rfl rfl rfl; have e75 := mx_cv (i := 11) (t := 75) h (hw 11 (by decide)) rfl rfl
        obtain ⟨rfl, hv⟩ := hJ
        rw [hv] at e75
        refine wp_app _ (.tmp 70) (.tmp 75) 22 rfl elBytes w.heap.size d9.1 o2.data.length d9.2 (o2.data.map bv) (ch_ev e70) (KDO.out.drew.alloc _) (some ⟨w2.heap.size, 0, none⟩) 1 1 [bv b[i]] (ch_ev e75) (src_blk (blk_top (by simp))) rfl (by simp [Value.oneCell']) (by omega) (by simp; omega) ?_
        intro B' c' w3 hown hgr hbel hor
        exact ⟨_, rfl, B', c', by simp, hown, hgr, hbel, hor⟩
       refine ⟨?_, ?_⟩
       ·intro done cv k a wq hw h hJ hn
        have e64 := mx_new (i := 0) (t := 64) h (hw 0 (by decide)) rfl rfl rfl; have e65 := mx_new (i := 1) (t := 65) h (hw 1 (by decide)) rfl rfl rfl
        go_simp
       refine ⟨?_, ?_⟩
       ·intro done cv k a wq hw h hJ hn
        have e77 := mx_new (i := 13) (t := 77) h (hw 13 (by decide)) rfl rfl rfl
        go_simp
       refine ⟨?_, ?_⟩
       ·intro done cv a wq hw h hJ
        have e78 := mx_new (i := 14) (t := 78) h (hw 14 (by decide)) rfl rfl rfl; have e76 := mx_cv (i := 12) (t := 76) h (hw 12 (by decide)) rfl rfl
        obtain ⟨B', c', hv, hown, hgr, hbel, hor⟩ := hJ
        rw [hv] at e76
        have hk3 : wq.heap[g2]? = (w2.drew.alloc (.cells #[bv b[i]] 5)).heap[g2]? := hgr.block g2 (by simp; omega) (fun e => KNE.out e.symm)
        have hk2 : (w2.drew.alloc (.cells #[bv b[i]] 5)).heap[g2]? = w2.heap[g2]? := Below.heap_alloc w2.drew _ g2 kg2
        have hkk : wq.heap[g2]? = w2.heap[g2]? := hk3.trans hk2
        have kc3 : wq.cell? ⟨g2, l.length * 3 + 2, none⟩ = some (.slice d9.1 o2.data.length d9.2) := (World.cell?_of_block hkk).trans kc2
        have kf3 : wq.frozen? ⟨g2, l.length * 3 + 2, none⟩ = false := by
         have := KFZ.out (l.length * 3 + 2)
         unfold World.frozen? at this ⊢
         rw [hkk]; exact this
        have HD3 := HDc.out.below (((Below.refl w2.heap.size w2).drew).alloc (Nat.le_refl _) (.cells #[bv b[i]] 5))
        have HDn := HD3.add hown hgr hor
        have HBn : Below w.heap.size w wq := (HBc.out.drew.alloc hsz2 _).trans hbel
        exact wp_stb e78 e76 kc3 kf3 ⟨undef, rfl, B', c', HDn, HBn.setCell kg1 _⟩
       exact trivial
      ·rintro cv w3 ⟨B', c', HDn', HBn'⟩
       have HDn := Lib.hid HDn'
       have HBn := Lib.hid HBn'
       clear HDn' HBn' kc2 kg1 kg2 hbx'
       simp only [mixAll, putAll_some, putAll_none, putAll_nil, List.getElem?_cons_zero, List.getElem?_cons_succ, Nat.zero_add, Nat.reduceAdd, List.setIfInBounds_toArray, List.set_cons_zero, List.set_cons_succ]
       go_wp2_with fail
       go_roundw
       case rel =>
        have hget : b.getD i 0 = b[i] := by rw [List.getD_eq_getElem?_getD, List.getElem?_eq_getElem hlt]; rfl
        refine ⟨q + 1, some ⟨g2, 0, none⟩, cc2, ds ++ [(B', c')], by rw [HQ.out]; go_num, by rw [HQ.out]; simp, ?_, HBn⟩
        rw [HQ.out, hget]
        exact HDn.out
       case measure => simp [intOf]; omega
     ·subst hlo
      have hD7 := HD.out
      rw [hdse] at hD7
      clear HD
      have HD := Lib.hid hD7
      have HQ := Lib.hid (HP.out.trans (by rw [addByte_last _ _ _ hol]))
      have hod := HM.out o (by simp)
      simp only [List.length_append, List.length_cons, List.length_nil] at hlen
      clear HP hl0 hfz hc0 hc2 hdo hdl hD9 hD8 hD7 hll hlp
      have hc1' : (wr.drewN nd).cell? ⟨g, l0.length * 3 + 1, none⟩ = some (iv o.len) := by simpa using hc1
      clear hc1
      have HDc := Lib.hid (HD.out.drewN nd)
      have HBc : Hid (Below w.heap.size w (wr.drewN nd)) := Lib.hid (Below.drewN' HB.out nd)
      clear hbx HD
      subst hdse
      generalize wr.drewN nd = w2 at *
      obtain ⟨ds1, d1, hds, hdl1, kc0, kc1, kc2, kfz, kdo⟩ := drow_cell HDc.out
      obtain ⟨rfl, hd1⟩ := List.append_inj' hds rfl
      obtain rfl : d0 = d1 := by simpa using hd1
      have kg := (HDc.out.row.block g rfl)
      obtain ⟨kg1, kg2⟩ := kg
      have kne : d0.1.map (·.block) ≠ some g := fun e => HDc.out.off l0.length d0 (by rw [← hdl1]; simp) g e rfl
      have KNE := Lib.hid kne
      have KDO := Lib.hid kdo
      have KFZ := Lib.hid kfz
      have hsz2 := HBc.out.size
      clear hds hd1 kc0 kc1 kdo kne kfz hdl1
      have hix : ¬ (l0.length : Int) + 1 ≤ (l0.length : Int) := by omega
      go_wp2_with fail
      refine wp_region_mix (by kernel_rfl) (some 64 :: some 65 :: some 66 :: some 67 :: some 68 :: some 69 :: some 70 :: some 71 :: some 72 :: some 73 :: some 74 :: some 75 :: some 76 :: some 77 :: some 78 :: none :: []) (none :: none :: none :: none :: none :: none :: none :: none :: none :: none :: none :: some 0 :: some 1 :: none :: none :: some 2 :: []) (.slice (some ⟨g, 0, none⟩) (l0.length + 1) cc :: .int .i64 (l0.length : Int) :: .slice (some ⟨g, 0, none⟩) (l0.length + 1) cc :: .int .i64 (l0.length : Int) :: .pointer (some ⟨g, l0.length * 3, none⟩) :: .pointer (some ⟨g, l0.length * 3 + 2, none⟩) :: .slice d0.1 o.data.length d0.2 :: .slice (some ⟨bb, bo, none⟩) b.length d :: .int .i64 (i : Int) :: .pointer (some ⟨bb, bo + i, none⟩) :: bv b[i] :: undef :: undef :: .pointer (some ⟨g, l0.length * 3, none⟩) :: .pointer (some ⟨g, l0.length * 3 + 2, none⟩) :: undef :: []) 3 (diffJ w w2 l0 o ds0 d0 g cc b[i]) 82 rfl rfl (by decide +kernel) (by decide +kernel) (by decide +kernel) (by decide +kernel) rfl rfl (by decide +kernel) (by decide +kernel) (rfl) ?_ ?_
      ·refine ⟨?_, ?_⟩
       ·intro done cv k a wq hw h hJ hn
        have e6 := mx_old (t := 6) (v := .slice (some ⟨g, 0, none⟩) (l0.length + 1) cc) h rfl rfl
        exact mx_move (ch_ev e6)
       refine ⟨?_, ?_⟩
       ·intro done cv k a wq hw h hJ hn
        have e12 := mx_old (t := 12) (v := .int .i64 (l0.length : Int)) h rfl rfl
        exact mx_move (ch_ev e12)
       refine ⟨?_, ?_⟩
       ·intro done cv k a wq hw h hJ hn
        have e6 := mx_old (t := 6) (v := .slice (some ⟨g, 0, none⟩) (l0.length + 1) cc) h rfl rfl
        exact mx_move (ch_ev e6)
       refine ⟨?_, ?_⟩
       ·intro done cv k a wq hw h hJ hn
        have e12 := mx_old (t := 12) (v := .int .i64 (l0.length : Int)) h rfl rfl
        exact mx_move (ch_ev e12)
       refine ⟨?_, ?_⟩
       ·intro done cv k a wq hw h hJ hn
        have e66 := mx_new (i := 2) (t := 66) h (hw 2 (by decide)) rfl rfl rfl; have e67 := mx_new (i := 3) (t := 67) h (hw 3 (by decide)) rfl rfl rfl
        go_simp
       refine ⟨?_, ?_⟩
       ·intro done cv k a wq hw h hJ hn
        have e68 := mx_new (i := 4) (t := 68) h (hw 4 (by decide)) rfl rfl rfl
        go_simp
       refine ⟨?_, ?_⟩
       ·intro done cv k a wq hw h hJ hn
        have e69 := mx_new (i := 5) (t := 69) h (hw 5 (by decide)) rfl rfl rfl
        have hk := hn 12 _ 1 rfl rfl (by decide)
        have hc := diffJ_cell2 hk hJ kc2 kg2
        go_simp
       refine ⟨?_, ?_⟩
       ·intro done cv k a wq hw h hJ hn
        have e1 := mx_old (t := 1) (v := .slice (some ⟨bb, bo, none⟩) b.length d) h rfl rfl
        exact mx_move (ch_ev e1)
       refine ⟨?_, ?_⟩
       ·intro done cv k a wq hw h hJ hn
        have e7 := mx_old (t := 7) (v := .int .i64 (i : Int)) h rfl rfl
        exact mx_move (ch_ev e7)
       refine ⟨?_, ?_⟩
       ·intro done cv k a wq hw h hJ hn
        have e71 := mx_new (i := 7) (t := 71) h (hw 7 (by decide)) rfl rfl rfl; have e72 := mx_new (i := 8) (t := 72) h (hw 8 (by decide)) rfl rfl rfl
        go_simp
       refine ⟨?_, ?_⟩
       ·intro done cv k a wq hw h hJ hn
        have e73 := mx_new (i := 9) (t := 73) h (hw 9 (by decide)) rfl rfl rfl
        have hk := hn 11 _ 0 rfl rfl (by decide)
        obtain rfl : k = 0 := by omega
        obtain rfl : wq = w2.drew := hJ
        go_simp
       refine ⟨?_, ?_⟩
       ·intro done cv a wq hw h hJ
        have e74 := mx_new (i := 10) (t := 74) h (hw 10 (by decide)) rfl rfl rfl
        obtain rfl : wq = w2.drew := hJ
        exact wp_slb e74 ⟨_, rfl, rfl, by simp⟩
       refine ⟨?_, ?_⟩
       ·intro done cv a wq hw h hJ
        have e70 := mx_new (i := 6) (t := 70) h (hw 6 (by decide)) rfl rfl rfl; have e75 := mx_cv (i := 11) (t := 75) h (hw 11 (by decide)) rfl rfl
        obtain ⟨rfl, hv⟩ := hJ
        rw [hv] at e75
        refine wp_app _ (.tmp 70) (.tmp 75) 22 rfl elBytes w.heap.size d0.1 o.data.length d0.2 (o.data.map bv) (ch_ev e70) (KDO.out.drew.alloc _) (some ⟨w2.heap.size, 0, none⟩) 1 1 [bv b[i]] (ch_ev e75) (src_blk (blk_top (by simp))) rfl (by simp [Value.oneCell']) (by omega) (by simp; omega) ?_
        intro B' c' w3 hown hgr hbel hor
        exact ⟨_, rfl, B', c', by simp, hown, hgr, hbel, hor⟩
       refine ⟨?_, ?_⟩
       ·intro done cv k a wq hw h hJ hn
        have e64 := mx_new (i := 0) (t := 64) h (hw 0 (by decide)) rfl rfl rfl; have e65 := mx_new (i := 1) (t := 65) h (hw 1 (by decide)) rfl rfl rfl
        go_simp
       refine ⟨?_, ?_⟩
       ·intro done cv k a wq hw h hJ hn
        have e77 := mx_new (i := 13) (t := 77) h (hw 13 (by decide)) rfl rfl rfl
        go_simp
       refine ⟨?_, ?_⟩
       ·intro done cv a wq hw h hJ
        have e78 := mx_new (i := 14) (t := 78) h (hw 14 (by decide)) rfl rfl rfl; have e76 := mx_cv (i := 12) (t := 76) h (hw 12 (by decide)) rfl rfl
        obtain ⟨B', c', hv, hown, hgr, hbel, hor⟩ := hJ
        rw [hv] at e76
        have hk3 : wq.heap[g]? = (w2.drew.alloc (.cells #[bv b[i]] 5)).heap[g]? := hgr.block g (by simp; omega) (fun e => KNE.out e.symm)
        have hk2 : (w2.drew.alloc (.cells #[bv b[i]] 5)).heap[g]? = w2.heap[g]? := Below.heap_alloc w2.drew _ g kg2
        have hkk : wq.heap[g]? = w2.heap[g]? := hk3.trans hk2
        have kc3 : wq.cell? ⟨g, l0.length * 3 + 2, none⟩ = some (.slice d0.1 o.data.length d0.2) := (World.cell?_of_block hkk).trans kc2
        have kf3 : wq.frozen? ⟨g, l0.length * 3 + 2, none⟩ = false := by
         have := KFZ.out (l0.length * 3 + 2)
         unfold World.frozen? at this ⊢
         rw [hkk]; exact this
        have HD3 := HDc.out.below (((Below.refl w2.heap.size w2).drew).alloc (Nat.le_refl _) (.cells #[bv b[i]] 5))
        have HDn := HD3.add hown hgr hor
        have HBn : Below w.heap.size w wq := (HBc.out.drew.alloc hsz2 _).trans hbel
        exact wp_stb e78 e76 kc3 kf3 ⟨undef, rfl, B', c', HDn, HBn.setCell kg1 _⟩
       exact trivial
      ·rintro cv w3 ⟨B', c', HDn', HBn'⟩
       have HDn := Lib.hid HDn'
       have HBn := Lib.hid HBn'
       clear HDn' HBn' kc2 kg1 kg2 hbx'
       simp only [mixAll, putAll_some, putAll_none, putAll_nil, List.getElem?_cons_zero, List.getElem?_cons_succ, Nat.zero_add, Nat.reduceAdd, List.setIfInBounds_toArray, List.set_cons_zero, List.set_cons_succ]
       go_wp2_with fail
       go_roundw
       case rel =>
        have hget : b.getD i 0 = b[i] := by rw [List.getD_eq_getElem?_getD, List.getElem?_eq_getElem hlt]; rfl
        refine ⟨q + 1, some ⟨g, 0, none⟩, cc, ds0 ++ [(B', c')], by rw [HQ.out]; go_num, by rw [HQ.out]; simp, ?_, HBn⟩
        rw [HQ.out, hget]
        exact HDn.out
       case measure => simp [intOf]; omega
  ·have hend := diffN_end old b q hlt
   have hsps : Fresh w.heap.size wr (fun v => Sps v C (diffN old b q).2) := hD.fresh (fun o ho => by
    have h3 := hinv.each o ho
    have h4 := data_le old _ o ho
    rw [hinv.gives] at h4
    simp at h4
    unfold I64
    rcases h3 with ⟨e1, e2, _⟩ | ⟨e1, e2, e3, _⟩
    ·rw [e1, e2]; exact ⟨by omega, by omega, by omega⟩
    ·exact ⟨by omega, by omega, by omega⟩)
   have HS := Lib.hid hsps
   have HE := Lib.hid hend
   have HO := Lib.hid hD.row.le
   have hlt' : ¬ ((diffN old b q).1 : Int) < (b.length : Int) := by omega
   clear hsps hend hD hinv hle
   go_wp2_with fail
   refine bodyPost_ret (results_tmp2 rfl _ _ _) rfl ⟨C, cc, ?_, ?_, ?_, HB.out⟩
   ·rw [← HE.out]; rfl
   ·rw [← HE.out]; exact HS.out
   ·rw [← HE.out]; exact HO.out
section
variable (A : Option Addr) (c : Nat) (l : List UInt8) (w : World)
theorem sumOf_calls (hl : l.length ≤ 67108864) (hr : Bts w A l) :
  Calls Try.prog 95 #[.slice A l.length c] w (Ret w (iv (sumOn 1 l))) := by
 go_enter Try.func95, Try.ntmps95
 go_wp2
 go_loop [3, 5, 8] (fun s x i => ∃ k : Nat, k ≤ l.length ∧ i = .int .i64 k ∧ s = .int .i64 (sumOn 1 (l.take k))) (fun _ _ i => l.length - (intOf i).toNat)
 case atStart => exact ⟨0, Nat.zero_le _, rfl, rfl⟩
 case round =>
  obtain ⟨k, hk, rfl, rfl⟩ := hrel
  have hb := sumOn_bd 1 (l.take k) (by omega)
  by_cases hlt : k < l.length
  ·obtain ⟨b, o, rfl, hbs, hc⟩ := hr k hlt
   have hx := l[k].toNat_lt
   have HS : Hid (sumOn 1 (l.take (k + 1)) = (sumOn 1 (l.take k) * 31 + (l[k].toNat : Int)) % 65521) := sumOn_take 1 l k hlt
   go_wp2
   go_round
   case rel => exact ⟨k + 1, by omega, by go_num, by rw [HS.out]⟩
   case measure => simp [intOf] <;> omega
  ·go_wp2
   go_ret
   exact ⟨ret_int (by rw [List.take_of_length_le (by omega)]), rfl⟩
end
end Go.Proofs.Ytefkfglkpebbmac
