/- Walks of functions, and plain words. No conditions. -/
import Derived.Test.YtefkfglkpebbmacPE1
import Derived.Test.YtefkfglkpebbmacPE2
import Derived.RangeFuncNested
import Derived.RangeFuncBound
import Derived.RangeFuncCalls
import Derived.RangeFuncLeaves
import Derived.RangeFuncBox
import Derived.Shelf.Abstract
import Derived.Shelf.RegionOpen
import Derived.OwnWalkIn
import Derived.TacticsInMore
import Derived.LoopNIn
import Derived.LoopIn
set_option linter.unusedVariables false
set_option linter.unusedSimpArgs false
set_option maxRecDepth 100000
set_option maxHeartbeats 40000000
namespace Go.Proofs.Ytefkfglkpebbmac
open Go.RowKit
section
open Go.RowKit Go.Shelf
attribute [local go_sem] Oper.semAt_some
def partV (b o len k : Nat) : Value := .slice (some ⟨b, o + 16 * k, none⟩) (min 16 (len - 16 * k)) (min 16 (len - 16 * k))
theorem run_min16 (n : Nat) (w : World) : (Builtin.min_ #[3, 3] 3 #[.int .i64 16, .int .i64 (n : Int)]).run Try.prog w = .ok (.int .i64 ((min 16 n : Nat) : Int)) w := by
 by_cases h : (n : Int) < (16 : Int)
 ·have e : min 16 n = n := by omega
  rw [e]
  go_simp <;> omega
 ·have e : min 16 n = 16 := by omega
  rw [e]
  go_simp <;> omega
theorem chunk1_in (n : Nat) (hn : 1 ≤ n) (l Bs Bn n₀ b o len cap : Nat) (hlc : len ≤ cap) (hlm : len ≤ 1048576) (hs : Bs < n₀) (hnn : Bn < n₀) (J Jx : List Nat → World → Prop) (hJd : ∀ s W, J s W → J s W.drew)
  (hY : ∀ pre x W, J pre W → pre.length < (len + 15) / 16 → YieldAt Fence.wide (n - 1) Try.prog l #[partV b o len x] W fun e W' =>
    (e = .returned (.bool true) ∧ J (pre ++ [x]) W' ∧ Below n₀ W W') ∨ (e = .returned (.bool false) ∧ Jx (pre ++ [x]) W'))
  (W : World) (hBs : W.cell? ⟨Bs, 0, none⟩ = some (.slice (some ⟨b, o, none⟩) len cap)) (hBn : W.cell? ⟨Bn, 0, none⟩ = some (.int .i64 16)) (h0 : J [] W) :
  CallsIn Fence.wide n Try.prog 146 #[.func (.yield l) #[] #[], .pointer (some ⟨Bs, 0, none⟩), .pointer (some ⟨Bn, 0, none⟩)] W fun e W' => (∃ v, e = .returned v) ∧
   ((∃ ys, ys = List.range ((len + 15) / 16) ∧ J ys W') ∨ (∃ pre, True ∧ Jx pre W')) := by
 refine callsIn_of_wp Try.func146 rfl trivial ?_ rfl
 simp only [Try.ntmps146, List.size_toArray, List.length_cons, List.length_nil, Nat.reduceAdd, Nat.reduceSub, Array.replicate_succ, Array.replicate_zero, List.push_toArray, List.append_toArray, List.nil_append, List.cons_append]
 gi_wp2
 gi_loopw [4] (fun i wr => ∃ k : Nat, k ≤ (len + 15) / 16 ∧ i = .int .i64 ((16 * k : Nat) : Int) ∧ J (List.range k) wr ∧ Below n₀ W wr)
  (fun i _ => len + 16 - (intOf i).toNat)
 case atStart => exact ⟨0, Nat.zero_le _, rfl, h0, Below.refl _ _⟩
 case round =>
  obtain ⟨k, hk, rfl, hJs, hnx⟩ := hrel
  have hc1 := (hnx.cell (p := ⟨Bs, 0, none⟩) hs).trans hBs
  have hc2 := (hnx.cell (p := ⟨Bn, 0, none⟩) hnn).trans hBn
  by_cases hlt : 16 * k < len
  ·obtain ⟨fn, tmps, assign, body, hy, hR⟩ := hY _ k wr.drew (hJd _ _ hJs) (by simp; omega)
   have hmin := run_min16 (len - 16 * k)
   have hp : partV b o len k = .slice (some ⟨b, o + 16 * k, none⟩) (min 16 (len - 16 * k)) (min 16 (len - 16 * k)) := rfl
   rw [hp] at hy
   obtain ⟨en, hen⟩ : ∃ en, min 16 (len - 16 * k) = en := ⟨_, rfl⟩
   rw [hen] at hmin hy
   obtain ⟨i, hi⟩ : ∃ i, 16 * k = i := ⟨_, rfl⟩
   rw [hi] at hmin hy hlt hen ⊢
   have he1 : 1 ≤ en := by omega
   have he2 : i + en ≤ len := by omega
   have he3 : en ≤ 16 := by omega
   have hw1 : IntKind.i64.wrap ((i : Int) + (en : Int)) = ((i + en : Nat) : Int) := by rw [show (i : Int) + (en : Int) = ((i + en : Nat) : Int) by omega]; exact IntWalk.i64_in _ (by omega)
   have dl : decide ((i : Int) < (len : Int)) = true := decide_eq_true (by omega)
   clear hen hp
   gi_wp2
   gi_region
   gi_wp2
   refine hR.mono ?_
   rintro e W3 (⟨rfl, hJ3, hk3⟩ | ⟨rfl, hJx3⟩)
   ·have hc3 := (hk3.cell (p := ⟨Bn, 0, none⟩) hnn).trans hc2
    have hw2 : IntKind.i64.wrap ((i : Int) + 16) = ((i + 16 : Nat) : Int) := by rw [show (i : Int) + 16 = ((i + 16 : Nat) : Int) by omega]; exact IntWalk.i64_in _ (by omega)
    gi_wp2
    go_roundw
    case rel => exact ⟨k + 1, by omega, by rw [show 16 * (k + 1) = i + 16 by omega]; simp, by rw [List.range_succ]; exact hJ3, hnx.trans ((Below.refl n₀ wr).drew.trans hk3)⟩
    case measure => simp [intOf]; omega
   ·gi_wp2
    refine bodyPost_ret (results_none rfl _ _ _) rfl ?_
    exact ⟨⟨_, rfl⟩, .inr ⟨_, trivial, hJx3⟩⟩
  ·obtain rfl : k = (len + 15) / 16 := by omega
   have dl : decide (((16 * ((len + 15) / 16) : Nat) : Int) < (len : Int)) = false := decide_eq_false (by omega)
   gi_wp2
   go_end0
   exact ⟨⟨_, rfl⟩, .inl ⟨_, rfl, hJs⟩⟩
theorem grownBy_drew0 (w : World) : w.grownBy w.drew none := ⟨rfl, rfl, rfl, Nat.le_refl _, fun _ _ _ => rfl⟩
theorem chunk_stops (n : Nat) (hn : 1 ≤ n) (Bs Bn n₀ b o len cap : Nat) (hlc : len ≤ cap) (hlm : len ≤ 1048576) (hs : Bs < n₀) (hnn : Bn < n₀) (w : World) (h0 : n₀ ≤ w.heap.size)
  (hBs : w.cell? ⟨Bs, 0, none⟩ = some (.slice (some ⟨b, o, none⟩) len cap)) (hBn : w.cell? ⟨Bn, 0, none⟩ = some (.int .i64 16)) :
  SeqStopsK Fence.wide n Try.prog 146 #[.pointer (some ⟨Bs, 0, none⟩), .pointer (some ⟨Bn, 0, none⟩)] (fun x : Nat => #[partV b o len x]) (Below n₀) (fun ys => ys = List.range ((len + 15) / 16)) (fun _ => True) ((len + 15) / 16) w := fun l J Jx W hW hJ _ hY hJ0 => by
 refine (chunk1_in n hn l Bs Bn n₀ b o len cap hlc hlm hs hnn J Jx (fun s W' h => hJ s W' _ none h (grownBy_drew0 W') (fun r e => by cases e)) hY W ((hW.cell (p := ⟨Bs, 0, none⟩) (by show Bs < _; omega)).trans hBs) ((hW.cell (p := ⟨Bn, 0, none⟩) (by show Bn < _; omega)).trans hBn) hJ0).mono ?_
 rintro e W' h
 exact h
theorem chunk_in (n : Nat) (A : Option Addr) (len cap : Nat) (w : World) :
  CallsIn Fence.wide n Try.prog 110 #[.slice A len cap, .int .i64 16] w fun e w' => e = .returned (.func (.func 146) #[] #[.pointer (some ⟨w.heap.size, 0, none⟩), .pointer (some ⟨w.heap.size + 1, 0, none⟩)]) ∧ w' = (w.alloc (.cells #[.slice A len cap] 22)).alloc (.cells #[.int .i64 16] 3) := by
 refine callsIn_of_wp Try.func110 rfl trivial ?_ rfl
 simp only [Try.ntmps110, List.size_toArray, List.length_cons, List.length_nil, Nat.reduceAdd, Nat.reduceSub, Array.replicate_succ, Array.replicate_zero, List.push_toArray, List.append_toArray, List.nil_append, List.cons_append]
 gi_wp2
 go_ret
 exact ⟨rfl, rfl⟩
theorem info_bytes : (Try.prog.info? 22).map (fun i => (i.zero, i.size, i.bytes)) = some (some (.slice none 0 0), 1, 24) := by kernel_rfl
theorem appendSeq_in (n : Nat) (hn : 3 ≤ n) (gf : Nat) (lb : Array Value) (eg : ∀ args w, (callFunc gf args).run Try.prog w = .ok (.enter gf args) w) (A : Nat → Option Addr) (a b : Nat → Nat) (m : Nat) (hm : m ≤ 1048576) (w : World)
  (hst : SeqStopsK Fence.wide (n - 1) Try.prog gf lb (fun x : Nat => #[Value.slice (A x) (a x) (b x)]) (Below w.heap.size) (fun ys => ys = List.range m) (fun _ => True) m w) :
  CallsIn Fence.wide n Try.prog 145 #[.slice none 0 0, .func (.func gf) #[] lb] w fun e W' => ∃ v, e = .returned v ∧ W'.ownsRow w.heap.size 22 1 v m ((List.range m).map (fun x : Nat => Value.slice (A x) (a x) (b x))) ∧ Below w.heap.size w W' := by
 have h1 : 1 ≤ n := by omega
 obtain ⟨i0, hi, hz0, hz1, hz2⟩ := info_parts (info_bytes)
 refine callsIn_of_wp_marks Try.func145 rfl trivial ?_ rfl
 simp only [Try.ntmps145, List.size_toArray, List.length_cons, List.length_nil, Nat.reduceAdd, Nat.reduceSub, Array.replicate_succ, Array.replicate_zero, List.push_toArray, List.append_toArray, List.nil_append, List.cons_append]
 gi_wp2
 have bO := Boxed.new w 86 (.slice none 0 0)
 have hB0 : Below w.heap.size w (w.alloc (.cells #[.slice none 0 0] 86)) := (Below.refl _ w).alloc (Nat.le_refl _) _
 refine wpIn_rangeFunc_ownG rfl h1 (gf := gf) (lb := lb) rfl trivial eg hst belowK_t (belowK_b (by simp)) hB0 (fun _ => rfl)
  (fun (pre : List Nat) W => (∃ v, Boxed W w.heap.size 86 v ∧ W.ownsRow w.heap.size 22 1 v pre.length (pre.map (fun x : Nat => Value.slice (A x) (a x) (b x))) ∧ True) ∧ Below w.heap.size w W)
  (fun _ _ _ => False)
  (OwnFrom.and (Own.from (holdsRow_own w.heap.size w.heap.size 86 22 1 (fun pre : List Nat => pre.length) (fun pre => pre.map (fun x : Nat => Value.slice (A x) (a x) (b x))) (fun pre v => True)) _) (ownFrom_below (Nat.le_refl _) (by simp)))
  (fun _ _ _ _ _ hs _ _ => hs)
  ⟨⟨_, bO, World.ownsRow_nil _ _ _ _, trivial⟩, hB0⟩
  (fun x => { tmps := #[.slice none 0 0, .func (.func gf) #[] lb, .pointer (some ⟨w.heap.size, 0, none⟩), undef, .slice none 0 0, Value.slice (A x) (a x) (b x), .func (.func gf) #[] lb, Value.slice (A x) (a x) (b x), undef, undef, undef, undef, undef], defers := [] }) ?assign ?body ?done ?stop
 case assign =>
  intro l x W K hK
  gi_wp2
  exact hK
 case body =>
  rintro l pre x W ⟨⟨v, hv, hrow, _⟩, hB⟩ hlt
  have hc := hv.cell
  gi_wp2_with (gi_at_builtin; refine wpListIn_append_own _ rfl _ _ 86 rfl w.heap.size 22 i0 (.slice none 0 0) 1 24 Try.underlying86 hi hz0 hz1 hz2 rfl (by decide) _ _ _ rfl (hrow.alloc _) ⟨W.heap.size, 0, none⟩ 1 1 [Value.slice (A x) (a x) (b x)] rfl rfl (cell_one_new _ _ _) (by simp [Value.oneCell']) (by simp [maxLen]; omega) (by omega) (by have := hB.size; simp; omega) ?_; intro v' w1 hown' hgrow _; obtain ⟨g', cap', rfl⟩ := ownsRow_succ hown'; obtain ⟨hv1, hv2, hr2, hk2, hb2⟩ := hv.appended (by decide) hrow hB.size (Nat.le_refl _) hown' hgrow; have hc1 := hv1.cell; have hf1 := hv1.frozen)
  exact ⟨hk2.from _, hb2, ⟨_, hv2, by simpa using hr2, trivial⟩, hB.trans hb2⟩
 case done =>
  rintro D ys W hD rfl ⟨⟨v, hv, hrow, _⟩, hB⟩ hK
  have hc := hv.cell
  gi_wp2
  refine ⟨by simp, .inl ⟨_, _, rfl, run_takeDeferred hK, ?_⟩⟩
  exact ⟨_, results_tmp rfl _ _ _, v, rfl, by simpa using ownsRow_putObj hrow _ hK rfl, hB.trans (belowK_b (w := w) (Nat.le_refl _) W D _ _ (by simp at hD; omega) hK rfl rfl)⟩
 case stop =>
  rintro D c pre W _ _ h _
  exact h.elim
theorem collectChunk_calls (Bs Bn b o len cap : Nat) (hlc : len ≤ cap) (hlm : len ≤ 1048576) (w : World) (hs : Bs < w.heap.size) (hnn : Bn < w.heap.size)
  (hBs : w.cell? ⟨Bs, 0, none⟩ = some (.slice (some ⟨b, o, none⟩) len cap)) (hBn : w.cell? ⟨Bn, 0, none⟩ = some (.int .i64 16)) :
  Calls Try.prog 109 #[.func (.func 146) #[] #[.pointer (some ⟨Bs, 0, none⟩), .pointer (some ⟨Bn, 0, none⟩)]] w
   (fun e w' => ∃ v, e = .returned v ∧ w'.ownsRow w.heap.size 22 1 v ((len + 15) / 16) ((List.range ((len + 15) / 16)).map (partV b o len)) ∧ Below w.heap.size w w') := by
 refine (callsIn_wide (n := 9)).1 ?_
 refine callsIn_of_wp Try.func109 rfl trivial ?_ rfl
 simp only [Try.ntmps109, List.size_toArray, List.length_cons, List.length_nil, Nat.reduceAdd, Nat.reduceSub, Array.replicate_succ, Array.replicate_zero, List.push_toArray, List.append_toArray, List.nil_append, List.cons_append]
 gi_wp2
 refine ⟨trivial, ?_⟩
 refine (appendSeq_in 8 (by decide) 146 _ (enters_of Try.func146 (by kernel_rfl) rfl) (fun k => some ⟨b, o + 16 * k, none⟩) (fun k => min 16 (len - 16 * k)) (fun k => min 16 (len - 16 * k)) ((len + 15) / 16) (by omega) w (chunk_stops 7 (by decide) Bs Bn w.heap.size b o len cap hlc hlm hs hnn w (Nat.le_refl _) hBs hBn)).mono ?_
 rintro e w' ⟨v, rfl, hrow, hb⟩
 gi_wp2
 go_ret
 exact ⟨v, rfl, hrow, hb⟩
theorem chunk_calls (A : Option Addr) (len cap : Nat) (w : World) :
  Calls Try.prog 110 #[.slice A len cap, .int .i64 16] w (fun e w' => e = .returned (.func (.func 146) #[] #[.pointer (some ⟨w.heap.size, 0, none⟩), .pointer (some ⟨w.heap.size + 1, 0, none⟩)]) ∧ w' = (w.alloc (.cells #[.slice A len cap] 22)).alloc (.cells #[.int .i64 16] 3)) :=
 (callsIn_wide (n := 1)).1 (chunk_in 1 A len cap w)
end
theorem refAlike_calls (A : Option Addr) (c : Nat) (l : List UInt8) (w : World) (h0 : 0 < l.length) (hc : l.length ≤ c) (hl : l.length ≤ 4194304) (hB : Bts w A l) :
  Calls Try.prog 147 #[.slice A l.length c] w (RetN w (iv (alike l : Nat))) := by
 obtain ⟨a1, a2, a3, a4, a5⟩ := alike_stop h0
 simp only [List.drop_zero, Nat.zero_add] at a1 a2 a3 a4 a5
 replace a5 : alike l = 127 ∨ (alike l < 127 ∧ alike l = l.length) ∨ (alike l < 127 ∧ ∃ h : alike l < l.length, l[alike l] ≠ l[0]) := by
  rcases a5 with h | h | ⟨h0, h1, h2⟩
  ·exact .inl h
  ·exact .inr (.inl h)
  ·exact .inr (.inr ⟨h0, by simpa using h1, by simpa using h2⟩)
 have HA4 := Lib.hid a4
 have HBO := Lib.hid hB
 clear hB a4
 obtain ⟨ab, ao, rfl, hsb, hx0⟩ := HBO.out 0 h0
 simp only [Nat.add_zero] at hx0
 have HAL : Hid (alike l = alike l) := Lib.hid rfl
 generalize hal : alike l = al at *
 clear hal HAL
 go_enter Try.func147, Try.ntmps147
 go_wp2_with fail
 go_loopw [3] (fun n wr => ∃ (m nd : Nat), n = .int .i64 (m : Int) ∧ 1 ≤ m ∧ m ≤ al ∧ w.drewN nd = wr) (fun n _ => al - (intOf n).toNat)
 case atStart => exact ⟨1, 0, rfl, by omega, a1, rfl⟩
 case round =>
  obtain ⟨m, nd, rfl, hm1, hm2, rfl⟩ := hrel
  have hw1 : IntKind.i64.wrap ((m : Int) + 1) = (m : Int) + 1 := IntWalk.i64_in _ (by omega)
  by_cases hml : m < al
  ·have hx2 := HA4.out m hml
   have hkm : m < l.length := by omega
   rw [List.getElem?_eq_getElem hkm] at hx2
   obtain ⟨b2, o2, e2, hs2, hc2⟩ := HBO.out m hkm
   injection e2 with e2
   injection e2 with e3 e4
   subst e3 e4
   have hx3 : l[m] = l[0] := by injection hx2
   rw [hx3] at hc2
   have d1 : decide ((m : Int) < 127) = true := decide_eq_true (by omega)
   have d2 : decide ((m : Int) < (l.length : Int)) = true := decide_eq_true (by omega)
   have d3 : ((l[0].toNat : Int) == (l[0].toNat : Int)) = true := by simp
   clear hx2 hx3
   go_wp2_with fail
   go_quiet (fail)
   go_wp2_with fail
   go_roundw
   case rel => exact ⟨m + 1, _, by go_num, by omega, by omega, rfl⟩
   case measure => simp [intOf]; omega
  ·obtain rfl : m = al := by omega
   rcases a5 with h | ⟨h0, h⟩ | ⟨h0, h1, h2⟩
   ·by_cases d2' : m < l.length
    ·have d1 : decide ((m : Int) < 127) = false := decide_eq_false (by omega)
     have d2 : decide ((m : Int) < (l.length : Int)) = true := decide_eq_true (by omega)
     clear h hm2 hml
     go_wp2_with fail
     go_quiet (fail)
     go_wp2_with fail
     go_ret
     exact ⟨rfl, nd + nq, by rw [← World.drewN_drewN]⟩
    ·have d2 : decide ((m : Int) < (l.length : Int)) = false := decide_eq_false (by omega)
     clear h hm2 hml
     go_wp2_with fail
     go_quiet (fail)
     go_wp2_with fail
     go_ret
     exact ⟨rfl, nd + nq, by rw [← World.drewN_drewN]⟩
   ·have d2 : decide ((m : Int) < (l.length : Int)) = false := decide_eq_false (by omega)
    have d1 : decide ((m : Int) < 127) = true := decide_eq_true (by omega)
    have hx : ¬ m < l.length := by omega
    clear h h0 hm2 hml
    go_wp2_with fail
    go_quiet (fail)
    go_wp2_with fail
    go_ret
    exact ⟨rfl, nd + nq, by rw [← World.drewN_drewN]⟩
   ·have d1 : decide ((m : Int) < 127) = true := decide_eq_true (by omega)
    have d2 : decide ((m : Int) < (l.length : Int)) = true := decide_eq_true (by omega)
    have d3 : ((l[m].toNat : Int) == (l[0].toNat : Int)) = false := by simp; exact fun e => h2 (UInt8.toNat_inj.1 (by omega))
    have hc2 : w.cell? ⟨ab, ao + m, none⟩ = some (bv l[m]) := by
     obtain ⟨b2, o2, e2, hs2, hc2⟩ := HBO.out m h1
     injection e2 with e2
     injection e2 with e3 e4
     subst e3 e4
     exact hc2
    clear h2 hm2 hml
    go_wp2_with fail
    go_quiet (fail)
    go_wp2_with fail
    go_ret
    exact ⟨rfl, nd + nq, by rw [← World.drewN_drewN]⟩
theorem refSame_calls (A B : Option Addr) (c d : Nat) (l m : List Stp) (w : World) (hl : l.length ≤ 1048576) (hm : m.length ≤ 1048576) (ha : Sps w A l) (hb : Sps w B m) :
  Calls Try.prog 22 #[.slice A l.length c, .slice B m.length d] w (RetB w (.bool (decide (l = m)))) := by
 by_cases hne : l.length = m.length
 ·have hdl : ((l.length : Int) != (m.length : Int)) = false := by simp [hne]
  have HE := Lib.hid hne
  have hm1 : l.length ≤ m.length := by omega
  have hm2 : m.length ≤ l.length := by omega
  clear hne
  have HA := Lib.hid ha
  have HB0 := Lib.hid hb
  clear ha hb
  go_enter Try.func22, Try.ntmps22
  go_wp2_with fail
  go_loopw [14] (fun i wr => ∃ k : Nat, k ≤ l.length ∧ i = .int .i64 k ∧ Hid (l.take k = m.take k) ∧ Hid (Below w.heap.size w wr)) (fun i _ => l.length - (intOf i).toNat)
  case atStart => exact ⟨0, Nat.zero_le _, rfl, Lib.hid rfl, Lib.hid (Below.refl _ _)⟩
  case round =>
   obtain ⟨k, hk, rfl, HT, HB⟩ := hrel
   by_cases hlt : k < l.length
   ·obtain ⟨b1, o1, B1, c1, rfl, hs1, p0, p1, p2, p3, p4, p5, -, -⟩ := (HA.out.stays HB.out).at_ hlt
    have hsz := HB.out.size
    have hbx : Below wr.heap.size wr (wr.alloc (.cells #[iv l[k].at_, iv l[k].len, .slice B1 l[k].data.length c1] 117)) := (Below.refl _ _).alloc (Nat.le_refl _) _
    obtain ⟨b2, o2, B2, c2, rfl, hs2, r0, r1, r2, r3, r4, r5, -, -⟩ := ((HB0.out.stays HB.out).stays hbx).at_ (i := k) (by omega)
    obtain ⟨b3, o3, B3, c3, e3, hs3, -⟩ := (HB0.out.stays HB.out).at_ (i := k) (by omega)
    injection e3 with e3
    injection e3 with e4 e5
    subst e4 e5
    have HBX := Lib.hid (HB.out.trans (hbx.mono hsz))
    have HX : Hid (l[k] = m[k]'(by omega) → l.take (k + 1) = m.take (k + 1)) := Lib.hid fun e => take_eq_succ HT.out hlt (by omega) e
    have HN : Hid (l[k] ≠ m[k]'(by omega) → l ≠ m) := Lib.hid fun e => ne_of_at hlt (by omega) e
    have p5x := p5.stays hbx
    generalize l[k] = x at *
    generalize m[k]'(by omega) = y at *
    obtain ⟨xa, xl, xd⟩ := x
    obtain ⟨ya, yl, yd⟩ := y
    dsimp only at *
    have HK : Hid (∀ w', Below (wr.alloc (.cells #[iv xa, iv xl, .slice B1 xd.length c1] 117)).heap.size (wr.alloc (.cells #[iv xa, iv xl, .slice B1 xd.length c1] 117)) w' → Calls Try.prog 23 #[.slice B1 xd.length c1, .slice B2 yd.length c2] w' (RetB w' (.bool (decide (xd = yd))))) :=
     Lib.hid fun w' hb => (bytesEqual_calls B1 B2 c1 c2 xd yd w' p3 r3 (p5x.stays hb) (r5.stays hb)).mono fun e w'' h => h.to
    clear p5 p5x r5 hbx HA HB0
    have hkm : k < m.length := by omega
    have hsx : wr.heap.size ≤ (wr.alloc (.cells #[iv xa, iv xl, .slice B1 xd.length c1] 117)).heap.size := by simp
    by_cases h1 : xa = ya
    ·subst h1
     by_cases h2 : xl = yl
     ·subst h2
      by_cases h3 : xd = yd
      ·subst h3
       have HC : Hid (∀ w', Below (wr.alloc (.cells #[iv xa, iv xl, .slice B1 xd.length c1] 117)).heap.size (wr.alloc (.cells #[iv xa, iv xl, .slice B1 xd.length c1] 117)) w' → Calls Try.prog 23 #[.slice B1 xd.length c1, .slice B2 xd.length c2] w' (RetB w' (.bool true))) := Lib.hid fun w' hb => by
        have := HK.out w' hb
        rwa [show decide (xd = xd) = true by simp] at this
       clear HK HN
       go_wp2_with fail
       refine wp_region_chain (by kernel_rfl) (some 19 :: some 20 :: some 21 :: some 22 :: some 23 :: some 24 :: some 25 :: some 26 :: some 27 :: some 28 :: some 29 :: some 30 :: some 31 :: some 32 :: some 33 :: some 34 :: some 35 :: some 36 :: some 37 :: some 38 :: some 39 :: some 40 :: some 41 :: some 42 :: some 43 :: some 44 :: some 45 :: some 46 :: some 47 :: []) (.pointer (some ⟨wr.heap.size, 0, none⟩) :: iv xa :: .slice (some ⟨b2, o2, none⟩) m.length d :: .int .i64 (k : Int) :: .pointer (some ⟨b2, o2 + k * 3, none⟩) :: .pointer (some ⟨b2, o2 + k * 3, none⟩) :: iv xa :: .bool false :: .bool false :: .pointer (some ⟨wr.heap.size, 1, none⟩) :: iv xl :: .slice (some ⟨b2, o2, none⟩) m.length d :: .int .i64 (k : Int) :: .pointer (some ⟨b2, o2 + k * 3, none⟩) :: .pointer (some ⟨b2, o2 + k * 3 + 1, none⟩) :: iv xl :: .bool false :: .bool false :: .bool false :: .pointer (some ⟨wr.heap.size, 2, none⟩) :: .slice B1 xd.length c1 :: .slice (some ⟨b2, o2, none⟩) m.length d :: .int .i64 (k : Int) :: .pointer (some ⟨b2, o2 + k * 3, none⟩) :: .pointer (some ⟨b2, o2 + k * 3 + 2, none⟩) :: .slice B2 xd.length c2 :: .bool true :: .bool false :: .bool false :: []) 49 rfl rfl (by decide +kernel) (by decide +kernel) (by decide +kernel) rfl ?_ ?_
       ·refine ⟨.inl ⟨rfl, fun done a wq hw h => ?_⟩, ?_⟩
        ·have e6 := ch_old (t := 6) (v := .pointer (some ⟨wr.heap.size, 0, none⟩)) h rfl rfl; refine ch_pure ?_; go_simp
        refine ⟨.inl ⟨rfl, fun done a wq hw h => ?_⟩, ?_⟩
        ·have e19 := ch_new (i := 0) (t := 19) h (hw 0 (by decide)) rfl rfl; have hc := (h.bel.cell (p := ⟨wr.heap.size, 0, none⟩) (by simp)).trans (show (wr.alloc (.cells #[iv xa, iv xl, .slice B1 xd.length c1] 117)).cell? ⟨wr.heap.size, 0, none⟩ = some (iv xa) by go_simp); refine ch_pure ?_; go_simp
        refine ⟨.inl ⟨rfl, fun done a wq hw h => ?_⟩, ?_⟩
        ·have e1 := ch_old (t := 1) (v := .slice (some ⟨b2, o2, none⟩) m.length d) h rfl rfl; exact ch_move (ch_ev e1)
        refine ⟨.inl ⟨rfl, fun done a wq hw h => ?_⟩, ?_⟩
        ·have e5 := ch_old (t := 5) (v := .int .i64 (k : Int)) h rfl rfl; exact ch_move (ch_ev e5)
        refine ⟨.inl ⟨rfl, fun done a wq hw h => ?_⟩, ?_⟩
        ·have e21 := ch_new (i := 2) (t := 21) h (hw 2 (by decide)) rfl rfl; have e22 := ch_new (i := 3) (t := 22) h (hw 3 (by decide)) rfl rfl; refine ch_pure ?_; go_simp
        refine ⟨.inl ⟨rfl, fun done a wq hw h => ?_⟩, ?_⟩
        ·have e23 := ch_new (i := 4) (t := 23) h (hw 4 (by decide)) rfl rfl; refine ch_pure ?_; go_simp
        refine ⟨.inl ⟨rfl, fun done a wq hw h => ?_⟩, ?_⟩
        ·have e24 := ch_new (i := 5) (t := 24) h (hw 5 (by decide)) rfl rfl; have hc := (h.bel.cell (p := ⟨b2, o2 + k * 3, none⟩) (by simp; omega)).trans (show (wr.alloc (.cells #[iv xa, iv xl, .slice B1 xd.length c1] 117)).cell? _ = some (iv xa) from r0); refine ch_pure ?_; go_simp
        refine ⟨.inl ⟨rfl, fun done a wq hw h => ?_⟩, ?_⟩
        ·have e20 := ch_new (i := 1) (t := 20) h (hw 1 (by decide)) rfl rfl; have e25 := ch_new (i := 6) (t := 25) h (hw 6 (by decide)) rfl rfl; exact ch_neq_int (by kernel_rfl) (ch_ev e20) (ch_ev e25) (by simp)
        refine ⟨.inl ⟨rfl, fun done a wq hw h => ?_⟩, ?_⟩
        ·have e26 := ch_new (i := 7) (t := 26) h (hw 7 (by decide)) rfl rfl; exact ch_move (ch_ev e26)
        refine ⟨.inl ⟨rfl, fun done a wq hw h => ?_⟩, ?_⟩
        ·have e6 := ch_old (t := 6) (v := .pointer (some ⟨wr.heap.size, 0, none⟩)) h rfl rfl; refine ch_pure ?_; go_simp
        refine ⟨.inl ⟨rfl, fun done a wq hw h => ?_⟩, ?_⟩
        ·have e28 := ch_new (i := 9) (t := 28) h (hw 9 (by decide)) rfl rfl; have hc := (h.bel.cell (p := ⟨wr.heap.size, 1, none⟩) (by simp)).trans (show (wr.alloc (.cells #[iv xa, iv xl, .slice B1 xd.length c1] 117)).cell? ⟨wr.heap.size, 1, none⟩ = some (iv xl) by go_simp); refine ch_pure ?_; go_simp
        refine ⟨.inl ⟨rfl, fun done a wq hw h => ?_⟩, ?_⟩
        ·have e1 := ch_old (t := 1) (v := .slice (some ⟨b2, o2, none⟩) m.length d) h rfl rfl; exact ch_move (ch_ev e1)
        refine ⟨.inl ⟨rfl, fun done a wq hw h => ?_⟩, ?_⟩
        ·have e5 := ch_old (t := 5) (v := .int .i64 (k : Int)) h rfl rfl; exact ch_move (ch_ev e5)
        refine ⟨.inl ⟨rfl, fun done a wq hw h => ?_⟩, ?_⟩
        ·have e30 := ch_new (i := 11) (t := 30) h (hw 11 (by decide)) rfl rfl; have e31 := ch_new (i := 12) (t := 31) h (hw 12 (by decide)) rfl rfl; refine ch_pure ?_; go_simp
        refine ⟨.inl ⟨rfl, fun done a wq hw h => ?_⟩, ?_⟩
        ·have e32 := ch_new (i := 13) (t := 32) h (hw 13 (by decide)) rfl rfl; refine ch_pure ?_; go_simp
        refine ⟨.inl ⟨rfl, fun done a wq hw h => ?_⟩, ?_⟩
        ·have e33 := ch_new (i := 14) (t := 33) h (hw 14 (by decide)) rfl rfl; have hc := (h.bel.cell (p := ⟨b2, o2 + k * 3 + 1, none⟩) (by simp; omega)).trans (show (wr.alloc (.cells #[iv xa, iv xl, .slice B1 xd.length c1] 117)).cell? _ = some (iv xl) from r1); refine ch_pure ?_; go_simp
        refine ⟨.inl ⟨rfl, fun done a wq hw h => ?_⟩, ?_⟩
        ·have e29 := ch_new (i := 10) (t := 29) h (hw 10 (by decide)) rfl rfl; have e34 := ch_new (i := 15) (t := 34) h (hw 15 (by decide)) rfl rfl; exact ch_neq_int (by kernel_rfl) (ch_ev e29) (ch_ev e34) (by simp)
        refine ⟨.inl ⟨rfl, fun done a wq hw h => ?_⟩, ?_⟩
        ·have e27 := ch_new (i := 8) (t := 27) h (hw 8 (by decide)) rfl rfl; have e35 := ch_new (i := 16) (t := 35) h (hw 16 (by decide)) rfl rfl; exact ch_pick_f e27 (ch_ev e35)
        refine ⟨.inl ⟨rfl, fun done a wq hw h => ?_⟩, ?_⟩
        ·have e36 := ch_new (i := 17) (t := 36) h (hw 17 (by decide)) rfl rfl; exact ch_move (ch_ev e36)
        refine ⟨.inl ⟨rfl, fun done a wq hw h => ?_⟩, ?_⟩
        ·have e6 := ch_old (t := 6) (v := .pointer (some ⟨wr.heap.size, 0, none⟩)) h rfl rfl; refine ch_pure ?_; go_simp
        refine ⟨.inl ⟨rfl, fun done a wq hw h => ?_⟩, ?_⟩
        ·have e38 := ch_new (i := 19) (t := 38) h (hw 19 (by decide)) rfl rfl; have hc := (h.bel.cell (p := ⟨wr.heap.size, 2, none⟩) (by simp)).trans (show (wr.alloc (.cells #[iv xa, iv xl, .slice B1 xd.length c1] 117)).cell? ⟨wr.heap.size, 2, none⟩ = some (.slice B1 xd.length c1) by go_simp); refine ch_pure ?_; go_simp
        refine ⟨.inl ⟨rfl, fun done a wq hw h => ?_⟩, ?_⟩
        ·have e1 := ch_old (t := 1) (v := .slice (some ⟨b2, o2, none⟩) m.length d) h rfl rfl; exact ch_move (ch_ev e1)
        refine ⟨.inl ⟨rfl, fun done a wq hw h => ?_⟩, ?_⟩
        ·have e5 := ch_old (t := 5) (v := .int .i64 (k : Int)) h rfl rfl; exact ch_move (ch_ev e5)
        refine ⟨.inl ⟨rfl, fun done a wq hw h => ?_⟩, ?_⟩
        ·have e40 := ch_new (i := 21) (t := 40) h (hw 21 (by decide)) rfl rfl; have e41 := ch_new (i := 22) (t := 41) h (hw 22 (by decide)) rfl rfl; refine ch_pure ?_; go_simp
        refine ⟨.inl ⟨rfl, fun done a wq hw h => ?_⟩, ?_⟩
        ·have e42 := ch_new (i := 23) (t := 42) h (hw 23 (by decide)) rfl rfl; refine ch_pure ?_; go_simp
        refine ⟨.inl ⟨rfl, fun done a wq hw h => ?_⟩, ?_⟩
        ·have e43 := ch_new (i := 24) (t := 43) h (hw 24 (by decide)) rfl rfl; have hc := (h.bel.cell (p := ⟨b2, o2 + k * 3 + 2, none⟩) (by simp; omega)).trans (show (wr.alloc (.cells #[iv xa, iv xl, .slice B1 xd.length c1] 117)).cell? _ = some (.slice B2 xd.length c2) from r2); refine ch_pure ?_; go_simp
        refine ⟨.inl ⟨rfl, fun done a wq hw h => ?_⟩, ?_⟩
        ·have e39 := ch_new (i := 20) (t := 39) h (hw 20 (by decide)) rfl rfl; have e44 := ch_new (i := 25) (t := 44) h (hw 25 (by decide)) rfl rfl; exact ch_call (by go_simp) (by go_simp) (HC.out _ ((Below.refl _ _).drew.trans h.bel))
        refine ⟨.inl ⟨rfl, fun done a wq hw h => ?_⟩, ?_⟩
        ·have e45 := ch_new (i := 26) (t := 45) h (hw 26 (by decide)) rfl rfl; refine ch_pure ?_; go_simp
        refine ⟨.inl ⟨rfl, fun done a wq hw h => ?_⟩, ?_⟩
        ·have e37 := ch_new (i := 18) (t := 37) h (hw 18 (by decide)) rfl rfl; have e46 := ch_new (i := 27) (t := 46) h (hw 27 (by decide)) rfl rfl; exact ch_pick_f e37 (ch_ev e46)
        exact trivial
       intro w1 hb
       have HB1 := Lib.hid (HBX.out.trans (hb.mono (by simp; omega)))
       clear hb r0 r1 r2
       simp only [putAll_some, putAll_none, putAll_nil, List.getElem?_cons_zero, List.getElem?_cons_succ, List.setIfInBounds_toArray, List.set_cons_zero, List.set_cons_succ]
       go_wp2_with fail
       go_roundw
       case rel => exact ⟨k + 1, by omega, by go_num, Lib.hid (by first | exact HX.out trivial | exact HX.out rfl), HB1⟩
       case measure => simp [intOf]; omega
      ·have HC : Hid (∀ w', Below (wr.alloc (.cells #[iv xa, iv xl, .slice B1 xd.length c1] 117)).heap.size (wr.alloc (.cells #[iv xa, iv xl, .slice B1 xd.length c1] 117)) w' → Calls Try.prog 23 #[.slice B1 xd.length c1, .slice B2 yd.length c2] w' (RetB w' (.bool false))) := Lib.hid fun w' hb => by
        have := HK.out w' hb
        rwa [show decide (xd = yd) = false by simp [h3]] at this
       have HNE : Hid ((⟨xa, xl, xd⟩ : Stp) ≠ ⟨xa, xl, yd⟩) := Lib.hid fun e => by injection e; contradiction
       clear HK HX h3
       go_wp2_with fail
       refine wp_region_chain (by kernel_rfl) (some 19 :: some 20 :: some 21 :: some 22 :: some 23 :: some 24 :: some 25 :: some 26 :: some 27 :: some 28 :: some 29 :: some 30 :: some 31 :: some 32 :: some 33 :: some 34 :: some 35 :: some 36 :: some 37 :: some 38 :: some 39 :: some 40 :: some 41 :: some 42 :: some 43 :: some 44 :: some 45 :: some 46 :: some 47 :: []) (.pointer (some ⟨wr.heap.size, 0, none⟩) :: iv xa :: .slice (some ⟨b2, o2, none⟩) m.length d :: .int .i64 (k : Int) :: .pointer (some ⟨b2, o2 + k * 3, none⟩) :: .pointer (some ⟨b2, o2 + k * 3, none⟩) :: iv xa :: .bool false :: .bool false :: .pointer (some ⟨wr.heap.size, 1, none⟩) :: iv xl :: .slice (some ⟨b2, o2, none⟩) m.length d :: .int .i64 (k : Int) :: .pointer (some ⟨b2, o2 + k * 3, none⟩) :: .pointer (some ⟨b2, o2 + k * 3 + 1, none⟩) :: iv xl :: .bool false :: .bool false :: .bool false :: .pointer (some ⟨wr.heap.size, 2, none⟩) :: .slice B1 xd.length c1 :: .slice (some ⟨b2, o2, none⟩) m.length d :: .int .i64 (k : Int) :: .pointer (some ⟨b2, o2 + k * 3, none⟩) :: .pointer (some ⟨b2, o2 + k * 3 + 2, none⟩) :: .slice B2 yd.length c2 :: .bool false :: .bool true :: .bool true :: []) 49 rfl rfl (by decide +kernel) (by decide +kernel) (by decide +kernel) rfl ?_ ?_
       ·refine ⟨.inl ⟨rfl, fun done a wq hw h => ?_⟩, ?_⟩
        ·have e6 := ch_old (t := 6) (v := .pointer (some ⟨wr.heap.size, 0, none⟩)) h rfl rfl; refine ch_pure ?_; go_simp
        refine ⟨.inl ⟨rfl, fun done a wq hw h => ?_⟩, ?_⟩
        ·have e19 := ch_new (i := 0) (t := 19) h (hw 0 (by decide)) rfl rfl; have hc := (h.bel.cell (p := ⟨wr.heap.size, 0, none⟩) (by simp)).trans (show (wr.alloc (.cells #[iv xa, iv xl, .slice B1 xd.length c1] 117)).cell? ⟨wr.heap.size, 0, none⟩ = some (iv xa) by go_simp); refine ch_pure ?_; go_simp
        refine ⟨.inl ⟨rfl, fun done a wq hw h => ?_⟩, ?_⟩
        ·have e1 := ch_old (t := 1) (v := .slice (some ⟨b2, o2, none⟩) m.length d) h rfl rfl; exact ch_move (ch_ev e1)
        refine ⟨.inl ⟨rfl, fun done a wq hw h => ?_⟩, ?_⟩
        ·have e5 := ch_old (t := 5) (v := .int .i64 (k : Int)) h rfl rfl; exact ch_move (ch_ev e5)
        refine ⟨.inl ⟨rfl, fun done a wq hw h => ?_⟩, ?_⟩
        ·have e21 := ch_new (i := 2) (t := 21) h (hw 2 (by decide)) rfl rfl; have e22 := ch_new (i := 3) (t := 22) h (hw 3 (by decide)) rfl rfl; refine ch_pure ?_; go_simp
        refine ⟨.inl ⟨rfl, fun done a wq hw h => ?_⟩, ?_⟩
        ·have e23 := ch_new (i := 4) (t := 23) h (hw 4 (by decide)) rfl rfl; refine ch_pure ?_; go_simp
        refine ⟨.inl ⟨rfl, fun done a wq hw h => ?_⟩, ?_⟩
        ·have e24 := ch_new (i := 5) (t := 24) h (hw 5 (by decide)) rfl rfl; have hc := (h.bel.cell (p := ⟨b2, o2 + k * 3, none⟩) (by simp; omega)).trans (show (wr.alloc (.cells #[iv xa, iv xl, .slice B1 xd.length c1] 117)).cell? _ = some (iv xa) from r0); refine ch_pure ?_; go_simp
        refine ⟨.inl ⟨rfl, fun done a wq hw h => ?_⟩, ?_⟩
        ·have e20 := ch_new (i := 1) (t := 20) h (hw 1 (by decide)) rfl rfl; have e25 := ch_new (i := 6) (t := 25) h (hw 6 (by decide)) rfl rfl; exact ch_neq_int (by kernel_rfl) (ch_ev e20) (ch_ev e25) (by simp)
        refine ⟨.inl ⟨rfl, fun done a wq hw h => ?_⟩, ?_⟩
        ·have e26 := ch_new (i := 7) (t := 26) h (hw 7 (by decide)) rfl rfl; exact ch_move (ch_ev e26)
        refine ⟨.inl ⟨rfl, fun done a wq hw h => ?_⟩, ?_⟩
        ·have e6 := ch_old (t := 6) (v := .pointer (some ⟨wr.heap.size, 0, none⟩)) h rfl rfl; refine ch_pure ?_; go_simp
        refine ⟨.inl ⟨rfl, fun done a wq hw h => ?_⟩, ?_⟩
        ·have e28 := ch_new (i := 9) (t := 28) h (hw 9 (by decide)) rfl rfl; have hc := (h.bel.cell (p := ⟨wr.heap.size, 1, none⟩) (by simp)).trans (show (wr.alloc (.cells #[iv xa, iv xl, .slice B1 xd.length c1] 117)).cell? ⟨wr.heap.size, 1, none⟩ = some (iv xl) by go_simp); refine ch_pure ?_; go_simp
        refine ⟨.inl ⟨rfl, fun done a wq hw h => ?_⟩, ?_⟩
        ·have e1 := ch_old (t := 1) (v := .slice (some ⟨b2, o2, none⟩) m.length d) h rfl rfl; exact ch_move (ch_ev e1)
        refine ⟨.inl ⟨rfl, fun done a wq hw h => ?_⟩, ?_⟩
        ·have e5 := ch_old (t := 5) (v := .int .i64 (k : Int)) h rfl rfl; exact ch_move (ch_ev e5)
        refine ⟨.inl ⟨rfl, fun done a wq hw h => ?_⟩, ?_⟩
        ·have e30 := ch_new (i := 11) (t := 30) h (hw 11 (by decide)) rfl rfl; have e31 := ch_new (i := 12) (t := 31) h (hw 12 (by decide)) rfl rfl; refine ch_pure ?_; go_simp
        refine ⟨.inl ⟨rfl, fun done a wq hw h => ?_⟩, ?_⟩
        ·have e32 := ch_new (i := 13) (t := 32) h (hw 13 (by decide)) rfl rfl; refine ch_pure ?_; go_simp
        refine ⟨.inl ⟨rfl, fun done a wq hw h => ?_⟩, ?_⟩
        ·have e33 := ch_new (i := 14) (t := 33) h (hw 14 (by decide)) rfl rfl; have hc := (h.bel.cell (p := ⟨b2, o2 + k * 3 + 1, none⟩) (by simp; omega)).trans (show (wr.alloc (.cells #[iv xa, iv xl, .slice B1 xd.length c1] 117)).cell? _ = some (iv xl) from r1); refine ch_pure ?_; go_simp
        refine ⟨.inl ⟨rfl, fun done a wq hw h => ?_⟩, ?_⟩
        ·have e29 := ch_new (i := 10) (t := 29) h (hw 10 (by decide)) rfl rfl; have e34 := ch_new (i := 15) (t := 34) h (hw 15 (by decide)) rfl rfl; exact ch_neq_int (by kernel_rfl) (ch_ev e29) (ch_ev e34) (by simp)
        refine ⟨.inl ⟨rfl, fun done a wq hw h => ?_⟩, ?_⟩
        ·have e27 := ch_new (i := 8) (t := 27) h (hw 8 (by decide)) rfl rfl; have e35 := ch_new (i := 16) (t := 35) h (hw 16 (by decide)) rfl rfl; exact ch_pick_f e27 (ch_ev e35)
        refine ⟨.inl ⟨rfl, fun done a wq hw h => ?_⟩, ?_⟩
        ·have e36 := ch_new (i := 17) (t := 36) h (hw 17 (by decide)) rfl rfl; exact ch_move (ch_ev e36)
        refine ⟨.inl ⟨rfl, fun done a wq hw h => ?_⟩, ?_⟩
        ·have e6 := ch_old (t := 6) (v := .pointer (some ⟨wr.heap.size, 0, none⟩)) h rfl rfl; refine ch_pure ?_; go_simp
        refine ⟨.inl ⟨rfl, fun done a wq hw h => ?_⟩, ?_⟩
        ·have e38 := ch_new (i := 19) (t := 38) h (hw 19 (by decide)) rfl rfl; have hc := (h.bel.cell (p := ⟨wr.heap.size, 2, none⟩) (by simp)).trans (show (wr.alloc (.cells #[iv xa, iv xl, .slice B1 xd.length c1] 117)).cell? ⟨wr.heap.size, 2, none⟩ = some (.slice B1 xd.length c1) by go_simp); refine ch_pure ?_; go_simp
        refine ⟨.inl ⟨rfl, fun done a wq hw h => ?_⟩, ?_⟩
        ·have e1 := ch_old (t := 1) (v := .slice (some ⟨b2, o2, none⟩) m.length d) h rfl rfl; exact ch_move (ch_ev e1)
        refine ⟨.inl ⟨rfl, fun done a wq hw h => ?_⟩, ?_⟩
        ·have e5 := ch_old (t := 5) (v := .int .i64 (k : Int)) h rfl rfl; exact ch_move (ch_ev e5)
        refine ⟨.inl ⟨rfl, fun done a wq hw h => ?_⟩, ?_⟩
        ·have e40 := ch_new (i := 21) (t := 40) h (hw 21 (by decide)) rfl rfl; have e41 := ch_new (i := 22) (t := 41) h (hw 22 (by decide)) rfl rfl; refine ch_pure ?_; go_simp
        refine ⟨.inl ⟨rfl, fun done a wq hw h => ?_⟩, ?_⟩
        ·have e42 := ch_new (i := 23) (t := 42) h (hw 23 (by decide)) rfl rfl; refine ch_pure ?_; go_simp
        refine ⟨.inl ⟨rfl, fun done a wq hw h => ?_⟩, ?_⟩
        ·have e43 := ch_new (i := 24) (t := 43) h (hw 24 (by decide)) rfl rfl; have hc := (h.bel.cell (p := ⟨b2, o2 + k * 3 + 2, none⟩) (by simp; omega)).trans (show (wr.alloc (.cells #[iv xa, iv xl, .slice B1 xd.length c1] 117)).cell? _ = some (.slice B2 yd.length c2) from r2); refine ch_pure ?_; go_simp
        refine ⟨.inl ⟨rfl, fun done a wq hw h => ?_⟩, ?_⟩
        ·have e39 := ch_new (i := 20) (t := 39) h (hw 20 (by decide)) rfl rfl; have e44 := ch_new (i := 25) (t := 44) h (hw 25 (by decide)) rfl rfl; exact ch_call (by go_simp) (by go_simp) (HC.out _ ((Below.refl _ _).drew.trans h.bel))
        refine ⟨.inl ⟨rfl, fun done a wq hw h => ?_⟩, ?_⟩
        ·have e45 := ch_new (i := 26) (t := 45) h (hw 26 (by decide)) rfl rfl; refine ch_pure ?_; go_simp
        refine ⟨.inl ⟨rfl, fun done a wq hw h => ?_⟩, ?_⟩
        ·have e37 := ch_new (i := 18) (t := 37) h (hw 18 (by decide)) rfl rfl; have e46 := ch_new (i := 27) (t := 46) h (hw 27 (by decide)) rfl rfl; exact ch_pick_f e37 (ch_ev e46)
        exact trivial
       intro w1 hb
       have HB1 := Lib.hid (HBX.out.trans (hb.mono (by simp; omega)))
       clear hb r0 r1 r2
       simp only [putAll_some, putAll_none, putAll_nil, List.getElem?_cons_zero, List.getElem?_cons_succ, List.setIfInBounds_toArray, List.set_cons_zero, List.set_cons_succ]
       go_wp2_with fail
       go_ret
       exact ⟨ret_bool (decide_eq_false (HN.out HNE.out)).symm, HB1.out⟩
     ·have HNE : Hid ((⟨xa, xl, xd⟩ : Stp) ≠ ⟨xa, yl, yd⟩) := Lib.hid fun e => by injection e; contradiction
      clear HK HX
      go_wp2_with fail
      refine wp_region_chain (by kernel_rfl) (some 19 :: some 20 :: some 21 :: some 22 :: some 23 :: some 24 :: some 25 :: some 26 :: some 27 :: some 28 :: some 29 :: some 30 :: some 31 :: some 32 :: some 33 :: some 34 :: some 35 :: some 36 :: some 37 :: some 38 :: some 39 :: some 40 :: some 41 :: some 42 :: some 43 :: some 44 :: some 45 :: some 46 :: some 47 :: []) (.pointer (some ⟨wr.heap.size, 0, none⟩) :: iv xa :: .slice (some ⟨b2, o2, none⟩) m.length d :: .int .i64 (k : Int) :: .pointer (some ⟨b2, o2 + k * 3, none⟩) :: .pointer (some ⟨b2, o2 + k * 3, none⟩) :: iv xa :: .bool false :: .bool false :: .pointer (some ⟨wr.heap.size, 1, none⟩) :: iv xl :: .slice (some ⟨b2, o2, none⟩) m.length d :: .int .i64 (k : Int) :: .pointer (some ⟨b2, o2 + k * 3, none⟩) :: .pointer (some ⟨b2, o2 + k * 3 + 1, none⟩) :: iv yl :: .bool true :: .bool true :: .bool true :: undef :: undef :: undef :: undef :: undef :: undef :: undef :: undef :: undef :: .bool true :: []) 49 rfl rfl (by decide +kernel) (by decide +kernel) (by decide +kernel) rfl ?_ ?_
      ·refine ⟨.inl ⟨rfl, fun done a wq hw h => ?_⟩, ?_⟩
       ·have e6 := ch_old (t := 6) (v := .pointer (some ⟨wr.heap.size, 0, none⟩)) h rfl rfl; refine ch_pure ?_; go_simp
       refine ⟨.inl ⟨rfl, fun done a wq hw h => ?_⟩, ?_⟩
       ·have e19 := ch_new (i := 0) (t := 19) h (hw 0 (by decide)) rfl rfl; have hc := (h.bel.cell (p := ⟨wr.heap.size, 0, none⟩) (by simp)).trans (show (wr.alloc (.cells #[iv xa, iv xl, .slice B1 xd.length c1] 117)).cell? ⟨wr.heap.size, 0, none⟩ = some (iv xa) by go_simp); refine ch_pure ?_; go_simp
       refine ⟨.inl ⟨rfl, fun done a wq hw h => ?_⟩, ?_⟩
       ·have e1 := ch_old (t := 1) (v := .slice (some ⟨b2, o2, none⟩) m.length d) h rfl rfl; exact ch_move (ch_ev e1)
       refine ⟨.inl ⟨rfl, fun done a wq hw h => ?_⟩, ?_⟩
       ·have e5 := ch_old (t := 5) (v := .int .i64 (k : Int)) h rfl rfl; exact ch_move (ch_ev e5)
       refine ⟨.inl ⟨rfl, fun done a wq hw h => ?_⟩, ?_⟩
       ·have e21 := ch_new (i := 2) (t := 21) h (hw 2 (by decide)) rfl rfl; have e22 := ch_new (i := 3) (t := 22) h (hw 3 (by decide)) rfl rfl; refine ch_pure ?_; go_simp
       refine ⟨.inl ⟨rfl, fun done a wq hw h => ?_⟩, ?_⟩
       ·have e23 := ch_new (i := 4) (t := 23) h (hw 4 (by decide)) rfl rfl; refine ch_pure ?_; go_simp
       refine ⟨.inl ⟨rfl, fun done a wq hw h => ?_⟩, ?_⟩
       ·have e24 := ch_new (i := 5) (t := 24) h (hw 5 (by decide)) rfl rfl; have hc := (h.bel.cell (p := ⟨b2, o2 + k * 3, none⟩) (by simp; omega)).trans (show (wr.alloc (.cells #[iv xa, iv xl, .slice B1 xd.length c1] 117)).cell? _ = some (iv xa) from r0); refine ch_pure ?_; go_simp
       refine ⟨.inl ⟨rfl, fun done a wq hw h => ?_⟩, ?_⟩
       ·have e20 := ch_new (i := 1) (t := 20) h (hw 1 (by decide)) rfl rfl; have e25 := ch_new (i := 6) (t := 25) h (hw 6 (by decide)) rfl rfl; exact ch_neq_int (by kernel_rfl) (ch_ev e20) (ch_ev e25) (by simp)
       refine ⟨.inl ⟨rfl, fun done a wq hw h => ?_⟩, ?_⟩
       ·have e26 := ch_new (i := 7) (t := 26) h (hw 7 (by decide)) rfl rfl; exact ch_move (ch_ev e26)
       refine ⟨.inl ⟨rfl, fun done a wq hw h => ?_⟩, ?_⟩
       ·have e6 := ch_old (t := 6) (v := .pointer (some ⟨wr.heap.size, 0, none⟩)) h rfl rfl; refine ch_pure ?_; go_simp
       refine ⟨.inl ⟨rfl, fun done a wq hw h => ?_⟩, ?_⟩
       ·have e28 := ch_new (i := 9) (t := 28) h (hw 9 (by decide)) rfl rfl; have hc := (h.bel.cell (p := ⟨wr.heap.size, 1, none⟩) (by simp)).trans (show (wr.alloc (.cells #[iv xa, iv xl, .slice B1 xd.length c1] 117)).cell? ⟨wr.heap.size, 1, none⟩ = some (iv xl) by go_simp); refine ch_pure ?_; go_simp
       refine ⟨.inl ⟨rfl, fun done a wq hw h => ?_⟩, ?_⟩
       ·have e1 := ch_old (t := 1) (v := .slice (some ⟨b2, o2, none⟩) m.length d) h rfl rfl; exact ch_move (ch_ev e1)
       refine ⟨.inl ⟨rfl, fun done a wq hw h => ?_⟩, ?_⟩
       ·have e5 := ch_old (t := 5) (v := .int .i64 (k : Int)) h rfl rfl; exact ch_move (ch_ev e5)
       refine ⟨.inl ⟨rfl, fun done a wq hw h => ?_⟩, ?_⟩
       ·have e30 := ch_new (i := 11) (t := 30) h (hw 11 (by decide)) rfl rfl; have e31 := ch_new (i := 12) (t := 31) h (hw 12 (by decide)) rfl rfl; refine ch_pure ?_; go_simp
       refine ⟨.inl ⟨rfl, fun done a wq hw h => ?_⟩, ?_⟩
       ·have e32 := ch_new (i := 13) (t := 32) h (hw 13 (by decide)) rfl rfl; refine ch_pure ?_; go_simp
       refine ⟨.inl ⟨rfl, fun done a wq hw h => ?_⟩, ?_⟩
       ·have e33 := ch_new (i := 14) (t := 33) h (hw 14 (by decide)) rfl rfl; have hc := (h.bel.cell (p := ⟨b2, o2 + k * 3 + 1, none⟩) (by simp; omega)).trans (show (wr.alloc (.cells #[iv xa, iv xl, .slice B1 xd.length c1] 117)).cell? _ = some (iv yl) from r1); refine ch_pure ?_; go_simp
       refine ⟨.inl ⟨rfl, fun done a wq hw h => ?_⟩, ?_⟩
       ·have e29 := ch_new (i := 10) (t := 29) h (hw 10 (by decide)) rfl rfl; have e34 := ch_new (i := 15) (t := 34) h (hw 15 (by decide)) rfl rfl; exact ch_neq_int (by kernel_rfl) (ch_ev e29) (ch_ev e34) (by simp [h2])
       refine ⟨.inl ⟨rfl, fun done a wq hw h => ?_⟩, ?_⟩
       ·have e27 := ch_new (i := 8) (t := 27) h (hw 8 (by decide)) rfl rfl; have e35 := ch_new (i := 16) (t := 35) h (hw 16 (by decide)) rfl rfl; exact ch_pick_f e27 (ch_ev e35)
       refine ⟨.inl ⟨rfl, fun done a wq hw h => ?_⟩, ?_⟩
       ·have e36 := ch_new (i := 17) (t := 36) h (hw 17 (by decide)) rfl rfl; exact ch_move (ch_ev e36)
       iterate 9 refine ⟨.inr ⟨rfl, rfl⟩, ?_⟩
       refine ⟨.inl ⟨rfl, fun done a wq hw h => ?_⟩, ?_⟩
       ·have e37 := ch_new (i := 18) (t := 37) h (hw 18 (by decide)) rfl rfl; exact ch_pick_t e37 rfl
       exact trivial
      intro w1 hb
      have HB1 := Lib.hid (HBX.out.trans (hb.mono (by simp; omega)))
      clear hb r0 r1 r2
      simp only [putAll_some, putAll_none, putAll_nil, List.getElem?_cons_zero, List.getElem?_cons_succ, List.setIfInBounds_toArray, List.set_cons_zero, List.set_cons_succ]
      go_wp2_with fail
      go_ret
      exact ⟨ret_bool (decide_eq_false (HN.out HNE.out)).symm, HB1.out⟩
    ·have HNE : Hid ((⟨xa, xl, xd⟩ : Stp) ≠ ⟨ya, yl, yd⟩) := Lib.hid fun e => by injection e; contradiction
     clear HK HX
     go_wp2_with fail
     refine wp_region_chain (by kernel_rfl) (some 19 :: some 20 :: some 21 :: some 22 :: some 23 :: some 24 :: some 25 :: some 26 :: some 27 :: some 28 :: some 29 :: some 30 :: some 31 :: some 32 :: some 33 :: some 34 :: some 35 :: some 36 :: some 37 :: some 38 :: some 39 :: some 40 :: some 41 :: some 42 :: some 43 :: some 44 :: some 45 :: some 46 :: some 47 :: []) (.pointer (some ⟨wr.heap.size, 0, none⟩) :: iv xa :: .slice (some ⟨b2, o2, none⟩) m.length d :: .int .i64 (k : Int) :: .pointer (some ⟨b2, o2 + k * 3, none⟩) :: .pointer (some ⟨b2, o2 + k * 3, none⟩) :: iv ya :: .bool true :: .bool true :: undef :: undef :: undef :: undef :: undef :: undef :: undef :: undef :: .bool true :: .bool true :: undef :: undef :: undef :: undef :: undef :: undef :: undef :: undef :: undef :: .bool true :: []) 49 rfl rfl (by decide +kernel) (by decide +kernel) (by decide +kernel) rfl ?_ ?_
     ·refine ⟨.inl ⟨rfl, fun done a wq hw h => ?_⟩, ?_⟩
      ·have e6 := ch_old (t := 6) (v := .pointer (some ⟨wr.heap.size, 0, none⟩)) h rfl rfl; refine ch_pure ?_; go_simp
      refine ⟨.inl ⟨rfl, fun done a wq hw h => ?_⟩, ?_⟩
      ·have e19 := ch_new (i := 0) (t := 19) h (hw 0 (by decide)) rfl rfl; have hc := (h.bel.cell (p := ⟨wr.heap.size, 0, none⟩) (by simp)).trans (show (wr.alloc (.cells #[iv xa, iv xl, .slice B1 xd.length c1] 117)).cell? ⟨wr.heap.size, 0, none⟩ = some (iv xa) by go_simp); refine ch_pure ?_; go_simp
      refine ⟨.inl ⟨rfl, fun done a wq hw h => ?_⟩, ?_⟩
      ·have e1 := ch_old (t := 1) (v := .slice (some ⟨b2, o2, none⟩) m.length d) h rfl rfl; exact ch_move (ch_ev e1)
      refine ⟨.inl ⟨rfl, fun done a wq hw h => ?_⟩, ?_⟩
      ·have e5 := ch_old (t := 5) (v := .int .i64 (k : Int)) h rfl rfl; exact ch_move (ch_ev e5)
      refine ⟨.inl ⟨rfl, fun done a wq hw h => ?_⟩, ?_⟩
      ·have e21 := ch_new (i := 2) (t := 21) h (hw 2 (by decide)) rfl rfl; have e22 := ch_new (i := 3) (t := 22) h (hw 3 (by decide)) rfl rfl; refine ch_pure ?_; go_simp
      refine ⟨.inl ⟨rfl, fun done a wq hw h => ?_⟩, ?_⟩
      ·have e23 := ch_new (i := 4) (t := 23) h (hw 4 (by decide)) rfl rfl; refine ch_pure ?_; go_simp
      refine ⟨.inl ⟨rfl, fun done a wq hw h => ?_⟩, ?_⟩
      ·have e24 := ch_new (i := 5) (t := 24) h (hw 5 (by decide)) rfl rfl; have hc := (h.bel.cell (p := ⟨b2, o2 + k * 3, none⟩) (by simp; omega)).trans (show (wr.alloc (.cells #[iv xa, iv xl, .slice B1 xd.length c1] 117)).cell? _ = some (iv ya) from r0); refine ch_pure ?_; go_simp
      refine ⟨.inl ⟨rfl, fun done a wq hw h => ?_⟩, ?_⟩
      ·have e20 := ch_new (i := 1) (t := 20) h (hw 1 (by decide)) rfl rfl; have e25 := ch_new (i := 6) (t := 25) h (hw 6 (by decide)) rfl rfl; exact ch_neq_int (by kernel_rfl) (ch_ev e20) (ch_ev e25) (by simp [h1])
      refine ⟨.inl ⟨rfl, fun done a wq hw h => ?_⟩, ?_⟩
      ·have e26 := ch_new (i := 7) (t := 26) h (hw 7 (by decide)) rfl rfl; exact ch_move (ch_ev e26)
      iterate 8 refine ⟨.inr ⟨rfl, rfl⟩, ?_⟩
      refine ⟨.inl ⟨rfl, fun done a wq hw h => ?_⟩, ?_⟩
      ·have e27 := ch_new (i := 8) (t := 27) h (hw 8 (by decide)) rfl rfl; exact ch_pick_t e27 rfl
      refine ⟨.inl ⟨rfl, fun done a wq hw h => ?_⟩, ?_⟩
      ·have e36 := ch_new (i := 17) (t := 36) h (hw 17 (by decide)) rfl rfl; exact ch_move (ch_ev e36)
      iterate 9 refine ⟨.inr ⟨rfl, rfl⟩, ?_⟩
      refine ⟨.inl ⟨rfl, fun done a wq hw h => ?_⟩, ?_⟩
      ·have e37 := ch_new (i := 18) (t := 37) h (hw 18 (by decide)) rfl rfl; exact ch_pick_t e37 rfl
      exact trivial
     intro w1 hb
     have HB1 := Lib.hid (HBX.out.trans (hb.mono (by simp; omega)))
     clear hb r0 r1 r2
     simp only [putAll_some, putAll_none, putAll_nil, List.getElem?_cons_zero, List.getElem?_cons_succ, List.setIfInBounds_toArray, List.set_cons_zero, List.set_cons_succ]
     go_wp2_with fail
     go_ret
     exact ⟨ret_bool (decide_eq_false (HN.out HNE.out)).symm, HB1.out⟩
   ·obtain rfl : k = l.length := by omega
    have HL : Hid (l = m) := Lib.hid (by
     have := HT.out
     rwa [List.take_length, HE.out, List.take_length] at this)
    go_wp2_with fail
    go_ret
    exact ⟨ret_bool (decide_eq_true HL.out).symm, HB.out⟩
 ·have hdl : ((l.length : Int) != (m.length : Int)) = true := by simp; omega
  have HE : Hid (l ≠ m) := Lib.hid fun e => hne (by rw [e])
  clear hne ha hb
  go_enter Try.func22, Try.ntmps22
  go_wp2_with fail
  go_ret
  exact ⟨ret_bool (decide_eq_false HE.out).symm, Below.refl _ _⟩
theorem refPatSameA_calls (A B : Option Addr) (c d : Nat) (f t o n sz f2 t2 o2 n2 sz2 : Int) (l m : List Stp) (w : World) (hl : l.length ≤ 1048576) (hm : m.length ≤ 1048576) (hs : Sps w A l) (hr : Sps w B m) :
  Calls Try.prog 32 #[.agg #[iv f, iv t, iv o, iv n, iv sz, .slice A l.length c], .agg #[iv f2, iv t2, iv o2, iv n2, iv sz2, .slice B m.length d]] w (RetB w (.bool (decide ((⟨f, t, o, n, sz, l⟩ : Pat) = ⟨f2, t2, o2, n2, sz2, m⟩)))) := by
 have hb : Below w.heap.size w ((w.alloc (.cells #[iv f, iv t, iv o, iv n, iv sz, .slice A l.length c] 35)).alloc (.cells #[iv f2, iv t2, iv o2, iv n2, iv sz2, .slice B m.length d] 35)) := ((Below.refl _ _).alloc (Nat.le_refl _) _).alloc (by simp) _
 obtain ⟨r, hR⟩ : ∃ r, decide ((⟨f, t, o, n, sz, l⟩ : Pat) = ⟨f2, t2, o2, n2, sz2, m⟩) = r := ⟨_, rfl⟩
 rw [hR]
 have HR := Lib.hid hR
 clear hR
 have HB := Lib.hid hb
 have HC := Lib.hid (refSame_calls A B c d l m _ hl hm (hs.stays hb) (hr.stays hb))
 clear hb hs hr
 by_cases h0 : ¬ f = f2
 ·have hz : false = r := (decide_eq_false (fun e => by injection e; contradiction)).symm.trans HR.out
  have HZ := Lib.hid hz
  have q : (f == f2) = false := by simp [h0]
  clear HC hz h0
  go_enter Try.func32, Try.ntmps32
  go_wp2_with fail
  go_ret
  exact ⟨ret_bool HZ.out, HB.out⟩
 have h0 := Decidable.not_not.1 h0
 subst h0
 have q0 : (f == f) = true := by simp
 by_cases h1 : ¬ t = t2
 ·have hz : false = r := (decide_eq_false (fun e => by injection e; contradiction)).symm.trans HR.out
  have HZ := Lib.hid hz
  have q : (t == t2) = false := by simp [h1]
  clear HC hz h1
  go_enter Try.func32, Try.ntmps32
  go_wp2_with fail
  go_ret
  exact ⟨ret_bool HZ.out, HB.out⟩
 have h1 := Decidable.not_not.1 h1
 subst h1
 have q1 : (t == t) = true := by simp
 by_cases h2 : ¬ o = o2
 ·have hz : false = r := (decide_eq_false (fun e => by injection e; contradiction)).symm.trans HR.out
  have HZ := Lib.hid hz
  have q : (o == o2) = false := by simp [h2]
  clear HC hz h2
  go_enter Try.func32, Try.ntmps32
  go_wp2_with fail
  go_ret
  exact ⟨ret_bool HZ.out, HB.out⟩
 have h2 := Decidable.not_not.1 h2
 subst h2
 have q2 : (o == o) = true := by simp
 by_cases h3 : ¬ n = n2
 ·have hz : false = r := (decide_eq_false (fun e => by injection e; contradiction)).symm.trans HR.out
  have HZ := Lib.hid hz
  have q : (n == n2) = false := by simp [h3]
  clear HC hz h3
  go_enter Try.func32, Try.ntmps32
  go_wp2_with fail
  go_ret
  exact ⟨ret_bool HZ.out, HB.out⟩
 have h3 := Decidable.not_not.1 h3
 subst h3
 have q3 : (n == n) = true := by simp
 by_cases h4 : ¬ sz = sz2
 ·have hz : false = r := (decide_eq_false (fun e => by injection e; contradiction)).symm.trans HR.out
  have HZ := Lib.hid hz
  have q : (sz == sz2) = false := by simp [h4]
  clear HC hz h4
  go_enter Try.func32, Try.ntmps32
  go_wp2_with fail
  go_ret
  exact ⟨ret_bool HZ.out, HB.out⟩
 have h4 := Decidable.not_not.1 h4
 subst h4
 have q4 : (sz == sz) = true := by simp
 have hz : decide (l = m) = r := by
  rw [← HR.out]
  by_cases e : l = m
  ·subst e; simp
  ·rw [decide_eq_false e, decide_eq_false (fun h => e (by injection h))]
 have HZ := Lib.hid hz
 clear hz
 go_enter Try.func32, Try.ntmps32
 go_wp2_with fail
 refine HC.out.mono ?_
 rintro e w9 ⟨rfl, hb1⟩
 have HB1 := Lib.hid (HB.out.trans (hb1.mono HB.out.size))
 clear hb1
 go_wp2_with fail
 go_ret
 exact ⟨ret_bool HZ.out, HB1.out⟩
end Go.Proofs.Ytefkfglkpebbmac
