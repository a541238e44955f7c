/- Some of the walks of this claim, one behind the other. No conditions. -/
import Derived.Test.YtefkfglkpebbmacQBase
import Derived.Maps.OwnSet
import Derived.Deep.MidRow
import Derived.Laws.CopyOwn
import Derived.Laws.CopyRow
namespace Go.Proofs.Ytefkfglkpebbmac
open Go.RowKit
set_option linter.unusedVariables false

theorem growBytes_calls (n : Nat) (w : World) (hn : n ≤ 67108864) :
    Calls Try.prog 138 #[.slice none 0 0, iv n] w (SlRet w 5 1 0 []) := by
  rcases Nat.eq_zero_or_pos n with rfl | hp
  · go_enter Try.func138, Try.ntmps138
    go_wp2
    go_ret
    exact ⟨none, 0, rfl, Own.nil_ _ _ _ _, Below.refl _ _⟩
  · obtain ⟨i, hi, hz, hs, hb⟩ := info_parts (P := Try.prog) (e := 5) (z := .int .u8 0) (size := 1) (bytes := 1) (by kernel_rfl)
    have hr := fun ty => Lib.run_append_grow_zeros (P := Try.prog) w 22 3 ty 5 i (.int .u8 0) .i64 .i64 Try.underlying22 Try.underlying3 hi hz none 0 0 [] (run_firstCells_none _ _ _ _ _) n hp (by omega) (by omega) (by omega) (by rw [hb]; omega)
      (growslice_fits (by omega) (by rw [hb]; omega))
    have hG := grownCap_ge w (0 + n) 0 5
    have hG2 := grownCap_le_maxLen w (0 + n) 0 5 (by unfold maxLen; omega)
    have h1 : (0 : Int) < (n : Int) := by omega
    obtain ⟨cap, hcd⟩ : ∃ cap, cap = grownCap w (0 + n) 0 5 := ⟨_, rfl⟩
    rw [← hcd] at hr hG hG2
    clear hcd
    have hO : Own (w.drew.alloc (.cells (([] : List Value).toArray ++ Builtin.zeroCells (Value.cells (.int .u8 0)) n ++ Builtin.zeroCells (Value.cells (.int .u8 0)) (cap - (0 + n))) 5)) w.heap.size 5 1 (some ⟨w.heap.size, 0, none⟩) 0 cap [] :=
      ⟨by simp, Or.inr ⟨_, _, _, rfl, Nat.le_refl _, blk_top rfl, by omega, hG2, by simp [Builtin.zeroCells, Value.cells]; omega, by simp⟩⟩
    have hB := ((Below.refl w.heap.size w).drew).alloc (Nat.le_refl _) (.cells (([] : List Value).toArray ++ Builtin.zeroCells (Value.cells (.int .u8 0)) n ++ Builtin.zeroCells (Value.cells (.int .u8 0)) (cap - (0 + n))) 5)
    generalize (Obj.cells (([] : List Value).toArray ++ Builtin.zeroCells (Value.cells (.int .u8 0)) n ++ Builtin.zeroCells (Value.cells (.int .u8 0)) (cap - (0 + n))) 5) = ob at *
    have hcap : cap ≤ 9223372036854775807 := by simp only [maxLen] at hG2; omega
    clear hi hz hs hb hG2
    go_enter Try.func138, Try.ntmps138
    go_wp2_with (at_builtin; refine Lib.wpList_append_run _ rfl _ _ _ _ rfl _ _ rfl rfl _ _ (hr _) ?_)
    go_ret
    exact ⟨_, _, rfl, hO, hB⟩

theorem concatBytes_calls (ss : List SrcOf) (ad : Option Addr) (c : Nat) (w : World) (hk : ss.length ≤ 16) (hn : sumN ss ≤ 67108864) (hr : Src w ad (ss.map SrcOf.val)) (hs : ∀ s ∈ ss, s.ok w 1) :
    Calls Try.prog 87 #[.slice ad ss.length c] w (SlRet w 5 1 (sumN ss) (ss.flatMap SrcOf.cells)) := by
  go_enter Try.func87, Try.ntmps87
  go_wp2_with fail
  go_loop [3, 5, 11] (fun z s i => ∃ k : Nat, k ≤ ss.length ∧ i = .int .i64 k ∧ z = .int .i64 (sumN (ss.take k))) (fun _ _ i => ss.length - (intOf i).toNat)
  case atStart => exact ⟨0, Nat.zero_le _, rfl, rfl⟩
  case round =>
    obtain ⟨k, hkl, rfl, rfl⟩ := hrel
    by_cases hlt : k < ss.length
    · obtain ⟨b, o, rfl, hbs, hc⟩ := hr k (by simpa using hlt)
      have hsn := sumN_take ss k hlt
      have hle := sumN_le ss (k + 1)
      have HS := Lib.hid hsn
      have hb1 : (sumN (ss.take k) : Int) + (ss[k].n : Int) ≤ 67108864 := by omega
      have hc' : w.cell? ⟨b, o + k, none⟩ = some (.slice ss[k].A ss[k].n ss[k].c) := by simpa [SrcOf.val] using hc
      clear hsn hle hc
      go_wp2_with fail
      go_round
      case rel => exact ⟨k + 1, by omega, by go_num, by rw [HS.out]; go_num⟩
      case measure => simp [intOf] <;> omega
    · obtain rfl : k = ss.length := by omega
      rw [List.take_length]
      go_wp2_with fail
      refine (growBytes_calls (sumN ss) w (by omega)).mono ?_
      rintro e w1 ⟨A0, c0, rfl, hO, hB⟩
      have HR := Lib.hid hr
      have HQ := Lib.hid hs
      clear hr hs
      go_wp2_with fail
      go_loopw [6, 8, 27] (fun z s i wr => ∃ (k : Nat) (A1 : Option Addr) (c1 : Nat), k ≤ ss.length ∧ i = .int .i64 k ∧ z = .slice A1 (sumN (ss.take k)) c1 ∧ Own wr w.heap.size 5 1 A1 (sumN (ss.take k)) c1 ((ss.take k).flatMap SrcOf.cells) ∧ Below w.heap.size w wr) (fun _ _ i _ => ss.length - (intOf i).toNat)
      case atStart => exact ⟨0, A0, c0, Nat.zero_le _, rfl, rfl, hO, hB⟩
      case round =>
        obtain ⟨k, A1, c1, hkl, rfl, rfl, hO1, hB1⟩ := hrel
        have hr2 := HR.out.stays hB1
        have hs2 : ∀ s ∈ ss, s.ok wr 1 := fun s h => (HQ.out s h).stays hB1
        by_cases hlt : k < ss.length
        · obtain ⟨b, o, rfl, hbs, hc⟩ := hr2 k (by simpa using hlt)
          have hsn := sumN_take ss k hlt
          have hle := sumN_le ss (k + 1)
          have hfl : (ss.take (k + 1)).flatMap SrcOf.cells = (ss.take k).flatMap SrcOf.cells ++ ss[k].cells := by
            rw [List.take_succ_eq_append_getElem hlt, List.flatMap_append]; simp
          have HS := Lib.hid hsn
          have HF := Lib.hid hfl
          obtain ⟨q1, q2, q3⟩ := hs2 ss[k] (List.getElem_mem hlt)
          have Q1 := Lib.hid q1
          have hb1 : sumN (ss.take k) + ss[k].n ≤ 1073741824 := by omega
          have hb2 : w.heap.size ≤ wr.heap.size := hB1.size
          have hc' : wr.cell? ⟨b, o + k, none⟩ = some (.slice ss[k].A ss[k].n ss[k].c) := by simpa [SrcOf.val] using hc
          clear hsn hle hc hfl q1 hr2 hs2
          go_wp2_with (at_builtin; refine wpList_app _ rfl _ _ 22 rfl elBytes w.heap.size A1 (sumN (ss.take k)) c1 _ rfl hO1 ss[k].A ss[k].n ss[k].c ss[k].cells rfl q2 Q1.out q3 hb1 hb2 ?_; intro A' c' w2 hown hg hb hx)
          have hfin : Own w2 w.heap.size 5 1 A' (sumN (ss.take (k + 1))) c' ((ss.take (k + 1)).flatMap SrcOf.cells) := by rw [HS.out, HF.out]; exact hown
          have hB2 := hB1.trans hb
          clear hown hg hb hx q2 q3 hc' hbs
          go_roundw
          case rel => exact ⟨k + 1, A', c', by omega, by go_num, by rw [HS.out], hfin, hB2⟩
          case measure => simp [intOf] <;> omega
        · obtain rfl : k = ss.length := by omega
          rw [List.take_length] at hO1
          clear hr2 hs2
          go_wp2_with fail
          go_ret
          exact ⟨_, _, by rw [List.take_length]; rfl, hO1, hB1⟩
end Go.Proofs.Ytefkfglkpebbmac
namespace Go.Proofs.Ytefkfglkpebbmac
open Go.RowKit
set_option linter.unusedVariables false

/-- It returns bytes of the call's own. -/
def BtRet (w : World) (l : List UInt8) : Ending → World → Prop := fun en w' =>
  ∃ A c, en = .returned (.slice A l.length c) ∧ Own w' w.heap.size 5 1 A l.length c (l.map bv) ∧ Below w.heap.size w w'
theorem src_blk {w : World} {g : Nat} {cs : Array Value} {t : TypeId} {fr : Nat × Nat} (h : w.heap[g]? = some (.cells cs t fr)) : Src w (some ⟨g, 0, none⟩) cs.toList := by
  intro i hi
  refine ⟨_, _, rfl, blk_lt h, ?_⟩
  rw [cell_of_row _ _ _ _ _ _ h]
  simp
theorem bv_one (l : List UInt8) : ∀ u ∈ l.map bv, u.oneCell' = true := by
  intro u hu
  obtain ⟨x, _, rfl⟩ := List.mem_map.1 hu
  rfl
def srcB (A : Option Addr) (l : List UInt8) (c : Nat) : SrcOf := ⟨A, l.length, c, l.map bv⟩
theorem srcB_ok {w : World} {A : Option Addr} {l : List UInt8} {c : Nat} (h : Bts w A l) : (srcB A l c).ok w 1 := ⟨by simp [srcB], h.src, bv_one l⟩

theorem concat2_calls {w : World} {g : Nat} {A B : Option Addr} {a b : List UInt8} {c d : Nat} {t : TypeId} {fr : Nat × Nat} (h : w.heap[g]? = some (.cells #[.slice A a.length c, .slice B b.length d] t fr))
    (hl : a.length + b.length ≤ 67108864) (ha : Bts w A a) (hb : Bts w B b) :
    Calls Try.prog 87 #[.slice (some ⟨g, 0, none⟩) 2 2] w (BtRet w (a ++ b)) := by
  refine (concatBytes_calls [srcB A a c, srcB B b d] (some ⟨g, 0, none⟩) 2 w (by simp) (by simp [sumN, srcB]; omega) (src_blk h) (fun s hs => ?_)).mono ?_
  · simp only [List.mem_cons, List.not_mem_nil, or_false] at hs
    rcases hs with rfl | rfl
    · exact srcB_ok ha
    · exact srcB_ok hb
  · rintro e w' ⟨A', c', rfl, ho, hbel⟩
    have e1 : sumN [srcB A a c, srcB B b d] = (a ++ b).length := by simp [sumN, srcB]
    have e2 : [srcB A a c, srcB B b d].flatMap SrcOf.cells = (a ++ b).map bv := by simp [srcB]
    rw [e1, e2] at ho
    rw [e1]
    exact ⟨A', c', rfl, ho, hbel⟩
theorem concat3_calls {w : World} {g : Nat} {A B C : Option Addr} {a b l : List UInt8} {c d k : Nat} {t : TypeId} {fr : Nat × Nat} (h : w.heap[g]? = some (.cells #[.slice A a.length c, .slice B b.length d, .slice C l.length k] t fr))
    (hl : a.length + b.length + l.length ≤ 67108864) (ha : Bts w A a) (hb : Bts w B b) (hc : Bts w C l) :
    Calls Try.prog 87 #[.slice (some ⟨g, 0, none⟩) 3 3] w (BtRet w (a ++ b ++ l)) := by
  refine (concatBytes_calls [srcB A a c, srcB B b d, srcB C l k] (some ⟨g, 0, none⟩) 3 w (by simp) (by simp [sumN, srcB]; omega) (src_blk h) (fun s hs => ?_)).mono ?_
  · simp only [List.mem_cons, List.not_mem_nil, or_false] at hs
    rcases hs with rfl | rfl | rfl
    · exact srcB_ok ha
    · exact srcB_ok hb
    · exact srcB_ok hc
  · rintro e w' ⟨A', c', rfl, ho, hbel⟩
    have e1 : sumN [srcB A a c, srcB B b d, srcB C l k] = (a ++ b ++ l).length := by simp [sumN, srcB] <;> omega
    have e2 : [srcB A a c, srcB B b d, srcB C l k].flatMap SrcOf.cells = (a ++ b ++ l).map bv := by simp [srcB]
    rw [e1, e2] at ho
    rw [e1]
    exact ⟨A', c', rfl, ho, hbel⟩
end Go.Proofs.Ytefkfglkpebbmac
namespace Go.Proofs.Ytefkfglkpebbmac
open Go.RowKit
set_option linter.unusedVariables false

theorem wp_sb1 {a : Act} {w : World} {K : Act → World → Prop} {Q : Exit → Act → World → Prop} {t : TypeId} {p : String} {af : Array Edge} {gd : Option (Nat × Bool)} {d s : Tmp} {n : UInt8} (hs : a.tmps[s]? = some (bv n))
    (h : K (a.put (some d) (.slice (some ⟨w.heap.size, 0, none⟩) 1 1)) (w.alloc (.cells #[bv n] 5))) :
    Oper.wp Try.prog ⟨some d, .buildSlice 22 1 #[(0, .tmp s)], t, p, af, gd⟩ a w K Q := by
  have e : a.eval (.tmp s) = bv n := by simp [Act.eval, hs]
  unfold Oper.wp execOp
  simp only [e, List.map_toArray, List.map_cons, List.map_nil]
  go_simp
  exact h
theorem wp_sb2 {a : Act} {w : World} {K : Act → World → Prop} {Q : Exit → Act → World → Prop} {t : TypeId} {p : String} {af : Array Edge} {gd : Option (Nat × Bool)} {d s r : Tmp} {n m : UInt8} (hs : a.tmps[s]? = some (bv n)) (hr : a.tmps[r]? = some (bv m))
    (h : K (a.put (some d) (.slice (some ⟨w.heap.size, 0, none⟩) 2 2)) (w.alloc (.cells #[bv n, bv m] 5))) :
    Oper.wp Try.prog ⟨some d, .buildSlice 22 2 #[(0, .tmp s), (1, .tmp r)], t, p, af, gd⟩ a w K Q := by
  have e1 : a.eval (.tmp s) = bv n := by simp [Act.eval, hs]
  have e2 : a.eval (.tmp r) = bv m := by simp [Act.eval, hr]
  unfold Oper.wp execOp
  simp only [e1, e2, List.map_toArray, List.map_cons, List.map_nil]
  go_simp
  exact h
theorem wp_ssl {a : Act} {w : World} {K : Act → World → Prop} {Q : Exit → Act → World → Prop} {t : TypeId} {p : String} {af : Array Edge} {gd : Option (Nat × Bool)} {x y : Tmp} {g j : Nat} {B : Option Addr} {n c : Nat} {u : Value} (hx : a.tmps[x]? = some (.pointer (some ⟨g, j, none⟩))) (hy : a.tmps[y]? = some (.slice B n c))
    (hc : w.cell? ⟨g, j, none⟩ = some u) (hf : w.frozen? ⟨g, j, none⟩ = false) (h : K a (w.setCell ⟨g, j, none⟩ (.slice B n c))) :
    Oper.wp Try.prog ⟨none, .store 22 (.tmp x) (.tmp y), t, p, af, gd⟩ a w K Q := by
  have e1 : a.eval (.tmp x) = .pointer (some ⟨g, j, none⟩) := by simp [Act.eval, hx]
  have e2 : a.eval (.tmp y) = .slice B n c := by simp [Act.eval, hy]
  unfold Oper.wp execOp
  simp only [e1, e2]
  go_simp
  exact h
/-- A variable's block. -/
def Box (w : World) (g : Nat) (T : TypeId) (v : Value) : Prop := w.heap[g]? = some (.cells #[v] T (0, 0))
theorem Box.cell {w : World} {g : Nat} {T : TypeId} {v : Value} (h : Box w g T v) : w.cell? ⟨g, 0, none⟩ = some v := by rw [cell_of_row _ _ _ _ _ _ h]; rfl
theorem Box.free {w : World} {g : Nat} {T : TypeId} {v : Value} (h : Box w g T v) : w.frozen? ⟨g, 0, none⟩ = false := frozen_of_row w g 0 _ T h
theorem Box.lt {w : World} {g : Nat} {T : TypeId} {v : Value} (h : Box w g T v) : g < w.heap.size := blk_lt h
theorem Box.set {w : World} {g : Nat} {T : TypeId} {v : Value} (h : Box w g T v) (u : Value) : Box (w.setCell ⟨g, 0, none⟩ u) g T u := by
  unfold Box
  rw [setCell_eq_setRow w g 0 #[v] T (0, 0) u h]
  exact setRow_heap w g #[v] _ T (0, 0) h
theorem Box.other {w : World} {g : Nat} {T : TypeId} {v : Value} (h : Box w g T v) {p : Addr} (hp : p.block ≠ g) (u : Value) : Box (w.setCell p u) g T v := by
  unfold Box
  rw [Below.heap_setCell _ _ _ _ (fun e => hp e.symm)]; exact h
theorem Box.below {w w' : World} {g : Nat} {T : TypeId} {v : Value} (h : Box w g T v) (hb : Below w.heap.size w w') : Box w' g T v := blk_below h hb
theorem Box.keep {w w' : World} {g B : Nat} {T : TypeId} {v : Value} (h : Box w g T v) (hb : Below B w w') (hg : g < B) : Box w' g T v := (hb.block g hg).trans h
theorem Box.drew {w : World} {g : Nat} {T : TypeId} {v : Value} (h : Box w g T v) : Box w.drew g T v := h
theorem Box.drewN {w : World} {g : Nat} {T : TypeId} {v : Value} (h : Box w g T v) (n : Nat) : Box (w.drewN n) g T v := h
theorem Box.alloc {w : World} {g : Nat} {T : TypeId} {v : Value} (h : Box w g T v) (o : Obj) : Box (w.alloc o) g T v := blk_old h
theorem Box.new (w : World) (T : TypeId) (v : Value) : Box (w.alloc (.cells #[v] T)) w.heap.size T v := blk_top rfl
theorem own_far {w : World} {base e size n c go : Nat} {A : Option Addr} {xs : List Value} (h : Own w base e size A n c xs) (hg : go < base) : A.map (·.block) ≠ some go := fun e => by
  have := (h.block go e).1; omega
theorem Own.same {w w' : World} {base e size n c : Nat} {A : Option Addr} {xs : List Value} (h : Own w base e size A n c xs) (hk : ∀ k, A.map (·.block) = some k → w'.heap[k]? = w.heap[k]?) : Own w' base e size A n c xs := by
  obtain ⟨h1, h2⟩ := h
  refine ⟨h1, ?_⟩
  rcases h2 with h2 | ⟨g, cap, cur, hv, hg, hh, r⟩
  · exact Or.inl h2
  · refine Or.inr ⟨g, cap, cur, hv, hg, ?_, r⟩
    injection hv with hA _ _
    rw [hk g (by rw [hA]; rfl)]
    exact hh
end Go.Proofs.Ytefkfglkpebbmac
namespace Go.Proofs.Ytefkfglkpebbmac
open Go.RowKit Go.Maps Go.ChangeMaps Go.MapKept
set_option linter.unusedVariables false
set_option linter.unusedSimpArgs false

def cntS (N : Nat) (S : Nat → Bool) : Nat := ((List.range N).filter S).length
theorem cnt_none (N : Nat) : cntS N (fun _ => false) = 0 := by simp [cntS]
theorem cnt_le (N : Nat) (S : Nat → Bool) : cntS N S ≤ N := by
  have := List.length_filter_le S (List.range N)
  simpa [cntS] using this
theorem cnt_add (N : Nat) (S : Nat → Bool) {k : Nat} (hk : k < N) : cntS N (fun j => S j || j == k) = cntS N S + if S k = true then 0 else 1 := by
  unfold cntS
  induction N with
  | zero => omega
  | succ N ih =>
    rw [List.range_succ, List.filter_append, List.filter_append, List.length_append, List.length_append]
    by_cases e : k = N
    · subst e
      have a1 : (List.range k).filter (fun j => S j || j == k) = (List.range k).filter S := List.filter_congr fun j hj => by
        have : j < k := by simpa using hj
        have : (j == k) = false := by simp; omega
        simp [this]
      rw [a1]
      by_cases hS : S k = true <;> simp [hS]
    · rw [ih (by omega)]
      have : (N == k) = false := by simp; omega
      by_cases hS : S N = true <;> simp [hS, this] <;> omega
/-- Map g holds just those below N that S tells. -/
def SeenAt (w : World) (g N : Nat) (S : Nat → Bool) : Prop :=
  ∃ D : DataW Unit, w.ownsMap Try.prog 3 (plainElem Try.prog 4) g N D ∧ (∀ j, j < N → has D (.int .i64 (j : Int)) = S j) ∧ Maps.size D = cntS N S
theorem SeenAt.lt {w : World} {g N : Nat} {S : Nat → Bool} (h : SeenAt w g N S) : g < w.heap.size := by
  obtain ⟨D, h, _⟩ := h; exact h.lt
theorem SeenAt.keep {w w' : World} {g N : Nat} {S : Nat → Bool} (h : SeenAt w g N S) (e : w'.heap[g]? = w.heap[g]?) : SeenAt w' g N S := by
  obtain ⟨D, ⟨es, clock, hb, r⟩, h2⟩ := h
  exact ⟨D, ⟨es, clock, e.trans hb, r⟩, h2⟩
theorem SeenAt.below {w w' : World} {g N B : Nat} {S : Nat → Bool} (h : SeenAt w g N S) (hb : Below B w w') (hg : g < B) : SeenAt w' g N S := h.keep (hb.block g hg)
theorem SeenAt.setCell {w : World} {g N : Nat} {S : Nat → Bool} (h : SeenAt w g N S) {a : Addr} (ha : g ≠ a.block) (u : Value) : SeenAt (w.setCell a u) g N S := by
  obtain ⟨D, h, h2⟩ := h; exact ⟨D, h.setCell ha u, h2⟩
theorem SeenAt.len {w : World} {g N : Nat} {S : Nat → Bool} (h : SeenAt w g N S) (ty : TypeId) : (Builtin.len_ #[46] ty #[.map (some g)]).run Try.prog w = .ok (.int .i64 (cntS N S : Int)) w := by
  obtain ⟨D, h, _, h3⟩ := h
  rw [← h3]
  exact h.len Try.underlying46 ty
theorem SeenAt.made (w : World) (N : Nat) : SeenAt (w.alloc (.map #[] 0)) w.heap.size N (fun _ => false) :=
  ⟨.map [], (World.ownsMap_made w _ _ _).mono (Nat.zero_le _), fun j _ => rfl, by rw [cnt_none]; rfl⟩
theorem keyLit_int (a : Int) : WideAt.IsKeyLit (.int .i64 a) := by
  first | trivial | exact rfl | simp [WideAt.IsKeyLit]
theorem SeenAt.store {w : World} {g N : Nat} {S : Nat → Bool} (h : SeenAt w g N S) (hN : N < 1000000) {k : Nat} (hk : k < N) :
    ∃ w', (Instr.mapUpdate 46 (.map (some g)) (iv (k : Int)) (.bool true)).run Try.prog w = .ok () w' ∧ SeenAt w' g N (fun j => S j || j == k) ∧ w.mapTurned w' g := by
  obtain ⟨D, h, h2, h3⟩ := h
  have hs := h.size_le
  have ht : Tidy D := h.tidy (int_keyed Try.underlying3)
  have hm : IsMap D := ht.isMap
  have h0 : w.ownsMap Try.prog 3 (plainElem Try.prog 4) g (Maps.size D) D := by
    obtain ⟨es, clock, hb, F, _, e⟩ := h
    refine ⟨es, clock, hb, F, ?_, e⟩
    rw [e]
    simp [Maps.size, length_sorted]
  obtain ⟨w', hrun, r1, r2⟩ := h0.store (int_keyed Try.underlying3) Try.underlying46 (Nat.lt_of_le_of_lt hs (Nat.lt_trans hN (by decide))) (keyOf_int_mk Try.underlying3 (a := (k : Int)) (by simp [Lit.wf, IntKind.min, IntKind.max, IntKind.signed, IntKind.bits]; omega)) (plainElem_bool Try.underlying4 true)
  have hsz : Maps.size (D.put (.int .i64 (k : Int)) (.lit (.bool true))) = cntS N (fun j => S j || j == k) := by
    rw [size_put ht, h2 k hk, cnt_add N S hk, h3]
    split <;> rfl
  refine ⟨w', hrun, ⟨_, ?_, fun j hj => ?_, hsz⟩, r2⟩
  · obtain ⟨es, clock, hb, F, _, e⟩ := r1
    refine ⟨es, clock, hb, F, ?_, e⟩
    have := cnt_le N (fun j => S j || j == k)
    rw [← hsz, e] at this
    simpa [Maps.size, length_sorted] using this
  · by_cases e : j = k
    · subst e
      rw [has_put_same hm (keyLit_int _)]
      simp
    · rw [has_put_other (by intro e2; injection e2 with _ e2; omega), h2 j hj]
      simp [e]
theorem turned_block {w w' : World} {g : Nat} (h : w.mapTurned w' g) {i : Nat} (hi : i ≠ g) : w'.heap[i]? = w.heap[i]? := by
  obtain ⟨es, clock, es', clock', hb, rfl⟩ := h
  exact heap_setBlock_other hb _ hi
theorem turned_size {w w' : World} {g : Nat} (h : w.mapTurned w' g) : w'.heap.size = w.heap.size := by
  obtain ⟨es, clock, es', clock', hb, rfl⟩ := h
  simp [setBlock]
theorem turned_below {w w' : World} {g B : Nat} (h : w.mapTurned w' g) (hB : B ≤ g) : Below B w w' := by
  have h2 := fun i hi => turned_block h (i := i) hi
  have h3 := turned_size h
  obtain ⟨es, clock, es', clock', hb, rfl⟩ := h
  exact ⟨rfl, rfl, rfl, by rw [h3]; exact Nat.le_refl _, fun k hk => h2 k (by omega)⟩
end Go.Proofs.Ytefkfglkpebbmac
namespace Go.Proofs.Ytefkfglkpebbmac
open Go.RowKit
set_option linter.unusedVariables false
set_option linter.unusedSimpArgs false

theorem dc_many {l : List Stp} {old size : Int} (h : 40 < l.length ∨ old < 0 ∨ 64 < old ∨ size < 0 ∨ 64 < size) : deltaCheck l old size = 1 := by unfold deltaCheck; rw [if_pos h]
theorem dc_go {l : List Stp} {old size : Int} (h : ¬ (40 < l.length ∨ old < 0 ∨ 64 < old ∨ size < 0 ∨ 64 < size)) : deltaCheck l old size = stepsCheck old l size := by unfold deltaCheck; rw [if_neg h]
theorem sc_form {o : Stp} {l : List Stp} {old size : Int} (h : ¬ o.form) : stepsCheck old (o :: l) size = 3 := by unfold stepsCheck; rw [if_pos h]
theorem sc_range {o : Stp} {l : List Stp} {old size : Int} (h : o.form) (g : ¬ o.in_ old) : stepsCheck old (o :: l) size = 2 := by unfold stepsCheck; rw [if_neg (by simpa using h), if_pos g]
theorem sc_many {o : Stp} {l : List Stp} {old size : Int} (h : o.form) (g : o.in_ old) (k : size < o.n) : stepsCheck old (o :: l) size = 1 := by unfold stepsCheck; rw [if_neg (by simpa using h), if_neg (by simpa using g), if_pos k]
theorem sc_on {o : Stp} {l : List Stp} {old size : Int} (h : o.form) (g : o.in_ old) (k : ¬ size < o.n) : stepsCheck old (o :: l) size = stepsCheck old l (size - o.n) := by
  conv => lhs; unfold stepsCheck
  rw [if_neg (by simpa using h), if_neg (by simpa using g), if_neg k]
def ScAt (old : Int) (l : List Stp) (size : Int) (k : Nat) (s : Int) : Prop := stepsCheck old (l.drop k) s = stepsCheck old l size
theorem ScAt.here {old size s : Int} {l : List Stp} {k : Nat} (h : ScAt old l size k s) (hk : k < l.length) : stepsCheck old (l[k] :: l.drop (k + 1)) s = stepsCheck old l size := by
  unfold ScAt at h; rwa [List.drop_eq_getElem_cons hk] at h

set_option maxRecDepth 100000 in
set_option maxHeartbeats 4000000 in
theorem deltaCheck_calls (A : Option Addr) (c : Nat) (l : List Stp) (old size : Int) (w : World) (hl : l.length ≤ 1048576) (hr : Sps w A l) :
    Calls Try.prog 19 #[.slice A l.length c, iv old, iv size] w (RetB w (iv (deltaCheck l old size))) := by
  by_cases hm : 40 < l.length ∨ old < 0 ∨ 64 < old ∨ size < 0 ∨ 64 < size
  · have HR := Lib.hid (dc_many hm)
    by_cases h1 : 40 < l.length
    · have h1' : (40 : Int) < (l.length : Int) := by omega
      clear hm h1
      go_enter Try.func19, Try.ntmps19
      go_wp2_with fail
      go_ret
      exact ⟨ret_int HR.out.symm, Below.refl _ _⟩
    have h1' : ¬ (40 : Int) < (l.length : Int) := by omega
    by_cases h2 : old < 0
    · clear hm h1
      go_enter Try.func19, Try.ntmps19
      go_wp2_with fail
      go_ret
      exact ⟨ret_int HR.out.symm, Below.refl _ _⟩
    by_cases h3 : 64 < old
    · clear hm h1
      go_enter Try.func19, Try.ntmps19
      go_wp2_with fail
      go_ret
      exact ⟨ret_int HR.out.symm, Below.refl _ _⟩
    by_cases h4 : size < 0
    · clear hm h1
      go_enter Try.func19, Try.ntmps19
      go_wp2_with fail
      go_ret
      exact ⟨ret_int HR.out.symm, Below.refl _ _⟩
    have h5 : 64 < size := by omega
    clear hm h1
    go_enter Try.func19, Try.ntmps19
    go_wp2_with fail
    go_ret
    exact ⟨ret_int HR.out.symm, Below.refl _ _⟩
  · have HR := Lib.hid (dc_go hm)
    have h1 : ¬ (40 : Int) < (l.length : Int) := by omega
    have h2 : ¬ old < 0 := by omega
    have h3 : ¬ 64 < old := by omega
    have h4 : ¬ size < 0 := by omega
    have h5 : ¬ 64 < size := by omega
    have h6 : l.length ≤ 40 := by omega
    clear hm
    go_enter Try.func19, Try.ntmps19
    go_wp2_with fail
    go_loopw [31, 2] (fun i s wr => ∃ (k : Nat) (z : Int), k ≤ l.length ∧ i = .int .i64 k ∧ s = .int .i64 z ∧ 0 ≤ z ∧ z ≤ 64 ∧ Hid (ScAt old l size k z) ∧ Hid (Below w.heap.size w wr)) (fun i _ _ => l.length - (intOf i).toNat)
    case atStart => exact ⟨0, size, Nat.zero_le _, rfl, rfl, by omega, by omega, Lib.hid (by unfold ScAt; rw [List.drop_zero]), Lib.hid (Below.refl _ _)⟩
    case round =>
      clear h4 h5
      obtain ⟨k, z, hk, rfl, rfl, hz0, hz1, HS, HB⟩ := hrel
      by_cases hlt : k < l.length
      · obtain ⟨b, o, B, cc, rfl, hs, hc0, hc1, hc2, hd1, hd2, -, hi0, hi1⟩ := (hr.stays HB.out).at_ hlt
        have HH := Lib.hid (HS.out.here hlt)
        have hsz := HB.out.size
        clear HS
        unfold I64 at hi0 hi1
        obtain ⟨i00, i01⟩ := hi0
        obtain ⟨i10, i11⟩ := hi1
        generalize hx : l[k] = x at *
        clear hx
        obtain ⟨at_, len, data⟩ := x
        dsimp only at *
        have hdl : 0 ≤ (data.length : Int) := by omega
        by_cases hf : (⟨at_, len, data⟩ : Stp).form
        · by_cases hin : (⟨at_, len, data⟩ : Stp).in_ old
          · have hn : (⟨at_, len, data⟩ : Stp).n = len + data.length := rfl
            have hin' := hin
            unfold Stp.in_ at hin'
            dsimp only at hin'
            obtain ⟨j1, j2, j3⟩ := hin'
            have hf' := hf
            unfold Stp.form at hf'
            dsimp only at hf'
            by_cases hzn : z < len + data.length
            · have HE := Lib.hid (HH.out.symm.trans (sc_many hf hin (by rw [hn]; exact hzn)))
              clear hf hin hn HH
              by_cases e0 : len = 0
              · obtain ⟨rfl, e2, e3⟩ := hf'.1 e0
                subst e0
                have e4 : 1 ≤ data.length := by rcases data with _ | ⟨y, d⟩; exact absurd rfl e2; simp
                have q1 : ((data.length : Int) == 0) = false := by simp; omega
                have q2 : ¬ (64 : Int) < (data.length : Int) := by omega
                clear hf' e2
                go_wp2_with fail
                go_ret
                exact ⟨ret_int (by rw [HR.out, HE.out]), (HB.out.alloc hsz _)⟩
              · have e2 := hf'.2 e0
                subst e2
                have q1 : (len == 0) = false := by simp [e0]
                have q2 : (len != 0) = true := by simp [e0]
                clear hf' e0
                simp only [List.length_nil, Int.ofNat_eq_natCast, Int.natCast_zero, Int.add_zero] at *
                go_wp2_with fail
                go_ret
                exact ⟨ret_int (by rw [HR.out, HE.out]), (HB.out.alloc hsz _)⟩
            · have HE := Lib.hid ((sc_on hf hin (by rw [hn]; exact hzn)).symm.trans HH.out)
              clear hf hin HH
              rw [hn] at HE
              clear hn
              by_cases e0 : len = 0
              · obtain ⟨rfl, e2, e3⟩ := hf'.1 e0
                subst e0
                have e4 : 1 ≤ data.length := by rcases data with _ | ⟨y, d⟩; exact absurd rfl e2; simp
                have q1 : ((data.length : Int) == 0) = false := by simp; omega
                have q2 : ¬ (64 : Int) < (data.length : Int) := by omega
                clear hf' e2
                go_wp2_with fail
                go_roundw
                case rel => exact ⟨k + 1, z - (0 + data.length), by omega, by go_num, by simp, by omega, by omega, HE, Lib.hid (HB.out.alloc hsz _)⟩
                case measure => simp [intOf]; omega
              · have e2 := hf'.2 e0
                subst e2
                have q1 : (len == 0) = false := by simp [e0]
                have q2 : (len != 0) = true := by simp [e0]
                clear hf' e0
                have HE2 : Hid (ScAt old l size (k + 1) (z - len)) := by
                  have := HE.out
                  refine Lib.hid ?_
                  simpa [ScAt] using this
                clear HE
                simp only [List.length_nil, Int.ofNat_eq_natCast, Int.natCast_zero, Int.add_zero] at *
                go_wp2_with fail
                go_roundw
                case rel => exact ⟨k + 1, z - len, by omega, by go_num, by simp, by omega, by omega, HE2, Lib.hid (HB.out.alloc hsz _)⟩
                case measure => simp [intOf]; omega
          · have HE := Lib.hid (HH.out.symm.trans (sc_range hf hin))
            have hf' := hf
            unfold Stp.form at hf'
            dsimp only at hf'
            have hin' := hin
            unfold Stp.in_ at hin'
            dsimp only at hin'
            clear hf hin HH
            have e0 : len ≠ 0 := by
              intro e0
              obtain ⟨e1, _, _⟩ := hf'.1 e0
              omega
            have e2 := hf'.2 e0
            subst e2
            have q1 : (len == 0) = false := by simp [e0]
            have q2 : (len != 0) = true := by simp [e0]
            clear hf' e0
            simp only [List.length_nil, Int.ofNat_eq_natCast, Int.natCast_zero, Int.add_zero] at *
            have HI := Lib.hid hin'
            clear hin'
            by_cases r1 : len < 0
            · go_wp2_with fail
              go_ret
              exact ⟨ret_int (by rw [HR.out, HE.out]), (HB.out.alloc hsz _)⟩
            by_cases r2 : at_ < 0
            · go_wp2_with fail
              go_ret
              exact ⟨ret_int (by rw [HR.out, HE.out]), (HB.out.alloc hsz _)⟩
            by_cases r3 : old < len
            · go_wp2_with fail
              go_ret
              exact ⟨ret_int (by rw [HR.out, HE.out]), (HB.out.alloc hsz _)⟩
            have r4 : old - len < at_ := by have := HI.out; omega
            go_wp2_with fail
            go_ret
            exact ⟨ret_int (by rw [HR.out, HE.out]), (HB.out.alloc hsz _)⟩
        · have HE := Lib.hid (HH.out.symm.trans (sc_form hf))
          have hf' := hf
          unfold Stp.form at hf'
          dsimp only at hf'
          clear hf HH
          by_cases e0 : len = 0
          · subst e0
            by_cases e1 : at_ = 0
            · subst e1
              by_cases e2 : data = []
              · subst e2
                clear hf'
                simp only [List.length_nil, Int.ofNat_eq_natCast, Int.natCast_zero, Int.add_zero] at *
                go_wp2_with fail
                go_ret
                exact ⟨ret_int (by rw [HR.out, HE.out]), (HB.out.alloc hsz _)⟩
              · have e4 : 1 ≤ data.length := by rcases data with _ | ⟨y, d⟩; exact absurd rfl e2; simp
                have e3 : (64 : Int) < (data.length : Int) := by
                  by_cases g : data.length ≤ 64
                  · exact absurd ⟨fun _ => ⟨rfl, e2, g⟩, fun h => absurd rfl h⟩ hf'
                  · omega
                have q1 : ((data.length : Int) == 0) = false := by simp; omega
                clear hf' e2
                go_wp2_with fail
                go_ret
                exact ⟨ret_int (by rw [HR.out, HE.out]), (HB.out.alloc hsz _)⟩
            · have q1 : (at_ != 0) = true := by simp [e1]
              clear hf' e1
              go_wp2_with fail
              go_ret
              exact ⟨ret_int (by rw [HR.out, HE.out]), (HB.out.alloc hsz _)⟩
          · have e2 : data ≠ [] := fun e => hf' ⟨fun h => absurd h e0, fun _ => e⟩
            have e4 : 1 ≤ data.length := by rcases data with _ | ⟨y, d⟩; exact absurd rfl e2; simp
            have q1 : (len == 0) = false := by simp [e0]
            have q2 : (len != 0) = true := by simp [e0]
            have q3 : (0 : Int) < (data.length : Int) := by omega
            clear hf' e0 e2
            go_wp2_with fail
            go_ret
            exact ⟨ret_int (by rw [HR.out, HE.out]), (HB.out.alloc hsz _)⟩
      · obtain rfl : k = l.length := by omega
        have HE : Hid (stepsCheck old l size = if z = 0 then 0 else 3) := by
          have := HS.out
          unfold ScAt at this
          rw [List.drop_length] at this
          rw [← this]; rfl
        clear HS
        by_cases e : z = 0
        · have HF := Lib.hid (HE.out.trans (if_pos e))
          subst e
          go_wp2_with fail
          go_ret
          exact ⟨ret_int (by rw [HR.out, HF.out]), HB.out⟩
        · have HF := Lib.hid (HE.out.trans (if_neg e))
          have q : (z != 0) = true := by simp [e]
          clear e
          go_wp2_with fail
          go_ret
          exact ⟨ret_int (by rw [HR.out, HF.out]), HB.out⟩
end Go.Proofs.Ytefkfglkpebbmac
namespace Go.Proofs.Ytefkfglkpebbmac
open Go.RowKit
set_option linter.unusedVariables false
set_option linter.unusedSimpArgs false

theorem patCheck_bad {p : Pat} (h : ¬ p.range) : patCheck p = 2 := by unfold patCheck; rw [if_pos h]
theorem patCheck_in {p : Pat} (h : p.range) : patCheck p = deltaCheck p.ops 64 p.size := by unfold patCheck; rw [if_neg (by simpa using h)]
set_option maxRecDepth 100000 in
set_option maxHeartbeats 8000000 in
theorem patCheckA_calls (A : Option Addr) (c : Nat) (f t o n sz : Int) (l : List Stp) (w : World) (hl : l.length ≤ 1048576) (hs : Sps w A l) :
    Calls Try.prog 29 #[.agg #[iv f, iv t, iv o, iv n, iv sz, .slice A l.length c]] w (RetB w (iv (patCheck ⟨f, t, o, n, sz, l⟩))) := by
  have hb : Below w.heap.size w (w.alloc (.cells #[iv f, iv t, iv o, iv n, iv sz, .slice A l.length c] 35)) := (Below.refl _ _).alloc (Nat.le_refl _) _
  have HB := Lib.hid hb
  have HC := Lib.hid (deltaCheck_calls A c l 64 sz _ hl (hs.stays hb))
  clear hb hs
  by_cases h0 : f < (1 : Int)
  · have hz := Lib.hid (patCheck_bad (p := ⟨f, t, o, n, sz, l⟩) (by unfold Pat.range; dsimp only; omega))
    clear HC
    go_enter Try.func29, Try.ntmps29
    go_wp2_with fail
    go_ret
    exact ⟨ret_int hz.out.symm, HB.out⟩
  by_cases h1 : (30 : Int) < f
  · have hz := Lib.hid (patCheck_bad (p := ⟨f, t, o, n, sz, l⟩) (by unfold Pat.range; dsimp only; omega))
    clear HC
    go_enter Try.func29, Try.ntmps29
    go_wp2_with fail
    go_ret
    exact ⟨ret_int hz.out.symm, HB.out⟩
  by_cases h2 : t < (1 : Int)
  · have hz := Lib.hid (patCheck_bad (p := ⟨f, t, o, n, sz, l⟩) (by unfold Pat.range; dsimp only; omega))
    clear HC
    go_enter Try.func29, Try.ntmps29
    go_wp2_with fail
    go_ret
    exact ⟨ret_int hz.out.symm, HB.out⟩
  by_cases h3 : (30 : Int) < t
  · have hz := Lib.hid (patCheck_bad (p := ⟨f, t, o, n, sz, l⟩) (by unfold Pat.range; dsimp only; omega))
    clear HC
    go_enter Try.func29, Try.ntmps29
    go_wp2_with fail
    go_ret
    exact ⟨ret_int hz.out.symm, HB.out⟩
  by_cases h4 : o < (0 : Int)
  · have hz := Lib.hid (patCheck_bad (p := ⟨f, t, o, n, sz, l⟩) (by unfold Pat.range; dsimp only; omega))
    clear HC
    go_enter Try.func29, Try.ntmps29
    go_wp2_with fail
    go_ret
    exact ⟨ret_int hz.out.symm, HB.out⟩
  by_cases h5 : (65535 : Int) < o
  · have hz := Lib.hid (patCheck_bad (p := ⟨f, t, o, n, sz, l⟩) (by unfold Pat.range; dsimp only; omega))
    clear HC
    go_enter Try.func29, Try.ntmps29
    go_wp2_with fail
    go_ret
    exact ⟨ret_int hz.out.symm, HB.out⟩
  by_cases h6 : n < (0 : Int)
  · have hz := Lib.hid (patCheck_bad (p := ⟨f, t, o, n, sz, l⟩) (by unfold Pat.range; dsimp only; omega))
    clear HC
    go_enter Try.func29, Try.ntmps29
    go_wp2_with fail
    go_ret
    exact ⟨ret_int hz.out.symm, HB.out⟩
  by_cases h7 : (65535 : Int) < n
  · have hz := Lib.hid (patCheck_bad (p := ⟨f, t, o, n, sz, l⟩) (by unfold Pat.range; dsimp only; omega))
    clear HC
    go_enter Try.func29, Try.ntmps29
    go_wp2_with fail
    go_ret
    exact ⟨ret_int hz.out.symm, HB.out⟩
  have hz := Lib.hid (patCheck_in (p := ⟨f, t, o, n, sz, l⟩) (by unfold Pat.range; dsimp only; omega))
  go_enter Try.func29, Try.ntmps29
  go_wp2_with fail
  refine HC.out.mono ?_
  rintro e w1 ⟨rfl, hb1⟩
  have HB1 := Lib.hid (HB.out.trans (hb1.mono HB.out.size))
  clear hb1
  go_wp2_with fail
  go_ret
  exact ⟨ret_int hz.out.symm, HB1.out⟩
end Go.Proofs.Ytefkfglkpebbmac
namespace Go.Proofs.Ytefkfglkpebbmac
open Go.RowKit
set_option linter.unusedVariables false

/-- The cells of a block (none: no cells). -/
def rowOf (w : World) (g : Nat) : Array Value := match w.heap[g]? with | some (.cells cs _ _) => cs | _ => #[]
/-- The frozen marks of a block. -/
def frOf (w : World) (g : Nat) : Nat × Nat := match w.heap[g]? with | some (.cells _ _ fr) => fr | _ => (0, 0)
/-- How many cells a struct's or an array's type has (others: 0). -/
def aggSz (P : Program) (ty : TypeId) : Nat := match P.underlying ty, P.info? ty with
  | some (.struct _), some i => i.size
  | some (.array _ _), some i => i.size
  | _, _ => 0
/-- Cells put over others from a place on. -/
def splice (cs : Array Value) (o : Nat) (new : Array Value) : Array Value := (cs.toList.take o ++ new.toList ++ cs.toList.drop (o + new.size)).toArray
theorem splice_cons (cs : Array Value) (o : Nat) (v : Value) (r : List Value) (h : o < cs.size) : splice (cs.setIfInBounds o v) (o + 1) r.toArray = splice cs o (v :: r).toArray := by
  unfold splice
  have e : (cs.setIfInBounds o v).toList = cs.toList.take o ++ v :: cs.toList.drop (o + 1) := by
    rw [Array.toList_setIfInBounds, List.set_eq_take_append_cons_drop, if_pos (by simpa using h)]
  have hl : (cs.toList.take o).length = o := by rw [List.length_take]; simp; omega
  rw [e]
  simp only [List.size_toArray, List.length_cons]
  congr 1
  rw [List.take_append, List.drop_append, hl]
  have e1 : (cs.toList.take o).take (o + 1) = cs.toList.take o := List.take_of_length_le (by omega)
  have e2 : (cs.toList.take o).drop (o + 1 + r.length) = [] := List.drop_eq_nil_of_le (by omega)
  rw [e1, e2]
  have e3 : o + 1 - o = 1 := by omega
  have e4 : o + 1 + r.length - o = r.length + 1 := by omega
  rw [e3, e4]
  simp only [List.take_succ_cons, List.take_zero, List.drop_succ_cons, List.drop_drop, List.nil_append]
  have e5 : o + 1 + r.length = o + (r.length + 1) := by omega
  rw [e5]
  simp
theorem splice_nil (cs : Array Value) (o : Nat) : splice cs o #[] = cs := by unfold splice; simp
theorem splice_all (cs new : Array Value) (h : new.size = cs.size) : splice cs 0 new = new := by
  unfold splice
  rw [List.take_zero, List.drop_eq_nil_of_le (by simp; omega)]
  simp

section
variable {P : Program} {w : World} {g o : Nat}
theorem row_blk (h : 0 < (rowOf w g).size) : ∃ t, w.heap[g]? = some (.cells (rowOf w g) t (frOf w g)) := by
  unfold rowOf frOf at *
  split at h
  · rename_i cs t fr hg
    exact ⟨t, by rw [hg]⟩
  · simp at h
theorem row_of_blk {cs : Array Value} {t : TypeId} {fr : Nat × Nat} (h : w.heap[g]? = some (.cells cs t fr)) : rowOf w g = cs := by unfold rowOf; rw [h]
theorem fr_of_blk {cs : Array Value} {t : TypeId} {fr : Nat × Nat} (h : w.heap[g]? = some (.cells cs t fr)) : frOf w g = fr := by unfold frOf; rw [h]
theorem aggSz_pos {ty : TypeId} (h : 0 < aggSz P ty) : ∃ d, P.underlying ty = some d ∧ d.isRow = true ∧ (P.info? ty).map (·.size) = some (aggSz P ty) := by
  unfold aggSz at *
  split at h
  · rename_i h1 h2; exact ⟨_, h1, rfl, by simp [h2]⟩
  · rename_i h1 h2; exact ⟨_, h1, rfl, by simp [h2]⟩
  · omega

theorem rowOf_alloc (w : World) (cs : Array Value) (t : TypeId) (fr : Nat × Nat) (g : Nat) : rowOf (w.alloc (.cells cs t fr)) g = if g = w.heap.size then cs else rowOf w g := by
  by_cases h : g = w.heap.size
  · subst h; rw [if_pos rfl]; exact row_of_blk (heap_alloc_new w _)
  · rw [if_neg h]
    unfold rowOf
    have e : (w.alloc (.cells cs t fr)).heap[g]? = w.heap[g]? := by
      show (w.heap.push _)[g]? = _
      rw [Array.getElem?_push, if_neg h]
    rw [e]
theorem frOf_alloc (w : World) (cs : Array Value) (t : TypeId) (fr : Nat × Nat) (g : Nat) : frOf (w.alloc (.cells cs t fr)) g = if g = w.heap.size then fr else frOf w g := by
  by_cases h : g = w.heap.size
  · subst h; rw [if_pos rfl]; exact fr_of_blk (heap_alloc_new w _)
  · rw [if_neg h]
    unfold frOf
    have e : (w.alloc (.cells cs t fr)).heap[g]? = w.heap[g]? := by
      show (w.heap.push _)[g]? = _
      rw [Array.getElem?_push, if_neg h]
    rw [e]
theorem rowOf_drew (w : World) (g : Nat) : rowOf w.drew g = rowOf w g := by
  have h : w.drew.heap = w.heap := rfl
  unfold rowOf; rw [h]
theorem rowOf_drewN (w : World) (n g : Nat) : rowOf (w.drewN n) g = rowOf w g := by unfold rowOf; simp
theorem frOf_drew (w : World) (g : Nat) : frOf w.drew g = frOf w g := by
  have h : w.drew.heap = w.heap := rfl
  unfold frOf; rw [h]
theorem frOf_drewN (w : World) (n g : Nat) : frOf (w.drewN n) g = frOf w g := by unfold frOf; simp
theorem rowOf_below {w w' : World} {g : Nat} (hg : g < w.heap.size) (hb : Below w.heap.size w w') : rowOf w' g = rowOf w g := by unfold rowOf; rw [hb.block g hg]
theorem frOf_below {w w' : World} {g : Nat} (hg : g < w.heap.size) (hb : Below w.heap.size w w') : frOf w' g = frOf w g := by unfold frOf; rw [hb.block g hg]
theorem row_lt (h : 0 < (rowOf w g).size) : g < w.heap.size := by obtain ⟨t, ht⟩ := row_blk h; exact blk_lt ht

/-- A part of a block is read. -/
theorem loadVar_row {ty : TypeId} (h1 : 0 < aggSz P ty) (h2 : o + aggSz P ty ≤ (rowOf w g).size) :
    (loadVar ty ⟨g, o, none⟩).run P w = .ok (.agg ((rowOf w g).extract o (o + aggSz P ty))) w := by
  obtain ⟨d, hu, hd, hi⟩ := aggSz_pos h1
  obtain ⟨t, ht⟩ := row_blk (w := w) (g := g) (by omega)
  have hr := World.rangeAt_of_block ht o (aggSz P ty)
  have := run_loadVar_mid (P := P) w g o ty _ d hr hu hd (by rw [hi]; simp; omega)
  rw [Array.toArray_toList] at this
  exact this
theorem loadAt_row {ty : TypeId} (h1 : 0 < aggSz P ty) (h2 : o + aggSz P ty ≤ (rowOf w g).size) :
    (Instr.loadAt ty (.pointer (some ⟨g, o, none⟩))).run P w = .ok (.agg ((rowOf w g).extract o (o + aggSz P ty))) w := by
  simp only [Instr.loadAt, Instr.sureAddr, Sem.run_bind, Sem.run_pure, Result.andThen_ok, loadVar_row h1 h2]

theorem setRow_eq {cs : Array Value} {t : TypeId} {fr : Nat × Nat} (h : w.heap[g]? = some (.cells cs t fr)) (new : List Value) (ho : o + new.length ≤ cs.size) :
    w.setCells g o new = w.setRow g (splice cs o new.toArray) := by
  induction new generalizing w o cs with
  | nil =>
    rw [show ([] : List Value).toArray = #[] from rfl, splice_nil, setRow_self w g cs t fr h]
    rfl
  | cons v r ih =>
    simp only [List.length_cons] at ho
    have hs := setCell_eq_setRow w g o cs t fr v h
    show (w.setCell ⟨g, o, none⟩ v).setCells g (o + 1) r = _
    rw [hs]
    have h' : (w.setRow g (cs.setIfInBounds o v)).heap[g]? = some (.cells (cs.setIfInBounds o v) t fr) := setRow_heap w g cs _ t fr h
    rw [ih h' (by simp; omega), setRow_setRow]
    rw [splice_cons cs o v r (by omega)]

/-- A part of a block is written. -/
theorem storeVar_row {ty : TypeId} {cs : Array Value} (h1 : aggSz P ty = cs.size) (h0 : 0 < cs.size) (h2 : o + cs.size ≤ (rowOf w g).size) (hf : frOf w g = (0, 0)) (hc : cs.all (·.oneCell') = true) :
    (storeVar ty ⟨g, o, none⟩ (.agg cs)).run P w = .ok () (w.setRow g (splice (rowOf w g) o cs)) := by
  obtain ⟨d, hu, hd, hi⟩ := aggSz_pos (P := P) (ty := ty) (by omega)
  obtain ⟨t, ht⟩ := row_blk (w := w) (g := g) (by omega)
  rw [hf] at ht
  have hth : w.there g o cs.size := fun j hj => by
    refine ⟨?_, frozen_of_row w g (o + j) _ t ht⟩
    rw [cell_of_row w g (o + j) _ t _ ht, Array.getElem?_eq_getElem (by omega)]
    rfl
  have := run_storeVar_mid (P := P) w g o ty cs hth (by rw [hi, h1]) hc
  rw [this, setRow_eq ht cs.toList (by simpa using h2)]
theorem storeAt_row {ty : TypeId} {cs : Array Value} (h1 : aggSz P ty = cs.size) (h0 : 0 < cs.size) (h2 : o + cs.size ≤ (rowOf w g).size) (hf : frOf w g = (0, 0)) (hc : cs.all (·.oneCell') = true) :
    (Instr.storeAt ty (.pointer (some ⟨g, o, none⟩)) (.agg cs)).run P w = .ok () (w.setRow g (splice (rowOf w g) o cs)) := by
  simp only [Instr.storeAt, Instr.sureAddr, Sem.run_bind, Sem.run_pure, Result.andThen_ok, storeVar_row h1 h0 h2 hf hc]

theorem setRow_alloc (w : World) (cs : Array Value) (t : TypeId) (fr : Nat × Nat) (g : Nat) (new : Array Value) :
    (w.alloc (.cells cs t fr)).setRow g new = if g = w.heap.size then w.alloc (.cells new t fr) else (w.setRow g new).alloc (.cells cs t fr) := by
  by_cases h : g = w.heap.size
  · subst h
    rw [if_pos rfl]
    unfold World.setRow
    simp only [World.alloc]
    congr 1
    apply Array.ext_getElem?
    intro i
    simp only [Array.getElem?_modify, Array.getElem?_push]
    by_cases hi : i = w.heap.size
    · subst hi; simp
    · rw [if_neg (fun e => hi e.symm), if_neg hi, if_neg hi]
  · rw [if_neg h]
    unfold World.setRow
    simp only [World.alloc]
    congr 1
    apply Array.ext_getElem?
    intro i
    simp only [Array.getElem?_modify, Array.getElem?_push, Array.size_modify]
    by_cases hi : i = w.heap.size
    · subst hi; rw [if_neg h]; simp
    · rw [if_neg hi, if_neg hi]
theorem rowOf_setRow (w : World) (g g' : Nat) (new : Array Value) (h : 0 < (rowOf w g).size) : rowOf (w.setRow g new) g' = if g' = g then new else rowOf w g' := by
  by_cases e : g' = g
  · subst e
    obtain ⟨t, ht⟩ := row_blk h
    rw [if_pos rfl, row_of_blk (setRow_heap w g' _ new t _ ht)]
  · rw [if_neg e]
    unfold rowOf
    rw [setRow_other w g g' new e]
theorem frOf_setRow (w : World) (g g' : Nat) (new : Array Value) : frOf (w.setRow g new) g' = frOf w g' := by
  unfold frOf World.setRow
  simp only [Array.getElem?_modify]
  by_cases e : g = g'
  · subst e
    rw [if_pos rfl]
    cases h : w.heap[g]? with
    | none => rfl
    | some o => cases o <;> rfl
  · rw [if_neg e]
theorem rowOf_setCell (w : World) (g g' j : Nat) (v : Value) : rowOf (w.setCell ⟨g, j, none⟩ v) g' = if g' = g then (rowOf w g').setIfInBounds j v else rowOf w g' := by
  unfold rowOf World.setCell
  simp only [Array.getElem?_modify]
  by_cases e : g = g'
  · subst e
    rw [if_pos rfl, if_pos rfl]
    cases h : w.heap[g]? with
    | none => simp
    | some o => cases o <;> simp
  · rw [if_neg e, if_neg (fun h => e h.symm)]
theorem frOf_setCell (w : World) (a : Addr) (g' : Nat) (v : Value) : frOf (w.setCell a v) g' = frOf w g' := by
  unfold frOf World.setCell
  simp only [Array.getElem?_modify]
  by_cases e : a.block = g'
  · subst e
    rw [if_pos rfl]
    cases h : w.heap[a.block]? with
    | none => rfl
    | some o => cases o <;> rfl
  · rw [if_neg e]
/-- One cell of a block. -/
theorem cell_row (h : 0 < (rowOf w g).size) (j : Nat) : w.cell? ⟨g, j, none⟩ = (rowOf w g)[j]? := by
  obtain ⟨t, ht⟩ := row_blk h
  exact cell_of_row w g j _ t _ ht
theorem frozen_row (h : 0 < (rowOf w g).size) (hf : frOf w g = (0, 0)) (j : Nat) : w.frozen? ⟨g, j, none⟩ = false := by
  obtain ⟨t, ht⟩ := row_blk h
  rw [hf] at ht
  exact frozen_of_row w g j _ t ht


/-- What a call leaves of the blocks that were there, as rules. -/
theorem keepB {W0 w1 : World} (hb : Below W0.heap.size W0 w1) {n : Nat} (hn : n = W0.heap.size) :
    (∀ g, g < n → rowOf w1 g = rowOf W0 g) ∧ (∀ g, g < n → frOf w1 g = frOf W0 g) ∧ (∀ g, g < n → ¬ g = w1.heap.size) ∧
    (∀ g j, g < n → w1.cell? ⟨g, j, none⟩ = W0.cell? ⟨g, j, none⟩) ∧ (∀ g j, g < n → w1.frozen? ⟨g, j, none⟩ = W0.frozen? ⟨g, j, none⟩) := by
  subst hn
  exact ⟨fun g h => rowOf_below h hb, fun g h => frOf_below h hb, fun g h e => by have := hb.size; omega, fun g j h => hb.cell (p := ⟨g, j, none⟩) h, fun g j h => hb.frozen (p := ⟨g, j, none⟩) h⟩
theorem cell_setRow (w : World) (g g' j : Nat) (new : Array Value) (h : 0 < (rowOf w g).size) : (w.setRow g new).cell? ⟨g', j, none⟩ = if g' = g then new[j]? else w.cell? ⟨g', j, none⟩ := by
  by_cases e : g' = g
  · subst e
    obtain ⟨t, ht⟩ := row_blk h
    rw [if_pos rfl]
    exact cell_setRow_same w g' j _ new t _ ht
  · rw [if_neg e]
    exact cell_setRow_other w g new ⟨g', j, none⟩ e
theorem frozen_setRow (w : World) (g : Nat) (a : Addr) (new : Array Value) : (w.setRow g new).frozen? a = w.frozen? a := by
  unfold World.frozen? World.setRow
  simp only [Array.getElem?_modify]
  by_cases e : g = a.block
  · subst e
    rw [if_pos rfl]
    cases h : w.heap[a.block]? with
    | none => rfl
    | some o => cases o <;> rfl
  · rw [if_neg e]
theorem below_row {B : Nat} {a w : World} (h : Below B a w) {g : Nat} (hg : B ≤ g) (cs : Array Value) : Below B a (w.setRow g cs) := below_setRow h hg cs

/-- One block that a call leaves as it was, as rules. -/
theorem keep1 {W w' : World} {g : Nat} {cs : Array Value} (hb : Below W.heap.size W w') (hr : rowOf W g = cs) (h0 : 0 < cs.size) (hf : frOf W g = (0, 0)) :
    rowOf w' g = cs ∧ frOf w' g = (0, 0) ∧ ¬ g = w'.heap.size ∧ (∀ j, w'.cell? ⟨g, j, none⟩ = cs[j]?) ∧ (∀ j, w'.frozen? ⟨g, j, none⟩ = false) ∧ g < w'.heap.size := by
  have hlt : g < W.heap.size := row_lt (w := W) (by rw [hr]; exact h0)
  have h1 : rowOf w' g = cs := (rowOf_below hlt hb).trans hr
  have h2 : frOf w' g = (0, 0) := (frOf_below hlt hb).trans hf
  exact ⟨h1, h2, fun e => by have := hb.size; omega, fun j => by rw [cell_row (by rw [h1]; exact h0), h1], fun j => frozen_row (by rw [h1]; exact h0) h2 j, Nat.lt_of_lt_of_le hlt hb.size⟩

/-! Results that lie in cells. -/
theorem loadVar_all {ty : TypeId} {cs : Array Value} (hr : rowOf w g = cs) (hs : aggSz P ty = cs.size) (h0 : 0 < cs.size) : (loadVar ty ⟨g, 0, none⟩).run P w = .ok (.agg cs) w := by
  have := loadVar_row (P := P) (w := w) (g := g) (o := 0) (ty := ty) (by omega) (by rw [hr]; omega)
  rw [this, hr, hs]
  simp
section
variable {fn : Func} {p q u v : Tmp} {ty ty2 : TypeId} {tmps : Array Value} {cs ds : Array Value} {g2 : Nat}
theorem results_c (h : fn.results = #[.cell p ty]) (hp : tmps.getD p undef = .pointer (some ⟨g, 0, none⟩)) (hr : rowOf w g = cs) (hs : aggSz P ty = cs.size) (h0 : 0 < cs.size) :
    (results fn tmps).run P w = .ok (.agg cs) w := by
  have hl := loadVar_all (P := P) hr hs h0
  have hp' : tmps[p]?.getD undef = .pointer (some ⟨g, 0, none⟩) := by simpa using hp
  simp [results, h, hp', asAddr, hl]
theorem results_ct (h : fn.results = #[.cell p ty, .tmp u]) (hp : tmps.getD p undef = .pointer (some ⟨g, 0, none⟩)) (hr : rowOf w g = cs) (hs : aggSz P ty = cs.size) (h0 : 0 < cs.size) :
    (results fn tmps).run P w = .ok (.tuple #[.agg cs, tmps.getD u undef]) w := by
  have hl := loadVar_all (P := P) hr hs h0
  have hp' : tmps[p]?.getD undef = .pointer (some ⟨g, 0, none⟩) := by simpa using hp
  simp [results, h, hp', asAddr, hl]
theorem results_ctt (h : fn.results = #[.cell p ty, .tmp u, .tmp v]) (hp : tmps.getD p undef = .pointer (some ⟨g, 0, none⟩)) (hr : rowOf w g = cs) (hs : aggSz P ty = cs.size) (h0 : 0 < cs.size) :
    (results fn tmps).run P w = .ok (.tuple #[.agg cs, tmps.getD u undef, tmps.getD v undef]) w := by
  have hl := loadVar_all (P := P) hr hs h0
  have hp' : tmps[p]?.getD undef = .pointer (some ⟨g, 0, none⟩) := by simpa using hp
  simp [results, h, hp', asAddr, hl]
theorem results_tc (h : fn.results = #[.tmp u, .cell p ty]) (hp : tmps.getD p undef = .pointer (some ⟨g, 0, none⟩)) (hr : rowOf w g = cs) (hs : aggSz P ty = cs.size) (h0 : 0 < cs.size) :
    (results fn tmps).run P w = .ok (.tuple #[tmps.getD u undef, .agg cs]) w := by
  have hl := loadVar_all (P := P) hr hs h0
  have hp' : tmps[p]?.getD undef = .pointer (some ⟨g, 0, none⟩) := by simpa using hp
  simp [results, h, hp', asAddr, hl]
theorem results_tct (h : fn.results = #[.tmp u, .cell p ty, .tmp v]) (hp : tmps.getD p undef = .pointer (some ⟨g, 0, none⟩)) (hr : rowOf w g = cs) (hs : aggSz P ty = cs.size) (h0 : 0 < cs.size) :
    (results fn tmps).run P w = .ok (.tuple #[tmps.getD u undef, .agg cs, tmps.getD v undef]) w := by
  have hl := loadVar_all (P := P) hr hs h0
  have hp' : tmps[p]?.getD undef = .pointer (some ⟨g, 0, none⟩) := by simpa using hp
  simp [results, h, hp', asAddr, hl]
theorem results_cct (h : fn.results = #[.cell p ty, .cell q ty2, .tmp v]) (hp : tmps.getD p undef = .pointer (some ⟨g, 0, none⟩)) (hr : rowOf w g = cs) (hs : aggSz P ty = cs.size) (h0 : 0 < cs.size)
    (hp2 : tmps.getD q undef = .pointer (some ⟨g2, 0, none⟩)) (hr2 : rowOf w g2 = ds) (hs2 : aggSz P ty2 = ds.size) (h02 : 0 < ds.size) :
    (results fn tmps).run P w = .ok (.tuple #[.agg cs, .agg ds, tmps.getD v undef]) w := by
  have hl := loadVar_all (P := P) hr hs h0
  have hl2 := loadVar_all (P := P) hr2 hs2 h02
  have hp' : tmps[p]?.getD undef = .pointer (some ⟨g, 0, none⟩) := by simpa using hp
  have hp2' : tmps[q]?.getD undef = .pointer (some ⟨g2, 0, none⟩) := by simpa using hp2
  simp [results, h, hp', hp2', asAddr, hl, hl2]
end
set_option linter.unusedSimpArgs false
/-! As the walk meets them: the whole operation. -/
def plainPtr : Value → Bool | .pointer (some ⟨_, _, none⟩) => true | _ => false
def blkOf : Value → Nat | .pointer (some a) => a.block | _ => 0
def offOf : Value → Nat | .pointer (some a) => a.off | _ => 0
def isAggV : Value → Bool | .agg _ => true | _ => false
theorem plainPtr_mk (g o : Nat) : plainPtr (.pointer (some ⟨g, o, none⟩)) = true := by simp [plainPtr, blkOf, offOf, isAggV]
theorem blkOf_mk (g o : Nat) (s : Option Nat) : blkOf (.pointer (some ⟨g, o, s⟩)) = g := by simp [plainPtr, blkOf, offOf, isAggV]
theorem offOf_mk (g o : Nat) (s : Option Nat) : offOf (.pointer (some ⟨g, o, s⟩)) = o := by simp [plainPtr, blkOf, offOf, isAggV]
theorem isAggV_mk (cs : Array Value) : isAggV (.agg cs) = true := by simp [plainPtr, blkOf, offOf, isAggV]
theorem plain_form {v : Value} (h : plainPtr v = true) : v = .pointer (some ⟨blkOf v, offOf v, none⟩) := by
  unfold plainPtr at h
  split at h
  · rfl
  · cases h
/-- Each is one cell. -/
def allOne (cs : Array Value) : Bool := cs.all (·.oneCell')
set_option linter.unusedSimpArgs false
theorem exec_load_row {ev : Operand → Value} {d : Option Tmp} {ty t : TypeId} {x : Operand} {p : String} {e : Array Edge} {gd : Option (Nat × Bool)} (h1 : 0 < aggSz P ty) (hp : plainPtr (ev x) = true)
    (h2 : offOf (ev x) + aggSz P ty ≤ (rowOf w (blkOf (ev x))).size) :
    (execOp ev ⟨d, .load ty x, t, p, e, gd⟩).run P w = .ok (.value (.agg ((rowOf w (blkOf (ev x))).extract (offOf (ev x)) (offOf (ev x) + aggSz P ty)))) w := by
  have hl := loadAt_row (P := P) (w := w) (g := blkOf (ev x)) (o := offOf (ev x)) h1 h2
  rw [← plain_form hp] at hl
  show (do let r ← Instr.loadAt ty (ev x); pure (Next.value r) : Sem Next).run P w = _
  rw [Sem.run_bind, hl]
  rfl
theorem exec_store_row {ev : Operand → Value} {d : Option Tmp} {ty t : TypeId} {x y : Operand} {p : String} {e : Array Edge} {gd : Option (Nat × Bool)} (h0 : 0 < aggSz P ty) (hp : plainPtr (ev x) = true) (hy : isAggV (ev y) = true) (h1 : aggSz P ty = (ev y).cells.size)
    (h2 : offOf (ev x) + (ev y).cells.size ≤ (rowOf w (blkOf (ev x))).size) (hf : frOf w (blkOf (ev x)) = (0, 0)) (hc : allOne (ev y).cells = true) :
    (execOp ev ⟨d, .store ty x y, t, p, e, gd⟩).run P w = .ok .skip (w.setRow (blkOf (ev x)) (splice (rowOf w (blkOf (ev x))) (offOf (ev x)) (ev y).cells)) := by
  obtain ⟨cs, hcs⟩ : ∃ cs, ev y = .agg cs := by
    cases h : ev y <;> simp_all [isAggV]
  have hcc : (ev y).cells = cs := by rw [hcs]; rfl
  rw [hcc] at h1 h2 hc ⊢
  have hl := storeAt_row (P := P) (w := w) (g := blkOf (ev x)) (o := offOf (ev x)) (ty := ty) h1 (by omega) h2 hf hc
  rw [← plain_form hp, ← hcs] at hl
  show (do Instr.storeAt ty (ev x) (ev y); pure Next.skip : Sem Next).run P w = _
  rw [Sem.run_bind, hl]
  rfl
end
@[go_sem] theorem lt_up1 (n : Nat) : (n < n + 1) = True := by simp <;> omega
@[go_sem] theorem lt_up2 (n : Nat) : (n < n + 1 + 1) = True := by simp <;> omega
@[go_sem] theorem lt_up3 (n : Nat) : (n < n + 1 + 1 + 1) = True := by simp <;> omega
@[go_sem] theorem lt_up4 (n : Nat) : (n < n + 1 + 1 + 1 + 1) = True := by simp <;> omega
@[go_sem] theorem lt_up5 (n : Nat) : (n < n + 1 + 1 + 1 + 1 + 1) = True := by simp <;> omega
@[go_sem] theorem lt_up6 (n : Nat) : (n < n + 1 + 1 + 1 + 1 + 1 + 1) = True := by simp <;> omega
@[go_sem] theorem lt_up7 (n : Nat) : (n < n + 1 + 1 + 1 + 1 + 1 + 1 + 1) = True := by simp <;> omega
@[go_sem] theorem lt_up8 (n : Nat) : (n < n + 1 + 1 + 1 + 1 + 1 + 1 + 1 + 1) = True := by simp <;> omega
@[go_sem] theorem lt_up9 (n : Nat) : (n < n + 1 + 1 + 1 + 1 + 1 + 1 + 1 + 1 + 1) = True := by simp <;> omega
@[go_sem] theorem lt_up10 (n : Nat) : (n < n + 1 + 1 + 1 + 1 + 1 + 1 + 1 + 1 + 1 + 1) = True := by simp <;> omega
@[go_sem] theorem lt_up11 (n : Nat) : (n < n + 1 + 1 + 1 + 1 + 1 + 1 + 1 + 1 + 1 + 1 + 1) = True := by simp <;> omega
@[go_sem] theorem lt_up12 (n : Nat) : (n < n + 1 + 1 + 1 + 1 + 1 + 1 + 1 + 1 + 1 + 1 + 1 + 1) = True := by simp <;> omega
@[go_sem] theorem lt_up13 (n : Nat) : (n < n + 1 + 1 + 1 + 1 + 1 + 1 + 1 + 1 + 1 + 1 + 1 + 1 + 1) = True := by simp <;> omega
@[go_sem] theorem lt_up14 (n : Nat) : (n < n + 1 + 1 + 1 + 1 + 1 + 1 + 1 + 1 + 1 + 1 + 1 + 1 + 1 + 1) = True := by simp <;> omega
@[go_sem] theorem lt_up15 (n : Nat) : (n < n + 1 + 1 + 1 + 1 + 1 + 1 + 1 + 1 + 1 + 1 + 1 + 1 + 1 + 1 + 1) = True := by simp <;> omega
@[go_sem] theorem lt_up16 (n : Nat) : (n < n + 1 + 1 + 1 + 1 + 1 + 1 + 1 + 1 + 1 + 1 + 1 + 1 + 1 + 1 + 1 + 1) = True := by simp <;> omega
@[go_sem] theorem lt_up17 (n : Nat) : (n < n + 1 + 1 + 1 + 1 + 1 + 1 + 1 + 1 + 1 + 1 + 1 + 1 + 1 + 1 + 1 + 1 + 1) = True := by simp <;> omega
@[go_sem] theorem lt_up18 (n : Nat) : (n < n + 1 + 1 + 1 + 1 + 1 + 1 + 1 + 1 + 1 + 1 + 1 + 1 + 1 + 1 + 1 + 1 + 1 + 1) = True := by simp <;> omega
@[go_sem] theorem lt_up19 (n : Nat) : (n < n + 1 + 1 + 1 + 1 + 1 + 1 + 1 + 1 + 1 + 1 + 1 + 1 + 1 + 1 + 1 + 1 + 1 + 1 + 1) = True := by simp <;> omega
@[go_sem] theorem lt_up20 (n : Nat) : (n < n + 1 + 1 + 1 + 1 + 1 + 1 + 1 + 1 + 1 + 1 + 1 + 1 + 1 + 1 + 1 + 1 + 1 + 1 + 1 + 1) = True := by simp <;> omega
@[go_sem] theorem lt_up21 (n : Nat) : (n < n + 1 + 1 + 1 + 1 + 1 + 1 + 1 + 1 + 1 + 1 + 1 + 1 + 1 + 1 + 1 + 1 + 1 + 1 + 1 + 1 + 1) = True := by simp <;> omega
@[go_sem] theorem lt_up22 (n : Nat) : (n < n + 1 + 1 + 1 + 1 + 1 + 1 + 1 + 1 + 1 + 1 + 1 + 1 + 1 + 1 + 1 + 1 + 1 + 1 + 1 + 1 + 1 + 1) = True := by simp <;> omega
@[go_sem] theorem lt_up23 (n : Nat) : (n < n + 1 + 1 + 1 + 1 + 1 + 1 + 1 + 1 + 1 + 1 + 1 + 1 + 1 + 1 + 1 + 1 + 1 + 1 + 1 + 1 + 1 + 1 + 1) = True := by simp <;> omega
@[go_sem] theorem lt_up24 (n : Nat) : (n < n + 1 + 1 + 1 + 1 + 1 + 1 + 1 + 1 + 1 + 1 + 1 + 1 + 1 + 1 + 1 + 1 + 1 + 1 + 1 + 1 + 1 + 1 + 1 + 1) = True := by simp <;> omega
@[go_sem] theorem eq_up1 (n : Nat) : (n = n + 1) = False := by simp <;> omega
@[go_sem] theorem up_eq1 (n : Nat) : (n + 1 = n) = False := by simp <;> omega
@[go_sem] theorem eq_up2 (n : Nat) : (n = n + 1 + 1) = False := by simp <;> omega
@[go_sem] theorem up_eq2 (n : Nat) : (n + 1 + 1 = n) = False := by simp <;> omega
@[go_sem] theorem eq_up3 (n : Nat) : (n = n + 1 + 1 + 1) = False := by simp <;> omega
@[go_sem] theorem up_eq3 (n : Nat) : (n + 1 + 1 + 1 = n) = False := by simp <;> omega
@[go_sem] theorem eq_up4 (n : Nat) : (n = n + 1 + 1 + 1 + 1) = False := by simp <;> omega
@[go_sem] theorem up_eq4 (n : Nat) : (n + 1 + 1 + 1 + 1 = n) = False := by simp <;> omega
@[go_sem] theorem eq_up5 (n : Nat) : (n = n + 1 + 1 + 1 + 1 + 1) = False := by simp <;> omega
@[go_sem] theorem up_eq5 (n : Nat) : (n + 1 + 1 + 1 + 1 + 1 = n) = False := by simp <;> omega
@[go_sem] theorem eq_up6 (n : Nat) : (n = n + 1 + 1 + 1 + 1 + 1 + 1) = False := by simp <;> omega
@[go_sem] theorem up_eq6 (n : Nat) : (n + 1 + 1 + 1 + 1 + 1 + 1 = n) = False := by simp <;> omega
@[go_sem] theorem eq_up7 (n : Nat) : (n = n + 1 + 1 + 1 + 1 + 1 + 1 + 1) = False := by simp <;> omega
@[go_sem] theorem up_eq7 (n : Nat) : (n + 1 + 1 + 1 + 1 + 1 + 1 + 1 = n) = False := by simp <;> omega
@[go_sem] theorem eq_up8 (n : Nat) : (n = n + 1 + 1 + 1 + 1 + 1 + 1 + 1 + 1) = False := by simp <;> omega
@[go_sem] theorem up_eq8 (n : Nat) : (n + 1 + 1 + 1 + 1 + 1 + 1 + 1 + 1 = n) = False := by simp <;> omega
@[go_sem] theorem eq_up9 (n : Nat) : (n = n + 1 + 1 + 1 + 1 + 1 + 1 + 1 + 1 + 1) = False := by simp <;> omega
@[go_sem] theorem up_eq9 (n : Nat) : (n + 1 + 1 + 1 + 1 + 1 + 1 + 1 + 1 + 1 = n) = False := by simp <;> omega
@[go_sem] theorem eq_up10 (n : Nat) : (n = n + 1 + 1 + 1 + 1 + 1 + 1 + 1 + 1 + 1 + 1) = False := by simp <;> omega
@[go_sem] theorem up_eq10 (n : Nat) : (n + 1 + 1 + 1 + 1 + 1 + 1 + 1 + 1 + 1 + 1 = n) = False := by simp <;> omega
@[go_sem] theorem eq_up11 (n : Nat) : (n = n + 1 + 1 + 1 + 1 + 1 + 1 + 1 + 1 + 1 + 1 + 1) = False := by simp <;> omega
@[go_sem] theorem up_eq11 (n : Nat) : (n + 1 + 1 + 1 + 1 + 1 + 1 + 1 + 1 + 1 + 1 + 1 = n) = False := by simp <;> omega
@[go_sem] theorem eq_up12 (n : Nat) : (n = n + 1 + 1 + 1 + 1 + 1 + 1 + 1 + 1 + 1 + 1 + 1 + 1) = False := by simp <;> omega
@[go_sem] theorem up_eq12 (n : Nat) : (n + 1 + 1 + 1 + 1 + 1 + 1 + 1 + 1 + 1 + 1 + 1 + 1 = n) = False := by simp <;> omega
@[go_sem] theorem eq_up13 (n : Nat) : (n = n + 1 + 1 + 1 + 1 + 1 + 1 + 1 + 1 + 1 + 1 + 1 + 1 + 1) = False := by simp <;> omega
@[go_sem] theorem up_eq13 (n : Nat) : (n + 1 + 1 + 1 + 1 + 1 + 1 + 1 + 1 + 1 + 1 + 1 + 1 + 1 = n) = False := by simp <;> omega
@[go_sem] theorem eq_up14 (n : Nat) : (n = n + 1 + 1 + 1 + 1 + 1 + 1 + 1 + 1 + 1 + 1 + 1 + 1 + 1 + 1) = False := by simp <;> omega
@[go_sem] theorem up_eq14 (n : Nat) : (n + 1 + 1 + 1 + 1 + 1 + 1 + 1 + 1 + 1 + 1 + 1 + 1 + 1 + 1 = n) = False := by simp <;> omega
@[go_sem] theorem eq_up15 (n : Nat) : (n = n + 1 + 1 + 1 + 1 + 1 + 1 + 1 + 1 + 1 + 1 + 1 + 1 + 1 + 1 + 1) = False := by simp <;> omega
@[go_sem] theorem up_eq15 (n : Nat) : (n + 1 + 1 + 1 + 1 + 1 + 1 + 1 + 1 + 1 + 1 + 1 + 1 + 1 + 1 + 1 = n) = False := by simp <;> omega
@[go_sem] theorem eq_up16 (n : Nat) : (n = n + 1 + 1 + 1 + 1 + 1 + 1 + 1 + 1 + 1 + 1 + 1 + 1 + 1 + 1 + 1 + 1) = False := by simp <;> omega
@[go_sem] theorem up_eq16 (n : Nat) : (n + 1 + 1 + 1 + 1 + 1 + 1 + 1 + 1 + 1 + 1 + 1 + 1 + 1 + 1 + 1 + 1 = n) = False := by simp <;> omega
@[go_sem] theorem eq_up17 (n : Nat) : (n = n + 1 + 1 + 1 + 1 + 1 + 1 + 1 + 1 + 1 + 1 + 1 + 1 + 1 + 1 + 1 + 1 + 1) = False := by simp <;> omega
@[go_sem] theorem up_eq17 (n : Nat) : (n + 1 + 1 + 1 + 1 + 1 + 1 + 1 + 1 + 1 + 1 + 1 + 1 + 1 + 1 + 1 + 1 + 1 = n) = False := by simp <;> omega
@[go_sem] theorem eq_up18 (n : Nat) : (n = n + 1 + 1 + 1 + 1 + 1 + 1 + 1 + 1 + 1 + 1 + 1 + 1 + 1 + 1 + 1 + 1 + 1 + 1) = False := by simp <;> omega
@[go_sem] theorem up_eq18 (n : Nat) : (n + 1 + 1 + 1 + 1 + 1 + 1 + 1 + 1 + 1 + 1 + 1 + 1 + 1 + 1 + 1 + 1 + 1 + 1 = n) = False := by simp <;> omega
@[go_sem] theorem eq_up19 (n : Nat) : (n = n + 1 + 1 + 1 + 1 + 1 + 1 + 1 + 1 + 1 + 1 + 1 + 1 + 1 + 1 + 1 + 1 + 1 + 1 + 1) = False := by simp <;> omega
@[go_sem] theorem up_eq19 (n : Nat) : (n + 1 + 1 + 1 + 1 + 1 + 1 + 1 + 1 + 1 + 1 + 1 + 1 + 1 + 1 + 1 + 1 + 1 + 1 + 1 = n) = False := by simp <;> omega
@[go_sem] theorem eq_up20 (n : Nat) : (n = n + 1 + 1 + 1 + 1 + 1 + 1 + 1 + 1 + 1 + 1 + 1 + 1 + 1 + 1 + 1 + 1 + 1 + 1 + 1 + 1) = False := by simp <;> omega
@[go_sem] theorem up_eq20 (n : Nat) : (n + 1 + 1 + 1 + 1 + 1 + 1 + 1 + 1 + 1 + 1 + 1 + 1 + 1 + 1 + 1 + 1 + 1 + 1 + 1 + 1 = n) = False := by simp <;> omega
@[go_sem] theorem eq_up21 (n : Nat) : (n = n + 1 + 1 + 1 + 1 + 1 + 1 + 1 + 1 + 1 + 1 + 1 + 1 + 1 + 1 + 1 + 1 + 1 + 1 + 1 + 1 + 1) = False := by simp <;> omega
@[go_sem] theorem up_eq21 (n : Nat) : (n + 1 + 1 + 1 + 1 + 1 + 1 + 1 + 1 + 1 + 1 + 1 + 1 + 1 + 1 + 1 + 1 + 1 + 1 + 1 + 1 + 1 = n) = False := by simp <;> omega
@[go_sem] theorem eq_up22 (n : Nat) : (n = n + 1 + 1 + 1 + 1 + 1 + 1 + 1 + 1 + 1 + 1 + 1 + 1 + 1 + 1 + 1 + 1 + 1 + 1 + 1 + 1 + 1 + 1) = False := by simp <;> omega
@[go_sem] theorem up_eq22 (n : Nat) : (n + 1 + 1 + 1 + 1 + 1 + 1 + 1 + 1 + 1 + 1 + 1 + 1 + 1 + 1 + 1 + 1 + 1 + 1 + 1 + 1 + 1 + 1 = n) = False := by simp <;> omega
@[go_sem] theorem eq_up23 (n : Nat) : (n = n + 1 + 1 + 1 + 1 + 1 + 1 + 1 + 1 + 1 + 1 + 1 + 1 + 1 + 1 + 1 + 1 + 1 + 1 + 1 + 1 + 1 + 1 + 1) = False := by simp <;> omega
@[go_sem] theorem up_eq23 (n : Nat) : (n + 1 + 1 + 1 + 1 + 1 + 1 + 1 + 1 + 1 + 1 + 1 + 1 + 1 + 1 + 1 + 1 + 1 + 1 + 1 + 1 + 1 + 1 + 1 = n) = False := by simp <;> omega
@[go_sem] theorem eq_up24 (n : Nat) : (n = n + 1 + 1 + 1 + 1 + 1 + 1 + 1 + 1 + 1 + 1 + 1 + 1 + 1 + 1 + 1 + 1 + 1 + 1 + 1 + 1 + 1 + 1 + 1 + 1) = False := by simp <;> omega
@[go_sem] theorem up_eq24 (n : Nat) : (n + 1 + 1 + 1 + 1 + 1 + 1 + 1 + 1 + 1 + 1 + 1 + 1 + 1 + 1 + 1 + 1 + 1 + 1 + 1 + 1 + 1 + 1 + 1 + 1 = n) = False := by simp <;> omega
/-- A literal of a struct that holds a struct: run behind a name, so that simp brings its parts to their form first. -/
def runBuild (P : Program) (T : TypeId) (parts : Array (Nat × Value)) (w : World) : Result Value := (Instr.build T parts).run P w
/-- Which literals are run so: the type and how many parts. -/
def bigBuild (P : Program) (T : TypeId) (n : Nat) : Prop := ∃ i, P.info? T = some i ∧ 0 < n
theorem exec_build {P : Program} {ev : Operand → Value} {d : Option Tmp} {T t : TypeId} {parts : Array (Nat × Operand)} {p : String} {e : Array Edge} {gd : Option (Nat × Bool)} {w : World} (h : bigBuild P T parts.size) :
    (execOp ev ⟨d, .build T parts, t, p, e, gd⟩).run P w = (runBuild P T (parts.map fun (i, x) => (i, ev x)) w).andThen fun v w' => .ok (.value v) w' := by
  show (do let r ← Instr.build T (parts.map fun (i, x) => (i, ev x)); pure (Next.value r) : Sem Next).run P w = _
  rw [Sem.run_bind]
  rfl
attribute [go_sem ↓] exec_build
attribute [go_sem] cell_setRow frozen_setRow
attribute [go_sem] plainPtr_mk blkOf_mk offOf_mk isAggV_mk rowOf_alloc frOf_alloc rowOf_drew rowOf_drewN frOf_drew frOf_drewN rowOf_setCell frOf_setCell rowOf_setRow frOf_setRow setRow_alloc splice_all
attribute [go_sem ↓] exec_load_row exec_store_row
end Go.Proofs.Ytefkfglkpebbmac
