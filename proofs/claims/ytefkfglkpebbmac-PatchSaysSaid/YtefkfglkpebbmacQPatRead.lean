/- The walk of patch.Read. Printed by gen_patread.py. No conditions. -/
import Derived.Test.YtefkfglkpebbmacQPatRet
import Derived.Test.YtefkfglkpebbmacQDiffRet
import Derived.Test.YtefkfglkpebbmacQPatCheck
import Derived.Test.YtefkfglkpebbmacQPatRows
import Derived.Test.YtefkfglkpebbmacQSumOf
import Derived.Test.YtefkfglkpebbmacQCloneBytes
import Derived.Test.YtefkfglkpebbmacQUnpack
import Derived.Test.YtefkfglkpebbmacQCRowKeep
import Derived.Test.YtefkfglkpebbmacQBase
import Derived.Deep.LoopGhost
namespace Go.Proofs.Ytefkfglkpebbmac
open Go.RowKit
set_option linter.unusedVariables false
set_option linter.unusedSimpArgs false

/-- While a struct's block is made, and written. -/
def allJ (wo : World) (z cs : Array Value) (T : TypeId) (ia ist : Nat) (done : Nat → Bool) (cv : Nat → Value) (w : World) : Prop :=
  if done ist = true then cv ia = .pointer (some ⟨wo.heap.size, 0, none⟩) ∧ w = wo.drew.alloc (.cells cs T)
  else if done ia = true then cv ia = .pointer (some ⟨wo.heap.size, 0, none⟩) ∧ w = wo.drew.alloc (.cells z T)
  else w = wo.drew
theorem allJ.bel {wo : World} {z cs : Array Value} {T : TypeId} {ia ist : Nat} {done : Nat → Bool} {cv : Nat → Value} {w : World} (h : allJ wo z cs T ia ist done cv w) : Below wo.heap.size wo w := by
  unfold allJ at h
  split at h
  · obtain ⟨_, rfl⟩ := h; exact (Below.refl _ _).drew.alloc (Nat.le_refl _) _
  · split at h
    · obtain ⟨_, rfl⟩ := h; exact (Below.refl _ _).drew.alloc (Nat.le_refl _) _
    · subst h; exact (Below.refl _ _).drew
theorem wp_alloc6 {a : Act} {w : World} {K : Act → World → Prop} {Q : Exit → Act → World → Prop} {d : Option Tmp} {t : TypeId} {p : String} {af : Array Edge} {gd : Option (Nat × Bool)}
    (h : K (a.put d (.pointer (some ⟨w.heap.size, 0, none⟩))) (w.alloc (.cells (patA 0 0 0 0 0 none 0 0) 35))) : Oper.wp Try.prog ⟨d, .alloc 35, t, p, af, gd⟩ a w K Q := by
  unfold Oper.wp execOp
  go_simp
  exact h
theorem wp_st6 {a : Act} {w : World} {K : Act → World → Prop} {Q : Exit → Act → World → Prop} {t : TypeId} {p : String} {af : Array Edge} {gd : Option (Nat × Bool)} {x y : Tmp} {g : Nat} {cs new : Array Value} (hx : a.tmps[x]? = some (.pointer (some ⟨g, 0, none⟩))) (hy : a.tmps[y]? = some (.agg new))
    (hr : rowOf w g = cs) (hf : frOf w g = (0, 0)) (hs : cs.size = 6 ∧ new.size = 6 ∧ allOne new = true) (h : K a (w.setRow g new)) : Oper.wp Try.prog ⟨none, .store 35 (.tmp x) (.tmp y), t, p, af, gd⟩ a w K Q := by
  have e1 : a.eval (.tmp x) = .pointer (some ⟨g, 0, none⟩) := by simp [Act.eval, hx]
  have e2 : a.eval (.tmp y) = .agg new := by simp [Act.eval, hy]
  have hst := storeAt_row (P := Try.prog) (w := w) (g := g) (o := 0) (ty := 35) (cs := new) (by rw [aggSzPat, hs.2.1]) (by omega) (by rw [hr]; omega) hf hs.2.2
  rw [hr, splice_all _ _ (by omega)] at hst
  unfold Oper.wp
  simp only [execOp, e1, e2, Sem.run_bind, hst, Result.andThen_ok]
  exact h
theorem blkFacts {w : World} {g : Nat} {cs : Array Value} {T : TypeId} (h : w.heap[g]? = some (.cells cs T (0, 0))) (h0 : 0 < cs.size) : rowOf w g = cs ∧ frOf w g = (0, 0) ∧ (∀ j, w.cell? ⟨g, j, none⟩ = cs[j]?) ∧ (∀ j, w.frozen? ⟨g, j, none⟩ = false) ∧ g < w.heap.size :=
  ⟨row_of_blk h, fr_of_blk h, fun j => cell_of_row w g j _ T _ h, fun j => frozen_of_row w g j _ T h, blk_lt h⟩
theorem set_blk {w : World} {g j : Nat} {cs : Array Value} {T : TypeId} {v : Value} (h : w.heap[g]? = some (.cells cs T (0, 0))) : (w.setCell ⟨g, j, none⟩ v).heap[g]? = some (.cells (cs.setIfInBounds j v) T (0, 0)) := by
  rw [setCell_eq_setRow w g j cs T (0, 0) v h]
  exact setRow_heap w g cs _ T (0, 0) h
theorem set_blk2 {w : World} {g g' j : Nat} {o : Obj} {v : Value} (h : w.heap[g]? = some o) (hn : g' ≠ g) : (w.setCell ⟨g', j, none⟩ v).heap[g]? = some o := by
  rw [Below.heap_setCell _ _ _ _ (fun e => hn e.symm)]; exact h
/-- What is known while steps are read. -/
structure RdAt (wr : World) (g0 : Nat) (f t o n s : Int) (acc : List Stp) (ds : List (Option Addr × Nat)) (A : Option Addr) (c : Nat) : Prop where
  z : wr.heap[g0]? = some (.cells (patA 0 0 0 0 0 none 0 0) 35 (0, 0))
  p : wr.heap[g0 + 1]? = some (.cells (patA f t o n s A acc.length c) 35 (0, 0))
  row : CRow wr (g0 + 2) acc ds A c
  nd : ∀ (i : Nat) (e : Option Addr × Nat), ds[i]? = some e → ∀ k, e.1.map (·.block) = some k → g0 + 2 ≤ k
  le : g0 + 2 ≤ wr.heap.size
  bd : ∀ q ∈ acc, I64 q.at_ ∧ I64 q.len ∧ q.data.length ≤ 140737488351232
theorem RdAt.below {wr w' : World} {g0 : Nat} {f t o n s : Int} {acc : List Stp} {ds : List (Option Addr × Nat)} {A : Option Addr} {c : Nat} (h : RdAt wr g0 f t o n s acc ds A c) (hb : Below wr.heap.size wr w') : RdAt w' g0 f t o n s acc ds A c :=
  ⟨blk_below h.z hb, blk_below h.p hb, h.row.below hb, h.nd, Nat.le_trans h.le hb.size, h.bd⟩
theorem RdAt.push {wr W1 w5 : World} {g0 : Nat} {f t o n s : Int} {acc : List Stp} {ds : List (Option Addr × Nat)} {A A' : Option Addr} {c c' : Nat} {x : Stp} {e : Option Addr × Nat} (h : RdAt wr g0 f t o n s acc ds A c) (hb : Below wr.heap.size wr W1)
    (hown : Own w5 (g0 + 2) 117 3 A' (acc.length + 1) c' (opCells acc ds ++ opCell x e)) (hgr : W1.grownBy w5 (A.map (·.block))) (hbel : Below (g0 + 2) W1 w5) (hor : A'.map (·.block) = A.map (·.block) ∨ A'.map (·.block) = some W1.heap.size)
    (hd : Bts W1 e.1 x.data) (hd2 : x.data.length ≤ e.2) (he : ∀ k, e.1.map (·.block) = some k → wr.heap.size ≤ k ∧ k < W1.heap.size) (hx : I64 x.at_ ∧ I64 x.len ∧ x.data.length ≤ 140737488351232) :
    (∃ ds', RdAt (w5.setCell ⟨g0 + 1, 5, none⟩ (.slice A' (acc.length + 1) c')) g0 f t o n s (acc ++ [x]) ds' A' c') ∧ w5.heap[g0 + 1]? = some (.cells (patA f t o n s A acc.length c) 35 (0, 0)) := by
  have hrow := (h.row.below hb).push hown hgr hor hd hd2 (fun k hk => ⟨fun e2 => by have := (h.row.row.block k e2).2; have := (he k hk).1; omega, (he k hk).2⟩)
  have hz := (hbel.block g0 (by omega)).trans (blk_below h.z hb)
  have hp := (hbel.block (g0 + 1) (by omega)).trans (blk_below h.p hb)
  have hle := h.le
  have hl2 := hb.size
  have hl3 := hbel.size
  have hnd : ∀ (i : Nat) (y : Option Addr × Nat), (ds ++ [e])[i]? = some y → ∀ k, y.1.map (·.block) = some k → g0 + 2 ≤ k := fun i y hy k hk => by
    rcases snoc_at hy with hy | ⟨rfl, rfl⟩
    · exact h.nd i y hy k hk
    · have := (he k hk).1; omega
  refine ⟨⟨ds ++ [e], set_blk2 hz (by omega), ?_, hrow.setOther (own_far hrow.row (by omega)) (fun i y hy e2 => by have := hnd i y hy _ e2; omega) _, hnd, by simp; omega, ?_⟩, hp⟩
  · have := set_blk (j := 5) (v := .slice A' (acc.length + 1) c') hp
    rw [patA_set5] at this
    rw [List.length_append]
    exact this
  · intro q hq
    rcases List.mem_append.1 hq with hq | hq
    · exact h.bd q hq
    · rw [List.mem_singleton.1 hq]; exact hx
theorem aggSzOp : aggSz Try.prog 117 = 3 := by kernel_rfl
theorem wp_alloc3 {a : Act} {w : World} {K : Act → World → Prop} {Q : Exit → Act → World → Prop} {d : Option Tmp} {t : TypeId} {p : String} {af : Array Edge} {gd : Option (Nat × Bool)}
    (h : K (a.put d (.pointer (some ⟨w.heap.size, 0, none⟩))) (w.alloc (.cells #[iv 0, iv 0, .slice none 0 0] 117))) : Oper.wp Try.prog ⟨d, .alloc 117, t, p, af, gd⟩ a w K Q := by
  unfold Oper.wp execOp
  go_simp
  exact h
theorem wp_st3 {a : Act} {w : World} {K : Act → World → Prop} {Q : Exit → Act → World → Prop} {t : TypeId} {p : String} {af : Array Edge} {gd : Option (Nat × Bool)} {x y : Tmp} {g : Nat} {cs new : Array Value} (hx : a.tmps[x]? = some (.pointer (some ⟨g, 0, none⟩))) (hy : a.tmps[y]? = some (.agg new))
    (hr : rowOf w g = cs) (hf : frOf w g = (0, 0)) (hs : cs.size = 3 ∧ new.size = 3 ∧ allOne new = true) (h : K a (w.setRow g new)) : Oper.wp Try.prog ⟨none, .store 117 (.tmp x) (.tmp y), t, p, af, gd⟩ a w K Q := by
  have e1 : a.eval (.tmp x) = .pointer (some ⟨g, 0, none⟩) := by simp [Act.eval, hx]
  have e2 : a.eval (.tmp y) = .agg new := by simp [Act.eval, hy]
  have hst := storeAt_row (P := Try.prog) (w := w) (g := g) (o := 0) (ty := 117) (cs := new) (by rw [aggSzOp, hs.2.1]) (by omega) (by rw [hr]; omega) hf hs.2.2
  rw [hr, splice_all _ _ (by omega)] at hst
  unfold Oper.wp
  simp only [execOp, e1, e2, Sem.run_bind, hst, Result.andThen_ok]
  exact h
/-- A slice's rest from k on: some place, so many bytes. -/
theorem rest_slice {w : World} {ab ao : Nat} {l : List UInt8} {c n m : Nat} {z : Int} (k : Nat) (hz : z = (k : Int)) (hn : n = l.length) (hm : m = l.length - k) (hc : l.length ≤ c) (hk : k ≤ l.length) (hB : Bts w (some ⟨ab, ao, none⟩) l) : ∃ o' c', m ≤ c' ∧ Bts w (some ⟨ab, o', none⟩) (l.drop k) ∧
    ∀ W, (Instr.slice 22 (.slice (some ⟨ab, ao, none⟩) n c) (some (.int .i64 z)) none none).run Try.prog W = .ok (.slice (some ⟨ab, o', none⟩) m c') W := by
  subst hz hn hm
  have h1 : ¬ (l.length : Int) < (k : Int) := by omega
  have h2 : (k : Int) ≤ (l.length : Int) := by omega
  have h3 : (l.length : Int) ≤ (c : Int) := by omega
  have hd := mid_drop hB c k hc
  by_cases e : c = k
  · refine ⟨ao, c - k, by omega, ?_, fun W => ?_⟩
    · rw [if_pos e] at hd; exact hd
    · go_simp
  · refine ⟨ao + k, c - k, by omega, mid_at hB k, fun W => ?_⟩
    go_simp
/-- While bytes are cloned into a step. -/
def cdJ (w2 : World) (g6 n : Nat) (cs : List Value) (ic ist : Nat) (done : Nat → Bool) (cv : Nat → Value) (w : World) : Prop :=
  if done ist = true then ∃ A5 c5 wq, w = wq.setCell ⟨g6, 2, none⟩ (.slice A5 n c5) ∧ Own wq w2.heap.size 5 1 A5 n c5 cs ∧ Below w2.heap.size w2 wq
  else if done ic = true then ∃ A5 c5, cv ic = .slice A5 n c5 ∧ Own w w2.heap.size 5 1 A5 n c5 cs ∧ Below w2.heap.size w2 w
  else w = w2.drew
theorem cdJ.cell1 {w2 : World} {g6 n : Nat} {cs : List Value} {ic ist : Nat} {done : Nat → Bool} {cv : Nat → Value} {w : World} {v : Value} (h : cdJ w2 g6 n cs ic ist done cv w) (hc : g6 < w2.heap.size ∧ w2.cell? ⟨g6, 1, none⟩ = some v) : w.cell? ⟨g6, 1, none⟩ = some v ∧ g6 < w.heap.size := by
  unfold cdJ at h
  split at h
  · obtain ⟨A5, c5, wq, rfl, _, hb⟩ := h
    refine ⟨?_, by simpa using Nat.lt_of_lt_of_le hc.1 hb.size⟩
    rw [World.cell?_setCell_other _ _ _ _ (by simp)]
    exact (hb.cell (p := ⟨g6, 1, none⟩) hc.1).trans hc.2
  · split at h
    · obtain ⟨A5, c5, _, _, hb⟩ := h
      exact ⟨(hb.cell (p := ⟨g6, 1, none⟩) hc.1).trans hc.2, Nat.lt_of_lt_of_le hc.1 hb.size⟩
    · subst h; exact ⟨hc.2, hc.1⟩
theorem shl8 (x : UInt8) : IntKind.i64.wrap ((x.toNat : Int) * 256) = (x.toNat : Int) * 256 := IntWalk.i64_in _ (by have := x.toNat_lt; omega)
theorem patRead_many {b : List UInt8} (h : 400 < b.length) : patRead b = (Pat.zero, 1) := by unfold patRead; rw [if_pos h]
theorem patRead_few {b : List UInt8} (h : b.length < 8) : patRead b = (Pat.zero, 7) := by unfold patRead; rw [if_neg (by omega), if_pos h]
set_option maxRecDepth 100000 in
set_option maxHeartbeats 8000000 in
theorem patRead_short (A : Option Addr) (c : Nat) (b : List UInt8) (w : World) (h : 400 < b.length ∨ b.length < 8) :
    Calls Try.prog 98 #[.slice A b.length c] w (PaRet w (patRead b).1 (patRead b).2) := by
  by_cases h1 : 400 < b.length
  · rw [patRead_many h1]
    have q : (400 : Int) < (b.length : Int) := by omega
    clear h
    go_enter Try.func98, Try.ntmps98
    go_wp2_with fail
    refine bodyPost_ret (results_ct rfl rfl (cs := patA 0 0 0 0 0 none 0 0) (by go_simp) (by go_simp) (by go_simp)) rfl ⟨none, 0, rfl, .const fun v => patIn_zero v, ?_⟩
    repeat (first | exact Below.refl _ _ | refine below_row ?_ (by omega) _ | refine Below.alloc ?_ (by first | omega | (simp <;> omega)) _)
  · have h2 : b.length < 8 := by omega
    rw [patRead_few h2]
    have q : ¬ (400 : Int) < (b.length : Int) := by omega
    have q2 : (b.length : Int) < 8 := by omega
    clear h
    go_enter Try.func98, Try.ntmps98
    go_wp2_with fail
    refine bodyPost_ret (results_ct rfl rfl (cs := patA 0 0 0 0 0 none 0 0) (by go_simp) (by go_simp) (by go_simp)) rfl ⟨none, 0, rfl, .const fun v => patIn_zero v, ?_⟩
    repeat (first | exact Below.refl _ _ | refine below_row ?_ (by omega) _ | refine Below.alloc ?_ (by first | omega | (simp <;> omega)) _)
set_option maxRecDepth 100000 in
set_option maxHeartbeats 8000000 in
theorem patRead_long (A : Option Addr) (c : Nat) (b : List UInt8) (w : World) (hc : b.length ≤ c) (h1 : b.length ≤ 400) (h2 : 8 ≤ b.length) (hB : Bts w A b) :
    Calls Try.prog 98 #[.slice A b.length c] w (PaRet w (patRead b).1 (patRead b).2) := by
  have hB0 := hB
  obtain ⟨ab, ao, rfl, hab, _⟩ := hB 0 (by omega)
  have hx : ∀ k, k < 8 → ∃ x, b.getD k 0 = x ∧ ∀ w1, Below w.heap.size w w1 → w1.cell? ⟨ab, ao + k, none⟩ = some (bv x) := fun k hk => by
    refine ⟨b[k], by rw [List.getD_eq_getElem?_getD, List.getElem?_eq_getElem (by omega)]; rfl, fun w1 hb => ?_⟩
    obtain ⟨b', o', e, hlt, hcc⟩ := (hB.stays hb) k (by omega)
    injection e with e
    injection e with e1 e2
    subst e1 e2
    exact hcc
  obtain ⟨x0, e0x, X00⟩ := hx 0 (by decide)
  have X0w := Lib.hid X00
  have hu0 := x0.toNat_lt
  obtain ⟨x1, e1x, X10⟩ := hx 1 (by decide)
  have X1w := Lib.hid X10
  have hu1 := x1.toNat_lt
  obtain ⟨x2, e2x, X20⟩ := hx 2 (by decide)
  have X2w := Lib.hid X20
  have hu2 := x2.toNat_lt
  obtain ⟨x3, e3x, X30⟩ := hx 3 (by decide)
  have X3w := Lib.hid X30
  have hu3 := x3.toNat_lt
  obtain ⟨x4, e4x, X40⟩ := hx 4 (by decide)
  have X4w := Lib.hid X40
  have hu4 := x4.toNat_lt
  obtain ⟨x5, e5x, X50⟩ := hx 5 (by decide)
  have X5w := Lib.hid X50
  have hu5 := x5.toNat_lt
  obtain ⟨x6, e6x, X60⟩ := hx 6 (by decide)
  have X6w := Lib.hid X60
  have hu6 := x6.toNat_lt
  obtain ⟨x7, e7x, X70⟩ := hx 7 (by decide)
  have X7w := Lib.hid X70
  have hu7 := x7.toNat_lt
  have U0 : Hid (IntKind.i64.wrap (x0.toNat : Int) = (x0.toNat : Int)) := Lib.hid (IntWalk.i64_in _ (by omega))
  have U1 : Hid (IntKind.i64.wrap (x1.toNat : Int) = (x1.toNat : Int)) := Lib.hid (IntWalk.i64_in _ (by omega))
  have U2 : Hid (IntKind.i64.wrap (x2.toNat : Int) = (x2.toNat : Int)) := Lib.hid (IntWalk.i64_in _ (by omega))
  have U3 : Hid (IntKind.i64.wrap (x3.toNat : Int) = (x3.toNat : Int)) := Lib.hid (IntWalk.i64_in _ (by omega))
  have U4 : Hid (IntKind.i64.wrap (x4.toNat : Int) = (x4.toNat : Int)) := Lib.hid (IntWalk.i64_in _ (by omega))
  have U5 : Hid (IntKind.i64.wrap (x5.toNat : Int) = (x5.toNat : Int)) := Lib.hid (IntWalk.i64_in _ (by omega))
  have U6 : Hid (IntKind.i64.wrap (x6.toNat : Int) = (x6.toNat : Int)) := Lib.hid (IntWalk.i64_in _ (by omega))
  have U7 : Hid (IntKind.i64.wrap (x7.toNat : Int) = (x7.toNat : Int)) := Lib.hid (IntWalk.i64_in _ (by omega))
  have N0 : Hid (¬ b = []) := Lib.hid (fun e => by rw [e] at h2; simp at h2)
  have N1 : Hid (¬ (b.length : Int) ≤ 1) := Lib.hid (by omega)
  have N2 : Hid (¬ (b.length : Int) ≤ 2) := Lib.hid (by omega)
  have N3 : Hid (¬ (b.length : Int) ≤ 3) := Lib.hid (by omega)
  have N4 : Hid (¬ (b.length : Int) ≤ 4) := Lib.hid (by omega)
  have N5 : Hid (¬ (b.length : Int) ≤ 5) := Lib.hid (by omega)
  have N6 : Hid (¬ (b.length : Int) ≤ 6) := Lib.hid (by omega)
  have N7 : Hid (¬ (b.length : Int) ≤ 7) := Lib.hid (by omega)
  have S2 : Hid (IntKind.i64.wrap ((x2.toNat : Int) * 256) = (x2.toNat : Int) * 256) := Lib.hid (shl8 x2)
  have O2 : Hid (bits .or .i64 ((x2.toNat : Int) * 256) (x3.toNat : Int) = (x2.toNat : Int) * 256 + (x3.toNat : Int)) := Lib.hid (or8 x2 x3)
  have S4 : Hid (IntKind.i64.wrap ((x4.toNat : Int) * 256) = (x4.toNat : Int) * 256) := Lib.hid (shl8 x4)
  have O4 : Hid (bits .or .i64 ((x4.toNat : Int) * 256) (x5.toNat : Int) = (x4.toNat : Int) * 256 + (x5.toNat : Int)) := Lib.hid (or8 x4 x5)
  have HX := Lib.hid hx
  have HZ : Hid (¬ patA 0 0 0 0 0 none 0 0 = #[]) := Lib.hid (by simp [patA])
  have HB0 := Lib.hid hB0
  clear hx hB hB0 X00 X10 X20 X30 X40 X50 X60 X70
  have q1 : ¬ (400 : Int) < (b.length : Int) := by omega
  have q2 : ¬ (b.length : Int) < 8 := by omega
  have HBA := Lib.hid ((Below.refl w.heap.size w).alloc (Nat.le_refl _) (.cells (patA 0 0 0 0 0 none 0 0) 35))
  go_enter Try.func98, Try.ntmps98
  go_wp2_with fail
  obtain ⟨wo, hwo⟩ : ∃ wo, w.alloc (.cells (patA 0 0 0 0 0 none 0 0) 35) = wo := ⟨_, rfl⟩
  rw [hwo]
  have hwz : wo.heap.size = w.heap.size + 1 := by rw [← hwo]; simp
  have HBo : Hid (Below w.heap.size w wo) := Lib.hid (hwo ▸ HBA.out)
  have HG0 : Hid (wo.heap[w.heap.size]? = some (.cells (patA 0 0 0 0 0 none 0 0) 35 (0, 0))) := Lib.hid (hwo ▸ blk_top rfl)
  have X0 : Hid (∀ w1, Below wo.heap.size wo w1 → w1.cell? ⟨ab, ao, none⟩ = some (bv x0)) := Lib.hid (fun w1 h => X0w.out w1 (HBo.out.trans (h.mono (by omega))))
  have X1 : Hid (∀ w1, Below wo.heap.size wo w1 → w1.cell? ⟨ab, ao + 1, none⟩ = some (bv x1)) := Lib.hid (fun w1 h => X1w.out w1 (HBo.out.trans (h.mono (by omega))))
  have X2 : Hid (∀ w1, Below wo.heap.size wo w1 → w1.cell? ⟨ab, ao + 2, none⟩ = some (bv x2)) := Lib.hid (fun w1 h => X2w.out w1 (HBo.out.trans (h.mono (by omega))))
  have X3 : Hid (∀ w1, Below wo.heap.size wo w1 → w1.cell? ⟨ab, ao + 3, none⟩ = some (bv x3)) := Lib.hid (fun w1 h => X3w.out w1 (HBo.out.trans (h.mono (by omega))))
  have X4 : Hid (∀ w1, Below wo.heap.size wo w1 → w1.cell? ⟨ab, ao + 4, none⟩ = some (bv x4)) := Lib.hid (fun w1 h => X4w.out w1 (HBo.out.trans (h.mono (by omega))))
  have X5 : Hid (∀ w1, Below wo.heap.size wo w1 → w1.cell? ⟨ab, ao + 5, none⟩ = some (bv x5)) := Lib.hid (fun w1 h => X5w.out w1 (HBo.out.trans (h.mono (by omega))))
  have X6 : Hid (∀ w1, Below wo.heap.size wo w1 → w1.cell? ⟨ab, ao + 6, none⟩ = some (bv x6)) := Lib.hid (fun w1 h => X6w.out w1 (HBo.out.trans (h.mono (by omega))))
  have X7 : Hid (∀ w1, Below wo.heap.size wo w1 → w1.cell? ⟨ab, ao + 7, none⟩ = some (bv x7)) := Lib.hid (fun w1 h => X7w.out w1 (HBo.out.trans (h.mono (by omega))))
  clear hwo HBA
  generalize hg0 : w.heap.size = g0 at *
  have HBE := Lib.hid hg0
  clear hg0
  refine wp_region_free (by kernel_rfl) (some 16 :: some 17 :: some 18 :: some 19 :: some 20 :: some 21 :: some 22 :: some 23 :: some 24 :: some 25 :: some 26 :: some 27 :: some 28 :: some 29 :: some 30 :: some 31 :: some 32 :: some 33 :: some 34 :: some 35 :: some 36 :: some 37 :: some 38 :: some 39 :: some 40 :: some 41 :: some 42 :: some 43 :: some 44 :: some 45 :: some 46 :: some 47 :: some 48 :: some 4 :: none :: []) (false :: false :: false :: false :: false :: false :: false :: false :: false :: false :: false :: false :: false :: false :: false :: false :: false :: false :: false :: false :: false :: false :: false :: false :: false :: false :: false :: false :: false :: false :: false :: false :: false :: true :: true :: []) (.slice (some ⟨ab, ao, none⟩) b.length c :: .pointer (some ⟨ab, ao, none⟩) :: bv x0 :: .int .i64 (x0.toNat : Int) :: .slice (some ⟨ab, ao, none⟩) b.length c :: .pointer (some ⟨ab, ao + 1, none⟩) :: bv x1 :: .int .i64 (x1.toNat : Int) :: .slice (some ⟨ab, ao, none⟩) b.length c :: .pointer (some ⟨ab, ao + 2, none⟩) :: bv x2 :: .int .i64 (x2.toNat : Int) :: .int .i64 ((x2.toNat : Int) * 256) :: .slice (some ⟨ab, ao, none⟩) b.length c :: .pointer (some ⟨ab, ao + 3, none⟩) :: bv x3 :: .int .i64 (x3.toNat : Int) :: .int .i64 ((x2.toNat : Int) * 256 + (x3.toNat : Int)) :: .slice (some ⟨ab, ao, none⟩) b.length c :: .pointer (some ⟨ab, ao + 4, none⟩) :: bv x4 :: .int .i64 (x4.toNat : Int) :: .int .i64 ((x4.toNat : Int) * 256) :: .slice (some ⟨ab, ao, none⟩) b.length c :: .pointer (some ⟨ab, ao + 5, none⟩) :: bv x5 :: .int .i64 (x5.toNat : Int) :: .int .i64 ((x4.toNat : Int) * 256 + (x5.toNat : Int)) :: .slice (some ⟨ab, ao, none⟩) b.length c :: .pointer (some ⟨ab, ao + 6, none⟩) :: bv x6 :: .int .i64 (x6.toNat : Int) :: .agg (patA (x0.toNat : Int) (x1.toNat : Int) ((x2.toNat : Int) * 256 + (x3.toNat : Int)) ((x4.toNat : Int) * 256 + (x5.toNat : Int)) (x6.toNat : Int) none 0 0) :: undef :: undef :: []) (allJ wo (patA 0 0 0 0 0 none 0 0) (patA (x0.toNat : Int) (x1.toNat : Int) ((x2.toNat : Int) * 256 + (x3.toNat : Int)) ((x4.toNat : Int) * 256 + (x5.toNat : Int)) (x6.toNat : Int) none 0 0) 35 33 34) 116 rfl rfl (by decide +kernel) (by decide +kernel) (by decide +kernel) rfl rfl (by rw [allJ, if_neg (by simp), if_neg (by simp)]) ?_ ?_
  · refine ⟨?_, ?_⟩
    · intro done cv a wq hn hw hcl h hJ
      have e0 := fr_old (t := 0) (v := .slice (some ⟨ab, ao, none⟩) b.length c) h rfl rfl
      exact mx_move (ch_ev e0)
    refine ⟨?_, ?_⟩
    · intro done cv a wq hn hw hcl h hJ
      have e16 := fr_new (i := 0) (t := 16) h (hw 0 (by decide)) rfl rfl rfl
      have hnk := N0.out
      go_simp
    refine ⟨?_, ?_⟩
    · intro done cv a wq hn hw hcl h hJ
      have e17 := fr_new (i := 1) (t := 17) h (hw 1 (by decide)) rfl rfl rfl
      have hx := (X0.out wq hJ.bel)
      go_simp
    refine ⟨?_, ?_⟩
    · intro done cv a wq hn hw hcl h hJ
      have e18 := fr_new (i := 2) (t := 18) h (hw 2 (by decide)) rfl rfl rfl
      have hu := U0.out
      go_simp
    refine ⟨?_, ?_⟩
    · intro done cv a wq hn hw hcl h hJ
      have e0 := fr_old (t := 0) (v := .slice (some ⟨ab, ao, none⟩) b.length c) h rfl rfl
      exact mx_move (ch_ev e0)
    refine ⟨?_, ?_⟩
    · intro done cv a wq hn hw hcl h hJ
      have e20 := fr_new (i := 4) (t := 20) h (hw 4 (by decide)) rfl rfl rfl
      have hnk := N1.out
      go_simp
    refine ⟨?_, ?_⟩
    · intro done cv a wq hn hw hcl h hJ
      have e21 := fr_new (i := 5) (t := 21) h (hw 5 (by decide)) rfl rfl rfl
      have hx := (X1.out wq hJ.bel)
      go_simp
    refine ⟨?_, ?_⟩
    · intro done cv a wq hn hw hcl h hJ
      have e22 := fr_new (i := 6) (t := 22) h (hw 6 (by decide)) rfl rfl rfl
      have hu := U1.out
      go_simp
    refine ⟨?_, ?_⟩
    · intro done cv a wq hn hw hcl h hJ
      have e0 := fr_old (t := 0) (v := .slice (some ⟨ab, ao, none⟩) b.length c) h rfl rfl
      exact mx_move (ch_ev e0)
    refine ⟨?_, ?_⟩
    · intro done cv a wq hn hw hcl h hJ
      have e24 := fr_new (i := 8) (t := 24) h (hw 8 (by decide)) rfl rfl rfl
      have hnk := N2.out
      go_simp
    refine ⟨?_, ?_⟩
    · intro done cv a wq hn hw hcl h hJ
      have e25 := fr_new (i := 9) (t := 25) h (hw 9 (by decide)) rfl rfl rfl
      have hx := (X2.out wq hJ.bel)
      go_simp
    refine ⟨?_, ?_⟩
    · intro done cv a wq hn hw hcl h hJ
      have e26 := fr_new (i := 10) (t := 26) h (hw 10 (by decide)) rfl rfl rfl
      have hu := U2.out
      go_simp
    refine ⟨?_, ?_⟩
    · intro done cv a wq hn hw hcl h hJ
      have e27 := fr_new (i := 11) (t := 27) h (hw 11 (by decide)) rfl rfl rfl
      have hs := S2.out
      go_simp
    refine ⟨?_, ?_⟩
    · intro done cv a wq hn hw hcl h hJ
      have e0 := fr_old (t := 0) (v := .slice (some ⟨ab, ao, none⟩) b.length c) h rfl rfl
      exact mx_move (ch_ev e0)
    refine ⟨?_, ?_⟩
    · intro done cv a wq hn hw hcl h hJ
      have e29 := fr_new (i := 13) (t := 29) h (hw 13 (by decide)) rfl rfl rfl
      have hnk := N3.out
      go_simp
    refine ⟨?_, ?_⟩
    · intro done cv a wq hn hw hcl h hJ
      have e30 := fr_new (i := 14) (t := 30) h (hw 14 (by decide)) rfl rfl rfl
      have hx := (X3.out wq hJ.bel)
      go_simp
    refine ⟨?_, ?_⟩
    · intro done cv a wq hn hw hcl h hJ
      have e31 := fr_new (i := 15) (t := 31) h (hw 15 (by decide)) rfl rfl rfl
      have hu := U3.out
      go_simp
    refine ⟨?_, ?_⟩
    · intro done cv a wq hn hw hcl h hJ
      have e28 := fr_new (i := 12) (t := 28) h (hw 12 (by decide)) rfl rfl rfl; have e32 := fr_new (i := 16) (t := 32) h (hw 16 (by decide)) rfl rfl rfl
      have hs := O2.out
      go_simp
    refine ⟨?_, ?_⟩
    · intro done cv a wq hn hw hcl h hJ
      have e0 := fr_old (t := 0) (v := .slice (some ⟨ab, ao, none⟩) b.length c) h rfl rfl
      exact mx_move (ch_ev e0)
    refine ⟨?_, ?_⟩
    · intro done cv a wq hn hw hcl h hJ
      have e34 := fr_new (i := 18) (t := 34) h (hw 18 (by decide)) rfl rfl rfl
      have hnk := N4.out
      go_simp
    refine ⟨?_, ?_⟩
    · intro done cv a wq hn hw hcl h hJ
      have e35 := fr_new (i := 19) (t := 35) h (hw 19 (by decide)) rfl rfl rfl
      have hx := (X4.out wq hJ.bel)
      go_simp
    refine ⟨?_, ?_⟩
    · intro done cv a wq hn hw hcl h hJ
      have e36 := fr_new (i := 20) (t := 36) h (hw 20 (by decide)) rfl rfl rfl
      have hu := U4.out
      go_simp
    refine ⟨?_, ?_⟩
    · intro done cv a wq hn hw hcl h hJ
      have e37 := fr_new (i := 21) (t := 37) h (hw 21 (by decide)) rfl rfl rfl
      have hs := S4.out
      go_simp
    refine ⟨?_, ?_⟩
    · intro done cv a wq hn hw hcl h hJ
      have e0 := fr_old (t := 0) (v := .slice (some ⟨ab, ao, none⟩) b.length c) h rfl rfl
      exact mx_move (ch_ev e0)
    refine ⟨?_, ?_⟩
    · intro done cv a wq hn hw hcl h hJ
      have e39 := fr_new (i := 23) (t := 39) h (hw 23 (by decide)) rfl rfl rfl
      have hnk := N5.out
      go_simp
    refine ⟨?_, ?_⟩
    · intro done cv a wq hn hw hcl h hJ
      have e40 := fr_new (i := 24) (t := 40) h (hw 24 (by decide)) rfl rfl rfl
      have hx := (X5.out wq hJ.bel)
      go_simp
    refine ⟨?_, ?_⟩
    · intro done cv a wq hn hw hcl h hJ
      have e41 := fr_new (i := 25) (t := 41) h (hw 25 (by decide)) rfl rfl rfl
      have hu := U5.out
      go_simp
    refine ⟨?_, ?_⟩
    · intro done cv a wq hn hw hcl h hJ
      have e38 := fr_new (i := 22) (t := 38) h (hw 22 (by decide)) rfl rfl rfl; have e42 := fr_new (i := 26) (t := 42) h (hw 26 (by decide)) rfl rfl rfl
      have hs := O4.out
      go_simp
    refine ⟨?_, ?_⟩
    · intro done cv a wq hn hw hcl h hJ
      have e0 := fr_old (t := 0) (v := .slice (some ⟨ab, ao, none⟩) b.length c) h rfl rfl
      exact mx_move (ch_ev e0)
    refine ⟨?_, ?_⟩
    · intro done cv a wq hn hw hcl h hJ
      have e44 := fr_new (i := 28) (t := 44) h (hw 28 (by decide)) rfl rfl rfl
      have hnk := N6.out
      go_simp
    refine ⟨?_, ?_⟩
    · intro done cv a wq hn hw hcl h hJ
      have e45 := fr_new (i := 29) (t := 45) h (hw 29 (by decide)) rfl rfl rfl
      have hx := (X6.out wq hJ.bel)
      go_simp
    refine ⟨?_, ?_⟩
    · intro done cv a wq hn hw hcl h hJ
      have e46 := fr_new (i := 30) (t := 46) h (hw 30 (by decide)) rfl rfl rfl
      have hu := U6.out
      go_simp
    refine ⟨?_, ?_⟩
    · intro done cv a wq hn hw hcl h hJ
      have e19 := fr_new (i := 3) (t := 19) h (hw 3 (by decide)) rfl rfl rfl; have e23 := fr_new (i := 7) (t := 23) h (hw 7 (by decide)) rfl rfl rfl; have e33 := fr_new (i := 17) (t := 33) h (hw 17 (by decide)) rfl rfl rfl; have e43 := fr_new (i := 27) (t := 43) h (hw 27 (by decide)) rfl rfl rfl; have e47 := fr_new (i := 31) (t := 47) h (hw 31 (by decide)) rfl rfl rfl
      have hz := HZ.out
      go_simp
    refine ⟨?_, ?_⟩
    · intro done cv a wq hn hw hcl h hJ
      have hd2 : ¬ maskB [false, false, false, false, false, false, false, false, false, false, false, false, false, false, false, false, false, false, false, false, false, false, false, false, false, false, false, false, false, false, false, false, false, true, true] done 34 = true := by unfold maskB; rw [show done 34 = false from Bool.eq_false_iff.2 (fun e => by have := hcl 34 _ rfl e 33 (by decide); rw [hn] at this; cases this)]; simp
      have hd1 : ¬ maskB [false, false, false, false, false, false, false, false, false, false, false, false, false, false, false, false, false, false, false, false, false, false, false, false, false, false, false, false, false, false, false, false, false, true, true] done 33 = true := by unfold maskB; rw [hn]; simp
      have hJ2 := hJ
      rw [allJ, if_neg hd2, if_neg hd1] at hJ2
      obtain rfl : wq = wo.drew := hJ2
      refine wp_alloc6 ⟨_, rfl, ?_⟩
      rw [allJ, if_neg (by simp; simpa using hd2), if_pos (by simp)]
      exact ⟨by simp, rfl⟩
    refine ⟨?_, ?_⟩
    · intro done cv a wq hn hw hcl h hJ
      have e4 := fr_cv (i := 33) (t := 4) h (hw 33 (by decide)) rfl rfl; have e48 := fr_new (i := 32) (t := 48) h (hw 32 (by decide)) rfl rfl rfl
      have hd2 : ¬ maskB [false, false, false, false, false, false, false, false, false, false, false, false, false, false, false, false, false, false, false, false, false, false, false, false, false, false, false, false, false, false, false, false, false, true, true] done 34 = true := by unfold maskB; rw [hn]; simp
      have hd1 : maskB [false, false, false, false, false, false, false, false, false, false, false, false, false, false, false, false, false, false, false, false, false, false, false, false, false, false, false, false, false, false, false, false, false, true, true] done 33 = true := by unfold maskB; rw [hw 33 (by decide)]; rfl
      have hJ2 := hJ
      rw [allJ, if_neg hd2, if_pos hd1] at hJ2
      obtain ⟨y1, rfl⟩ := hJ2
      rw [y1] at e4
      refine wp_st6 (g := wo.heap.size) (cs := patA 0 0 0 0 0 none 0 0) e4 e48 (by rw [row_of_blk (blk_top (by simp))]) (by rw [fr_of_blk (blk_top (by simp))]) ⟨by simp [patA], by simp [patA], patA_one _ _ _ _ _ _ _ _⟩ ⟨undef, rfl, ?_⟩
      rw [allJ, if_pos (by simp)]
      exact ⟨by simpa using y1, by rw [setRow_alloc, if_pos (by simp)]⟩
    exact trivial
  · intro dn cv w3 hall hJ
    rw [allJ, if_pos (hall 34 rfl (by decide))] at hJ
    obtain ⟨y1, rfl⟩ := hJ
    simp only [freeAll, putAll_some, putAll_none, putAll_nil, List.getD_cons_zero, List.getD_cons_succ, Bool.false_eq_true, if_true, if_false, reduceIte, Nat.zero_add, Nat.reduceAdd, List.setIfInBounds_toArray, List.set_cons_zero, List.set_cons_succ]
    rw [y1, hwz]
    have hRD : RdAt (wo.drew.alloc (.cells (patA (x0.toNat : Int) (x1.toNat : Int) ((x2.toNat : Int) * 256 + (x3.toNat : Int)) ((x4.toNat : Int) * 256 + (x5.toNat : Int)) (x6.toNat : Int) none 0 0) 35)) g0 (x0.toNat : Int) (x1.toNat : Int) ((x2.toNat : Int) * 256 + (x3.toNat : Int)) ((x4.toNat : Int) * 256 + (x5.toNat : Int)) (x6.toNat : Int) [] [] none 0 :=
      ⟨blk_old (w := wo.drew) HG0.out, blk_top (by simp; omega), CRow.nil _ _, fun i e h => by simp at h, by simp; omega, fun q h => by cases h⟩
    have HRD := Lib.hid hRD
    have HBL : Hid (Below g0 w (wo.drew.alloc (.cells (patA (x0.toNat : Int) (x1.toNat : Int) ((x2.toNat : Int) * 256 + (x3.toNat : Int)) ((x4.toNat : Int) * 256 + (x5.toNat : Int)) (x6.toNat : Int) none 0 0) 35))) := Lib.hid (HBo.out.drew.alloc (by simp; omega) _)
    have hx7 := X7.out (wo.drew.alloc (.cells (patA (x0.toNat : Int) (x1.toNat : Int) ((x2.toNat : Int) * 256 + (x3.toNat : Int)) ((x4.toNat : Int) * 256 + (x5.toNat : Int)) (x6.toNat : Int) none 0 0) 35)) ((Below.refl _ _).drew.alloc (Nat.le_refl _) _)
    have n7 := N7.out
    have u7 := U7.out
    clear hRD
    generalize wo.drew.alloc (.cells (patA (x0.toNat : Int) (x1.toNat : Int) ((x2.toNat : Int) * 256 + (x3.toNat : Int)) ((x4.toNat : Int) * 256 + (x5.toNat : Int)) (x6.toNat : Int) none 0 0) 35) = wL at *
    obtain ⟨o8, c8, hc8, hB8, hsl8⟩ := rest_slice (z := 8) 8 rfl rfl rfl hc h2 HB0.out
    have HB8 := Lib.hid hB8
    obtain ⟨N, hN⟩ : ∃ N, x7.toNat = N := ⟨_, rfl⟩
    rw [hN] at u7 hu7
    obtain ⟨R, hRR⟩ : ∃ R, readOps N (b.drop 8) [] = R := ⟨_, rfl⟩
    have HRR := Lib.hid hRR
    have HPR : Hid (patRead b = readDone b R) := Lib.hid (by unfold patRead; rw [if_neg (by omega), if_neg (by omega), e7x, hN, hRR])
    have HHEAD : Hid (∀ ops, headPat b ops = ⟨(x0.toNat : Int), (x1.toNat : Int), (x2.toNat : Int) * 256 + (x3.toNat : Int), (x4.toNat : Int) * 256 + (x5.toNat : Int), (x6.toNat : Int), ops⟩) := Lib.hid (fun ops => by unfold headPat; rw [e0x, e1x, e2x, e3x, e4x, e5x, e6x])
    have HFB : Hid (0 ≤ (x0.toNat : Int) ∧ (x0.toNat : Int) ≤ 255 ∧ 0 ≤ (x1.toNat : Int) ∧ (x1.toNat : Int) ≤ 255 ∧ 0 ≤ (x2.toNat : Int) * 256 + (x3.toNat : Int) ∧ (x2.toNat : Int) * 256 + (x3.toNat : Int) ≤ 65535 ∧ 0 ≤ (x4.toNat : Int) * 256 + (x5.toNat : Int) ∧ (x4.toNat : Int) * 256 + (x5.toNat : Int) ≤ 65535 ∧ 0 ≤ (x6.toNat : Int) ∧ (x6.toNat : Int) ≤ 255) := Lib.hid (by omega)
    generalize patRead b = pr at *
    clear hRR hB8 hall y1 e0x e1x e2x e3x e4x e5x e6x e7x hu0 hu1 hu2 hu3 hu4 hu5 hu6 X0 X1 X2 X3 X4 X5 X6 X7 X0w X1w X2w X3w X4w X5w X6w X7w U0 U1 U2 U3 U4 U5 U6 U7 N0 N1 N2 N3 N4 N5 N6 N7 S2 S4 O2 O4 HX HZ
    generalize (x2.toNat : Int) * 256 + (x3.toNat : Int) = p2 at *
    generalize (x4.toNat : Int) * 256 + (x5.toNat : Int) = p3 at *
    generalize (x0.toNat : Int) = p0 at *
    generalize (x1.toNat : Int) = p1 at *
    generalize (x6.toNat : Int) = p4 at *
    go_wp2_with fail
    go_loopw [0, 56] (fun v i wr => ∃ (k : Nat) (rest : List UInt8) (acc : List Stp) (ds : List (Option Addr × Nat)) (o1 c1 : Nat) (A : Option Addr) (c0 : Nat), v = .slice (some ⟨ab, o1, none⟩) rest.length c1 ∧ i = .int .i64 (k : Int) ∧ k ≤ N ∧ rest.length ≤ c1 ∧ rest.length ≤ 400 ∧ acc.length ≤ 255 ∧ Hid (acc.length = k) ∧ Hid (readOps (N - k) rest acc = R) ∧ Hid (Bts w (some ⟨ab, o1, none⟩) rest) ∧ Hid (RdAt wr g0 p0 p1 p2 p3 p4 acc ds A c0) ∧ Hid (Below g0 w wr)) (fun _ i _ => N - (intOf i).toNat)
    case atStart => exact ⟨0, b.drop 8, [], [], o8, c8, none, 0, by rw [List.length_drop], rfl, Nat.zero_le _, by rw [List.length_drop]; exact hc8, by rw [List.length_drop]; omega, by simp, Lib.hid rfl, HRR, HB8, HRD, HBL⟩
    case round =>
      clear HRD HBL HB8 hx7 HRR hsl8 hc8
      rename World => wr
      obtain ⟨k, rest, acc, ds, o1, c1, A, c0, rfl, rfl, hk, hrc, hr4, hacc, HAL, HE, HBT, HRDX, HB⟩ := hrel
      have hgz := HRDX.out.le
      by_cases hkN : k < N
      · have dl : decide ((k : Int) < (N : Int)) = true := decide_eq_true (by omega)
        by_cases hr2 : rest.length < 2
        · obtain ⟨z1, z2, z3, z4, z5⟩ := blkFacts HRDX.out.z (by simp [patA])
          have d2 : decide ((rest.length : Int) < 2) = true := decide_eq_true (by omega)
          have hz : pr = (Pat.zero, 7) := by
            obtain ⟨m, hm⟩ : ∃ m, N - k = m + 1 := ⟨N - k - 1, by omega⟩
            rw [HPR.out, ← HE.out, hm, readOps_short hr2]; unfold readDone; rw [if_pos (by decide)]
          have HZZ := Lib.hid hz
          clear hz
          go_wp2_with fail
          refine bodyPost_ret (results_ct rfl rfl (cs := patA 0 0 0 0 0 none 0 0) (by go_simp) (by go_simp) (by go_simp)) rfl ?_
          rw [HZZ.out]
          exact ⟨none, 0, rfl, .const fun v => patIn_zero v, HBE.out.symm ▸ below_row HB.out (Nat.le_refl _) _⟩
        · obtain ⟨x, y, r, rfl⟩ : ∃ x y r, rest = x :: y :: r := by
            rcases rest with _ | ⟨x, _ | ⟨y, r⟩⟩
            · simp at hr2
            · simp at hr2
            · exact ⟨x, y, r, rfl⟩
          simp only [List.length_cons] at *
          have d2 : decide (((r.length + 1 + 1 : Nat) : Int) < 2) = false := decide_eq_false (by omega)
          have hbw : Below w.heap.size w wr := HBE.out ▸ HB.out
          have XA : Hid (∀ w1, Below wr.heap.size wr w1 → w1.cell? ⟨ab, o1, none⟩ = some (bv x)) := Lib.hid (fun w1 h => by
            obtain ⟨b', o', e, hlt, hcc⟩ := ((HBT.out.stays hbw).stays h) 0 (by simp)
            injection e with e
            injection e with e1 e2
            subst e1 e2
            simpa using hcc)
          have YA : Hid (∀ w1, Below wr.heap.size wr w1 → w1.cell? ⟨ab, o1 + 1, none⟩ = some (bv y)) := Lib.hid (fun w1 h => by
            obtain ⟨b', o', e, hlt, hcc⟩ := ((HBT.out.stays hbw).stays h) 1 (by simp)
            injection e with e
            injection e with e1 e2
            subst e1 e2
            simpa using hcc)
          have hxl := x.toNat_lt
          have hyl := y.toNat_lt
          have UX : Hid (IntKind.i64.wrap (x.toNat : Int) = (x.toNat : Int)) := Lib.hid (IntWalk.i64_in _ (by omega))
          have UY : Hid (IntKind.i64.wrap (y.toNat : Int) = (y.toNat : Int)) := Lib.hid (IntWalk.i64_in _ (by omega))
          have NB0 : Hid (¬ (r.length : Int) + 1 + 1 ≤ 0) := Lib.hid (by omega)
          have NB1 : Hid (¬ (r.length : Int) + 1 + 1 ≤ 1) := Lib.hid (by omega)
          clear hbw
          go_wp2_with fail
          refine wp_region_free (by kernel_rfl) (some 62 :: some 63 :: some 64 :: some 65 :: some 66 :: some 67 :: some 68 :: some 69 :: some 70 :: some 6 :: none :: []) (false :: false :: false :: false :: false :: false :: false :: false :: false :: true :: true :: []) (.slice (some ⟨ab, o1, none⟩) (r.length + 1 + 1) c1 :: .pointer (some ⟨ab, o1, none⟩) :: bv x :: .int .i64 (x.toNat : Int) :: .slice (some ⟨ab, o1, none⟩) (r.length + 1 + 1) c1 :: .pointer (some ⟨ab, o1 + 1, none⟩) :: bv y :: .int .i64 (y.toNat : Int) :: .agg #[.int .i64 (x.toNat : Int), .int .i64 (y.toNat : Int), .slice none 0 0] :: undef :: undef :: []) (allJ wr #[iv 0, iv 0, .slice none 0 0] #[.int .i64 (x.toNat : Int), .int .i64 (y.toNat : Int), .slice none 0 0] 117 9 10) 116 rfl rfl (by decide +kernel) (by decide +kernel) (by decide +kernel) rfl rfl (by rw [allJ, if_neg (by simp), if_neg (by simp)]) ?_ ?_
          · refine ⟨?_, ?_⟩
            · intro done cv a wq hn hw hcl h hJ
              have e0 := fr_old (t := 0) (v := .slice (some ⟨ab, o1, none⟩) (r.length + 1 + 1) c1) h rfl rfl
              exact mx_move (ch_ev e0)
            refine ⟨?_, ?_⟩
            · intro done cv a wq hn hw hcl h hJ
              have e62 := fr_new (i := 0) (t := 62) h (hw 0 (by decide)) rfl rfl rfl
              have nb := NB0.out
              go_simp
            refine ⟨?_, ?_⟩
            · intro done cv a wq hn hw hcl h hJ
              have e63 := fr_new (i := 1) (t := 63) h (hw 1 (by decide)) rfl rfl rfl
              have hx := XA.out wq hJ.bel
              go_simp
            refine ⟨?_, ?_⟩
            · intro done cv a wq hn hw hcl h hJ
              have e64 := fr_new (i := 2) (t := 64) h (hw 2 (by decide)) rfl rfl rfl
              have hu := UX.out
              go_simp
            refine ⟨?_, ?_⟩
            · intro done cv a wq hn hw hcl h hJ
              have e0 := fr_old (t := 0) (v := .slice (some ⟨ab, o1, none⟩) (r.length + 1 + 1) c1) h rfl rfl
              exact mx_move (ch_ev e0)
            refine ⟨?_, ?_⟩
            · intro done cv a wq hn hw hcl h hJ
              have e66 := fr_new (i := 4) (t := 66) h (hw 4 (by decide)) rfl rfl rfl
              have nb := NB1.out
              go_simp
            refine ⟨?_, ?_⟩
            · intro done cv a wq hn hw hcl h hJ
              have e67 := fr_new (i := 5) (t := 67) h (hw 5 (by decide)) rfl rfl rfl
              have hx := YA.out wq hJ.bel
              go_simp
            refine ⟨?_, ?_⟩
            · intro done cv a wq hn hw hcl h hJ
              have e68 := fr_new (i := 6) (t := 68) h (hw 6 (by decide)) rfl rfl rfl
              have hu := UY.out
              go_simp
            refine ⟨?_, ?_⟩
            · intro done cv a wq hn hw hcl h hJ
              have e65 := fr_new (i := 3) (t := 65) h (hw 3 (by decide)) rfl rfl rfl; have e69 := fr_new (i := 7) (t := 69) h (hw 7 (by decide)) rfl rfl rfl
              go_simp
            refine ⟨?_, ?_⟩
            · intro done cv a wq hn hw hcl h hJ
              have hd2 : ¬ maskB [false, false, false, false, false, false, false, false, false, true, true] done 10 = true := by unfold maskB; rw [show done 10 = false from Bool.eq_false_iff.2 (fun e => by have := hcl 10 _ rfl e 9 (by decide); rw [hn] at this; cases this)]; simp
              have hd1 : ¬ maskB [false, false, false, false, false, false, false, false, false, true, true] done 9 = true := by unfold maskB; rw [hn]; simp
              have hJ2 := hJ
              rw [allJ, if_neg hd2, if_neg hd1] at hJ2
              obtain rfl : wq = wr.drew := hJ2
              refine wp_alloc3 ⟨_, rfl, ?_⟩
              rw [allJ, if_neg (by simp; simpa using hd2), if_pos (by simp)]
              exact ⟨by simp, rfl⟩
            refine ⟨?_, ?_⟩
            · intro done cv a wq hn hw hcl h hJ
              have e6 := fr_cv (i := 9) (t := 6) h (hw 9 (by decide)) rfl rfl; have e70 := fr_new (i := 8) (t := 70) h (hw 8 (by decide)) rfl rfl rfl
              have hd2 : ¬ maskB [false, false, false, false, false, false, false, false, false, true, true] done 10 = true := by unfold maskB; rw [hn]; simp
              have hd1 : maskB [false, false, false, false, false, false, false, false, false, true, true] done 9 = true := by unfold maskB; rw [hw 9 (by decide)]; rfl
              have hJ2 := hJ
              rw [allJ, if_neg hd2, if_pos hd1] at hJ2
              obtain ⟨y1, rfl⟩ := hJ2
              rw [y1] at e6
              refine wp_st3 (g := wr.heap.size) (cs := #[iv 0, iv 0, .slice none 0 0]) e6 e70 (by rw [row_of_blk (blk_top (by simp))]) (by rw [fr_of_blk (blk_top (by simp))]) ⟨by simp, by simp, by simp [allOne, Value.oneCell']⟩ ⟨undef, rfl, ?_⟩
              rw [allJ, if_pos (by simp)]
              exact ⟨by simpa using y1, by rw [setRow_alloc, if_pos (by simp)]⟩
            exact trivial
          · intro dn cv w3 hall hJ
            rw [allJ, if_pos (hall 10 rfl (by decide))] at hJ
            obtain ⟨y1, rfl⟩ := hJ
            simp only [freeAll, putAll_some, putAll_none, putAll_nil, List.getD_cons_zero, List.getD_cons_succ, Bool.false_eq_true, if_true, if_false, reduceIte, Nat.zero_add, Nat.reduceAdd, List.setIfInBounds_toArray, List.set_cons_zero, List.set_cons_succ]
            rw [y1]
            have HBX : Hid (Below wr.heap.size wr (wr.drew.alloc (.cells #[.int .i64 (x.toNat : Int), .int .i64 (y.toNat : Int), .slice none 0 0] 117))) := Lib.hid ((Below.refl _ _).drew.alloc (Nat.le_refl _) _)
            have HG6 : Hid ((wr.drew.alloc (.cells #[.int .i64 (x.toNat : Int), .int .i64 (y.toNat : Int), .slice none 0 0] 117)).heap[wr.heap.size]? = some (.cells #[.int .i64 (x.toNat : Int), .int .i64 (y.toNat : Int), .slice none 0 0] 117 (0, 0))) := Lib.hid (blk_top (by simp))
            have HS2 : Hid ((wr.drew.alloc (.cells #[.int .i64 (x.toNat : Int), .int .i64 (y.toNat : Int), .slice none 0 0] 117)).heap.size = wr.heap.size + 1) := Lib.hid (by simp)
            clear hall y1 XA YA UX UY
            generalize wr.drew.alloc (.cells #[.int .i64 (x.toNat : Int), .int .i64 (y.toNat : Int), .slice none 0 0] 117) = w2 at *
            have HRD2 := Lib.hid (HRDX.out.below HBX.out)
            have HBW2 := HBX
            generalize hg6 : wr.heap.size = g6 at *
            have HG6E := Lib.hid hg6
            obtain ⟨z1, z2, z3, z4, z5⟩ := blkFacts HRD2.out.z (by simp [patA])
            obtain ⟨q1, q2, q3, q4, q5⟩ := blkFacts HRD2.out.p (by simp [patA])
            obtain ⟨s1, s2, s3, s4, s5⟩ := blkFacts HG6.out (by simp)
            obtain ⟨o2, c2, hc2, hB2, hsl2⟩ := rest_slice (w := w) (n := r.length + 1 + 1) (m := r.length) (z := 2) 2 rfl (by simp) (by simp) hrc (by simp) HBT.out
            rw [List.drop_succ_cons, List.drop_succ_cons, List.drop_zero] at hB2
            have HBT2 := Lib.hid hB2
            have ng1 : ¬ g6 = g0 := by omega
            have ng2 : ¬ g6 = g0 + 1 := by omega
            have HBB2 : Hid (Below g0 w w2) := Lib.hid (HB.out.trans (HBX.out.mono (by omega)))
            clear hg6 hB2
            obtain ⟨m, hm⟩ : ∃ m, N - k = m + 1 := ⟨N - k - 1, by omega⟩
            by_cases hx : x = 255
            · have hxn : x.toNat = 255 := by rw [hx]; rfl
              have d3 : ((x.toNat : Int) == 255) = true := by simp [hxn]
              have hrd := HE.out
              rw [hm, hx, readOps_data] at hrd
              have HM1 := Lib.hid hm
              clear hm hxn
              by_cases hy : r.length < y.toNat
              · have d4 : decide ((r.length : Int) < (y.toNat : Int)) = true := decide_eq_true (by omega)
                have hz : pr = (Pat.zero, 7) := by
                  rw [HPR.out, ← hrd, if_pos hy]; unfold readDone; rw [if_pos (by decide)]
                have HZZ := Lib.hid hz
                clear hz hrd
                go_wp2_with fail
                refine bodyPost_ret (results_ct rfl rfl (cs := patA 0 0 0 0 0 none 0 0) (by go_simp) (by go_simp) (by go_simp)) rfl ?_
                rw [HZZ.out]
                exact ⟨none, 0, rfl, .const fun v => patIn_zero v, HBE.out.symm ▸ below_row HBB2.out (Nat.le_refl _) _⟩
              · have d4 : decide ((r.length : Int) < (y.toNat : Int)) = false := decide_eq_false (by omega)
                rw [if_neg hy] at hrd
                have HNX : Hid (readOps (N - k - 1) (r.drop y.toNat) (acc ++ [⟨0, 0, r.take y.toNat⟩]) = R) := Lib.hid (by rw [HM1.out]; exact hrd)
                obtain ⟨o3, c3, hc3, hB3, hsl3⟩ := rest_slice (w := w) (n := r.length) (m := r.length - y.toNat) (z := (y.toNat : Int)) y.toNat rfl rfl rfl hc2 (by omega) HBT2.out
                have HBT3 := Lib.hid hB3
                have HSL3 := Lib.hid hsl3
                have HC1 : Hid (g6 < w2.heap.size ∧ w2.cell? ⟨g6, 1, none⟩ = some (.int .i64 (y.toNat : Int))) := Lib.hid ⟨s5, by rw [s3]; rfl⟩
                have HY1 : Hid ((y.toNat : Int) ≤ (c2 : Int)) := Lib.hid (by omega)
                have HY2 : Hid ((0 : Int) ≤ (y.toNat : Int)) := Lib.hid (by omega)
                have HCL : Hid (∀ wq, Below w2.heap.size w2 wq → Calls Try.prog 100 #[.slice (some ⟨ab, o2, none⟩) y.toNat c2] wq (SlRet wq 5 1 y.toNat ((r.take y.toNat).map bv))) := Lib.hid (fun wq hb => cloneBytes_calls _ _ _ _ wq (by simp; omega) (by omega) (mid_take ((HBT2.out.stays (HBE.out ▸ HBB2.out)).stays hb) y.toNat).src (bv_one _))
                have HTL : Hid ((r.take y.toNat).length = y.toNat) := Lib.hid (by simp; omega)
                clear hrd hB3 hsl3
                go_wp2_with fail
                refine wp_region_free (by kernel_rfl) (some 82 :: some 83 :: some 84 :: some 85 :: some 86 :: some 87 :: some 88 :: some 89 :: some 90 :: some 91 :: none :: some 0 :: []) (false :: false :: false :: false :: true :: false :: false :: false :: false :: false :: true :: false :: []) (.slice (some ⟨ab, o2, none⟩) r.length c2 :: .pointer (some ⟨g6, 1, none⟩) :: .int .i64 (y.toNat : Int) :: .slice (some ⟨ab, o2, none⟩) y.toNat c2 :: undef :: .slice (some ⟨ab, o2, none⟩) r.length c2 :: .pointer (some ⟨g6, 1, none⟩) :: .int .i64 (y.toNat : Int) :: .slice (some ⟨ab, o3, none⟩) (r.length - y.toNat) c3 :: .pointer (some ⟨g6, 2, none⟩) :: undef :: .slice (some ⟨ab, o3, none⟩) (r.length - y.toNat) c3 :: []) (cdJ w2 g6 y.toNat ((r.take y.toNat).map bv) 4 10) 116 rfl rfl (by decide +kernel) (by decide +kernel) (by decide +kernel) rfl rfl (by rw [cdJ, if_neg (by simp), if_neg (by simp)]) ?_ ?_
                · refine ⟨?_, ?_⟩
                  · intro done cv a wq hn hw hcl h hJ
                    have e0 := fr_un (t := 0) (i := 0) (i0 := 11) (v := .slice (some ⟨ab, o2, none⟩) r.length c2) h hcl hn rfl (by decide) (by decide) rfl
                    exact mx_move (ch_ev e0)
                  refine ⟨?_, ?_⟩
                  · intro done cv a wq hn hw hcl h hJ
                    have e6 := fr_old (t := 6) (v := .pointer (some ⟨g6, 0, none⟩)) h rfl rfl
                    go_simp
                  refine ⟨?_, ?_⟩
                  · intro done cv a wq hn hw hcl h hJ
                    have e83 := fr_new (i := 1) (t := 83) h (hw 1 (by decide)) rfl rfl rfl
                    obtain ⟨l1, l2⟩ := hJ.cell1 HC1.out
                    go_simp
                  refine ⟨?_, ?_⟩
                  · intro done cv a wq hn hw hcl h hJ
                    have e82 := fr_new (i := 0) (t := 82) h (hw 0 (by decide)) rfl rfl rfl; have e84 := fr_new (i := 2) (t := 84) h (hw 2 (by decide)) rfl rfl rfl
                    have k1 := HY1.out
                    have k2 := HY2.out
                    go_simp
                  refine ⟨?_, ?_⟩
                  · intro done cv a wq hn hw hcl h hJ
                    have e85 := fr_new (i := 3) (t := 85) h (hw 3 (by decide)) rfl rfl rfl
                    have hd2 : ¬ maskB [false, false, false, false, true, false, false, false, false, false, true, false] done 10 = true := by unfold maskB; rw [show done 10 = false from Bool.eq_false_iff.2 (fun e => by have := hcl 10 _ rfl e 4 (by decide); rw [hn] at this; cases this)]; simp
                    have hd1 : ¬ maskB [false, false, false, false, true, false, false, false, false, false, true, false] done 4 = true := by unfold maskB; rw [hn]; simp
                    rw [cdJ, if_neg hd2, if_neg hd1] at hJ
                    obtain rfl : wq = w2.drew := hJ
                    refine wp_call (vals := #[.slice (some ⟨ab, o2, none⟩) y.toNat c2]) (by rw [List.map_toArray, List.map_cons, List.map_nil, ch_ev e85]) (enters_of Try.func100 (by kernel_rfl) rfl _ _) (HCL.out _ ((Below.refl _ _).drew)) ?_
                    rintro e w' ⟨A5, c5, rfl, hown, hbel⟩
                    refine ⟨_, rfl, _, rfl, ?_⟩
                    rw [cdJ, if_neg (by simp; simpa using hd2), if_pos (by simp)]
                    exact ⟨A5, c5, by simp, hown, (Below.refl _ _).drew.trans hbel⟩
                  refine ⟨?_, ?_⟩
                  · intro done cv a wq hn hw hcl h hJ
                    have e0 := fr_un (t := 0) (i := 5) (i0 := 11) (v := .slice (some ⟨ab, o2, none⟩) r.length c2) h hcl hn rfl (by decide) (by decide) rfl
                    exact mx_move (ch_ev e0)
                  refine ⟨?_, ?_⟩
                  · intro done cv a wq hn hw hcl h hJ
                    have e6 := fr_old (t := 6) (v := .pointer (some ⟨g6, 0, none⟩)) h rfl rfl
                    go_simp
                  refine ⟨?_, ?_⟩
                  · intro done cv a wq hn hw hcl h hJ
                    have e88 := fr_new (i := 6) (t := 88) h (hw 6 (by decide)) rfl rfl rfl
                    obtain ⟨l1, l2⟩ := hJ.cell1 HC1.out
                    go_simp
                  refine ⟨?_, ?_⟩
                  · intro done cv a wq hn hw hcl h hJ
                    have e87 := fr_new (i := 5) (t := 87) h (hw 5 (by decide)) rfl rfl rfl; have e89 := fr_new (i := 7) (t := 89) h (hw 7 (by decide)) rfl rfl rfl
                    have k1 := HSL3.out
                    go_simp
                  refine ⟨?_, ?_⟩
                  · intro done cv a wq hn hw hcl h hJ
                    have e6 := fr_old (t := 6) (v := .pointer (some ⟨g6, 0, none⟩)) h rfl rfl
                    go_simp
                  refine ⟨?_, ?_⟩
                  · intro done cv a wq hn hw hcl h hJ
                    have e91 := fr_new (i := 9) (t := 91) h (hw 9 (by decide)) rfl rfl rfl; have e86 := fr_cv (i := 4) (t := 86) h (hw 4 (by decide)) rfl rfl
                    have hd2 : ¬ maskB [false, false, false, false, true, false, false, false, false, false, true, false] done 10 = true := by unfold maskB; rw [hn]; simp
                    have hd1 : maskB [false, false, false, false, true, false, false, false, false, false, true, false] done 4 = true := by unfold maskB; rw [hw 4 (by decide)]; rfl
                    rw [cdJ, if_neg hd2, if_pos hd1] at hJ
                    obtain ⟨A5, c5, y1, hown, hbel⟩ := hJ
                    rw [y1] at e86
                    have hc2 : wq.cell? ⟨g6, 2, none⟩ = some (.slice none 0 0) := (hbel.cell (p := ⟨g6, 2, none⟩) (blk_lt HG6.out)).trans (by rw [cell_of_row _ _ _ _ _ _ HG6.out]; rfl)
                    have hf2 : wq.frozen? ⟨g6, 2, none⟩ = false := (hbel.frozen (p := ⟨g6, 2, none⟩) (blk_lt HG6.out)).trans (frozen_of_row _ _ _ _ _ HG6.out)
                    refine wp_ssl e91 e86 hc2 hf2 ⟨undef, rfl, ?_⟩
                    rw [cdJ, if_pos (by simp)]
                    exact ⟨A5, c5, wq, rfl, hown, hbel⟩
                  refine ⟨?_, ?_⟩
                  · intro done cv a wq hn hw hcl h hJ
                    have e90 := fr_new (i := 8) (t := 90) h (hw 8 (by decide)) rfl rfl rfl
                    exact mx_assign (ch_ev e90)
                  exact trivial
                · intro dn cv w3 hall hJ
                  rw [cdJ, if_pos (hall 10 rfl (by decide))] at hJ
                  obtain ⟨A5, c5, wq, rfl, hown, hbel⟩ := hJ
                  simp only [freeAll, putAll_some, putAll_none, putAll_nil, List.getD_cons_zero, List.getD_cons_succ, Bool.false_eq_true, if_true, if_false, reduceIte, Nat.zero_add, Nat.reduceAdd, List.setIfInBounds_toArray, List.set_cons_zero, List.set_cons_succ]
                  have hg64 := set_blk (j := 2) (v := .slice A5 y.toNat c5) (blk_below HG6.out hbel)
                  have hd5 : Bts (wq.setCell ⟨g6, 2, none⟩ (.slice A5 y.toNat c5)) A5 (r.take y.toNat) := (hown.setCell_other (p := ⟨g6, 2, none⟩) (fun e => by have := (hown.block g6 e).1; have := HS2.out; omega) _).src.bts
                  have hA5 : ∀ q, A5.map (·.block) = some q → g6 + 1 ≤ q ∧ q < (wq.setCell ⟨g6, 2, none⟩ (.slice A5 y.toNat c5)).heap.size := fun q e => by have := hown.block q e; have := HS2.out; simp; omega
                  have hb4 : Below g6 wr (wq.setCell ⟨g6, 2, none⟩ (.slice A5 y.toNat c5)) := (HBX.out.trans (hbel.mono (by have := HS2.out; omega))).setCell (p := ⟨g6, 2, none⟩) (Nat.le_refl _) _
                  have hc5 := hown.le
                  have HG64 := Lib.hid hg64
                  have HD5 := Lib.hid hd5
                  have HA5 := Lib.hid hA5
                  have HB4 := Lib.hid hb4
                  clear hg64 hd5 hA5 hb4 hown hbel hall z1 z2 z3 z4 z5 q1 q2 q3 q4 q5 s1 s2 s3 s4 s5 HC1 HCL HSL3 HY1 HY2
                  generalize wq.setCell ⟨g6, 2, none⟩ (.slice A5 y.toNat c5) = w4 at *
                  have HRD4 := Lib.hid (HRDX.out.below (HB4.out.mono (Nat.le_of_eq HG6E.out)))
                  obtain ⟨z1, z2, z3, z4, z5⟩ := blkFacts HRD4.out.z (by simp [patA])
                  obtain ⟨q1, q2, q3, q4, q5⟩ := blkFacts HRD4.out.p (by simp [patA])
                  obtain ⟨s1, s2, s3, s4, s5⟩ := blkFacts HG64.out (by simp)
                  have HBW : Hid (Below g6 wr ((w4.setCell ⟨g6, 0, none⟩ (.int .i64 0)).setCell ⟨g6, 1, none⟩ (.int .i64 0))) := Lib.hid ((HB4.out.setCell (p := ⟨g6, 0, none⟩) (Nat.le_refl _) _).setCell (p := ⟨g6, 1, none⟩) (Nat.le_refl _) _)
                  have HLN : Hid (r.length - y.toNat = (r.drop y.toNat).length) := Lib.hid (by simp)
                  have HD1 : Hid (Bts (((w4.setCell ⟨g6, 0, none⟩ (.int .i64 0)).setCell ⟨g6, 1, none⟩ (.int .i64 0)).alloc (.cells #[.int .i64 0, .int .i64 0, .slice A5 y.toNat c5] 117)) A5 (r.take y.toNat)) := Lib.hid ((bts_set (bts_set HD5.out (fun q e e2 => by have := (HA5.out q e).1; have e3 : g6 = q := e2; omega)) (fun q e e2 => by have := (HA5.out q e).1; have e3 : g6 = q := e2; omega)).stays ((Below.refl _ _).alloc (Nat.le_refl _) _))
                  have HD2 : Hid ((r.take y.toNat).length ≤ c5) := Lib.hid (by rw [HTL.out]; exact hc5)
                  have HD3 : Hid (∀ q, A5.map (·.block) = some q → g6 ≤ q ∧ q < (((w4.setCell ⟨g6, 0, none⟩ (.int .i64 0)).setCell ⟨g6, 1, none⟩ (.int .i64 0)).alloc (.cells #[.int .i64 0, .int .i64 0, .slice A5 y.toNat c5] 117)).heap.size) := Lib.hid (fun q e => by have := HA5.out q e; simp; omega)
                  have HD4 : Hid (I64 0 ∧ I64 0 ∧ (r.take y.toNat).length ≤ 140737488351232) := Lib.hid ⟨⟨by decide, by decide⟩, ⟨by decide, by decide⟩, by rw [HTL.out]; omega⟩
                  have HCE : Hid (opCell ⟨0, 0, r.take y.toNat⟩ (A5, c5) = [.int .i64 0, .int .i64 0, .slice A5 y.toNat c5]) := Lib.hid (by unfold opCell; dsimp only; rw [HTL.out])
                  have HRDW := Lib.hid (HRDX.out.below (HBW.out.mono (Nat.le_of_eq HG6E.out)))
                  have hoa := HRDW.out.row.row.alloc (.cells #[.int .i64 0, .int .i64 0, .slice A5 y.toNat c5] 117)
                  have hs1 : Src (((w4.setCell ⟨g6, 0, none⟩ (.int .i64 0)).setCell ⟨g6, 1, none⟩ (.int .i64 0)).alloc (.cells #[.int .i64 0, .int .i64 0, .slice A5 y.toNat c5] 117)) (some ⟨w4.heap.size, 0, none⟩) [.int .i64 0, .int .i64 0, .slice A5 y.toNat c5] := src_blk (blk_top (by simp))
                  have hob : acc.length + 1 ≤ 137438953472 := by omega
                  have hle : g0 + 2 ≤ (((w4.setCell ⟨g6, 0, none⟩ (.int .i64 0)).setCell ⟨g6, 1, none⟩ (.int .i64 0)).alloc (.cells #[.int .i64 0, .int .i64 0, .slice A5 y.toNat c5] 117)).heap.size := by have := HRDW.out.le; simp at this ⊢; omega
                  go_wp2_with (at_builtin; go_must (refine wpList_app (((w4.setCell ⟨g6, 0, none⟩ (.int .i64 0)).setCell ⟨g6, 1, none⟩ (.int .i64 0)).alloc (.cells #[.int .i64 0, .int .i64 0, .slice A5 y.toNat c5] 117)) rfl _ _ 23 rfl elOps (g0 + 2) A acc.length c0 (opCells acc ds) rfl hoa (some ⟨w4.heap.size, 0, none⟩) 1 1 [.int .i64 0, .int .i64 0, .slice A5 y.toNat c5] rfl hs1 rfl (by simp [Value.oneCell']) hob hle ?_; intro A' c' w5 hown hgr hbel hor); (obtain ⟨⟨ds', hrd⟩, hp5⟩ := HRDX.out.push (x := ⟨0, 0, r.take y.toNat⟩) (e := (A5, c5)) ((HBW.out.alloc (by have := HBW.out.size; have := HG6E.out; omega) _).mono (Nat.le_of_eq HG6E.out)) (HCE.out.symm ▸ hown) hgr hbel hor HD1.out HD2.out (fun q e => ⟨by have := (HD3.out q e).1; have := HG6E.out; omega, (HD3.out q e).2⟩) HD4.out); (obtain ⟨p1, p2, p3, p4, p5⟩ := blkFacts hp5 (by simp [patA])); (have HRD5 := Lib.hid hrd); (have HB5 : Hid (Below g0 w w5) := Lib.hid (((HB.out.trans (HBW.out.mono (by omega))).alloc (by have := HRDW.out.le; omega) _).trans (hbel.mono (by omega)))); (clear hown hgr hbel hor hoa hs1 hob hle hrd hp5))
                  go_roundw
                  case rel => exact ⟨k + 1, r.drop y.toNat, acc ++ [⟨0, 0, r.take y.toNat⟩], ds', o3, c3, A', c', by rw [HLN.out], by go_num, by omega, by rw [← HLN.out]; exact hc3, by rw [← HLN.out]; omega, by have := HAL.out; simp; omega, Lib.hid (by have := HAL.out; simp; omega), Lib.hid (by rw [show N - (k + 1) = N - k - 1 by omega]; exact HNX.out), HBT3, HRD5, Lib.hid (HB5.out.setCell (p := ⟨g0 + 1, 5, none⟩) (by show g0 ≤ g0 + 1; omega) _)⟩
                  case measure => simp [intOf]; omega
            · have d3 : ((x.toNat : Int) == 255) = false := by
                have : x.toNat ≠ 255 := fun e => hx (UInt8.toNat_inj.1 (by rw [e]; rfl))
                simp; omega
              have hrd := HE.out
              rw [hm] at hrd
              have HM1 := Lib.hid hm
              clear hm
              by_cases hy : y = 0
              · subst hy
                have d4 : (((0 : UInt8).toNat : Int) == 0) = true := by decide
                rw [readOps_zero hx] at hrd
                have hz : pr = (Pat.zero, 3) := by
                  rw [HPR.out, ← hrd]; unfold readDone; rw [if_pos (by decide)]
                have HZZ := Lib.hid hz
                clear hz hrd
                go_wp2_with fail
                refine bodyPost_ret (results_ct rfl rfl (cs := patA 0 0 0 0 0 none 0 0) (by go_simp) (by go_simp) (by go_simp)) rfl ?_
                rw [HZZ.out]
                exact ⟨none, 0, rfl, .const fun v => patIn_zero v, HBE.out.symm ▸ below_row HBB2.out (Nat.le_refl _) _⟩
              · have hyn : y.toNat ≠ 0 := fun e => hy (UInt8.toNat_inj.1 (by rw [e]; rfl))
                have d4 : ((y.toNat : Int) == 0) = false := by simp; omega
                rw [readOps_copy hx hy] at hrd
                have HNX : Hid (readOps (N - k - 1) r (acc ++ [⟨(x.toNat : Int), (y.toNat : Int), []⟩]) = R) := Lib.hid (by rw [HM1.out]; exact hrd)
                have HBW : Hid (Below g6 wr w2) := HBX
                have HD1 : Hid (Bts (w2.alloc (.cells #[.int .i64 (x.toNat : Int), .int .i64 (y.toNat : Int), .slice none 0 0] 117)) none []) := Lib.hid (Bts.nil _ _)
                have HD2 : Hid (([] : List UInt8).length ≤ 0) := Lib.hid (Nat.le_refl _)
                have HD3 : Hid (∀ q, (none : Option Addr).map (·.block) = some q → g6 ≤ q ∧ q < (w2.alloc (.cells #[.int .i64 (x.toNat : Int), .int .i64 (y.toNat : Int), .slice none 0 0] 117)).heap.size) := Lib.hid (fun q e => by cases e)
                have HD4 : Hid (I64 (x.toNat : Int) ∧ I64 (y.toNat : Int) ∧ ([] : List UInt8).length ≤ 140737488351232) := Lib.hid ⟨⟨by omega, by omega⟩, ⟨by omega, by omega⟩, by simp⟩
                have HCE : Hid (opCell ⟨(x.toNat : Int), (y.toNat : Int), []⟩ (none, 0) = [.int .i64 (x.toNat : Int), .int .i64 (y.toNat : Int), .slice none 0 0]) := Lib.hid rfl
                clear hrd hyn
                have HRDW := Lib.hid (HRDX.out.below (HBW.out.mono (Nat.le_of_eq HG6E.out)))
                have hoa := HRDW.out.row.row.alloc (.cells #[.int .i64 (x.toNat : Int), .int .i64 (y.toNat : Int), .slice none 0 0] 117)
                have hs1 : Src (w2.alloc (.cells #[.int .i64 (x.toNat : Int), .int .i64 (y.toNat : Int), .slice none 0 0] 117)) (some ⟨w2.heap.size, 0, none⟩) [.int .i64 (x.toNat : Int), .int .i64 (y.toNat : Int), .slice none 0 0] := src_blk (blk_top (by simp))
                have hob : acc.length + 1 ≤ 137438953472 := by omega
                have hle : g0 + 2 ≤ (w2.alloc (.cells #[.int .i64 (x.toNat : Int), .int .i64 (y.toNat : Int), .slice none 0 0] 117)).heap.size := by have := HRDW.out.le; simp at this ⊢; omega
                go_wp2_with (at_builtin; go_must (refine wpList_app (w2.alloc (.cells #[.int .i64 (x.toNat : Int), .int .i64 (y.toNat : Int), .slice none 0 0] 117)) rfl _ _ 23 rfl elOps (g0 + 2) A acc.length c0 (opCells acc ds) rfl hoa (some ⟨w2.heap.size, 0, none⟩) 1 1 [.int .i64 (x.toNat : Int), .int .i64 (y.toNat : Int), .slice none 0 0] rfl hs1 rfl (by simp [Value.oneCell']) hob hle ?_; intro A' c' w5 hown hgr hbel hor); (obtain ⟨⟨ds', hrd⟩, hp5⟩ := HRDX.out.push (x := ⟨(x.toNat : Int), (y.toNat : Int), []⟩) (e := (none, 0)) ((HBW.out.alloc (by have := HBW.out.size; have := HG6E.out; omega) _).mono (Nat.le_of_eq HG6E.out)) (HCE.out.symm ▸ hown) hgr hbel hor HD1.out HD2.out (fun q e => ⟨by have := (HD3.out q e).1; have := HG6E.out; omega, (HD3.out q e).2⟩) HD4.out); (obtain ⟨p1, p2, p3, p4, p5⟩ := blkFacts hp5 (by simp [patA])); (have HRD5 := Lib.hid hrd); (have HB5 : Hid (Below g0 w w5) := Lib.hid (((HB.out.trans (HBW.out.mono (by omega))).alloc (by have := HRDW.out.le; omega) _).trans (hbel.mono (by omega)))); (clear hown hgr hbel hor hoa hs1 hob hle hrd hp5))
                go_roundw
                case rel => exact ⟨k + 1, r, acc ++ [⟨(x.toNat : Int), (y.toNat : Int), []⟩], ds', o2, c2, A', c', rfl, by go_num, by omega, hc2, by omega, by have := HAL.out; simp; omega, Lib.hid (by have := HAL.out; simp; omega), Lib.hid (by rw [show N - (k + 1) = N - k - 1 by omega]; exact HNX.out), HBT2, HRD5, Lib.hid (HB5.out.setCell (p := ⟨g0 + 1, 5, none⟩) (by show g0 ≤ g0 + 1; omega) _)⟩
                case measure => simp [intOf]; omega
      · obtain rfl : k = N := by omega
        have dl : decide ((k : Int) < (k : Int)) = false := by simp
        have hR2 : R = (0, acc, rest) := by rw [← HE.out, Nat.sub_self, readOps_nil]
        rw [hR2] at HPR
        obtain ⟨z1, z2, z3, z4, z5⟩ := blkFacts HRDX.out.z (by simp [patA])
        obtain ⟨q1, q2, q3, q4, q5⟩ := blkFacts HRDX.out.p (by simp [patA])
        clear hR2 HE
        by_cases hre : rest ≠ []
        · have hrp : 0 < rest.length := List.length_pos_iff.2 hre
          have hz : pr = (Pat.zero, 7) := by rw [HPR.out]; unfold readDone; rw [if_neg (by simp), if_pos hre]
          have HZZ := Lib.hid hz
          clear hz hre
          go_wp2_with fail
          refine bodyPost_ret (results_ct rfl rfl (cs := patA 0 0 0 0 0 none 0 0) (by go_simp) (by go_simp) (by go_simp)) rfl ?_
          rw [HZZ.out]
          exact ⟨none, 0, rfl, .const fun v => patIn_zero v, HBE.out.symm ▸ below_row HB.out (Nat.le_refl _) _⟩
        · have hre := Decidable.not_not.1 hre
          subst hre
          have hdone : pr = if patCheck ⟨p0, p1, p2, p3, p4, acc⟩ ≠ 0 then (Pat.zero, patCheck ⟨p0, p1, p2, p3, p4, acc⟩) else (⟨p0, p1, p2, p3, p4, acc⟩, 0) := by
            rw [HPR.out]; unfold readDone; rw [if_neg (by simp), if_neg (by simp), HHEAD.out]
          have HDN := Lib.hid hdone
          have HCK := Lib.hid (patCheck_calls A c0 p0 p1 p2 p3 p4 acc wr (by omega) (HRDX.out.row.sps HRDX.out.bd))
          clear hdone HHEAD HPR
          simp only [List.length_nil, Int.ofNat_eq_natCast, Int.natCast_zero] at *
          by_cases hck : patCheck ⟨p0, p1, p2, p3, p4, acc⟩ = 0
          · have hz : pr = (⟨p0, p1, p2, p3, p4, acc⟩, 0) := by rw [HDN.out, if_neg (by simpa using hck)]
            rw [hck] at HCK
            have HZZ := Lib.hid hz
            clear hz hck HDN
            go_wp2_with fail
            refine HCK.out.mono ?_
            rintro e w6 ⟨rfl, hb6⟩
            have HRD6 := Lib.hid (HRDX.out.below hb6)
            have HB6 : Hid (Below g0 w w6) := Lib.hid (HB.out.trans (hb6.mono (by omega)))
            clear hb6 z1 z2 z3 z4 z5 q1 q2 q3 q4 q5
            obtain ⟨z1, z2, z3, z4, z5⟩ := blkFacts HRD6.out.z (by simp [patA])
            obtain ⟨q1, q2, q3, q4, q5⟩ := blkFacts HRD6.out.p (by simp [patA])
            have ng : ¬ g0 + 1 = g0 := by omega
            go_wp2_with fail
            refine bodyPost_ret (results_ct rfl rfl (cs := patA p0 p1 p2 p3 p4 A acc.length c0) (by go_simp) (by go_simp) (by go_simp)) rfl ?_
            rw [HZZ.out]
            have hfr := (HRD6.out.row.fresh HRD6.out.nd HRD6.out.bd)
            refine ⟨A, c0, rfl, ?_, HBE.out.symm ▸ below_row HB6.out (Nat.le_refl _) _⟩
            refine ((hfr.imp (Q := fun v => PatIn v ⟨p0, p1, p2, p3, p4, acc⟩ A c0) fun v hv => ⟨HRD6.out.row.row.le, by dsimp only; omega, hv, ?_, ?_, ?_, ?_, ?_⟩).row (by omega) _).mono (by rw [HBE.out]; omega)
            all_goals (obtain ⟨f1, f2, f3, f4, f5, f6, f7, f8, f9, f10⟩ := HFB.out; exact ⟨by dsimp only; omega, by dsimp only; omega⟩)
          · have hz : pr = (Pat.zero, patCheck ⟨p0, p1, p2, p3, p4, acc⟩) := by rw [HDN.out, if_pos hck]
            have d5 : (patCheck ⟨p0, p1, p2, p3, p4, acc⟩ != 0) = true := by simp [hck]
            have HZZ := Lib.hid hz
            clear hz hck HDN
            generalize patCheck ⟨p0, p1, p2, p3, p4, acc⟩ = ck at *
            go_wp2_with fail
            refine HCK.out.mono ?_
            rintro e w6 ⟨rfl, hb6⟩
            have HRD6 := Lib.hid (HRDX.out.below hb6)
            have HB6 : Hid (Below g0 w w6) := Lib.hid (HB.out.trans (hb6.mono (by omega)))
            clear hb6 z1 z2 z3 z4 z5 q1 q2 q3 q4 q5
            obtain ⟨z1, z2, z3, z4, z5⟩ := blkFacts HRD6.out.z (by simp [patA])
            go_wp2_with fail
            refine bodyPost_ret (results_ct rfl rfl (cs := patA 0 0 0 0 0 none 0 0) (by go_simp) (by go_simp) (by go_simp)) rfl ?_
            rw [HZZ.out]
            exact ⟨none, 0, rfl, .const fun v => patIn_zero v, HBE.out.symm ▸ below_row HB6.out (Nat.le_refl _) _⟩
end Go.Proofs.Ytefkfglkpebbmac
