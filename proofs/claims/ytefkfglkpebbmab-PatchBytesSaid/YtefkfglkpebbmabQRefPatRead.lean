/- The walk of the document's PatchRead. Printed by gen_refpatread.py. No conditions. -/
import Derived.Test.YtefkfglkpebbmabQPatRead
import Derived.Test.YtefkfglkpebbmabQAppJ
import Derived.Test.YtefkfglkpebbmabQCRowPush
import Derived.Test.YtefkfglkpebbmabQRefPatPut
import Derived.Test.YtefkfglkpebbmabQMidSlice
namespace Go.Proofs.Ytefkfglkpebbmab
open Go.RowKit
set_option linter.unusedVariables false
set_option linter.unusedSimpArgs false

set_option maxRecDepth 100000 in
theorem bad_calls (e : Int) (w : World) : Calls Try.prog 67 #[iv e] w (RetB w (.tuple #[.agg (patA 0 0 0 0 0 none 0 0), iv e])) := by
  go_enter Try.func67, Try.ntmps67
  go_wp2_with fail
  refine bodyPost_ret (results_ct rfl rfl (cs := patA 0 0 0 0 0 none 0 0) (by go_simp) (by go_simp) (by go_simp)) rfl ⟨rfl, ?_⟩
  repeat (first | exact Below.refl _ _ | refine below_row ?_ (by omega) _ | refine Below.alloc ?_ (by first | omega | (simp <;> omega)) _)
set_option maxRecDepth 100000 in
theorem num2_calls {w : World} {g0 ab ao n c : Nat} {x y : UInt8} (hb : w.cell? ⟨g0, 0, none⟩ = some (.slice (some ⟨ab, ao, none⟩) n c)) (hx : w.cell? ⟨ab, ao + 2, none⟩ = some (bv x)) (hy : w.cell? ⟨ab, ao + 3, none⟩ = some (bv y)) (hn : 8 ≤ n) :
    Calls Try.prog 68 #[iv 2, .pointer (some ⟨g0, 0, none⟩)] w (RetN w (iv ((x.toNat : Int) * 256 + (y.toNat : Int)))) := by
  have h1 : ¬ (n : Int) ≤ 2 := by omega
  have h2 : ¬ (n : Int) ≤ 3 := by omega
  have hxl := x.toNat_lt
  have hyl := y.toNat_lt
  have u1 : IntKind.i64.wrap (x.toNat : Int) = (x.toNat : Int) := IntWalk.i64_in _ (by omega)
  have u2 : IntKind.i64.wrap (y.toNat : Int) = (y.toNat : Int) := IntWalk.i64_in _ (by omega)
  have u3 : IntKind.i64.wrap ((x.toNat : Int) * 256) = (x.toNat : Int) * 256 := IntWalk.i64_in _ (by omega)
  have u4 : IntKind.i64.wrap ((x.toNat : Int) * 256 + (y.toNat : Int)) = (x.toNat : Int) * 256 + (y.toNat : Int) := IntWalk.i64_in _ (by omega)
  go_enter Try.func68, Try.ntmps68
  go_wp2_with fail
  go_quiet (fail)
  go_wp2_with fail
  go_ret
  exact ⟨rfl, _, rfl⟩
set_option maxRecDepth 100000 in
theorem num4_calls {w : World} {g0 ab ao n c : Nat} {x y : UInt8} (hb : w.cell? ⟨g0, 0, none⟩ = some (.slice (some ⟨ab, ao, none⟩) n c)) (hx : w.cell? ⟨ab, ao + 4, none⟩ = some (bv x)) (hy : w.cell? ⟨ab, ao + 5, none⟩ = some (bv y)) (hn : 8 ≤ n) :
    Calls Try.prog 68 #[iv 4, .pointer (some ⟨g0, 0, none⟩)] w (RetN w (iv ((x.toNat : Int) * 256 + (y.toNat : Int)))) := by
  have h1 : ¬ (n : Int) ≤ 4 := by omega
  have h2 : ¬ (n : Int) ≤ 5 := by omega
  have hxl := x.toNat_lt
  have hyl := y.toNat_lt
  have u1 : IntKind.i64.wrap (x.toNat : Int) = (x.toNat : Int) := IntWalk.i64_in _ (by omega)
  have u2 : IntKind.i64.wrap (y.toNat : Int) = (y.toNat : Int) := IntWalk.i64_in _ (by omega)
  have u3 : IntKind.i64.wrap ((x.toNat : Int) * 256) = (x.toNat : Int) * 256 := IntWalk.i64_in _ (by omega)
  have u4 : IntKind.i64.wrap ((x.toNat : Int) * 256 + (y.toNat : Int)) = (x.toNat : Int) * 256 + (y.toNat : Int) := IntWalk.i64_in _ (by omega)
  go_enter Try.func68, Try.ntmps68
  go_wp2_with fail
  go_quiet (fail)
  go_wp2_with fail
  go_ret
  exact ⟨rfl, _, rfl⟩

/-- It returns a patch that may lie in memory that was there, and a number. -/
def PnRet (w : World) (p : Pat) (n : Int) : Ending → World → Prop := fun en w' =>
  ∃ A c, en = .returned (.tuple #[.agg (patA p.from_ p.to_ p.old p.new_ p.size A p.ops.length c), iv n]) ∧ PatIn w' p A c ∧ Below w.heap.size w w'
/-- The same; it lies in its own memory and in the bytes read. -/
def PsRet (w : World) (S : Option Addr) (p : Pat) (n : Int) : Ending → World → Prop := fun en w' =>
  ∃ A c, en = .returned (.tuple #[.agg (patA p.from_ p.to_ p.old p.new_ p.size A p.ops.length c), iv n]) ∧ PatIn w' p A c ∧ Below w.heap.size w w' ∧
    ∀ v : World, (∀ k, w.heap.size ≤ k ∨ S.map (·.block) = some k → k < w'.heap.size → v.heap[k]? = w'.heap[k]?) → PatIn v p A c
/-- A row of steps whose data lie from base on, or in one block, reads as those, wherever other blocks are turned. -/
theorem CRow.freshB {w v : World} {base : Nat} {l : List Stp} {ds : List (Option Addr × Nat)} {A : Option Addr} {c : Nat} {bk : Option Nat} (h : CRow w base l ds A c) (hn : ∀ (i : Nat) (e : Option Addr × Nat), ds[i]? = some e → ∀ k, e.1.map (·.block) = some k → bk = some k) (hb : ∀ o ∈ l, I64 o.at_ ∧ I64 o.len ∧ o.data.length ≤ 140737488351232)
    (hv : ∀ k, base ≤ k ∨ bk = some k → k < w.heap.size → v.heap[k]? = w.heap[k]?) : Sps v A l := by
  refine CRow.sps (w := v) (base := base) (ds := ds) (c := c) ⟨h.len, own_fresh h.row (fun k h1 => hv k (.inl h1)), fun i o d h1 h2 => ⟨fun j hj => ?_, (h.data i o d h1 h2).2⟩, fun i d h1 k e => ⟨(h.off i d h1 k e).1, ?_⟩⟩ hb
  · obtain ⟨b, o2, e1, hlt, hc⟩ := (h.data i o d h1 h2).1 j hj
    have e := hv b (.inr (hn i d h2 b (by rw [e1]; rfl))) hlt
    refine ⟨b, o2, e1, ?_, (World.cell?_of_block e).trans hc⟩
    rcases Nat.lt_or_ge b v.heap.size with h | h
    · exact h
    · rw [Array.getElem?_eq_none h, Array.getElem?_eq_getElem hlt] at e; cases e
  · have hlt := (h.off i d h1 k e).2
    have e2 := hv k (.inr (hn i d h1 k e)) hlt
    rcases Nat.lt_or_ge k v.heap.size with h | h
    · exact h
    · rw [Array.getElem?_eq_none h, Array.getElem?_eq_getElem hlt] at e2; cases e2
/-- The block of a slice. -/
def sliceBlk : Value → Option Nat
  | .slice A _ _ => A.map (·.block)
  | _ => none
/-- While the head's numbers are read, and the patch's block is made and written. -/
def numJ (wo : World) (v9 v11 : Int) (cs : Array Value) (done : Nat → Bool) (cv : Nat → Value) (w : World) : Prop :=
  Below wo.heap.size wo w ∧ (done 9 = true → cv 9 = iv v9) ∧ (done 11 = true → cv 11 = iv v11) ∧
  (if done 18 = true then cv 17 = .pointer (some ⟨wo.heap.size, 0, none⟩) ∧ w.heap[wo.heap.size]? = some (.cells cs 53 (0, 0)) ∧ w.heap.size = wo.heap.size + 1
   else if done 17 = true then cv 17 = .pointer (some ⟨wo.heap.size, 0, none⟩) ∧ w.heap[wo.heap.size]? = some (.cells (patA 0 0 0 0 0 none 0 0) 53 (0, 0)) ∧ w.heap.size = wo.heap.size + 1
   else w.heap.size = wo.heap.size)
section
variable {wo w : World} {v9 v11 : Int} {cs : Array Value} {done : Nat → Bool} {cv : Nat → Value}
theorem numJ.bel (h : numJ wo v9 v11 cs done cv w) : Below wo.heap.size wo w := h.1
theorem numJ.g9 (h : numJ wo v9 v11 cs done cv w) (hd : done 9 = true) : cv 9 = iv v9 := h.2.1 hd
theorem numJ.g11 (h : numJ wo v9 v11 cs done cv w) (hd : done 11 = true) : cv 11 = iv v11 := h.2.2.1 hd
theorem numJ.c9 (h : numJ wo v9 v11 cs done cv w) (n : Nat) : numJ wo v9 v11 cs (fun j => if j = 9 then true else done j) (fun j => if j = 9 then iv v9 else cv j) (w.drewN n) :=
  ⟨Below.drewN' h.1 n, fun _ => by simp, fun e => by simpa using h.2.2.1 (by simpa using e), by simpa using h.2.2.2⟩
theorem numJ.c11 (h : numJ wo v9 v11 cs done cv w) (n : Nat) : numJ wo v9 v11 cs (fun j => if j = 11 then true else done j) (fun j => if j = 11 then iv v11 else cv j) (w.drewN n) :=
  ⟨Below.drewN' h.1 n, fun e => by simpa using h.2.1 (by simpa using e), fun _ => by simp, by simpa using h.2.2.2⟩
theorem numJ.zero (h : numJ wo v9 v11 cs done cv w) (hd2 : ¬ done 18 = true) (hd1 : ¬ done 17 = true) : w.heap.size = wo.heap.size := by
  have := h.2.2.2
  rwa [if_neg hd2, if_neg hd1] at this
theorem numJ.one (h : numJ wo v9 v11 cs done cv w) (hd2 : ¬ done 18 = true) (hd1 : done 17 = true) : cv 17 = .pointer (some ⟨wo.heap.size, 0, none⟩) ∧ w.heap[wo.heap.size]? = some (.cells (patA 0 0 0 0 0 none 0 0) 53 (0, 0)) ∧ w.heap.size = wo.heap.size + 1 := by
  have := h.2.2.2
  rwa [if_neg hd2, if_pos hd1] at this
theorem numJ.two (h : numJ wo v9 v11 cs done cv w) (hd2 : done 18 = true) : cv 17 = .pointer (some ⟨wo.heap.size, 0, none⟩) ∧ w.heap[wo.heap.size]? = some (.cells cs 53 (0, 0)) ∧ w.heap.size = wo.heap.size + 1 := by
  have := h.2.2.2
  rwa [if_pos hd2] at this
theorem numJ.made (h : numJ wo v9 v11 cs done cv w) (hd2 : ¬ done 18 = true) (hs : w.heap.size = wo.heap.size) :
    numJ wo v9 v11 cs (fun j => if j = 17 then true else done j) (fun j => if j = 17 then .pointer (some ⟨w.heap.size, 0, none⟩) else cv j) (w.alloc (.cells (patA 0 0 0 0 0 none 0 0) 53)) := by
  refine ⟨h.1.alloc (by omega) _, fun e => by simpa using h.2.1 (by simpa using e), fun e => by simpa using h.2.2.1 (by simpa using e), ?_⟩
  rw [if_neg (by simpa using hd2), if_pos (by simp)]
  exact ⟨by simp [hs], blk_top hs.symm, by simp; omega⟩
theorem numJ.put (h : numJ wo v9 v11 cs done cv w) (y1 : cv 17 = .pointer (some ⟨wo.heap.size, 0, none⟩)) (y2 : w.heap[wo.heap.size]? = some (.cells (patA 0 0 0 0 0 none 0 0) 53 (0, 0))) (y3 : w.heap.size = wo.heap.size + 1) :
    numJ wo v9 v11 cs (fun j => if j = 18 then true else done j) (fun j => if j = 18 then undef else cv j) (w.setRow wo.heap.size cs) := by
  refine ⟨below_row h.1 (Nat.le_refl _) _, fun e => by simpa using h.2.1 (by simpa using e), fun e => by simpa using h.2.2.1 (by simpa using e), ?_⟩
  rw [if_pos (by simp)]
  exact ⟨by simpa using y1, setRow_heap w _ _ _ _ _ y2, by simpa [World.setRow] using y3⟩
end
theorem wp_sbo {a : Act} {w : World} {K : Act → World → Prop} {Q : Exit → Act → World → Prop} {t : TypeId} {p : String} {af : Array Edge} {gd : Option (Nat × Bool)} {d s : Tmp} {x y : Int} {D : Option Addr} {n c : Nat} (hs : a.tmps[s]? = some (.agg #[iv x, iv y, .slice D n c]))
    (h : K (a.put (some d) (.slice (some ⟨w.heap.size, 0, none⟩) 1 1)) (w.alloc (.cells #[iv x, iv y, .slice D n c] 31))) :
    Oper.wp Try.prog ⟨some d, .buildSlice 23 1 #[(0, .tmp s)], t, p, af, gd⟩ a w K Q := by
  have e1 : a.eval (.tmp s) = .agg #[iv x, iv y, .slice D n c] := by simp [Act.eval, hs]
  unfold Oper.wp execOp
  simp only [e1, List.map_toArray, List.map_cons, List.map_nil]
  go_simp
  exact h
theorem wp_sso {a : Act} {w : World} {K : Act → World → Prop} {Q : Exit → Act → World → Prop} {t : TypeId} {p : String} {af : Array Edge} {gd : Option (Nat × Bool)} {x y : Tmp} {g j : Nat} {B : Option Addr} {n c : Nat} {u : Value} (hx : a.tmps[x]? = some (.pointer (some ⟨g, j, none⟩))) (hy : a.tmps[y]? = some (.slice B n c))
    (hc : w.cell? ⟨g, j, none⟩ = some u) (hf : w.frozen? ⟨g, j, none⟩ = false) (h : K a (w.setCell ⟨g, j, none⟩ (.slice B n c))) :
    Oper.wp Try.prog ⟨none, .store 23 (.tmp x) (.tmp y), t, p, af, gd⟩ a w K Q := by
  have e1 : a.eval (.tmp x) = .pointer (some ⟨g, j, none⟩) := by simp [Act.eval, hx]
  have e2 : a.eval (.tmp y) = .slice B n c := by simp [Act.eval, hy]
  unfold Oper.wp execOp
  simp only [e1, e2]
  go_simp
  exact h
/-- What is known while steps are read. -/
structure RrAt (wr : World) (g0 : Nat) (bx : Value) (f t o n s : Int) (acc : List Stp) (ds : List (Option Addr × Nat)) (A : Option Addr) (c : Nat) : Prop where
  b : wr.heap[g0]? = some (.cells #[bx] 22 (0, 0))
  z : wr.heap[g0 + 1]? = some (.cells (patA 0 0 0 0 0 none 0 0) 53 (0, 0))
  p : wr.heap[g0 + 2]? = some (.cells (patA f t o n s A acc.length c) 53 (0, 0))
  row : CRow wr (g0 + 3) acc ds A c
  nd : ∀ (i : Nat) (e : Option Addr × Nat), ds[i]? = some e → ∀ k, e.1.map (·.block) = some k → k < g0 ∧ sliceBlk bx = some k
  le : g0 + 3 ≤ wr.heap.size
  bd : ∀ q ∈ acc, I64 q.at_ ∧ I64 q.len ∧ q.data.length ≤ 140737488351232
theorem RrAt.below {wr w' : World} {g0 : Nat} {bx : Value} {f t o n s : Int} {acc : List Stp} {ds : List (Option Addr × Nat)} {A : Option Addr} {c : Nat} (h : RrAt wr g0 bx f t o n s acc ds A c) (hb : Below wr.heap.size wr w') : RrAt w' g0 bx f t o n s acc ds A c :=
  ⟨blk_below h.b hb, blk_below h.z hb, blk_below h.p hb, h.row.below hb, h.nd, Nat.le_trans h.le hb.size, h.bd⟩
theorem RrAt.push {wr w5 : World} {g0 : Nat} {bx : Value} {f t o n s : Int} {acc : List Stp} {ds : List (Option Addr × Nat)} {A A' : Option Addr} {c c' : Nat} {x : Stp} {e : Option Addr × Nat} (h : RrAt wr g0 bx f t o n s acc ds A c)
    (hown : Own w5 (g0 + 3) 31 3 A' (acc.length + 1) c' (opCells acc ds ++ opCell x e)) (hbel : Below (g0 + 3) wr w5) (hk : ∀ k, k < wr.heap.size → A.map (·.block) ≠ some k → w5.heap[k]? = wr.heap[k]?) (hor : A'.map (·.block) = A.map (·.block) ∨ ∀ k, A'.map (·.block) = some k → wr.heap.size ≤ k)
    (hd : Bts wr e.1 x.data) (hd2 : x.data.length ≤ e.2) (he : ∀ k, e.1.map (·.block) = some k → k < g0 ∧ sliceBlk bx = some k) (hx : I64 x.at_ ∧ I64 x.len ∧ x.data.length ≤ 140737488351232) :
    (∃ ds', RrAt (w5.setCell ⟨g0 + 2, 5, none⟩ (.slice A' (acc.length + 1) c')) g0 bx f t o n s (acc ++ [x]) ds' A' c') ∧ w5.heap[g0 + 2]? = some (.cells (patA f t o n s A acc.length c) 53 (0, 0)) := by
  have hle := h.le
  have hl3 := hbel.size
  have hrow := h.row.push2 hown hbel hk hor hd hd2 (fun k hk => ⟨fun e2 => by have := (h.row.row.block k e2).1; have := (he k hk).1; omega, by have := (he k hk).1; omega⟩)
  have h0 := (hbel.block g0 (by omega)).trans h.b
  have hz := (hbel.block (g0 + 1) (by omega)).trans h.z
  have hp := (hbel.block (g0 + 2) (by omega)).trans h.p
  have hnd : ∀ (i : Nat) (y : Option Addr × Nat), (ds ++ [e])[i]? = some y → ∀ k, y.1.map (·.block) = some k → k < g0 ∧ sliceBlk bx = some k := fun i y hy k hk => by
    rcases snoc_at hy with hy | ⟨rfl, rfl⟩
    · exact h.nd i y hy k hk
    · exact he k hk
  refine ⟨⟨ds ++ [e], set_blk2 h0 (by omega), set_blk2 hz (by omega), ?_, hrow.setOther (own_far hrow.row (by omega)) (fun i y hy e2 => by have := (hnd i y hy _ e2).1; omega) _, hnd, by simp; omega, ?_⟩, hp⟩
  · have := set_blk (j := 5) (v := .slice A' (acc.length + 1) c') hp
    rw [patA_set5] at this
    rw [List.length_append]
    exact this
  · intro q hq
    rcases List.mem_append.1 hq with hq | hq
    · exact h.bd q hq
    · rw [List.mem_singleton.1 hq]; exact hx
set_option maxRecDepth 100000 in
set_option maxHeartbeats 8000000 in
theorem refPatRead_short (A : Option Addr) (c : Nat) (b : List UInt8) (w : World) (h : 400 < b.length ∨ b.length < 8) :
    Calls Try.prog 40 #[.slice A b.length c] w (PsRet w A (patRead b).1 (patRead b).2) := by
  have HBA := Lib.hid (((Below.refl w.heap.size w).alloc (Nat.le_refl _) (.cells #[.slice A b.length c] 22)).alloc (by simp) (.cells (patA 0 0 0 0 0 none 0 0) 53))
  by_cases h1 : 400 < b.length
  · rw [patRead_many h1]
    have q : (400 : Int) < (b.length : Int) := by omega
    clear h
    go_enter Try.func40, Try.ntmps40
    go_wp2_with fail
    refine (bad_calls _ _).mono ?_
    rintro e w1 ⟨rfl, hb1⟩
    obtain ⟨a0r, a0f, a0n, a0c, a0z, a0l⟩ := keep1 (g := w.heap.size + 1) (cs := patA 0 0 0 0 0 none 0 0) hb1 (by first | (go_simp; done) | (go_simp; rfl)) (by go_simp) (by go_simp)
    have HB1 := Lib.hid (HBA.out.trans (hb1.mono (by simp; omega)))
    clear hb1
    go_wp2_with fail
    refine bodyPost_ret (results_ct rfl rfl (cs := patA 0 0 0 0 0 none 0 0) (by go_simp) (by go_simp) (by go_simp)) rfl ⟨none, 0, rfl, patIn_zero _, below_row HB1.out (by omega) _, fun _ _ => patIn_zero _⟩
  · have h2 : b.length < 8 := by omega
    rw [patRead_few h2]
    have q : ¬ (400 : Int) < (b.length : Int) := by omega
    have q2 : (b.length : Int) < 8 := by omega
    clear h
    go_enter Try.func40, Try.ntmps40
    go_wp2_with fail
    refine (bad_calls _ _).mono ?_
    rintro e w1 ⟨rfl, hb1⟩
    obtain ⟨a0r, a0f, a0n, a0c, a0z, a0l⟩ := keep1 (g := w.heap.size + 1) (cs := patA 0 0 0 0 0 none 0 0) hb1 (by first | (go_simp; done) | (go_simp; rfl)) (by go_simp) (by go_simp)
    have HB1 := Lib.hid (HBA.out.trans (hb1.mono (by simp; omega)))
    clear hb1
    go_wp2_with fail
    refine bodyPost_ret (results_ct rfl rfl (cs := patA 0 0 0 0 0 none 0 0) (by go_simp) (by go_simp) (by go_simp)) rfl ⟨none, 0, rfl, patIn_zero _, below_row HB1.out (by omega) _, fun _ _ => patIn_zero _⟩
set_option maxRecDepth 100000 in
set_option maxHeartbeats 8000000 in
theorem refPatRead_long (A : Option Addr) (c : Nat) (b : List UInt8) (w : World) (hc : b.length ≤ c) (h1 : b.length ≤ 400) (h2 : 8 ≤ b.length) (hB : Bts w A b) :
    Calls Try.prog 40 #[.slice A b.length c] w (PsRet w A (patRead b).1 (patRead b).2) := by
  have hB0 := hB
  obtain ⟨ab, ao, rfl, hab, _⟩ := hB 0 (by omega)
  have hx : ∀ k, k < 8 → ∃ x, b.getD k 0 = x ∧ ∀ w1, Below w.heap.size w w1 → w1.cell? ⟨ab, ao + k, none⟩ = some (bv x) := fun k hk => by
    refine ⟨b[k], by rw [List.getD_eq_getElem?_getD, List.getElem?_eq_getElem (by omega)]; rfl, fun w1 hb => ?_⟩
    obtain ⟨b', o', e, hlt, hcc⟩ := (hB.stays hb) k (by omega)
    injection e with e
    injection e with e1 e2
    subst e1 e2
    exact hcc
  obtain ⟨x0, e0x, X00⟩ := hx 0 (by decide)
  have X0w := Lib.hid X00
  have hu0 := x0.toNat_lt
  have U0 : Hid (IntKind.i64.wrap (x0.toNat : Int) = (x0.toNat : Int)) := Lib.hid (IntWalk.i64_in _ (by omega))
  have N0 : Hid (¬ b = []) := Lib.hid (fun e => by rw [e] at h2; simp at h2)
  obtain ⟨x1, e1x, X10⟩ := hx 1 (by decide)
  have X1w := Lib.hid X10
  have hu1 := x1.toNat_lt
  have U1 : Hid (IntKind.i64.wrap (x1.toNat : Int) = (x1.toNat : Int)) := Lib.hid (IntWalk.i64_in _ (by omega))
  have N1 : Hid (¬ (b.length : Int) ≤ 1) := Lib.hid (by omega)
  obtain ⟨x2, e2x, X20⟩ := hx 2 (by decide)
  have X2w := Lib.hid X20
  have hu2 := x2.toNat_lt
  have U2 : Hid (IntKind.i64.wrap (x2.toNat : Int) = (x2.toNat : Int)) := Lib.hid (IntWalk.i64_in _ (by omega))
  have N2 : Hid (¬ (b.length : Int) ≤ 2) := Lib.hid (by omega)
  obtain ⟨x3, e3x, X30⟩ := hx 3 (by decide)
  have X3w := Lib.hid X30
  have hu3 := x3.toNat_lt
  have U3 : Hid (IntKind.i64.wrap (x3.toNat : Int) = (x3.toNat : Int)) := Lib.hid (IntWalk.i64_in _ (by omega))
  have N3 : Hid (¬ (b.length : Int) ≤ 3) := Lib.hid (by omega)
  obtain ⟨x4, e4x, X40⟩ := hx 4 (by decide)
  have X4w := Lib.hid X40
  have hu4 := x4.toNat_lt
  have U4 : Hid (IntKind.i64.wrap (x4.toNat : Int) = (x4.toNat : Int)) := Lib.hid (IntWalk.i64_in _ (by omega))
  have N4 : Hid (¬ (b.length : Int) ≤ 4) := Lib.hid (by omega)
  obtain ⟨x5, e5x, X50⟩ := hx 5 (by decide)
  have X5w := Lib.hid X50
  have hu5 := x5.toNat_lt
  have U5 : Hid (IntKind.i64.wrap (x5.toNat : Int) = (x5.toNat : Int)) := Lib.hid (IntWalk.i64_in _ (by omega))
  have N5 : Hid (¬ (b.length : Int) ≤ 5) := Lib.hid (by omega)
  obtain ⟨x6, e6x, X60⟩ := hx 6 (by decide)
  have X6w := Lib.hid X60
  have hu6 := x6.toNat_lt
  have U6 : Hid (IntKind.i64.wrap (x6.toNat : Int) = (x6.toNat : Int)) := Lib.hid (IntWalk.i64_in _ (by omega))
  have N6 : Hid (¬ (b.length : Int) ≤ 6) := Lib.hid (by omega)
  obtain ⟨x7, e7x, X70⟩ := hx 7 (by decide)
  have X7w := Lib.hid X70
  have hu7 := x7.toNat_lt
  have U7 : Hid (IntKind.i64.wrap (x7.toNat : Int) = (x7.toNat : Int)) := Lib.hid (IntWalk.i64_in _ (by omega))
  have N7 : Hid (¬ (b.length : Int) ≤ 7) := Lib.hid (by omega)
  have HX := Lib.hid hx
  have HZ : Hid (¬ patA 0 0 0 0 0 none 0 0 = #[]) := Lib.hid (by simp [patA])
  have HB0 := Lib.hid hB0
  have HAB := Lib.hid hab
  clear hx hB hB0 hab X00 X10 X20 X30 X40 X50 X60 X70
  have q1 : ¬ (400 : Int) < (b.length : Int) := by omega
  have q2 : ¬ (b.length : Int) < 8 := by omega
  go_enter Try.func40, Try.ntmps40
  go_wp2_with fail
  have HBA := Lib.hid (((Below.refl w.heap.size w).alloc (Nat.le_refl _) (.cells #[.slice (some ⟨ab, ao, none⟩) b.length c] 22)).alloc (by simp) (.cells (patA 0 0 0 0 0 none 0 0) 53))
  obtain ⟨wo, hwo⟩ : ∃ wo, (w.alloc (.cells #[.slice (some ⟨ab, ao, none⟩) b.length c] 22)).alloc (.cells (patA 0 0 0 0 0 none 0 0) 53) = wo := ⟨_, rfl⟩
  rw [hwo]
  have hwz : wo.heap.size = w.heap.size + 2 := by rw [← hwo]; simp
  have HBo : Hid (Below w.heap.size w wo) := Lib.hid (hwo ▸ HBA.out)
  have HG0 : Hid (wo.heap[w.heap.size]? = some (.cells #[.slice (some ⟨ab, ao, none⟩) b.length c] 22 (0, 0))) := Lib.hid (hwo ▸ blk_old (blk_top rfl))
  have HG1 : Hid (wo.heap[w.heap.size + 1]? = some (.cells (patA 0 0 0 0 0 none 0 0) 53 (0, 0))) := Lib.hid (hwo ▸ blk_top (by simp))
  have X0 : Hid (∀ w1, Below wo.heap.size wo w1 → w1.cell? ⟨ab, ao, none⟩ = some (bv x0)) := Lib.hid (fun w1 h => X0w.out w1 (HBo.out.trans (h.mono (by omega))))
  have X1 : Hid (∀ w1, Below wo.heap.size wo w1 → w1.cell? ⟨ab, ao + 1, none⟩ = some (bv x1)) := Lib.hid (fun w1 h => X1w.out w1 (HBo.out.trans (h.mono (by omega))))
  have X2 : Hid (∀ w1, Below wo.heap.size wo w1 → w1.cell? ⟨ab, ao + 2, none⟩ = some (bv x2)) := Lib.hid (fun w1 h => X2w.out w1 (HBo.out.trans (h.mono (by omega))))
  have X3 : Hid (∀ w1, Below wo.heap.size wo w1 → w1.cell? ⟨ab, ao + 3, none⟩ = some (bv x3)) := Lib.hid (fun w1 h => X3w.out w1 (HBo.out.trans (h.mono (by omega))))
  have X4 : Hid (∀ w1, Below wo.heap.size wo w1 → w1.cell? ⟨ab, ao + 4, none⟩ = some (bv x4)) := Lib.hid (fun w1 h => X4w.out w1 (HBo.out.trans (h.mono (by omega))))
  have X5 : Hid (∀ w1, Below wo.heap.size wo w1 → w1.cell? ⟨ab, ao + 5, none⟩ = some (bv x5)) := Lib.hid (fun w1 h => X5w.out w1 (HBo.out.trans (h.mono (by omega))))
  have X6 : Hid (∀ w1, Below wo.heap.size wo w1 → w1.cell? ⟨ab, ao + 6, none⟩ = some (bv x6)) := Lib.hid (fun w1 h => X6w.out w1 (HBo.out.trans (h.mono (by omega))))
  have X7 : Hid (∀ w1, Below wo.heap.size wo w1 → w1.cell? ⟨ab, ao + 7, none⟩ = some (bv x7)) := Lib.hid (fun w1 h => X7w.out w1 (HBo.out.trans (h.mono (by omega))))
  clear hwo HBA
  generalize hg0 : w.heap.size = g0 at *
  have HGE := Lib.hid hg0
  have hab := HAB.out
  clear hg0
  have BXC : Hid (∀ w1, Below wo.heap.size wo w1 → w1.cell? ⟨g0, 0, none⟩ = some (.slice (some ⟨ab, ao, none⟩) b.length c)) := Lib.hid (fun w1 h => by rw [cell_of_row _ _ _ _ _ _ (blk_below HG0.out h)]; rfl)
  have NUM2 : Hid (∀ w1, Below wo.heap.size wo w1 → Calls Try.prog 68 #[iv 2, .pointer (some ⟨g0, 0, none⟩)] w1 (RetN w1 (iv ((x2.toNat : Int) * 256 + (x3.toNat : Int))))) := Lib.hid (fun w1 h => num2_calls (BXC.out w1 h) (X2.out w1 h) (X3.out w1 h) h2)
  have NUM4 : Hid (∀ w1, Below wo.heap.size wo w1 → Calls Try.prog 68 #[iv 4, .pointer (some ⟨g0, 0, none⟩)] w1 (RetN w1 (iv ((x4.toNat : Int) * 256 + (x5.toNat : Int))))) := Lib.hid (fun w1 h => num4_calls (BXC.out w1 h) (X4.out w1 h) (X5.out w1 h) h2)
  refine wp_region_free (by kernel_rfl) (some 27 :: some 28 :: some 29 :: some 30 :: some 31 :: some 32 :: some 33 :: some 34 :: some 35 :: some 36 :: some 37 :: some 38 :: some 39 :: some 40 :: some 41 :: some 42 :: some 43 :: some 6 :: none :: []) (false :: false :: false :: false :: false :: false :: false :: false :: false :: true :: false :: true :: false :: false :: false :: false :: false :: true :: true :: []) (.slice (some ⟨ab, ao, none⟩) b.length c :: .pointer (some ⟨ab, ao, none⟩) :: bv x0 :: .int .i64 (x0.toNat : Int) :: .slice (some ⟨ab, ao, none⟩) b.length c :: .pointer (some ⟨ab, ao + 1, none⟩) :: bv x1 :: .int .i64 (x1.toNat : Int) :: .func (Fn.func 68) #[] #[.pointer (some ⟨g0, 0, none⟩)] :: undef :: .func (Fn.func 68) #[] #[.pointer (some ⟨g0, 0, none⟩)] :: undef :: .slice (some ⟨ab, ao, none⟩) b.length c :: .pointer (some ⟨ab, ao + 6, none⟩) :: bv x6 :: .int .i64 (x6.toNat : Int) :: .agg (patA (x0.toNat : Int) (x1.toNat : Int) ((x2.toNat : Int) * 256 + (x3.toNat : Int)) ((x4.toNat : Int) * 256 + (x5.toNat : Int)) (x6.toNat : Int) none 0 0) :: undef :: undef :: []) (numJ wo ((x2.toNat : Int) * 256 + (x3.toNat : Int)) ((x4.toNat : Int) * 256 + (x5.toNat : Int)) (patA (x0.toNat : Int) (x1.toNat : Int) ((x2.toNat : Int) * 256 + (x3.toNat : Int)) ((x4.toNat : Int) * 256 + (x5.toNat : Int)) (x6.toNat : Int) none 0 0)) 140 rfl rfl (by decide +kernel) (by decide +kernel) (by decide +kernel) rfl rfl (⟨(Below.refl _ _).drew, fun h => by simp at h, fun h => by simp at h, by simp⟩) ?_ ?_
  · refine ⟨?_, ?_⟩
    · intro done cv a wq hn hw hcl h hJ
      have e1 := fr_old (t := 1) (v := .pointer (some ⟨g0, 0, none⟩)) h rfl rfl
      have hk := BXC.out wq hJ.bel
      go_simp
    refine ⟨?_, ?_⟩
    · intro done cv a wq hn hw hcl h hJ
      have e27 := fr_new (i := 0) (t := 27) h (hw 0 (by decide)) rfl rfl rfl
      have hnk := N0.out
      go_simp
    refine ⟨?_, ?_⟩
    · intro done cv a wq hn hw hcl h hJ
      have e28 := fr_new (i := 1) (t := 28) h (hw 1 (by decide)) rfl rfl rfl
      have hx := (X0.out wq hJ.bel)
      go_simp
    refine ⟨?_, ?_⟩
    · intro done cv a wq hn hw hcl h hJ
      have e29 := fr_new (i := 2) (t := 29) h (hw 2 (by decide)) rfl rfl rfl
      have hu := U0.out
      go_simp
    refine ⟨?_, ?_⟩
    · intro done cv a wq hn hw hcl h hJ
      have e1 := fr_old (t := 1) (v := .pointer (some ⟨g0, 0, none⟩)) h rfl rfl
      have hk := BXC.out wq hJ.bel
      go_simp
    refine ⟨?_, ?_⟩
    · intro done cv a wq hn hw hcl h hJ
      have e31 := fr_new (i := 4) (t := 31) h (hw 4 (by decide)) rfl rfl rfl
      have hnk := N1.out
      go_simp
    refine ⟨?_, ?_⟩
    · intro done cv a wq hn hw hcl h hJ
      have e32 := fr_new (i := 5) (t := 32) h (hw 5 (by decide)) rfl rfl rfl
      have hx := (X1.out wq hJ.bel)
      go_simp
    refine ⟨?_, ?_⟩
    · intro done cv a wq hn hw hcl h hJ
      have e33 := fr_new (i := 6) (t := 33) h (hw 6 (by decide)) rfl rfl rfl
      have hu := U1.out
      go_simp
    refine ⟨?_, ?_⟩
    · intro done cv a wq hn hw hcl h hJ
      have e5 := fr_old (t := 5) (v := .func (Fn.func 68) #[] #[.pointer (some ⟨g0, 0, none⟩)]) h rfl rfl
      exact mx_move (ch_ev e5)
    refine ⟨?_, ?_⟩
    · intro done cv a wq hn hw hcl h hJ
      have e35 := fr_new (i := 8) (t := 35) h (hw 8 (by decide)) rfl rfl rfl
      refine wp_callv (vals := #[iv 2, .pointer (some ⟨g0, 0, none⟩)]) e35 (by simp [Act.eval]) (enters_of Try.func68 (by kernel_rfl) rfl _ _) (NUM2.out wq hJ.bel) ?_
      rintro e w' ⟨rfl, n, rfl⟩
      exact ⟨_, rfl, _, rfl, hJ.c9 n⟩
    refine ⟨?_, ?_⟩
    · intro done cv a wq hn hw hcl h hJ
      have e5 := fr_old (t := 5) (v := .func (Fn.func 68) #[] #[.pointer (some ⟨g0, 0, none⟩)]) h rfl rfl
      exact mx_move (ch_ev e5)
    refine ⟨?_, ?_⟩
    · intro done cv a wq hn hw hcl h hJ
      have e37 := fr_new (i := 10) (t := 37) h (hw 10 (by decide)) rfl rfl rfl
      refine wp_callv (vals := #[iv 4, .pointer (some ⟨g0, 0, none⟩)]) e37 (by simp [Act.eval]) (enters_of Try.func68 (by kernel_rfl) rfl _ _) (NUM4.out wq hJ.bel) ?_
      rintro e w' ⟨rfl, n, rfl⟩
      exact ⟨_, rfl, _, rfl, hJ.c11 n⟩
    refine ⟨?_, ?_⟩
    · intro done cv a wq hn hw hcl h hJ
      have e1 := fr_old (t := 1) (v := .pointer (some ⟨g0, 0, none⟩)) h rfl rfl
      have hk := BXC.out wq hJ.bel
      go_simp
    refine ⟨?_, ?_⟩
    · intro done cv a wq hn hw hcl h hJ
      have e39 := fr_new (i := 12) (t := 39) h (hw 12 (by decide)) rfl rfl rfl
      have hnk := N6.out
      go_simp
    refine ⟨?_, ?_⟩
    · intro done cv a wq hn hw hcl h hJ
      have e40 := fr_new (i := 13) (t := 40) h (hw 13 (by decide)) rfl rfl rfl
      have hx := (X6.out wq hJ.bel)
      go_simp
    refine ⟨?_, ?_⟩
    · intro done cv a wq hn hw hcl h hJ
      have e41 := fr_new (i := 14) (t := 41) h (hw 14 (by decide)) rfl rfl rfl
      have hu := U6.out
      go_simp
    refine ⟨?_, ?_⟩
    · intro done cv a wq hn hw hcl h hJ
      have e30 := fr_new (i := 3) (t := 30) h (hw 3 (by decide)) rfl rfl rfl; have e34 := fr_new (i := 7) (t := 34) h (hw 7 (by decide)) rfl rfl rfl; have e36 := fr_cv (i := 9) (t := 36) h (hw 9 (by decide)) rfl rfl; have e38 := fr_cv (i := 11) (t := 38) h (hw 11 (by decide)) rfl rfl; have e42 := fr_new (i := 15) (t := 42) h (hw 15 (by decide)) rfl rfl rfl
      have hz := HZ.out
      have h9 := hJ.g9 (by unfold maskB; rw [hw 9 (by decide)]; rfl)
      have h11 := hJ.g11 (by unfold maskB; rw [hw 11 (by decide)]; rfl)
      rw [h9] at e36
      rw [h11] at e38
      go_simp
    refine ⟨?_, ?_⟩
    · intro done cv a wq hn hw hcl h hJ
      have hd2 : ¬ maskB [false, false, false, false, false, false, false, false, false, true, false, true, false, false, false, false, false, true, true] done 18 = true := by unfold maskB; rw [show done 18 = false from Bool.eq_false_iff.2 (fun e => by have := hcl 18 _ rfl e 17 (by decide); rw [hn] at this; cases this)]; simp
      have hd1 : ¬ maskB [false, false, false, false, false, false, false, false, false, true, false, true, false, false, false, false, false, true, true] done 17 = true := by unfold maskB; rw [hn]; simp
      have k0 := hJ.zero hd2 hd1
      refine wp_alloc6 ⟨_, rfl, ?_⟩
      exact hJ.made hd2 k0
    refine ⟨?_, ?_⟩
    · intro done cv a wq hn hw hcl h hJ
      have e6 := fr_cv (i := 17) (t := 6) h (hw 17 (by decide)) rfl rfl; have e43 := fr_new (i := 16) (t := 43) h (hw 16 (by decide)) rfl rfl rfl
      have hd2 : ¬ maskB [false, false, false, false, false, false, false, false, false, true, false, true, false, false, false, false, false, true, true] done 18 = true := by unfold maskB; rw [hn]; simp
      have hd1 : maskB [false, false, false, false, false, false, false, false, false, true, false, true, false, false, false, false, false, true, true] done 17 = true := by unfold maskB; rw [hw 17 (by decide)]; rfl
      obtain ⟨y1, y2, y3⟩ := hJ.one hd2 hd1
      rw [y1] at e6
      obtain ⟨q1, q2, q3, q4, q5⟩ := blkFacts y2 (by simp [patA])
      refine wp_st6 e6 e43 q1 q2 ⟨by simp [patA], by simp [patA], patA_one _ _ _ _ _ _ _ _⟩ ⟨undef, rfl, ?_⟩
      exact hJ.put y1 y2 y3
    exact trivial
  · intro dn cv wL hall hJ
    obtain ⟨y1, y2, y3⟩ := hJ.two (hall 18 rfl (by decide))
    have hbl := hJ.bel
    simp only [freeAll, putAll_some, putAll_none, putAll_nil, List.getD_cons_zero, List.getD_cons_succ, Bool.false_eq_true, if_true, if_false, reduceIte, Nat.zero_add, Nat.reduceAdd, List.setIfInBounds_toArray, List.set_cons_zero, List.set_cons_succ]
    rw [y1, hwz]
    rw [hwz] at y2
    have hRR : RrAt wL g0 (.slice (some ⟨ab, ao, none⟩) b.length c) (x0.toNat : Int) (x1.toNat : Int) ((x2.toNat : Int) * 256 + (x3.toNat : Int)) ((x4.toNat : Int) * 256 + (x5.toNat : Int)) (x6.toNat : Int) [] [] none 0 :=
      ⟨blk_below HG0.out hbl, blk_below HG1.out hbl, y2, CRow.nil _ _, fun i e h => by simp at h, by omega, fun q h => by cases h⟩
    have HRX := Lib.hid hRR
    have HB : Hid (Below w.heap.size w wL) := Lib.hid ((HGE.out.symm ▸ HBo.out).trans (hbl.mono (by have := HGE.out; omega)))
    have u7 := U7.out
    have n7 := N7.out
    obtain ⟨N, hN⟩ : ∃ N, x7.toNat = N := ⟨_, rfl⟩
    have HX7 : Hid (∀ w1, Below wo.heap.size wo w1 → w1.cell? ⟨ab, ao + 7, none⟩ = some (.int .u8 (N : Int))) := Lib.hid (fun w1 h => by have := X7.out w1 h; rw [← hN]; exact this)
    rw [hN] at u7 hu7
    obtain ⟨R, hRR⟩ : ∃ R, readOps N (b.drop 8) [] = R := ⟨_, rfl⟩
    have HPR : Hid (patRead b = readDone b R) := Lib.hid (by unfold patRead; rw [if_neg (by omega), if_neg (by omega), e7x, hN, hRR])
    have HRR := Lib.hid hRR
    have HHEAD : Hid (∀ ops, headPat b ops = ⟨(x0.toNat : Int), (x1.toNat : Int), ((x2.toNat : Int) * 256 + (x3.toNat : Int)), ((x4.toNat : Int) * 256 + (x5.toNat : Int)), (x6.toNat : Int), ops⟩) := Lib.hid (fun ops => by unfold headPat; rw [e0x, e1x, e2x, e3x, e4x, e5x, e6x])
    have HFB : Hid (0 ≤ (x0.toNat : Int) ∧ (x0.toNat : Int) ≤ 255 ∧ 0 ≤ (x1.toNat : Int) ∧ (x1.toNat : Int) ≤ 255 ∧ 0 ≤ ((x2.toNat : Int) * 256 + (x3.toNat : Int)) ∧ ((x2.toNat : Int) * 256 + (x3.toNat : Int)) ≤ 65535 ∧ 0 ≤ ((x4.toNat : Int) * 256 + (x5.toNat : Int)) ∧ ((x4.toNat : Int) * 256 + (x5.toNat : Int)) ≤ 65535 ∧ 0 ≤ (x6.toNat : Int) ∧ (x6.toNat : Int) ≤ 255) := Lib.hid (by omega)
    have HBT : Hid (∀ w1, Below wo.heap.size wo w1 → Bts w1 (some ⟨ab, ao, none⟩) b) := Lib.hid (fun w1 h => HB0.out.stays (HGE.out ▸ (HBo.out.trans (h.mono (by omega)))))
    have HWL : Hid (Below wo.heap.size wo wL) := Lib.hid hbl
    generalize patRead b = pr at *
    clear hall y1 y2 y3 hRR hbl e0x e1x e2x e3x e4x e5x e6x e7x hu0 hu1 hu2 hu3 hu4 hu5 hu6 X0 X1 X2 X3 X4 X5 X6 X7 X0w X1w X2w X3w X4w X5w X6w X7w U0 U1 U2 U3 U4 U5 U6 U7 N0 N1 N2 N3 N4 N5 N6 N7 HX HZ NUM2 NUM4 HB0 BXC
    generalize ((x2.toNat : Int) * 256 + (x3.toNat : Int)) = p2 at *
    generalize ((x4.toNat : Int) * 256 + (x5.toNat : Int)) = p3 at *
    generalize (x0.toNat : Int) = p0 at *
    generalize (x1.toNat : Int) = p1 at *
    generalize (x6.toNat : Int) = p4 at *
    go_wp2_with fail
    go_loopw [7, 8] (fun iv_ kv wr => ∃ (k i : Nat) (acc : List Stp) (ds : List (Option Addr × Nat)) (A : Option Addr) (c0 : Nat), iv_ = .int .i64 (i : Int) ∧ kv = .int .i64 (k : Int) ∧ k ≤ N ∧ 8 ≤ i ∧ i ≤ b.length ∧ acc.length ≤ k ∧ Hid (readOps (N - k) (b.drop i) acc = R) ∧ Hid (RrAt wr g0 (.slice (some ⟨ab, ao, none⟩) b.length c) p0 p1 p2 p3 p4 acc ds A c0) ∧ Hid (Below w.heap.size w wr) ∧ Hid (Below wo.heap.size wo wr)) (fun _ kv _ => N - (intOf kv).toNat)
    case atStart => exact ⟨0, 8, [], [], none, 0, rfl, rfl, Nat.zero_le _, Nat.le_refl _, h2, Nat.le_refl _, HRR, HRX, HB, HWL⟩
    case round =>
      clear HRX HB HWL HRR
      rename World => wr
      obtain ⟨k, i, acc, ds, A, c0, rfl, rfl, hk, hi8, hib, hacc, HE, HRX, HB, HW⟩ := hrel
      have hgz := HRX.out.le
      have hx7 := HX7.out wr HW.out
      obtain ⟨v1, v2, v3, v4, v5⟩ := blkFacts HRX.out.b (by simp)
      have hwi2 : IntKind.i64.wrap ((i : Int) + 2) = (i : Int) + 2 := IntWalk.i64_in _ (by omega)
      by_cases hkN : k < N
      · have dl : decide ((k : Int) < (N : Int)) = true := decide_eq_true (by omega)
        obtain ⟨m, hm⟩ : ∃ m, N - k = m + 1 := ⟨N - k - 1, by omega⟩
        by_cases hr2 : b.length < i + 2
        · have d2 : decide ((b.length : Int) < (i : Int) + 2) = true := decide_eq_true (by omega)
          have hz : pr = (Pat.zero, 7) := by
            rw [HPR.out, ← HE.out, hm, readOps_short (by rw [List.length_drop]; omega)]; unfold readDone; rw [if_pos (by decide)]
          have HZZ := Lib.hid hz
          clear hz
          go_wp2_with fail
          refine (bad_calls _ _).mono ?_
          rintro e wz ⟨rfl, hbz⟩
          have hz1 := blk_below HRX.out.z hbz
          obtain ⟨z1, z2, z3, z4, z5⟩ := blkFacts hz1 (by simp [patA])
          have HBZ : Hid (Below w.heap.size w wz) := Lib.hid (HB.out.trans (hbz.mono HB.out.size))
          clear hbz hz1
          go_wp2_with fail
          refine bodyPost_ret (results_ct rfl rfl (cs := patA 0 0 0 0 0 none 0 0) (by go_simp) (by go_simp) (by go_simp)) rfl ?_
          rw [HZZ.out]
          exact ⟨none, 0, rfl, patIn_zero _, below_row HBZ.out (by have := HGE.out; omega) _, fun _ _ => patIn_zero _⟩
        · have d2 : decide ((b.length : Int) < (i : Int) + 2) = false := decide_eq_false (by omega)
          have hbt := HBT.out wr HW.out
          obtain ⟨x, hxe⟩ : ∃ x, b[i] = x := ⟨_, rfl⟩
          obtain ⟨y, hye⟩ : ∃ y, b[i + 1] = y := ⟨_, rfl⟩
          have hdr : b.drop i = x :: y :: b.drop (i + 2) := by rw [List.drop_eq_getElem_cons (by omega : i < b.length), hxe, List.drop_eq_getElem_cons (by omega : i + 1 < b.length), hye]
          have hx1 : wr.cell? ⟨ab, ao + i, none⟩ = some (bv x) := by
            obtain ⟨b', o', e, hlt, hcc⟩ := hbt i (by omega)
            injection e with e
            injection e with e1 e2
            subst e1 e2
            rw [hxe] at hcc; exact hcc
          have hy1 : wr.cell? ⟨ab, ao + (i + 1), none⟩ = some (bv y) := by
            obtain ⟨b', o', e, hlt, hcc⟩ := hbt (i + 1) (by omega)
            injection e with e
            injection e with e1 e2
            subst e1 e2
            rw [hye] at hcc; exact hcc
          have hxl := x.toNat_lt
          have hyl := y.toNat_lt
          have ux : IntKind.i64.wrap (x.toNat : Int) = (x.toNat : Int) := IntWalk.i64_in _ (by omega)
          have uy : IntKind.i64.wrap (y.toNat : Int) = (y.toNat : Int) := IntWalk.i64_in _ (by omega)
          have hwi1 : IntKind.i64.wrap ((i : Int) + 1) = (i : Int) + 1 := IntWalk.i64_in _ (by omega)
          have nb0 : ¬ (b.length : Int) ≤ (i : Int) := by omega
          have nb1 : ¬ (b.length : Int) ≤ (i : Int) + 1 := by omega
          have HDR := Lib.hid hdr
          clear hbt hxe hye hdr
          go_wp2_with fail
          go_quiet (fail)
          have hqb := below_drewN wr nq
          have HR2 := Lib.hid (HRX.out.below hqb)
          have HB2 : Hid (Below w.heap.size w (wr.drewN nq)) := Lib.hid (Below.drewN' HB.out nq)
          have HW2 : Hid (Below wo.heap.size wo (wr.drewN nq)) := Lib.hid (Below.drewN' HW.out nq)
          clear hqb hx1 hy1 hx7 v1 v2 v3 v4 v5 hgz
          generalize wr.drewN nq = w2 at *
          have hgz := HR2.out.le
          obtain ⟨v1, v2, v3, v4, v5⟩ := blkFacts HR2.out.b (by simp)
          by_cases hx : x = 255
          · have hxn : x.toNat = 255 := by rw [hx]; rfl
            have d3 : ((x.toNat : Int) == 255) = true := by simp [hxn]
            have hrd := HE.out
            rw [hm, HDR.out, hx, readOps_data] at hrd
            have HM1 := Lib.hid hm
            have hwy : IntKind.i64.wrap ((i : Int) + 2 + (y.toNat : Int)) = (i : Int) + 2 + (y.toNat : Int) := IntWalk.i64_in _ (by omega)
            clear hm hxn
            by_cases hy : b.length < i + 2 + y.toNat
            · have d4 : decide ((b.length : Int) < (i : Int) + 2 + (y.toNat : Int)) = true := decide_eq_true (by omega)
              have hz : pr = (Pat.zero, 7) := by
                rw [HPR.out, ← hrd, if_pos (by rw [List.length_drop]; omega)]; unfold readDone; rw [if_pos (by decide)]
              have HZZ := Lib.hid hz
              have HRX := HR2
              clear hz hrd
              go_wp2_with fail
              refine (bad_calls _ _).mono ?_
              rintro e wz ⟨rfl, hbz⟩
              have hz1 := blk_below HRX.out.z hbz
              obtain ⟨z1, z2, z3, z4, z5⟩ := blkFacts hz1 (by simp [patA])
              have HBZ : Hid (Below w.heap.size w wz) := Lib.hid (HB2.out.trans (hbz.mono HB2.out.size))
              clear hbz hz1
              go_wp2_with fail
              refine bodyPost_ret (results_ct rfl rfl (cs := patA 0 0 0 0 0 none 0 0) (by go_simp) (by go_simp) (by go_simp)) rfl ?_
              rw [HZZ.out]
              exact ⟨none, 0, rfl, patIn_zero _, below_row HBZ.out (by have := HGE.out; omega) _, fun _ _ => patIn_zero _⟩
            · have d4 : decide ((b.length : Int) < (i : Int) + 2 + (y.toNat : Int)) = false := decide_eq_false (by omega)
              rw [if_neg (by rw [List.length_drop]; omega)] at hrd
              have HNX : Hid (readOps (N - (k + 1)) (b.drop (i + 2 + y.toNat)) (acc ++ [⟨0, 0, (b.drop (i + 2)).take y.toNat⟩]) = R) := Lib.hid (by rw [show N - (k + 1) = m by have := HM1.out; omega, ← List.drop_drop]; exact hrd)
              obtain ⟨o3, c3, hc3, hB3, hsl3⟩ := mid_slice (z1 := (i : Int) + 2) (z2 := (i : Int) + 2 + (y.toNat : Int)) (i + 2) y.toNat (by simp) (by simp) hc (by omega) (HBT.out w2 HW2.out)
              have HB3 := Lib.hid hB3
              have HSL3 := Lib.hid hsl3
              have HWY := Lib.hid hwy
              have HTL : Hid (((b.drop (i + 2)).take y.toNat).length = y.toNat) := Lib.hid (by simp; omega)
              clear hrd hB3 hsl3
              go_wp2_with fail
              refine wp_region_mix (by kernel_rfl) (some 100 :: some 101 :: some 102 :: some 103 :: some 104 :: some 105 :: some 106 :: some 107 :: some 108 :: some 109 :: some 110 :: some 111 :: none :: []) (none :: none :: none :: none :: none :: none :: none :: none :: none :: some 0 :: some 1 :: none :: some 2 :: []) (.pointer (some ⟨g0 + 2, 5, none⟩) :: .slice A acc.length c0 :: .slice (some ⟨ab, ao, none⟩) b.length c :: .int .i64 ((i : Int) + 2) :: .int .i64 ((i : Int) + 2) :: .int .i64 (y.toNat : Int) :: .int .i64 ((i : Int) + 2 + (y.toNat : Int)) :: .slice (some ⟨ab, o3, none⟩) y.toNat c3 :: .agg #[iv 0, iv 0, .slice (some ⟨ab, o3, none⟩) y.toNat c3] :: undef :: undef :: .pointer (some ⟨g0 + 2, 5, none⟩) :: undef :: []) 3 (apJ w2 (g0 + 3) 31 3 A acc.length c0 (opCells acc ds) [iv 0, iv 0, .slice (some ⟨ab, o3, none⟩) y.toNat c3] 1 9 10 (apF w2 (g0 + 3) 31 3 A acc.length c0 (opCells acc ds) [iv 0, iv 0, .slice (some ⟨ab, o3, none⟩) y.toNat c3] 1 (g0 + 2) 5)) 140 rfl rfl (by decide +kernel) (by decide +kernel) (by decide +kernel) (by decide +kernel) rfl rfl (by decide +kernel) (by decide +kernel) (rfl) ?_ ?_
              · refine ⟨?_, ?_⟩
                · intro done cv k0 a wq hw h hJ hn
                  have e6 := mx_old (t := 6) (v := .pointer (some ⟨g0 + 2, 0, none⟩)) h rfl rfl
                  go_simp
                refine ⟨?_, ?_⟩
                · intro done cv k0 a wq hw h hJ hn
                  have e100 := mx_new (i := 0) (t := 100) h (hw 0 (by decide)) rfl rfl rfl
                  have hk := hn 10 _ 1 rfl rfl (by decide)
                  have hc : wq.cell? ⟨g0 + 2, 5, none⟩ = some (.slice A acc.length c0) := by rw [cell_of_row _ _ _ _ _ _ (apJ_blk hk hJ HR2.out.p)]; rfl
                  go_simp
                refine ⟨?_, ?_⟩
                · intro done cv k0 a wq hw h hJ hn
                  have e1 := mx_old (t := 1) (v := .pointer (some ⟨g0, 0, none⟩)) h rfl rfl
                  have hc : wq.cell? ⟨g0, 0, none⟩ = some (.slice (some ⟨ab, ao, none⟩) b.length c) := by rw [cell_of_row _ _ _ _ _ _ (apJ_any hJ HR2.out.b (own_far HR2.out.row.row (by omega)) (by omega))]; rfl
                  go_simp
                refine ⟨?_, ?_⟩
                · intro done cv k0 a wq hw h hJ hn
                  have e7 := mx_old (t := 7) (v := .int .i64 ((i : Int) + 2)) h rfl rfl
                  exact mx_move (ch_ev e7)
                refine ⟨?_, ?_⟩
                · intro done cv k0 a wq hw h hJ hn
                  have e7 := mx_old (t := 7) (v := .int .i64 ((i : Int) + 2)) h rfl rfl
                  exact mx_move (ch_ev e7)
                refine ⟨?_, ?_⟩
                · intro done cv k0 a wq hw h hJ hn
                  have e10 := mx_old (t := 10) (v := .int .i64 (y.toNat : Int)) h rfl rfl
                  exact mx_move (ch_ev e10)
                refine ⟨?_, ?_⟩
                · intro done cv k0 a wq hw h hJ hn
                  have e104 := mx_new (i := 4) (t := 104) h (hw 4 (by decide)) rfl rfl rfl; have e105 := mx_new (i := 5) (t := 105) h (hw 5 (by decide)) rfl rfl rfl
                  have hw2 := HWY.out
                  go_simp
                refine ⟨?_, ?_⟩
                · intro done cv k0 a wq hw h hJ hn
                  have e102 := mx_new (i := 2) (t := 102) h (hw 2 (by decide)) rfl rfl rfl; have e103 := mx_new (i := 3) (t := 103) h (hw 3 (by decide)) rfl rfl rfl; have e106 := mx_new (i := 6) (t := 106) h (hw 6 (by decide)) rfl rfl rfl
                  have hsl := HSL3.out
                  go_simp
                refine ⟨?_, ?_⟩
                · intro done cv k0 a wq hw h hJ hn
                  have e107 := mx_new (i := 7) (t := 107) h (hw 7 (by decide)) rfl rfl rfl
                  go_simp
                refine ⟨?_, ?_⟩
                · intro done cv a wq hw h hJ
                  have e108 := mx_new (i := 8) (t := 108) h (hw 8 (by decide)) rfl rfl rfl
                  obtain rfl : wq = w2.drew := hJ
                  exact wp_sbo e108 ⟨_, rfl, rfl, by simp⟩
                refine ⟨?_, ?_⟩
                · intro done cv a wq hw h hJ
                  have e101 := mx_new (i := 1) (t := 101) h (hw 1 (by decide)) rfl rfl rfl; have e109 := mx_cv (i := 9) (t := 109) h (hw 9 (by decide)) rfl rfl
                  obtain ⟨rfl, y1⟩ := hJ
                  rw [y1] at e109
                  refine wp_app _ (.tmp 101) (.tmp 109) 23 rfl elOps (g0 + 3) A acc.length c0 (opCells acc ds) (ch_ev e101) (HR2.out.row.row.drew.alloc _) (some ⟨w2.heap.size, 0, none⟩) 1 1 [iv 0, iv 0, .slice (some ⟨ab, o3, none⟩) y.toNat c3] (ch_ev e109) (src_blk (blk_top (by simp))) rfl (by simp [Value.oneCell']) (by omega) (by have := HR2.out.le; simp; omega) ?_
                  intro A' c' w' hown hgr hbel hor
                  exact ⟨_, rfl, apJ_app hown hgr hbel hor HR2.out.le⟩
                refine ⟨?_, ?_⟩
                · intro done cv k0 a wq hw h hJ hn
                  have e6 := mx_old (t := 6) (v := .pointer (some ⟨g0 + 2, 0, none⟩)) h rfl rfl
                  go_simp
                refine ⟨?_, ?_⟩
                · intro done cv a wq hw h hJ
                  have e111 := mx_new (i := 11) (t := 111) h (hw 11 (by decide)) rfl rfl rfl; have e110 := mx_cv (i := 10) (t := 110) h (hw 10 (by decide)) rfl rfl
                  obtain ⟨A2, c2, y1, k3, k1, k2, k4⟩ := hJ
                  rw [y1] at e110
                  have hp := (k2 (g0 + 2) (by have := HR2.out.le; omega) (own_far HR2.out.row.row (by omega))).trans HR2.out.p
                  obtain ⟨q1, q2, q3, q4, q5⟩ := blkFacts hp (by simp [patA])
                  exact wp_sso e111 e110 ((q3 5).trans rfl) (q4 5) ⟨undef, rfl, A2, c2, wq, rfl, k3, k1, k2, k4⟩
                exact trivial
              · rintro cv w3 ⟨A2, c2, wq, rfl, hown, hbel, hk2, hor⟩
                simp only [mixAll, putAll_some, putAll_none, putAll_nil, List.getElem?_cons_zero, List.getElem?_cons_succ, Nat.zero_add, Nat.reduceAdd, List.setIfInBounds_toArray, List.set_cons_zero, List.set_cons_succ]
                obtain ⟨⟨ds', hrd⟩, hp5⟩ := HR2.out.push (x := ⟨0, 0, (b.drop (i + 2)).take y.toNat⟩) (e := (some ⟨ab, o3, none⟩, c3)) (by unfold opCell; dsimp only; rw [HTL.out]; exact hown) hbel hk2 hor HB3.out (by dsimp only; rw [HTL.out]; exact hc3) (fun q e => by injection e with e; have e3 : ab = q := e; exact ⟨by omega, by rw [← e3]; rfl⟩) ⟨⟨by dsimp only; omega, by dsimp only; omega⟩, ⟨by dsimp only; omega, by dsimp only; omega⟩, by dsimp only; rw [HTL.out]; omega⟩
                have HRD5 := Lib.hid hrd
                have HB5 : Hid (Below w.heap.size w (wq.setCell ⟨g0 + 2, 5, none⟩ (.slice A2 (acc.length + 1) c2))) := Lib.hid ((HB2.out.trans (hbel.mono (by have := HGE.out; omega))).setCell (p := ⟨g0 + 2, 5, none⟩) (by have := HGE.out; show w.heap.size ≤ g0 + 2; omega) _)
                have HW5 : Hid (Below wo.heap.size wo (wq.setCell ⟨g0 + 2, 5, none⟩ (.slice A2 (acc.length + 1) c2))) := Lib.hid ((HW2.out.trans (hbel.mono (by omega))).setCell (p := ⟨g0 + 2, 5, none⟩) (by show wo.heap.size ≤ g0 + 2; omega) _)
                clear hown hbel hk2 hor hrd hp5 v1 v2 v3 v4 v5
                go_wp2_with fail
                go_roundw
                case rel => exact ⟨k + 1, i + 2 + y.toNat, acc ++ [⟨0, 0, (b.drop (i + 2)).take y.toNat⟩], ds', A2, c2, by go_num, by go_num, by omega, by omega, by omega, by simp; omega, HNX, HRD5, HB5, HW5⟩
                case measure => simp [intOf]; omega
          · have d3 : ((x.toNat : Int) == 255) = false := by
              have : x.toNat ≠ 255 := fun e => hx (UInt8.toNat_inj.1 (by rw [e]; rfl))
              simp; omega
            have hrd := HE.out
            rw [hm, HDR.out] at hrd
            have HM1 := Lib.hid hm
            clear hm
            by_cases hy : y = 0
            · subst hy
              have d4 : (((0 : UInt8).toNat : Int) == 0) = true := by decide
              rw [readOps_zero hx] at hrd
              have hz : pr = (Pat.zero, 3) := by
                rw [HPR.out, ← hrd]; unfold readDone; rw [if_pos (by decide)]
              have HZZ := Lib.hid hz
              have HRX := HR2
              clear hz hrd
              go_wp2_with fail
              refine (bad_calls _ _).mono ?_
              rintro e wz ⟨rfl, hbz⟩
              have hz1 := blk_below HRX.out.z hbz
              obtain ⟨z1, z2, z3, z4, z5⟩ := blkFacts hz1 (by simp [patA])
              have HBZ : Hid (Below w.heap.size w wz) := Lib.hid (HB2.out.trans (hbz.mono HB2.out.size))
              clear hbz hz1
              go_wp2_with fail
              refine bodyPost_ret (results_ct rfl rfl (cs := patA 0 0 0 0 0 none 0 0) (by go_simp) (by go_simp) (by go_simp)) rfl ?_
              rw [HZZ.out]
              exact ⟨none, 0, rfl, patIn_zero _, below_row HBZ.out (by have := HGE.out; omega) _, fun _ _ => patIn_zero _⟩
            · have hyn : y.toNat ≠ 0 := fun e => hy (UInt8.toNat_inj.1 (by rw [e]; rfl))
              have d4 : ((y.toNat : Int) == 0) = false := by simp; omega
              rw [readOps_copy hx hy] at hrd
              have HNX : Hid (readOps (N - (k + 1)) (b.drop (i + 2)) (acc ++ [⟨(x.toNat : Int), (y.toNat : Int), []⟩]) = R) := Lib.hid (by rw [show N - (k + 1) = m by have := HM1.out; omega]; exact hrd)
              clear hrd hyn
              obtain ⟨q1, q2, q3, q4, q5⟩ := blkFacts HR2.out.p (by simp [patA])
              have hoa := HR2.out.row.row.alloc (.cells #[.int .i64 (x.toNat : Int), .int .i64 (y.toNat : Int), .slice none 0 0] 31)
              have hs1 : Src (w2.alloc (.cells #[.int .i64 (x.toNat : Int), .int .i64 (y.toNat : Int), .slice none 0 0] 31)) (some ⟨w2.heap.size, 0, none⟩) [.int .i64 (x.toNat : Int), .int .i64 (y.toNat : Int), .slice none 0 0] := src_blk (blk_top rfl)
              have hob : acc.length + 1 ≤ 137438953472 := by omega
              have hle : g0 + 3 ≤ (w2.alloc (.cells #[.int .i64 (x.toNat : Int), .int .i64 (y.toNat : Int), .slice none 0 0] 31)).heap.size := by simp; omega
              go_wp2_with (at_builtin; go_must (refine wpList_app (w2.alloc (.cells #[.int .i64 (x.toNat : Int), .int .i64 (y.toNat : Int), .slice none 0 0] 31)) rfl _ _ 23 rfl elOps (g0 + 3) A acc.length c0 (opCells acc ds) rfl hoa (some ⟨w2.heap.size, 0, none⟩) 1 1 [.int .i64 (x.toNat : Int), .int .i64 (y.toNat : Int), .slice none 0 0] rfl hs1 rfl (by simp [Value.oneCell']) hob hle ?_))
              intro A' c' w5 hown hgr hbel hor
              have hb5 : Below (g0 + 3) w2 w5 := ((Below.refl _ _).alloc (by omega) _).trans hbel
              have hk2 : ∀ q, q < w2.heap.size → A.map (·.block) ≠ some q → w5.heap[q]? = w2.heap[q]? := fun q h1 h2 => (hgr.block q (by simp; omega) (fun e => h2 e.symm)).trans (Below.heap_alloc w2 _ q h1)
              have hor2 : A'.map (·.block) = A.map (·.block) ∨ ∀ q, A'.map (·.block) = some q → w2.heap.size ≤ q := by
                rcases hor with h | h
                · exact .inl h
                · exact .inr (fun q e => by obtain ⟨ad, e1, e2⟩ := h; rw [e1] at e; simp at e; omega)
              obtain ⟨⟨ds', hrd⟩, hp5⟩ := HR2.out.push (x := ⟨(x.toNat : Int), (y.toNat : Int), []⟩) (e := (none, 0)) hown hb5 hk2 hor2 (Bts.nil _ _) (Nat.le_refl _) (fun q e => by cases e) ⟨⟨by dsimp only; omega, by dsimp only; omega⟩, ⟨by dsimp only; omega, by dsimp only; omega⟩, by simp⟩
              obtain ⟨p1, p2', p3', p4', p5⟩ := blkFacts hp5 (by simp [patA])
              have HRD5 := Lib.hid hrd
              have HB5 : Hid (Below w.heap.size w (w5.setCell ⟨g0 + 2, 5, none⟩ (.slice A' (acc.length + 1) c'))) := Lib.hid ((HB2.out.trans (hb5.mono (by have := HGE.out; omega))).setCell (p := ⟨g0 + 2, 5, none⟩) (by have := HGE.out; show w.heap.size ≤ g0 + 2; omega) _)
              have HW5 : Hid (Below wo.heap.size wo (w5.setCell ⟨g0 + 2, 5, none⟩ (.slice A' (acc.length + 1) c'))) := Lib.hid ((HW2.out.trans (hb5.mono (by omega))).setCell (p := ⟨g0 + 2, 5, none⟩) (by show wo.heap.size ≤ g0 + 2; omega) _)
              clear hown hgr hbel hor hoa hs1 hob hle hrd hp5 hb5 hk2 hor2 v1 v2 v3 v4 v5 q1 q2 q3 q4 q5
              go_wp2_with fail
              go_roundw
              case rel => exact ⟨k + 1, i + 2, acc ++ [⟨(x.toNat : Int), (y.toNat : Int), []⟩], ds', A', c', by go_num, by go_num, by omega, by omega, by omega, by simp; omega, HNX, HRD5, HB5, HW5⟩
              case measure => simp [intOf]; omega
      · obtain rfl : k = N := by omega
        have dl : decide ((k : Int) < (k : Int)) = false := by simp
        have hR2 : R = (0, acc, b.drop i) := by rw [← HE.out, Nat.sub_self, readOps_nil]
        rw [hR2] at HPR
        clear hR2 HE
        by_cases hre : i < b.length
        · have d2 : decide ((i : Int) < (b.length : Int)) = true := decide_eq_true (by omega)
          have hz : pr = (Pat.zero, 7) := by
            rw [HPR.out]; unfold readDone; rw [if_neg (by simp), if_pos (by intro e; have := congrArg List.length e; rw [List.length_drop] at this; simp at this; omega)]
          have HZZ := Lib.hid hz
          clear hz
          go_wp2_with fail
          refine (bad_calls _ _).mono ?_
          rintro e wz ⟨rfl, hbz⟩
          have hz1 := blk_below HRX.out.z hbz
          obtain ⟨z1, z2, z3, z4, z5⟩ := blkFacts hz1 (by simp [patA])
          have HBZ : Hid (Below w.heap.size w wz) := Lib.hid (HB.out.trans (hbz.mono HB.out.size))
          clear hbz hz1
          go_wp2_with fail
          refine bodyPost_ret (results_ct rfl rfl (cs := patA 0 0 0 0 0 none 0 0) (by go_simp) (by go_simp) (by go_simp)) rfl ?_
          rw [HZZ.out]
          exact ⟨none, 0, rfl, patIn_zero _, below_row HBZ.out (by have := HGE.out; omega) _, fun _ _ => patIn_zero _⟩
        · have d2 : decide ((i : Int) < (b.length : Int)) = false := decide_eq_false (by omega)
          have hdn : b.drop i = [] := List.drop_eq_nil_of_le (by omega)
          have hdone : pr = if patCheck ⟨p0, p1, p2, p3, p4, acc⟩ ≠ 0 then (Pat.zero, patCheck ⟨p0, p1, p2, p3, p4, acc⟩) else (⟨p0, p1, p2, p3, p4, acc⟩, 0) := by
            rw [HPR.out, hdn]; unfold readDone; rw [if_neg (by simp), if_neg (by simp), HHEAD.out]
          have HDN := Lib.hid hdone
          obtain ⟨q1, q2, q3, q4, q5⟩ := blkFacts HRX.out.p (by simp [patA])
          have HCK := Lib.hid (refPatCheckR_calls A c0 p0 p1 p2 p3 p4 acc wr (by omega) (HRX.out.row.sps HRX.out.bd))
          clear hdone hdn HHEAD HPR
          by_cases hck : patCheck ⟨p0, p1, p2, p3, p4, acc⟩ = 0
          · have hz : pr = (⟨p0, p1, p2, p3, p4, acc⟩, 0) := by rw [HDN.out, if_neg (by simpa using hck)]
            rw [hck] at HCK
            have HZZ := Lib.hid hz
            clear hz hck HDN
            go_wp2_with fail
            refine HCK.out.mono ?_
            rintro e w6 ⟨rfl, hb6⟩
            have HRD6 := Lib.hid (HRX.out.below hb6)
            have HB6 : Hid (Below w.heap.size w w6) := Lib.hid (HB.out.trans (hb6.mono HB.out.size))
            clear hb6 v1 v2 v3 v4 v5 q1 q2 q3 q4 q5
            obtain ⟨z1, z2, z3, z4, z5⟩ := blkFacts HRD6.out.z (by simp [patA])
            obtain ⟨q1, q2, q3, q4, q5⟩ := blkFacts HRD6.out.p (by simp [patA])
            have ng : ¬ g0 + 2 = g0 + 1 := by omega
            go_wp2_with fail
            refine bodyPost_ret (results_ct rfl rfl (cs := patA p0 p1 p2 p3 p4 A acc.length c0) (by go_simp) (by go_simp) (by go_simp)) rfl ?_
            rw [HZZ.out]
            have hpin : ∀ v : World, (∀ k, g0 + 3 ≤ k ∨ sliceBlk (.slice (some ⟨ab, ao, none⟩) b.length c) = some k → k < w6.heap.size → v.heap[k]? = w6.heap[k]?) → PatIn v ⟨p0, p1, p2, p3, p4, acc⟩ A c0 := fun v hv => by
              refine ⟨HRD6.out.row.row.le, by dsimp only; omega, HRD6.out.row.freshB (fun i e h k hk => (HRD6.out.nd i e h k hk).2) HRD6.out.bd hv, ?_, ?_, ?_, ?_, ?_⟩
              all_goals (obtain ⟨f1, f2, f3, f4, f5, f6, f7, f8, f9, f10⟩ := HFB.out; exact ⟨by dsimp only; omega, by dsimp only; omega⟩)
            have hab2 := HAB.out
            have hge2 := HGE.out
            refine ⟨A, c0, rfl, hpin _ (fun k hk _ => setRow_other _ _ _ _ (fun e => ?_)), below_row HB6.out (by have := HGE.out; omega) _, fun v hv => hpin v (fun k hk hlt => (hv k ?_ (by simpa [World.setRow] using hlt)).trans (setRow_other _ _ _ _ (fun e => ?_)))⟩
            · rcases hk with h | h
              · omega
              · have h3 : ab = k := by injection h
                omega
            · rcases hk with h | h
              · exact .inl (by omega)
              · exact .inr h
            · rcases hk with h | h
              · omega
              · have h3 : ab = k := by injection h
                omega
          · have hz : pr = (Pat.zero, patCheck ⟨p0, p1, p2, p3, p4, acc⟩) := by rw [HDN.out, if_pos hck]
            have d5 : (patCheck ⟨p0, p1, p2, p3, p4, acc⟩ != 0) = true := by simp [hck]
            have HZZ := Lib.hid hz
            clear hz hck HDN
            generalize patCheck ⟨p0, p1, p2, p3, p4, acc⟩ = ck at *
            go_wp2_with fail
            refine HCK.out.mono ?_
            rintro e w6 ⟨rfl, hb6⟩
            have HRX := Lib.hid (HRX.out.below hb6)
            have HB6 : Hid (Below w.heap.size w w6) := Lib.hid (HB.out.trans (hb6.mono HB.out.size))
            clear hb6 v1 v2 v3 v4 v5 q1 q2 q3 q4 q5
            go_wp2_with fail
            refine (bad_calls _ _).mono ?_
            rintro e wz ⟨rfl, hbz⟩
            have hz1 := blk_below HRX.out.z hbz
            obtain ⟨z1, z2, z3, z4, z5⟩ := blkFacts hz1 (by simp [patA])
            have HBZ : Hid (Below w.heap.size w wz) := Lib.hid (HB6.out.trans (hbz.mono HB6.out.size))
            clear hbz hz1
            go_wp2_with fail
            refine bodyPost_ret (results_ct rfl rfl (cs := patA 0 0 0 0 0 none 0 0) (by go_simp) (by go_simp) (by go_simp)) rfl ?_
            rw [HZZ.out]
            exact ⟨none, 0, rfl, patIn_zero _, below_row HBZ.out (by have := HGE.out; omega) _, fun _ _ => patIn_zero _⟩
theorem refPatReadS_calls (A : Option Addr) (c : Nat) (b : List UInt8) (w : World) (hc : b.length ≤ c) (hB : Bts w A b) :
    Calls Try.prog 40 #[.slice A b.length c] w (PsRet w A (patRead b).1 (patRead b).2) := by
  by_cases h : 400 < b.length ∨ b.length < 8
  · exact refPatRead_short A c b w h
  · exact refPatRead_long A c b w hc (by omega) (by omega) hB
theorem refPatRead_calls (A : Option Addr) (c : Nat) (b : List UInt8) (w : World) (hc : b.length ≤ c) (hB : Bts w A b) :
    Calls Try.prog 40 #[.slice A b.length c] w (PnRet w (patRead b).1 (patRead b).2) :=
  (refPatReadS_calls A c b w hc hB).mono fun _ _ ⟨A', c', h1, h2, h3, _⟩ => ⟨A', c', h1, h2, h3⟩
end Go.Proofs.Ytefkfglkpebbmab
