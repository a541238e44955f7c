/- Walks of functions, and plain words. No conditions. -/
import Derived.Test.YtefkfglkpebbmacPE1
import Derived.StillTailTactics
import Derived.Laws.StructEq
import Derived.Deep.LoopGhost
set_option linter.unusedVariables false
set_option linter.unusedSimpArgs false
set_option maxRecDepth 100000
set_option maxHeartbeats 40000000
namespace Go.Proofs.Ytefkfglkpebbmac
open Go.RowKit
variable {w : World} {A : Option Addr} {base c : Nat} {l : List Stp} {ds : List (Option Addr × Nat)} {x y : Stp}
def ByRet2 (w : World) (l : List UInt8) (n : Int) : Ending → World → Prop := fun en w' =>
 ∃ A c, en = .returned (.tuple #[.slice A l.length c, iv n]) ∧ Bts w' A l ∧ l.length ≤ c ∧ Below w.heap.size w w'
theorem Bts.drop {b o : Nat} {l : List UInt8} (h : Bts w (some ⟨b, o, none⟩) l) (k : Nat) : Bts w (some ⟨b, o + k, none⟩) (l.drop k) := by
 intro i hi
 simp only [List.length_drop] at hi
 obtain ⟨b', o', hA, hlt, hc⟩ := h (k + i) (by omega)
 injection hA with hA
 injection hA with e1 e2
 subst e1 e2
 refine ⟨b, o + k, rfl, hlt, ?_⟩
 rw [Nat.add_assoc, hc]; simp
theorem Bts.take {l : List UInt8} (h : Bts w A l) (k : Nat) : Bts w A (l.take k) := by
 intro i hi
 simp only [List.length_take] at hi
 obtain ⟨b, o, hA, hlt, hc⟩ := h i (by omega)
 exact ⟨b, o, hA, hlt, by rw [hc]; simp⟩
theorem mid_bts (c : Nat) {old : List UInt8} {a n : Nat} (h : Bts w A old) (hc : old.length ≤ c) (hn : a + n ≤ old.length) : Bts w (if c = a then A else Option.map (fun x => x.add a) A) ((old.drop a).take n) := by
 by_cases e : n = 0
 ·subst e; rw [List.take_zero]; exact Bts.nil _ _
 ·obtain ⟨b, o, rfl, hlt, _⟩ := h 0 (by omega)
  rw [if_neg (by omega)]
  have e2 : Option.map (fun x : Addr => x.add a) (some ⟨b, o, none⟩) = some ⟨b, o + a, none⟩ := by simp [Addr.add]
  rw [e2]
  exact (h.drop a).take n
theorem deltaApply_bad (A : Option Addr) (c : Nat) (old : List UInt8) (B : Option Addr) (d : Nat) (l : List Stp) (size : Int) (w : World) (ho : old.length ≤ 1048576) (hl : l.length ≤ 1048576) (hr : Sps w B l) (h : deltaCheck l old.length size ≠ 0) :
  Calls Try.prog 15 #[.slice A old.length c, .slice B l.length d, iv size] w (RetB w (.tuple #[.slice none 0 0, iv (deltaCheck l old.length size)])) := by
 have hb : (deltaCheck l old.length size != 0) = true := by simp [h]
 clear h
 go_enter Try.func15, Try.ntmps15
 go_wp2_with fail
 refine (deltaCheck_calls B d l old.length size w hl hr).mono ?_
 rintro e w1 ⟨rfl, hb1⟩
 go_wp2_with fail
 go_ret2
 exact ⟨rfl, hb1⟩
theorem deltaApply_ok (A : Option Addr) (c : Nat) (old : List UInt8) (B : Option Addr) (d : Nat) (l : List Stp) (size : Int) (w : World) (hc : old.length ≤ c) (hA : Bts w A old) (hl : l.length ≤ 1048576) (hr : Sps w B l) (h : deltaCheck l old.length size = 0) :
  Calls Try.prog 15 #[.slice A old.length c, .slice B l.length d, iv size] w (ByRet2 w (applied old l) 0) := by
 have hd := deltaCheck_ok.1 h
 have hc0 : ∀ w, Calls Try.prog 19 #[.slice B l.length d, iv (old.length : Int), iv size] w (RetB w (iv (deltaCheck l old.length size))) → Calls Try.prog 19 #[.slice B l.length d, iv (old.length : Int), iv size] w (RetB w (iv 0)) := by
  intro w hw; rw [h] at hw; exact hw
 have hcc := hc0 w (deltaCheck_calls B d l old.length size w hl hr)
 have HC := Lib.hid hcc
 have HD := Lib.hid hd
 have ho1 := hd.o1
 have hm := hd.many
 clear hc0 hcc h hd
 go_enter Try.func15, Try.ntmps15
 go_wp2_with fail
 refine HC.out.mono ?_
 rintro e w1 ⟨rfl, hb1⟩
 have HB1 := Lib.hid hb1
 clear hb1
 go_wp2_with fail
 go_loopw [9, 22] (fun v i wr => ∃ (k : Nat) (C : Option Addr) (cc : Nat), k ≤ l.length ∧ i = .int .i64 k ∧ v = .slice C (applied old (l.take k)).length cc ∧ (applied old (l.take k)).length ≤ cc ∧ Bts wr C (applied old (l.take k)) ∧ Hid (Below w.heap.size w wr)) (fun _ i _ => l.length - (intOf i).toNat)
 case atStart => exact ⟨0, none, 0, Nat.zero_le _, rfl, rfl, Nat.le_refl _, Bts.nil _ _, HB1⟩
 case round =>
  obtain ⟨k, C, cc, hk, rfl, rfl, hcl, hC, HB⟩ := hrel
  by_cases hlt : k < l.length
  ·obtain ⟨b, o, D, dd, rfl, hs, hc0, hc1, hc2, hd1, hd2, hD, hi0, hi1⟩ := (hr.stays HB.out).at_ hlt
   have hsz := HB.out.size
   have hx : l.take (k + 1) = l.take k ++ [l[k]] := List.take_succ_eq_append_getElem hlt
   obtain ⟨hform, hin⟩ := HD.out.each _ (List.getElem_mem hlt)
   have hlen : (applied old (l.take (k + 1))).length ≤ 64 := by
    have h1 := applied_len (old := old) (l := l.take (k + 1)) (fun o ho => (HD.out.each o (List.mem_of_mem_take ho)).2)
    have h2 := HD.out.take (k + 1)
    have := h2.2.2.2
    have := HD.out.s1
    omega
   have happ : applied old (l.take (k + 1)) = applied old (l.take k) ++ l[k].piece old := by rw [hx, applied_append, applied_one]
   have HX := Lib.hid happ
   rw [happ] at hlen
   clear happ hx hform
   generalize hx : l[k] = x at *
   clear hx
   obtain ⟨at_, len, data⟩ := x
   unfold Stp.in_ at hin
   dsimp only at *
   obtain ⟨j1, j2, j3⟩ := hin
   obtain ⟨n, rfl⟩ := Int.eq_ofNat_of_zero_le j1
   obtain ⟨a, rfl⟩ := Int.eq_ofNat_of_zero_le j2
   have j4 : a + n ≤ old.length := by omega
   clear j1 j2 hi0 hi1
   generalize hp : applied old (l.take k) = pre at *
   clear hp
   have hpl : pre.length ≤ 64 := by rw [List.length_append] at hlen; omega
   have hdl : data.length ≤ 64 := by rw [List.length_append] at hlen; simp only [Stp.piece, List.length_append] at hlen; omega
   clear hlen
   have w1' : IntKind.i64.wrap ((a : Int) + (n : Int)) = (a : Int) + (n : Int) := IntWalk.i64_in _ (by omega)
   have w2 : ((a : Int) + (n : Int)).toNat = a + n := by omega
   have w3 : (0 : Int) ≤ (a : Int) := by omega
   have w4 : (a : Int) ≤ (a : Int) + (n : Int) := by omega
   have w5 : (a : Int) + (n : Int) ≤ (c : Int) := by omega
   have w6 : a + n - a = n := by omega
   have hMM : ∀ w', Below wr.heap.size wr w' → Bts w' (if c = a then A else Option.map (fun x => x.add a) A) ((old.drop a).take n) := fun w' hb => (mid_bts c (hA.stays HB.out) hc j4).stays hb
   have hml : ((old.drop a).take n).length = n := by simp; omega
   have HM := Lib.hid hMM
   have HML := Lib.hid hml
   have hDs : ∀ w', Below wr.heap.size wr w' → Bts w' D data := fun w' hb => hD.stays hb
   have hCs : ∀ w', Below wr.heap.size wr w' → Bts w' C pre := fun w' hb => hC.stays hb
   have HDs := Lib.hid hDs
   have HCs := Lib.hid hCs
   clear hMM hml hDs hCs hD hC
   go_wp2_with fail
   refine wp_region_still_tail 12 (by kernel_rfl) (by kernel_rfl) ?_
   change wpStill _ _ ((wr.alloc _).drew) _ _ _
   simp only [List.take_succ_cons, List.take_zero, List.drop_succ_cons, List.drop_zero]
   repeat still_step
   refine wpStill_nil ?_
   generalize (if c = a then A else Option.map (fun x => x.add a) A) = M at *
   have hb0 : Below wr.heap.size wr ((wr.alloc (.cells #[.int .i64 a, .int .i64 n, .slice D data.length dd] 117)).drew) := ((Below.refl _ _).alloc (Nat.le_refl _) _).drew
   change wpList _ _ _ _ _ ((wr.alloc (.cells #[.int .i64 a, .int .i64 n, .slice D data.length dd] 117)).drew)
   have HB0 := Lib.hid hb0
   have hs0 : wr.heap.size < ((wr.alloc (.cells #[.int .i64 a, .int .i64 n, .slice D data.length dd] 117)).drew).heap.size := by simp
   clear hb0
   generalize (wr.alloc (.cells #[.int .i64 a, .int .i64 n, .slice D data.length dd] 117)).drew = w2 at *
   have HT : Hid (applied old (l.take (k + 1)) = pre ++ (old.drop a).take n ++ data) := by
    refine Lib.hid ?_
    rw [HX.out]
    simp [Stp.piece]
   clear HX
   go_wp2_with fail
   have hcat := concat3_calls (w := w2.alloc (.cells #[.slice C pre.length cc, .slice M n (c - a), .slice D data.length dd] 22)) (g := w2.heap.size) (A := C) (B := M) (C := D) (a := pre) (b := (old.drop a).take n) (l := data) (c := cc) (d := c - a) (k := dd) (t := 22) (fr := (0, 0))
    (by rw [HML.out]; exact blk_top rfl) (by rw [HML.out]; omega) (HCs.out _ (HB0.out.alloc HB0.out.size _)) (HM.out _ (HB0.out.alloc HB0.out.size _)) (HDs.out _ (HB0.out.alloc HB0.out.size _))
   refine hcat.mono ?_
   rintro e w3 ⟨C', c', rfl, hown, hb3⟩
   have HO := Lib.hid hown
   have HB3 : Hid (Below w.heap.size w w3) := Lib.hid ((HB.out.trans (HB0.out.mono hsz)).trans ((((Below.refl _ _).alloc (Nat.le_refl _) _).mono (by omega)).trans (hb3.mono (by simp; omega))))
   clear hcat hown hb3
   go_wp2_with fail
   go_roundw
   case rel =>
    refine ⟨k + 1, C', c', by omega, by go_num, by rw [HT.out]; simp, ?_, ?_, HB3⟩
    ·rw [HT.out]; exact HO.out.le
    ·rw [HT.out]; exact HO.out.src.bts
   case measure => simp [intOf]; omega
  ·obtain rfl : k = l.length := by omega
   rw [List.take_length] at hcl hC
   go_wp2_with fail
   exact bodyPost_ret (results_tmp2 rfl _ _ _) rfl ⟨C, cc, by simp, hC, hcl, HB.out⟩
def axOf (old : List UInt8) (l : List Stp) (size : Int) : List UInt8 × Int := if deltaCheck l old.length size ≠ 0 then ([], deltaCheck l old.length size) else (applied old l, 0)
theorem byRet2_nil {n : Int} {e : Ending} {w' : World} (h : RetB w (.tuple #[.slice none 0 0, iv n]) e w') : ByRet2 w [] n e w' :=
 ⟨none, 0, h.1, Bts.nil _ _, Nat.le_refl _, h.2⟩
theorem applyAny_calls (A : Option Addr) (c : Nat) (old : List UInt8) (B : Option Addr) (d : Nat) (l : List Stp) (size : Int) (w : World) (hc : old.length ≤ c) (ho : old.length ≤ 1048576) (hA : Bts w A old) (hl : l.length ≤ 1048576) (hr : Sps w B l) :
  Calls Try.prog 15 #[.slice A old.length c, .slice B l.length d, iv size] w (ByRet2 w (axOf old l size).1 (axOf old l size).2) := by
 unfold axOf
 by_cases h : deltaCheck l old.length size = 0
 ·rw [if_neg (by simpa using h)]; exact deltaApply_ok A c old B d l size w hc hA hl hr h
 ·rw [if_pos h]; exact (deltaApply_bad A c old B d l size w ho hl hr h).mono fun _ _ => byRet2_nil
section
variable {w0 w w' : World} {base size n c m ib ia k : Nat} {e T : TypeId} {A A' : Option Addr} {c' : Nat} {xs ns : List Value} {F : World → Prop} {cv : Nat → Value}
end
def lvlN : List Nat → (Nat → Bool) → Nat
 | [], _ => 0
 | i :: l, done => if done i = true then l.length + 1 else lvlN l done
theorem wp_callv {P : Program} {Q : Exit → Act → World → Prop} {K : Act → World → Prop} {R : Ending → World → Prop} {d : Option Tmp} {t : TypeId} {p : String} {af : Array Edge} {g : Option (Nat × Bool)} {a : Act} {f : FuncId} {x : Tmp} {cap : Array Value} {args : Array Operand} {ts : Array TypeId} {vals : Array Value}
  (hx : a.tmps[x]? = some (.func (Fn.func f) #[] cap)) (e : args.map a.eval ++ cap = vals) (hf : (callFunc f vals).run P w = .ok (.enter f vals) w) (h : Calls P f vals w R)
  (hk : ∀ e w', R e w' → ∃ v, e = .returned v ∧ K (a.put d v) w') : Oper.wp P ⟨d, .call { callee := .value (.tmp x), args := args, argTypes := ts }, t, p, af, g⟩ a w K Q := by
 have e1 : a.eval (.tmp x) = .func (Fn.func f) #[] cap := by simp [Act.eval, hx]
 have hx : (execOp a.eval ⟨d, .call { callee := .value (.tmp x), args := args, argTypes := ts }, t, p, af, g⟩).run P w = (callFunc f vals).run P w := by
  simp [execOp, resolve, e, e1, invoke, Deferred.ofValue]
 unfold Oper.wp
 rw [hx, hf]
 refine h.mono ?_
 intro e w' hr
 obtain ⟨v, rfl, hk⟩ := hk e w' hr
 exact hk
theorem CRow.keep {w' : World} (h : CRow w base l ds A c) (hs : w.heap.size ≤ w'.heap.size)
  (hk : ∀ k, k < w.heap.size → (A.map (·.block) = some k ∨ ∃ (i : Nat) (e : Option Addr × Nat), ds[i]? = some e ∧ e.1.map (·.block) = some k) → w'.heap[k]? = w.heap[k]?) : CRow w' base l ds A c := by
 refine ⟨h.len, h.row.same (fun k e => hk k (h.row.block k e).2 (.inl e)), fun i o d h1 h2 => ⟨?_, (h.data i o d h1 h2).2⟩, fun i d h1 k e => ⟨(h.off i d h1 k e).1, Nat.lt_of_lt_of_le (h.off i d h1 k e).2 hs⟩⟩
 intro j hj
 obtain ⟨b, o2, e1, hlt, hc⟩ := (h.data i o d h1 h2).1 j hj
 have e := hk b hlt (.inr ⟨i, d, h2, by rw [e1]; rfl⟩)
 exact ⟨b, o2, e1, Nat.lt_of_lt_of_le hlt hs, (World.cell?_of_block e).trans hc⟩
theorem CRow.drewN (h : CRow w base l ds A c) (n : Nat) : CRow (w.drewN n) base l ds A c := h.keep (Nat.le_refl _) (fun _ _ _ => rfl)
theorem CRow.setOther {g : Nat} (h : CRow w base l ds A c) (hA : A.map (·.block) ≠ some g) (hd : ∀ (i : Nat) (e : Option Addr × Nat), ds[i]? = some e → e.1.map (·.block) ≠ some g) (v : Value) {j : Nat} : CRow (w.setCell ⟨g, j, none⟩ v) base l ds A c := by
 refine h.keep (by simp) (fun k _ hk => Below.heap_setCell _ _ _ _ (fun e => ?_))
 have e : k = g := e
 subst e
 rcases hk with hk | ⟨i, e, h1, h2⟩
 ·exact hA hk
 ·exact hd i e h1 h2
theorem CRow.fresh (h : CRow w base l ds A c) (hn : ∀ (i : Nat) (e : Option Addr × Nat), ds[i]? = some e → ∀ k, e.1.map (·.block) = some k → base ≤ k) (hb : ∀ o ∈ l, I64 o.at_ ∧ I64 o.len ∧ o.data.length ≤ 1048576) : Fresh base w (fun v => Sps v A l) := by
 intro v hv
 refine CRow.sps (w := v) (base := base) (ds := ds) (c := c) ⟨h.len, own_fresh h.row hv, fun i o d h1 h2 => ⟨fun j hj => ?_, (h.data i o d h1 h2).2⟩, fun i d h1 k e => ⟨(h.off i d h1 k e).1, ?_⟩⟩ hb
 ·obtain ⟨b, o2, e1, hlt, hc⟩ := (h.data i o d h1 h2).1 j hj
  have e := hv b (hn i d h2 b (by rw [e1]; rfl)) hlt
  refine ⟨b, o2, e1, ?_, (World.cell?_of_block e).trans hc⟩
  rcases Nat.lt_or_ge b v.heap.size with h | h
  ·exact h
  ·rw [Array.getElem?_eq_none h, Array.getElem?_eq_getElem hlt] at e; cases e
 ·have hlt := (h.off i d h1 k e).2
  have e2 := hv k (hn i d h1 k e) hlt
  rcases Nat.lt_or_ge k v.heap.size with h | h
  ·exact h
  ·rw [Array.getElem?_eq_none h, Array.getElem?_eq_getElem hlt] at e2; cases e2
theorem recCheck_range (g ac : Int) (tr : Bool) (ts fl va sa ca vb sb cb : Int) (w : World) (h : ¬ (1 ≤ g ∧ g ≤ 1000000 ∧ 0 ≤ ac ∧ ac ≤ 1 ∧ 0 ≤ ts ∧ ts ≤ 3 ∧ 1 ≤ fl ∧ fl ≤ 30)) :
  Calls Try.prog 151 #[.agg #[iv g, iv ac, .bool tr, iv ts, iv fl, iv va, iv sa, iv ca, iv vb, iv sb, iv cb]] w (RetB w (iv 2)) := by
 have H := Lib.hid h
 clear h
 go_enter Try.func151, Try.ntmps151
 go_wp2_with fail
 all_goals first | (go_ret; exact ⟨rfl, (Below.refl _ _).alloc (Nat.le_refl _) _⟩) | (exfalso; have h := H.out; omega)
theorem recCheck_rest (g ac : Int) (tr : Bool) (ts fl va sa ca vb sb cb : Int) (w : World) (h1 : 1 ≤ g) (h2 : g ≤ 1000000) (h3 : 0 ≤ ac) (h4 : ac ≤ 1) (h5 : 0 ≤ ts) (h6 : ts ≤ 3) (h7 : 1 ≤ fl) (h8 : fl ≤ 30) :
  Calls Try.prog 151 #[.agg #[iv g, iv ac, .bool tr, iv ts, iv fl, iv va, iv sa, iv ca, iv vb, iv sb, iv cb]] w (RetB w (iv (recCheck ⟨g, ac, tr, ts, fl, ⟨va, sa, ca⟩, ⟨vb, sb, cb⟩⟩))) := by
 have i0 : ∀ w, (Instr.index 64 (.agg #[iv va, iv sa, iv ca, iv vb, iv sb, iv cb]) (.int .i64 0)).run Try.prog w = .ok (.agg #[iv va, iv sa, iv ca]) w := fun _ => by kernel_rfl
 have i1 : ∀ w, (Instr.index 64 (.agg #[iv va, iv sa, iv ca, iv vb, iv sb, iv cb]) (.int .i64 1)).run Try.prog w = .ok (.agg #[iv vb, iv sb, iv cb]) w := fun _ => by kernel_rfl
 go_enter Try.func151, Try.ntmps151
 go_wp2_with fail
 go_loopw [45] (fun i wr => ∃ k : Nat, k ≤ 2 ∧ i = .int .i64 k ∧ Below w.heap.size w wr ∧ (wr.heap[w.heap.size]? = some (.cells #[iv g, iv ac, .bool tr, iv ts, iv fl, iv va, iv sa, iv ca, iv vb, iv sb, iv cb] 66)) ∧ (0 < k → infCheck ⟨va, sa, ca⟩ = 0) ∧ (1 < k → infCheck ⟨vb, sb, cb⟩ = 0)) (fun i _ => (2 - intOf i).toNat)
 case atStart => exact ⟨0, by omega, rfl, (Below.refl _ _).alloc (Nat.le_refl _) _, blk_top rfl, by omega, by omega⟩
 case round =>
  obtain ⟨k, hk, rfl, hB, hblk, ha, hb⟩ := hrel
  have hrg : RangeOk ⟨g, ac, tr, ts, fl, ⟨va, sa, ca⟩, ⟨vb, sb, cb⟩⟩ := ⟨h1, h2, h3, h4, h5, h6, h7, h8⟩
  have HR := Lib.hid hrg
  clear hrg
  by_cases hlt : k < 2
  ·rcases (show k = 0 ∨ k = 1 by omega) with rfl | rfl
   ·have HK := Lib.hid hblk
    clear hblk ha hb
    by_cases hI : InfRange ⟨va, sa, ca⟩
    ·obtain ⟨j1, j2, j3, j4, j5, j6⟩ := hI
     simp only at j1 j2 j3 j4 j5 j6
     by_cases hv : va = 0
     ·subst hv
      by_cases hz : sa = 0 ∧ ca = 0
      ·obtain ⟨rfl, rfl⟩ := hz
       have HI : Hid (infCheck ⟨0, 0, 0⟩ = 0) := infCheck_ok ⟨j1, j2, j3, j4, j5, j6⟩ (fun _ => ⟨rfl, rfl⟩)
       clear j1 j2 j3 j4 j5 j6
       go_wp2_with fail
       go_roundw
       case rel => exact ⟨1, by omega, rfl, hB.alloc hB.size _, blk_old HK.out, fun _ => HI.out, by omega⟩
       case measure => simp [intOf] <;> omega
      ·have HF := Lib.hid (recCheck_a HR.out (infCheck_form ⟨j1, j2, j3, j4, j5, j6⟩ rfl hz) (by omega))
       have HZ := Lib.hid hz
       clear hz
       go_wp2_with fail
       all_goals first | (go_ret; exact ⟨ret_int HF.out.symm, hB.alloc hB.size _⟩) | (exfalso; have h := HZ.out; omega)
     ·have HI : Hid (infCheck ⟨va, sa, ca⟩ = 0) := infCheck_ok ⟨j1, j2, j3, j4, j5, j6⟩ (fun h => absurd h hv)
      have hv0 : (va == 0) = false := by rw [beq_eq_false_iff_ne]; exact hv
      clear hv
      go_wp2_with fail
      go_roundw
      case rel => exact ⟨1, by omega, rfl, hB.alloc hB.size _, blk_old HK.out, fun _ => HI.out, by omega⟩
      case measure => simp [intOf] <;> omega
    ·have HF := Lib.hid (recCheck_a HR.out (infCheck_bad hI) (by omega))
     have HI := Lib.hid hI
     clear hI
     go_wp2_with fail
     all_goals first | (go_ret; exact ⟨ret_int HF.out.symm, hB.alloc hB.size _⟩) | (exfalso; have h := HI.out; unfold InfRange at h; simp only at h; omega)
   ·have HK := Lib.hid hblk
    have HA := Lib.hid (ha (by omega))
    clear hblk ha hb
    by_cases hI : InfRange ⟨vb, sb, cb⟩
    ·obtain ⟨j1, j2, j3, j4, j5, j6⟩ := hI
     simp only at j1 j2 j3 j4 j5 j6
     by_cases hv : vb = 0
     ·subst hv
      by_cases hz : sb = 0 ∧ cb = 0
      ·obtain ⟨rfl, rfl⟩ := hz
       have HI : Hid (infCheck ⟨0, 0, 0⟩ = 0) := infCheck_ok ⟨j1, j2, j3, j4, j5, j6⟩ (fun _ => ⟨rfl, rfl⟩)
       clear j1 j2 j3 j4 j5 j6
       go_wp2_with fail
       go_roundw
       case rel => exact ⟨2, by omega, rfl, hB.alloc hB.size _, blk_old HK.out, fun _ => HA.out, fun _ => HI.out⟩
       case measure => simp [intOf] <;> omega
      ·have HF := Lib.hid (recCheck_b HR.out HA.out (infCheck_form ⟨j1, j2, j3, j4, j5, j6⟩ rfl hz) (by omega))
       have HZ := Lib.hid hz
       clear hz
       go_wp2_with fail
       all_goals first | (go_ret; exact ⟨ret_int HF.out.symm, hB.alloc hB.size _⟩) | (exfalso; have h := HZ.out; omega)
     ·have HI : Hid (infCheck ⟨vb, sb, cb⟩ = 0) := infCheck_ok ⟨j1, j2, j3, j4, j5, j6⟩ (fun h => absurd h hv)
      have hv0 : (vb == 0) = false := by rw [beq_eq_false_iff_ne]; exact hv
      clear hv
      go_wp2_with fail
      go_roundw
      case rel => exact ⟨2, by omega, rfl, hB.alloc hB.size _, blk_old HK.out, fun _ => HA.out, fun _ => HI.out⟩
      case measure => simp [intOf] <;> omega
    ·have HF := Lib.hid (recCheck_b HR.out HA.out (infCheck_bad hI) (by omega))
     have HI := Lib.hid hI
     clear hI
     go_wp2_with fail
     all_goals first | (go_ret; exact ⟨ret_int HF.out.symm, hB.alloc hB.size _⟩) | (exfalso; have h := HI.out; unfold InfRange at h; simp only at h; omega)
  ·obtain rfl : k = 2 := by omega
   have HA := Lib.hid (ha (by omega))
   have HB2 := Lib.hid (hb (by omega))
   clear ha hb
   have c0 : ∀ j, wr.cell? ⟨w.heap.size, j, none⟩ = (#[iv g, iv ac, .bool tr, iv ts, iv fl, iv va, iv sa, iv ca, iv vb, iv sb, iv cb] : Array Value)[j]? := fun j => cell_of_row _ _ _ _ _ _ hblk
   have k1 := c0 1
   have k2 := c0 2
   have k3 := c0 3
   have k4 := c0 4
   have k5 := c0 5
   have k8 := c0 8
   simp at k1 k2 k3 k4 k5 k8
   clear c0 hblk
   by_cases hF : FormOk ⟨g, ac, tr, ts, fl, ⟨va, sa, ca⟩, ⟨vb, sb, cb⟩⟩
   ·have HF := Lib.hid (recCheck_ok HR.out HA.out HB2.out hF)
    obtain ⟨f1, f2, f3, f4⟩ := hF
    rcases (show ac = 0 ∨ ac = 1 by omega) with rfl | rfl
    ·simp [Rec.at_] at f1 f2 f3 f4
     cases tr
     ·have e1 : (va == 0) = false := by rw [beq_eq_false_iff_ne]; simpa using f1
      have e2 : (ts != 0) = false := by have := f3 rfl; simp [this]
      have e4 : fl ≤ va := by simpa using f4
      clear f1 f2 f3 f4
      go_wp2_with fail
      go_quiet (fail)
      go_wp2_with fail
      go_ret
      exact ⟨ret_int HF.out.symm, Below.drewN' hB _⟩
     ·have e1 : (va == 0) = false := by rw [beq_eq_false_iff_ne]; simpa using f1
      have e2 : (vb == 0) = false := by rw [beq_eq_false_iff_ne]; simpa using (f2 rfl).1
      have e3 : fl ≤ vb := by simpa using (f2 rfl).2
      have d3 : decide (vb < fl) = false := by simpa using e3
      have e4 : fl ≤ va := by simpa using f4
      clear f1 f2 f3 f4
      go_wp2_with fail
      go_quiet (fail)
      go_wp2_with fail
      go_ret
      exact ⟨ret_int HF.out.symm, Below.drewN' hB _⟩
    ·simp [Rec.at_] at f1 f2 f3 f4
     cases tr
     ·have e1 : (vb == 0) = false := by rw [beq_eq_false_iff_ne]; simpa using f1
      have e2 : (ts != 0) = false := by have := f3 rfl; simp [this]
      have e4 : fl ≤ vb := by simpa using f4
      clear f1 f2 f3 f4
      go_wp2_with fail
      go_quiet (fail)
      go_wp2_with fail
      go_ret
      exact ⟨ret_int HF.out.symm, Below.drewN' hB _⟩
     ·have e1 : (vb == 0) = false := by rw [beq_eq_false_iff_ne]; simpa using f1
      have e2 : (va == 0) = false := by rw [beq_eq_false_iff_ne]; simpa using (f2 rfl).1
      have e3 : fl ≤ va := by simpa using (f2 rfl).2
      have d3 : decide (va < fl) = false := by simpa using e3
      have e4 : fl ≤ vb := by simpa using f4
      clear f1 f2 f3 f4
      go_wp2_with fail
      go_quiet (fail)
      go_wp2_with fail
      go_ret
      exact ⟨ret_int HF.out.symm, Below.drewN' hB _⟩
   ·have HF := Lib.hid (recCheck_form HR.out HA.out HB2.out hF)
    rcases (show ac = 0 ∨ ac = 1 by omega) with rfl | rfl
    ·cases tr
     ·have hn := hF
      clear hF
      by_cases n1 : va = 0
      ·have e1 : (va == 0) = true := by rw [beq_iff_eq]; exact n1
       clear n1
       clear hn
       go_wp2_with fail
       go_quiet (fail)
       go_wp2_with fail
       go_ret
       exact ⟨ret_int HF.out.symm, Below.drewN' hB _⟩
      have e1 : (va == 0) = false := by rw [beq_eq_false_iff_ne]; exact n1
      by_cases n2 : ts = 0
      ·have e2 : (ts != 0) = false := by simp [n2]
       have e4 : va < fl := by
        rcases Int.lt_or_le va fl with h | h
        ·exact h
        ·exact absurd ⟨by simpa [Rec.at_] using n1, by simp, fun _ => n2, by simpa [Rec.at_] using h⟩ hn
       clear n1 n2
       clear hn
       go_wp2_with fail
       go_quiet (fail)
       go_wp2_with fail
       go_ret
       exact ⟨ret_int HF.out.symm, Below.drewN' hB _⟩
      ·have e2 : (ts != 0) = true := by simp [n2]
       clear n1 n2
       clear hn
       go_wp2_with fail
       go_quiet (fail)
       go_wp2_with fail
       go_ret
       exact ⟨ret_int HF.out.symm, Below.drewN' hB _⟩
     ·have hn := hF
      clear hF
      by_cases n1 : va = 0
      ·have e1 : (va == 0) = true := by rw [beq_iff_eq]; exact n1
       clear n1
       clear hn
       go_wp2_with fail
       go_quiet (fail)
       go_wp2_with fail
       go_ret
       exact ⟨ret_int HF.out.symm, Below.drewN' hB _⟩
      have e1 : (va == 0) = false := by rw [beq_eq_false_iff_ne]; exact n1
      by_cases n2 : vb = 0
      ·have e2 : (vb == 0) = true := by rw [beq_iff_eq]; exact n2
       clear n1 n2
       clear hn
       go_wp2_with fail
       go_quiet (fail)
       go_wp2_with fail
       go_ret
       exact ⟨ret_int HF.out.symm, Below.drewN' hB _⟩
      have e2 : (vb == 0) = false := by rw [beq_eq_false_iff_ne]; exact n2
      by_cases n3 : vb < fl
      ·clear n1 n2
       clear hn
       go_wp2_with fail
       go_quiet (fail)
       go_wp2_with fail
       go_ret
       exact ⟨ret_int HF.out.symm, Below.drewN' hB _⟩
      have e3 : fl ≤ vb := by omega
      have d3 : decide (vb < fl) = false := by simpa using e3
      have e4 : va < fl := by
       rcases Int.lt_or_le va fl with h | h
       ·exact h
       ·exact absurd ⟨by simpa [Rec.at_] using n1, fun _ => ⟨by simpa [Rec.at_] using n2, by simpa [Rec.at_] using e3⟩, by simp, by simpa [Rec.at_] using h⟩ hn
      clear n1 n2 n3
      clear hn
      go_wp2_with fail
      go_quiet (fail)
      go_wp2_with fail
      go_ret
      exact ⟨ret_int HF.out.symm, Below.drewN' hB _⟩
    ·cases tr
     ·have hn := hF
      clear hF
      by_cases n1 : vb = 0
      ·have e1 : (vb == 0) = true := by rw [beq_iff_eq]; exact n1
       clear n1
       clear hn
       go_wp2_with fail
       go_quiet (fail)
       go_wp2_with fail
       go_ret
       exact ⟨ret_int HF.out.symm, Below.drewN' hB _⟩
      have e1 : (vb == 0) = false := by rw [beq_eq_false_iff_ne]; exact n1
      by_cases n2 : ts = 0
      ·have e2 : (ts != 0) = false := by simp [n2]
       have e4 : vb < fl := by
        rcases Int.lt_or_le vb fl with h | h
        ·exact h
        ·exact absurd ⟨by simpa [Rec.at_] using n1, by simp, fun _ => n2, by simpa [Rec.at_] using h⟩ hn
       clear n1 n2
       clear hn
       go_wp2_with fail
       go_quiet (fail)
       go_wp2_with fail
       go_ret
       exact ⟨ret_int HF.out.symm, Below.drewN' hB _⟩
      ·have e2 : (ts != 0) = true := by simp [n2]
       clear n1 n2
       clear hn
       go_wp2_with fail
       go_quiet (fail)
       go_wp2_with fail
       go_ret
       exact ⟨ret_int HF.out.symm, Below.drewN' hB _⟩
     ·have hn := hF
      clear hF
      by_cases n1 : vb = 0
      ·have e1 : (vb == 0) = true := by rw [beq_iff_eq]; exact n1
       clear n1
       clear hn
       go_wp2_with fail
       go_quiet (fail)
       go_wp2_with fail
       go_ret
       exact ⟨ret_int HF.out.symm, Below.drewN' hB _⟩
      have e1 : (vb == 0) = false := by rw [beq_eq_false_iff_ne]; exact n1
      by_cases n2 : va = 0
      ·have e2 : (va == 0) = true := by rw [beq_iff_eq]; exact n2
       clear n1 n2
       clear hn
       go_wp2_with fail
       go_quiet (fail)
       go_wp2_with fail
       go_ret
       exact ⟨ret_int HF.out.symm, Below.drewN' hB _⟩
      have e2 : (va == 0) = false := by rw [beq_eq_false_iff_ne]; exact n2
      by_cases n3 : va < fl
      ·clear n1 n2
       clear hn
       go_wp2_with fail
       go_quiet (fail)
       go_wp2_with fail
       go_ret
       exact ⟨ret_int HF.out.symm, Below.drewN' hB _⟩
      have e3 : fl ≤ va := by omega
      have d3 : decide (va < fl) = false := by simpa using e3
      have e4 : vb < fl := by
       rcases Int.lt_or_le vb fl with h | h
       ·exact h
       ·exact absurd ⟨by simpa [Rec.at_] using n1, fun _ => ⟨by simpa [Rec.at_] using n2, by simpa [Rec.at_] using e3⟩, by simp, by simpa [Rec.at_] using h⟩ hn
      clear n1 n2 n3
      clear hn
      go_wp2_with fail
      go_quiet (fail)
      go_wp2_with fail
      go_ret
      exact ⟨ret_int HF.out.symm, Below.drewN' hB _⟩
theorem recCheck_calls (g ac : Int) (tr : Bool) (ts fl va sa ca vb sb cb : Int) (w : World) :
  Calls Try.prog 151 #[.agg #[iv g, iv ac, .bool tr, iv ts, iv fl, iv va, iv sa, iv ca, iv vb, iv sb, iv cb]] w (RetB w (iv (recCheck ⟨g, ac, tr, ts, fl, ⟨va, sa, ca⟩, ⟨vb, sb, cb⟩⟩))) := by
 by_cases h : RangeOk ⟨g, ac, tr, ts, fl, ⟨va, sa, ca⟩, ⟨vb, sb, cb⟩⟩
 ·obtain ⟨h1, h2, h3, h4, h5, h6, h7, h8⟩ := h
  exact recCheck_rest g ac tr ts fl va sa ca vb sb cb w h1 h2 h3 h4 h5 h6 h7 h8
 ·rw [recCheck_bad h]
  exact recCheck_range g ac tr ts fl va sa ca vb sb cb w h
theorem equalBytes_calls (A B : Option Addr) (c d : Nat) (l m : List UInt8) (w : World) (hl : l.length ≤ 1048576) (hm : m.length ≤ 1048576) (ha : Bts w A l) (hb : Bts w B m) :
  Calls Try.prog 94 #[.slice A l.length c, .slice B m.length d] w (RetN w (.bool (decide (l = m)))) := by
 by_cases hne : l.length = m.length
 ·have hdl : ((l.length : Int) != (m.length : Int)) = false := by simp [hne]
  have HE := Lib.hid hne
  have hm1 : l.length ≤ m.length := by omega
  have hm2 : m.length ≤ l.length := by omega
  clear hne
  go_enter Try.func94, Try.ntmps94
  go_wp2
  go_loopw [5, 13] (fun u i wr => ∃ k n : Nat, k ≤ l.length ∧ i = .int .i64 k ∧ l.take k = m.take k ∧ w.drewN n = wr) (fun _ i _ => l.length - (intOf i).toNat)
  case atStart => exact ⟨0, 0, Nat.zero_le _, rfl, rfl, rfl⟩
  case round =>
   obtain ⟨k, n, hk, rfl, ht, rfl⟩ := hrel
   have HT := Lib.hid ht
   clear ht
   by_cases hlt : k < l.length
   ·obtain ⟨b1, o1, rfl, hs1, hc1⟩ := ha k hlt
    obtain ⟨b2, o2, rfl, hs2, hc2⟩ := hb k (by omega)
    by_cases he : l[k] = m[k]'(by omega)
    ·have hd : ((l[k].toNat : Int) != ((m[k]'(by omega)).toNat : Int)) = false := by simp [he]
     have HX := Lib.hid he
     clear he
     go_wp2_with fail
     go_quiet (fail)
     go_wp2_with fail
     go_roundw
     case rel => exact ⟨k + 1, _, by omega, by go_num, take_eq_succ HT.out hlt (by omega) HX.out, rfl⟩
     case measure => simp [intOf] <;> omega
    ·have hd : ((l[k].toNat : Int) != ((m[k]'(by omega)).toNat : Int)) = true := by simp; exact fun e => he (UInt8.toNat_inj.1 (by omega))
     have HX := Lib.hid he
     clear he
     go_wp2_with fail
     go_quiet (fail)
     go_wp2_with fail
     go_ret
     exact ⟨ret_bool (by rw [decide_eq_false (ne_of_at hlt (by omega) HX.out)]), _, (World.drewN_drewN _ _ _).symm⟩
   ·go_wp2_with fail
    go_ret
    refine ⟨ret_bool ?_, _, rfl⟩
    have h := HT.out
    rw [List.take_of_length_le (by omega), List.take_of_length_le (by omega)] at h
    rw [decide_eq_true h]
 ·have hdl : ((l.length : Int) != (m.length : Int)) = true := by simp; omega
  have HX := Lib.hid hne
  clear hne
  go_enter Try.func94, Try.ntmps94
  go_wp2
  go_ret
  exact ⟨ret_bool (by rw [decide_eq_false (fun e => HX.out (by rw [e]))]), 0, rfl⟩
theorem stp_ne_at (h : x.at_ ≠ y.at_) : x ≠ y := by rintro rfl; exact h rfl
theorem stp_ne_len (h : x.len ≠ y.len) : x ≠ y := by rintro rfl; exact h rfl
theorem stp_eq (h1 : x.at_ = y.at_) (h2 : x.len = y.len) : decide (x.data = y.data) = decide (x = y) := by
 obtain ⟨a, l, d⟩ := x
 obtain ⟨b, m, e⟩ := y
 simp only at h1 h2
 subst h1 h2
 simp
theorem same1_calls (x y : Stp) (B D : Option Addr) (c d : Nat) (w : World) (hx : x.data.length ≤ 1048576) (hy : y.data.length ≤ 1048576) (hB : Bts w B x.data) (hD : Bts w D y.data) :
  Calls Try.prog 93 #[.agg #[iv x.at_, iv x.len, .slice B x.data.length c], .agg #[iv y.at_, iv y.len, .slice D y.data.length d]] w (RetB w (.bool (decide (x = y)))) := by
 by_cases h1 : x.at_ = y.at_
 ·by_cases h2 : x.len = y.len
  ·have q1 : (x.at_ == y.at_) = true := by simp [h1]
   have q2 : (x.len == y.len) = true := by simp [h2]
   have HE := Lib.hid (stp_eq h1 h2)
   have bl := ((Below.refl w.heap.size w).alloc (Nat.le_refl _) (.cells #[iv x.at_, iv x.len, .slice B x.data.length c] 117)).alloc (by simp) (.cells #[iv y.at_, iv y.len, .slice D y.data.length d] 117)
   have HC := Lib.hid (equalBytes_calls B D c d x.data y.data _ hx hy (hB.stays bl) (hD.stays bl))
   have HB := Lib.hid bl
   clear h1 h2 hB hD bl
   go_enter Try.func93, Try.ntmps93
   go_wp2_with fail
   refine HC.out.mono ?_
   rintro e w1 ⟨rfl, n, rfl⟩
   go_wp2_with fail
   go_ret
   exact ⟨ret_bool HE.out, Below.drewN' HB.out n⟩
  ·have q1 : (x.at_ == y.at_) = true := by simp [h1]
   have q2 : (x.len == y.len) = false := by simp [h2]
   have HE := Lib.hid (decide_eq_false (stp_ne_len h2))
   clear h1 h2
   go_enter Try.func93, Try.ntmps93
   go_wp2_with fail
   go_ret
   exact ⟨ret_bool HE.out.symm, ((Below.refl _ _).alloc (Nat.le_refl _) _).alloc (by simp) _⟩
 ·have q1 : (x.at_ == y.at_) = false := by simp [h1]
  have HE := Lib.hid (decide_eq_false (stp_ne_at h1))
  clear h1
  go_enter Try.func93, Try.ntmps93
  go_wp2_with fail
  go_ret
  exact ⟨ret_bool HE.out.symm, ((Below.refl _ _).alloc (Nat.le_refl _) _).alloc (by simp) _⟩
theorem eqfOps_calls (A B : Option Addr) (c d : Nat) (l m : List Stp) (w : World) (hl : l.length ≤ 1048576) (hm : m.length ≤ 1048576) (ha : Sps w A l) (hb : Sps w B m) :
  Calls Try.prog 92 #[.slice A l.length c, .slice B m.length d, .func (Fn.func 93) #[] #[]] w (RetB w (.bool (decide (l = m)))) := by
 by_cases hne : l.length = m.length
 ·have hdl : ((l.length : Int) != (m.length : Int)) = false := by simp [hne]
  have HE := Lib.hid hne
  have hm1 : l.length ≤ m.length := by omega
  have hm2 : m.length ≤ l.length := by omega
  clear hne
  go_enter Try.func92, Try.ntmps92
  go_wp2_with fail
  go_loopw [17] (fun i wr => ∃ k : Nat, k ≤ l.length ∧ i = .int .i64 k ∧ Hid (l.take k = m.take k) ∧ Hid (Below w.heap.size w wr)) (fun i _ => l.length - (intOf i).toNat)
  case atStart => exact ⟨0, Nat.zero_le _, rfl, Lib.hid rfl, Lib.hid (Below.refl _ _)⟩
  case round =>
   obtain ⟨k, hk, rfl, HT, HB⟩ := hrel
   by_cases hlt : k < l.length
   ·obtain ⟨b1, o1, B1, c1, rfl, hs1, p0, p1, p2, p3, p4, p5, -, -⟩ := (ha.stays HB.out).at_ hlt
    obtain ⟨b2, o2, B2, c2, rfl, hs2, r0, r1, r2, r3, r4, r5, -, -⟩ := (hb.stays HB.out).at_ (i := k) (by omega)
    have hsz := HB.out.size
    have HX : Hid (∀ e : l[k] = m[k]'(by omega), l.take (k + 1) = m.take (k + 1)) := Lib.hid fun e => take_eq_succ HT.out hlt (by omega) e
    have HN : Hid (∀ e : l[k] ≠ m[k]'(by omega), l ≠ m) := Lib.hid fun e => ne_of_at hlt (by omega) e
    generalize l[k] = x at *
    generalize m[k]'(by omega) = y at *
    have hsb := fun w2 (h : Below wr.heap.size wr w2) => same1_calls x y B1 B2 c1 c2 w2 p4 r4 (p5.stays h) (r5.stays h)
    have HC := Lib.hid hsb
    clear hsb p5 r5
    go_wp2_with fail
    have bl := ((Below.refl wr.heap.size wr).alloc (Nat.le_refl _) (.cells #[iv x.at_, iv x.len, .slice B1 x.data.length c1] 117)).alloc (by simp) (.cells #[iv y.at_, iv y.len, .slice B2 y.data.length c2] 117)
    refine (HC.out _ bl).mono ?_
    rintro e w2 ⟨rfl, hb2⟩
    have HB2 : Hid (Below w.heap.size w w2) := Lib.hid ((HB.out.trans (bl.mono hsz)).trans (hb2.mono (by simp; omega)))
    clear bl hb2
    by_cases hxy : x = y
    ·have hd : decide (x = y) = true := by simp [hxy]
     have HY := Lib.hid (HX.out hxy)
     clear hxy HX HN
     go_wp2_with fail
     go_roundw
     case rel => exact ⟨k + 1, by omega, by go_num, HY, HB2⟩
     case measure => simp [intOf] <;> omega
    ·have hd : decide (x = y) = false := by simp [hxy]
     have HY := Lib.hid (HN.out hxy)
     clear hxy HX HN
     go_wp2_with fail
     go_ret
     exact ⟨ret_bool (by rw [decide_eq_false HY.out]), HB2.out⟩
   ·go_wp2_with fail
    go_ret
    refine ⟨ret_bool ?_, HB.out⟩
    have h := HT.out
    rw [List.take_of_length_le (by omega), List.take_of_length_le (by omega)] at h
    rw [decide_eq_true h]
 ·have hdl : ((l.length : Int) != (m.length : Int)) = true := by simp; omega
  have HX := Lib.hid hne
  clear hne
  go_enter Try.func92, Try.ntmps92
  go_wp2_with fail
  go_ret
  exact ⟨ret_bool (by rw [decide_eq_false (fun e => HX.out (by rw [e]))]), Below.refl _ _⟩
theorem equalOps_calls (A B : Option Addr) (c d : Nat) (l m : List Stp) (w : World) (hl : l.length ≤ 1048576) (hm : m.length ≤ 1048576) (ha : Sps w A l) (hb : Sps w B m) :
  Calls Try.prog 21 #[.slice A l.length c, .slice B m.length d] w (RetB w (.bool (decide (l = m)))) := by
 go_enter Try.func21, Try.ntmps21
 go_wp2_with fail
 refine (eqfOps_calls A B c d l m w hl hm ha hb).mono ?_
 rintro e w1 ⟨rfl, hb1⟩
 go_wp2_with fail
 go_ret
 exact ⟨rfl, hb1⟩
theorem patSameA_calls (A B : Option Addr) (c d : Nat) (f t o n sz f2 t2 o2 n2 sz2 : Int) (l m : List Stp) (w : World) (hl : l.length ≤ 1048576) (hm : m.length ≤ 1048576) (hs : Sps w A l) (hr : Sps w B m) :
  Calls Try.prog 31 #[.agg #[iv f, iv t, iv o, iv n, iv sz, .slice A l.length c], .agg #[iv f2, iv t2, iv o2, iv n2, iv sz2, .slice B m.length d]] w (RetB w (.bool (decide ((⟨f, t, o, n, sz, l⟩ : Pat) = ⟨f2, t2, o2, n2, sz2, m⟩)))) := by
 have hb : Below w.heap.size w ((w.alloc (.cells #[iv f, iv t, iv o, iv n, iv sz, .slice A l.length c] 35)).alloc (.cells #[iv f2, iv t2, iv o2, iv n2, iv sz2, .slice B m.length d] 35)) := ((Below.refl _ _).alloc (Nat.le_refl _) _).alloc (by simp) _
 obtain ⟨r, hR⟩ : ∃ r, decide ((⟨f, t, o, n, sz, l⟩ : Pat) = ⟨f2, t2, o2, n2, sz2, m⟩) = r := ⟨_, rfl⟩
 rw [hR]
 have HR := Lib.hid hR
 clear hR
 have HB := Lib.hid hb
 have HC := Lib.hid (equalOps_calls A B c d l m _ hl hm (hs.stays hb) (hr.stays hb))
 clear hb hs hr
 by_cases h0 : ¬ f = f2
 ·have hz : false = r := (decide_eq_false (fun e => by injection e; contradiction)).symm.trans HR.out
  have HZ := Lib.hid hz
  have q : (f == f2) = false := by simp [h0]
  clear HC hz h0
  go_enter Try.func31, Try.ntmps31
  go_wp2_with fail
  go_ret
  exact ⟨ret_bool HZ.out, HB.out⟩
 have h0 := Decidable.not_not.1 h0
 subst h0
 have q0 : (f == f) = true := by simp
 by_cases h1 : ¬ t = t2
 ·have hz : false = r := (decide_eq_false (fun e => by injection e; contradiction)).symm.trans HR.out
  have HZ := Lib.hid hz
  have q : (t == t2) = false := by simp [h1]
  clear HC hz h1
  go_enter Try.func31, Try.ntmps31
  go_wp2_with fail
  go_ret
  exact ⟨ret_bool HZ.out, HB.out⟩
 have h1 := Decidable.not_not.1 h1
 subst h1
 have q1 : (t == t) = true := by simp
 by_cases h2 : ¬ o = o2
 ·have hz : false = r := (decide_eq_false (fun e => by injection e; contradiction)).symm.trans HR.out
  have HZ := Lib.hid hz
  have q : (o == o2) = false := by simp [h2]
  clear HC hz h2
  go_enter Try.func31, Try.ntmps31
  go_wp2_with fail
  go_ret
  exact ⟨ret_bool HZ.out, HB.out⟩
 have h2 := Decidable.not_not.1 h2
 subst h2
 have q2 : (o == o) = true := by simp
 by_cases h3 : ¬ n = n2
 ·have hz : false = r := (decide_eq_false (fun e => by injection e; contradiction)).symm.trans HR.out
  have HZ := Lib.hid hz
  have q : (n == n2) = false := by simp [h3]
  clear HC hz h3
  go_enter Try.func31, Try.ntmps31
  go_wp2_with fail
  go_ret
  exact ⟨ret_bool HZ.out, HB.out⟩
 have h3 := Decidable.not_not.1 h3
 subst h3
 have q3 : (n == n) = true := by simp
 by_cases h4 : ¬ sz = sz2
 ·have hz : false = r := (decide_eq_false (fun e => by injection e; contradiction)).symm.trans HR.out
  have HZ := Lib.hid hz
  have q : (sz == sz2) = false := by simp [h4]
  clear HC hz h4
  go_enter Try.func31, Try.ntmps31
  go_wp2_with fail
  go_ret
  exact ⟨ret_bool HZ.out, HB.out⟩
 have h4 := Decidable.not_not.1 h4
 subst h4
 have q4 : (sz == sz) = true := by simp
 have hz : decide (l = m) = r := by
  rw [← HR.out]
  by_cases e : l = m
  ·subst e; simp
  ·rw [decide_eq_false e, decide_eq_false (fun h => e (by injection h))]
 have HZ := Lib.hid hz
 clear hz
 go_enter Try.func31, Try.ntmps31
 go_wp2_with fail
 refine HC.out.mono ?_
 rintro e w9 ⟨rfl, hb1⟩
 have HB1 := Lib.hid (HB.out.trans (hb1.mono HB.out.size))
 clear hb1
 go_wp2_with fail
 go_ret
 exact ⟨ret_bool HZ.out, HB1.out⟩
end Go.Proofs.Ytefkfglkpebbmac
