/- The walk of the document's BestWay. Printed by gen_bestway.py. No conditions. -/
import Derived.Test.YtefkfglkpebbmaaRouteRef
import Derived.Test.YtefkfglkpebbmaaRouteLeast
import Derived.Test.YtefkfglkpebbmaaRefEdges
namespace Go.Proofs.Ytefkfglkpebbmaa
open Go.RowKit
set_option linter.unusedVariables false
set_option linter.unusedSimpArgs false

/-- Two rows of thirty-one numbers: what each version costs, and how many steps it takes. -/
structure CtAt (w : World) (g h : Nat) (s : Ct) : Prop where
  bg : ∃ cs T, w.heap[g]? = some (.cells cs T (0, 0)) ∧ cs.size = 31
  bh : ∃ cs T, w.heap[h]? = some (.cells cs T (0, 0)) ∧ cs.size = 31
  ne : g ≠ h
  at_ : ∀ v : Nat, v ≤ 30 → w.cell? ⟨g, v, none⟩ = some (iv (s v).1) ∧ w.cell? ⟨h, v, none⟩ = some (iv (s v).2)
theorem CtAt.ltg {w : World} {g h : Nat} {s : Ct} (k : CtAt w g h s) : g < w.heap.size := by obtain ⟨cs, T, h1, _⟩ := k.bg; exact blk_lt h1
theorem CtAt.lth {w : World} {g h : Nat} {s : Ct} (k : CtAt w g h s) : h < w.heap.size := by obtain ⟨cs, T, h1, _⟩ := k.bh; exact blk_lt h1
theorem CtAt.frg {w : World} {g h : Nat} {s : Ct} (k : CtAt w g h s) (j : Nat) : w.frozen? ⟨g, j, none⟩ = false := by obtain ⟨cs, T, h1, _⟩ := k.bg; exact frozen_of_row w g j cs T h1
theorem CtAt.frh {w : World} {g h : Nat} {s : Ct} (k : CtAt w g h s) (j : Nat) : w.frozen? ⟨h, j, none⟩ = false := by obtain ⟨cs, T, h1, _⟩ := k.bh; exact frozen_of_row w h j cs T h1
theorem CtAt.drew {w : World} {g h : Nat} {s : Ct} (k : CtAt w g h s) : CtAt w.drew g h s := ⟨k.bg, k.bh, k.ne, k.at_⟩
theorem CtAt.drewN {w : World} {g h : Nat} {s : Ct} (k : CtAt w g h s) (n : Nat) : CtAt (w.drewN n) g h s := ⟨k.bg, k.bh, k.ne, k.at_⟩
theorem CtAt.stays {w w' : World} {g h : Nat} {s : Ct} (k : CtAt w g h s) (hb : Below w.heap.size w w') : CtAt w' g h s := by
  have l1 := k.ltg
  have l2 := k.lth
  obtain ⟨cs, T, a1, a2⟩ := k.bg
  obtain ⟨ds, U, b1, b2⟩ := k.bh
  exact ⟨⟨cs, T, blk_below a1 hb, a2⟩, ⟨ds, U, blk_below b1 hb, b2⟩, k.ne, fun v hv => ⟨(hb.cell (p := ⟨g, _, none⟩) l1).trans (k.at_ v hv).1, (hb.cell (p := ⟨h, _, none⟩) l2).trans (k.at_ v hv).2⟩⟩
theorem CtAt.congr {w : World} {g h : Nat} {s s' : Ct} (k : CtAt w g h s) (e : ∀ v : Nat, v ≤ 30 → s v = s' v) : CtAt w g h s' :=
  ⟨k.bg, k.bh, k.ne, fun v hv => by rw [← e v hv]; exact k.at_ v hv⟩
theorem CtAt.set {w : World} {g h : Nat} {s : Ct} (k : CtAt w g h s) {t : Nat} (ht : t ≤ 30) {a b : Int} : CtAt ((w.setCell ⟨g, t, none⟩ (iv a)).setCell ⟨h, t, none⟩ (iv b)) g h (s.set t (a, b)) := by
  have hne := k.ne
  obtain ⟨cs, T, a1, a2⟩ := k.bg
  obtain ⟨ds, U, b1, b2⟩ := k.bh
  have c1 := (k.at_ t ht).1
  have c2 := (k.at_ t ht).2
  have g1 : (w.setCell ⟨g, t, none⟩ (iv a)).heap[h]? = some (.cells ds U (0, 0)) := by rw [heap_set_other _ _ _ _ hne]; exact b1
  refine ⟨⟨cs.setIfInBounds t (iv a), T, ?_, by simp [a2]⟩, ⟨ds.setIfInBounds t (iv b), U, ?_, by simp [b2]⟩, hne, fun v hv => ?_⟩
  · rw [heap_set_other _ _ _ _ (fun e => hne e.symm), setCell_eq_setRow w g t cs T (0, 0) _ a1]
    exact setRow_heap w g cs _ T (0, 0) a1
  · rw [setCell_eq_setRow _ h t ds U (0, 0) _ g1]
    exact setRow_heap _ h ds _ U (0, 0) g1
  · by_cases e : v = t
    · subst e
      have es : (s.set (v : Int) (a, b)) (v : Int) = (a, b) := by simp [Ct.set]
      rw [es]
      refine ⟨?_, ?_⟩
      · rw [World.cell?_setCell_other _ _ _ _ (by intro e; injection e with e; omega), World.cell?_setCell_same' _ _ _ (by rw [c1]; rfl)]
      · rw [World.cell?_setCell_same' _ _ _ (by rw [World.cell?_setCell_other _ _ _ _ (by intro e; injection e with e; omega), c2]; rfl)]
    · have es : (s.set (t : Int) (a, b)) (v : Int) = s v := by unfold Ct.set; rw [if_neg (by omega)]
      rw [es]
      refine ⟨?_, ?_⟩
      · rw [World.cell?_setCell_other _ _ _ _ (by intro e; injection e with e; omega), World.cell?_setCell_other _ _ _ _ (by intro e; injection e with e1 e2; omega)]
        exact (k.at_ v hv).1
      · rw [World.cell?_setCell_other _ _ _ _ (by intro e; injection e with e1 e2; omega), World.cell?_setCell_other _ _ _ _ (by intro e; injection e with e; omega)]
        exact (k.at_ v hv).2
theorem CtAt.keep {w w' : World} {g h B : Nat} {s : Ct} (k : CtAt w g h s) (hb : Below B w w') (h1 : g < B) (h2 : h < B) : CtAt w' g h s := by
  obtain ⟨cs, T, a1, a2⟩ := k.bg
  obtain ⟨ds, U, b1, b2⟩ := k.bh
  exact ⟨⟨cs, T, (hb.block g h1).trans a1, a2⟩, ⟨ds, U, (hb.block h h2).trans b1, b2⟩, k.ne, fun v hv => ⟨(hb.cell (p := ⟨g, _, none⟩) h1).trans (k.at_ v hv).1, (hb.cell (p := ⟨h, _, none⟩) h2).trans (k.at_ v hv).2⟩⟩
theorem next_snoc {l : List Edg} {k : Nat} (hk : k < l.length) (s : Ct) (now n : Int) : nextTo s now (l.take (k + 1)) n = if Tight s now l[k] then min (nextTo s now (l.take k) n) l[k].t else nextTo s now (l.take k) n := by
  rw [List.take_succ_eq_append_getElem hk, nextTo_append]; rfl
theorem own_int {w : World} {g base : Nat} {x : Int} (h : w.heap[g]? = some (.cells #[iv x] 3 (0, 0))) (hb : base ≤ g) : Own w base 3 1 (some ⟨g, 0, none⟩) 1 1 [iv x] :=
  ⟨by simp, Or.inr ⟨g, 1, #[iv x], rfl, hb, h, by omega, by unfold maxLen; omega, by simp, by simp⟩⟩
def zerosI : Array Value := (List.replicate 31 (iv 0)).toArray
theorem zerosI_get (v : Nat) (h : v ≤ 30) : zerosI[v]? = some (iv 0) := by
  unfold zerosI
  rw [List.getElem?_toArray, List.getElem?_replicate, if_pos (by omega)]
set_option maxRecDepth 100000 in
theorem run_alloc31 (w : World) : (Instr.alloc 97 true (.tuple #[])).run Try.prog w = .ok (.pointer (some ⟨w.heap.size, 0, none⟩)) (w.alloc (.cells zerosI 97)) := by
  have hz : (zeroValue 97).run Try.prog w = .ok (.agg zerosI) w := by kernel_rfl
  have hc : (Value.agg zerosI).cells = zerosI := rfl
  unfold Instr.alloc newVar newRow
  generalize zerosI = z at *
  simp only [Sem.run_bind, Sem.run_pure, Result.andThen_ok, hz, hc]
  simp
theorem wpList_alloc31 {ops : Array Oper} {rest : List Oper} {a : Act} {w : World} {Q : Exit → Act → World → Prop} {d : Tmp} {t : TypeId} {p : String} {af : Array Edge}
    (h : ∀ w', w'.heap[w.heap.size]? = some (.cells zerosI 97 (0, 0)) → Below w.heap.size w w' → w'.heap.size = w.heap.size + 1 → wpList Try.prog ops Q rest (a.put (some d) (.pointer (some ⟨w.heap.size, 0, none⟩))) w') :
    wpList Try.prog ops Q (⟨some d, .alloc 97, t, p, af, none⟩ :: rest) a w := by
  refine wpList_plain rfl fun K hK => ?_
  have key := hK _ _ (h (w.alloc (.cells zerosI 97)) (blk_top rfl) ((Below.refl _ _).alloc (Nat.le_refl _) _) (by simp))
  unfold Oper.wp execOp
  simp only [Sem.run_bind, Sem.run_pure, Result.andThen_ok, run_alloc31]
  exact key
theorem wp_stn {a : Act} {w : World} {K : Act → World → Prop} {Q : Exit → Act → World → Prop} {t : TypeId} {p : String} {af : Array Edge} {gd : Option (Nat × Bool)} {x y : Tmp} {g j : Nat} {n : Int} {u : Value} (hx : a.tmps[x]? = some (.pointer (some ⟨g, j, none⟩))) (hy : a.tmps[y]? = some (iv n))
    (hc : w.cell? ⟨g, j, none⟩ = some u) (hf : w.frozen? ⟨g, j, none⟩ = false) (h : K a (w.setCell ⟨g, j, none⟩ (iv n))) :
    Oper.wp Try.prog ⟨none, .store 3 (.tmp x) (.tmp y), t, p, af, gd⟩ a w K Q := by
  have e1 : a.eval (.tmp x) = .pointer (some ⟨g, j, none⟩) := by simp [Act.eval, hx]
  have e2 : a.eval (.tmp y) = iv n := by simp [Act.eval, hy]
  unfold Oper.wp execOp
  simp only [e1, e2]
  go_simp
  exact h
/-- While two numbers are laid. -/
def bwJ (w0 : World) (g h f : Nat) (a b : Int) : Nat → (Nat → Value) → World → Prop
  | 0, _, w => w = w0.drew
  | 1, _, w => w = w0.drew.setCell ⟨g, f, none⟩ (iv a)
  | _, _, w => w = (w0.drew.setCell ⟨g, f, none⟩ (iv a)).setCell ⟨h, f, none⟩ (iv b)
theorem bwJ_row {w0 w : World} {g h f gx : Nat} {a b : Int} {k : Nat} {cv : Nat → Value} {v : Value} (h1 : g ≠ gx) (h2 : h ≠ gx) (hc : w0.cell? ⟨gx, 0, none⟩ = some v) (hJ : bwJ w0 g h f a b k cv w) : w.cell? ⟨gx, 0, none⟩ = some v := by
  match k, hJ with
  | 0, hJ => obtain rfl : w = w0.drew := hJ; exact hc
  | 1, hJ =>
    obtain rfl : w = w0.drew.setCell ⟨g, f, none⟩ (iv a) := hJ
    rw [World.cell?_setCell_other _ _ _ _ (by intro e; injection e with e; first | exact h1 e | exact h1 e.symm)]; exact hc
  | k + 2, hJ =>
    obtain rfl : w = (w0.drew.setCell ⟨g, f, none⟩ (iv a)).setCell ⟨h, f, none⟩ (iv b) := hJ
    rw [World.cell?_setCell_other _ _ _ _ (by intro e; injection e with e; first | exact h2 e | exact h2 e.symm), World.cell?_setCell_other _ _ _ _ (by intro e; injection e with e; first | exact h1 e | exact h1 e.symm)]; exact hc
def farTo (k : Nat) : Ct := fun u => if u < k then (far, far) else (0, 0)
theorem back_yes {x : Edg} {s : Ct} (h : ctLt (ctOn x (s x.t)) (s x.f)) : back x s = s.set x.f (ctOn x (s x.t)) := by unfold back; rw [if_pos h]
theorem back_no {x : Edg} {s : Ct} (h : ¬ ctLt (ctOn x (s x.t)) (s x.f)) : back x s = s := by unfold back; rw [if_neg h]
/-- What BestWay says. -/
def BwRet (w : World) (u : Way) (ok : Bool) : Ending → World → Prop := fun en w' =>
  ∃ A c, en = .returned (.tuple #[.slice A u.at_.length c, iv u.cost, .bool ok]) ∧ Nts w' A u.at_ ∧ u.at_.length ≤ c ∧ Below w.heap.size w w'
theorem best_self {l : List Edg} (hl : ∀ x ∈ l, EdgOk x) {t : Int} (ht : 1 ≤ t ∧ t ≤ 30) {u : Way} (h : Best l t t u) : u = ⟨0, [t]⟩ := by
  obtain ⟨h1, h2⟩ := ends_still hl ht (total (St.first t) 30 + 1) (St.first t) (first_good l t) (by omega)
  have h3 := (still_ends h1 h2 t).1 h1.start
  rw [h.unique h3, h1.zero]
set_option maxRecDepth 100000 in
set_option maxHeartbeats 8000000 in
theorem bestWay_calls (A : Option Addr) (c : Nat) (l : List Edg) (f t : Nat) (w : World) (hr : Eds w A l) (h : routeCheck l = 0) (hf1 : 1 ≤ f) (hf2 : f ≤ 30) (ht1 : 1 ≤ t) (ht2 : t ≤ 30) :
    Calls Try.prog 43 #[.slice A l.length c, iv f, iv t] w (BwRet w (bestOf l f t) (decide ((bestOf l f t).at_ ≠ []))) := by
  obtain ⟨hl60, hok⟩ := routeCheck_zero h
  have hbe := back_ends hok hl60 (t : Int) (f : Int) (by omega)
  have hbo := bestOf_told hok (s := (f : Int)) (by omega) (t : Int)
  have hbb := fun e => best_bounds hok (f := (f : Int)) (by omega) (t : Int) e
  have hb30 := best_len hok (f := (f : Int)) (by omega) (t : Int)
  have HBB := Lib.hid hbb
  have HOK := Lib.hid hok
  have HR := Lib.hid hr
  have HBE := Lib.hid hbe
  have HBO := Lib.hid hbo
  clear h hok hr hbe hbo hbb
  generalize hW : bestOf l f t = W at *
  clear hW
  have i1 : ¬ (31 : Int) ≤ (f : Int) := by omega
  have i2 : ¬ (31 : Int) ≤ (t : Int) := by omega
  generalize hres : decide (W.at_ ≠ []) = res
  have HRES := Lib.hid hres
  clear hres
  go_enter Try.func43, Try.ntmps43
  go_wp2_with (with_reducible refine wpList_alloc31 ?_)
  intro wa ha1 ha2 ha3
  have HA1 := Lib.hid ha1
  have HA2 := Lib.hid ha2
  clear ha1 ha2
  go_wp2_with (with_reducible refine wpList_alloc31 ?_)
  intro wb hb1 hb2 hb3
  have hct : CtAt wb w.heap.size (w.heap.size + 1) (farTo 0) := by
    have e1 := blk_below HA1.out hb2
    rw [ha3] at hb1
    refine ⟨⟨_, _, e1, rfl⟩, ⟨_, _, hb1, rfl⟩, by omega, fun v hv => ?_⟩
    have e : farTo 0 (v : Int) = (0, 0) := by unfold farTo; rw [if_neg (by omega)]
    rw [e]
    exact ⟨by rw [cell_of_row _ _ _ _ _ _ e1, zerosI_get v hv], by rw [cell_of_row _ _ _ _ _ _ hb1, zerosI_get v hv]⟩
  have HC := Lib.hid hct
  have HB : Hid (Below w.heap.size w wb) := Lib.hid (HA2.out.trans (hb2.mono (by omega)))
  clear hb1 hb2 hct HA1 HA2 hb3
  simp only [ha3]
  clear ha3
  have hgh : w.heap.size ≠ w.heap.size + 1 := by omega
  have hg1 : w.heap.size ≤ w.heap.size := Nat.le_refl _
  have hh1 : w.heap.size ≤ w.heap.size + 1 := by omega
  generalize hgg : w.heap.size = g at hgh hg1 HC ⊢
  have HGG := Lib.hid hgg
  have hg1 : w.heap.size ≤ g := by omega
  have hh1 : w.heap.size ≤ g + 1 := by omega
  clear hgg
  generalize hhh : g + 1 = ge at *
  clear hhh
  go_wp2_with fail
  go_loopw [11, 21] (fun _ i wr => ∃ k : Nat, k ≤ 31 ∧ i = .int .i64 k ∧ Hid (CtAt wr g ge (farTo k)) ∧ Hid (Below w.heap.size w wr)) (fun _ i _ => 31 - (intOf i).toNat)
  case atStart => exact ⟨0, by omega, rfl, HC, HB⟩
  case round =>
    clear HC HB
    obtain ⟨k, hk, rfl, HC, HB⟩ := hrel
    by_cases hlt : k < 31
    · have i3 : ¬ (31 : Int) ≤ (k : Int) := by omega
      obtain ⟨c1, c2⟩ := HC.out.at_ k (by omega)
      have f1 := HC.out.frg k
      have f2 := HC.out.frh k
      go_wp2_with fail
      go_roundw
      case rel =>
        refine ⟨k + 1, by omega, by go_num, Lib.hid ((HC.out.set (t := k) (a := far) (b := far) (by omega)).congr fun v hv => ?_), Lib.hid ((HB.out.setCell (p := ⟨g, _, none⟩) hg1 _).setCell (p := ⟨ge, _, none⟩) hh1 _)⟩
        unfold Ct.set farTo
        by_cases e : v = k
        · subst e; rw [if_pos rfl, if_pos (by omega)]
        · rw [if_neg (by omega)]
          by_cases e2 : v < k
          · rw [if_pos (by omega), if_pos (by omega)]
          · rw [if_neg (by omega), if_neg (by omega)]
      case measure => simp [intOf]; omega
    · obtain rfl : k = 31 := by omega
      obtain ⟨c1, c2⟩ := HC.out.at_ t ht2
      have f1 := HC.out.frg t
      have f2 := HC.out.frh t
      have hc0 : CtAt ((wr.setCell ⟨g, t, none⟩ (iv 0)).setCell ⟨ge, t, none⟩ (iv 0)) g ge (Ct.first t) := (HC.out.set (t := t) (a := 0) (b := 0) (by omega)).congr fun v hv => by
        unfold Ct.set farTo Ct.first
        by_cases e : v = t
        · subst e; rw [if_pos rfl, if_pos rfl]
        · rw [if_neg (by omega), if_pos (by omega), if_neg (by omega)]
      have HC0 := Lib.hid hc0
      have HB0 : Hid (Below w.heap.size w ((wr.setCell ⟨g, t, none⟩ (iv 0)).setCell ⟨ge, t, none⟩ (iv 0))) := Lib.hid ((HB.out.setCell (p := ⟨g, _, none⟩) hg1 _).setCell (p := ⟨ge, _, none⟩) hh1 _)
      clear hc0
      go_wp2_with fail
      go_loopw [33] (fun i wr => ∃ r : Nat, r ≤ 31 ∧ i = .int .i64 r ∧ Hid (CtAt wr g ge (backN l r (Ct.first t))) ∧ Hid (Below w.heap.size w wr)) (fun i _ => 31 - (intOf i).toNat)
      case atStart => exact ⟨0, by omega, rfl, HC0, HB0⟩
      case round =>
        rename World => wo
        clear HC0 HB0 HC HB c1 c2 f1 f2
        obtain ⟨r, hr, rfl, HC, HB⟩ := hrel
        by_cases hlr : r < 31
        · have dr : decide ((r : Int) < 31) = true := by simp; omega
          have htl := backN_told HOK.out (t : Int) r (by have := Nat.mul_le_mul (show r ≤ 31 by omega) hl60; omega)
          have hrl : r * l.length ≤ 1860 := by have := Nat.mul_le_mul (show r ≤ 31 by omega) hl60; omega
          have HTL := Lib.hid htl
          have hnx : backN l (r + 1) (Ct.first t) = backs l (backN l r (Ct.first t)) := rfl
          have HNX := Lib.hid hnx
          clear htl hnx
          generalize backN l r (Ct.first t) = s0 at *
          go_wp2_with fail
          go_loopw [37] (fun i wr => ∃ k : Nat, k ≤ l.length ∧ i = .int .i64 k ∧ Hid (CtAt wr g ge (backs (l.take k) s0)) ∧ Hid (Below w.heap.size w wr)) (fun i _ => l.length - (intOf i).toNat)
          case atStart => exact ⟨0, by omega, rfl, HC, HB⟩
          case round =>
            rename World => wi
            clear HC HB
            obtain ⟨k, hk, rfl, HC, HB⟩ := hrel
            by_cases hkl : k < l.length
            · have dk : decide ((k : Int) < (l.length : Int)) = true := by simp; omega
              have htl := backs_told HOK.out (l.take k) (r * l.length) s0 (fun x hx => List.mem_of_mem_take hx) (by rw [List.length_take]; omega) HTL.out
              have hst : backs (l.take (k + 1)) s0 = back l[k] (backs (l.take k) s0) := by rw [List.take_succ_eq_append_getElem hkl, backs_append]; rfl
              obtain ⟨xb, xo, rfl, xs, xc0, xc1, xc2⟩ := HR.out.stays HB.out k hkl
              have hxo := HOK.out _ (List.getElem_mem hkl)
              unfold EdgOk at hxo
              have HST := Lib.hid hst
              have HTL2 := Lib.hid htl
              clear hst htl
              generalize backs (l.take k) s0 = s at *
              generalize l[k] = x at *
              obtain ⟨xf, xt, xc⟩ := x
              dsimp only at *
              obtain ⟨nf, rfl⟩ := Int.eq_ofNat_of_zero_le (show 0 ≤ xf by omega)
              obtain ⟨nt, rfl⟩ := Int.eq_ofNat_of_zero_le (show 0 ≤ xt by omega)
              obtain ⟨F1, F2⟩ := HC.out.at_ nf (by omega)
              obtain ⟨T1, T2⟩ := HC.out.at_ nt (by omega)
              have hbd : ∀ v : Int, 0 ≤ (s v).1 ∧ (s v).1 ≤ 1099511627776 ∧ 0 ≤ (s v).2 ∧ (s v).2 ≤ 1099511627776 := fun v => by
                rcases HTL2.out.told v with e | ⟨_, e1, e2, e3, e4⟩
                · rw [e]; unfold far; simp
                · rw [List.length_take] at e2 e4; omega
              have hbt := hbd nt
              have hbf := hbd nf
              have i6 : ¬ (31 : Int) ≤ (nf : Int) := by omega
              have i7 : ¬ (31 : Int) ≤ (nt : Int) := by omega
              have hsz := HB.out.size
              have hlg := HC.out.ltg
              have hlh := HC.out.lth
              have HW1 : Hid (IntKind.i64.wrap ((s nt).1 + xc) = (s nt).1 + xc) := Lib.hid (IntWalk.i64_in _ (by omega))
              have HW2 : Hid (IntKind.i64.wrap ((s nt).2 + 1) = (s nt).2 + 1) := Lib.hid (IntWalk.i64_in _ (by omega))
              have hb0 : Below wi.heap.size wi (wi.alloc (.cells #[iv nf, iv nt, iv xc] 74)) := (Below.refl _ _).alloc (Nat.le_refl _) _
              have hblk := blk_top (w := wi) (o := .cells #[iv nf, iv nt, iv xc] 74) rfl
              have HXB := Lib.hid hblk
              have HC4 := Lib.hid (HC.out.stays hb0)
              have HB4 := Lib.hid (HB.out.alloc hsz (.cells #[iv nf, iv nt, iv xc] 74))
              clear hbd hb0 hblk F1 F2 T1 T2
              go_wp2_with fail
              have hs4 : (wi.alloc (.cells #[iv nf, iv nt, iv xc] 74)).heap.size = wi.heap.size + 1 := by simp
              generalize wi.alloc (.cells #[iv nf, iv nt, iv xc] 74) = w4 at *
              clear HC HB xc0 xc1 xc2
              have hgx1 : g ≠ wi.heap.size := by omega
              have hgx2 : ge ≠ wi.heap.size := by omega
              have hgx3 : wi.heap.size < w4.heap.size := by omega
              generalize wi.heap.size = gx at *
              have hrd : ∀ w', Below w4.heap.size w4 w' → w'.cell? ⟨gx, 0, none⟩ = some (iv nf) ∧ w'.cell? ⟨gx, 1, none⟩ = some (iv nt) ∧ w'.cell? ⟨gx, 2, none⟩ = some (iv xc) ∧ w'.cell? ⟨g, nt, none⟩ = some (iv (s nt).1) ∧ w'.cell? ⟨ge, nt, none⟩ = some (iv (s nt).2) := fun w' hb => by
                have hk1 := blk_below HXB.out hb
                have hk2 := (HC4.out.stays hb).at_ nt (by omega)
                exact ⟨by rw [cell_of_row _ _ _ _ _ _ hk1]; rfl, by rw [cell_of_row _ _ _ _ _ _ hk1]; rfl, by rw [cell_of_row _ _ _ _ _ _ hk1]; rfl, hk2.1, hk2.2⟩
              have HRD := Lib.hid hrd
              clear hrd
              refine wp_region_chain (by kernel_rfl) (some 41 :: some 42 :: some 43 :: some 44 :: some 45 :: some 46 :: some 47 :: some 48 :: some 49 :: some 50 :: some 51 :: some 52 :: some 14 :: some 15 :: []) (.pointer (some ⟨gx, 1, none⟩) :: iv nt :: .pointer (some ⟨g, nt, none⟩) :: iv (s nt).1 :: .pointer (some ⟨gx, 2, none⟩) :: iv xc :: iv ((s nt).1 + xc) :: .pointer (some ⟨gx, 1, none⟩) :: iv nt :: .pointer (some ⟨ge, nt, none⟩) :: iv (s nt).2 :: iv ((s nt).2 + 1) :: iv ((s nt).1 + xc) :: iv ((s nt).2 + 1) :: []) 143 rfl rfl (by decide +kernel) (by decide +kernel) (by decide +kernel) rfl ?_ ?_
              · refine ⟨.inl ⟨rfl, fun done a wq hw h => ?_⟩, ?_⟩
                · have e13 := ch_old (t := 13) (v := .pointer (some ⟨gx, 0, none⟩)) h rfl rfl; refine ch_pure ?_; go_simp
                refine ⟨.inl ⟨rfl, fun done a wq hw h => ?_⟩, ?_⟩
                · have e41 := ch_new (i := 0) (t := 41) h (hw 0 (by decide)) rfl rfl; obtain ⟨r0, r1, r2, r3, r4⟩ := HRD.out wq ((Below.refl _ _).drew.trans h.bel); refine ch_pure ?_; go_simp
                refine ⟨.inl ⟨rfl, fun done a wq hw h => ?_⟩, ?_⟩
                · have e9 := ch_old (t := 9) (v := .pointer (some ⟨g, 0, none⟩)) h rfl rfl; have e42 := ch_new (i := 1) (t := 42) h (hw 1 (by decide)) rfl rfl; refine ch_pure ?_; go_simp
                refine ⟨.inl ⟨rfl, fun done a wq hw h => ?_⟩, ?_⟩
                · have e43 := ch_new (i := 2) (t := 43) h (hw 2 (by decide)) rfl rfl; obtain ⟨r0, r1, r2, r3, r4⟩ := HRD.out wq ((Below.refl _ _).drew.trans h.bel); refine ch_pure ?_; go_simp
                refine ⟨.inl ⟨rfl, fun done a wq hw h => ?_⟩, ?_⟩
                · have e13 := ch_old (t := 13) (v := .pointer (some ⟨gx, 0, none⟩)) h rfl rfl; refine ch_pure ?_; go_simp
                refine ⟨.inl ⟨rfl, fun done a wq hw h => ?_⟩, ?_⟩
                · have e45 := ch_new (i := 4) (t := 45) h (hw 4 (by decide)) rfl rfl; obtain ⟨r0, r1, r2, r3, r4⟩ := HRD.out wq ((Below.refl _ _).drew.trans h.bel); refine ch_pure ?_; go_simp
                refine ⟨.inl ⟨rfl, fun done a wq hw h => ?_⟩, ?_⟩
                · have e44 := ch_new (i := 3) (t := 44) h (hw 3 (by decide)) rfl rfl; have e46 := ch_new (i := 5) (t := 46) h (hw 5 (by decide)) rfl rfl; obtain ⟨r0, r1, r2, r3, r4⟩ := HRD.out wq ((Below.refl _ _).drew.trans h.bel); have hw1 := HW1.out; have hw2 := HW2.out; refine ch_pure ?_; go_simp
                refine ⟨.inl ⟨rfl, fun done a wq hw h => ?_⟩, ?_⟩
                · have e13 := ch_old (t := 13) (v := .pointer (some ⟨gx, 0, none⟩)) h rfl rfl; refine ch_pure ?_; go_simp
                refine ⟨.inl ⟨rfl, fun done a wq hw h => ?_⟩, ?_⟩
                · have e48 := ch_new (i := 7) (t := 48) h (hw 7 (by decide)) rfl rfl; obtain ⟨r0, r1, r2, r3, r4⟩ := HRD.out wq ((Below.refl _ _).drew.trans h.bel); refine ch_pure ?_; go_simp
                refine ⟨.inl ⟨rfl, fun done a wq hw h => ?_⟩, ?_⟩
                · have e10 := ch_old (t := 10) (v := .pointer (some ⟨ge, 0, none⟩)) h rfl rfl; have e49 := ch_new (i := 8) (t := 49) h (hw 8 (by decide)) rfl rfl; refine ch_pure ?_; go_simp
                refine ⟨.inl ⟨rfl, fun done a wq hw h => ?_⟩, ?_⟩
                · have e50 := ch_new (i := 9) (t := 50) h (hw 9 (by decide)) rfl rfl; obtain ⟨r0, r1, r2, r3, r4⟩ := HRD.out wq ((Below.refl _ _).drew.trans h.bel); refine ch_pure ?_; go_simp
                refine ⟨.inl ⟨rfl, fun done a wq hw h => ?_⟩, ?_⟩
                · have e51 := ch_new (i := 10) (t := 51) h (hw 10 (by decide)) rfl rfl; obtain ⟨r0, r1, r2, r3, r4⟩ := HRD.out wq ((Below.refl _ _).drew.trans h.bel); have hw1 := HW1.out; have hw2 := HW2.out; refine ch_pure ?_; go_simp
                refine ⟨.inl ⟨rfl, fun done a wq hw h => ?_⟩, ?_⟩
                · have e47 := ch_new (i := 6) (t := 47) h (hw 6 (by decide)) rfl rfl; exact ch_assign (ch_ev e47)
                refine ⟨.inl ⟨rfl, fun done a wq hw h => ?_⟩, ?_⟩
                · have e52 := ch_new (i := 11) (t := 52) h (hw 11 (by decide)) rfl rfl; exact ch_assign (ch_ev e52)
                exact trivial
              · intro w5 hb5
                simp only [putAll_some, putAll_none, putAll_nil, List.setIfInBounds_toArray, List.set_cons_zero, List.set_cons_succ]
                have HC5 := Lib.hid (HC4.out.stays hb5)
                have HB5 : Hid (Below w.heap.size w w5) := Lib.hid (HB4.out.trans (hb5.mono HB4.out.size))
                obtain ⟨r0, -, -, -, -⟩ := HRD.out w5 hb5
                have HX0 := Lib.hid r0
                obtain ⟨F1, F2⟩ := HC5.out.at_ nf (by omega)
                have HF1 := Lib.hid F1
                have HF2 := Lib.hid F2
                have HS0 : Hid (ctLt ((s nt).1 + xc, (s nt).2 + 1) (s nf) → back ⟨nf, nt, xc⟩ s = s.set nf ((s nt).1 + xc, (s nt).2 + 1)) := Lib.hid (fun e => back_yes e)
                have HS1 : Hid (¬ ctLt ((s nt).1 + xc, (s nt).2 + 1) (s nf) → back ⟨nf, nt, xc⟩ s = s) := Lib.hid (fun e => back_no e)
                clear hb5 HRD HW1 HW2 HXB HTL2 HTL HNX
                have HSTo := HST
                clear HST
                by_cases q1 : (s nt).1 + xc < (s nf).1
                · have HST := Lib.hid (HSTo.out.trans (HS0.out (Or.inl q1)))
                  clear HSTo
                  clear HS0 HS1
                  have HG0 : Hid (w5.drew.cell? ⟨g, nf, none⟩ = some (iv (s nf).1)) := HF1
                  have HG1 : Hid (w5.drew.frozen? ⟨g, nf, none⟩ = false) := Lib.hid (HC5.out.frg nf)
                  have HH0 : Hid ((w5.drew.setCell ⟨g, nf, none⟩ (iv ((s nt).1 + xc))).cell? ⟨ge, nf, none⟩ = some (iv (s nf).2)) := Lib.hid (by rw [World.cell?_setCell_other _ _ _ _ (by intro e; injection e with e; omega)]; exact HF2.out)
                  have HH1 : Hid ((w5.drew.setCell ⟨g, nf, none⟩ (iv ((s nt).1 + xc))).frozen? ⟨ge, nf, none⟩ = false) := Lib.hid (by have := HC5.out.frh nf; simpa using this)
                  go_wp2_with fail
                  refine wp_region_mix (by kernel_rfl) (some 75 :: some 76 :: some 77 :: some 78 :: some 79 :: some 80 :: some 81 :: none :: some 82 :: none :: []) (none :: none :: none :: none :: none :: none :: none :: some 0 :: none :: some 1 :: []) (.pointer (some ⟨gx, 0, none⟩) :: iv nf :: .pointer (some ⟨gx, 0, none⟩) :: iv nf :: iv ((s nt).1 + xc) :: iv ((s nt).2 + 1) :: .pointer (some ⟨g, nf, none⟩) :: undef :: .pointer (some ⟨ge, nf, none⟩) :: undef :: []) 2 (bwJ w5 g ge nf ((s nt).1 + xc) ((s nt).2 + 1)) 143 rfl rfl (by decide +kernel) (by decide +kernel) (by decide +kernel) (by decide +kernel) rfl rfl (by decide +kernel) (by decide +kernel) (rfl) ?_ ?_
                  · refine ⟨?_, ?_⟩
                    · intro done cv k a wq hw h hJ hn
                      have e13 := mx_old (t := 13) (v := .pointer (some ⟨gx, 0, none⟩)) h rfl rfl
                      go_simp
                    refine ⟨?_, ?_⟩
                    · intro done cv k a wq hw h hJ hn
                      have e75 := mx_new (i := 0) (t := 75) h (hw 0 (by decide)) rfl rfl rfl
                      have r0 := bwJ_row hgx1 hgx2 HX0.out hJ
                      go_simp
                    refine ⟨?_, ?_⟩
                    · intro done cv k a wq hw h hJ hn
                      have e13 := mx_old (t := 13) (v := .pointer (some ⟨gx, 0, none⟩)) h rfl rfl
                      go_simp
                    refine ⟨?_, ?_⟩
                    · intro done cv k a wq hw h hJ hn
                      have e77 := mx_new (i := 2) (t := 77) h (hw 2 (by decide)) rfl rfl rfl
                      have r0 := bwJ_row hgx1 hgx2 HX0.out hJ
                      go_simp
                    refine ⟨?_, ?_⟩
                    · intro done cv k a wq hw h hJ hn
                      have e14 := mx_old (t := 14) (v := iv ((s nt).1 + xc)) h rfl rfl
                      exact mx_move (ch_ev e14)
                    refine ⟨?_, ?_⟩
                    · intro done cv k a wq hw h hJ hn
                      have e15 := mx_old (t := 15) (v := iv ((s nt).2 + 1)) h rfl rfl
                      exact mx_move (ch_ev e15)
                    refine ⟨?_, ?_⟩
                    · intro done cv k a wq hw h hJ hn
                      have e9 := mx_old (t := 9) (v := .pointer (some ⟨g, 0, none⟩)) h rfl rfl; have e76 := mx_new (i := 1) (t := 76) h (hw 1 (by decide)) rfl rfl rfl
                      go_simp
                    refine ⟨?_, ?_⟩
                    · intro done cv a wq hw h hJ
                      have e81 := mx_new (i := 6) (t := 81) h (hw 6 (by decide)) rfl rfl rfl; have e79 := mx_new (i := 4) (t := 79) h (hw 4 (by decide)) rfl rfl rfl
                      obtain rfl : wq = w5.drew := hJ
                      exact wp_stn e81 e79 HG0.out HG1.out ⟨undef, rfl, rfl⟩
                    refine ⟨?_, ?_⟩
                    · intro done cv k a wq hw h hJ hn
                      have e10 := mx_old (t := 10) (v := .pointer (some ⟨ge, 0, none⟩)) h rfl rfl; have e78 := mx_new (i := 3) (t := 78) h (hw 3 (by decide)) rfl rfl rfl
                      go_simp
                    refine ⟨?_, ?_⟩
                    · intro done cv a wq hw h hJ
                      have e82 := mx_new (i := 8) (t := 82) h (hw 8 (by decide)) rfl rfl rfl; have e80 := mx_new (i := 5) (t := 80) h (hw 5 (by decide)) rfl rfl rfl
                      obtain rfl : wq = w5.drew.setCell ⟨g, nf, none⟩ (iv ((s nt).1 + xc)) := hJ
                      exact wp_stn e82 e80 HH0.out HH1.out ⟨undef, rfl, rfl⟩
                    exact trivial
                  · rintro cv w6 hw6
                    obtain rfl : w6 = (w5.drew.setCell ⟨g, nf, none⟩ (iv ((s nt).1 + xc))).setCell ⟨ge, nf, none⟩ (iv ((s nt).2 + 1)) := hw6
                    have HC6 : Hid (CtAt _ g ge (s.set nf ((s nt).1 + xc, (s nt).2 + 1))) := Lib.hid ((HC5.out.drew).set (by omega))
                    have HB6 : Hid (Below w.heap.size w ((w5.drew.setCell ⟨g, nf, none⟩ (iv ((s nt).1 + xc))).setCell ⟨ge, nf, none⟩ (iv ((s nt).2 + 1)))) := Lib.hid ((HB5.out.drew.setCell (p := ⟨g, _, none⟩) hg1 _).setCell (p := ⟨ge, _, none⟩) hh1 _)
                    simp only [mixAll, putAll_some, putAll_none, putAll_nil, List.getElem?_cons_zero, List.getElem?_cons_succ, Nat.zero_add, Nat.reduceAdd, List.setIfInBounds_toArray, List.set_cons_zero, List.set_cons_succ]
                    generalize (w5.drew.setCell ⟨g, nf, none⟩ (iv ((s nt).1 + xc))).setCell ⟨ge, nf, none⟩ (iv ((s nt).2 + 1)) = w6 at *
                    go_wp2_with fail
                    go_roundw
                    case rel => first | exact ⟨k + 1, by omega, by go_num, by rw [HST.out]; exact HC6, HB6⟩ | ((repeat apply Exists.intro); exact ⟨⟨k + 1, by omega, by go_num, by rw [HST.out]; exact HC6, HB6⟩, rfl⟩) | ((repeat apply Exists.intro); refine ⟨⟨k + 1, ?_, ?_, ?_, ?_⟩, ?_⟩; rotate_left 4; (first | rfl | (repeat' apply And.intro) <;> rfl); omega; go_num; (rw [HST.out]; first | exact HC6 | exact HC5); first | exact HB6 | exact HB5)
                    case measure => simp [intOf]; omega
                · by_cases q2 : (s nt).1 + xc = (s nf).1
                  · by_cases q3 : (s nt).2 + 1 < (s nf).2
                    · have HST := Lib.hid (HSTo.out.trans (HS0.out (Or.inr ⟨q2, q3⟩)))
                      have q2' : ((s nt).1 + xc == (s nf).1) = true := by simp [q2]
                      have q1' : decide ((s nt).1 + xc < (s nf).1) = false := by simp; omega
                      have q3' : decide ((s nt).2 + 1 < (s nf).2) = true := by simp; omega
                      clear HSTo q2
                      clear HS0 HS1
                      have HG0 : Hid (w5.drew.cell? ⟨g, nf, none⟩ = some (iv (s nf).1)) := HF1
                      have HG1 : Hid (w5.drew.frozen? ⟨g, nf, none⟩ = false) := Lib.hid (HC5.out.frg nf)
                      have HH0 : Hid ((w5.drew.setCell ⟨g, nf, none⟩ (iv ((s nt).1 + xc))).cell? ⟨ge, nf, none⟩ = some (iv (s nf).2)) := Lib.hid (by rw [World.cell?_setCell_other _ _ _ _ (by intro e; injection e with e; omega)]; exact HF2.out)
                      have HH1 : Hid ((w5.drew.setCell ⟨g, nf, none⟩ (iv ((s nt).1 + xc))).frozen? ⟨ge, nf, none⟩ = false) := Lib.hid (by have := HC5.out.frh nf; simpa using this)
                      go_wp2_with fail
                      refine wp_region_mix (by kernel_rfl) (some 75 :: some 76 :: some 77 :: some 78 :: some 79 :: some 80 :: some 81 :: none :: some 82 :: none :: []) (none :: none :: none :: none :: none :: none :: none :: some 0 :: none :: some 1 :: []) (.pointer (some ⟨gx, 0, none⟩) :: iv nf :: .pointer (some ⟨gx, 0, none⟩) :: iv nf :: iv ((s nt).1 + xc) :: iv ((s nt).2 + 1) :: .pointer (some ⟨g, nf, none⟩) :: undef :: .pointer (some ⟨ge, nf, none⟩) :: undef :: []) 2 (bwJ w5 g ge nf ((s nt).1 + xc) ((s nt).2 + 1)) 143 rfl rfl (by decide +kernel) (by decide +kernel) (by decide +kernel) (by decide +kernel) rfl rfl (by decide +kernel) (by decide +kernel) (rfl) ?_ ?_
                      · refine ⟨?_, ?_⟩
                        · intro done cv k a wq hw h hJ hn
                          have e13 := mx_old (t := 13) (v := .pointer (some ⟨gx, 0, none⟩)) h rfl rfl
                          go_simp
                        refine ⟨?_, ?_⟩
                        · intro done cv k a wq hw h hJ hn
                          have e75 := mx_new (i := 0) (t := 75) h (hw 0 (by decide)) rfl rfl rfl
                          have r0 := bwJ_row hgx1 hgx2 HX0.out hJ
                          go_simp
                        refine ⟨?_, ?_⟩
                        · intro done cv k a wq hw h hJ hn
                          have e13 := mx_old (t := 13) (v := .pointer (some ⟨gx, 0, none⟩)) h rfl rfl
                          go_simp
                        refine ⟨?_, ?_⟩
                        · intro done cv k a wq hw h hJ hn
                          have e77 := mx_new (i := 2) (t := 77) h (hw 2 (by decide)) rfl rfl rfl
                          have r0 := bwJ_row hgx1 hgx2 HX0.out hJ
                          go_simp
                        refine ⟨?_, ?_⟩
                        · intro done cv k a wq hw h hJ hn
                          have e14 := mx_old (t := 14) (v := iv ((s nt).1 + xc)) h rfl rfl
                          exact mx_move (ch_ev e14)
                        refine ⟨?_, ?_⟩
                        · intro done cv k a wq hw h hJ hn
                          have e15 := mx_old (t := 15) (v := iv ((s nt).2 + 1)) h rfl rfl
                          exact mx_move (ch_ev e15)
                        refine ⟨?_, ?_⟩
                        · intro done cv k a wq hw h hJ hn
                          have e9 := mx_old (t := 9) (v := .pointer (some ⟨g, 0, none⟩)) h rfl rfl; have e76 := mx_new (i := 1) (t := 76) h (hw 1 (by decide)) rfl rfl rfl
                          go_simp
                        refine ⟨?_, ?_⟩
                        · intro done cv a wq hw h hJ
                          have e81 := mx_new (i := 6) (t := 81) h (hw 6 (by decide)) rfl rfl rfl; have e79 := mx_new (i := 4) (t := 79) h (hw 4 (by decide)) rfl rfl rfl
                          obtain rfl : wq = w5.drew := hJ
                          exact wp_stn e81 e79 HG0.out HG1.out ⟨undef, rfl, rfl⟩
                        refine ⟨?_, ?_⟩
                        · intro done cv k a wq hw h hJ hn
                          have e10 := mx_old (t := 10) (v := .pointer (some ⟨ge, 0, none⟩)) h rfl rfl; have e78 := mx_new (i := 3) (t := 78) h (hw 3 (by decide)) rfl rfl rfl
                          go_simp
                        refine ⟨?_, ?_⟩
                        · intro done cv a wq hw h hJ
                          have e82 := mx_new (i := 8) (t := 82) h (hw 8 (by decide)) rfl rfl rfl; have e80 := mx_new (i := 5) (t := 80) h (hw 5 (by decide)) rfl rfl rfl
                          obtain rfl : wq = w5.drew.setCell ⟨g, nf, none⟩ (iv ((s nt).1 + xc)) := hJ
                          exact wp_stn e82 e80 HH0.out HH1.out ⟨undef, rfl, rfl⟩
                        exact trivial
                      · rintro cv w6 hw6
                        obtain rfl : w6 = (w5.drew.setCell ⟨g, nf, none⟩ (iv ((s nt).1 + xc))).setCell ⟨ge, nf, none⟩ (iv ((s nt).2 + 1)) := hw6
                        have HC6 : Hid (CtAt _ g ge (s.set nf ((s nt).1 + xc, (s nt).2 + 1))) := Lib.hid ((HC5.out.drew).set (by omega))
                        have HB6 : Hid (Below w.heap.size w ((w5.drew.setCell ⟨g, nf, none⟩ (iv ((s nt).1 + xc))).setCell ⟨ge, nf, none⟩ (iv ((s nt).2 + 1)))) := Lib.hid ((HB5.out.drew.setCell (p := ⟨g, _, none⟩) hg1 _).setCell (p := ⟨ge, _, none⟩) hh1 _)
                        simp only [mixAll, putAll_some, putAll_none, putAll_nil, List.getElem?_cons_zero, List.getElem?_cons_succ, Nat.zero_add, Nat.reduceAdd, List.setIfInBounds_toArray, List.set_cons_zero, List.set_cons_succ]
                        generalize (w5.drew.setCell ⟨g, nf, none⟩ (iv ((s nt).1 + xc))).setCell ⟨ge, nf, none⟩ (iv ((s nt).2 + 1)) = w6 at *
                        go_wp2_with fail
                        go_roundw
                        case rel => first | exact ⟨k + 1, by omega, by go_num, by rw [HST.out]; exact HC6, HB6⟩ | ((repeat apply Exists.intro); exact ⟨⟨k + 1, by omega, by go_num, by rw [HST.out]; exact HC6, HB6⟩, rfl⟩) | ((repeat apply Exists.intro); refine ⟨⟨k + 1, ?_, ?_, ?_, ?_⟩, ?_⟩; rotate_left 4; (first | rfl | (repeat' apply And.intro) <;> rfl); omega; go_num; (rw [HST.out]; first | exact HC6 | exact HC5); first | exact HB6 | exact HB5)
                        case measure => simp [intOf]; omega
                    · have HST := Lib.hid (HSTo.out.trans (HS1.out (fun e => by unfold ctLt at e; dsimp only at e; omega)))
                      have q2' : ((s nt).1 + xc == (s nf).1) = true := by simp [q2]
                      have q1' : decide ((s nt).1 + xc < (s nf).1) = false := by simp; omega
                      have q3' : decide ((s nt).2 + 1 < (s nf).2) = false := by simp; omega
                      clear HSTo q2
                      have HBk : Hid (Below w.heap.size w w5 ∧ True) := Lib.hid ⟨HB5.out, trivial⟩
                      clear HS0 HS1 HB5
                      go_wp2_with fail
                      go_roundw
                      case rel => first | exact ⟨k + 1, by omega, by go_num, by rw [HST.out]; exact HC5, Lib.hid HBk.out.1⟩ | ((repeat apply Exists.intro); exact ⟨⟨k + 1, by omega, by go_num, by rw [HST.out]; exact HC5, Lib.hid HBk.out.1⟩, rfl⟩) | ((repeat apply Exists.intro); exact ⟨⟨k + 1, by omega, by go_num, by rw [HST.out]; exact HC5, Lib.hid HBk.out.1⟩, rfl, rfl, rfl, rfl⟩)
                      case measure => simp [intOf]; omega
                  · have HST := Lib.hid (HSTo.out.trans (HS1.out (fun e => by unfold ctLt at e; dsimp only at e; omega)))
                    have q2' : ((s nt).1 + xc == (s nf).1) = false := by simp [q2]
                    have q1' : decide ((s nt).1 + xc < (s nf).1) = false := by simp; omega
                    clear HSTo q2
                    have HBk : Hid (Below w.heap.size w w5 ∧ True) := Lib.hid ⟨HB5.out, trivial⟩
                    clear HS0 HS1 HB5
                    go_wp2_with fail
                    go_roundw
                    case rel => first | exact ⟨k + 1, by omega, by go_num, by rw [HST.out]; exact HC5, Lib.hid HBk.out.1⟩ | ((repeat apply Exists.intro); exact ⟨⟨k + 1, by omega, by go_num, by rw [HST.out]; exact HC5, Lib.hid HBk.out.1⟩, rfl⟩) | ((repeat apply Exists.intro); exact ⟨⟨k + 1, by omega, by go_num, by rw [HST.out]; exact HC5, Lib.hid HBk.out.1⟩, rfl, rfl, rfl, rfl⟩)
                    case measure => simp [intOf]; omega
            · obtain rfl : k = l.length := by omega
              rw [List.take_length] at HC
              go_wp2_with fail
              go_roundw
              case rel => exact ⟨r + 1, by omega, by go_num, by rw [HNX.out]; exact HC, HB⟩
              case measure => simp [intOf]; omega
        · obtain rfl : r = 31 := by omega
          have htl := backN_told HOK.out (t : Int) 31 (by omega)
          have hnb := fun v u hv hu hne => next_best HOK.out hl60 (t := (t : Int)) (now := v) (w := u) (by omega) hv hu hne
          have HNB := Lib.hid hnb
          have HTL := Lib.hid htl
          clear htl hnb
          generalize backN l 31 (Ct.first t) = S at *
          obtain ⟨F1, F2⟩ := HC.out.at_ f hf2
          have hbd : ∀ v : Int, 0 ≤ (S v).1 ∧ (S v).1 ≤ 1099511627776 ∧ 0 ≤ (S v).2 ∧ (S v).2 ≤ 1099511627776 := fun v => by
            rcases HTL.out.told v with e | ⟨_, e1, e2, e3, e4⟩
            · rw [e]; unfold far; simp
            · omega
          have HBD := Lib.hid hbd
          clear hbd HTL
          by_cases hW : W.at_ = []
          · obtain ⟨e1, e2⟩ := HBO.out.2 hW
            have e3 := HBE.out.2 e2
            rw [e3] at F1
            unfold far at F1
            have hrs : res = false := by rw [← HRES.out]; simp [hW]
            subst e1 hrs
            clear e2 e3 F2 hW HBD HBB
            go_wp2_with fail
            go_ret3
            exact ⟨none, 0, rfl, Nts.nil _ _, Nat.le_refl _, HB.out⟩
          · have e1 := HBO.out.1 hW
            have e3 := HBE.out.1 W e1
            rw [e3] at F1 F2
            have hwb := HBB.out hW
            have hrs : res = true := by rw [← HRES.out]; simp [hW]
            subst hrs
            have HF1 := Lib.hid F1
            have HSF := Lib.hid e3
            have HBW := Lib.hid e1
            obtain ⟨rh, hhd⟩ := e1.1.head
            have HHD := Lib.hid hhd
            have F1' : wo.cell? ⟨g, f, none⟩ = some (iv W.cost) := F1
            have d1 : ¬ (1099511627776 : Int) ≤ W.cost := by omega
            have hlg := HC.out.ltg
            have hlh := HC.out.lth
            have hszo := HB.out.size
            have hb0 : Below wo.heap.size wo (wo.alloc (.cells #[iv f] 3)) := (Below.refl _ _).alloc (Nat.le_refl _) _
            have HC1 := Lib.hid (HC.out.stays hb0)
            have HB1 := Lib.hid (HB.out.alloc hszo (.cells #[iv f] 3))
            have HO1 : Hid (Own (wo.alloc (.cells #[iv f] 3)) wo.heap.size 3 1 (some ⟨wo.heap.size, 0, none⟩) 1 1 ([(f : Int)].map iv)) := Lib.hid (own_int (blk_top rfl) (Nat.le_refl _))
            have hsb : wo.heap.size ≤ (wo.alloc (.cells #[iv f] 3)).heap.size := by simp
            clear F1 F2 e1 e3 hhd hb0 hW HBB HBE HBO HC HB
            go_wp2_with fail
            generalize wo.alloc (.cells #[iv f] 3) = w1 at *
            generalize wo.heap.size = gb at *
            have hgb1 : w.heap.size ≤ gb := hszo
            go_loopg [16, 17] W.at_.length (fun k a n wr => ∃ (v : Nat) (u : Way) (q : List Int) (Aq : Option Addr) (cq : Nat), n = .int .i64 (v : Int) ∧ a = .slice Aq q.length cq ∧ 1 ≤ v ∧ v ≤ 30 ∧ Hid (Best l v t u) ∧ Hid (q ++ u.at_.tail = W.at_) ∧ Hid (Own wr gb 3 1 Aq q.length cq (q.map iv)) ∧ Hid (CtAt wr g ge S) ∧ Hid (Below w.heap.size w wr) ∧ Hid (u.at_.length ≤ k) ∧ gb ≤ wr.heap.size)
            case atStart => exact ⟨f, W, [(f : Int)], some ⟨gb, 0, none⟩, 1, rfl, rfl, hf1, hf2, HBW, Lib.hid (by rw [HHD.out]; rfl), HO1, HC1, HB1, Lib.hid (Nat.le_refl _), hsb⟩
            case round =>
              clear HO1 HC1 HB1 hsb HBW HHD HF1 F1'
              rename World => wp
              obtain ⟨v, u, q, Aq, cq, rfl, rfl, hv1, hv2, HU, HQ, HO, HC, HB, HK, hsb⟩ := hrel
              by_cases hvt : v = t
              · subst hvt
                have hu := best_self HOK.out (t := (v : Int)) (by omega) HU.out
                have hq : q = W.at_ := by have := HQ.out; rw [hu] at this; simpa using this
                subst hq
                obtain ⟨F1, -⟩ := HC.out.at_ f hf2
                have F3 : wp.cell? ⟨g, f, none⟩ = some (iv W.cost) := by rw [F1, HSF.out]; rfl
                have dvv : ((v : Int) != (v : Int)) = false := by simp
                have HN := Lib.hid HO.out.src.nts
                have hle := HO.out.le
                clear F1 hu HQ HU HO
                go_wp2_with fail
                go_quiet (fail)
                go_wp2_with fail
                go_ret3
                exact ⟨Aq, cq, rfl, HN.out.drewN _, hle, Below.drewN' HB.out _⟩
              · have dvv : ((v : Int) != (t : Int)) = true := by simp; omega
                obtain ⟨V1, V2⟩ := HC.out.at_ v hv2
                have hbv := HBD.out v
                have hnx := nextTo_le S (v : Int)
                obtain ⟨u', n1, n2, n3, n4⟩ := HNB.out v u (by omega) HU.out (by omega)
                have HN3 := Lib.hid n3
                have HN4 := Lib.hid n4
                have hql : q.length ≤ 30 := by have := congrArg List.length HQ.out; simp at this; omega
                clear n3 n4 hvt
                have hlg' := HC.out.ltg
                have hlh' := HC.out.lth
                go_wp2_with fail
                go_loopw [18, 97] (fun x i wr => ∃ k : Nat, k ≤ l.length ∧ i = .int .i64 k ∧ x = .int .i64 (nextTo S v (l.take k) 31) ∧ Hid (Below wp.heap.size wp wr)) (fun _ i _ => l.length - (intOf i).toNat)
                case atStart => exact ⟨0, Nat.zero_le _, rfl, rfl, Lib.hid (Below.refl _ _)⟩
                case round =>
                  rename World => wi
                  have HBp := HB
                  clear HB
                  obtain ⟨k, hk, rfl, rfl, HB⟩ := hrel
                  have hsz := HB.out.size
                  by_cases hkl : k < l.length
                  · have dk : decide ((k : Int) < (l.length : Int)) = true := by simp; omega
                    obtain ⟨xb, xo, rfl, xs, xc0, xc1, xc2⟩ := HR.out.stays (HBp.out.trans (HB.out.mono HBp.out.size)) k hkl
                    have hsn := next_snoc hkl S (v : Int) 31
                    have hnl := hnx (l.take k) 31
                    have hn1 : 1 ≤ nextTo S v (l.take k) 31 := by
                      rcases hnl.2.2 with e | ⟨y, hy, _, e⟩
                      · omega
                      · have := HOK.out y (List.mem_of_mem_take hy); unfold EdgOk at this; omega
                    have hn2 := hnl.1
                    have hxo := HOK.out _ (List.getElem_mem hkl)
                    unfold EdgOk at hxo
                    have HS := Lib.hid hsn
                    clear hsn hnl
                    generalize l[k] = x at *
                    obtain ⟨xf, xt, xc⟩ := x
                    dsimp only at *
                    generalize nextTo S v (l.take k) 31 = z at *
                    obtain ⟨nt, rfl⟩ := Int.eq_ofNat_of_zero_le (show 0 ≤ xt by omega)
                    have hbt := HBD.out nt
                    obtain ⟨T1, T2⟩ := HC.out.at_ nt (by omega)
                    have c1 : wi.cell? ⟨g, nt, none⟩ = some (iv (S nt).1) := (HB.out.cell (p := ⟨g, _, none⟩) hlg').trans T1
                    have c2 : wi.cell? ⟨ge, nt, none⟩ = some (iv (S nt).2) := (HB.out.cell (p := ⟨ge, _, none⟩) hlh').trans T2
                    have c3 : wi.cell? ⟨g, v, none⟩ = some (iv (S v).1) := (HB.out.cell (p := ⟨g, _, none⟩) hlg').trans V1
                    have c4 : wi.cell? ⟨ge, v, none⟩ = some (iv (S v).2) := (HB.out.cell (p := ⟨ge, _, none⟩) hlh').trans V2
                    have l1 : g < wi.heap.size := by omega
                    have l2 : ge < wi.heap.size := by omega
                    have i6 : ¬ (31 : Int) ≤ (nt : Int) := by omega
                    have i7 : ¬ (31 : Int) ≤ (v : Int) := by omega
                    have hw1 : IntKind.i64.wrap ((S nt).1 + xc) = (S nt).1 + xc := IntWalk.i64_in _ (by omega)
                    have hw2 : IntKind.i64.wrap ((S nt).2 + 1) = (S nt).2 + 1 := IntWalk.i64_in _ (by omega)
                    clear T1 T2 V1 V2
                    by_cases p1 : xf = v
                    · by_cases p2 : (S nt).1 + xc = (S v).1
                      · by_cases p3 : (S nt).2 + 1 = (S v).2
                        · have HS2 : Hid (nextTo S v (l.take (k + 1)) 31 = min z nt) := Lib.hid (by rw [HS.out, if_pos ⟨p1, p2, p3⟩])
                          have q1 : (xf == (v : Int)) = true := by simp [p1]
                          have q2 : ((S nt).1 + xc == (S v).1) = true := by simp [p2]
                          have q3 : ((S nt).2 + 1 == (S v).2) = true := by simp [p3]
                          clear HS p1 p2 p3
                          by_cases p4 : z ≤ nt
                          · have HS3 : Hid (nextTo S v (l.take (k + 1)) 31 = z) := Lib.hid (by rw [HS2.out]; omega)
                            have p4' : decide (z ≤ (nt : Int)) = true := by simp [p4]
                            clear HS2
                            go_wp2_with fail
                            go_quiet (fail)
                            go_wp2_with fail
                            go_roundw
                            case rel => first | exact ⟨k + 1, by omega, by go_num, by rw [HS3.out], Lib.hid (Below.drewN' (HB.out.alloc hsz _) _)⟩ | ((repeat apply Exists.intro); exact ⟨⟨k + 1, by omega, by go_num, by rw [HS3.out], Lib.hid (Below.drewN' (HB.out.alloc hsz _) _)⟩, rfl⟩)
                            case measure => simp [intOf]; omega
                          · have HS3 : Hid (nextTo S v (l.take (k + 1)) 31 = nt) := Lib.hid (by rw [HS2.out]; omega)
                            have p5 : (nt : Int) < z := by omega
                            clear HS2 p4
                            go_wp2_with fail
                            go_quiet (fail)
                            go_wp2_with fail
                            go_roundw
                            case rel => first | exact ⟨k + 1, by omega, by go_num, by rw [HS3.out], Lib.hid (Below.drewN' (HB.out.alloc hsz _) _)⟩ | ((repeat apply Exists.intro); exact ⟨⟨k + 1, by omega, by go_num, by rw [HS3.out], Lib.hid (Below.drewN' (HB.out.alloc hsz _) _)⟩, rfl⟩)
                            case measure => simp [intOf]; omega
                        · have HS3 : Hid (nextTo S v (l.take (k + 1)) 31 = z) := Lib.hid (by rw [HS.out, if_neg (fun e => p3 e.2.2)])
                          have q1 : (xf == (v : Int)) = true := by simp [p1]
                          have q2 : ((S nt).1 + xc == (S v).1) = true := by simp [p2]
                          have q3 : ((S nt).2 + 1 == (S v).2) = false := by simp [p3]
                          clear HS p1 p2 p3
                          go_wp2_with fail
                          go_quiet (fail)
                          go_wp2_with fail
                          go_roundw
                          case rel => first | exact ⟨k + 1, by omega, by go_num, by rw [HS3.out], Lib.hid (Below.drewN' (HB.out.alloc hsz _) _)⟩ | ((repeat apply Exists.intro); exact ⟨⟨k + 1, by omega, by go_num, by rw [HS3.out], Lib.hid (Below.drewN' (HB.out.alloc hsz _) _)⟩, rfl⟩)
                          case measure => simp [intOf]; omega
                      · have HS3 : Hid (nextTo S v (l.take (k + 1)) 31 = z) := Lib.hid (by rw [HS.out, if_neg (fun e => p2 e.2.1)])
                        have q1 : (xf == (v : Int)) = true := by simp [p1]
                        have q2 : ((S nt).1 + xc == (S v).1) = false := by simp [p2]
                        clear HS p1 p2
                        go_wp2_with fail
                        go_quiet (fail)
                        go_wp2_with fail
                        go_roundw
                        case rel => first | exact ⟨k + 1, by omega, by go_num, by rw [HS3.out], Lib.hid (Below.drewN' (HB.out.alloc hsz _) _)⟩ | ((repeat apply Exists.intro); exact ⟨⟨k + 1, by omega, by go_num, by rw [HS3.out], Lib.hid (Below.drewN' (HB.out.alloc hsz _) _)⟩, rfl⟩)
                        case measure => simp [intOf]; omega
                    · have HS3 : Hid (nextTo S v (l.take (k + 1)) 31 = z) := Lib.hid (by rw [HS.out, if_neg (fun e => p1 e.1)])
                      have q1 : (xf == (v : Int)) = false := by simp [p1]
                      clear HS p1
                      go_wp2_with fail
                      go_quiet (fail)
                      go_wp2_with fail
                      go_roundw
                      case rel => first | exact ⟨k + 1, by omega, by go_num, by rw [HS3.out], Lib.hid (Below.drewN' (HB.out.alloc hsz _) _)⟩ | ((repeat apply Exists.intro); exact ⟨⟨k + 1, by omega, by go_num, by rw [HS3.out], Lib.hid (Below.drewN' (HB.out.alloc hsz _) _)⟩, rfl⟩)
                      case measure => simp [intOf]; omega
                  · obtain rfl : k = l.length := by omega
                    rw [List.take_length] at *
                    have HB1 : Hid (Below w.heap.size w wi) := Lib.hid (HBp.out.trans (HB.out.mono HBp.out.size))
                    have HC1 := Lib.hid (HC.out.stays HB.out)
                    have ho := (HO.out.below (B := 0) HB.out).alloc (.cells #[iv (nextTo S v l 31)] 3)
                    have HO1 := Lib.hid ho
                    obtain ⟨rh, hhd⟩ := HN3.out.1.head
                    have hq2 : (q ++ [nextTo S v l 31]) ++ u'.at_.tail = W.at_ := by
                      have := HQ.out
                      rw [HN4.out, List.tail_cons] at this
                      rw [← this, hhd]; simp
                    have hk2 : u'.at_.length < gk := by have := HK.out; rw [HN4.out] at this; simp at this; omega
                    have HQ2 := Lib.hid hq2
                    have hszp := HBp.out.size
                    clear ho hhd hq2 V1 V2 HQ HO HC HK HN4 HU
                    obtain ⟨nv, hnv⟩ := Int.eq_ofNat_of_zero_le (show 0 ≤ nextTo S v l 31 by omega)
                    generalize nextTo S v l 31 = z at *
                    subst hnv
                    have hsz1 : gb ≤ (wi.alloc (.cells #[iv nv] 3)).heap.size := by simp; omega
                    go_wp2_with (at_builtin; go_must (refine wpList_app _ rfl (.tmp 135) (.tmp 137) 24 rfl elInts gb Aq q.length cq (q.map iv) rfl HO1.out (some ⟨wi.heap.size, 0, none⟩) 1 1 [iv nv] rfl (src_blk1 (blk_top (by simp))) rfl (by simp [Value.oneCell']) (by omega) hsz1 ?_))
                    intro A' c' w' hown hgr hbel hor
                    have hb0 : Below wi.heap.size wi (wi.alloc (.cells #[iv nv] 3)) := (Below.refl _ _).alloc (Nat.le_refl _) _
                    have HC2 := Lib.hid ((HC1.out.stays hb0).keep hbel (by omega) (by omega))
                    have HB2 : Hid (Below w.heap.size w w') := Lib.hid ((HB1.out.trans (hb0.mono (HB1.out.size))).trans (hbel.mono hgb1))
                    have HO2 : Hid (Own w' gb 3 1 A' (q ++ [(nv : Int)]).length c' ((q ++ [(nv : Int)]).map iv)) := Lib.hid (by simpa using hown)
                    have hs2 : gb ≤ w'.heap.size := Nat.le_trans hsz1 hbel.size
                    clear hown hgr hbel hor hb0 HC1 HB1 HO1
                    go_wp2_with fail
                    go_roundg u'.at_.length
                    case measure => exact hk2
                    case rel => exact ⟨nv, u', q ++ [(nv : Int)], A', c', rfl, by simp, by omega, by omega, HN3, HQ2, HO2, HC2, HB2, Lib.hid (Nat.le_refl _), hs2⟩
end Go.Proofs.Ytefkfglkpebbmaa
