/- A region that draws its order, of operations that only read and make memory: each puts its own value, whatever the order. No conditions. -/
import Derived.Test.YtefkfglkpebbmacAnyOrder
namespace Go.Proofs.Ytefkfglkpebbmac
open Go.RowKit
set_option linter.unusedVariables false

def dstOf (ops : Array Oper) (i : Nat) : Option Tmp := (ops[i]?).bind (·.dst)
/-- Each puts into a place of its own. -/
def dstsOk (ops : Array Oper) (n : Nat) : Bool := decide (ops.toList.filterMap (·.dst)).Nodup && (ops.toList.filterMap (·.dst)).all (· < n)
/-- Each waits for those ahead of it alone. -/
def waitsOk (ops : Array Oper) : Bool := (List.range ops.size).all fun i => (waits .any ops i).all fun d => decide (d < i)
/-- What holds when just those of 'done' have been carried out. -/
structure RegSt (ops : Array Oper) (vals : Nat → Value) (a0 : Act) (w0 : World) (done : Nat → Bool) (a : Act) (w : World) : Prop where
  size : a.tmps.size = a0.tmps.size
  defers : a.defers = a0.defers
  old : ∀ t, (∀ i, dstOf ops i ≠ some t) → a.tmps[t]? = a0.tmps[t]?
  new : ∀ i t, done i = true → dstOf ops i = some t → a.tmps[t]? = some (vals i)
  bel : Below w0.heap.size w0 w
theorem nodup_inj : ∀ (l : List Oper), (l.filterMap (·.dst)).Nodup → ∀ i j t (hi : i < l.length) (hj : j < l.length), l[i].dst = some t → l[j].dst = some t → i = j
  | [], _, i, _, _, hi, _, _, _ => by simp at hi
  | o :: l, h, i, j, t, hi, hj, ei, ej => by
    have mem : ∀ k (hk : k < l.length), l[k].dst = some t → t ∈ l.filterMap (·.dst) := fun k hk e => List.mem_filterMap.2 ⟨_, List.getElem_mem hk, e⟩
    rw [List.filterMap_cons] at h
    match i, j with
    | 0, 0 => rfl
    | 0, j + 1 =>
      have e0 : o.dst = some t := ei
      rw [e0] at h
      exact absurd (mem j (by simpa using hj) (by simpa using ej)) (List.nodup_cons.1 h).1
    | i + 1, 0 =>
      have e0 : o.dst = some t := ej
      rw [e0] at h
      exact absurd (mem i (by simpa using hi) (by simpa using ei)) (List.nodup_cons.1 h).1
    | i + 1, j + 1 =>
      have h' : (l.filterMap (·.dst)).Nodup := by
        split at h
        · exact h
        · exact (List.nodup_cons.1 h).2
      have := nodup_inj l h' i j t (by simpa using hi) (by simpa using hj) (by simpa using ei) (by simpa using ej)
      omega
theorem dst_inj {ops : Array Oper} {n : Nat} (h : dstsOk ops n = true) {i j : Nat} {t : Tmp} (hi : dstOf ops i = some t) (hj : dstOf ops j = some t) : i = j := by
  unfold dstsOk at h
  simp only [Bool.and_eq_true, decide_eq_true_eq] at h
  unfold dstOf at hi hj
  obtain ⟨oi, hoi, ei⟩ := Option.bind_eq_some_iff.1 hi
  obtain ⟨oj, hoj, ej⟩ := Option.bind_eq_some_iff.1 hj
  obtain ⟨li, gi⟩ := Array.getElem?_eq_some_iff.1 hoi
  obtain ⟨lj, gj⟩ := Array.getElem?_eq_some_iff.1 hoj
  exact nodup_inj ops.toList h.1 i j t (by simpa using li) (by simpa using lj) (by simp [gi, ei]) (by simp [gj, ej])
theorem dst_lt {ops : Array Oper} {n : Nat} (h : dstsOk ops n = true) {i : Nat} {t : Tmp} (hi : dstOf ops i = some t) : t < n := by
  unfold dstsOk at h
  simp only [Bool.and_eq_true, decide_eq_true_eq, List.all_eq_true] at h
  unfold dstOf at hi
  obtain ⟨oi, hoi, ei⟩ := Option.bind_eq_some_iff.1 hi
  obtain ⟨li, gi⟩ := Array.getElem?_eq_some_iff.1 hoi
  exact h.2 t (List.mem_filterMap.2 ⟨oi, by rw [← gi]; simp, ei⟩)
/-- What one operation leaves. -/
def OpLeaves (ops : Array Oper) (vals : Nat → Value) (i : Nat) (a : Act) (w : World) (a' : Act) (w' : World) : Prop := a' = a.put (dstOf ops i) (vals i) ∧ Below w.heap.size w w'
section
variable {P : Program} {ops : Array Oper} {Q : Exit → Act → World → Prop}
theorem wpAnyH_vals {S : World → Prop} (vals : Nat → Value) (a0 : Act) (w0 : World) (hd : dstsOk ops a0.tmps.size = true) (hw : waitsOk ops = true)
    (step : ∀ i, i < ops.size → ∀ (done : Nat → Bool) (a : Act) (w : World), (∀ d ∈ waits .any ops i, done d = true) → RegSt ops vals a0 w0 done a w → wpOp P ops Q i (OpLeaves ops vals i a w) a w)
    (hQ : ∀ (a : Act) (w : World), RegSt ops vals a0 w0 (fun _ => true) a w → Q .normal a w) (hS : ∀ w, Below w0.heap.size w0 w → S w) :
    wpAnyH P .any ops Q S ops.size (Array.replicate ops.size false) a0 w0 := by
  have hac : ∀ i ∈ List.range ops.size, ∀ d ∈ waits .any ops i, d < i ∧ d < ops.size := by
    intro i hi d hd
    unfold waitsOk at hw
    have h1 := List.all_eq_true.1 (List.all_eq_true.1 hw i hi) d hd
    have : i < ops.size := by simpa using hi
    simp at h1
    omega
  refine wpAnyH_inv (P := P) (md := .any) (ops := ops) (Q := Q) (S := S) (RegSt ops vals a0 w0) (List.range ops.size) (fun i hi => by simpa using hi) hac ?_ ?_ (fun _ _ _ h => hS _ h.bel) ops.size _ a0 w0 (by simp) (fun j hj hn => absurd (by simpa using hj) hn) ?_ ?_
  · intro i hi done a w hdone hwait hI
    refine wpOp_mono ?_ (step i (by simpa using hi) done a w hwait hI)
    rintro a' w' ⟨rfl, hb⟩
    cases hdi : dstOf ops i with
    | none =>
      refine ⟨hI.size, hI.defers, hI.old, fun j t hj ht => ?_, hI.bel.trans (hb.mono hI.bel.size)⟩
      have hji : j ≠ i := by rintro rfl; rw [hdi] at ht; cases ht
      have hj' : done j = true := by simpa [hji] using hj
      exact hI.new j t hj' ht
    | some d =>
      have hlt := dst_lt hd hdi
      have hsz : d < a.tmps.size := by rw [hI.size]; exact hlt
      refine ⟨by simp [Act.put, hI.size], by simp [Act.put, hI.defers], fun t ht => ?_, fun j t hj ht => ?_, hI.bel.trans (hb.mono hI.bel.size)⟩
      · have hne : d ≠ t := by rintro rfl; exact ht i hdi
        show (a.tmps.setIfInBounds d (vals i))[t]? = _
        rw [set_ne hne]; exact hI.old t ht
      · show (a.tmps.setIfInBounds d (vals i))[t]? = _
        by_cases e : d = t
        · subst e
          have := dst_inj hd hdi ht
          subst this
          exact set_same hsz _
        · have hji : j ≠ i := by rintro rfl; rw [hdi] at ht; injection ht with ht; exact e ht
          have hj' : done j = true := by simpa [hji] using hj
          rw [set_ne e]; exact hI.new j t hj' ht
  · intro done a w hall hI
    refine hQ a w ⟨hI.size, hI.defers, hI.old, fun i t _ ht => ?_, hI.bel⟩
    have hi : i < ops.size := by
      unfold dstOf at ht
      obtain ⟨oi, hoi, _⟩ := Option.bind_eq_some_iff.1 ht
      exact (Array.getElem?_eq_some_iff.1 hoi).1
    exact hI.new i t (hall i (by simpa using hi)) ht
  · unfold leftN
    refine Nat.le_trans List.countP_le_length ?_
    simp
  · refine ⟨rfl, rfl, fun _ _ => rfl, fun i t hi ht => ?_, Below.refl _ _⟩
    have hi' : i < ops.size := by
      unfold dstOf at ht
      obtain ⟨oi, hoi, _⟩ := Option.bind_eq_some_iff.1 ht
      exact (Array.getElem?_eq_some_iff.1 hoi).1
    simp [hi'] at hi
/-- The region. -/
theorem wp_region_vals {id : Nat} (hm : P.follows .mixedOrders = true) (vals : Nat → Value) (a0 : Act) (w0 : World) (hd : dstsOk ops a0.tmps.size = true) (hw : waitsOk ops = true)
    (step : ∀ i, i < ops.size → ∀ (done : Nat → Bool) (a : Act) (w : World), (∀ d ∈ waits .any ops i, done d = true) → RegSt ops vals a0 w0.drew done a w → wpOp P ops Q i (OpLeaves ops vals i a w) a w)
    (hQ : ∀ (a : Act) (w : World), RegSt ops vals a0 w0.drew (fun _ => true) a w → Q .normal a w) : (Code.region id ops true).wp P Q a0 w0 :=
  wp_region_held (S := fun _ => True) hm (wpAnyH_vals vals a0 w0.drew hd hw step hQ (fun _ _ => trivial))
/-- What all leave, as a frame. -/
def regEnd (ops : Array Oper) (vals : Nat → Value) (a0 : Act) : Act :=
  { tmps := (List.range ops.size).foldl (fun b i => match dstOf ops i with | some d => b.setIfInBounds d (vals i) | none => b) a0.tmps, defers := a0.defers }
theorem RegSt.end_ {vals : Nat → Value} {a0 : Act} {w0 : World} {a : Act} {w : World} (hd : dstsOk ops a0.tmps.size = true) (h : RegSt ops vals a0 w0 (fun _ => true) a w) : a = regEnd ops vals a0 := by
  have key : ∀ (l : List Nat) (b : Array Value), b.size = a.tmps.size → (∀ t, (∀ i ∈ l, dstOf ops i ≠ some t) → a.tmps[t]? = b[t]?) →
      a.tmps = l.foldl (fun b i => match dstOf ops i with | some d => b.setIfInBounds d (vals i) | none => b) b := by
    intro l
    induction l with
    | nil => intro b hb ht; exact Array.ext_getElem? (fun t => ht t (by simp))
    | cons i l ih =>
      intro b hb ht
      rw [List.foldl_cons]
      cases hdi : dstOf ops i with
      | none =>
        refine ih b hb (fun t hn => ht t fun j hj => ?_)
        rcases List.mem_cons.1 hj with rfl | hj
        · rw [hdi]; simp
        · exact hn j hj
      | some d =>
        refine ih _ (by simpa using hb) (fun t hn => ?_)
        by_cases e : d = t
        · subst e
          have hlt : d < b.size := by rw [hb, h.size]; exact dst_lt hd hdi
          rw [h.new i d rfl hdi]
          simp [hlt]
        · show a.tmps[t]? = (b.setIfInBounds d (vals i))[t]?
          rw [set_ne e]
          refine ht t fun j hj => ?_
          rcases List.mem_cons.1 hj with rfl | hj
          · rw [hdi]; simpa using e
          · exact hn j hj
  have ht := key (List.range ops.size) a0.tmps h.size.symm (fun t ht => h.old t fun i hi => by
    have hi' : i < ops.size := by
      unfold dstOf at hi
      obtain ⟨oi, hoi, _⟩ := Option.bind_eq_some_iff.1 hi
      exact (Array.getElem?_eq_some_iff.1 hoi).1
    exact ht i (by simpa using hi') hi)
  have hdf := h.defers
  obtain ⟨at_, ad⟩ := a
  unfold regEnd
  simp only at ht hdf
  rw [ht, hdf]
/-- An operation that is carried out, as its guard says. -/
theorem wpOp_on {i : Nat} {o : Oper} {a : Act} {w : World} {K : Act → World → Prop} (ho : ops[i]? = some o) (hg : ∀ j b, o.guard = some (j, b) → ∃ t, dstOf ops j = some t ∧ a.tmps[t]? = some (.bool b)) (h : o.wp P a w K Q) : wpOp P ops Q i K a w := by
  unfold wpOp
  rw [ho]
  show if Region.wanted o (yielded ops a.tmps) = true then _ else _
  have : Region.wanted o (yielded ops a.tmps) = true := by
    unfold Region.wanted
    cases hgd : o.guard with
    | none => rfl
    | some p =>
      obtain ⟨j, b⟩ := p
      obtain ⟨t, h1, h2⟩ := hg j b hgd
      unfold dstOf at h1
      simp [yielded, h1, h2]
  rw [if_pos this]
  exact Or.inl h
/-- And one that is not. -/
theorem wpOp_off {i : Nat} {o : Oper} {a : Act} {w : World} {K : Act → World → Prop} (ho : ops[i]? = some o) {j : Nat} {b : Bool} (hg : o.guard = some (j, b)) {t : Tmp} {v : Value} (ht : dstOf ops j = some t) (hv : a.tmps[t]? = some v) (hne : v ≠ .bool b) (h : K (a.put o.dst undef) w) : wpOp P ops Q i K a w := by
  unfold wpOp
  rw [ho]
  show if Region.wanted o (yielded ops a.tmps) = true then _ else _
  have : Region.wanted o (yielded ops a.tmps) = false := by
    unfold Region.wanted
    rw [hg]
    unfold dstOf at ht
    simp only [yielded, ht, Option.bind_some, hv]
    cases v <;> simp_all
  rw [this]
  exact h
end
end Go.Proofs.Ytefkfglkpebbmac
