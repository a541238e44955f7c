/- A region that draws its order, by what each operation leaves: whatever the order, each operation is looked at once. No conditions. -/
import Derived.WalkKit
import Derived.Below
import Derived.Deep.RegionHeld3
namespace Go.Proofs.Ytefkfglkpebbmac
open Go.RowKit
set_option linter.unusedVariables false

/-- Which operations an operation waits for. -/
def waits (md : Region.Mode) (ops : Array Oper) (i : Nat) : List Nat := match ops[i]? with
  | some o => (o.after.toList.filter (Region.binds md)).map (·.on)
  | none => []
/-- How many are left. -/
def leftN (listed : Array Bool) : Nat := listed.toList.countP (fun b => !b)
theorem leftN_set {listed : Array Bool} {i : Nat} (h : listed.getD i true = false) : leftN (listed.setIfInBounds i true) + 1 = leftN listed := by
  obtain ⟨l⟩ := listed
  have hl : l.getD i true = false := by simpa using h
  unfold leftN
  simp only [List.setIfInBounds_toArray]
  clear h
  induction l generalizing i with
  | nil => simp at hl
  | cons b l ih =>
    cases i with
    | zero => simp at hl; subst hl; simp
    | succ i =>
      have := ih (i := i) (by simpa using hl)
      simp only [List.set_cons_succ, List.countP_cons]
      omega
theorem getD_set {listed : Array Bool} {i j : Nat} (h : listed.getD i true = false) : (listed.setIfInBounds i true).getD j true = (if j = i then true else listed.getD j true) ∧ (listed.setIfInBounds i true).getD j false = (if j = i then true else listed.getD j false) := by
  have hi : i < listed.size := by
    rcases Nat.lt_or_ge i listed.size with h' | h'
    · exact h'
    · simp [Array.getElem?_eq_none h'] at h
  by_cases e : j = i
  · subst e; simp [hi]
  · rw [if_neg e, if_neg e]
    simp only [Array.getD_eq_getD_getElem?, Array.getElem?_setIfInBounds, if_neg (fun h => e h.symm : ¬ i = j)]
    exact ⟨trivial, trivial⟩

section
variable {P : Program} {md : Region.Mode} {ops : Array Oper} {Q : Exit → Act → World → Prop}
/-- Each operation once, whatever the order: 'I done a w' is what holds when just those of 'done' have been carried out. -/
theorem wpAnyH_inv {S : World → Prop} (I : (Nat → Bool) → Act → World → Prop) (E : List Nat) (hE : ∀ i ∈ E, i < ops.size) (hac : ∀ i ∈ E, ∀ d ∈ waits md ops i, d < i ∧ d < ops.size)
    (step : ∀ i ∈ E, ∀ (done : Nat → Bool) (a : Act) (w : World), done i = false → (∀ d ∈ waits md ops i, done d = true) → I done a w → wpOp P ops Q i (I (fun j => if j = i then true else done j)) a w)
    (hdone : ∀ (done : Nat → Bool) (a : Act) (w : World), (∀ i ∈ E, done i = true) → I done a w → Q .normal a w) (hS : ∀ (done : Nat → Bool) (a : Act) (w : World), I done a w → S w) :
    ∀ (fuel : Nat) (listed : Array Bool) (a : Act) (w : World), listed.size = ops.size → (∀ j, j < ops.size → j ∉ E → listed.getD j true = true) → leftN listed ≤ fuel → I (fun j => listed.getD j true) a w → wpAnyH P md ops Q S fuel listed a w := by
  have stop : ∀ (listed : Array Bool), listed.size = ops.size → (∀ j, j < ops.size → j ∉ E → listed.getD j true = true) → Region.ready md ops listed = [] → ∀ i ∈ E, listed.getD i true = true := by
    intro listed hsz hL hr
    have key : ∀ n i, i ≤ n → i ∈ E → listed.getD i true = true := by
      intro n
      induction n with
      | zero =>
        intro i hi hm
        obtain rfl : i = 0 := by omega
        cases hb : listed.getD 0 true with
        | true => rfl
        | false =>
          exfalso
          have hlt := hE 0 hm
          have : (0 : Nat) ∈ Region.ready md ops listed := mem_ready.2 ⟨hb, ops[0], Array.getElem?_eq_getElem hlt, fun e he hbi => by
            have hd := hac 0 hm e.on (by unfold waits; rw [Array.getElem?_eq_getElem hlt]; exact List.mem_map.2 ⟨e, List.mem_filter.2 ⟨by simpa using he, hbi⟩, rfl⟩)
            omega⟩
          rw [hr] at this; cases this
      | succ n ih =>
        intro i hi hm
        cases hb : listed.getD i true with
        | true => rfl
        | false =>
          exfalso
          have hlt := hE i hm
          have : i ∈ Region.ready md ops listed := mem_ready.2 ⟨hb, ops[i], Array.getElem?_eq_getElem hlt, fun e he hbi => by
            have hd := hac i hm e.on (by unfold waits; rw [Array.getElem?_eq_getElem hlt]; exact List.mem_map.2 ⟨e, List.mem_filter.2 ⟨by simpa using he, hbi⟩, rfl⟩)
            have ht : listed.getD e.on true = true := by
              by_cases hin : e.on ∈ E
              · exact ih e.on (by omega) hin
              · exact hL e.on hd.2 hin
            have hlt2 : e.on < listed.size := by omega
            simp only [Array.getD_eq_getD_getElem?, Array.getElem?_eq_getElem hlt2, Option.getD_some] at ht ⊢
            exact ht⟩
          rw [hr] at this; cases this
    exact fun i hm => key i i (Nat.le_refl _) hm
  intro fuel
  induction fuel with
  | zero =>
    intro listed a w hsz hL hf hI
    have hall : ∀ i, listed.getD i true = true := by
      intro i
      cases hb : listed.getD i true with
      | true => rfl
      | false => have := leftN_set hb; omega
    have hr : Region.ready md ops listed = [] := by
      rw [List.eq_nil_iff_forall_not_mem]
      intro i hi
      have := (mem_ready.1 hi).1
      rw [hall i] at this; cases this
    exact ⟨hr, hdone _ a w (fun i _ => hall i) hI⟩
  | succ fuel ih =>
    intro listed a w hsz hL hf hI
    refine ⟨fun hr => hdone _ a w (stop listed hsz hL hr) hI, fun i hi => ?_⟩
    obtain ⟨hb, o, ho, hw⟩ := mem_ready.1 hi
    have hlt : i < ops.size := (Array.getElem?_eq_some_iff.1 ho).1
    have hm : i ∈ E := by
      by_cases hm : i ∈ E
      · exact hm
      · rw [hL i hlt hm] at hb; cases hb
    have hs := step i hm _ a w hb (fun d hd => by
      unfold waits at hd
      rw [ho] at hd
      obtain ⟨e, he, rfl⟩ := List.mem_map.1 hd
      obtain ⟨he, hbi⟩ := List.mem_filter.1 he
      have := hw e (by simpa using he) hbi
      have hlt2 : e.on < listed.size := by
        rcases Nat.lt_or_ge e.on listed.size with h' | h'
        · exact h'
        · simp [Array.getElem?_eq_none h'] at this
      simp only [Array.getD_eq_getD_getElem?, Array.getElem?_eq_getElem hlt2, Option.getD_some] at this ⊢
      exact this) hI
    refine wpOp_mono (fun a' w' h => ⟨hS _ _ _ h, ?_⟩) hs
    refine ih _ a' w' (by simpa using hsz) (fun j hj hjE => ?_) (by have := leftN_set hb; omega) ?_
    · rw [(getD_set hb).1]; split
      · rfl
      · exact hL j hj hjE
    · have e : (fun j => (listed.setIfInBounds i true).getD j true) = (fun j => if j = i then true else listed.getD j true) := by
        funext j; exact (getD_set hb).1
      rw [e]; exact h
/-- An operation that is carried out. -/
theorem wpOp_do {i : Nat} {o : Oper} {a : Act} {w : World} {K : Act → World → Prop} (ho : ops[i]? = some o) (hg : o.guard = none) (h : o.wp P a w K Q) : wpOp P ops Q i K a w := by
  unfold wpOp
  rw [ho]
  show if Region.wanted o (yielded ops a.tmps) = true then _ else _
  rw [if_pos (by simp [Region.wanted, hg])]
  exact Or.inl h
end
/-- Alike but for some slots. -/
structure Agree (D : List Nat) (a0 a : Act) : Prop where
  size : a.tmps.size = a0.tmps.size
  defers : a.defers = a0.defers
  at_ : ∀ t, t ∉ D → a.tmps[t]? = a0.tmps[t]?
theorem Agree.refl (D : List Nat) (a : Act) : Agree D a a := ⟨rfl, rfl, fun _ _ => rfl⟩
theorem Agree.set {D : List Nat} {a0 a : Act} (h : Agree D a0 a) {d : Nat} (hd : d ∈ D) (v : Value) : Agree D a0 { tmps := a.tmps.setIfInBounds d v, defers := a.defers } :=
  ⟨by simpa using h.size, h.defers, fun t ht => by
    show (a.tmps.setIfInBounds d v)[t]? = _
    rw [Array.getElem?_setIfInBounds, if_neg (fun e : d = t => ht (e ▸ hd))]; exact h.at_ t ht⟩
theorem set_same {a : Array Value} {d : Nat} (h : d < a.size) (v : Value) : (a.setIfInBounds d v)[d]? = some v := by simp [h]
theorem set_ne {a : Array Value} {d t : Nat} (h : d ≠ t) (v : Value) : (a.setIfInBounds d v)[t]? = a[t]? := by rw [Array.getElem?_setIfInBounds, if_neg h]
/-- What it is then. -/
theorem Agree.form {D : List Nat} {a0 a : Act} (h : Agree D a0 a) (hD : ∀ d ∈ D, d < a0.tmps.size) : a = { tmps := D.foldl (fun b d => b.setIfInBounds d (a.tmps.getD d undef)) a0.tmps, defers := a0.defers } := by
  have key : ∀ (E : List Nat) (b : Array Value), b.size = a.tmps.size → (∀ d ∈ E, d < b.size) → (∀ t, t ∉ E → a.tmps[t]? = b[t]?) → a.tmps = E.foldl (fun b d => b.setIfInBounds d (a.tmps.getD d undef)) b := by
    intro E
    induction E with
    | nil => intro b hb _ ht; exact Array.ext_getElem? (fun t => ht t (by simp))
    | cons d E ih =>
      intro b hb hE ht
      refine ih _ (by simpa using hb) (fun e he => by simpa using hE e (by simp [he])) (fun t hn => ?_)
      rw [Array.getElem?_setIfInBounds]
      by_cases e : d = t
      · subst e
        have := hE d (by simp)
        rw [if_pos rfl, if_pos this, Array.getD_eq_getD_getElem?, Array.getElem?_eq_getElem (by omega)]; rfl
      · rw [if_neg e]; exact ht t (by simp [hn]; exact fun h => e h.symm)
  have := key D a0.tmps h.size.symm hD h.at_
  rw [← this, ← h.defers]
end Go.Proofs.Ytefkfglkpebbmac
