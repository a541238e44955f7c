/- Plain words on steps that make new bytes of old ones. No program here. -/
import Derived.Test.YtefkfglkpebbmacMatchMath
namespace Go.Proofs.Ytefkfglkpebbmac
set_option linter.unusedVariables false

structure Stp where
  at_ : Int
  len : Int
  data : List UInt8
deriving DecidableEq
/-- How many bytes a step makes. -/
def Stp.n (o : Stp) : Int := o.len + o.data.length
def Stp.form (o : Stp) : Prop := (o.len = 0 → o.at_ = 0 ∧ o.data ≠ [] ∧ o.data.length ≤ 64) ∧ (o.len ≠ 0 → o.data = [])
instance (o : Stp) : Decidable o.form := by unfold Stp.form; infer_instance
def Stp.in_ (o : Stp) (old : Int) : Prop := 0 ≤ o.len ∧ 0 ≤ o.at_ ∧ o.at_ + o.len ≤ old
instance (o : Stp) (old : Int) : Decidable (o.in_ old) := by unfold Stp.in_; infer_instance
/-- What is left of the size, or what is wrong. -/
def stepsCheck (old : Int) : List Stp → Int → Int
  | [], size => if size = 0 then 0 else 3
  | o :: l, size => if ¬ o.form then 3 else if ¬ o.in_ old then 2 else if size < o.n then 1 else stepsCheck old l (size - o.n)
def deltaCheck (l : List Stp) (old size : Int) : Int :=
  if 40 < l.length ∨ old < 0 ∨ 64 < old ∨ size < 0 ∨ 64 < size then 1 else stepsCheck old l size
/-- How many bytes steps make. -/
def made (l : List Stp) : Int := (l.map Stp.n).sum
theorem made_nil : made [] = 0 := rfl
theorem made_cons (o : Stp) (l : List Stp) : made (o :: l) = o.n + made l := by simp [made]
theorem made_append (l m : List Stp) : made (l ++ m) = made l + made m := by simp [made]
theorem stepsCheck_ok (old : Int) : ∀ (l : List Stp) (size : Int), 0 ≤ size → (stepsCheck old l size = 0 ↔ (∀ o ∈ l, o.form ∧ o.in_ old) ∧ made l = size)
  | [], size, h => by simp [stepsCheck, made_nil]; constructor <;> (intro e; omega)
  | o :: l, size, h => by
    unfold stepsCheck
    by_cases h1 : o.form
    · rw [if_neg (by simpa using h1)]
      by_cases h2 : o.in_ old
      · rw [if_neg (by simpa using h2)]
        have hn : 0 ≤ o.n := by unfold Stp.n; unfold Stp.in_ at h2; omega
        have hm : (∀ o ∈ l, o.form ∧ o.in_ old) → 0 ≤ made l := by
          intro hl
          clear h h1 h2 hn
          induction l with
          | nil => simp [made_nil]
          | cons x l ih =>
            rw [made_cons]
            have := ih (fun y hy => hl y (by simp [hy]))
            have hx := (hl x (by simp)).2
            unfold Stp.in_ at hx
            unfold Stp.n; omega
        by_cases h3 : size < o.n
        · rw [if_pos h3]
          constructor
          · intro e; omega
          · rintro ⟨g1, g2⟩
            rw [made_cons] at g2
            have := hm (fun y hy => g1 y (by simp [hy])); omega
        · rw [if_neg h3, stepsCheck_ok old l _ (by omega), made_cons]
          constructor
          · rintro ⟨g1, g2⟩
            refine ⟨fun y hy => ?_, by omega⟩
            rcases List.mem_cons.1 hy with rfl | hy
            · exact ⟨h1, h2⟩
            · exact g1 y hy
          · rintro ⟨g1, g2⟩
            exact ⟨fun y hy => g1 y (by simp [hy]), by omega⟩
      · rw [if_pos h2]
        constructor
        · intro e; omega
        · rintro ⟨g1, _⟩; exact absurd (g1 o (by simp)).2 h2
    · rw [if_pos h1]
      constructor
      · intro e; omega
      · rintro ⟨g1, _⟩; exact absurd (g1 o (by simp)).1 h1
/-- Steps that are some. -/
structure DOk (l : List Stp) (old size : Int) : Prop where
  many : l.length ≤ 40
  o0 : 0 ≤ old
  o1 : old ≤ 64
  s0 : 0 ≤ size
  s1 : size ≤ 64
  each : ∀ o ∈ l, o.form ∧ o.in_ old
  sum : made l = size
theorem deltaCheck_ok {l : List Stp} {old size : Int} : deltaCheck l old size = 0 ↔ DOk l old size := by
  unfold deltaCheck
  by_cases h : 40 < l.length ∨ old < 0 ∨ 64 < old ∨ size < 0 ∨ 64 < size
  · rw [if_pos h]
    constructor
    · intro e; omega
    · rintro ⟨h1, h2, h3, h4, h5, _, _⟩; omega
  · rw [if_neg h, stepsCheck_ok _ _ _ (by omega)]
    constructor
    · rintro ⟨h1, h2⟩; exact ⟨by omega, by omega, by omega, by omega, by omega, h1, h2⟩
    · intro g; exact ⟨g.each, g.sum⟩

/-- What a step makes of old bytes. -/
def Stp.piece (old : List UInt8) (o : Stp) : List UInt8 := (old.drop o.at_.toNat).take o.len.toNat ++ o.data
def applied (old : List UInt8) (l : List Stp) : List UInt8 := (l.map (Stp.piece old)).flatten
theorem applied_nil (old : List UInt8) : applied old [] = [] := rfl
theorem applied_append (old : List UInt8) (l m : List Stp) : applied old (l ++ m) = applied old l ++ applied old m := by simp [applied]
theorem applied_cons (old : List UInt8) (o : Stp) (l : List Stp) : applied old (o :: l) = o.piece old ++ applied old l := by simp [applied]
theorem applied_one (old : List UInt8) (o : Stp) : applied old [o] = o.piece old := by simp [applied]
theorem piece_len {old : List UInt8} {o : Stp} (h : o.in_ old.length) : ((o.piece old).length : Int) = o.n := by
  unfold Stp.in_ at h
  unfold Stp.piece Stp.n
  rw [List.length_append, List.length_take, List.length_drop]
  omega
theorem applied_len {old : List UInt8} : ∀ {l : List Stp}, (∀ o ∈ l, o.in_ old.length) → ((applied old l).length : Int) = made l
  | [], _ => rfl
  | o :: l, h => by
    rw [applied_cons, made_cons, List.length_append]
    have h1 := piece_len (h o (by simp))
    have h2 := applied_len (l := l) (fun y hy => h y (by simp [hy]))
    omega

/-! ### Diff -/
/-- One byte more. -/
def addByte : List Stp → UInt8 → List Stp
  | [], x => [⟨0, 0, [x]⟩]
  | [o], x => if 0 < o.len then [o, ⟨0, 0, [x]⟩] else [⟨o.at_, o.len, o.data ++ [x]⟩]
  | o :: p :: l, x => o :: addByte (p :: l) x
theorem addByte_snoc : ∀ (l : List Stp) (o : Stp) (x : UInt8), addByte (l ++ [o]) x = if 0 < o.len then l ++ [o, ⟨0, 0, [x]⟩] else l ++ [⟨o.at_, o.len, o.data ++ [x]⟩]
  | [], o, x => rfl
  | [p], o, x => by
    show p :: addByte [o] x = _
    unfold addByte
    split <;> rfl
  | p :: q :: l, o, x => by
    show p :: addByte (q :: l ++ [o]) x = _
    rw [addByte_snoc (q :: l) o x]
    split <;> rfl
def diffStep (old b : List UInt8) (p : Nat × List Stp) : Nat × List Stp :=
  if p.1 < b.length then
    (if 4 ≤ (longest old b p.1).2 then (p.1 + (longest old b p.1).2, p.2 ++ [⟨(longest old b p.1).1, (longest old b p.1).2, []⟩]) else (p.1 + 1, addByte p.2 (b.getD p.1 0)))
  else p
def diffN (old b : List UInt8) : Nat → Nat × List Stp
  | 0 => (0, [])
  | k + 1 => diffStep old b (diffN old b k)
def diffed (old b : List UInt8) : List Stp := (diffN old b b.length).2
theorem diffStep_long {old b : List UInt8} {p : Nat × List Stp} (h : p.1 < b.length) (h4 : 4 ≤ (longest old b p.1).2) : diffStep old b p = (p.1 + (longest old b p.1).2, p.2 ++ [⟨(longest old b p.1).1, (longest old b p.1).2, []⟩]) := by unfold diffStep; rw [if_pos h, if_pos h4]
theorem diffStep_byte {old b : List UInt8} {p : Nat × List Stp} (h : p.1 < b.length) (h4 : ¬ 4 ≤ (longest old b p.1).2) : diffStep old b p = (p.1 + 1, addByte p.2 (b.getD p.1 0)) := by unfold diffStep; rw [if_pos h, if_neg h4]
theorem diffStep_end {old b : List UInt8} {p : Nat × List Stp} (h : ¬ p.1 < b.length) : diffStep old b p = p := by unfold diffStep; rw [if_neg h]
theorem longest_in (old b : List UInt8) (k : Nat) : (longest old b k).1 + (longest old b k).2 ≤ old.length ∧ (longest old b k).2 ≤ b.length - k := by
  have := longTo_le old b k old.length (Nat.le_refl _)
  unfold longest; omega
theorem diffN_mono (old b : List UInt8) (k : Nat) (hk : (diffN old b k).1 < b.length) : k ≤ (diffN old b k).1 := by
  induction k with
  | zero => exact Nat.zero_le _
  | succ k ih =>
    have e : diffN old b (k + 1) = diffStep old b (diffN old b k) := rfl
    by_cases h : (diffN old b k).1 < b.length
    · have := ih h
      rw [e]
      by_cases h4 : 4 ≤ (longest old b (diffN old b k).1).2
      · rw [diffStep_long h h4]; simp only; omega
      · rw [diffStep_byte h h4]; simp only; omega
    · rw [e, diffStep_end h] at hk; exact absurd hk h
theorem diffN_stays (old b : List UInt8) (k j : Nat) (h : ¬ (diffN old b k).1 < b.length) : diffN old b (k + j) = diffN old b k := by
  induction j with
  | zero => rfl
  | succ j ih =>
    show diffStep old b (diffN old b (k + j)) = _
    rw [ih]; exact diffStep_end h
theorem diffN_end (old b : List UInt8) (k : Nat) (h : ¬ (diffN old b k).1 < b.length) : (diffN old b k).2 = diffed old b := by
  unfold diffed
  by_cases hk : k ≤ b.length
  · rw [← diffN_stays old b k (b.length - k) h, show k + (b.length - k) = b.length by omega]
  · have h2 : ¬ (diffN old b b.length).1 < b.length := fun e => by have := diffN_mono old b b.length e; omega
    rw [← diffN_stays old b b.length (k - b.length) h2, show b.length + (k - b.length) = k by omega]
/-- Two steps that are data are not side by side. -/
def apart : List Stp → Prop
  | [] => True
  | [_] => True
  | o :: p :: l => (o.len = 0 → p.len ≠ 0) ∧ apart (p :: l)
theorem apart_snoc : ∀ (l : List Stp) (o p : Stp), apart (l ++ [o]) → (o.len = 0 → p.len ≠ 0) → apart (l ++ [o, p])
  | [], o, p, _, h => ⟨h, trivial⟩
  | [q], o, p, h, h2 => ⟨h.1, h2, trivial⟩
  | q :: r :: l, o, p, h, h2 => ⟨h.1, apart_snoc (r :: l) o p h.2 h2⟩
theorem apart_last : ∀ (l : List Stp) (o p : Stp), apart (l ++ [o]) → (p.len = o.len) → apart (l ++ [p])
  | [], o, p, _, h => trivial
  | [q], o, p, h, h2 => ⟨fun e => by rw [h2]; exact h.1 e, trivial⟩
  | q :: r :: l, o, p, h, h2 => ⟨h.1, apart_last (r :: l) o p h.2 h2⟩
/-- What is known of the steps while they are made. -/
structure DInv (old b : List UInt8) (i : Nat) (out : List Stp) : Prop where
  le : i ≤ b.length
  gives : applied old out = b.take i
  each : ∀ o ∈ out, (o.len = 0 ∧ o.at_ = 0 ∧ o.data ≠ []) ∨ (4 ≤ o.len ∧ 0 ≤ o.at_ ∧ o.at_ + o.len ≤ old.length ∧ o.data = [])
  apart : apart out
theorem longest_alike (old b : List UInt8) (k : Nat) : (old.drop (longest old b k).1).take (longest old b k).2 = (b.drop k).take (longest old b k).2 := by
  by_cases h : 0 < (longest old b k).2
  · obtain ⟨_, h2, _⟩ := longTo_first old b k old.length h
    have h3 := pre_take (old.drop (longest old b k).1) (b.drop k)
    have h4 : pre (old.drop (longest old b k).1) (b.drop k) = (longest old b k).2 := h2
    rw [h4] at h3
    exact h3
  · have : (longest old b k).2 = 0 := by omega
    rw [this]; simp
theorem diffN_inv (old b : List UInt8) : ∀ k, DInv old b (diffN old b k).1 (diffN old b k).2
  | 0 => ⟨Nat.zero_le _, by simp [diffN, applied], by simp [diffN], trivial⟩
  | k + 1 => by
    have ih := diffN_inv old b k
    show DInv old b (diffStep old b (diffN old b k)).1 (diffStep old b (diffN old b k)).2
    revert ih
    generalize diffN old b k = p
    obtain ⟨i, out⟩ := p
    simp only
    intro ih
    by_cases h : i < b.length
    · by_cases h4 : 4 ≤ (longest old b i).2
      · rw [diffStep_long (p := (i, out)) h h4]
        simp only
        have hin := longest_in old b i
        refine ⟨by omega, ?_, ?_, ?_⟩
        · rw [applied_append, applied_one, ih.gives]
          unfold Stp.piece
          simp only [Int.toNat_natCast, List.append_nil]
          rw [longest_alike, List.take_add]
        · intro o ho
          rcases List.mem_append.1 ho with ho | ho
          · exact ih.each o ho
          · simp only [List.mem_singleton] at ho
            subst ho
            right
            refine ⟨by simp only; omega, by simp only; omega, by simp only; omega, rfl⟩
        · rcases List.eq_nil_or_concat out with rfl | ⟨l, o, rfl⟩
          · trivial
          · rw [List.concat_eq_append, List.append_assoc]
            have := ih.apart
            rw [List.concat_eq_append] at this
            exact apart_snoc l o _ this (fun _ => by simp only; omega)
      · rw [diffStep_byte (p := (i, out)) h h4]
        simp only
        have hget : b.getD i 0 = b[i] := by simp [h]
        rw [hget]
        have htake : b.take (i + 1) = b.take i ++ [b[i]] := List.take_succ_eq_append_getElem h
        rcases List.eq_nil_or_concat out with rfl | ⟨l, o, rfl⟩
        · refine ⟨by omega, ?_, ?_, trivial⟩
          · rw [htake, ← ih.gives]
            simp [addByte, applied, Stp.piece]
          · intro o ho
            simp only [addByte, List.mem_singleton] at ho
            subst ho
            exact Or.inl ⟨rfl, rfl, by simp⟩
        · rw [List.concat_eq_append] at ih ⊢
          rw [addByte_snoc]
          have ho := ih.each o (by simp)
          by_cases hp : 0 < o.len
          · rw [if_pos hp]
            refine ⟨by omega, ?_, ?_, ?_⟩
            · rw [htake, ← ih.gives, show l ++ [o, ⟨0, 0, [b[i]]⟩] = (l ++ [o]) ++ [⟨0, 0, [b[i]]⟩] by simp, applied_append, applied_one]
              simp [Stp.piece]
            · intro q hq
              rw [show l ++ [o, ⟨0, 0, [b[i]]⟩] = (l ++ [o]) ++ [⟨0, 0, [b[i]]⟩] by simp] at hq
              rcases List.mem_append.1 hq with hq | hq
              · exact ih.each q hq
              · simp only [List.mem_singleton] at hq
                subst hq
                exact Or.inl ⟨rfl, rfl, by simp⟩
            · exact apart_snoc l o _ ih.apart (fun e => by omega)
          · rw [if_neg hp]
            have h0 : o.len = 0 := by omega
            refine ⟨by omega, ?_, ?_, ?_⟩
            · rw [htake, ← ih.gives, applied_append, applied_one, applied_append, applied_one]
              simp [Stp.piece]
            · intro q hq
              rcases List.mem_append.1 hq with hq | hq
              · exact ih.each q (by simp [hq])
              · simp only [List.mem_singleton] at hq
                subst hq
                left
                refine ⟨h0, ?_, by simp⟩
                rcases ho with ho | ho
                · exact ho.2.1
                · omega
            · exact apart_last l o _ ih.apart rfl
    · rw [diffStep_end (p := (i, out)) h]; exact ih
theorem diffed_inv (old b : List UInt8) : DInv old b b.length (diffed old b) := by
  have h := diffN_inv old b b.length
  have e : (diffN old b b.length).1 = b.length := by
    have h1 := h.le
    by_cases h2 : (diffN old b b.length).1 < b.length
    · have := diffN_mono old b b.length h2; omega
    · omega
  rw [e] at h
  exact h
theorem apart_len : ∀ (l : List Stp), apart l → (∀ o ∈ l, 1 ≤ o.n ∧ (o.len ≠ 0 → 4 ≤ o.n)) → 5 * (l.length : Int) ≤ 2 * made l + (match l with | [] => 0 | o :: _ => if o.len = 0 then 3 else 0)
  | [], _, _ => by simp [made_nil]
  | [o], _, h => by
    have := h o (by simp)
    simp only [List.length_singleton, made_cons, made_nil]
    split <;> omega
  | o :: p :: l, ha, h => by
    have ih := apart_len (p :: l) ha.2 (fun q hq => h q (by simp [hq]))
    have ho := h o (by simp)
    have h1 := ha.1
    rw [made_cons]
    simp only [List.length_cons] at ih ⊢
    by_cases e : o.len = 0
    · rw [if_neg (h1 e)] at ih
      rw [if_pos e]; omega
    · rw [if_neg e]
      have := ho.2 e
      split at ih <;> omega
/-- Steps of Diff are some. -/
theorem diffed_ok (old b : List UInt8) (ho : old.length ≤ 64) (hb : b.length ≤ 64) : DOk (diffed old b) old.length b.length := by
  have h := diffed_inv old b
  have hin : ∀ o ∈ diffed old b, o.in_ old.length := by
    intro o ho
    rcases h.each o ho with ⟨h1, h2, h3⟩ | ⟨h1, h2, h3, h4⟩
    · unfold Stp.in_; omega
    · unfold Stp.in_; omega
  have hsum : made (diffed old b) = b.length := by
    rw [← applied_len hin, h.gives, List.take_length]
  have hone : ∀ o ∈ diffed old b, 1 ≤ o.n ∧ (o.len ≠ 0 → 4 ≤ o.n) := by
    intro o ho
    rcases h.each o ho with ⟨h1, h2, h3⟩ | ⟨h1, h2, h3, h4⟩
    · have := List.length_pos_iff.2 h3
      unfold Stp.n; omega
    · unfold Stp.n; rw [h4]; simp; omega
  have hlen := apart_len _ h.apart hone
  have hpos : ∀ l : List Stp, (∀ o ∈ l, 1 ≤ o.n) → ∀ o ∈ l, o.n ≤ made l := by
    intro l hl
    induction l with
    | nil => intro o ho; cases ho
    | cons x l ih =>
      have hm : 0 ≤ made l := by
        clear ih
        have hl' : ∀ o ∈ l, 1 ≤ o.n := fun o ho => hl o (by simp [ho])
        clear hl
        induction l with
        | nil => simp [made_nil]
        | cons y l ih2 =>
          rw [made_cons]
          have := hl' y (by simp)
          have := ih2 (fun o ho => hl' o (by simp [ho]))
          omega
      have hx := hl x (by simp)
      intro o ho
      rw [made_cons]
      rcases List.mem_cons.1 ho with rfl | ho
      · omega
      · have := ih (fun o ho => hl o (by simp [ho])) o ho
        omega
  refine ⟨?_, by omega, by omega, by omega, by omega, fun o ho => ⟨?_, hin o ho⟩, hsum⟩
  · rw [hsum] at hlen
    revert hlen
    cases hd : diffed old b with
    | nil => intro _; simp
    | cons o l => intro hlen; simp only at hlen; split at hlen <;> omega
  · have hle := hpos _ (fun o ho => (hone o ho).1) o ho
    rw [hsum] at hle
    rcases h.each o ho with ⟨h1, h2, h3⟩ | ⟨h1, h2, h3, h4⟩
    · unfold Stp.n at hle
      exact ⟨fun _ => ⟨h2, h3, by omega⟩, fun e => absurd h1 e⟩
    · exact ⟨fun e => by omega, fun _ => h4⟩
theorem diffed_makes (old b : List UInt8) : applied old (diffed old b) = b := by rw [(diffed_inv old b).gives, List.take_length]
/-- Of like bytes: one step. -/
theorem diffed_self (b : List UInt8) (h : 4 ≤ b.length) : diffed b b = [⟨(longest b b 0).1, b.length, []⟩] := by
  have h0 := longest_self b 0 (Nat.zero_le _)
  rw [Nat.sub_zero] at h0
  have h1 : diffN b b 1 = (b.length, [⟨(longest b b 0).1, b.length, []⟩]) := by
    show diffStep b b (0, []) = _
    rw [diffStep_long (p := (0, [])) (by simp only; omega) (by simp only; omega)]
    simp only [h0, Nat.zero_add, List.nil_append]
  have h2 := diffN_end b b 1 (by rw [h1]; simp)
  rw [← h2, h1]
/-! ### Parts -/
theorem DOk.take {l : List Stp} {old size : Int} (h : DOk l old size) (k : Nat) : DOk (l.take k) old (made (l.take k)) ∧ DOk (l.drop k) old (size - made (l.take k)) ∧ 0 ≤ made (l.take k) ∧ made (l.take k) ≤ size := by
  have hs : made (l.take k) + made (l.drop k) = size := by rw [← made_append, List.take_append_drop]; exact h.sum
  have h0 : ∀ m : List Stp, (∀ o ∈ m, o ∈ l) → 0 ≤ made m := by
    intro m hm
    induction m with
    | nil => simp [made_nil]
    | cons x m ih =>
      have hx := (h.each x (hm x (by simp))).2
      have := ih (fun y hy => hm y (by simp [hy]))
      rw [made_cons]
      unfold Stp.in_ at hx
      unfold Stp.n; omega
  have h1 := h0 (l.take k) (fun o ho => List.mem_of_mem_take ho)
  have h2 := h0 (l.drop k) (fun o ho => List.mem_of_mem_drop ho)
  have hz := h.s1
  have hm := h.many
  refine ⟨⟨by rw [List.length_take]; omega, h.o0, h.o1, h1, by omega, fun o ho => h.each o (List.mem_of_mem_take ho), rfl⟩,
    ⟨by rw [List.length_drop]; omega, h.o0, h.o1, by omega, by omega, fun o ho => h.each o (List.mem_of_mem_drop ho), by omega⟩, h1, by omega⟩
end Go.Proofs.Ytefkfglkpebbmac
