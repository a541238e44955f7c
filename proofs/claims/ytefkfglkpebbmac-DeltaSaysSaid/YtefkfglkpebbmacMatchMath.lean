/- Plain words on what is alike in two lists of bytes. No program here. -/
namespace Go.Proofs.Ytefkfglkpebbmac

/-- How many elements are alike in front. -/
def pre : List UInt8 → List UInt8 → Nat
  | x :: a, y :: b => if x = y then pre a b + 1 else 0
  | _, _ => 0
theorem pre_le : ∀ (a b : List UInt8), pre a b ≤ a.length ∧ pre a b ≤ b.length
  | [], b => by simp [pre]
  | x :: a, [] => by simp [pre]
  | x :: a, y :: b => by
    have := pre_le a b
    unfold pre
    split <;> simp only [List.length_cons] <;> omega
theorem pre_take : ∀ (a b : List UInt8), a.take (pre a b) = b.take (pre a b)
  | [], b => by simp [pre]
  | x :: a, [] => by simp [pre]
  | x :: a, y :: b => by
    have := pre_take a b
    unfold pre
    split
    · rename_i h; subst h; simp [this]
    · simp
theorem pre_stop : ∀ (a b : List UInt8) (h1 : pre a b < a.length) (h2 : pre a b < b.length), a[pre a b] ≠ b[pre a b]
  | [], b, h1, _ => by simp at h1
  | x :: a, [], _, h2 => by simp at h2
  | x :: a, y :: b, h1, h2 => by
    by_cases h : x = y
    · have e : pre (x :: a) (y :: b) = pre a b + 1 := by simp [pre, h]
      have h1' : pre a b < a.length := by rw [e] at h1; simpa using h1
      have h2' : pre a b < b.length := by rw [e] at h2; simpa using h2
      have := pre_stop a b h1' h2'
      simp only [e, List.getElem_cons_succ]
      exact this
    · have e : pre (x :: a) (y :: b) = 0 := by simp [pre, h]
      simp only [e, List.getElem_cons_zero]
      exact h
theorem pre_at (a b : List UInt8) (i : Nat) (h : i < pre a b) : ∃ (h1 : i < a.length) (h2 : i < b.length), a[i] = b[i] := by
  have hl := pre_le a b
  have ht := pre_take a b
  refine ⟨by omega, by omega, ?_⟩
  have h1 : (a.take (pre a b))[i]? = (b.take (pre a b))[i]? := by rw [ht]
  rw [List.getElem?_take_of_lt h, List.getElem?_take_of_lt h, List.getElem?_eq_getElem (by omega), List.getElem?_eq_getElem (by omega)] at h1
  exact Option.some.inj h1
/-- What is alike up to n is no more than the most. -/
theorem le_pre : ∀ (a b : List UInt8) (n : Nat), n ≤ a.length → n ≤ b.length → a.take n = b.take n → n ≤ pre a b
  | _, _, 0, _, _, _ => Nat.zero_le _
  | [], _, n + 1, h, _, _ => by simp at h
  | x :: a, [], n + 1, _, h, _ => by simp at h
  | x :: a, y :: b, n + 1, h1, h2, h => by
    simp only [List.take_succ_cons, List.cons.injEq] at h
    have := le_pre a b n (by simpa using h1) (by simpa using h2) h.2
    simp [pre, h.1]; omega
/-- The same at places in two lists. -/
def preAt (old b : List UInt8) (i k : Nat) : Nat := pre (old.drop i) (b.drop k)
theorem preAt_lt (old b : List UInt8) (i k n : Nat) (h : n < preAt old b i k) : ∃ (h1 : i + n < old.length) (h2 : k + n < b.length), old[i + n] = b[k + n] := by
  obtain ⟨h1, h2, h3⟩ := pre_at _ _ n h
  simp only [List.length_drop] at h1 h2
  refine ⟨by omega, by omega, ?_⟩
  simpa using h3
theorem preAt_stop (old b : List UInt8) (i k : Nat) (h1 : i + preAt old b i k < old.length) (h2 : k + preAt old b i k < b.length) : old[i + preAt old b i k] ≠ b[k + preAt old b i k] := by
  have := pre_stop (old.drop i) (b.drop k) (by simp only [List.length_drop]; unfold preAt at h1; omega) (by simp only [List.length_drop]; unfold preAt at h2; omega)
  simpa [preAt] using this
theorem preAt_le (old b : List UInt8) (i k : Nat) : preAt old b i k ≤ old.length - i ∧ preAt old b i k ≤ b.length - k := by
  have := pre_le (old.drop i) (b.drop k)
  simpa [preAt] using this

/-- The best of the first places. -/
def longTo (old b : List UInt8) (k : Nat) : Nat → Nat × Nat
  | 0 => (0, 0)
  | i + 1 => if (longTo old b k i).2 < preAt old b i k then (i, preAt old b i k) else longTo old b k i
theorem longTo_yes {old b : List UInt8} {k j : Nat} (h : (longTo old b k j).2 < preAt old b j k) : longTo old b k (j + 1) = (j, preAt old b j k) := by rw [longTo, if_pos h]
theorem longTo_no {old b : List UInt8} {k j : Nat} (h : ¬ (longTo old b k j).2 < preAt old b j k) : longTo old b k (j + 1) = longTo old b k j := by rw [longTo, if_neg h]
def longest (old b : List UInt8) (k : Nat) : Nat × Nat := longTo old b k old.length
theorem longTo_le (old b : List UInt8) (k i : Nat) (hi : i ≤ old.length) : (longTo old b k i).1 ≤ i ∧ (longTo old b k i).2 ≤ old.length ∧ (longTo old b k i).2 ≤ b.length - k ∧ (longTo old b k i).1 + (longTo old b k i).2 ≤ old.length := by
  induction i with
  | zero => simp [longTo]
  | succ i ih =>
    have ih := ih (by omega)
    have hp := preAt_le old b i k
    unfold longTo
    split <;> (try dsimp only) <;> omega
/-- No place has more. -/
theorem longTo_max (old b : List UInt8) (k : Nat) : ∀ (i j : Nat), j < i → preAt old b j k ≤ (longTo old b k i).2
  | 0, j, h => by omega
  | i + 1, j, h => by
    unfold longTo
    by_cases hj : j = i
    · subst hj; split <;> (try dsimp only) <;> omega
    · have := longTo_max old b k i j (by omega)
      split <;> (try dsimp only) <;> omega
/-- The place has just as many, and no place ahead has. -/
theorem longTo_first (old b : List UInt8) (k : Nat) : ∀ (i : Nat), 0 < (longTo old b k i).2 → (longTo old b k i).1 < i ∧ preAt old b (longTo old b k i).1 k = (longTo old b k i).2 ∧ ∀ j, j < (longTo old b k i).1 → preAt old b j k < (longTo old b k i).2
  | 0, h => by simp [longTo] at h
  | i + 1, h => by
    unfold longTo at h ⊢
    split at h
    · rename_i hlt
      rw [if_pos hlt]
      refine ⟨by simp, rfl, fun j hj => ?_⟩
      have := longTo_max old b k i j hj
      simp at hlt ⊢; omega
    · rename_i hlt
      rw [if_neg hlt]
      obtain ⟨h1, h2, h3⟩ := longTo_first old b k i h
      exact ⟨by omega, h2, h3⟩
theorem longTo_zero (old b : List UInt8) (k : Nat) : ∀ (i : Nat), (longTo old b k i).2 = 0 → (longTo old b k i).1 = 0
  | 0, _ => rfl
  | i + 1, h => by
    unfold longTo at h ⊢
    split at h
    · rename_i hlt; simp at h; omega
    · rename_i hlt; rw [if_neg hlt]; exact longTo_zero old b k i h

theorem pre_self : ∀ (a : List UInt8), pre a a = a.length
  | [] => rfl
  | x :: a => by simp [pre, pre_self a]
theorem longest_self (b : List UInt8) (k : Nat) (hk : k ≤ b.length) : (longest b b k).2 = b.length - k := by
  have h1 := longTo_le b b k b.length (Nat.le_refl _)
  by_cases h : k < b.length
  · have h2 := longTo_max b b k b.length k h
    unfold preAt at h2
    rw [pre_self, List.length_drop] at h2
    unfold longest; omega
  · unfold longest; omega
theorem pre_mono (a a' b : List UInt8) (h : ∃ c, a' = a ++ c) : pre a b ≤ pre a' b := by
  obtain ⟨c, rfl⟩ := h
  have h1 := pre_le a b
  refine le_pre _ _ _ (by simp; omega) h1.2 ?_
  rw [List.take_append_of_le_length h1.1]
  exact pre_take a b
theorem longest_take (old b : List UInt8) (k n : Nat) : (longest (old.take n) b k).2 ≤ (longest old b k).2 := by
  by_cases h : 0 < (longest (old.take n) b k).2
  · obtain ⟨h1, h2, _⟩ := longTo_first (old.take n) b k (old.take n).length h
    have h3 := longTo_max old b k old.length (longTo (old.take n) b k (old.take n).length).1 (by simp only [List.length_take] at h1 ⊢; omega)
    have h4 : preAt (old.take n) b (longTo (old.take n) b k (old.take n).length).1 k ≤ preAt old b (longTo (old.take n) b k (old.take n).length).1 k := by
      refine pre_mono _ _ _ ⟨(old.drop (max n (longTo (old.take n) b k (old.take n).length).1)), ?_⟩
      generalize (longTo (old.take n) b k (old.take n).length).1 = j at *
      have hj : j < n := by simp only [List.length_take] at h1; omega
      rw [Nat.max_eq_left (by omega)]
      have h5 : old.drop j = (old.take n ++ old.drop n).drop j := by rw [List.take_append_drop]
      rw [h5, List.drop_append_of_le_length (by omega)]
    unfold longest at *
    omega
  · omega
end Go.Proofs.Ytefkfglkpebbmac
