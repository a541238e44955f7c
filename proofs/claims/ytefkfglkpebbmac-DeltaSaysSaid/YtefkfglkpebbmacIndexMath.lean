/- Plain words: the place of what is alike, by the first instance of a part. No program here. -/
import Derived.Test.YtefkfglkpebbmacMatchMath
import Derived.Lib.IndexMore
namespace Go.Proofs.Ytefkfglkpebbmac
open Go.Lib
set_option linter.unusedVariables false

/-- The n bytes from place k on. -/
def win (b : List UInt8) (k n : Nat) : List UInt8 := (b.drop k).take n
theorem win_len (b : List UInt8) (k n : Nat) (h : k + n ≤ b.length) : (win b k n).length = n := by
  unfold win; rw [List.length_take, List.length_drop]; omega
theorem occ_iff (old b : List UInt8) (i k n : Nat) (h : k + n ≤ b.length) : occAt old (win b k n) i = true ↔ n ≤ preAt old b i k := by
  unfold occAt
  rw [List.isPrefixOf_iff_prefix, List.prefix_iff_eq_take, win_len b k n h]
  unfold win preAt
  constructor
  · intro e
    have hl := congrArg List.length e
    simp only [List.length_take, List.length_drop] at hl
    exact le_pre _ _ _ (by simp only [List.length_drop]; omega) (by simp only [List.length_drop]; omega) e.symm
  · intro hn
    have e := pre_take (old.drop i) (b.drop k)
    have := congrArg (List.take n) e
    rw [List.take_take, List.take_take, Nat.min_eq_left hn] at this
    exact this.symm
theorem index_lt {old b : List UInt8} {k n : Nat} (h : k + n ≤ b.length) (h1 : 1 ≤ n) (hi : index old (win b k n) = -1) : (longest old b k).2 < n := by
  rcases index_spec old (win b k n) with ⟨_, hno⟩ | ⟨i, e, _, _, _⟩
  · rcases Nat.lt_or_ge (longest old b k).2 n with hlt | hge
    · exact hlt
    · have hf := longTo_first old b k old.length (by unfold longest at hge; omega)
      have := hno (longTo old b k old.length).1 (by omega)
      rw [Bool.eq_false_iff] at this
      exact absurd ((occ_iff old b _ k n h).2 (by unfold longest at hge; omega)) this
  · rw [hi] at e; omega
theorem index_pre {old b : List UInt8} {k n i : Nat} (h : k + n ≤ b.length) (h1 : 1 ≤ n) (hi : index old (win b k n) = i) : n ≤ (longest old b k).2 := by
  rcases index_spec old (win b k n) with ⟨e, _⟩ | ⟨j, e, hj, ho, _⟩
  · rw [hi] at e; omega
  · have hp := (occ_iff old b j k n h).1 ho
    have hl := preAt_le old b j k
    exact Nat.le_trans hp (longTo_max old b k old.length j (by omega))
theorem index_is {old b : List UInt8} {k n i : Nat} (h : k + n ≤ b.length) (h1 : 1 ≤ n) (hi : index old (win b k n) = i) (hm : (longest old b k).2 ≤ n) : longest old b k = (i, n) := by
  have hn := index_pre h h1 hi
  have e2 : (longest old b k).2 = n := by omega
  have hf := longTo_first old b k old.length (by unfold longest at e2; omega)
  rcases index_spec old (win b k n) with ⟨e, _⟩ | ⟨j, e, hj, ho, hno⟩
  · rw [hi] at e; omega
  · have hij : i = j := by rw [hi] at e; omega
    subst hij
    have h4 : ¬ (longTo old b k old.length).1 < i := fun hlt => by
      have := hno _ hlt
      rw [(occ_iff old b _ k n h).2 (by unfold longest at e2; omega)] at this; cases this
    have h5 : ¬ i < (longTo old b k old.length).1 := fun hlt => by
      have h6 := hf.2.2 i hlt
      have h7 := (occ_iff old b i k n h).1 ho
      unfold longest at e2; omega
    have e1 : (longest old b k).1 = i := by unfold longest; omega
    exact Prod.ext e1 e2
theorem index_of {old b : List UInt8} {k : Nat} (hk : k ≤ b.length) (h0 : 0 < (longest old b k).2) : index old (win b k (longest old b k).2) = (longest old b k).1 := by
  have hl := longTo_le old b k old.length (Nat.le_refl _)
  have hb : k + (longest old b k).2 ≤ b.length := by unfold longest; omega
  rcases index_spec old (win b k (longest old b k).2) with ⟨e, _⟩ | ⟨j, e, _, _, _⟩
  · have := index_lt hb h0 e; omega
  · have := index_is hb h0 e (Nat.le_refl _)
    rw [e]
    exact congrArg (fun p => (p.1 : Int)) this.symm
theorem index_more {old b : List UInt8} {k : Nat} (hb : k + (longest old b k).2 + 1 ≤ b.length) : index old (win b k ((longest old b k).2 + 1)) = -1 := by
  rcases index_spec old (win b k ((longest old b k).2 + 1)) with ⟨e, _⟩ | ⟨j, e, _, _, _⟩
  · exact e
  · have := index_pre (by omega) (by omega) e; omega
theorem longest_zero {old b : List UInt8} {k : Nat} (h : (longest old b k).2 < 1) : longest old b k = (0, 0) :=
  Prod.ext (longTo_zero old b k old.length (by unfold longest at h; omega)) (by show (longest old b k).2 = 0; omega)
theorem longest_alikeM (old b : List UInt8) (k : Nat) : win old (longest old b k).1 (longest old b k).2 = win b k (longest old b k).2 := by
  by_cases h : 0 < (longest old b k).2
  · have hf := longTo_first old b k old.length h
    have e := pre_take (old.drop (longTo old b k old.length).1) (b.drop k)
    have e2 : pre (old.drop (longTo old b k old.length).1) (b.drop k) = (longTo old b k old.length).2 := hf.2.1
    rw [e2] at e
    exact e
  · have : (longest old b k).2 = 0 := by omega
    unfold win; rw [this]; simp
end Go.Proofs.Ytefkfglkpebbmac
