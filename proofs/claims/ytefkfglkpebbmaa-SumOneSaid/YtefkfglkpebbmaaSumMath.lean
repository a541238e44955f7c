/- Plain words on sums. No program here. -/
namespace Go.Proofs.Ytefkfglkpebbmaa
set_option linter.unusedVariables false

/-- One step of a sum. -/
def sumStep (s : Int) (x : UInt8) : Int := (s * 31 + (x.toNat : Int)) % 65521
def sumOn (s : Int) (l : List UInt8) : Int := l.foldl sumStep s
theorem sumStep_bd (s : Int) (x : UInt8) : 0 ≤ sumStep s x ∧ sumStep s x ≤ 65520 := by unfold sumStep; omega
theorem sumOn_bd (s : Int) (l : List UInt8) (h : 0 ≤ s ∧ s ≤ 65520) : 0 ≤ sumOn s l ∧ sumOn s l ≤ 65520 := by
  unfold sumOn
  induction l generalizing s with
  | nil => simpa using h
  | cons x l ih => exact ih _ (sumStep_bd s x)
theorem sumOn_take (s : Int) (l : List UInt8) (k : Nat) (h : k < l.length) : sumOn s (l.take (k + 1)) = sumStep (sumOn s (l.take k)) l[k] := by
  unfold sumOn
  rw [List.take_succ_eq_append_getElem h, List.foldl_append]; rfl
theorem mul_mod (a b c : Int) : ((a % 65521) * b + c) % 65521 = (a * b + c) % 65521 := by
  rw [Int.add_emod, Int.mul_emod, Int.emod_emod, ← Int.mul_emod, ← Int.add_emod]
theorem add_mod (a b : Int) : (a + b % 65521) % 65521 = (a + b) % 65521 := by
  rw [Int.add_emod, Int.emod_emod, ← Int.add_emod]
theorem sumOn_more (s : Int) (l : List UInt8) : ∃ q, sumOn s l = s * 31 ^ l.length + sumOn 0 l + 65521 * q := by
  induction l generalizing s with
  | nil => exact ⟨0, by simp [sumOn]⟩
  | cons x l ih =>
    have e : ∀ s, sumOn s (x :: l) = sumOn (sumStep s x) l := fun _ => rfl
    obtain ⟨q1, h1⟩ := ih (sumStep s x)
    obtain ⟨q2, h2⟩ := ih (sumStep 0 x)
    have ha : sumStep s x = s * 31 + (x.toNat : Int) - 65521 * ((s * 31 + (x.toNat : Int)) / 65521) := by unfold sumStep; omega
    have hb : sumStep 0 x = (x.toNat : Int) - 65521 * ((x.toNat : Int) / 65521) := by unfold sumStep; omega
    rw [e, e, h1, h2, ha, hb, List.length_cons, Int.pow_succ]
    generalize (s * 31 + (x.toNat : Int)) / 65521 = a
    generalize (x.toNat : Int) / 65521 = b
    generalize (31 : Int) ^ l.length = t
    exact ⟨-a * t + b * t + q1 - q2, by grind⟩
theorem sumOn_split (s : Int) (l : List UInt8) : sumOn s l % 65521 = (s * 31 ^ l.length + sumOn 0 l) % 65521 := by
  obtain ⟨q, h⟩ := sumOn_more s l
  rw [h]; omega

/-- 31 to the k, and a sum from behind. -/
def pw (k : Nat) : Int := 31 ^ k % 65521
theorem pw_bd (k : Nat) : 0 ≤ pw k ∧ pw k ≤ 65520 := by unfold pw; omega
theorem pw_succ (k : Nat) : pw (k + 1) = pw k * 31 % 65521 := by
  unfold pw
  rw [Int.pow_succ]
  have := mul_mod (31 ^ k) 31 0
  simpa using this.symm
theorem sumOn_drop (l : List UInt8) (k : Nat) (h : k < l.length) : sumOn 0 (l.drop k) = (sumOn 0 (l.drop (k + 1)) + (l[k].toNat : Int) * pw (l.length - (k + 1))) % 65521 := by
  rw [List.drop_eq_getElem_cons h]
  have e : sumOn 0 (l[k] :: l.drop (k + 1)) = sumOn (sumStep 0 l[k]) (l.drop (k + 1)) := rfl
  have hb := sumOn_bd 0 (l[k] :: l.drop (k + 1)) (by omega)
  obtain ⟨q, h1⟩ := sumOn_more (sumStep 0 l[k]) (l.drop (k + 1))
  have hx := l[k].toNat_lt
  have h0 : sumStep 0 l[k] = (l[k].toNat : Int) := by unfold sumStep; omega
  rw [← e, h0, List.length_drop] at h1
  have h2 : pw (l.length - (k + 1)) = 31 ^ (l.length - (k + 1)) - 65521 * (31 ^ (l.length - (k + 1)) / 65521) := by unfold pw; omega
  rw [h2]
  generalize (31 : Int) ^ (l.length - (k + 1)) / 65521 = a at *
  generalize (31 : Int) ^ (l.length - (k + 1)) = t at *
  have h3 : sumOn 0 (l.drop (k + 1)) + (l[k].toNat : Int) * (t - 65521 * a) = sumOn 0 (l[k] :: l.drop (k + 1)) + 65521 * (- q - (l[k].toNat : Int) * a) := by rw [h1]; grind
  rw [h3]; omega
theorem sumOn_ref (s : Int) (l : List UInt8) (h : 0 ≤ s ∧ s ≤ 65520) : sumOn s l = (s * pw l.length + sumOn 0 l) % 65521 := by
  have hb := sumOn_bd s l h
  have h1 : sumOn s l = sumOn s l % 65521 := by omega
  rw [h1, sumOn_split]
  unfold pw
  rw [Int.mul_comm s (31 ^ _ % 65521), mul_mod, Int.mul_comm]

end Go.Proofs.Ytefkfglkpebbmaa
