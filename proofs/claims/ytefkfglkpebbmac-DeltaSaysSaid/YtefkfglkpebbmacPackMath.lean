/- Plain words on packed bytes. No program here. -/
namespace Go.Proofs.Ytefkfglkpebbmac
set_option linter.unusedVariables false

/-- How many in front are x: k at most. -/
def cntEq (x : UInt8) : List UInt8 → Nat → Nat
  | y :: l, k + 1 => if y = x then cntEq x l k + 1 else 0
  | _, _ => 0
theorem cntEq_le (x : UInt8) : ∀ (l : List UInt8) (k : Nat), cntEq x l k ≤ k ∧ cntEq x l k ≤ l.length
  | [], k => by simp [cntEq]
  | y :: l, 0 => by simp [cntEq]
  | y :: l, k + 1 => by
    have := cntEq_le x l k
    unfold cntEq
    split <;> simp only [List.length_cons] <;> omega
theorem cntEq_take (x : UInt8) : ∀ (l : List UInt8) (k : Nat), l.take (cntEq x l k) = List.replicate (cntEq x l k) x
  | [], k => by simp [cntEq]
  | y :: l, 0 => by simp [cntEq]
  | y :: l, k + 1 => by
    have := cntEq_take x l k
    unfold cntEq
    by_cases h : y = x
    · rw [if_pos h, List.take_succ_cons, this, List.replicate_succ, h]
    · rw [if_neg h]; simp
/-- One more is alike, or it is the end of it. -/
theorem cntEq_at (x : UInt8) : ∀ (l : List UInt8) (k j : Nat), j < cntEq x l k → j < k ∧ l[j]? = some x
  | [], k, j, h => by simp [cntEq] at h
  | y :: l, 0, j, h => by simp [cntEq] at h
  | y :: l, k + 1, j, h => by
    unfold cntEq at h
    by_cases e : y = x
    · rw [if_pos e] at h
      rcases j with _ | j
      · exact ⟨by omega, by simp [e]⟩
      · have := cntEq_at x l k j (by omega)
        exact ⟨by omega, by simpa using this.2⟩
    · rw [if_neg e] at h; omega
theorem cntEq_stop (x : UInt8) : ∀ (l : List UInt8) (k : Nat), cntEq x l k < k → l[cntEq x l k]? ≠ some x
  | [], k, h => by simp [cntEq]
  | y :: l, 0, h => by simp [cntEq] at h
  | y :: l, k + 1, h => by
    unfold cntEq at h ⊢
    by_cases e : y = x
    · rw [if_pos e] at h ⊢
      have := cntEq_stop x l k (by omega)
      simpa using this
    · rw [if_neg e]; simpa using e
theorem cntEq_ge (x : UInt8) : ∀ (l : List UInt8) (k n : Nat), n ≤ k → (∀ j, j < n → l[j]? = some x) → n ≤ cntEq x l k
  | _, _, 0, _, _ => Nat.zero_le _
  | [], k, n + 1, h, g => by have := g 0 (by omega); simp at this
  | y :: l, 0, n + 1, h, _ => by omega
  | y :: l, k + 1, n + 1, h, g => by
    have h0 := g 0 (by omega)
    simp at h0
    have := cntEq_ge x l k n (by omega) (fun j hj => by have := g (j + 1) (by omega); simpa using this)
    unfold cntEq
    rw [if_pos h0]; omega
/-- How many like bytes are in front: 127 at most. -/
def alike : List UInt8 → Nat
  | [] => 0
  | x :: l => cntEq x l 126 + 1
theorem alike_le (l : List UInt8) : alike l ≤ 127 ∧ alike l ≤ l.length := by
  cases l with
  | nil => simp [alike]
  | cons x l => have := cntEq_le x l 126; simp only [alike, List.length_cons]; omega
theorem alike_take (x : UInt8) (l : List UInt8) : (x :: l).take (alike (x :: l)) = List.replicate (alike (x :: l)) x := by
  simp only [alike, List.take_succ_cons, List.replicate_succ, cntEq_take]
def flushed (plain : List UInt8) : List UInt8 := if plain = [] then [] else UInt8.ofNat plain.length :: plain
def packF : Nat → List UInt8 → List UInt8 → List UInt8
  | 0, _, plain => flushed plain
  | _ + 1, [], plain => flushed plain
  | f + 1, x :: r, plain =>
    if 3 ≤ alike (x :: r) then flushed plain ++ [UInt8.ofNat (128 + alike (x :: r)), x] ++ packF f ((x :: r).drop (alike (x :: r))) []
    else if plain.length + 1 = 127 then flushed (plain ++ [x]) ++ packF f r []
    else packF f r (plain ++ [x])
def packed (b : List UInt8) : List UInt8 := packF b.length b []
/-- With more fuel it is the same. -/
theorem packF_fuel : ∀ (f g : Nat) (l plain : List UInt8), l.length ≤ f → l.length ≤ g → packF f l plain = packF g l plain
  | 0, g, l, plain, h, _ => by
    have : l = [] := List.eq_nil_of_length_eq_zero (by omega)
    subst this
    cases g <;> rfl
  | f + 1, 0, l, plain, _, h => by
    have : l = [] := List.eq_nil_of_length_eq_zero (by omega)
    subst this
    rfl
  | f + 1, g + 1, [], plain, _, _ => rfl
  | f + 1, g + 1, x :: r, plain, h, h' => by
    simp only [List.length_cons] at h h'
    unfold packF
    by_cases h3 : 3 ≤ alike (x :: r)
    · rw [if_pos h3, if_pos h3, packF_fuel f g _ [] (by simp only [List.length_drop, List.length_cons]; omega) (by simp only [List.length_drop, List.length_cons]; omega)]
    · rw [if_neg h3, if_neg h3, packF_fuel f g r [] (by omega) (by omega), packF_fuel f g r (plain ++ [x]) (by omega) (by omega)]
/-- What is left to do at a place. -/
def packAt (l plain : List UInt8) : List UInt8 := packF l.length l plain
theorem packAt_nil (plain : List UInt8) : packAt [] plain = flushed plain := rfl
theorem packAt_run {x : UInt8} {r plain : List UInt8} (h : 3 ≤ alike (x :: r)) : packAt (x :: r) plain = flushed plain ++ [UInt8.ofNat (128 + alike (x :: r)), x] ++ packAt ((x :: r).drop (alike (x :: r))) [] := by
  show packF (r.length + 1) (x :: r) plain = _
  unfold packF
  rw [if_pos h]
  unfold packAt
  rw [packF_fuel r.length _ _ [] (by simp only [List.length_drop, List.length_cons]; omega) (Nat.le_refl _)]
theorem packAt_full {x : UInt8} {r plain : List UInt8} (h : ¬ 3 ≤ alike (x :: r)) (hp : plain.length + 1 = 127) : packAt (x :: r) plain = flushed (plain ++ [x]) ++ packAt r [] := by
  show packF (r.length + 1) (x :: r) plain = _
  unfold packF
  rw [if_neg h, if_pos hp]
  rfl
theorem packAt_byte {x : UInt8} {r plain : List UInt8} (h : ¬ 3 ≤ alike (x :: r)) (hp : plain.length + 1 ≠ 127) : packAt (x :: r) plain = packAt r (plain ++ [x]) := by
  show packF (r.length + 1) (x :: r) plain = _
  unfold packF
  rw [if_neg h, if_neg hp]
  rfl

/-! ### Unpack -/
def unpackF (most : Int) : Nat → List UInt8 → List UInt8 → List UInt8 × Int
  | 0, _, out => (out, 0)
  | _ + 1, [], out => (out, 0)
  | f + 1, x :: r, out =>
    if x.toNat % 128 = 0 then ([], 3)
    else if 128 ≤ x.toNat then
      (if r.length < 1 then ([], 7) else if most - out.length < (x.toNat % 128 : Nat) then ([], 1) else unpackF most f (r.drop 1) (out ++ List.replicate (x.toNat % 128) (r.headD 0)))
    else
      (if r.length < x.toNat % 128 then ([], 7) else if most - out.length < (x.toNat % 128 : Nat) then ([], 1) else unpackF most f (r.drop (x.toNat % 128)) (out ++ r.take (x.toNat % 128)))
def unpacked (b : List UInt8) (most : Int) : List UInt8 × Int := unpackF most b.length b []
theorem unpackF_fuel (most : Int) : ∀ (f g : Nat) (l out : List UInt8), l.length ≤ f → l.length ≤ g → unpackF most f l out = unpackF most g l out
  | 0, g, l, out, h, _ => by
    have : l = [] := List.eq_nil_of_length_eq_zero (by omega)
    subst this
    cases g <;> rfl
  | f + 1, 0, l, out, _, h => by
    have : l = [] := List.eq_nil_of_length_eq_zero (by omega)
    subst this
    rfl
  | f + 1, g + 1, [], out, _, _ => rfl
  | f + 1, g + 1, x :: r, out, h, h' => by
    simp only [List.length_cons] at h h'
    unfold unpackF
    rw [unpackF_fuel most f g (r.drop 1) _ (by simp only [List.length_drop]; omega) (by simp only [List.length_drop]; omega),
      unpackF_fuel most f g (r.drop (x.toNat % 128)) _ (by simp only [List.length_drop]; omega) (by simp only [List.length_drop]; omega)]
def unpackAt (most : Int) (l out : List UInt8) : List UInt8 × Int := unpackF most l.length l out
theorem unpackAt_nil (most : Int) (out : List UInt8) : unpackAt most [] out = (out, 0) := rfl
theorem unpackAt_zero {most : Int} {x : UInt8} {r out : List UInt8} (h : x.toNat % 128 = 0) : unpackAt most (x :: r) out = ([], 3) := by
  show unpackF most (r.length + 1) (x :: r) out = _
  unfold unpackF
  rw [if_pos h]
theorem unpackAt_run {most : Int} {x : UInt8} {r out : List UInt8} (h : x.toNat % 128 ≠ 0) (h8 : 128 ≤ x.toNat) : unpackAt most (x :: r) out =
    if r.length < 1 then ([], 7) else if most - out.length < (x.toNat % 128 : Nat) then ([], 1) else unpackAt most (r.drop 1) (out ++ List.replicate (x.toNat % 128) (r.headD 0)) := by
  show unpackF most (r.length + 1) (x :: r) out = _
  unfold unpackF
  rw [if_neg h, if_pos h8]
  unfold unpackAt
  rw [unpackF_fuel most r.length (r.drop 1).length (r.drop 1) _ (by simp only [List.length_drop]; omega) (Nat.le_refl _)]
theorem unpackAt_plain {most : Int} {x : UInt8} {r out : List UInt8} (h : x.toNat % 128 ≠ 0) (h8 : ¬ 128 ≤ x.toNat) : unpackAt most (x :: r) out =
    if r.length < x.toNat % 128 then ([], 7) else if most - out.length < (x.toNat % 128 : Nat) then ([], 1) else unpackAt most (r.drop (x.toNat % 128)) (out ++ r.take (x.toNat % 128)) := by
  show unpackF most (r.length + 1) (x :: r) out = _
  unfold unpackF
  rw [if_neg h, if_neg h8]
  unfold unpackAt
  rw [unpackF_fuel most r.length (r.drop (x.toNat % 128)).length (r.drop (x.toNat % 128)) _ (by simp only [List.length_drop]; omega) (Nat.le_refl _)]

/-! ### Back again -/
/-- The packed form of bytes: in parts. -/
inductive Packs : List UInt8 → List UInt8 → Prop
  | nil : Packs [] []
  | run {n : Nat} {x : UInt8} {p b : List UInt8} : 1 ≤ n → n ≤ 127 → Packs p b → Packs (UInt8.ofNat (128 + n) :: x :: p) (List.replicate n x ++ b)
  | plain {l p b : List UInt8} : l ≠ [] → l.length ≤ 127 → Packs p b → Packs (UInt8.ofNat l.length :: (l ++ p)) (l ++ b)
theorem Packs.append {p b q c : List UInt8} (h : Packs p b) (g : Packs q c) : Packs (p ++ q) (b ++ c) := by
  induction h with
  | nil => exact g
  | run h1 h2 _ ih => rw [List.append_assoc]; exact .run h1 h2 ih
  | plain h1 h2 _ ih => rw [List.cons_append, List.append_assoc, List.append_assoc]; exact .plain h1 h2 ih
theorem packs_flushed {plain p b : List UInt8} (hp : plain.length ≤ 127) (h : Packs p b) : Packs (flushed plain ++ p) (plain ++ b) := by
  unfold flushed
  by_cases e : plain = []
  · subst e; simpa using h
  · rw [if_neg e]; exact .plain e hp h
theorem packAt_packs : ∀ (n : Nat) (l plain : List UInt8), l.length ≤ n → plain.length < 127 → Packs (packAt l plain) (plain ++ l)
  | _, [], plain, _, hp => by
    have := packs_flushed (p := []) (b := []) (by omega : plain.length ≤ 127) .nil
    simpa [packAt_nil] using this
  | 0, x :: r, plain, h, _ => by simp at h
  | n + 1, x :: r, plain, h, hp => by
    simp only [List.length_cons] at h
    by_cases h3 : 3 ≤ alike (x :: r)
    · rw [packAt_run h3]
      have hl := alike_le (x :: r)
      have ih := packAt_packs n ((x :: r).drop (alike (x :: r))) [] (by simp only [List.length_drop, List.length_cons]; omega) (by simp)
      rw [List.nil_append] at ih
      have h1 := Packs.run (x := x) (by omega : 1 ≤ alike (x :: r)) hl.1 ih
      rw [← alike_take, List.take_append_drop] at h1
      have := packs_flushed (by omega : plain.length ≤ 127) h1
      simpa using this
    · by_cases h7 : plain.length + 1 = 127
      · rw [packAt_full h3 h7]
        have ih := packAt_packs n r [] (by omega) (by simp)
        rw [List.nil_append] at ih
        have := packs_flushed (plain := plain ++ [x]) (by simp; omega) ih
        simpa using this
      · rw [packAt_byte h3 h7]
        have := packAt_packs n r (plain ++ [x]) (by omega) (by simp; omega)
        simpa using this
theorem packed_packs (b : List UInt8) : Packs (packed b) b := packAt_packs b.length b [] (Nat.le_refl _) (by simp)
theorem ofNat_toNat (n : Nat) (h : n < 256) : (UInt8.ofNat n).toNat = n := by rw [UInt8.toNat_ofNat']; omega
/-- What is unpacked of it. -/
theorem Packs.unpack {p b : List UInt8} (h : Packs p b) : ∀ (out : List UInt8) (most : Int), unpackAt most p out = if (out.length + b.length : Int) ≤ most ∨ b = [] then (out ++ b, 0) else ([], 1) := by
  induction h with
  | nil => intro out most; simp [unpackAt_nil]
  | @run n x p b h1 h2 _ ih =>
    intro out most
    have e := ofNat_toNat (128 + n) (by omega)
    have e2 : (128 + n) % 128 = n := by omega
    rw [unpackAt_run (by rw [e, e2]; omega) (by rw [e]; omega), e, e2, if_neg (by simp)]
    have hne : List.replicate n x ++ b ≠ [] := by
      intro h
      have := congrArg List.length h
      simp at this; omega
    simp only [hne, or_false, List.length_append, List.length_replicate]
    by_cases hlt : most - out.length < (n : Int)
    · rw [if_pos hlt, if_neg (by omega)]
    · rw [if_neg hlt]
      simp only [List.drop_succ_cons, List.drop_zero, List.headD_cons]
      rw [ih]
      simp only [List.length_append, List.length_replicate, List.append_assoc]
      by_cases hb : b = []
      · subst hb
        rw [if_pos (Or.inr rfl), if_pos (by simp; omega)]
      · simp only [hb, or_false]
        by_cases hle : (out.length + n + b.length : Int) ≤ most
        · rw [if_pos (by omega), if_pos (by omega)]
        · rw [if_neg (by omega), if_neg (by omega)]
  | @plain l p b h1 h2 _ ih =>
    intro out most
    have hl := List.length_pos_iff.2 h1
    have e := ofNat_toNat l.length (by omega)
    have e2 : l.length % 128 = l.length := by omega
    rw [unpackAt_plain (by rw [e, e2]; omega) (by rw [e]; omega), e, e2, if_neg (by simp)]
    have hne : l ++ b ≠ [] := by simp [h1]
    simp only [hne, or_false, List.length_append]
    by_cases hlt : most - out.length < (l.length : Int)
    · rw [if_pos hlt, if_neg (by omega)]
    · rw [if_neg hlt]
      simp only [List.drop_left, List.take_left]
      rw [ih]
      simp only [List.length_append, List.append_assoc]
      by_cases hb : b = []
      · subst hb
        rw [if_pos (Or.inr rfl), if_pos (by simp; omega)]
      · simp only [hb, or_false]
        by_cases hle : (out.length + l.length + b.length : Int) ≤ most
        · rw [if_pos (by omega), if_pos (by omega)]
        · rw [if_neg (by omega), if_neg (by omega)]
theorem unpack_packs {p b : List UInt8} (h : Packs p b) (most : Int) : unpacked p most = if (b.length : Int) ≤ most ∨ b = [] then (b, 0) else ([], 1) := by
  have := h.unpack [] most
  simpa [unpackAt, unpacked] using this
/-- How long it is. -/
theorem packAt_len : ∀ (n : Nat) (l plain : List UInt8), l.length ≤ n → plain.length < 127 → 127 * (packAt l plain).length ≤ 128 * (plain.length + l.length) + 127
  | _, [], plain, _, hp => by
    rw [packAt_nil]
    unfold flushed
    split <;> simp <;> omega
  | 0, x :: r, plain, h, _ => by simp at h
  | n + 1, x :: r, plain, h, hp => by
    simp only [List.length_cons] at h
    · by_cases h3 : 3 ≤ alike (x :: r)
      · rw [packAt_run h3]
        have hl := alike_le (x :: r)
        simp only [List.length_cons] at hl
        have ih := (packAt_len n ((x :: r).drop (alike (x :: r))) [] (by simp only [List.length_drop, List.length_cons]; omega) (by simp))
        simp only [List.length_drop, List.length_cons, List.length_nil] at ih
        have hf : (flushed plain).length ≤ plain.length + 1 := by unfold flushed; split <;> simp
        have hf0 : plain = [] → (flushed plain).length = 0 := by intro e; unfold flushed; rw [if_pos e]; rfl
        simp only [List.length_append, List.length_cons, List.length_nil]
        omega
      · by_cases h7 : plain.length + 1 = 127
        · rw [packAt_full h3 h7]
          have ih := (packAt_len n r [] (by omega) (by simp))
          have hf : (flushed (plain ++ [x])).length = plain.length + 2 := by unfold flushed; rw [if_neg (by simp)]; simp
          simp only [List.length_append, List.length_cons, List.length_nil] at ih ⊢
          omega
        · rw [packAt_byte h3 h7]
          have ih := (packAt_len n r (plain ++ [x]) (by omega) (by simp; omega))
          simp only [List.length_append, List.length_cons, List.length_nil] at ih ⊢
          omega
theorem packed_len (b : List UInt8) : (packed b).length ≤ b.length + b.length / 127 + 1 := by
  have := (packAt_len b.length b [] (Nat.le_refl _) (by simp))
  have h2 : packAt b [] = packed b := rfl
  rw [h2] at this
  simp at this; omega

/-! ### The document's answer -/
/-- From k on: till a run is in front, or 127. -/
def plainTo : Nat → List UInt8 → Nat → Nat
  | 0, _, k => k
  | f + 1, b, k => if k < b.length ∧ k < 127 ∧ alike (b.drop k) < 3 then plainTo f b (k + 1) else k
theorem plainTo_fuel : ∀ (f g : Nat) (b : List UInt8) (k : Nat), b.length ≤ f + k → b.length ≤ g + k → plainTo f b k = plainTo g b k
  | 0, 0, _, _, _, _ => rfl
  | 0, g + 1, b, k, h, _ => by unfold plainTo; rw [if_neg (by omega)]
  | f + 1, 0, b, k, _, h => by unfold plainTo; rw [if_neg (by omega)]
  | f + 1, g + 1, b, k, h, h' => by
    unfold plainTo
    by_cases e : k < b.length ∧ k < 127 ∧ alike (b.drop k) < 3
    · rw [if_pos e, if_pos e, plainTo_fuel f g b (k + 1) (by omega) (by omega)]
    · rw [if_neg e, if_neg e]
/-- It stops where it stops. -/
theorem plainTo_ge : ∀ (f : Nat) (b : List UInt8) (k : Nat), k ≤ plainTo f b k
  | 0, _, _ => Nat.le_refl _
  | f + 1, b, k => by
    unfold plainTo
    split
    · have := plainTo_ge f b (k + 1); omega
    · exact Nat.le_refl _
theorem plainTo_le : ∀ (f : Nat) (b : List UInt8) (k : Nat), k ≤ b.length → k ≤ 127 → plainTo f b k ≤ b.length ∧ plainTo f b k ≤ 127
  | 0, _, _, h, g => ⟨h, g⟩
  | f + 1, b, k, h, g => by
    unfold plainTo
    split
    · exact plainTo_le f b (k + 1) (by omega) (by omega)
    · exact ⟨h, g⟩
def rpackF : Nat → List UInt8 → List UInt8
  | 0, _ => []
  | _ + 1, [] => []
  | f + 1, x :: r =>
    if 3 ≤ alike (x :: r) then UInt8.ofNat (128 + alike (x :: r)) :: x :: rpackF f ((x :: r).drop (alike (x :: r)))
    else UInt8.ofNat (plainTo r.length (x :: r) 1) :: ((x :: r).take (plainTo r.length (x :: r) 1) ++ rpackF f ((x :: r).drop (plainTo r.length (x :: r) 1)))
/-- The text's way is the document's. -/
theorem packAt_plain : ∀ (n : Nat) (b : List UInt8) (k : Nat), b.length ≤ n + k → 1 ≤ k → k ≤ b.length → k < 127 → packAt (b.drop k) (b.take k) = UInt8.ofNat (plainTo n b k) :: (b.take (plainTo n b k) ++ packAt (b.drop (plainTo n b k)) [])
  | n, b, k, hn, h1, h2, h7 => by
    have hne : b.take k ≠ [] := by
      intro e
      have := congrArg List.length e
      simp only [List.length_take, List.length_nil] at this; omega
    have hf : flushed (b.take k) = UInt8.ofNat k :: b.take k := by unfold flushed; rw [if_neg hne, List.length_take, Nat.min_eq_left h2]
    by_cases e : k = b.length
    · have hd : b.drop k = [] := List.drop_eq_nil_of_le (by omega)
      have hp : plainTo n b k = k := by
        cases n with
        | zero => rfl
        | succ n => unfold plainTo; rw [if_neg (by omega)]
      rw [hp, hd, packAt_nil, packAt_nil, hf]
      simp [flushed]
    · have hk : k < b.length := by omega
      have hd : b.drop k = b[k] :: b.drop (k + 1) := List.drop_eq_getElem_cons hk
      by_cases h3 : 3 ≤ alike (b.drop k)
      · have hp : plainTo n b k = k := by
          cases n with
          | zero => rfl
          | succ n => unfold plainTo; rw [if_neg (by omega)]
        rw [hp]
        rw [hd] at h3 ⊢
        rw [packAt_run h3, packAt_run h3, hf]
        simp [flushed]
      · rcases n with _ | n
        · omega
        have ht : b.take k ++ [b[k]] = b.take (k + 1) := (List.take_succ_eq_append_getElem hk).symm
        have hlen : (b.take k).length = k := by rw [List.length_take]; omega
        have hp : plainTo (n + 1) b k = plainTo n b (k + 1) := by
          show (if k < b.length ∧ k < 127 ∧ alike (b.drop k) < 3 then plainTo n b (k + 1) else k) = _
          rw [if_pos ⟨hk, h7, by omega⟩]
        rw [hp]
        rw [hd] at h3 ⊢
        by_cases h8 : k + 1 = 127
        · have hq : plainTo n b (k + 1) = k + 1 := by
            cases n with
            | zero => rfl
            | succ n => unfold plainTo; rw [if_neg (by omega)]
          rw [packAt_full h3 (by rw [hlen]; exact h8), hq, ht]
          have hne2 : b.take (k + 1) ≠ [] := by
            intro e
            have := congrArg List.length e
            simp only [List.length_take, List.length_nil] at this; omega
          have hf2 : flushed (b.take (k + 1)) = UInt8.ofNat (k + 1) :: b.take (k + 1) := by unfold flushed; rw [if_neg hne2, List.length_take, Nat.min_eq_left (by omega)]
          rw [hf2]
          rfl
        · rw [packAt_byte h3 (by rw [hlen]; exact h8), ht]
          exact packAt_plain n b (k + 1) (by omega) (by omega) (by omega) (by omega)
theorem rpackF_eq : ∀ (f : Nat) (b : List UInt8), b.length ≤ f → rpackF f b = packAt b []
  | 0, b, h => by
    have : b = [] := List.eq_nil_of_length_eq_zero (by omega)
    subst this; rfl
  | f + 1, [], _ => rfl
  | f + 1, x :: r, h => by
    simp only [List.length_cons] at h
    unfold rpackF
    by_cases h3 : 3 ≤ alike (x :: r)
    · rw [if_pos h3, packAt_run h3, rpackF_eq f _ (by simp only [List.length_drop, List.length_cons]; omega)]
      simp [flushed]
    · rw [if_neg h3, packAt_byte h3 (by simp)]
      have := packAt_plain r.length (x :: r) 1 (by simp) (by omega) (by simp) (by omega)
      simp only [List.drop_succ_cons, List.drop_zero, List.take_succ_cons, List.take_zero] at this
      have hp := plainTo_ge r.length (x :: r) 1
      rw [List.nil_append, this, rpackF_eq f _ (by simp only [List.length_drop, List.length_cons]; omega)]
theorem rpack_packed (b : List UInt8) : rpackF b.length b = packed b := rpackF_eq b.length b (Nat.le_refl _)
end Go.Proofs.Ytefkfglkpebbmac
