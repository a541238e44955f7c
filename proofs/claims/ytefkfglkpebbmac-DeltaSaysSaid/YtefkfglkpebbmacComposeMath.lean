/- Plain words on two lists of steps made one. No program here. -/
import Derived.Test.YtefkfglkpebbmacDeltaMath
namespace Go.Proofs.Ytefkfglkpebbmac
set_option linter.unusedVariables false

/-- A step behind another one: one step, or none. -/
def meets (p o : Stp) : Option Stp :=
  if o.len = 0 ∧ p.len = 0 then some ⟨p.at_, p.len, p.data ++ o.data⟩
  else if 0 < o.len ∧ 0 < p.len ∧ p.at_ + p.len = o.at_ then some ⟨p.at_, p.len + o.len, p.data⟩
  else none
/-- A step behind others. -/
def addStp : List Stp → Stp → List Stp
  | [], o => [o]
  | [p], o => match meets p o with | some q => [q] | none => [p, o]
  | p :: q :: l, o => p :: addStp (q :: l) o
theorem addStp_snoc : ∀ (l : List Stp) (p o : Stp), addStp (l ++ [p]) o = match meets p o with | some q => l ++ [q] | none => l ++ [p, o]
  | [], p, o => rfl
  | [x], p, o => by
    show x :: addStp [p] o = _
    unfold addStp
    cases meets p o <;> rfl
  | x :: y :: l, p, o => by
    show x :: addStp (y :: l ++ [p]) o = _
    rw [addStp_snoc (y :: l) p o]
    cases meets p o <;> rfl
/-- What part number j of what steps make is. -/
def cutStp (o : Stp) (a b : Int) : Stp := if 0 < o.len then ⟨o.at_ + a, b - a, []⟩ else ⟨0, 0, (o.data.drop a.toNat).take (b - a).toNat⟩
def partGo : List Stp → Int → Int → List Stp → List Stp
  | [], _, _, l => l
  | o :: r, at_, n, l => partGo r (at_ - o.n) n (if max 0 at_ < min o.n (at_ + n) then addStp l (cutStp o (max 0 at_) (min o.n (at_ + n))) else l)
def composeGo (first : List Stp) : List Stp → List Stp → List Stp
  | [], l => l
  | o :: r, l => composeGo first r (if 0 < o.len then partGo first o.at_ o.len l else addStp l ⟨0, 0, o.data⟩)
def composeOf (first second : List Stp) (old mid size : Int) : List Stp × Int :=
  if deltaCheck first old mid ≠ 0 then ([], deltaCheck first old mid)
  else if deltaCheck second mid size ≠ 0 then ([], deltaCheck second mid size)
  else if deltaCheck (composeGo first second []) old size ≠ 0 then ([], deltaCheck (composeGo first second []) old size)
  else (composeGo first second [], 0)

/-! ### What they make -/
/-- Steps that take bytes within the old ones, or have some; data stand at 0. -/
def Sound (old : Int) (l : List Stp) : Prop := ∀ o ∈ l, o.in_ old ∧ (o.len = 0 → o.at_ = 0 ∧ o.data ≠ []) ∧ (o.len ≠ 0 → o.data = [])
theorem form_sound {old : Int} {l : List Stp} (h : ∀ o ∈ l, o.form ∧ o.in_ old) : Sound old l := fun o ho => ⟨(h o ho).2, fun e => ⟨((h o ho).1.1 e).1, ((h o ho).1.1 e).2.1⟩, (h o ho).1.2⟩
theorem meets_piece {old : List UInt8} {p o q : Stp} (hp : p.in_ old.length) (ho : o.in_ old.length) (hpd : p.len ≠ 0 → p.data = []) (hod : o.len ≠ 0 → o.data = []) (hpe : p.len = 0 → p.at_ = 0 ∧ p.data ≠ [])
    (h : meets p o = some q) : q.piece old = p.piece old ++ o.piece old ∧ q.in_ old.length ∧ (q.len = 0 → q.at_ = 0 ∧ q.data ≠ []) ∧ (q.len ≠ 0 → q.data = []) := by
  unfold meets at h
  unfold Stp.in_ at *
  by_cases h1 : o.len = 0 ∧ p.len = 0
  · rw [if_pos h1] at h
    injection h with h; subst h
    refine ⟨?_, hp, fun e => ⟨(hpe h1.2).1, by simp [(hpe h1.2).2]⟩, fun e => absurd h1.2 e⟩
    simp [Stp.piece, h1.1, h1.2]
  · rw [if_neg h1] at h
    by_cases h2 : 0 < o.len ∧ 0 < p.len ∧ p.at_ + p.len = o.at_
    · rw [if_pos h2] at h
      injection h with h; subst h
      have e1 := hpd (by omega)
      have e2 := hod (by omega)
      refine ⟨?_, by simp only; omega, fun e => by simp only at e; omega, fun e => e1⟩
      unfold Stp.piece
      simp only [e1, e2, List.append_nil]
      have g1 : (p.len + o.len).toNat = p.len.toNat + o.len.toNat := by omega
      have g2 : o.at_.toNat = p.at_.toNat + p.len.toNat := by omega
      rw [g1, g2, List.take_add, List.drop_drop]
    · rw [if_neg h2] at h; cases h
theorem addStp_sound {old : List UInt8} {l : List Stp} {o : Stp} (hl : Sound old.length l) (ho : Sound old.length [o]) : Sound old.length (addStp l o) ∧ applied old (addStp l o) = applied old l ++ o.piece old := by
  have ho' := ho o (by simp)
  rcases List.eq_nil_or_concat l with rfl | ⟨r, p, rfl⟩
  · exact ⟨ho, by simp [addStp, applied]⟩
  · rw [List.concat_eq_append] at hl ⊢
    have hp := hl p (by simp)
    rw [addStp_snoc]
    cases hm : meets p o with
    | none =>
      simp only
      rw [show r ++ [p, o] = (r ++ [p]) ++ [o] by simp]
      refine ⟨fun x hx => ?_, by rw [applied_append, applied_one]⟩
      rcases List.mem_append.1 hx with hx | hx
      · exact hl x hx
      · exact ho x hx
    | some q =>
      simp only
      obtain ⟨h1, h2⟩ := meets_piece hp.1 ho'.1 hp.2.2 ho'.2.2 hp.2.1 hm
      refine ⟨fun x hx => ?_, by rw [applied_append, applied_one, h1, applied_append, applied_one, List.append_assoc]⟩
      rcases List.mem_append.1 hx with hx | hx
      · exact hl x (by simp [hx])
      · simp only [List.mem_singleton] at hx; subst hx; exact h2
/-- A part of a step makes that part. -/
theorem cutStp_sound {old : List UInt8} {o : Stp} {a b : Int} (ho : Sound old.length [o]) (h0 : 0 ≤ a) (h1 : a < b) (h2 : b ≤ o.n) : Sound old.length [cutStp o a b] ∧ (cutStp o a b).piece old = ((o.piece old).drop a.toNat).take (b - a).toNat := by
  have ho := ho o (by simp)
  have hin := ho.1
  unfold Stp.in_ at hin
  unfold Stp.n at h2
  by_cases hl : 0 < o.len
  · have hd := ho.2.2 (by omega)
    rw [hd] at h2
    simp only [List.length_nil] at h2
    have e : cutStp o a b = ⟨o.at_ + a, b - a, []⟩ := by unfold cutStp; rw [if_pos hl]
    rw [e]
    refine ⟨fun x hx => ?_, ?_⟩
    · simp only [List.mem_singleton] at hx
      subst hx
      exact ⟨by unfold Stp.in_; simp only; omega, fun e => by simp only at e; omega, fun _ => rfl⟩
    · unfold Stp.piece
      simp only [hd, List.append_nil]
      rw [List.drop_take, List.take_take, List.drop_drop]
      have g1 : (o.at_ + a).toNat = o.at_.toNat + a.toNat := by omega
      have g2 : min (b - a).toNat (o.len.toNat - a.toNat) = (b - a).toNat := by omega
      rw [g1, g2]
  · have hz : o.len = 0 := by omega
    have e : cutStp o a b = ⟨0, 0, (o.data.drop a.toNat).take (b - a).toNat⟩ := by unfold cutStp; rw [if_neg hl]
    rw [e]
    refine ⟨fun x hx => ?_, ?_⟩
    · simp only [List.mem_singleton] at hx
      subst hx
      refine ⟨by unfold Stp.in_; simp only; omega, fun _ => ⟨rfl, ?_⟩, fun e => absurd rfl e⟩
      intro e
      have := congrArg List.length e
      simp only [List.length_take, List.length_drop, List.length_nil] at this
      omega
    · simp [Stp.piece, hz]
theorem take_drop_append {α : Type} (a b : List α) (k n : Nat) : ((a ++ b).drop k).take n = (a.drop k).take n ++ (b.drop (k - a.length)).take (n - (a.length - k)) := by
  rw [List.drop_append, List.take_append, List.length_drop]
theorem partGo_sound {old : List UInt8} : ∀ (first : List Stp) (at_ n : Int) (l : List Stp), Sound old.length first → Sound old.length l → 0 ≤ n →
    Sound old.length (partGo first at_ n l) ∧ applied old (partGo first at_ n l) = applied old l ++ ((applied old first).drop (max 0 at_).toNat).take (max 0 (min n (at_ + n))).toNat
  | [], at_, n, l, _, hl, hn => by
    simp [partGo, applied_nil, hl]
  | o :: r, at_, n, l, hf, hl, hn => by
    have hfo : Sound old.length [o] := fun x hx => hf x (by simp at hx; simp [hx])
    have hfr : Sound old.length r := fun x hx => hf x (by simp [hx])
    have hpl := piece_len (hfo o (by simp)).1
    unfold partGo
    rw [applied_cons]
    have hon : 0 ≤ o.n := by omega
    by_cases h : max 0 at_ < min o.n (at_ + n)
    · rw [if_pos h]
      obtain ⟨c1, c2⟩ := cutStp_sound hfo (a := max 0 at_) (b := min o.n (at_ + n)) (by omega) h (by omega)
      obtain ⟨a1, a2⟩ := addStp_sound hl c1
      obtain ⟨p1, p2⟩ := partGo_sound r (at_ - o.n) n _ hfr a1 hn
      refine ⟨p1, ?_⟩
      rw [p2, a2, c2, List.append_assoc, take_drop_append]
      congr 1
      have g1 : (max 0 (min n (at_ + n))).toNat - ((o.piece old).length - (max 0 at_).toNat) = (max 0 (min n (at_ - o.n + n))).toNat := by omega
      have g2 : (max 0 at_).toNat - (o.piece old).length = (max 0 (at_ - o.n)).toNat := by omega
      rw [g1, g2]
      congr 1
      rw [List.take_eq_take_iff, List.length_drop]
      omega
    · rw [if_neg h]
      obtain ⟨p1, p2⟩ := partGo_sound r (at_ - o.n) n _ hfr hl hn
      refine ⟨p1, ?_⟩
      rw [p2, take_drop_append]
      congr 1
      have g3 : ((o.piece old).drop (max 0 at_).toNat).take (max 0 (min n (at_ + n))).toNat = [] := by
        rw [List.take_eq_nil_iff, List.drop_eq_nil_iff]
        omega
      rw [g3, List.nil_append]
      by_cases hz : at_ + n ≤ 0
      · have e1 : (max 0 (min n (at_ - o.n + n))).toNat = 0 := by omega
        have e2 : (max 0 (min n (at_ + n))).toNat - ((o.piece old).length - (max 0 at_).toNat) = 0 := by omega
        rw [e1, e2, List.take_zero, List.take_zero]
      · have g1 : (max 0 (min n (at_ + n))).toNat - ((o.piece old).length - (max 0 at_).toNat) = (max 0 (min n (at_ - o.n + n))).toNat := by omega
        have g2 : (max 0 at_).toNat - (o.piece old).length = (max 0 (at_ - o.n)).toNat := by omega
        rw [g1, g2]
theorem composeGo_sound {old : List UInt8} (first : List Stp) (hf : Sound old.length first) : ∀ (second l : List Stp), (∀ o ∈ second, o.form ∧ o.in_ (applied old first).length) → Sound old.length l →
    Sound old.length (composeGo first second l) ∧ applied old (composeGo first second l) = applied old l ++ applied (applied old first) second
  | [], l, _, hl => ⟨hl, by simp [composeGo, applied_nil]⟩
  | o :: r, l, hs, hl => by
    have ho := hs o (by simp)
    have hin := ho.2
    unfold Stp.in_ at hin
    unfold composeGo
    rw [applied_cons]
    by_cases h : 0 < o.len
    · rw [if_pos h]
      obtain ⟨p1, p2⟩ := partGo_sound (old := old) first o.at_ o.len l hf hl (by omega)
      obtain ⟨q1, q2⟩ := composeGo_sound first hf r _ (fun x hx => hs x (by simp [hx])) p1
      refine ⟨q1, ?_⟩
      rw [q2, p2, List.append_assoc]
      congr 2
      unfold Stp.piece
      rw [ho.1.2 (by omega), List.append_nil]
      have g1 : (max 0 (min o.len (o.at_ + o.len))).toNat = o.len.toNat := by omega
      have g2 : (max 0 o.at_).toNat = o.at_.toNat := by omega
      rw [g1, g2]
    · rw [if_neg h]
      have hz : o.len = 0 := by omega
      have hfm := ho.1.1 hz
      have hso : Sound old.length [⟨0, 0, o.data⟩] := by
        intro x hx
        simp only [List.mem_singleton] at hx
        subst hx
        exact ⟨by unfold Stp.in_; simp only; omega, fun _ => ⟨rfl, hfm.2.1⟩, fun e => absurd rfl e⟩
      obtain ⟨p1, p2⟩ := addStp_sound hl hso
      obtain ⟨q1, q2⟩ := composeGo_sound first hf r _ (fun x hx => hs x (by simp [hx])) p1
      refine ⟨q1, ?_⟩
      rw [q2, p2, List.append_assoc]
      congr 2
      simp [Stp.piece, hz]
theorem sound_len {old : List UInt8} {l : List Stp} (h : Sound old.length l) : ((applied old l).length : Int) = made l := applied_len (fun o ho => (h o ho).1)
/-- What both do. -/
theorem compose_makes {old : List UInt8} {first second : List Stp} {mid size : Int} (h1 : DOk first old.length mid) (h2 : DOk second mid size) :
    Sound old.length (composeGo first second []) ∧ applied old (composeGo first second []) = applied (applied old first) second ∧ made (composeGo first second []) = size := by
  have hf := form_sound h1.each
  have hm : ((applied old first).length : Int) = mid := by rw [sound_len hf]; exact h1.sum
  obtain ⟨a, b⟩ := composeGo_sound first hf second [] (by rw [hm]; exact h2.each) (fun _ h => by cases h)
  rw [applied_nil, List.nil_append] at b
  refine ⟨a, b, ?_⟩
  rw [← sound_len a, b]
  rw [applied_len (fun o ho => by rw [hm]; exact (h2.each o ho).2)]
  exact h2.sum
theorem sum_le {l : List Stp} {old : Int} (h : Sound old l) : ∀ o ∈ l, o.n ≤ made l ∧ 0 ≤ o.n := by
  have hm : ∀ m : List Stp, Sound old m → 0 ≤ made m := by
    intro m hm
    induction m with
    | nil => simp [made_nil]
    | cons x m ih =>
      have hx := (hm x (by simp)).1
      have := ih (fun y hy => hm y (by simp [hy]))
      rw [made_cons]
      unfold Stp.in_ at hx
      unfold Stp.n; omega
  induction l with
  | nil => intro o ho; cases ho
  | cons x l ih =>
    intro o ho
    have h1 := hm l (fun y hy => h y (by simp [hy]))
    have hx := (h x (by simp)).1
    unfold Stp.in_ at hx
    rw [made_cons]
    rcases List.mem_cons.1 ho with rfl | ho
    · unfold Stp.n; omega
    · have := ih (fun y hy => h y (by simp [hy])) o ho
      unfold Stp.n; unfold Stp.n at this; omega
/-- What steps may be wrong with: too many, or nothing. -/
theorem sound_check {l : List Stp} {old size : Int} (h : Sound old l) (hm : made l = size) (ho : 0 ≤ old ∧ old ≤ 64) (hs : 0 ≤ size ∧ size ≤ 64) : deltaCheck l old size = if 40 < l.length then 1 else 0 := by
  by_cases hl : 40 < l.length
  · rw [if_pos hl]; unfold deltaCheck; rw [if_pos (Or.inl hl)]
  · rw [if_neg hl, deltaCheck_ok]
    refine ⟨by omega, ho.1, ho.2, hs.1, hs.2, fun o hmem => ?_, hm⟩
    have h1 := h o hmem
    have h2 := sum_le h o hmem
    have hin := h1.1
    unfold Stp.in_ at hin
    unfold Stp.n at h2
    exact ⟨⟨fun e => ⟨(h1.2.1 e).1, (h1.2.1 e).2, by omega⟩, h1.2.2⟩, h1.1⟩
theorem composeOf_ok {old : List UInt8} {first second : List Stp} {mid size : Int} (h : (composeOf first second old.length mid size).2 = 0) :
    DOk first old.length mid ∧ DOk second mid size ∧ (composeOf first second old.length mid size).1 = composeGo first second [] ∧ DOk (composeGo first second []) old.length size := by
  unfold composeOf at *
  by_cases h1 : deltaCheck first old.length mid ≠ 0
  · rw [if_pos h1] at h; exact absurd h h1
  rw [if_neg h1] at h ⊢
  by_cases h2 : deltaCheck second mid size ≠ 0
  · rw [if_pos h2] at h; exact absurd h h2
  rw [if_neg h2] at h ⊢
  by_cases h3 : deltaCheck (composeGo first second []) old.length size ≠ 0
  · rw [if_pos h3] at h; exact absurd h h3
  rw [if_neg h3] at h ⊢
  exact ⟨deltaCheck_ok.1 (by omega), deltaCheck_ok.1 (by omega), rfl, deltaCheck_ok.1 (by omega)⟩
theorem composeOf_diffs {old b c : List UInt8} (ho : old.length ≤ 64) (hb : b.length ≤ 64) (hc : c.length ≤ 64) :
    ((composeOf (diffed old b) (diffed b c) old.length b.length c.length).2 = 0 ∧ applied old (composeOf (diffed old b) (diffed b c) old.length b.length c.length).1 = c ∧ DOk (composeOf (diffed old b) (diffed b c) old.length b.length c.length).1 old.length c.length)
      ∨ (composeOf (diffed old b) (diffed b c) old.length b.length c.length).2 = 1 := by
  have h1 := diffed_ok old b ho hb
  have h2 := diffed_ok b c hb hc
  obtain ⟨g1, g2, g3⟩ := compose_makes h1 h2
  have h3 := sound_check g1 g3 (by omega) (by omega)
  rw [diffed_makes, diffed_makes] at g2
  unfold composeOf
  rw [if_neg (by rw [deltaCheck_ok.2 h1]; simp), if_neg (by rw [deltaCheck_ok.2 h2]; simp)]
  by_cases h : 40 < (composeGo (diffed old b) (diffed b c) []).length
  · rw [if_pos h] at h3
    rw [if_pos (by rw [h3]; decide), h3]
    exact Or.inr rfl
  · rw [if_neg h] at h3
    rw [if_neg (by rw [h3]; simp)]
    exact Or.inl ⟨rfl, g2, deltaCheck_ok.1 h3⟩

/-! ### With a step that takes all -/
def wholeStp (n : Int) : List Stp := if n = 0 then [] else [⟨0, n, []⟩]
theorem whole_ok (n : Int) (h : 0 ≤ n ∧ n ≤ 64) : DOk (wholeStp n) n n := by
  unfold wholeStp
  by_cases e : n = 0
  · subst e
    rw [if_pos rfl]
    exact ⟨by simp, by omega, by omega, by omega, by omega, fun o ho => by simp at ho, rfl⟩
  · rw [if_neg e]
    refine ⟨by simp, h.1, h.2, h.1, h.2, fun o ho => ?_, by simp [made, Stp.n]⟩
    simp only [List.mem_singleton] at ho
    subst ho
    exact ⟨⟨fun h => absurd h e, fun _ => rfl⟩, by unfold Stp.in_; simp only; omega⟩
/-- Each step behind the others. -/
def tidy : List Stp → List Stp → List Stp
  | [], l => l
  | o :: r, l => tidy r (addStp l o)
theorem addStp_len (l : List Stp) (o : Stp) : (addStp l o).length ≤ l.length + 1 := by
  rcases List.eq_nil_or_concat l with rfl | ⟨r, p, rfl⟩
  · simp [addStp]
  · rw [List.concat_eq_append, addStp_snoc]
    cases meets p o <;> simp
theorem tidy_len : ∀ (r l : List Stp), (tidy r l).length ≤ l.length + r.length
  | [], l => by simp [tidy]
  | o :: r, l => by
    unfold tidy
    have h1 := tidy_len r (addStp l o)
    have h2 := addStp_len l o
    simp only [List.length_cons]
    omega
theorem cut_all {o : Stp} {old : Int} (ho : Sound old [o]) : cutStp o 0 o.n = o := by
  have ho := ho o (by simp)
  have hin := ho.1
  unfold Stp.in_ at hin
  unfold cutStp Stp.n
  obtain ⟨a, n, d⟩ := o
  simp only at *
  by_cases h : 0 < n
  · rw [if_pos h]
    have := ho.2.2 (by omega)
    subst this
    simp
  · rw [if_neg h]
    have hz : n = 0 := by omega
    subst hz
    obtain ⟨e, _⟩ := ho.2.1 rfl
    subst e
    simp only [Stp.mk.injEq, true_and]
    rw [show (0 : Int).toNat = 0 from rfl, List.drop_zero, List.take_of_length_le (by omega)]
/-- Parts of all: each whole. -/
theorem part_all {old : Int} : ∀ (first : List Stp) (at_ n : Int) (l : List Stp), Sound old first → at_ ≤ 0 → made first ≤ at_ + n → partGo first at_ n l = tidy first l
  | [], _, _, _, _, _, _ => rfl
  | o :: r, at_, n, l, hf, h0, hn => by
    have hfo : Sound old [o] := fun x hx => hf x (by simp at hx; simp [hx])
    have hfr : Sound old r := fun x hx => hf x (by simp [hx])
    have hs := sum_le hf o (by simp)
    rw [made_cons] at hn hs
    have hpos : 1 ≤ o.n := by
      have h1 := hf o (by simp)
      have hin := h1.1
      unfold Stp.in_ at hin
      unfold Stp.n
      by_cases e : o.len = 0
      · have := List.length_pos_iff.2 (h1.2.1 e).2; omega
      · omega
    have hr : 0 ≤ made r := by
      clear hn hs hpos hf hfo
      induction r with
      | nil => simp [made_nil]
      | cons x m ih =>
        have hx := (hfr x (by simp)).1
        have := ih (fun y hy => hfr y (by simp [hy]))
        rw [made_cons]
        unfold Stp.in_ at hx
        unfold Stp.n; omega
    have e1 : max 0 at_ = 0 := by omega
    have e2 : min o.n (at_ + n) = o.n := by omega
    unfold partGo tidy
    rw [e1, e2, if_pos (by omega), cut_all hfo]
    exact part_all r _ n _ hfr (by omega) (by omega)
/-- Through the whole: each alone. -/
theorem through_whole {old : Int} (h64 : old ≤ 64) : ∀ (l acc : List Stp), (∀ o ∈ l, o.form ∧ o.in_ old) → composeGo (wholeStp old) l acc = tidy l acc
  | [], acc, _ => rfl
  | o :: r, acc, h => by
    have ho := h o (by simp)
    have hin := ho.2
    unfold Stp.in_ at hin
    unfold composeGo tidy
    by_cases hp : 0 < o.len
    · rw [if_pos hp]
      have e : partGo (wholeStp old) o.at_ o.len acc = addStp acc o := by
        unfold wholeStp
        rw [if_neg (by omega)]
        unfold partGo partGo
        have n0 : (⟨0, old, []⟩ : Stp).n = old := by simp [Stp.n]
        rw [n0, if_pos (by omega)]
        have c : cutStp ⟨0, old, []⟩ (max 0 o.at_) (min old (o.at_ + o.len)) = o := by
          unfold cutStp
          have hd := ho.1.2 (by omega)
          obtain ⟨a, n, d⟩ := o
          simp only at *
          subst hd
          rw [if_pos (by omega)]
          simp only [Stp.mk.injEq, and_true]
          omega
        rw [c]
      rw [e]
      exact through_whole h64 r _ (fun x hx => h x (by simp [hx]))
    · rw [if_neg hp]
      have hz : o.len = 0 := by omega
      have e : (⟨0, 0, o.data⟩ : Stp) = o := by
        have := (ho.1.1 hz).1
        obtain ⟨a, n, d⟩ := o
        simp only at *
        subst hz this; rfl
      rw [e]
      exact through_whole h64 r _ (fun x hx => h x (by simp [hx]))
theorem compose_alone {old : List UInt8} {l : List Stp} {size : Int} (h : DOk l old.length size) :
    composeOf (wholeStp old.length) l old.length old.length size = (tidy l [], 0) ∧ composeOf l (wholeStp size) old.length size size = (tidy l [], 0) ∧ (tidy l []).length ≤ l.length ∧
      DOk (tidy l []) old.length size ∧ applied old (tidy l []) = applied old l := by
  have ho : (0 : Int) ≤ old.length ∧ (old.length : Int) ≤ 64 := ⟨h.o0, h.o1⟩
  have hw := whole_ok old.length ho
  have hw2 := whole_ok size ⟨h.s0, h.s1⟩
  have t1 : composeGo (wholeStp old.length) l [] = tidy l [] := through_whole h.o1 l [] h.each
  obtain ⟨g1, g2, g3⟩ := compose_makes hw h
  rw [t1] at g1 g2 g3
  have hlen := tidy_len l []
  simp only [List.length_nil, Nat.zero_add] at hlen
  have hm := h.many
  have hd : deltaCheck (tidy l []) old.length size = 0 := by rw [sound_check g1 g3 ho ⟨h.s0, h.s1⟩, if_neg (by omega)]
  have ha : applied old (wholeStp old.length) = old := by
    unfold wholeStp
    by_cases e : (old.length : Int) = 0
    · rw [if_pos e]
      have : old = [] := List.eq_nil_of_length_eq_zero (by omega)
      rw [this]; rfl
    · rw [if_neg e]
      simp [applied, Stp.piece]
  rw [ha] at g2
  have t2 : composeGo l (wholeStp size) [] = tidy l [] := by
    unfold wholeStp
    by_cases e : size = 0
    · rw [if_pos e]
      have : l = [] := by
        rcases l with _ | ⟨o, r⟩
        · rfl
        · exfalso
          have hs := sum_le (form_sound h.each) o (by simp)
          have hf := h.each o (by simp)
          rw [h.sum, e] at hs
          have hin := hf.2
          unfold Stp.in_ at hin
          unfold Stp.n at hs
          have : o.len = 0 := by omega
          have := List.length_pos_iff.2 (hf.1.1 this).2.1
          omega
      rw [this]; rfl
    · rw [if_neg e]
      show composeGo l [] (if 0 < size then partGo l 0 size [] else _) = _
      have := h.s0
      rw [if_pos (by omega)]
      show partGo l 0 size [] = _
      exact part_all l 0 size [] (form_sound h.each) (by omega) (by rw [h.sum]; omega)
  refine ⟨?_, ?_, hlen, deltaCheck_ok.1 hd, g2⟩
  · unfold composeOf
    rw [t1, if_neg (by rw [deltaCheck_ok.2 hw]; simp), if_neg (by rw [deltaCheck_ok.2 h]; simp), if_neg (by rw [hd]; simp)]
  · unfold composeOf
    rw [t2, if_neg (by rw [deltaCheck_ok.2 h]; simp), if_neg (by rw [deltaCheck_ok.2 hw2]; simp), if_neg (by rw [hd]; simp)]
end Go.Proofs.Ytefkfglkpebbmac
