/- Plain words on two lists of steps made one, byte by byte: the document's way is the module's. No program here. -/
import Derived.Test.YtefkfglkpebbmabComposeMath
namespace Go.Proofs.Ytefkfglkpebbmab
set_option linter.unusedVariables false

/-- Where a byte comes from: from the old bytes, or (below 0) it is itself. -/
abbrev Src1 := Int × UInt8
def unitStp (u : Src1) : Stp := if u.1 < 0 then ⟨0, 0, [u.2]⟩ else ⟨u.1, 1, []⟩
def addU (l : List Stp) (us : List Src1) : List Stp := us.foldl (fun l u => addStp l (unitStp u)) l
theorem addU_nil (l : List Stp) : addU l [] = l := rfl
theorem addU_append (l : List Stp) (a b : List Src1) : addU l (a ++ b) = addU (addU l a) b := by simp [addU]
theorem addU_snoc (l : List Stp) (a : List Src1) (u : Src1) : addU l (a ++ [u]) = addStp (addU l a) (unitStp u) := by simp [addU]
/-- The bytes of a step. -/
def lenU (a : Int) (n : Nat) : List Src1 := (List.range n).map fun (k : Nat) => (a + (k : Int), (0 : UInt8))
def dataU (d : List UInt8) : List Src1 := d.map fun x => ((-1 : Int), x)
def unitsOf (o : Stp) : List Src1 := lenU o.at_ o.len.toNat ++ dataU o.data
def unitsAll (l : List Stp) : List Src1 := l.flatMap unitsOf
theorem lenU_len (a : Int) (n : Nat) : (lenU a n).length = n := by simp [lenU]
theorem lenU_succ (a : Int) (n : Nat) : lenU a (n + 1) = lenU a n ++ [(a + (n : Int), 0)] := by simp [lenU, List.range_succ]
theorem addStp_two {l : List Stp} {o p q : Stp} (hm : meets o p = some q) (hq : ∀ r, (meets r o = none → meets r q = none) ∧ ∀ s, meets r o = some s → ∃ t, meets s p = some t ∧ meets r q = some t) : addStp (addStp l o) p = addStp l q := by
  rcases List.eq_nil_or_concat l with rfl | ⟨r, s, rfl⟩
  · have : addStp ([] ++ [o]) p = addStp [] q := by rw [addStp_snoc, hm]; rfl
    exact this
  · rw [List.concat_eq_append, addStp_snoc, addStp_snoc]
    obtain ⟨h1, h2⟩ := hq s
    cases h : meets s o with
    | none =>
      rw [h1 h]
      show addStp (r ++ [s, o]) p = r ++ [s, q]
      rw [show r ++ [s, o] = (r ++ [s]) ++ [o] by simp, addStp_snoc, hm]
      simp
    | some t =>
      obtain ⟨v, e1, e2⟩ := h2 t h
      rw [e2]
      show addStp (r ++ [t]) p = r ++ [v]
      rw [addStp_snoc, e1]
theorem addU_len (l : List Stp) {a : Int} (ha : 0 ≤ a) : ∀ n : Nat, addU l (lenU a (n + 1)) = addStp l ⟨a, ((n + 1 : Nat) : Int), []⟩
  | 0 => by
    have e : lenU a (0 + 1) = [(a, 0)] := by simp [lenU]
    rw [e]
    show addStp l (unitStp (a, 0)) = _
    unfold unitStp
    rw [if_neg (by simp only; omega)]
    rfl
  | n + 1 => by
    rw [lenU_succ, addU_snoc, addU_len l ha n]
    have e : unitStp (a + ((n + 1 : Nat) : Int), 0) = ⟨a + ((n + 1 : Nat) : Int), 1, []⟩ := by
      unfold unitStp; rw [if_neg (by simp only; omega)]
    rw [e]
    refine addStp_two ?_ ?_
    · unfold meets
      rw [if_neg (fun e => absurd e.1 (by simp)), if_pos ⟨by show (0 : Int) < 1; decide, by show (0 : Int) < ((n + 1 : Nat) : Int); omega, rfl⟩]
      simp only [Option.some.injEq, Stp.mk.injEq, and_true, true_and]
      omega
    · intro r
      unfold meets
      simp only
      by_cases h : 0 < r.len ∧ r.at_ + r.len = a
      · refine ⟨fun hh => ?_, fun s hs => ?_⟩
        · rw [if_neg (by omega), if_pos (by omega)] at hh; cases hh
        · rw [if_neg (by omega), if_pos (by omega)] at hs
          injection hs with hs
          subst hs
          refine ⟨⟨r.at_, r.len + ((n + 1 : Nat) : Int) + 1, r.data⟩, ?_, ?_⟩
          · simp only
            rw [if_neg (by omega), if_pos (by omega)]
          · rw [if_neg (by omega), if_pos (by omega)]
            simp only [Option.some.injEq, Stp.mk.injEq, and_true, true_and]
            omega
      · refine ⟨fun hh => ?_, fun s hs => ?_⟩
        · rw [if_neg (by omega), if_neg (by omega)]
        · rw [if_neg (by omega), if_neg (by omega)] at hs; cases hs
theorem addU_data (l : List Stp) : ∀ (d : List UInt8) (x : UInt8), addU l (dataU (x :: d)) = addStp l ⟨0, 0, x :: d⟩ := by
  intro d x
  have key : ∀ (m : Nat) (d : List UInt8), d.length = m → addU l (dataU (x :: d)) = addStp l ⟨0, 0, x :: d⟩ := by
    intro m
    induction m with
    | zero =>
      intro d hd
      have : d = [] := List.eq_nil_of_length_eq_zero hd
      subst this
      rfl
    | succ m ih =>
      intro d hd
      have hne : d ≠ [] := by intro e; rw [e] at hd; cases hd
      obtain ⟨r, y, rfl⟩ : ∃ r y, d = r ++ [y] := ⟨d.dropLast, d.getLast hne, (List.dropLast_concat_getLast hne).symm⟩
      have e : dataU (x :: (r ++ [y])) = dataU (x :: r) ++ [(-1, y)] := by simp [dataU]
      rw [e, addU_snoc, ih r (by simp at hd; omega)]
      show addStp (addStp l ⟨0, 0, x :: r⟩) ⟨0, 0, [y]⟩ = _
      refine addStp_two ?_ ?_
      · unfold meets; simp
      · intro s
        unfold meets
        simp only
        by_cases h : s.len = 0
        · refine ⟨fun hh => ?_, fun t ht => ?_⟩
          · rw [if_pos (by simp [h])] at hh; cases hh
          · rw [if_pos (by simp [h])] at ht
            injection ht with ht
            subst ht
            exact ⟨⟨s.at_, s.len, s.data ++ (x :: (r ++ [y]))⟩, by rw [if_pos (by simp [h])]; simp, by rw [if_pos (by simp [h])]⟩
        · refine ⟨fun hh => ?_, fun t ht => ?_⟩
          · rw [if_neg (by omega), if_neg (by omega)]
          · rw [if_neg (by omega), if_neg (by omega)] at ht; cases ht
  exact key d.length d rfl
theorem addU_step (l : List Stp) {o : Stp} (h0 : 0 ≤ o.at_) (h1 : 0 ≤ o.len) (h2 : o.len = 0 → o.at_ = 0 ∧ o.data ≠ []) (h3 : o.len ≠ 0 → o.data = []) : addU l (unitsOf o) = addStp l o := by
  obtain ⟨a, n, d⟩ := o
  unfold unitsOf
  simp only at *
  by_cases h : n = 0
  · obtain ⟨rfl, hd⟩ := h2 h
    subst h
    rcases d with _ | ⟨x, d⟩
    · exact absurd rfl hd
    · have : lenU 0 (0 : Int).toNat = [] := rfl
      rw [this, List.nil_append]
      exact addU_data l d x
  · rw [h3 h]
    obtain ⟨k, rfl⟩ : ∃ k : Nat, n = ((k + 1 : Nat) : Int) := ⟨n.toNat - 1, by omega⟩
    have : dataU [] = [] := rfl
    rw [this, List.append_nil, Int.toNat_natCast]
    exact addU_len l h0 k
theorem unitsOf_len {o : Stp} (h : 0 ≤ o.len) : ((unitsOf o).length : Int) = o.n := by
  unfold unitsOf Stp.n
  simp [lenU, dataU]; omega
theorem lenU_cut (a : Int) (n i j : Nat) (h : i + j ≤ n) : ((lenU a n).drop i).take j = lenU (a + (i : Int)) j := by
  apply List.ext_getElem
  · simp [lenU]; omega
  · intro k h1 h2
    simp [lenU]; omega
theorem cut_units {o : Stp} {old : Int} (ho : Sound old [o]) {a b : Int} (h0 : 0 ≤ a) (h1 : a < b) (h2 : b ≤ o.n) : unitsOf (cutStp o a b) = ((unitsOf o).drop a.toNat).take (b - a).toNat := by
  have ho := ho o (by simp)
  obtain ⟨g1, g2, g3⟩ := ho
  unfold Stp.in_ at g1
  obtain ⟨at_, n, d⟩ := o
  unfold cutStp unitsOf Stp.n at *
  simp only at *
  by_cases h : 0 < n
  · rw [if_pos h]
    have hd := g3 (by omega)
    subst hd
    simp only [dataU, List.map_nil, List.append_nil, List.length_nil] at *
    rw [lenU_cut at_ n.toNat a.toNat (b - a).toNat (by omega), show at_ + ((a.toNat : Nat) : Int) = at_ + a by omega]
  · rw [if_neg h]
    have hz : n = 0 := by omega
    subst hz
    have : lenU at_ (0 : Int).toNat = [] := rfl
    simp only
    rw [this, List.nil_append, show lenU 0 (0 : Int).toNat = [] from rfl, List.nil_append]
    simp [dataU]
theorem partGo_units {old : Int} : ∀ (first : List Stp) (at_ n : Int) (l : List Stp), Sound old first → 0 ≤ n →
    partGo first at_ n l = addU l (((unitsAll first).drop (max 0 at_).toNat).take (max 0 (min n (at_ + n))).toNat)
  | [], at_, n, l, _, hn => by simp [partGo, unitsAll, addU]
  | o :: r, at_, n, l, hf, hn => by
    have hfo : Sound old [o] := fun x hx => hf x (by simp at hx; simp [hx])
    have hfr : Sound old r := fun x hx => hf x (by simp [hx])
    have hin := (hfo o (by simp)).1
    have hform := (hfo o (by simp)).2
    unfold Stp.in_ at hin
    have hul := unitsOf_len hin.1
    have hall : unitsAll (o :: r) = unitsOf o ++ unitsAll r := rfl
    unfold partGo
    rw [hall, take_drop_append, addU_append]
    have g2 : (max 0 at_).toNat - (unitsOf o).length = (max 0 (at_ - o.n)).toNat := by omega
    by_cases h : max 0 at_ < min o.n (at_ + n)
    · rw [if_pos h]
      have c := cut_units hfo (a := max 0 at_) (b := min o.n (at_ + n)) (by omega) h (by omega)
      have cs : addU l (unitsOf (cutStp o (max 0 at_) (min o.n (at_ + n)))) = addStp l (cutStp o (max 0 at_) (min o.n (at_ + n))) := by
        have hform1 := hform.1
        have hform2 := hform.2
        have hb : min o.n (at_ + n) ≤ o.n := by omega
        have ha0 : 0 ≤ max 0 at_ := by omega
        generalize min o.n (at_ + n) = b at *
        generalize max 0 at_ = a at *
        unfold Stp.n at hb
        unfold cutStp
        by_cases hp : 0 < o.len
        · rw [if_pos hp]
          have hd := hform2 (by omega)
          rw [hd] at hb
          simp at hb
          exact addU_step l (by simp only; omega) (by simp only; omega) (fun e => by simp only at e; omega) (fun _ => rfl)
        · rw [if_neg hp]
          refine addU_step l (by simp) (by simp) (fun _ => ⟨rfl, ?_⟩) (fun e => absurd rfl e)
          simp only
          intro e
          have hz := congrArg List.length e
          simp at hz
          omega
      rw [partGo_units r (at_ - o.n) n _ hfr hn, ← cs, c]
      have g0 : ((unitsOf o).drop (max 0 at_).toNat).take (min o.n (at_ + n) - max 0 at_).toNat = ((unitsOf o).drop (max 0 at_).toNat).take (max 0 (min n (at_ + n))).toNat := by
        rw [List.take_eq_take_iff, List.length_drop]
        omega
      rw [g0, g2]
      have g1 : (max 0 (min n (at_ + n))).toNat - ((unitsOf o).length - (max 0 at_).toNat) = (max 0 (min n (at_ - o.n + n))).toNat := by omega
      rw [g1]
    · rw [if_neg h]
      rw [partGo_units r (at_ - o.n) n _ hfr hn]
      have g3 : ((unitsOf o).drop (max 0 at_).toNat).take (max 0 (min n (at_ + n))).toNat = [] := by
        rw [List.take_eq_nil_iff, List.drop_eq_nil_iff]
        omega
      rw [g3, addU_nil, g2]
      by_cases hz : at_ + n ≤ 0
      · have e1 : (max 0 (min n (at_ - o.n + n))).toNat = 0 := by omega
        have e2 : (max 0 (min n (at_ + n))).toNat - ((unitsOf o).length - (max 0 at_).toNat) = 0 := by omega
        rw [e1, e2, List.take_zero]
      · have g1 : (max 0 (min n (at_ + n))).toNat - ((unitsOf o).length - (max 0 at_).toNat) = (max 0 (min n (at_ - o.n + n))).toNat := by omega
        rw [g1]
/-- What the document does with one step of the second list. -/
def refStep (us : List Src1) (l : List Stp) (o : Stp) : List Stp := addU (addU l (dataU o.data)) ((us.drop o.at_.toNat).take o.len.toNat)
theorem composeGo_ref {old : Int} {first : List Stp} (hf : Sound old first) : ∀ (second l : List Stp), (∀ o ∈ second, o.form ∧ o.in_ (made first)) → composeGo first second l = second.foldl (refStep (unitsAll first)) l
  | [], l, _ => rfl
  | o :: r, l, hs => by
    have ho := hs o (by simp)
    have hin := ho.2
    unfold Stp.in_ at hin
    unfold composeGo
    rw [composeGo_ref hf r _ (fun x hx => hs x (by simp [hx])), List.foldl_cons]
    congr 1
    unfold refStep
    by_cases h : 0 < o.len
    · rw [if_pos h, partGo_units first o.at_ o.len l hf (by omega)]
      have hd := ho.1.2 (by omega)
      rw [hd, show dataU [] = [] from rfl, addU_nil]
      rw [show (max 0 o.at_).toNat = o.at_.toNat by omega, show (max 0 (min o.len (o.at_ + o.len))).toNat = o.len.toNat by omega]
    · rw [if_neg h]
      have hz : o.len = 0 := by omega
      obtain ⟨_, hne, _⟩ := ho.1.1 hz
      rw [hz]
      show _ = addU (addU l (dataU o.data)) (List.take 0 _)
      rw [List.take_zero, addU_nil]
      rcases hdd : o.data with _ | ⟨x, d⟩
      · exact absurd hdd hne
      · exact (addU_data l d x).symm
end Go.Proofs.Ytefkfglkpebbmab
