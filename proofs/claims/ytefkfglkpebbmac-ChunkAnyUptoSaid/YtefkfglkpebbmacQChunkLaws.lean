/- What the laws say of chunks, in plain words: join of cut is the patch, in whatever order they come; a chunk of another patch begins anew. No program here. -/
import Derived.Test.YtefkfglkpebbmacQBase
namespace Go.Proofs.Ytefkfglkpebbmac
set_option linter.unusedVariables false

/-- One is behind the other, of one patch. -/
def Before (a b : Chk) : Prop := kin a b ∧ a.n < b.n
theorem lined_pair : ∀ (p : Option Chk) (l : List Chk), Lined p l ↔ (∀ c ∈ l, chkCheck c = 0) ∧ List.Pairwise Before l ∧ ∀ q, p = some q → ∀ c ∈ l, Before q c
  | p, [] => by simp [Lined]
  | p, c :: l => by
    unfold Lined
    rw [lined_pair (some c) l, List.pairwise_cons]
    constructor
    · rintro ⟨h1, h2, h3, h4, h5⟩
      refine ⟨fun x hx => ?_, ⟨fun x hx => h5 c rfl x hx, h4⟩, fun q hq x hx => ?_⟩
      · rcases List.mem_cons.1 hx with rfl | hx
        · exact h1
        · exact h3 x hx
      · have hc := h2 q hq
        rcases List.mem_cons.1 hx with rfl | hx
        · exact hc
        · have := h5 c rfl x hx
          exact ⟨kin_trans hc.1 this.1, by have := this.2; have := hc.2; omega⟩
    · rintro ⟨h1, ⟨h2, h3⟩, h4⟩
      exact ⟨h1 c (by simp), fun q hq => h4 q hq c (by simp), fun x hx => h1 x (by simp [hx]), h3, fun q hq x hx => by injection hq with hq; subst hq; exact h2 x hx⟩
theorem chkList_ok {l : List Chk} : chkList l = 0 ↔ (∀ c ∈ l, chkCheck c = 0) ∧ List.Pairwise Before l := by
  unfold chkList
  rw [listGo_ok, lined_pair]
  simp

/-! ### One more -/
theorem take_insAt (l : List Chk) (n : Int) : l.take (insAt l n) = l.takeWhile (fun c => decide (c.n < n)) ∧ l.drop (insAt l n) = l.dropWhile (fun c => decide (c.n < n)) := by
  unfold insAt
  induction l with
  | nil => simp
  | cons x l ih =>
    rw [List.takeWhile_cons, List.dropWhile_cons]
    by_cases h : x.n < n
    · simp only [h, decide_true, if_true, List.length_cons, List.take_succ_cons, List.drop_succ_cons, ih]
      exact ⟨trivial, trivial⟩
    · simp [h]
theorem kin_head {x : Chk} {r : List Chk} (h : List.Pairwise Before (x :: r)) : ∀ y ∈ x :: r, kin x y := by
  intro y hy
  rcases List.mem_cons.1 hy with rfl | hy
  · exact kin_refl _
  · exact ((List.pairwise_cons.1 h).1 y hy).1
theorem ins_pair {l : List Chk} {c : Chk} (h : List.Pairwise Before l) (hk : ∀ y ∈ l, kin y c) (hn : ∀ y ∈ l, y.n ≠ c.n) :
    List.Pairwise Before (l.takeWhile (fun y => decide (y.n < c.n)) ++ c :: l.dropWhile (fun y => decide (y.n < c.n))) := by
  induction l with
  | nil => simp
  | cons x l ih =>
    obtain ⟨h1, h2⟩ := List.pairwise_cons.1 h
    rw [List.takeWhile_cons, List.dropWhile_cons]
    by_cases e : x.n < c.n
    · simp only [e, decide_true, if_true, List.cons_append, List.pairwise_cons]
      refine ⟨fun y hy => ?_, ih h2 (fun y hy => hk y (by simp [hy])) (fun y hy => hn y (by simp [hy]))⟩
      rcases List.mem_append.1 hy with hy | hy
      · exact h1 y ((List.takeWhile_subset _) hy)
      · rcases List.mem_cons.1 hy with rfl | hy
        · exact ⟨hk x (by simp), e⟩
        · exact h1 y ((List.dropWhile_subset _) hy)
    · simp only [e, decide_false, Bool.false_eq_true, if_false, List.nil_append]
      refine List.pairwise_cons.2 ⟨fun y hy => ?_, h⟩
      have hx := hn x (by simp)
      rcases List.mem_cons.1 hy with rfl | hy
      · exact ⟨kin_symm (hk y (by simp)), by omega⟩
      · have := h1 y hy
        exact ⟨kin_trans (kin_symm (hk x (by simp))) this.1, by have := this.2; omega⟩
theorem chkAdd_ok {l : List Chk} {c : Chk} (hl : chkList l = 0) (hc : chkCheck c = 0) : (chkAdd l c).2 = 0 ∧
    ((l = [] ∨ ∃ x ∈ l, ¬ kin x c) → (chkAdd l c).1 = [c]) ∧
    ((∀ x ∈ l, kin x c) → (∃ y ∈ l, y.n = c.n) → (chkAdd l c).1 = l) ∧
    ((∀ x ∈ l, kin x c) → (∀ y ∈ l, y.n ≠ c.n) → (chkAdd l c).1 = l.takeWhile (fun y => decide (y.n < c.n)) ++ c :: l.dropWhile (fun y => decide (y.n < c.n))) := by
  obtain ⟨g1, g2⟩ := chkList_ok.1 hl
  unfold chkAdd
  rw [if_neg (by simpa using hl), if_neg (by simpa using hc)]
  match l with
  | [] => simp
  | x :: r =>
    dsimp only
    have hh := kin_head g2
    by_cases hk : kin x c
    · rw [if_neg (by simpa using hk)]
      have hall : ∀ y ∈ x :: r, kin y c := fun y hy => kin_trans (kin_symm (hh y hy)) hk
      by_cases he : ∃ y ∈ x :: r, y.n = c.n
      · rw [if_pos he]
        refine ⟨rfl, fun h => ?_, fun _ _ => rfl, fun _ h => ?_⟩
        · rcases h with h | ⟨y, hy, hn⟩
          · cases h
          · exact absurd (hall y hy) hn
        · obtain ⟨y, hy, e⟩ := he; exact absurd e (h y hy)
      · rw [if_neg he]
        refine ⟨rfl, fun h => ?_, fun _ h => absurd h he, fun _ _ => ?_⟩
        · rcases h with h | ⟨y, hy, hn⟩
          · cases h
          · exact absurd (hall y hy) hn
        · rw [(take_insAt _ _).1, (take_insAt _ _).2]
    · rw [if_pos hk]
      exact ⟨rfl, fun _ => rfl, fun h => absurd (h x (by simp)) hk, fun h => absurd (h x (by simp)) hk⟩
theorem kin_all {l : List Chk} {c : Chk} (hl : chkList l = 0) (hne : l ≠ []) : (∀ x ∈ l, kin x c) ∨ (∃ x ∈ l, ¬ kin x c) ∧ ∀ x ∈ l, ¬ kin x c := by
  obtain ⟨g1, g2⟩ := chkList_ok.1 hl
  match l, hne with
  | x :: r, _ =>
    have hh := kin_head g2
    by_cases hk : kin x c
    · exact .inl fun y hy => kin_trans (kin_symm (hh y hy)) hk
    · exact .inr ⟨⟨x, by simp, hk⟩, fun y hy h => hk (kin_trans (hh y hy) h)⟩
/-- What is known of it behind an add. -/
theorem add_again {l : List Chk} {c : Chk} (hl : chkList l = 0) (hc : chkCheck c = 0) :
    chkList (chkAdd l c).1 = 0 ∧ (∃ y ∈ (chkAdd l c).1, y.n = c.n ∧ kin y c) ∧ chkAdd (chkAdd l c).1 c = ((chkAdd l c).1, 0) := by
  obtain ⟨e0, e1, e2, e3⟩ := chkAdd_ok hl hc
  obtain ⟨g1, g2⟩ := chkList_ok.1 hl
  have key : chkList (chkAdd l c).1 = 0 ∧ (∃ y ∈ (chkAdd l c).1, y.n = c.n ∧ kin y c) ∧ ∀ y ∈ (chkAdd l c).1, kin y c := by
    have one : chkList [c] = 0 := chkList_ok.2 ⟨by simp [hc], by simp⟩
    by_cases hne : l = []
    · rw [e1 (.inl hne)]
      exact ⟨one, ⟨c, by simp, rfl, kin_refl c⟩, by simp [kin_refl]⟩
    rcases kin_all (c := c) hl hne with hk | ⟨hk, _⟩
    · by_cases he : ∃ y ∈ l, y.n = c.n
      · rw [e2 hk he]
        obtain ⟨y, hy, h⟩ := he
        exact ⟨hl, ⟨y, hy, h, hk y hy⟩, hk⟩
      · have he' : ∀ y ∈ l, y.n ≠ c.n := fun y hy h => he ⟨y, hy, h⟩
        rw [e3 hk he']
        have mem : ∀ y ∈ l.takeWhile (fun y => decide (y.n < c.n)) ++ c :: l.dropWhile (fun y => decide (y.n < c.n)), y = c ∨ y ∈ l := by
          intro y hy
          rcases List.mem_append.1 hy with hy | hy
          · exact .inr ((List.takeWhile_subset _) hy)
          · rcases List.mem_cons.1 hy with rfl | hy
            · exact .inl rfl
            · exact .inr ((List.dropWhile_subset _) hy)
        refine ⟨chkList_ok.2 ⟨fun y hy => ?_, ins_pair g2 hk he'⟩, ⟨c, by simp, rfl, kin_refl c⟩, fun y hy => ?_⟩
        · rcases mem y hy with rfl | h
          · exact hc
          · exact g1 y h
        · rcases mem y hy with rfl | h
          · exact kin_refl _
          · exact hk y h
    · rw [e1 (.inr hk)]
      exact ⟨one, ⟨c, by simp, rfl, kin_refl c⟩, by simp [kin_refl]⟩
  obtain ⟨k1, k2, k3⟩ := key
  refine ⟨k1, k2, ?_⟩
  obtain ⟨f0, f1, f2, f3⟩ := chkAdd_ok k1 hc
  obtain ⟨y, hy, h, _⟩ := k2
  exact Prod.ext (f2 k3 ⟨y, hy, h⟩) f0
/-- ChunkOther's three cases. -/
theorem add_there {l : List Chk} {c : Chk} (hl : chkList l = 0) (hc : chkCheck c = 0) (hk : ∃ x, l[0]? = some x ∧ kin x c) (ht : ∃ y ∈ l, y.n = c.n) : (chkAdd l c).1 = l := by
  obtain ⟨x, hx, hk⟩ := hk
  have hne : l ≠ [] := by rintro rfl; simp at hx
  rcases kin_all (c := c) hl hne with h | ⟨_, h⟩
  · exact (chkAdd_ok hl hc).2.2.1 h ht
  · exact absurd hk (h x (List.mem_of_getElem? hx))
theorem add_new {l : List Chk} {c : Chk} (hl : chkList l = 0) (hc : chkCheck c = 0) (hk : ∃ x, l[0]? = some x ∧ kin x c) (ht : ¬ ∃ y ∈ l, y.n = c.n) : (chkAdd l c).1.length = l.length + 1 := by
  obtain ⟨x, hx, hk⟩ := hk
  have hne : l ≠ [] := by rintro rfl; simp at hx
  rcases kin_all (c := c) hl hne with h | ⟨_, h⟩
  · rw [(chkAdd_ok hl hc).2.2.2 h (fun y hy e => ht ⟨y, hy, e⟩), List.length_append, List.length_cons]
    have := congrArg List.length (List.takeWhile_append_dropWhile (p := fun y : Chk => decide (y.n < c.n)) (l := l))
    rw [List.length_append] at this
    omega
  · exact absurd hk (h x (List.mem_of_getElem? hx))
theorem add_other {l : List Chk} {c : Chk} (hl : chkList l = 0) (hc : chkCheck c = 0) (hk : ¬ ∃ x, l[0]? = some x ∧ kin x c) : (chkAdd l c).1 = [c] := by
  refine (chkAdd_ok hl hc).2.1 ?_
  rcases l with _ | ⟨x, r⟩
  · exact .inl rfl
  · exact .inr ⟨x, by simp, fun h => hk ⟨x, rfl, h⟩⟩
theorem chkAdd_zero {l : List Chk} {c : Chk} (h : (chkAdd l c).2 = 0) : chkList l = 0 ∧ chkCheck c = 0 := by
  unfold chkAdd at h
  by_cases h1 : chkList l = 0
  · by_cases h2 : chkCheck c = 0
    · exact ⟨h1, h2⟩
    · rw [if_neg (by simpa using h1), if_pos h2] at h; exact absurd h h2
  · rw [if_pos h1] at h; exact absurd h h1

/-! ### All of a patch -/
def nOf (b : List UInt8) : Nat := (b.length + 15) / 16
/-- Those that came. -/
def gotS (p : Pat) (b : List UInt8) (S : Nat → Bool) : List Chk := ((List.range (nOf b)).filter S).map (chunkAt p b (nOf b))
theorem chunkAt_ok {p : Pat} {b : List UInt8} (hp : p.range) (h : nOf b ≤ 52) {k : Nat} (hk : k < nOf b) : chkCheck (chunkAt p b (nOf b) k) = 0 := by
  rw [chkCheck_ok]
  unfold Pat.range at hp
  unfold nOf at *
  refine ⟨⟨hp.1, hp.2.1, hp.2.2.1, hp.2.2.2.1, by simp [chunkAt]; omega, by simp [chunkAt]; omega, by simp [chunkAt], by simp [chunkAt]; omega⟩, ?_, ?_, ?_⟩
  · intro e
    have := congrArg List.length e
    simp [chunkAt] at this
    omega
  · simp [chunkAt]; omega
  · intro e
    simp [chunkAt] at e ⊢
    omega
theorem gotS_ok {p : Pat} {b : List UInt8} (hp : p.range) (h : nOf b ≤ 52) (S : Nat → Bool) : chkList (gotS p b S) = 0 := by
  rw [chkList_ok]
  refine ⟨fun c hc => ?_, ?_⟩
  · obtain ⟨k, hk, rfl⟩ := List.mem_map.1 hc
    exact chunkAt_ok hp h (by simpa using (List.mem_filter.1 hk).1)
  · unfold gotS
    rw [List.pairwise_map]
    refine List.Pairwise.imp ?_ (List.Pairwise.filter S List.pairwise_lt_range)
    intro i j hij
    exact ⟨⟨rfl, rfl, rfl⟩, by simp [chunkAt]; omega⟩
theorem gotS_len (p : Pat) (b : List UInt8) (S : Nat → Bool) : (gotS p b S).length = ((List.range (nOf b)).filter S).length := by unfold gotS; simp
theorem range_split (n k : Nat) (h : k < n) : List.range n = List.range k ++ k :: List.range' (k + 1) (n - (k + 1)) := by
  rw [List.range_eq_range', List.range_eq_range']
  have h1 : n = k + (1 + (n - (k + 1))) := by omega
  have h2 : List.range' 0 n = List.range' 0 k ++ List.range' (0 + k) (1 + (n - (k + 1))) := by
    rw [List.range'_append_1]
    rw [← h1]
  rw [h2]
  congr 1
  rw [Nat.add_comm 1, List.range'_succ]
  simp
theorem gotS_add {p : Pat} {b : List UInt8} (hp : p.range) (h : nOf b ≤ 52) (S : Nat → Bool) {k : Nat} (hk : k < nOf b) :
    chkAdd (gotS p b S) (chunkAt p b (nOf b) k) = (gotS p b (fun j => S j || j == k), 0) := by
  obtain ⟨e0, e1, e2, e3⟩ := chkAdd_ok (gotS_ok hp h S) (chunkAt_ok hp h hk)
  refine Prod.ext ?_ e0
  have hkin : ∀ x ∈ gotS p b S, kin x (chunkAt p b (nOf b) k) := by
    intro x hx
    obtain ⟨j, _, rfl⟩ := List.mem_map.1 hx
    exact ⟨rfl, rfl, rfl⟩
  show (chkAdd (gotS p b S) (chunkAt p b (nOf b) k)).1 = gotS p b (fun j => S j || j == k)
  by_cases hS : S k = true
  · rw [e2 hkin ⟨chunkAt p b (nOf b) k, List.mem_map.2 ⟨k, List.mem_filter.2 ⟨by simpa using hk, hS⟩, rfl⟩, rfl⟩]
    unfold gotS
    congr 1
    refine List.filter_congr fun j _ => ?_
    by_cases e : j = k
    · subst e; simp [hS]
    · simp [e]
  · have hS' : S k = false := by simpa using hS
    have hn : ∀ y ∈ gotS p b S, y.n ≠ (chunkAt p b (nOf b) k).n := by
      intro y hy e
      obtain ⟨j, hj, rfl⟩ := List.mem_map.1 hy
      have : j = k := by simp only [chunkAt] at e; omega
      subst this
      rw [(List.mem_filter.1 hj).2] at hS'; cases hS'
    rw [e3 hkin hn]
    unfold gotS
    rw [range_split _ _ hk]
    simp only [List.filter_append, List.filter_cons, hS', Bool.false_eq_true, if_false, beq_self_eq_true, Bool.or_true, if_true, List.map_append, List.map_cons]
    have a1 : (List.range k).filter (fun j => S j || j == k) = (List.range k).filter S := List.filter_congr fun j hj => by
      have : j < k := by simpa using hj
      simp; omega
    have a2 : (List.range' (k + 1) (nOf b - (k + 1))).filter (fun j => S j || j == k) = (List.range' (k + 1) (nOf b - (k + 1))).filter S := List.filter_congr fun j hj => by
      have : k + 1 ≤ j := by simp [List.mem_range'_1] at hj; omega
      simp; omega
    rw [a1, a2]
    generalize hX : ((List.range k).filter S).map (chunkAt p b (nOf b)) = X
    generalize hY : ((List.range' (k + 1) (nOf b - (k + 1))).filter S).map (chunkAt p b (nOf b)) = Y
    have hXl : ∀ y ∈ X, decide (y.n < (chunkAt p b (nOf b) k).n) = true := by
      intro y hy
      rw [← hX] at hy
      obtain ⟨j, hj, rfl⟩ := List.mem_map.1 hy
      have := (List.mem_filter.1 hj).1
      simp [chunkAt] at this ⊢; omega
    have hYl : ∀ y ∈ Y, decide (y.n < (chunkAt p b (nOf b) k).n) = false := by
      intro y hy
      rw [← hY] at hy
      obtain ⟨j, hj, rfl⟩ := List.mem_map.1 hy
      have := (List.mem_filter.1 hj).1
      simp [chunkAt, List.mem_range'_1] at this ⊢; omega
    have t1 : (X ++ Y).takeWhile (fun y => decide (y.n < (chunkAt p b (nOf b) k).n)) = X := by
      rw [List.takeWhile_append_of_pos hXl]
      rcases Y with _ | ⟨y, Y⟩
      · simp
      · simp [hYl y (by simp)]
    have t2 : (X ++ Y).dropWhile (fun y => decide (y.n < (chunkAt p b (nOf b) k).n)) = Y := by
      rw [List.dropWhile_append_of_pos hXl]
      rcases Y with _ | ⟨y, Y⟩
      · simp
      · simp [hYl y (by simp)]
    rw [t1, t2]
theorem gotS_all {p : Pat} {b : List UInt8} {S : Nat → Bool} (h : ((List.range (nOf b)).filter S).length = nOf b) : gotS p b S = chunksOf p b := by
  have : (List.range (nOf b)).filter S = List.range (nOf b) := by
    apply List.Sublist.eq_of_length List.filter_sublist
    rw [h, List.length_range]
  unfold gotS chunksOf
  rw [this]; rfl
theorem chunks_data (p : Pat) (b : List UInt8) : dataOf (chunksOf p b) = b := by
  unfold dataOf chunksOf
  rw [List.map_map]
  have key : ∀ n, ((List.range n).map (fun k => (b.drop (k * 16)).take 16)).flatten = b.take (n * 16) := by
    intro n
    induction n with
    | zero => simp
    | succ n ih =>
      rw [List.range_succ, List.map_append, List.flatten_append, ih]
      simp only [List.map_cons, List.map_nil, List.flatten_cons, List.flatten_nil, List.append_nil]
      rw [show (n + 1) * 16 = n * 16 + 16 by omega, List.take_add]
  have := key ((b.length + 15) / 16)
  rw [List.take_of_length_le (by omega)] at this
  exact this
theorem chkCut_ok {p : Pat} (h : (chkCut p).2 = 0) : patCheck p = 0 ∧ nOf (packed (patBytes p)) ≤ 52 ∧ 1 ≤ nOf (packed (patBytes p)) ∧ (chkCut p).1 = chunksOf p (packed (patBytes p)) := by
  unfold chkCut at *
  by_cases h1 : patCheck p = 0
  · rw [if_neg (by simpa using h1)] at h ⊢
    by_cases h2 : 52 < ((packed (patBytes p)).length + 15) / 16
    · rw [if_pos h2] at h; simp at h
    · rw [if_neg h2]
      have := packed_patch_len h1
      refine ⟨h1, by unfold nOf; omega, by unfold nOf; omega, rfl⟩
  · rw [if_pos h1] at h; exact absurd h h1
theorem join_of {p : Pat} {l : List Chk} {x : Chk} {r : List Chk} (hp : patCheck p = 0) (hl : chkList l = 0) (hx : l = x :: r) (hof : ¬ (l.length : Int) < x.of_) (hf : x.from_ = p.from_) (ht : x.to_ = p.to_) (hd : dataOf l = packed (patBytes p)) : chkJoin l = (p, 0) := by
  subst hx
  have hu := unpack_packs (packed_packs (patBytes p)) 400
  rw [if_pos (.inl (by have := patBytes_len hp; omega))] at hu
  have hr := read_put hp
  unfold chkJoin
  rw [if_neg (by simpa using hl)]
  dsimp only
  rw [if_neg hof, hd, hu]
  dsimp only
  rw [if_neg (by simp), hr]
  unfold joinDone
  rw [if_neg (by simp [hf, ht])]
theorem gotS_join {p : Pat} (h : (chkCut p).2 = 0) (S : Nat → Bool) :
    chkJoin (gotS p (packed (patBytes p)) S) = if (gotS p (packed (patBytes p)) S).length = nOf (packed (patBytes p)) then (p, 0) else (Pat.zero, 5) := by
  obtain ⟨h1, h2, h3, h4⟩ := chkCut_ok h
  have hp := (patCheck_ok.1 h1).1
  have hok := gotS_ok hp h2 S
  generalize hb : packed (patBytes p) = b at *
  by_cases hn : (gotS p b S).length = nOf b
  · rw [if_pos hn]
    have e := gotS_all (p := p) (by rw [← gotS_len p]; exact hn)
    have hd := chunks_data p b
    rw [← e] at hd
    match hg : gotS p b S, hn with
    | [], hn => simp at hn; omega
    | x :: r, hn =>
      have hx : x ∈ gotS p b S := by rw [hg]; simp
      obtain ⟨k, hk, rfl⟩ := List.mem_map.1 hx
      rw [hg] at hok hd
      exact join_of h1 hok rfl (by rw [hn]; simp [chunkAt]) rfl rfl (by rw [hd, hb])
  · rw [if_neg hn]
    have hle : (gotS p b S).length ≤ nOf b := by
      rw [gotS_len]
      have := List.length_filter_le S (List.range (nOf b))
      simpa using this
    unfold chkJoin
    rw [if_neg (by simpa using hok)]
    match hg : gotS p b S with
    | [] => rfl
    | x :: r =>
      dsimp only
      have hx : x ∈ gotS p b S := by rw [hg]; simp
      obtain ⟨k, hk, rfl⟩ := List.mem_map.1 hx
      rw [hg] at hle hn
      rw [if_pos (by show _ < ((nOf b : Nat) : Int); omega)]
/-- The count goes on. -/
theorem gotS_count (p : Pat) (b : List UInt8) (S : Nat → Bool) {k : Nat} (hk : k < nOf b) :
    (gotS p b (fun j => S j || j == k)).length = (gotS p b S).length + if S k = true then 0 else 1 := by
  rw [gotS_len, gotS_len, range_split _ _ hk]
  have a1 : (List.range k).filter (fun j => S j || j == k) = (List.range k).filter S := List.filter_congr fun j hj => by
    have : j < k := by simpa using hj
    simp; omega
  have a2 : (List.range' (k + 1) (nOf b - (k + 1))).filter (fun j => S j || j == k) = (List.range' (k + 1) (nOf b - (k + 1))).filter S := List.filter_congr fun j hj => by
    have : k + 1 ≤ j := by simp [List.mem_range'_1] at hj; omega
    simp; omega
  simp only [List.filter_append, List.filter_cons, a1, a2, beq_self_eq_true, Bool.or_true, if_true, List.length_append, List.length_cons]
  cases S k <;> simp <;> omega
end Go.Proofs.Ytefkfglkpebbmac
