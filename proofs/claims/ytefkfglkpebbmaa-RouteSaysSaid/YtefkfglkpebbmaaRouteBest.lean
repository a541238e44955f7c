/- More plain words on best ways: their parts, their edges; there is one. No program here. -/
import Derived.Test.YtefkfglkpebbmaaRouteMath
namespace Go.Proofs.Ytefkfglkpebbmaa
set_option linter.unusedVariables false

theorem Walk.head {l : List Edg} {s v : Int} {w : Way} (h : Walk l s v w) : ∃ r, w.at_ = s :: r := by
  induction h with
  | nil => exact ⟨[], rfl⟩
  | @snoc w x _ _ ih => obtain ⟨r, hr⟩ := ih; exact ⟨r ++ [x.t], by simp [Way.on, hr]⟩
theorem Walk.last {l : List Edg} {s v : Int} {w : Way} (h : Walk l s v w) : ∃ r, w.at_ = r ++ [v] := by
  cases h with
  | nil => exact ⟨[], rfl⟩
  | snoc _ _ => exact ⟨_, rfl⟩
theorem Walk.mono {l k : List Edg} {s v : Int} {w : Way} (h : Walk l s v w) (hk : ∀ x ∈ l, x ∈ k) : Walk k s v w := by
  induction h with
  | nil => exact .nil
  | snoc _ hx ih => exact .snoc ih (hk _ hx)
/-- Two ways one behind the other. -/
def Way.join (w u : Way) : Way := ⟨w.cost + u.cost, w.at_ ++ u.at_.tail⟩
theorem Walk.join {l : List Edg} {s m v : Int} {w u : Way} (h : Walk l s m w) (g : Walk l m v u) : Walk l s v (w.join u) := by
  induction g with
  | nil => simpa [Way.join] using h
  | @snoc u x g hx ih =>
    have e : w.join (u.on x) = (w.join u).on x := by
      obtain ⟨r, hr⟩ := g.head
      simp [Way.join, Way.on, hr, Int.add_assoc]
    rw [e]
    exact .snoc ih hx
theorem Walk.one {l : List Edg} {x : Edg} (hx : x ∈ l) : Walk l x.f x.t ⟨x.c, [x.f, x.t]⟩ := by
  have := Walk.snoc (x := x) (Walk.nil (l := l) (s := x.f)) hx
  simpa [Way.on] using this

/-- The part ahead of the last edge, and the last edge. -/
theorem Best.init {l : List Edg} {s : Int} {w : Way} {x : Edg} (h : Best l s x.t (w.on x)) (hw : Walk l s x.f w) (hx : x ∈ l) : Best l s x.f w ∧ ∀ y ∈ l, y.f = x.f → y.t = x.t → x.c ≤ y.c := by
  refine ⟨⟨hw, fun u hu => ?_⟩, fun y hy h1 h2 => ?_⟩
  · rw [Bool.eq_false_iff]; intro e
    have := h.2 _ (.snoc hu hx)
    rw [on_better hw.ne e] at this; cases this
  · have hw' : Walk l s y.f w := by rw [h1]; exact hw
    have h3 : Walk l s x.t (w.on y) := by rw [← h2]; exact .snoc hw' hy
    have := h.2 _ h3
    rw [Bool.eq_false_iff, ne_eq, better_iff (by simp [Way.on])] at this
    simp only [Way.on] at this
    omega
theorem join_lt {w a b : Way} {m : Int} (ha : ∃ r, a.at_ = m :: r) (hb : ∃ r, b.at_ = m :: r) (hw : w.at_ ≠ []) (h : better a b = true) : better (w.join a) (w.join b) = true := by
  obtain ⟨p, ha⟩ := ha
  obtain ⟨q, hb⟩ := hb
  rw [better_iff (by simp [hb])] at h
  rw [better_iff (by simp [Way.join, hw])]
  simp only [Way.join, ha, hb, List.tail_cons, List.length_append, List.length_cons, lexLt_prefix] at h ⊢
  rcases h with h | ⟨h1, h | ⟨h2, h⟩⟩
  · left; omega
  · right; exact ⟨by omega, Or.inl (by omega)⟩
  · right
    refine ⟨by omega, Or.inr ⟨by omega, ?_⟩⟩
    unfold lexLt at h
    simpa using h
theorem lt_join {a b w : Way} {m : Int} (ha : ∃ r, a.at_ = r ++ [m]) (hb : ∃ r, b.at_ = r ++ [m]) (h : better a b = true) : better (a.join w) (b.join w) = true := by
  have hb0 : b.at_ ≠ [] := by obtain ⟨r, hr⟩ := hb; simp [hr]
  rw [better_iff hb0] at h
  rw [better_iff (by simp [Way.join, hb0])]
  simp only [Way.join, List.length_append]
  rcases h with h | ⟨h1, h | ⟨h2, h⟩⟩
  · left; omega
  · right; exact ⟨by omega, Or.inl (by omega)⟩
  · right; exact ⟨by omega, Or.inr ⟨by omega, lexLt_append _ _ _ _ h2 h⟩⟩
/-- Both parts of a best way are best ones. -/
theorem Best.parts {l : List Edg} {s m v : Int} {w u : Way} (h : Best l s v (w.join u)) (hw : Walk l s m w) (hu : Walk l m v u) : Best l s m w ∧ Best l m v u := by
  refine ⟨⟨hw, fun a ha => ?_⟩, ⟨hu, fun a ha => ?_⟩⟩
  · rw [Bool.eq_false_iff]; intro e
    have := h.2 _ (ha.join hu)
    rw [lt_join ha.last hw.last e] at this; cases this
  · rw [Bool.eq_false_iff]; intro e
    have := h.2 _ (hw.join ha)
    rw [join_lt ha.head hu.head hw.ne e] at this; cases this
/-- A walk parts at each of its versions. -/
theorem Walk.split {l : List Edg} {s v : Int} {w : Way} (h : Walk l s v w) : ∀ (k : Nat) (hk : k < w.at_.length), ∃ a b, Walk l s w.at_[k] a ∧ Walk l w.at_[k] v b ∧ a.cost + b.cost = w.cost ∧ a.at_ = w.at_.take (k + 1) ∧ b.at_ = w.at_.drop k := by
  induction h with
  | nil =>
    intro k hk
    have : k = 0 := by simpa using hk
    subst this
    exact ⟨_, _, .nil, .nil, by simp, by simp, by simp⟩
  | @snoc w x h hx ih =>
    intro k hk
    simp only [Way.on, List.length_append, List.length_singleton] at hk
    by_cases e : k = w.at_.length
    · subst e
      have e1 : (w.on x).at_[w.at_.length]'(by simp [Way.on]) = x.t := by simp [Way.on]
      rw [e1]
      refine ⟨_, _, .snoc h hx, .nil, by simp, ?_, ?_⟩
      · rw [List.take_of_length_le (by simp [Way.on])]
      · simp [Way.on]
    · obtain ⟨a, b, h1, h2, h3, h4, h5⟩ := ih k (by omega)
      have e1 : (w.on x).at_[k]'(by simp [Way.on]; omega) = w.at_[k]'(by omega) := by simp only [Way.on]; rw [List.getElem_append_left]
      rw [e1]
      refine ⟨a, b.on x, h1, .snoc h2 hx, by simp only [Way.on]; omega, ?_, ?_⟩
      · rw [h4]; simp only [Way.on]; rw [List.take_append_of_le_length (by omega)]
      · simp only [Way.on]; rw [h5, List.drop_append_of_le_length (by omega)]
theorem Best.split {l : List Edg} {s v : Int} {w : Way} (h : Best l s v w) (k : Nat) (hk : k < w.at_.length) : ∃ a b, Best l s w.at_[k] a ∧ Best l w.at_[k] v b ∧ a.cost + b.cost = w.cost ∧ a.at_ = w.at_.take (k + 1) ∧ b.at_ = w.at_.drop k := by
  obtain ⟨a, b, h1, h2, h3, h4, h5⟩ := h.1.split k hk
  have e : a.join b = w := by
    obtain ⟨c, t⟩ := w
    simp only [Way.join] at *
    rw [h3, h4, h5, List.tail_drop, List.take_append_drop]
  obtain ⟨g1, g2⟩ := Best.parts (e ▸ h) h1 h2
  exact ⟨a, b, g1, g2, h3, h4, h5⟩

/-- The cheapest edge from one version to another one; 0: there is none. -/
def least : List Edg → Int → Int → Int → Int
  | [], _, _, n => n
  | x :: l, f, t, n => least l f t (if x.f = f ∧ x.t = t ∧ (n = 0 ∨ x.c < n) then x.c else n)
theorem least_pos : ∀ (l : List Edg) (f t n : Int), (∀ x ∈ l, EdgOk x) → 1 ≤ n → least l f t n ≤ n ∧ 1 ≤ least l f t n ∧ (∀ y ∈ l, y.f = f → y.t = t → least l f t n ≤ y.c) ∧ (least l f t n = n ∨ ∃ y ∈ l, y.f = f ∧ y.t = t ∧ least l f t n = y.c)
  | [], f, t, n, _, hn => by simp [least]; omega
  | x :: l, f, t, n, hl, hn => by
    have hx := hl x (by simp)
    unfold EdgOk at hx
    unfold least
    by_cases h : x.f = f ∧ x.t = t ∧ (n = 0 ∨ x.c < n)
    · rw [if_pos h]
      obtain ⟨h1, h2, h3, h4⟩ := least_pos l f t x.c (fun y hy => hl y (by simp [hy])) hx.2.2.2.2.1
      refine ⟨by omega, h2, fun y hy e1 e2 => ?_, Or.inr ?_⟩
      · rcases List.mem_cons.1 hy with rfl | hy
        · exact h1
        · exact h3 y hy e1 e2
      · rcases h4 with h4 | ⟨y, hy, e1, e2, e3⟩
        · exact ⟨x, by simp, h.1, h.2.1, h4⟩
        · exact ⟨y, by simp [hy], e1, e2, e3⟩
    · rw [if_neg h]
      obtain ⟨h1, h2, h3, h4⟩ := least_pos l f t n (fun y hy => hl y (by simp [hy])) hn
      refine ⟨h1, h2, fun y hy e1 e2 => ?_, ?_⟩
      · rcases List.mem_cons.1 hy with rfl | hy
        · have : ¬ (n = 0 ∨ y.c < n) := fun e => h ⟨e1, e2, e⟩
          omega
        · exact h3 y hy e1 e2
      · rcases h4 with h4 | ⟨y, hy, e1, e2, e3⟩
        · exact Or.inl h4
        · exact Or.inr ⟨y, by simp [hy], e1, e2, e3⟩
theorem least_eq : ∀ (l : List Edg) (f t : Int), (∀ x ∈ l, EdgOk x) → ∀ x ∈ l, x.f = f → x.t = t → (∀ y ∈ l, y.f = f → y.t = t → x.c ≤ y.c) → least l f t 0 = x.c
  | [], _, _, _, _, h, _, _, _ => by cases h
  | z :: l, f, t, hl, x, hx, e1, e2, hm => by
    have hz := hl z (by simp)
    unfold EdgOk at hz
    unfold least
    by_cases h : z.f = f ∧ z.t = t
    · rw [if_pos ⟨h.1, h.2, Or.inl rfl⟩]
      obtain ⟨h1, h2, h3, h4⟩ := least_pos l f t z.c (fun y hy => hl y (by simp [hy])) hz.2.2.2.2.1
      have hzm := hm z (by simp) h.1 h.2
      have hlo : x.c ≤ least l f t z.c := by
        rcases h4 with h4 | ⟨y, hy, g1, g2, g3⟩
        · omega
        · rw [g3]; exact hm y (by simp [hy]) g1 g2
      rcases List.mem_cons.1 hx with rfl | hx
      · omega
      · have := h3 x hx e1 e2; omega
    · rw [if_neg (fun e => h ⟨e.1, e.2.1⟩)]
      rcases List.mem_cons.1 hx with rfl | hx
      · exact absurd ⟨e1, e2⟩ h
      · exact least_eq l f t (fun y hy => hl y (by simp [hy])) x hx e1 e2 (fun y hy => hm y (by simp [hy]))
/-- The law's sum over the first k legs. -/
def legs (l : List Edg) (a : List Int) : Nat → Int
  | 0 => 0
  | k + 1 => legs l a k + least l (a.getD k 0) (a.getD (k + 1) 0) 0
theorem legs_append (l : List Edg) (a c : List Int) : ∀ (k : Nat), k < a.length → legs l (a ++ c) k = legs l a k
  | 0, _ => rfl
  | k + 1, h => by
    unfold legs
    rw [legs_append l a c k (by omega)]
    simp only [List.getD_eq_getElem?_getD]
    rw [List.getElem?_append_left (by omega), List.getElem?_append_left h]
theorem Best.legs {l : List Edg} (hl : ∀ x ∈ l, EdgOk x) {s v : Int} {w : Way} (h : Best l s v w) : ∀ k, k < w.at_.length → 1 ≤ k → 0 < least l (w.at_.getD (k - 1) 0) (w.at_.getD k 0) 0 := by
  obtain ⟨hw, hb⟩ := h
  induction hw with
  | nil => intro k h1 h2; simp at h1; omega
  | @snoc w x hw hx ih =>
    intro k h1 h2
    have hi := Best.init ⟨.snoc hw hx, hb⟩ hw hx
    simp only [Way.on, List.length_append, List.length_singleton] at h1
    have hxo := hl x hx
    unfold EdgOk at hxo
    by_cases e : k = w.at_.length
    · subst e
      obtain ⟨r, hr⟩ := hw.last
      have e1 : (w.on x).at_.getD (w.at_.length - 1) 0 = x.f := by simp [Way.on, hr]
      have e2 : (w.on x).at_.getD w.at_.length 0 = x.t := by simp [Way.on]
      rw [e1, e2, least_eq l x.f x.t hl x hx rfl rfl hi.2]
      omega
    · have := ih hi.1.2 k (by omega) h2
      simp only [Way.on, List.getD_eq_getElem?_getD] at this ⊢
      rw [List.getElem?_append_left (by omega), List.getElem?_append_left (by omega)]
      exact this
theorem Best.sum {l : List Edg} (hl : ∀ x ∈ l, EdgOk x) {s v : Int} {w : Way} (h : Best l s v w) : Proofs.Ytefkfglkpebbmaa.legs l w.at_ (w.at_.length - 1) = w.cost := by
  obtain ⟨hw, hb⟩ := h
  induction hw with
  | nil => simp [Proofs.Ytefkfglkpebbmaa.legs]
  | @snoc w x hw hx ih =>
    have hi := Best.init ⟨.snoc hw hx, hb⟩ hw hx
    obtain ⟨r, hr⟩ := hw.last
    have hlen : w.at_.length = r.length + 1 := by simp [hr]
    have e0 : (w.on x).at_.length - 1 = (w.at_.length - 1) + 1 := by simp only [Way.on, List.length_append, List.length_singleton]; omega
    rw [e0, Proofs.Ytefkfglkpebbmaa.legs]
    have e1 : (w.on x).at_.getD (w.at_.length - 1) 0 = x.f := by simp [Way.on, hr]
    have e2 : (w.on x).at_.getD (w.at_.length - 1 + 1) 0 = x.t := by
      rw [show w.at_.length - 1 + 1 = w.at_.length by omega]; simp [Way.on]
    rw [e1, e2, least_eq l x.f x.t hl x hx rfl rfl hi.2]
    have : Proofs.Ytefkfglkpebbmaa.legs l (w.on x).at_ (w.at_.length - 1) = Proofs.Ytefkfglkpebbmaa.legs l w.at_ (w.at_.length - 1) := legs_append l w.at_ [x.t] _ (by omega)
    rw [this, ih hi.1.2]
    rfl

/-! ### There is a best way -/
/-- The text's rounds till nothing is found: at most n. -/
def ends (l : List Edg) : Nat → St → St
  | 0, b => b
  | n + 1, b => if (rounds l b false).2 = true then ends l n (rounds l b false).1 else (rounds l b false).1
theorem ends_still {l : List Edg} (hl : ∀ x ∈ l, EdgOk x) {s : Int} (hs : 1 ≤ s ∧ s ≤ 30) : ∀ (n : Nat) (b : St), Good l s b → total b 30 < n → Good l s (ends l n b) ∧ Still l (ends l n b)
  | 0, _, _, h => by omega
  | n + 1, b, hg, h => by
    have h1 := rounds_good hl l b false (fun _ h => h) hg
    have h2 := rounds_total hl hs l b false (fun _ h => h) hg
    unfold ends
    by_cases e : (rounds l b false).2 = true
    · rw [if_pos e]
      refine ends_still hl hs n _ h1 ?_
      rcases h2.2 e with e' | e'
      · cases e'
      · omega
    · rw [if_neg e]
      obtain ⟨g1, _, g3⟩ := rounds_still l b false (by simpa using e)
      rw [g1]
      exact ⟨hg, g3⟩
theorem best_or_not {l : List Edg} (hl : ∀ x ∈ l, EdgOk x) {s : Int} (hs : 1 ≤ s ∧ s ≤ 30) (v : Int) : (∃ w, Best l s v w ∧ w.at_.length ≤ 30) ∨ ∀ w, ¬ Walk l s v w := by
  obtain ⟨h1, h2⟩ := ends_still hl hs (total (St.first s) 30 + 1) (St.first s) (first_good l s) (by omega)
  have h3 := still_ends h1 h2 v
  by_cases e : ((ends l (total (St.first s) 30 + 1) (St.first s)) v).at_ = []
  · exact Or.inr (h3.2 e)
  · exact Or.inl ⟨_, h3.1 e, h1.len hl hs v⟩
/-! ### Other edges -/
theorem Best.same {l k : List Edg} (h : ∀ x, x ∈ l ↔ x ∈ k) {s v : Int} {w : Way} (hw : Best l s v w) : Best k s v w :=
  ⟨hw.1.mono (fun x hx => (h x).1 hx), fun u hu => hw.2 u (hu.mono (fun x hx => (h x).2 hx))⟩
theorem Best.le {l : List Edg} {s v : Int} {w u : Way} (hw : Best l s v w) (hu : Walk l s v u) : w.cost ≤ u.cost := by
  have := hw.2 u hu
  rw [Bool.eq_false_iff, ne_eq, better_iff hw.1.ne] at this
  omega
theorem Best.edge {l : List Edg} {s : Int} {x : Edg} {w u : Way} (hw : Best l s x.t w) (hu : Walk l s x.f u) (hx : x ∈ l) : w.cost ≤ u.cost + x.c := hw.le (.snoc hu hx)
/-- What the text tells: a best way, or that there is none. -/
def Told1 (l : List Edg) (s v : Int) (w : Way) : Prop := (w.at_ ≠ [] → Best l s v w) ∧ (w.at_ = [] → w = Way.none ∧ ∀ u, ¬ Walk l s v u)
theorem Told1.unique {l : List Edg} {s v : Int} {w u : Way} (h : Told1 l s v w) (g : Told1 l s v u) : w = u := by
  by_cases e : w.at_ = []
  · by_cases f : u.at_ = []
    · rw [(h.2 e).1, (g.2 f).1]
    · exact absurd (g.1 f).1 ((h.2 e).2 u)
  · by_cases f : u.at_ = []
    · exact absurd (h.1 e).1 ((g.2 f).2 w)
    · exact (h.1 e).unique (g.1 f)
theorem Told1.same {l k : List Edg} (h : ∀ x, x ∈ l ↔ x ∈ k) {s v : Int} {w : Way} (hw : Told1 l s v w) : Told1 k s v w :=
  ⟨fun e => (hw.1 e).same h, fun e => ⟨(hw.2 e).1, fun u hu => (hw.2 e).2 u (hu.mono (fun x hx => (h x).2 hx))⟩⟩
/-- The best way, as a function: none if there is none. -/
noncomputable def bestOf (l : List Edg) (s v : Int) : Way := by
  classical
  exact if h : ∃ w, Best l s v w then h.choose else Way.none
theorem bestOf_told {l : List Edg} (hl : ∀ x ∈ l, EdgOk x) {s : Int} (hs : 1 ≤ s ∧ s ≤ 30) (v : Int) : Told1 l s v (bestOf l s v) := by
  unfold bestOf
  by_cases h : ∃ w, Best l s v w
  · rw [dif_pos h]
    exact ⟨fun _ => h.choose_spec, fun e => absurd e h.choose_spec.1.ne⟩
  · rw [dif_neg h]
    refine ⟨fun e => absurd rfl e, fun _ => ⟨rfl, fun u hu => ?_⟩⟩
    rcases best_or_not hl hs v with ⟨w, hw, _⟩ | hno
    · exact h ⟨w, hw⟩
    · exact hno u hu
end Go.Proofs.Ytefkfglkpebbmaa
