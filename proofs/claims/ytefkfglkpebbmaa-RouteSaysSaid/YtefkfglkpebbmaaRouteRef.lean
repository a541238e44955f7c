/- Plain words on the document's answer for ways: from behind. No program here. -/
import Derived.Test.YtefkfglkpebbmaaRouteBest
namespace Go.Proofs.Ytefkfglkpebbmaa
set_option linter.unusedVariables false

/-- What a way costs and how many steps it has, to the end. -/
abbrev Ct := Int → Int × Int
def far : Int := 1099511627776
def Ct.set (s : Ct) (v : Int) (w : Int × Int) : Ct := fun u => if u = v then w else s u
def ctLt (a b : Int × Int) : Prop := a.1 < b.1 ∨ a.1 = b.1 ∧ a.2 < b.2
instance (a b : Int × Int) : Decidable (ctLt a b) := by unfold ctLt; infer_instance
def ctOn (x : Edg) (a : Int × Int) : Int × Int := (a.1 + x.c, a.2 + 1)
def back (x : Edg) (s : Ct) : Ct := if ctLt (ctOn x (s x.t)) (s x.f) then s.set x.f (ctOn x (s x.t)) else s
def backs : List Edg → Ct → Ct
  | [], s => s
  | x :: l, s => backs l (back x s)
theorem backs_append (l k : List Edg) (s : Ct) : backs (l ++ k) s = backs k (backs l s) := by
  induction l generalizing s with
  | nil => rfl
  | cons x l ih => simp only [List.cons_append, backs]; rw [ih]
def backN (l : List Edg) : Nat → Ct → Ct
  | 0, s => s
  | n + 1, s => backs l (backN l n s)
def Ct.first (t : Int) : Ct := fun u => if u = t then (0, 0) else (far, far)
/-- How a way is measured. -/
def Way.ct (w : Way) : Int × Int := (w.cost, (w.at_.length : Int) - 1)
/-- Each is far, or a way's; n edges were looked at. -/
structure Told (l : List Edg) (t : Int) (n : Nat) (s : Ct) : Prop where
  told : ∀ v, s v = (far, far) ∨ (∃ w, Walk l v t w ∧ s v = w.ct) ∧ 0 ≤ (s v).1 ∧ (s v).1 ≤ 1000 * n ∧ 0 ≤ (s v).2 ∧ (s v).2 ≤ n
theorem first_told (l : List Edg) (t : Int) : Told l t 0 (Ct.first t) := by
  refine ⟨fun v => ?_⟩
  unfold Ct.first
  by_cases e : v = t
  · subst e
    simp only [if_pos]
    exact Or.inr ⟨⟨_, .nil, by simp [Way.ct]⟩, by simp, by simp, by simp, by simp⟩
  · rw [if_neg e]; exact Or.inl rfl
theorem cons_walk {l : List Edg} {x : Edg} (hx : x ∈ l) {t : Int} {w : Way} (h : Walk l x.t t w) : Walk l x.f t ⟨x.c + w.cost, x.f :: w.at_⟩ := by
  have := (Walk.one hx).join h
  obtain ⟨r, hr⟩ := h.head
  simpa [Way.join, hr] using this
theorem back_told {l : List Edg} (hl : ∀ x ∈ l, EdgOk x) {t : Int} {n : Nat} {s : Ct} (hn : n ≤ 100000) (h : Told l t n s) {x : Edg} (hx : x ∈ l) : Told l t (n + 1) (back x s) := by
  have hxo := hl x hx
  unfold EdgOk at hxo
  refine ⟨fun v => ?_⟩
  unfold back
  have up : s v = (far, far) ∨ (∃ w, Walk l v t w ∧ s v = w.ct) ∧ 0 ≤ (s v).1 ∧ (s v).1 ≤ 1000 * (n + 1 : Nat) ∧ 0 ≤ (s v).2 ∧ (s v).2 ≤ (n + 1 : Nat) := by
    rcases h.told v with e | ⟨e, h1, h2, h3, h4⟩
    · exact Or.inl e
    · exact Or.inr ⟨e, h1, by omega, h3, by omega⟩
  by_cases hlt : ctLt (ctOn x (s x.t)) (s x.f)
  · rw [if_pos hlt]
    unfold Ct.set
    by_cases e : v = x.f
    · subst e
      rw [if_pos rfl]
      right
      rcases h.told x.t with e | ⟨⟨w, hw, e⟩, h1, h2, h3, h4⟩
      · exfalso
        rw [e] at hlt
        rcases h.told x.f with g | ⟨_, h1, h2, h3, h4⟩
        · rw [g] at hlt; unfold ctLt ctOn at hlt; simp only at hlt; omega
        · unfold ctLt ctOn far at hlt; simp only at hlt; omega
      · refine ⟨⟨_, cons_walk hx hw, ?_⟩, ?_, ?_, ?_, ?_⟩
        · rw [e]; simp only [ctOn, Way.ct, List.length_cons, Prod.mk.injEq]; omega
        all_goals simp only [ctOn]; omega
    · rw [if_neg e]; exact up
  · rw [if_neg hlt]; exact up
theorem backs_told {l : List Edg} (hl : ∀ x ∈ l, EdgOk x) {t : Int} : ∀ (k : List Edg) (n : Nat) (s : Ct), (∀ x ∈ k, x ∈ l) → n + k.length ≤ 100000 → Told l t n s → Told l t (n + k.length) (backs k s)
  | [], n, s, _, _, h => h
  | x :: k, n, s, hk, hn, h => by
    simp only [List.length_cons] at hn ⊢
    have := backs_told hl k (n + 1) (back x s) (fun y hy => hk y (by simp [hy])) (by omega) (back_told hl (by omega) h (hk x (by simp)))
    rw [show n + (k.length + 1) = n + 1 + k.length by omega]
    exact this
theorem backN_told {l : List Edg} (hl : ∀ x ∈ l, EdgOk x) (t : Int) : ∀ (k : Nat), k * l.length ≤ 100000 → Told l t (k * l.length) (backN l k (Ct.first t))
  | 0, _ => by rw [Nat.zero_mul]; exact first_told l t
  | k + 1, h => by
    rw [Nat.add_mul, Nat.one_mul] at h ⊢
    exact backs_told hl l _ _ (fun _ h => h) h (backN_told hl t k (by omega))
/-- No worse than. -/
def ctLe (a b : Int × Int) : Prop := a.1 < b.1 ∨ a.1 = b.1 ∧ a.2 ≤ b.2
theorem ctLe_refl (a : Int × Int) : ctLe a a := Or.inr ⟨rfl, Int.le_refl _⟩
theorem ctLe_trans {a b c : Int × Int} (h : ctLe a b) (g : ctLe b c) : ctLe a c := by unfold ctLe at *; omega
theorem ctOn_le (x : Edg) {a b : Int × Int} (h : ctLe a b) : ctLe (ctOn x a) (ctOn x b) := by unfold ctLe ctOn at *; simp only; omega
theorem ctLe_anti {a b : Int × Int} (h : ctLe a b) (g : ctLe b a) : a = b := by
  obtain ⟨a1, a2⟩ := a; obtain ⟨b1, b2⟩ := b
  unfold ctLe at *
  simp only [Prod.mk.injEq] at *; omega
theorem back_le (x : Edg) (s : Ct) (v : Int) : ctLe (back x s v) (s v) := by
  unfold back
  by_cases h : ctLt (ctOn x (s x.t)) (s x.f)
  · rw [if_pos h]
    unfold Ct.set
    by_cases e : v = x.f
    · subst e; rw [if_pos rfl]; unfold ctLt at h; unfold ctLe; omega
    · rw [if_neg e]; exact ctLe_refl _
  · rw [if_neg h]; exact ctLe_refl _
theorem back_on (x : Edg) (s : Ct) : ctLe (back x s x.f) (ctOn x (s x.t)) := by
  unfold back
  by_cases h : ctLt (ctOn x (s x.t)) (s x.f)
  · rw [if_pos h]; unfold Ct.set; rw [if_pos rfl]; exact ctLe_refl _
  · rw [if_neg h]; unfold ctLt at h; unfold ctLe; omega
theorem backs_le : ∀ (k : List Edg) (s : Ct) (v : Int), ctLe (backs k s v) (s v)
  | [], s, v => ctLe_refl _
  | x :: k, s, v => ctLe_trans (backs_le k _ v) (back_le x s v)
theorem backs_on : ∀ (k : List Edg) (s : Ct) (x : Edg), x ∈ k → ctLe (backs k s x.f) (ctOn x (s x.t))
  | [], _, _, h => by cases h
  | y :: k, s, x, h => by
    unfold backs
    rcases List.mem_cons.1 h with rfl | h
    · exact ctLe_trans (backs_le k _ _) (back_on x s)
    · exact ctLe_trans (backs_on k _ x h) (ctOn_le x (back_le y s x.t))
theorem back_self {l : List Edg} (hl : ∀ x ∈ l, EdgOk x) {t : Int} {n : Nat} {s : Ct} (h : Told l t n s) (ht : s t = (0, 0)) {x : Edg} (hx : x ∈ l) : back x s t = (0, 0) := by
  have hxo := hl x hx
  unfold EdgOk at hxo
  unfold back
  by_cases hlt : ctLt (ctOn x (s x.t)) (s x.f)
  · rw [if_pos hlt]
    unfold Ct.set
    by_cases e : t = x.f
    · exfalso
      rw [← e, ht] at hlt
      unfold ctLt ctOn at hlt
      simp only at hlt
      rcases h.told x.t with g | ⟨_, h1, h2, h3, h4⟩
      · rw [g] at hlt; unfold far at hlt; simp only at hlt; omega
      · omega
    · rw [if_neg e]; exact ht
  · rw [if_neg hlt]; exact ht
/-- After k rounds no way of k edges is better. -/
theorem backN_best {l : List Edg} (t : Int) : ∀ (k : Nat) {v : Int} {w : Way}, Walk l v t w → w.at_.length ≤ k + 1 → ctLe (backN l k (Ct.first t) v) w.ct
  | 0, v, w, hw, h => by
    have : v = t ∧ w = ⟨0, [t]⟩ := by
      cases hw with
      | nil => exact ⟨rfl, rfl⟩
      | snoc hw _ =>
        have hne := hw.ne
        simp only [Way.on, List.length_append, List.length_singleton] at h
        exact absurd (List.eq_nil_of_length_eq_zero (by omega)) hne
    obtain ⟨rfl, rfl⟩ := this
    simp [backN, Ct.first, Way.ct, ctLe]
  | k + 1, v, w, hw, h => by
    obtain ⟨r, hr⟩ := hw.head
    by_cases e : r = []
    · subst e
      have hk := backN_best t k hw (by simp [hr])
      exact ctLe_trans (backs_le l _ v) hk
    · -- the first edge, and the rest
      have hlen : 1 < w.at_.length := by
        rw [hr, List.length_cons]
        have := List.length_pos_iff.2 e
        omega
      obtain ⟨a, b, h1, h2, h3, h4, h5⟩ := hw.split 1 hlen
      have ha : ∃ x ∈ l, x.f = v ∧ x.t = w.at_[1] ∧ a.cost = x.c := by
        have h1' : a.at_.length = 2 := by rw [h4, List.length_take]; omega
        revert h1
        generalize w.at_[1] = m
        intro h1
        cases h1 with
        | nil => simp at h1'
        | @snoc u x hu hx =>
          have : u = ⟨0, [v]⟩ ∧ x.f = v := by
            generalize hf : x.f = f at hu
            cases hu with
            | nil => exact ⟨rfl, rfl⟩
            | snoc hu' _ =>
              have hne := hu'.ne
              simp only [Way.on, List.length_append, List.length_singleton] at h1'
              exact absurd (List.eq_nil_of_length_eq_zero (by omega)) hne
          exact ⟨x, hx, this.2, rfl, by simp [Way.on, this.1]⟩
      obtain ⟨x, hx, e1, e2, e3⟩ := ha
      have hb := backN_best t k h2 (by rw [h5, List.length_drop]; omega)
      have h6 := backs_on l (backN l k (Ct.first t)) x hx
      rw [e1, e2] at h6
      refine ctLe_trans h6 (ctLe_trans (ctOn_le x hb) ?_)
      unfold ctOn Way.ct ctLe
      simp only
      rw [h5, List.length_drop]
      right
      exact ⟨by omega, by omega⟩
/-- After 31 rounds: the best ones; far: there is none. -/
theorem back_ends {l : List Edg} (hl : ∀ x ∈ l, EdgOk x) (hn : l.length ≤ 60) (t : Int) (v : Int) (hv : 1 ≤ v ∧ v ≤ 30) :
    (∀ w, Best l v t w → backN l 31 (Ct.first t) v = w.ct) ∧ ((∀ w, ¬ Walk l v t w) → backN l 31 (Ct.first t) v = (far, far)) := by
  have ht := backN_told hl t 31 (by omega)
  refine ⟨fun w hw => ?_, fun hno => ?_⟩
  · have h30 : w.at_.length ≤ 30 := by
      rcases best_or_not hl hv t with ⟨u, hu, hl⟩ | h
      · rw [hw.unique hu]; exact hl
      · exact absurd hw.1 (h w)
    have h1 := backN_best t 31 hw.1 (by omega)
    rcases ht.told v with e | ⟨⟨u, hu, e⟩, h2, h3, h4, h5⟩
    · exfalso
      have hc : w.cost ≤ 30000 := by
        rcases best_or_not hl hv t with ⟨u, hu, hl'⟩ | h
        · obtain ⟨g1, g2⟩ := ends_still hl hv (total (St.first v) 30 + 1) (St.first v) (first_good l v) (by omega)
          have g3 := still_ends g1 g2 t
          by_cases e : ((ends l (total (St.first v) 30 + 1) (St.first v)) t).at_ = []
          · exact absurd hw.1 (g3.2 e w)
          · rw [hw.unique (g3.1 e)]; exact (g1.cost hl hv t e).2
        · exact absurd hw.1 (h w)
      rw [e] at h1
      unfold ctLe Way.ct far at h1
      simp only at h1
      omega
    · refine ctLe_anti h1 ?_
      rw [e]
      have h6 := hw.2 u hu
      rw [Bool.eq_false_iff, ne_eq, better_iff hw.1.ne] at h6
      unfold ctLe Way.ct
      simp only
      omega
  · rcases ht.told v with e | ⟨⟨u, hu, e⟩, _⟩
    · exact e
    · exact absurd hu (hno u)

/-! ### From the front again -/
/-- Which edges are on a best way. -/
def Tight (s : Ct) (now : Int) (x : Edg) : Prop := x.f = now ∧ (s x.t).1 + x.c = (s now).1 ∧ (s x.t).2 + 1 = (s now).2
instance (s : Ct) (now : Int) (x : Edg) : Decidable (Tight s now x) := by unfold Tight; infer_instance
def nextTo (s : Ct) (now : Int) : List Edg → Int → Int
  | [], n => n
  | x :: l, n => nextTo s now l (if Tight s now x then min n x.t else n)
theorem nextTo_append (s : Ct) (now : Int) (l k : List Edg) (n : Int) : nextTo s now (l ++ k) n = nextTo s now k (nextTo s now l n) := by
  induction l generalizing n with
  | nil => rfl
  | cons x l ih => simp only [List.cons_append, nextTo]; rw [ih]
theorem nextTo_le (s : Ct) (now : Int) : ∀ (l : List Edg) (n : Int), nextTo s now l n ≤ n ∧ (∀ x ∈ l, Tight s now x → nextTo s now l n ≤ x.t) ∧ (nextTo s now l n = n ∨ ∃ x ∈ l, Tight s now x ∧ nextTo s now l n = x.t)
  | [], n => by simp [nextTo]
  | x :: l, n => by
    unfold nextTo
    obtain ⟨h1, h2, h3⟩ := nextTo_le s now l (if Tight s now x then min n x.t else n)
    by_cases e : Tight s now x
    · rw [if_pos e] at h1 h2 h3 ⊢
      refine ⟨by omega, fun y hy hy' => ?_, ?_⟩
      · rcases List.mem_cons.1 hy with rfl | hy
        · omega
        · exact h2 y hy hy'
      · rcases h3 with h3 | ⟨y, hy, g1, g2⟩
        · by_cases hm : n ≤ x.t
          · left; omega
          · right; exact ⟨x, by simp, e, by omega⟩
        · right; exact ⟨y, by simp [hy], g1, g2⟩
    · rw [if_neg e] at h1 h2 h3 ⊢
      refine ⟨h1, fun y hy hy' => ?_, ?_⟩
      · rcases List.mem_cons.1 hy with rfl | hy
        · exact absurd hy' e
        · exact h2 y hy hy'
      · rcases h3 with h3 | ⟨y, hy, g1, g2⟩
        · exact Or.inl h3
        · exact Or.inr ⟨y, by simp [hy], g1, g2⟩
/-- The next version of the best way. -/
theorem next_best {l : List Edg} (hl : ∀ x ∈ l, EdgOk x) (hn : l.length ≤ 60) {t now : Int} (ht : 1 ≤ t ∧ t ≤ 30) (hv : 1 ≤ now ∧ now ≤ 30) {w : Way} (hw : Best l now t w) (hne : now ≠ t) :
    ∃ u, 1 ≤ nextTo (backN l 31 (Ct.first t)) now l 31 ∧ nextTo (backN l 31 (Ct.first t)) now l 31 ≤ 30 ∧ Best l (nextTo (backN l 31 (Ct.first t)) now l 31) t u ∧ w.at_ = now :: u.at_ := by
  obtain ⟨r, hr⟩ := hw.1.head
  have hr0 : r ≠ [] := by
    rintro rfl
    obtain ⟨r', hr'⟩ := hw.1.last
    rw [hr] at hr'
    rcases r' with _ | ⟨y, r'⟩
    · simp at hr'; exact hne hr'
    · simp at hr'
  have hlen : 1 < w.at_.length := by
    rw [hr, List.length_cons]
    have := List.length_pos_iff.2 hr0
    omega
  obtain ⟨a, u, h1, h2, h3, h4, h5⟩ := hw.split 1 hlen
  -- the first edge
  have ha : ∃ x ∈ l, x.f = now ∧ x.t = w.at_[1] ∧ a.cost = x.c := by
    have h1' : a.at_.length = 2 := by rw [h4, List.length_take]; omega
    have h1w := h1.1
    revert h1w
    generalize w.at_[1] = m
    intro h1w
    cases h1w with
    | nil => simp at h1'
    | @snoc q x hq hx =>
      have : q = ⟨0, [now]⟩ ∧ x.f = now := by
        generalize hf : x.f = f at hq
        cases hq with
        | nil => exact ⟨rfl, rfl⟩
        | snoc hq' _ =>
          have hne := hq'.ne
          simp only [Way.on, List.length_append, List.length_singleton] at h1'
          exact absurd (List.eq_nil_of_length_eq_zero (by omega)) hne
      exact ⟨x, hx, this.2, rfl, by simp [Way.on, this.1]⟩
  obtain ⟨x, hx, e1, e2, e3⟩ := ha
  have hxo := hl x hx
  unfold EdgOk at hxo
  have hm : 1 ≤ w.at_[1] ∧ w.at_[1] ≤ 30 := by rw [← e2]; omega
  have c1 := (back_ends hl hn t now hv).1 w hw
  have c2 := (back_ends hl hn t w.at_[1] hm).1 u h2
  have hul : (u.at_.length : Int) = w.at_.length - 1 := by rw [h5, List.length_drop]; omega
  have tx : Tight (backN l 31 (Ct.first t)) now x := by
    refine ⟨e1, ?_, ?_⟩
    · rw [e2, c1, c2]; simp only [Way.ct]; omega
    · rw [e2, c1, c2]; simp only [Way.ct]; omega
  have hu : w.at_ = now :: u.at_ := by
    rw [h5, hr]; rfl
  obtain ⟨n1, n2, n3⟩ := nextTo_le (backN l 31 (Ct.first t)) now l 31
  have n4 := n2 x hx tx
  have hkey : nextTo (backN l 31 (Ct.first t)) now l 31 = w.at_[1] := by
    rcases n3 with n3 | ⟨y, hy, ty, n3⟩
    · omega
    · have hyo := hl y hy
      unfold EdgOk at hyo
      obtain ⟨f1, f2, f3⟩ := ty
      -- a best way from y's end
      have hy30 : 1 ≤ y.t ∧ y.t ≤ 30 := by omega
      rcases best_or_not hl hy30 t with ⟨q, hq, _⟩ | hno
      · have c3 := (back_ends hl hn t y.t hy30).1 q hq
        rw [c3, c1] at f2 f3
        simp only [Way.ct] at f2 f3
        have g1 := cons_walk hy hq.1
        rw [f1] at g1
        have g2 := hw.2 _ g1
        rw [Bool.eq_false_iff, ne_eq, better_iff hw.1.ne] at g2
        simp only [List.length_cons] at g2
        have g3 : ¬ lexLt (now :: q.at_) w.at_ = true := fun e => g2 (Or.inr ⟨by omega, Or.inr ⟨by omega, e⟩⟩)
        rw [hu] at g3
        obtain ⟨qr, hqr⟩ := hq.1.head
        obtain ⟨ur, hur⟩ := h2.1.head
        rw [hqr, hur] at g3
        unfold lexLt at g3
        simp only [Int.lt_irrefl, if_false] at g3
        unfold lexLt at g3
        by_cases hlt : y.t < w.at_[1]
        · rw [if_pos hlt] at g3; exact absurd rfl g3
        · omega
      · exfalso
        have c3 := (back_ends hl hn t y.t hy30).2 hno
        rw [c3, c1] at f2
        simp only [Way.ct] at f2
        have : w.cost ≤ 30000 := by
          obtain ⟨g1, g2⟩ := ends_still hl hv (total (St.first now) 30 + 1) (St.first now) (first_good l now) (by omega)
          have g3 := still_ends g1 g2 t
          by_cases e : ((ends l (total (St.first now) 30 + 1) (St.first now)) t).at_ = []
          · exact absurd hw.1 (g3.2 e w)
          · rw [hw.unique (g3.1 e)]; exact (g1.cost hl hv t e).2
        unfold far at f2
        omega
  rw [hkey]
  exact ⟨u, hm.1, hm.2, h2, hu⟩
end Go.Proofs.Ytefkfglkpebbmaa
