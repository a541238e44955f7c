/- Plain words on ways by edges. No program here. -/
namespace Go.Proofs.Ytefkfglkpebbmaa
set_option linter.unusedVariables false

structure Edg where
  f : Int
  t : Int
  c : Int
deriving DecidableEq
def EdgOk (x : Edg) : Prop := 1 ≤ x.f ∧ x.f ≤ 30 ∧ 1 ≤ x.t ∧ x.t ≤ 30 ∧ 1 ≤ x.c ∧ x.c ≤ 1000
instance (x : Edg) : Decidable (EdgOk x) := by unfold EdgOk; infer_instance
def routeCheck (l : List Edg) : Int := if 60 < l.length then 1 else if ∀ x ∈ l, EdgOk x then 0 else 2

structure Way where
  cost : Int
  at_ : List Int
deriving DecidableEq
def Way.none : Way := ⟨0, []⟩

/-- One list of versions is ahead of another one. -/
def lexLt : List Int → List Int → Bool
  | [], [] => false
  | [], _ :: _ => true
  | _ :: _, [] => false
  | x :: a, y :: b => if x < y then true else if y < x then false else lexLt a b

/-- A way is better than another one. -/
def better (a b : Way) : Bool :=
  if b.at_ = [] ∨ a.cost ≠ b.cost then decide (b.at_ = [] ∨ a.cost < b.cost)
  else if a.at_.length ≠ b.at_.length then decide (a.at_.length < b.at_.length)
  else lexLt a.at_ b.at_

theorem lexLt_irrefl : ∀ (a : List Int), lexLt a a = false
  | [] => rfl
  | x :: a => by simp [lexLt, lexLt_irrefl a]
theorem lexLt_trans : ∀ (a b c : List Int), lexLt a b = true → lexLt b c = true → lexLt a c = true
  | [], [], _, h, _ => by simp [lexLt] at h
  | [], _ :: _, [], _, h => by simp [lexLt] at h
  | [], _ :: _, _ :: _, _, _ => by simp [lexLt]
  | _ :: _, [], _, h, _ => by simp [lexLt] at h
  | _ :: _, _ :: _, [], _, h => by simp [lexLt] at h
  | x :: a, y :: b, z :: c, h, g => by
    unfold lexLt at h g ⊢
    by_cases h1 : x < y
    · rw [if_pos h1] at h
      by_cases g1 : y < z
      · rw [if_pos (by omega)]
      · rw [if_neg g1] at g
        by_cases g2 : z < y
        · rw [if_pos g2] at g; cases g
        · rw [if_pos (by omega)]
    · rw [if_neg h1] at h
      by_cases h2 : y < x
      · rw [if_pos h2] at h; cases h
      · rw [if_neg h2] at h
        obtain rfl : x = y := by omega
        by_cases g1 : x < z
        · rw [if_pos g1]
        · rw [if_neg g1] at g ⊢
          by_cases g2 : z < x
          · rw [if_pos g2] at g; cases g
          · rw [if_neg g2] at g ⊢
            exact lexLt_trans a b c h g
theorem lexLt_total : ∀ (a b : List Int), a ≠ b → lexLt a b = true ∨ lexLt b a = true
  | [], [], h => absurd rfl h
  | [], _ :: _, _ => Or.inl rfl
  | _ :: _, [], _ => Or.inr rfl
  | x :: a, y :: b, h => by
    unfold lexLt
    by_cases h1 : x < y
    · rw [if_pos h1]; exact Or.inl rfl
    · rw [if_neg h1]
      by_cases h2 : y < x
      · rw [if_pos h2]; exact Or.inr (by rw [if_pos h2])
      · rw [if_neg h2, if_neg h2]
        obtain rfl : x = y := by omega
        have := lexLt_total a b (fun e => h (by rw [e]))
        simpa using this
theorem lexLt_append : ∀ (a b : List Int) (c d : List Int), a.length = b.length → lexLt a b = true → lexLt (a ++ c) (b ++ d) = true
  | [], [], _, _, _, h => by simp [lexLt] at h
  | [], _ :: _, _, _, h, _ => by simp at h
  | _ :: _, [], _, _, h, _ => by simp at h
  | x :: a, y :: b, c, d, hl, h => by
    simp only [List.cons_append]
    unfold lexLt at h ⊢
    by_cases h1 : x < y
    · rw [if_pos h1]
    · rw [if_neg h1] at h ⊢
      by_cases h2 : y < x
      · rw [if_pos h2] at h; cases h
      · rw [if_neg h2] at h ⊢
        exact lexLt_append a b c d (by simpa using hl) h
theorem lexLt_prefix : ∀ (a b c : List Int), lexLt (a ++ b) (a ++ c) = lexLt b c
  | [], _, _ => rfl
  | x :: a, b, c => by simp [lexLt, lexLt_prefix a b c]

theorem better_none (a : Way) {b : Way} (h : b.at_ = []) : better a b = true := by unfold better; simp [h]
/-- Of two that are ways. -/
theorem better_iff {a b : Way} (h : b.at_ ≠ []) : better a b = true ↔ a.cost < b.cost ∨ (a.cost = b.cost ∧ (a.at_.length < b.at_.length ∨ (a.at_.length = b.at_.length ∧ lexLt a.at_ b.at_ = true))) := by
  unfold better
  by_cases hc : a.cost = b.cost
  · rw [if_neg (by simp [h, hc])]
    by_cases hl : a.at_.length = b.at_.length
    · rw [if_neg (by simp [hl])]; simp [hc, hl]
    · rw [if_pos hl]; simp [hc, hl]
  · rw [if_pos (Or.inr hc)]; simp [h, hc]
theorem better_irrefl {a : Way} (h : a.at_ ≠ []) : better a a = false := by
  rw [Bool.eq_false_iff]; intro e
  rw [better_iff h] at e
  simp [lexLt_irrefl] at e
theorem better_trans {a b c : Way} (hb : b.at_ ≠ []) (hc : c.at_ ≠ []) (h : better a b = true) (g : better b c = true) : better a c = true := by
  rw [better_iff hb] at h
  rw [better_iff hc] at g ⊢
  rcases h with h | ⟨h1, h | ⟨h2, h⟩⟩ <;> rcases g with g | ⟨g1, g | ⟨g2, g⟩⟩
  · left; omega
  · left; omega
  · left; omega
  · left; omega
  · right; exact ⟨by omega, Or.inl (by omega)⟩
  · right; exact ⟨by omega, Or.inl (by omega)⟩
  · left; omega
  · right; exact ⟨by omega, Or.inl (by omega)⟩
  · right; exact ⟨by omega, Or.inr ⟨by omega, lexLt_trans _ _ _ h g⟩⟩
theorem better_total {a b : Way} (ha : a.at_ ≠ []) (hb : b.at_ ≠ []) (h : a ≠ b) : better a b = true ∨ better b a = true := by
  rw [better_iff ha, better_iff hb]
  by_cases hc : a.cost = b.cost
  · by_cases hl : a.at_.length = b.at_.length
    · have hne : a.at_ ≠ b.at_ := fun e => h (by cases a; cases b; simp_all)
      rcases lexLt_total _ _ hne with e | e
      · left; right; exact ⟨hc, Or.inr ⟨hl, e⟩⟩
      · right; right; exact ⟨hc.symm, Or.inr ⟨hl.symm, e⟩⟩
    · rcases Nat.lt_or_gt_of_ne hl with e | e
      · left; right; exact ⟨hc, Or.inl e⟩
      · right; right; exact ⟨hc.symm, Or.inl e⟩
  · rcases Int.lt_or_gt_of_ne hc with e | e
    · left; left; exact e
    · right; left; exact e

/-- A way on by an edge. -/
def Way.on (w : Way) (x : Edg) : Way := ⟨w.cost + x.c, w.at_ ++ [x.t]⟩
/-- The ways that edges make, from a version on. -/
inductive Walk (l : List Edg) (s : Int) : Int → Way → Prop
  | nil : Walk l s s ⟨0, [s]⟩
  | snoc {w : Way} {x : Edg} : Walk l s x.f w → x ∈ l → Walk l s x.t (w.on x)
theorem Walk.ne {l : List Edg} {s v : Int} {w : Way} (h : Walk l s v w) : w.at_ ≠ [] := by cases h <;> simp [Way.on]
/-- The best way. -/
def Best (l : List Edg) (s v : Int) (w : Way) : Prop := Walk l s v w ∧ ∀ u, Walk l s v u → better u w = false
theorem Best.unique {l : List Edg} {s v : Int} {w u : Way} (h : Best l s v w) (g : Best l s v u) : w = u := by
  by_cases e : w = u
  · exact e
  · rcases better_total h.1.ne g.1.ne e with e | e
    · rw [g.2 w h.1] at e; cases e
    · rw [h.2 u g.1] at e; cases e
theorem on_better {a b : Way} {x : Edg} (hb : b.at_ ≠ []) (h : better a b = true) : better (a.on x) (b.on x) = true := by
  rw [better_iff hb] at h
  rw [better_iff (by simp [Way.on])]
  simp only [Way.on, List.length_append, List.length_cons, List.length_nil]
  rcases h with h | ⟨h1, h | ⟨h2, h⟩⟩
  · left; omega
  · right; exact ⟨by omega, Or.inl (by omega)⟩
  · right; exact ⟨by omega, Or.inr ⟨by omega, lexLt_append _ _ _ _ h2 h⟩⟩

/-! ### The text's rounds -/
abbrev St := Int → Way
def St.set (s : St) (v : Int) (w : Way) : St := fun u => if u = v then w else s u
/-- One edge of one round. -/
def relax (x : Edg) (s : St) (m : Bool) : St × Bool :=
  if (s x.f).at_ = [] then (s, m) else if better ((s x.f).on x) (s x.t) = true then (s.set x.t ((s x.f).on x), true) else (s, m)
/-- The first k edges of a round. -/
def rounds : List Edg → St → Bool → St × Bool
  | [], s, m => (s, m)
  | x :: l, s, m => rounds l (relax x s m).1 (relax x s m).2
theorem rounds_append (l k : List Edg) (s : St) (m : Bool) : rounds (l ++ k) s m = rounds k (rounds l s m).1 (rounds l s m).2 := by
  induction l generalizing s m with
  | nil => rfl
  | cons x l ih => simp only [List.cons_append, rounds]; rw [ih]

/-- What the text knows of what it has. -/
structure Inv (l : List Edg) (s : Int) (b : St) : Prop where
  walk : ∀ v, (b v).at_ ≠ [] → Walk l s v (b v)
  start : (b s).at_ ≠ []
/-- A way of which each part is no dearer than what is known. -/
inductive Dom (l : List Edg) (s : Int) (b : St) : Int → Way → Prop
  | nil : (b s).at_ ≠ [] → (b s).cost ≤ 0 → Dom l s b s ⟨0, [s]⟩
  | snoc {w : Way} {x : Edg} : Dom l s b x.f w → x ∈ l → (b x.t).at_ ≠ [] → (b x.t).cost ≤ (w.on x).cost → x.t ∉ w.at_ → Dom l s b x.t (w.on x)
theorem Dom.mem {l : List Edg} (hl : ∀ x ∈ l, EdgOk x) {s v : Int} {b : St} {w : Way} (h : Dom l s b v w) : ∀ u ∈ w.at_, (b u).at_ ≠ [] ∧ (b u).cost ≤ w.cost := by
  induction h with
  | nil h1 h2 => intro u hu; simp at hu; subst hu; exact ⟨h1, h2⟩
  | @snoc w x h hx h1 h2 _ ih =>
    intro u hu
    simp only [Way.on, List.mem_append, List.mem_singleton] at hu
    have hc := hl x hx
    unfold EdgOk at hc
    rcases hu with hu | rfl
    · have := ih u hu
      refine ⟨this.1, ?_⟩
      show _ ≤ w.cost + x.c
      omega
    · exact ⟨h1, h2⟩
theorem Dom.mono {l : List Edg} {s v : Int} {b b' : St} {w : Way} (h : Dom l s b v w) (hb : ∀ u, (b u).at_ ≠ [] → (b' u).at_ ≠ [] ∧ (b' u).cost ≤ (b u).cost) : Dom l s b' v w := by
  induction h with
  | nil h1 h2 => have := hb _ h1; exact .nil this.1 (by omega)
  | snoc h hx h1 h2 h3 ih => have := hb _ h1; exact .snoc ih hx this.1 (by omega) h3
theorem Dom.ne {l : List Edg} {s v : Int} {b : St} {w : Way} (h : Dom l s b v w) : w.at_ ≠ [] := by cases h <;> simp [Way.on]
theorem Dom.walk {l : List Edg} {s v : Int} {b : St} {w : Way} (h : Dom l s b v w) : Walk l s v w := by
  induction h with
  | nil _ _ => exact .nil
  | snoc _ hx _ _ _ ih => exact .snoc ih hx
theorem Dom.nodup {l : List Edg} {s v : Int} {b : St} {w : Way} (h : Dom l s b v w) : w.at_.Nodup := by
  induction h with
  | nil _ _ => simp
  | snoc _ _ _ _ h3 ih =>
    simp only [Way.on]
    rw [List.nodup_append]
    refine ⟨ih, by simp, fun a ha c hc => ?_⟩
    simp at hc; subst hc
    rintro rfl; exact h3 ha
theorem Dom.range {l : List Edg} (hl : ∀ x ∈ l, EdgOk x) {s v : Int} (hs : 1 ≤ s ∧ s ≤ 30) {b : St} {w : Way} (h : Dom l s b v w) : ∀ u ∈ w.at_, 1 ≤ u ∧ u ≤ 30 := by
  induction h with
  | nil _ _ => intro u hu; simp at hu; subst hu; exact hs
  | @snoc w x h hx h1 h2 _ ih =>
    intro u hu
    simp only [Way.on, List.mem_append, List.mem_singleton] at hu
    have hc := hl x hx
    unfold EdgOk at hc
    rcases hu with hu | rfl
    · exact ih u hu
    · omega
theorem Dom.cost {l : List Edg} (hl : ∀ x ∈ l, EdgOk x) {s v : Int} {b : St} {w : Way} (h : Dom l s b v w) : 0 ≤ w.cost ∧ w.cost ≤ 1000 * w.at_.length := by
  induction h with
  | nil _ _ => simp
  | @snoc w x h hx h1 h2 _ ih =>
    have hc := hl x hx
    unfold EdgOk at hc
    simp only [Way.on, List.length_append, List.length_cons, List.length_nil]
    omega
theorem nodup_len : ∀ (n : Nat) (l : List Int), l.Nodup → (∀ u ∈ l, 1 ≤ u ∧ u ≤ (n : Int)) → l.length ≤ n
  | 0, [], _, _ => Nat.le_refl _
  | 0, x :: l, _, h => by have := h x (by simp); omega
  | n + 1, l, hn, h => by
    by_cases hm : ((n + 1 : Nat) : Int) ∈ l
    · have h1 := nodup_len n (l.erase ((n + 1 : Nat) : Int)) (hn.erase _) (fun u hu => by
        have h2 := (hn.mem_erase_iff.1 hu)
        have := h u h2.2
        have := h2.1
        omega)
      rw [List.length_erase_of_mem hm] at h1
      omega
    · have h1 := nodup_len n l hn (fun u hu => by
        have := h u hu
        have : u ≠ ((n + 1 : Nat) : Int) := fun e => hm (e ▸ hu)
        omega)
      omega
structure Good (l : List Edg) (s : Int) (b : St) : Prop where
  dom : ∀ v, (b v).at_ ≠ [] → Dom l s b v (b v)
  zero : b s = ⟨0, [s]⟩
theorem Good.start {l : List Edg} {s : Int} {b : St} (h : Good l s b) : (b s).at_ ≠ [] := by rw [h.zero]; simp
theorem Good.len {l : List Edg} (hl : ∀ x ∈ l, EdgOk x) {s : Int} (hs : 1 ≤ s ∧ s ≤ 30) {b : St} (h : Good l s b) (v : Int) : (b v).at_.length ≤ 30 := by
  by_cases e : (b v).at_ = []
  · simp [e]
  · exact nodup_len 30 _ (h.dom v e).nodup ((h.dom v e).range hl hs)
theorem Good.cost {l : List Edg} (hl : ∀ x ∈ l, EdgOk x) {s : Int} (hs : 1 ≤ s ∧ s ≤ 30) {b : St} (h : Good l s b) (v : Int) (e : (b v).at_ ≠ []) : 0 ≤ (b v).cost ∧ (b v).cost ≤ 30000 := by
  have h1 := (h.dom v e).cost hl
  have h2 := h.len hl hs v
  omega
def St.first (s : Int) : St := fun u => if u = s then ⟨0, [s]⟩ else Way.none
theorem first_good (l : List Edg) (s : Int) : Good l s (St.first s) := by
  refine ⟨fun v h => ?_, by simp [St.first]⟩
  unfold St.first at h ⊢
  by_cases e : v = s
  · subst e; simp only [if_pos]; exact .nil (by simp) (by simp)
  · rw [if_neg e] at h; simp [Way.none] at h
theorem relax_good {l : List Edg} (hl : ∀ x ∈ l, EdgOk x) {s : Int} {b : St} (h : Good l s b) {x : Edg} (hx : x ∈ l) (m : Bool) : Good l s (relax x b m).1 := by
  unfold relax
  by_cases h0 : (b x.f).at_ = []
  · rw [if_pos h0]; exact h
  rw [if_neg h0]
  by_cases h1 : better ((b x.f).on x) (b x.t) = true
  rotate_left 1
  · rw [if_neg h1]; exact h
  rw [if_pos h1]
  have hd := h.dom x.f h0
  have hc := hl x hx
  unfold EdgOk at hc
  have hcc := hd.cost hl
  have hout : x.t ∉ (b x.f).at_ := by
    intro hm
    have h2 := hd.mem hl _ hm
    rw [better_iff h2.1] at h1
    simp only [Way.on] at h1
    omega
  have hmono : ∀ u, (b u).at_ ≠ [] → ((b.set x.t ((b x.f).on x)) u).at_ ≠ [] ∧ ((b.set x.t ((b x.f).on x)) u).cost ≤ (b u).cost := by
    intro u hu
    unfold St.set
    by_cases e : u = x.t
    · subst e
      rw [if_pos rfl]
      refine ⟨by simp [Way.on], ?_⟩
      rw [better_iff hu] at h1
      omega
    · rw [if_neg e]; exact ⟨hu, Int.le_refl _⟩
  have hd' := hd.mono hmono
  have hs0 : s ≠ x.t := by
    rintro rfl
    rw [better_iff h.start, h.zero] at h1
    simp only [Way.on] at h1
    omega
  show Good l s (b.set x.t ((b x.f).on x))
  refine ⟨fun v hv => ?_, by unfold St.set; rw [if_neg hs0, h.zero]⟩
  by_cases e : v = x.t
  · subst e
    have : (b.set x.t ((b x.f).on x)) x.t = (b x.f).on x := by unfold St.set; rw [if_pos rfl]
    rw [this]
    exact .snoc hd' hx (by rw [this]; simp [Way.on]) (by rw [this]; exact Int.le_refl _) hout
  · have : (b.set x.t ((b x.f).on x)) v = b v := by unfold St.set; rw [if_neg e]
    rw [this] at hv ⊢
    exact (h.dom v hv).mono hmono
theorem rounds_good {l : List Edg} (hl : ∀ x ∈ l, EdgOk x) {s : Int} : ∀ (k : List Edg) (b : St) (m : Bool), (∀ x ∈ k, x ∈ l) → Good l s b → Good l s (rounds k b m).1
  | [], b, m, _, h => h
  | x :: k, b, m, hk, h => rounds_good hl k _ _ (fun y hy => hk y (by simp [hy])) (relax_good hl h (hk x (by simp)) m)

/-! ### It comes to an end -/
def val : List Int → Nat → Nat
  | [], n => n
  | x :: l, n => val l (n * 31 + x.toNat)
theorem val_bd : ∀ (a : List Int) (n : Nat), (∀ u ∈ a, 1 ≤ u ∧ u ≤ 30) → val a n < (n + 1) * 31 ^ a.length
  | [], n, _ => by simp [val]
  | x :: a, n, h => by
    have hx := h x (by simp)
    have := val_bd a (n * 31 + x.toNat) (fun u hu => h u (by simp [hu]))
    unfold val
    simp only [List.length_cons]
    have h1 : n * 31 + x.toNat + 1 ≤ (n + 1) * 31 := by omega
    have h2 := Nat.mul_le_mul_right (31 ^ a.length) h1
    rw [Nat.pow_succ, Nat.mul_comm (31 ^ a.length) 31, ← Nat.mul_assoc]
    omega
theorem val_mono : ∀ (a b : List Int) (n m : Nat), a.length = b.length → (∀ u ∈ a, 1 ≤ u ∧ u ≤ 30) → (∀ u ∈ b, 1 ≤ u ∧ u ≤ 30) → n < m → val a n < val b m
  | [], [], n, m, _, _, _, h => h
  | [], _ :: _, _, _, h, _, _, _ => by simp at h
  | _ :: _, [], _, _, h, _, _, _ => by simp at h
  | x :: a, y :: b, n, m, hl, ha, hb, h => by
    have hx := ha x (by simp)
    unfold val
    exact val_mono a b _ _ (by simpa using hl) (fun u hu => ha u (by simp [hu])) (fun u hu => hb u (by simp [hu])) (by omega)
theorem val_lex : ∀ (a b : List Int) (n : Nat), a.length = b.length → (∀ u ∈ a, 1 ≤ u ∧ u ≤ 30) → (∀ u ∈ b, 1 ≤ u ∧ u ≤ 30) → lexLt a b = true → val a n < val b n
  | [], [], _, _, _, _, h => by simp [lexLt] at h
  | [], _ :: _, _, h, _, _, _ => by simp at h
  | _ :: _, [], _, h, _, _, _ => by simp at h
  | x :: a, y :: b, n, hl, ha, hb, h => by
    have hx := ha x (by simp)
    have hy := hb y (by simp)
    have ha' : ∀ u ∈ a, 1 ≤ u ∧ u ≤ 30 := fun u hu => ha u (by simp [hu])
    have hb' : ∀ u ∈ b, 1 ≤ u ∧ u ≤ 30 := fun u hu => hb u (by simp [hu])
    unfold lexLt at h
    unfold val
    by_cases h1 : x < y
    · exact val_mono a b _ _ (by simpa using hl) ha' hb' (by omega)
    · rw [if_neg h1] at h
      by_cases h2 : y < x
      · rw [if_pos h2] at h; cases h
      · rw [if_neg h2] at h
        obtain rfl : x = y := by omega
        exact val_lex a b _ (by simpa using hl) ha' hb' h
/-- A way's rank: a better one has a lesser one. -/
def rank (w : Way) : Nat := if w.at_ = [] then 30001 * (31 * 31 ^ 31) else w.cost.toNat * (31 * 31 ^ 31) + w.at_.length * 31 ^ 31 + val w.at_ 0
structure Fine (w : Way) : Prop where
  c0 : 0 ≤ w.cost
  c1 : w.cost ≤ 30000
  len : w.at_.length ≤ 30
  at_ : ∀ u ∈ w.at_, 1 ≤ u ∧ u ≤ 30
theorem Fine.val {w : Way} (h : Fine w) : val w.at_ 0 < 31 ^ 31 := by
  have h1 := val_bd w.at_ 0 h.at_
  have h2 : 31 ^ w.at_.length ≤ 31 ^ 31 := Nat.pow_le_pow_right (by omega) (by have := h.len; omega)
  omega
theorem rank_lt {a b : Way} (ha : Fine a) (hb : b.at_ ≠ [] → Fine b) (h0 : a.at_ ≠ []) (h : better a b = true) : rank a < rank b := by
  have va := ha.val
  have la := ha.len
  have ca := ha.c0
  have cb := ha.c1
  unfold rank
  rw [if_neg h0]
  generalize hK : 31 ^ 31 = K at *
  by_cases hn : b.at_ = []
  · rw [if_pos hn]
    have h1 : a.at_.length * K ≤ 30 * K := Nat.mul_le_mul_right _ la
    have h2 : a.cost.toNat * (31 * K) ≤ 30000 * (31 * K) := Nat.mul_le_mul_right _ (by omega)
    omega
  rw [if_neg hn]
  have fb := hb hn
  have lb := fb.len
  have d0 := fb.c0
  rw [better_iff hn] at h
  rcases h with h | ⟨h1, h | ⟨h2, h⟩⟩
  · have h1 : a.at_.length * K ≤ 30 * K := Nat.mul_le_mul_right _ la
    have h2 : (a.cost.toNat + 1) * (31 * K) ≤ b.cost.toNat * (31 * K) := Nat.mul_le_mul_right _ (by omega)
    rw [Nat.add_mul] at h2
    omega
  · rw [h1]
    have h2 : (a.at_.length + 1) * K ≤ b.at_.length * K := Nat.mul_le_mul_right _ (by omega)
    rw [Nat.add_mul] at h2
    omega
  · rw [h1, h2]
    have := val_lex _ _ 0 h2 ha.at_ fb.at_ h
    omega
theorem Good.fine {l : List Edg} (hl : ∀ x ∈ l, EdgOk x) {s : Int} (hs : 1 ≤ s ∧ s ≤ 30) {b : St} (h : Good l s b) (v : Int) (e : (b v).at_ ≠ []) : Fine (b v) := by
  have := h.cost hl hs v e
  exact ⟨this.1, this.2, h.len hl hs v, (h.dom v e).range hl hs⟩
/-- The sum of the ranks of versions 1 to n. -/
def total (b : St) : Nat → Nat
  | 0 => 0
  | n + 1 => total b n + rank (b ((n + 1 : Nat) : Int))
theorem total_set (b : St) (v : Int) (w : Way) (n : Nat) (h : rank w < rank (b v)) : total (b.set v w) n ≤ total b n ∧ (1 ≤ v ∧ v ≤ (n : Int) → total (b.set v w) n < total b n) := by
  induction n with
  | zero => simp [total]; omega
  | succ n ih =>
    unfold total
    by_cases e : ((n + 1 : Nat) : Int) = v
    · have : (b.set v w) ((n + 1 : Nat) : Int) = w := by unfold St.set; rw [if_pos e]
      rw [this, e]
      exact ⟨by omega, fun _ => by omega⟩
    · have : (b.set v w) ((n + 1 : Nat) : Int) = b ((n + 1 : Nat) : Int) := by unfold St.set; rw [if_neg e]
      rw [this]
      exact ⟨by omega, fun hv => by have := ih.2 ⟨hv.1, by omega⟩; omega⟩
theorem relax_total {l : List Edg} (hl : ∀ x ∈ l, EdgOk x) {s : Int} (hs : 1 ≤ s ∧ s ≤ 30) {b : St} (h : Good l s b) {x : Edg} (hx : x ∈ l) (m : Bool) :
    total (relax x b m).1 30 ≤ total b 30 ∧ ((relax x b m).2 = true → m = true ∨ total (relax x b m).1 30 < total b 30) := by
  have hg := relax_good hl h hx m
  unfold relax at *
  by_cases h0 : (b x.f).at_ = []
  · rw [if_pos h0]; exact ⟨Nat.le_refl _, fun e => Or.inl e⟩
  rw [if_neg h0] at hg ⊢
  by_cases h1 : better ((b x.f).on x) (b x.t) = true
  rotate_left 1
  · rw [if_neg h1]; exact ⟨Nat.le_refl _, fun e => Or.inl e⟩
  rw [if_pos h1] at hg ⊢
  have hn : ((b.set x.t ((b x.f).on x)) x.t) = (b x.f).on x := by unfold St.set; rw [if_pos rfl]
  have hg : Good l s (b.set x.t ((b x.f).on x)) := hg
  have hf := hg.fine hl hs x.t (by rw [hn]; simp [Way.on])
  rw [hn] at hf
  have hr := rank_lt hf (fun e => h.fine hl hs x.t e) (by simp [Way.on]) h1
  have := total_set b x.t _ 30 hr
  have hc := hl x hx
  unfold EdgOk at hc
  exact ⟨this.1, fun _ => Or.inr (this.2 (by omega))⟩
theorem rounds_total {l : List Edg} (hl : ∀ x ∈ l, EdgOk x) {s : Int} (hs : 1 ≤ s ∧ s ≤ 30) : ∀ (k : List Edg) (b : St) (m : Bool), (∀ x ∈ k, x ∈ l) → Good l s b →
    total (rounds k b m).1 30 ≤ total b 30 ∧ ((rounds k b m).2 = true → m = true ∨ total (rounds k b m).1 30 < total b 30)
  | [], b, m, _, _ => ⟨Nat.le_refl _, fun h => Or.inl h⟩
  | x :: k, b, m, hk, h => by
    have h1 := relax_total hl hs h (hk x (by simp)) m
    have h2 := rounds_total hl hs k _ (relax x b m).2 (fun y hy => hk y (by simp [hy])) (relax_good hl h (hk x (by simp)) m)
    refine ⟨Nat.le_trans h2.1 h1.1, fun e => ?_⟩
    unfold rounds at e ⊢
    rcases h2.2 e with e | e
    · rcases h1.2 e with e | e
      · exact Or.inl e
      · exact Or.inr (by omega)
    · exact Or.inr (by omega)
/-! ### Where a round finds nothing -/
theorem relax_still {x : Edg} {b : St} {m : Bool} (h : (relax x b m).2 = false) : (relax x b m).1 = b ∧ m = false ∧ ((b x.f).at_ ≠ [] → better ((b x.f).on x) (b x.t) = false) := by
  unfold relax at *
  by_cases h0 : (b x.f).at_ = []
  · rw [if_pos h0] at h ⊢; exact ⟨rfl, h, fun e => absurd h0 e⟩
  rw [if_neg h0] at h ⊢
  by_cases h1 : better ((b x.f).on x) (b x.t) = true
  · rw [if_pos h1] at h; cases h
  · rw [if_neg h1] at h ⊢; exact ⟨rfl, h, fun _ => by simpa using h1⟩
theorem rounds_still : ∀ (k : List Edg) (b : St) (m : Bool), (rounds k b m).2 = false → (rounds k b m).1 = b ∧ m = false ∧ ∀ x ∈ k, (b x.f).at_ ≠ [] → better ((b x.f).on x) (b x.t) = false
  | [], b, m, h => ⟨rfl, h, fun _ h => by cases h⟩
  | x :: k, b, m, h => by
    unfold rounds at h ⊢
    obtain ⟨h1, h2, h3⟩ := rounds_still k _ _ h
    obtain ⟨g1, g2, g3⟩ := relax_still h2
    rw [g1] at h3
    refine ⟨h1.trans g1, g2, fun y hy => ?_⟩
    rcases List.mem_cons.1 hy with rfl | hy
    · exact g3
    · exact h3 y hy
/-- What the text has in the end: the best ways. -/
def Still (l : List Edg) (b : St) : Prop := ∀ x ∈ l, (b x.f).at_ ≠ [] → better ((b x.f).on x) (b x.t) = false
theorem still_best {l : List Edg} {s : Int} {b : St} (hg : Good l s b) (h : Still l b) {v : Int} {w : Way} (hw : Walk l s v w) : (b v).at_ ≠ [] ∧ better w (b v) = false := by
  induction hw with
  | nil =>
    refine ⟨hg.start, ?_⟩
    rw [hg.zero]
    exact better_irrefl (by simp)
  | @snoc w x hw hx ih =>
    obtain ⟨h1, h2⟩ := ih
    have h3 := h x hx h1
    have ht : (b x.t).at_ ≠ [] := by
      intro e; rw [better_none _ e] at h3; cases h3
    refine ⟨ht, ?_⟩
    rw [Bool.eq_false_iff]; intro e
    by_cases hq : w = b x.f
    · subst hq; rw [e] at h3; cases h3
    · rcases better_total hw.ne h1 hq with h4 | h4
      · rw [h4] at h2; cases h2
      · have h5 := on_better (x := x) hw.ne h4
        have := better_trans (by simp [Way.on]) ht h5 e
        rw [this] at h3; cases h3
theorem still_ends {l : List Edg} {s : Int} {b : St} (hg : Good l s b) (h : Still l b) (v : Int) : ((b v).at_ ≠ [] → Best l s v (b v)) ∧ ((b v).at_ = [] → ∀ w, ¬ Walk l s v w) :=
  ⟨fun e => ⟨(hg.dom v e).walk, fun u hu => (still_best hg h hu).2⟩, fun e w hw => (still_best hg h hw).1 e⟩
end Go.Proofs.Ytefkfglkpebbmaa
