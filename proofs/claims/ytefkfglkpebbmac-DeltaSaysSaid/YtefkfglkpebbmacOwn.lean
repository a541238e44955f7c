/- Rows of a call's own: append onto them, whatever the source; plain words on them. No conditions. -/
import Derived.Test.YtefkfglkpebbmacBase
import Derived.Maps.AppendAt
import Derived.Deep.AppendLies
import Derived.Deep.OwnRows
import Derived.Deep.Onto
namespace Go.Proofs.Ytefkfglkpebbmac
open Go.RowKit
set_option linter.unusedVariables false

/-- The cells from A on. -/
def Src (w : World) (A : Option Addr) (cs : List Value) : Prop :=
  ∀ i, (h : i < cs.length) → ∃ b o, A = some ⟨b, o, none⟩ ∧ b < w.heap.size ∧ w.cell? ⟨b, o + i, none⟩ = some cs[i]
theorem Src.nil (w : World) (A : Option Addr) : Src w A [] := fun i hi => absurd hi (by simp)
theorem Src.stays {w w' : World} {A : Option Addr} {l : List Value} (h : Src w A l) (hb : Below w.heap.size w w') : Src w' A l := by
  intro i hi
  obtain ⟨b, o, rfl, hlt, hc⟩ := h i hi
  exact ⟨b, o, rfl, Nat.lt_of_lt_of_le hlt hb.size, (hb.cell (p := ⟨b, o + i, none⟩) hlt).trans hc⟩
theorem Bts.src {w : World} {A : Option Addr} {l : List UInt8} (h : Bts w A l) : Src w A (l.map bv) := by
  intro i hi
  obtain ⟨b, o, hA, hs, hc⟩ := h i (by simpa using hi)
  exact ⟨b, o, hA, hs, by simpa using hc⟩
theorem Src.bts {w : World} {A : Option Addr} {l : List UInt8} (h : Src w A (l.map bv)) : Bts w A l := by
  intro i hi
  obtain ⟨b, o, hA, hs, hc⟩ := h i (by simpa using hi)
  exact ⟨b, o, hA, hs, by simpa using hc⟩
theorem Nts.src {w : World} {A : Option Addr} {l : List Int} (h : Nts w A l) : Src w A (l.map iv) := by
  intro i hi
  obtain ⟨b, o, hA, hs, hc⟩ := h i (by simpa using hi)
  exact ⟨b, o, hA, hs, by simpa using hc⟩
theorem Src.nts {w : World} {A : Option Addr} {l : List Int} (h : Src w A (l.map iv)) : Nts w A l := by
  intro i hi
  obtain ⟨b, o, hA, hs, hc⟩ := h i (by simpa using hi)
  exact ⟨b, o, hA, hs, by simpa using hc⟩

/-- The slice '.slice A n c' owns its cells xs: they lie in a block of the call's own, from block base on. -/
def Own (w : World) (base : Nat) (e : TypeId) (size : Nat) (A : Option Addr) (n c : Nat) (xs : List Value) : Prop := w.ownsRow base e size (.slice A n c) n xs

section
variable {w w' : World} {base : Nat} {e : TypeId} {size : Nat} {A : Option Addr} {n c : Nat} {xs : List Value}
theorem Own.nil_ (w : World) (base : Nat) (e : TypeId) (size : Nat) : Own w base e size none 0 0 [] := ⟨by simp, Or.inl ⟨rfl, rfl⟩⟩
theorem Own.len (h : Own w base e size A n c xs) : xs.length = n * size := h.1
theorem Own.src (h : Own w base e size A n c xs) : Src w A xs := by
  obtain ⟨hl, ⟨hv, h0⟩ | ⟨g, cap, cur, hv, hb, hh, _, _, hsz, ht⟩⟩ := h
  · subst h0
    have : xs = [] := List.eq_nil_of_length_eq_zero (by simpa using hl)
    subst this
    exact Src.nil _ _
  · intro i hi
    injection hv with hA _ _
    refine ⟨g, 0, hA, blk_lt hh, ?_⟩
    rw [Nat.zero_add, cell_of_row _ _ _ _ _ _ hh]
    subst ht
    simp only [List.length_take] at hi
    simp only [List.getElem_take, Array.getElem_toList]
    exact Array.getElem?_eq_getElem (by simp at hi; omega)
theorem Own.le (h : Own w base e size A n c xs) : n ≤ c := by
  obtain ⟨hl, ⟨hv, h0⟩ | ⟨g, cap, cur, hv, hb, hh, hn, _, hsz, ht⟩⟩ := h
  · omega
  · injection hv; omega
theorem Own.block (h : Own w base e size A n c xs) : ∀ k, A.map (·.block) = some k → base ≤ k ∧ k < w.heap.size := by
  intro k hk
  refine World.ownsRow.lt h k ?_
  cases A <;> simp_all [Value.ownBlock]
theorem own_block (A : Option Addr) (n c : Nat) : (Value.slice A n c).ownBlock = A.map (·.block) := by cases A <;> rfl
theorem Own.kept {row : Option Nat} (h : Own w base e size A n c xs) (hg : w.grownBy w' row) (hne : A.map (·.block) = none ∨ A.map (·.block) ≠ row) : Own w' base e size A n c xs :=
  World.ownsRow.kept h hg (by rw [own_block]; exact hne)
theorem Own.alloc (h : Own w base e size A n c xs) (o : Obj) : Own (w.alloc o) base e size A n c xs := World.ownsRow.alloc h o
theorem Own.drewN (h : Own w base e size A n c xs) (k : Nat) : Own (w.drewN k) base e size A n c xs := h
theorem Own.drew (h : Own w base e size A n c xs) : Own w.drew base e size A n c xs := h
theorem Own.mono {base' : Nat} (h : Own w base e size A n c xs) (hb : base' ≤ base) : Own w base' e size A n c xs := World.ownsRow.mono h hb
theorem Own.below {B : Nat} (h : Own w base e size A n c xs) (hb : Below w.heap.size w w') : Own w' base e size A n c xs := by
  refine Own.kept (row := none) h ⟨hb.os, hb.tape, hb.output, hb.size, fun k hk _ => hb.block k hk⟩ ?_
  cases A <;> simp
theorem Own.setCell_other (h : Own w base e size A n c xs) {p : Addr} (hp : A.map (·.block) ≠ some p.block) (u : Value) : Own (w.setCell p u) base e size A n c xs := by
  obtain ⟨h1, h2⟩ := h
  refine ⟨h1, ?_⟩
  rcases h2 with h2 | ⟨g, cap, cur, hv, hg, hh, r⟩
  · exact Or.inl h2
  · refine Or.inr ⟨g, cap, cur, hv, hg, ?_, r⟩
    injection hv with hA _ _
    rw [Below.heap_setCell _ _ _ _ (by rintro rfl; exact hp (by rw [hA]; rfl))]
    exact hh
end

section
variable {w : World} {base : Nat} {e : TypeId} {size g n c : Nat} {A : Option Addr} {xs : List Value}
theorem Own.form (h : Own w base e size A n c xs) (hn : 0 < n) : ∃ g, A = some ⟨g, 0, none⟩ ∧ base ≤ g ∧ g < w.heap.size := by
  rcases h.2 with ⟨_, h0⟩ | ⟨g, cap, cur, hv, hb, hh, _⟩
  · omega
  · injection hv with hA _ _
    exact ⟨g, hA, hb, blk_lt hh⟩
theorem Own.cellAt (h : Own w base e size (some ⟨g, 0, none⟩) n c xs) (j : Nat) (hj : j < n * size) : w.cell? ⟨g, j, none⟩ = xs[j]? := World.ownsRow.cellAt h j hj
theorem Own.frozenAt (h : Own w base e size (some ⟨g, 0, none⟩) n c xs) (j : Nat) : w.frozen? ⟨g, j, none⟩ = false := World.ownsRow.frozenAt h j
theorem Own.stored (h : Own w base e size (some ⟨g, 0, none⟩) n c xs) (j : Nat) (u : Value) : Own (w.setCell ⟨g, j, none⟩ u) base e size (some ⟨g, 0, none⟩) n c (xs.set j u) := (World.ownsRow.stored h j u).1
end

/-- An empty block of the call's own. -/
theorem own_zero (w : World) (e size : Nat) : Own (w.alloc (.cells #[] e)) w.heap.size e size (some ⟨w.heap.size, 0, none⟩) 0 0 [] :=
  ⟨by simp, Or.inr ⟨_, 0, #[], rfl, Nat.le_refl _, blk_top rfl, by omega, by unfold maxLen; omega, by simp, by simp⟩⟩

/-- What an append asks of a slice type: its element's type, cells and bytes. -/
structure El (P : Program) (t e : TypeId) (size : Nat) (L : Nat := 137438953472) : Prop where
  ht : P.underlying t = some (.slice e)
  hi : ∃ i z, P.info? e = some i ∧ i.zero = some z ∧ i.size = size ∧ (i.bytes * L ≤ 140737488355328 ∧ L ≤ 140737488355328) ∧ z.cells.size = size
  pos : 0 < size

section
variable {P : Program} (w : World)
theorem run_app {t ty e : TypeId} {size L : Nat} (E : El P t e size L) {base : Nat} {A : Option Addr} {n c : Nat} {xs : List Value} (hown : Own w base e size A n c xs)
    {B : Option Addr} {m d : Nat} {news : List Value} (hs : Src w B news) (hl : news.length = m * size) (h1 : ∀ u ∈ news, u.oneCell' = true) (hb : n + m ≤ L) (hbase : base ≤ w.heap.size) :
    ∃ A' c' w', (Builtin.append_ #[t, t] ty #[.slice A n c, .slice B m d]).run P w = .ok (.slice A' (n + m) c') w' ∧ Own w' base e size A' (n + m) c' (xs ++ news) ∧
      w.grownBy w' (A.map (·.block)) ∧ Below base w w' ∧ (A'.map (·.block) = A.map (·.block) ∨ A'.map (·.block) = some w.heap.size) := by
  obtain ⟨ht, ⟨i, z, hi, hz, hsize, hby, hzs⟩, hsz⟩ := E
  have fin : ∀ v' w', (Builtin.append_ #[t, t] ty #[.slice A n c, .slice B m d]).run P w = .ok v' w' → w'.ownsRow base e size v' (n + m) (xs ++ news) → w.grownBy w' (A.map (·.block)) →
      (v'.ownBlock = A.map (·.block) ∨ v'.ownBlock = some w.heap.size) →
      ∃ A' c' w', (Builtin.append_ #[t, t] ty #[.slice A n c, .slice B m d]).run P w = .ok (.slice A' (n + m) c') w' ∧ Own w' base e size A' (n + m) c' (xs ++ news) ∧
      w.grownBy w' (A.map (·.block)) ∧ Below base w w' ∧ (A'.map (·.block) = A.map (·.block) ∨ A'.map (·.block) = some w.heap.size) := by
    intro v' w' hr ho hg hbl
    have hbel : Below base w w' := (Below.refl base w).grown hg hbase (fun k hk => (hown.block k hk).1)
    obtain ⟨hl', ⟨hv, h0⟩ | ⟨g, cap, cur, hv, hrest⟩⟩ := ho
    · subst hv
      refine ⟨none, 0, w', by rw [h0]; exact hr, ⟨hl', Or.inl ⟨by rw [h0], h0⟩⟩, hg, hbel, by simpa [Value.ownBlock] using hbl⟩
    · subst hv
      exact ⟨_, _, w', hr, ⟨hl', Or.inr ⟨g, cap, cur, rfl, hrest⟩⟩, hg, hbel, by simpa [Value.ownBlock] using hbl⟩
  by_cases hB : ∃ ad, B = some ad ∧ ∀ j u, news[j]? = some u → w.cell? (ad.add j) = some u
  · obtain ⟨ad, rfl, hc⟩ := hB
    have hbytes : (n + m) * i.bytes ≤ 140737488355328 := by
      exact Nat.le_trans (Nat.mul_le_mul_right _ hb) (by rw [Nat.mul_comm]; exact hby.1)
    obtain ⟨v', w', hrun, h2, h3, _, h5⟩ := run_append_own_at (P := P) w base t ty e i z size i.bytes ht hi hz hsize rfl hzs hsz (.slice A n c) n xs hown ad m d news hl hc h1 (by have := hby.2; simp only [maxLen]; omega) hbytes hbase
    rw [own_block] at h3 h5
    exact fin v' w' hrun h2 h3 h5
  · have hm : news = [] := by
      rcases news with _ | ⟨u, r⟩
      · rfl
      · exfalso
        obtain ⟨b, o, rfl, _, _⟩ := hs 0 (by simp)
        refine hB ⟨_, rfl, fun j u hu => ?_⟩
        obtain ⟨hj, rfl⟩ := List.getElem?_eq_some_iff.1 hu
        obtain ⟨b', o', he, _, hc⟩ := hs j hj
        injection he with he
        injection he with h1 h2
        subst h1 h2
        have : (⟨b, o, none⟩ : Addr).add j = ⟨b, o + j, none⟩ := by unfold Addr.add; split <;> simp_all
        rw [this]; exact hc
    subst hm
    have hm0 : m = 0 := by
      rcases Nat.eq_zero_or_pos m with h | h
      · exact h
      · have := Nat.mul_pos h hsz
        simp at hl; omega
    subst hm0
    have hBn : B = none := by
      rcases B with _ | ad
      · rfl
      · exact absurd ⟨ad, rfl, fun j u hu => by simp at hu⟩ hB
    subst hBn
    have hrun : (Builtin.append_ #[t, t] ty #[.slice A n c, .slice none 0 d]).run P w = .ok (.slice A n c) w := by
      have hle := hown.le
      rcases A with _ | ad
      · rcases hown.2 with ⟨hv, hn⟩ | ⟨g, cap, cur, hv, _⟩
        · injection hv with _ h1 h2
          subst h1 h2
          simp [Builtin.append_, run_underlying ht, sizeOf, typeInfo, hi, Builtin.lenOf, Builtin.firstCells]
        · cases hv
      · simp [Builtin.append_, run_underlying ht, sizeOf, typeInfo, hi, Builtin.lenOf, Builtin.firstCells, hle, storeCells]
    exact fin _ _ hrun (by rw [Nat.add_zero, List.append_nil]; exact hown) (World.grownBy.refl w _) (Or.inl (own_block _ _ _))

theorem wpList_app {ops : Array Oper} {rest : List Oper} {o : Oper} {a : Act} {Q : Exit → Act → World → Prop} (hgd : o.guard = none) (s x : Operand) (t : TypeId)
    (ho : o.op = .call { callee := .builtin .append, args := #[s, x], argTypes := #[t, t] }) {e : TypeId} {size L : Nat} (E : El P t e size L) (base : Nat) (A : Option Addr) (n c : Nat) (xs : List Value) (hs : a.eval s = .slice A n c) (hown : Own w base e size A n c xs)
    (B : Option Addr) (m d : Nat) (news : List Value) (hx : a.eval x = .slice B m d) (hsrc : Src w B news) (hl : news.length = m * size) (h1 : ∀ u ∈ news, u.oneCell' = true) (hb : n + m ≤ L) (hbase : base ≤ w.heap.size)
    (h : ∀ A' c' w', Own w' base e size A' (n + m) c' (xs ++ news) → w.grownBy w' (A.map (·.block)) → Below base w w' → (A'.map (·.block) = A.map (·.block) ∨ A'.map (·.block) = some w.heap.size) → wpList P ops Q rest (a.put o.dst (.slice A' (n + m) c')) w') :
    wpList P ops Q (o :: rest) a w := by
  refine wpList_plain hgd fun K hK => ?_
  obtain ⟨A', c', w', hrun, h2, h3, h4, h5⟩ := run_app (ty := o.type) w E hown (B := B) (d := d) hsrc hl h1 hb hbase
  unfold Oper.wp execOp
  simp only [ho, resolve, invoke, builtin, Sem.run_bind, Sem.run_pure, Result.andThen_ok, List.map_toArray, List.map_cons, List.map_nil, hs, hx, hrun]
  exact hK _ _ (h A' c' w' h2 h3 h4 h5)
end

/-- It returns a slice of the call's own with these cells. -/
def SlRet (w : World) (e size n : Nat) (cs : List Value) : Ending → World → Prop := fun en w' =>
  ∃ A c, en = .returned (.slice A n c) ∧ Own w' w.heap.size e size A n c cs ∧ Below w.heap.size w w'
end Go.Proofs.Ytefkfglkpebbmac
