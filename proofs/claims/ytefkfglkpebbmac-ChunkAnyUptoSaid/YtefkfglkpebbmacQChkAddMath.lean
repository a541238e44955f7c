/- The walk of chunk.Add. Printed by gen_chkadd.py. No conditions. -/
import Derived.Test.YtefkfglkpebbmacQChkList
import Derived.Test.YtefkfglkpebbmacQChkCopy
import Derived.Test.YtefkfglkpebbmacQChkCut
import Derived.Test.YtefkfglkpebbmacQInsChunks
import Derived.Test.YtefkfglkpebbmacQChunkLaws
namespace Go.Proofs.Ytefkfglkpebbmac
open Go.RowKit
set_option linter.unusedVariables false
set_option linter.unusedSimpArgs false

theorem lined_len : ∀ (l : List Chk) (q : Chk), chkCheck q = 0 → Lined (some q) l → (l.length : Int) ≤ 51 - q.n
  | [], q, hq, _ => by
    have h := (chkCheck_ok.1 hq).1
    unfold Chk.range at h
    simp only [List.length_nil]; omega
  | c :: l, q, hq, h => by
    unfold Lined at h
    have ih := lined_len l c h.1 h.2.2
    have h2 := (h.2.1 q rfl).2
    simp only [List.length_cons]; omega
theorem chkList_len {l : List Chk} (h : chkList l = 0) : l.length ≤ 52 := by
  unfold chkList at h
  rw [listGo_ok] at h
  rcases l with _ | ⟨c, l⟩
  · simp
  · unfold Lined at h
    have h1 := lined_len l c h.1 h.2.2
    have h2 := (chkCheck_ok.1 h.1).1
    unfold Chk.range at h2
    simp only [List.length_cons]; omega
theorem insAt_is {l : List Chk} {n : Int} {k : Nat} (hk : k ≤ l.length) (h1 : ∀ (j : Nat) (h : j < l.length), j < k → l[j].n < n) (h2 : ∀ h : k < l.length, ¬ l[k].n < n) : insAt l n = k := by
  unfold insAt
  have e : l.takeWhile (fun c => decide (c.n < n)) = l.take k := by
    conv => lhs; rw [← List.take_append_drop k l]
    rw [List.takeWhile_append_of_pos (fun a ha => by
      obtain ⟨j, hj, rfl⟩ := List.mem_iff_getElem.1 ha
      simp only [List.length_take] at hj
      simp only [List.getElem_take]
      exact decide_eq_true (h1 j (by omega) (by omega)))]
    rcases Nat.lt_or_ge k l.length with hlt | hge
    · rw [List.drop_eq_getElem_cons hlt, List.takeWhile_cons_of_neg (by simpa using h2 hlt), List.append_nil]
    · rw [List.drop_eq_nil_of_le hge]; simp
  rw [e, List.length_take]; omega
theorem chkAdd_err1 {l : List Chk} {c : Chk} (h : chkList l ≠ 0) : chkAdd l c = ([], chkList l) := by unfold chkAdd; rw [if_pos h]
theorem chkAdd_err2 {l : List Chk} {c : Chk} (h : chkList l = 0) (g : chkCheck c ≠ 0) : chkAdd l c = ([], chkCheck c) := by unfold chkAdd; rw [if_neg (by simpa using h), if_pos g]
theorem chkAdd_other {l : List Chk} {c y : Chk} (h : chkList l = 0) (g : chkCheck c = 0) (hy : l[0]? = some y) (hk : ¬ kin y c) : chkAdd l c = ([c], 0) := by
  unfold chkAdd
  rw [if_neg (by simpa using h), if_neg (by simpa using g)]
  rcases l with _ | ⟨x, r⟩
  · simp at hy
  · have e : x = y := by simpa using hy
    subst e
    dsimp only
    rw [if_pos hk]
theorem chkAdd_is {l : List Chk} {c : Chk} (h : chkList l = 0) (g : chkCheck c = 0) (hkin : ∀ y, l[0]? = some y → kin y c) {k : Nat} (hk : k ≤ l.length) (h1 : ∀ (j : Nat) (h : j < l.length), j < k → l[j].n < c.n) (h2 : ∀ h : k < l.length, ¬ l[k].n < c.n) :
    (∀ h : k < l.length, l[k].n = c.n → chkAdd l c = (l, 0)) ∧ ((∀ h : k < l.length, l[k].n ≠ c.n) → chkAdd l c = (l.take k ++ c :: l.drop k, 0)) := by
  have hins := insAt_is hk h1 h2
  obtain ⟨hl1, hl2⟩ := chkList_ok.1 h
  have hpw := List.pairwise_iff_getElem.1 hl2
  rcases l with _ | ⟨x, r⟩
  · refine ⟨fun h => by simp at h, fun _ => ?_⟩
    unfold chkAdd
    rw [if_neg (by simpa using h), if_neg (by simpa using g)]
    have : k = 0 := by simpa using hk
    subst this
    rfl
  · have hx := hkin x rfl
    refine ⟨fun hlt e => ?_, fun hne => ?_⟩
    · unfold chkAdd
      rw [if_neg (by simpa using h), if_neg (by simpa using g)]
      dsimp only
      rw [if_neg (by simpa using hx), if_pos ⟨_, List.getElem_mem hlt, e⟩]
    · unfold chkAdd
      rw [if_neg (by simpa using h), if_neg (by simpa using g)]
      dsimp only
      rw [if_neg (by simpa using hx), if_neg ?_, hins]
      rintro ⟨y, hy, hyn⟩
      obtain ⟨j, hj, rfl⟩ := List.mem_iff_getElem.1 hy
      rcases Nat.lt_trichotomy j k with hjk | hjk | hjk
      · have := h1 j hj hjk; omega
      · subst hjk; exact hne hj hyn
      · have h3 := (hpw k j (by omega) hj hjk).2
        have h4 := h2 (by omega)
        omega
theorem own_blk5 {w : World} {base g : Nat} {x : Chk} {e : Option Addr × Nat} (h : w.heap[g]? = some (.cells (chkA x.from_ x.to_ x.n x.of_ e.1 x.data.length e.2) 49 (0, 0))) (hb : base ≤ g) : Own w base 49 5 (some ⟨g, 0, none⟩) 1 1 (kChk.cell x e) :=
  ⟨by simp [kChk], Or.inr ⟨g, 1, _, rfl, hb, h, Nat.le_refl _, by unfold maxLen; omega, by simp [chkA], by simp [kChk, chkA]⟩⟩
theorem grow_one {w : World} {base g : Nat} {x : Chk} {e : Option Addr × Nat} (h : w.heap[g]? = some (.cells (chkA x.from_ x.to_ x.n x.of_ e.1 x.data.length e.2) 49 (0, 0))) (hb : base ≤ g) (hd : Bts w e.1 x.data) (hd2 : x.data.length ≤ e.2) (hne : ∀ k, e.1.map (·.block) = some k → k ≠ g) : GRow kChk w base [x] [e] (some ⟨g, 0, none⟩) 1 :=
  ⟨rfl, by rw [cells_one]; exact own_blk5 h hb, fun i o d h1 h2 => by
    match i with
    | 0 =>
      have e1 : x = o := by simpa using h1
      have e2 : e = d := by simpa using h2
      subst e1 e2
      exact ⟨hd, hd2⟩
    | i + 1 => simp at h1, fun i o d h1 h2 hx k hk e3 => by
    match i with
    | 0 =>
      have e2 : e = d := by simpa using h2
      subst e2
      have e4 : g = k := by simpa using e3
      exact hne k hk e4.symm
    | i + 1 => simp at h1⟩
theorem each_one {x : Chk} {e : Option Addr × Nat} {P : Nat → Prop} (h : ∀ k, e.1.map (·.block) = some k → P k) : Each kChk [x] [e] P := fun i o d h1 h2 hx k hk => by
  match i with
  | 0 =>
    have e2 : e = d := by simpa using h2
    subst e2
    exact h k hk
  | i + 1 => simp at h1
theorem GRow.chkAt {w : World} {base : Nat} {l : List Chk} {ds : List (Option Addr × Nat)} {g c : Nat} (h : GRow kChk w base l ds (some ⟨g, 0, none⟩) c) {i : Nat} {x : Chk} (hi : l[i]? = some x) : ∃ B d, ChkAt w g (i * 5) x B d := by
  have hil := (List.getElem?_eq_some_iff.1 hi).1
  have hd : ds[i]? = some (ds[i]'(by rw [h.len]; exact hil)) := List.getElem?_eq_getElem _
  have hc : ∀ j, j < 5 → w.cell? ⟨g, i * 5 + j, none⟩ = (kChk.cell x (ds[i]'(by rw [h.len]; exact hil)))[j]? := fun j hj => by
    rw [h.row.cellAt _ (show i * 5 + j < l.length * 5 by omega)]
    exact cells_at (K := kChk) l ds h.len i j x _ hi hd hj
  exact ⟨_, _, hc 0 (by decide), hc 1 (by decide), hc 2 (by decide), hc 3 (by decide), hc 4 (by decide)⟩
theorem ins_at {α : Type} {l : List α} {x o : α} {k i : Nat} (hk : k ≤ l.length) (h : (l.take k ++ x :: l.drop k)[i]? = some o) : (i < k ∧ l[i]? = some o) ∨ (i = k ∧ o = x) ∨ (k < i ∧ l[i - 1]? = some o) := by
  rcases Nat.lt_trichotomy i k with hi | hi | hi
  · rw [List.getElem?_append_left (by simp; omega), List.getElem?_take, if_pos hi] at h
    exact .inl ⟨hi, h⟩
  · subst hi
    rw [List.getElem?_append_right (by simp; omega)] at h
    have : i - (l.take i).length = 0 := by simp; omega
    rw [this] at h
    simp at h
    exact .inr (.inl ⟨rfl, h.symm⟩)
  · rw [List.getElem?_append_right (by simp; omega)] at h
    have : i - (l.take k).length = (i - k - 1) + 1 := by simp; omega
    rw [this, List.getElem?_cons_succ, List.getElem?_drop] at h
    exact .inr (.inr ⟨hi, by rw [show i - 1 = k + (i - k - 1) by omega]; exact h⟩)
/-- One chunk more, put between. -/
theorem GRow.ins {w w' : World} {base k B : Nat} {l : List Chk} {ds : List (Option Addr × Nat)} {A A' : Option Addr} {c c' : Nat} {x : Chk} {e : Option Addr × Nat} (h : GRow kChk w base l ds A c) (hk : k ≤ l.length)
    (h1 : Own w' base 49 5 A' (l.length + 1) c' ((kChk.cells l ds).take (k * 5) ++ kChk.cell x e ++ (kChk.cells l ds).drop (k * 5))) (hb : Below B w w') (hkk : ∀ k, k < w.heap.size → A.map (·.block) ≠ some k → w'.heap[k]? = w.heap[k]?) (h3 : A'.map (·.block) = A.map (·.block) ∨ ∀ k, A'.map (·.block) = some k → w.heap.size ≤ k)
    (hd : Bts w e.1 x.data) (hd2 : x.data.length ≤ e.2) (hd3 : x.data ≠ [] → ∀ k, e.1.map (·.block) = some k → A.map (·.block) ≠ some k) : GRow kChk w' base (l.take k ++ x :: l.drop k) (ds.take k ++ e :: ds.drop k) A' c' := by
  have hlen := h.len
  have hc := cells_take (K := kChk) l ds hlen k hk
  refine h.remake (by simp; omega) ?_ hb hkk h3 fun i o d hi hd' => ?_
  · have e1 : kChk.cells (l.take k ++ x :: l.drop k) (ds.take k ++ e :: ds.drop k) = (kChk.cells l ds).take (k * 5) ++ kChk.cell x e ++ (kChk.cells l ds).drop (k * 5) := by
      rw [cells_append _ _ _ _ (by simp; omega), show kChk.cells (x :: l.drop k) (e :: ds.drop k) = kChk.cell x e ++ kChk.cells (l.drop k) (ds.drop k) from rfl, hc.1, hc.2, List.append_assoc]
      rfl
    rw [e1, show (l.take k ++ x :: l.drop k).length = l.length + 1 by simp; omega]
    exact h1
  · rcases ins_at hk hi with ⟨h4, h5⟩ | ⟨h4, h5⟩ | ⟨h4, h5⟩
    · rcases ins_at (by omega) hd' with ⟨_, h7⟩ | ⟨h6, _⟩ | ⟨h6, _⟩
      · exact .inl ⟨i, h5, h7⟩
      · omega
      · omega
    · rcases ins_at (by omega) hd' with ⟨h6, _⟩ | ⟨_, h7⟩ | ⟨h6, _⟩
      · omega
      · subst h5 h7; exact .inr ⟨hd, hd2, hd3⟩
      · omega
    · rcases ins_at (by omega) hd' with ⟨h6, _⟩ | ⟨h6, _⟩ | ⟨_, h7⟩
      · omega
      · omega
      · exact .inl ⟨i - 1, h5, h7⟩
theorem Each.ins {l : List Chk} {ds : List (Option Addr × Nat)} {x : Chk} {e : Option Addr × Nat} {k : Nat} {P : Nat → Prop} (h : Each kChk l ds P) (hl : ds.length = l.length) (hk : k ≤ l.length) (hd : ∀ k, e.1.map (·.block) = some k → P k) : Each kChk (l.take k ++ x :: l.drop k) (ds.take k ++ e :: ds.drop k) P := fun i o d hi hd' hx q hq => by
  rcases ins_at hk hi with ⟨h4, h5⟩ | ⟨h4, h5⟩ | ⟨h4, h5⟩
  · rcases ins_at (by omega) hd' with ⟨_, h7⟩ | ⟨h6, _⟩ | ⟨h6, _⟩
    · exact h i o d h5 h7 hx q hq
    · omega
    · omega
  · rcases ins_at (by omega) hd' with ⟨h6, _⟩ | ⟨_, h7⟩ | ⟨h6, _⟩
    · omega
    · subst h7; exact hd q hq
    · omega
  · rcases ins_at (by omega) hd' with ⟨h6, _⟩ | ⟨h6, _⟩ | ⟨_, h7⟩
    · omega
    · omega
    · exact h (i - 1) o d h5 h7 hx q hq
end Go.Proofs.Ytefkfglkpebbmac
