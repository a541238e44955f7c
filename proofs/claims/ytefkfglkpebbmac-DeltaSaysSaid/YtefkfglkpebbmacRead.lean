/- Readings: what the cells of a value read as, as plain Lean data: numbers, bools, bytes, slices of such, structs of such. No conditions. -/
import Derived.Test.YtefkfglkpebbmacBase
import Derived.Test.YtefkfglkpebbmacRows
import Derived.ProofKit
import Derived.ChangeOld
import Derived.OpenShut
import Derived.ChangeBears
namespace Go.Proofs.Ytefkfglkpebbmac
open Go.RowKit Go.WideShapes
set_option linter.unusedVariables false

/-- A reading: in a world, these cells read as that. -/
abbrev CR (α : Type) := World → List Value → α → Prop

def rInt : CR Int := fun _ cs n => cs = [.int .i64 n] ∧ -9223372036854775808 ≤ n ∧ n ≤ 9223372036854775807
def rBool : CR Bool := fun _ cs b => cs = [.bool b]
def rByte : CR UInt8 := fun _ cs x => cs = [bv x]

/-- The elements of a slice that starts at A, each of 'size' cells. -/
def Elems {α : Type} (size : Nat) (R : CR α) (w : World) (A : Option Addr) (xs : List α) : Prop :=
  ∀ i, (h : i < xs.length) → ∃ b o, A = some ⟨b, o, none⟩ ∧ b < w.heap.size ∧ ∃ cs, cs.length = size ∧ (∀ j, (hj : j < cs.length) → w.cell? ⟨b, o + i * size + j, none⟩ = some cs[j]) ∧ R w cs xs[i]

def rSliceM {α : Type} (size : Nat) (R : CR α) (M : Nat) : CR (List α) := fun w cs xs =>
  ∃ A c, cs = [.slice A xs.length c] ∧ xs.length ≤ c ∧ xs.length ≤ M ∧ Elems size R w A xs
abbrev rSlice {α : Type} (size : Nat) (R : CR α) : CR (List α) := rSliceM size R 140737488351232

theorem Elems.bts {w : World} {A : Option Addr} {l : List UInt8} (h : Elems 1 rByte w A l) : Bts w A l := by
  intro i hi
  obtain ⟨b, o, rfl, hlt, cs, hl, hc, hr⟩ := h i hi
  have hr' : cs = [bv l[i]] := hr
  subst hr'
  exact ⟨b, o, rfl, hlt, by simpa using hc 0 (by simp)⟩

/-- A reading outlives new blocks and writes to them. -/
def Stays {α : Type} (R : CR α) : Prop := ∀ w w' cs x, R w cs x → Below w.heap.size w w' → R w' cs x
theorem stays_int : Stays rInt := fun _ _ _ _ h _ => h
theorem stays_bool : Stays rBool := fun _ _ _ _ h _ => h
theorem stays_byte : Stays rByte := fun _ _ _ _ h _ => h
theorem Elems.stays {α : Type} {size : Nat} {R : CR α} (hR : Stays R) {w w' : World} {A : Option Addr} {xs : List α} (h : Elems size R w A xs) (hb : Below w.heap.size w w') : Elems size R w' A xs := by
  intro i hi
  obtain ⟨b, o, rfl, hlt, cs, hl, hc, hr⟩ := h i hi
  exact ⟨b, o, rfl, Nat.lt_of_lt_of_le hlt hb.size, cs, hl, fun j hj => (hb.cell (p := ⟨b, o + i * size + j, none⟩) hlt).trans (hc j hj), hR _ _ _ _ hr hb⟩
theorem stays_slice {α : Type} {size M : Nat} {R : CR α} (hR : Stays R) : Stays (rSliceM size R M) := by
  rintro w w' cs xs ⟨A, c, rfl, h1, h2, h3⟩ hb
  exact ⟨A, c, rfl, h1, h2, h3.stays hR hb⟩

/-! ### Readings out of the form's own reading -/
section
variable {H : Type} {enc : TypeId × Value → H} {P : Program} {w : World} {sp : Nat → Bool} {held : Bool}

/-- What the form says of the sizes of what a value reads as (and: what slices are of has bytes). -/
def TyFine (P : Program) : Prop := laidOutB P = true ∧ ∀ t e, t < P.types.size → P.underlying t = some (.slice e) → 0 < P.bytesOf e
def Wt (P : Program) (t : TypeId) (d : DataW H) : Prop := TyFine P ∧ t < P.types.size ∧ ∀ x ∈ d.weights P t, x ≤ 140737488351232
theorem wt_all {e : TypeId} : ∀ (l : List (DataW H)) (d : DataW H), d ∈ l → ∀ x ∈ d.weights P e, x ∈ DataW.weightsAll P e l
  | [], _, h, _, _ => by cases h
  | y :: r, d, h, x, hx => by
    simp only [DataW.weightsAll, List.mem_append]
    rcases List.mem_cons.1 h with rfl | h
    · exact .inl hx
    · exact .inr (wt_all r d h x hx)
theorem wt_each : ∀ (ts : List TypeId) (l : List (DataW H)) (i : Nat) (t : TypeId) (d : DataW H), ts[i]? = some t → l[i]? = some d → ∀ x ∈ d.weights P t, x ∈ DataW.weightsEach P ts l
  | [], _, _, _, _, h, _, _, _ => by simp at h
  | _ :: _, [], _, _, _, _, h, _, _ => by simp at h
  | t' :: ts, y :: r, 0, t, d, h, g, x, hx => by
    simp at h g
    subst h g
    simp only [DataW.weightsEach, List.mem_append]
    exact .inl hx
  | t' :: ts, y :: r, i + 1, t, d, h, g, x, hx => by
    simp only [DataW.weightsEach, List.mem_append]
    exact .inr (wt_each ts r i t d (by simpa using h) (by simpa using g) x hx)
theorem wt_slice {t e : TypeId} (ht : P.underlying t = some (.slice e)) {a b : List (DataW H)} (h : Wt P t (.slice a b)) : (a.length + b.length) * P.bytesOf e ≤ 140737488351232 ∧ ∀ d ∈ a, Wt P e d := by
  obtain ⟨h0, h1, h⟩ := h
  simp only [DataW.weights, ht, List.mem_cons, List.mem_append] at h
  exact ⟨h _ (.inl rfl), fun d hd => ⟨h0, kid_slice h0.1 h1 ht, fun x hx => h x (.inr (.inl (wt_all a d hd x hx)))⟩⟩
theorem wt_struct {t : TypeId} {fs : Array Field} (ht : P.underlying t = some (.struct fs)) {l : List (DataW H)} (h : Wt P t (.agg l)) (i : Nat) (f : Field) (d : DataW H) (hf : fs[i]? = some f) (hd : l[i]? = some d) : Wt P f.type d := by
  obtain ⟨h0, h1, h⟩ := h
  simp only [DataW.weights, ht] at h
  exact ⟨h0, (kid_struct h0.1 h1 ht).1 f (List.mem_of_getElem? (i := i) (by simp [hf])), fun x hx => h x (wt_each _ l i f.type d (by simp [hf]) hd x hx)⟩
theorem wt_array {t e : TypeId} {m : Nat} (ht : P.underlying t = some (.array m e)) {l : List (DataW H)} (h : Wt P t (.agg l)) (d : DataW H) (hd : d ∈ l) : Wt P e d := by
  obtain ⟨h0, h1, h⟩ := h
  simp only [DataW.weights, ht] at h
  exact ⟨h0, (kid_array h0.1 h1 ht).1, fun x hx => h x (wt_all l d hd x hx)⟩
theorem wt_more : ∀ (ts us : List TypeId) (l : List (DataW H)), l.length ≤ ts.length → DataW.weightsEach P (ts ++ us) l = DataW.weightsEach P ts l
  | [], us, [], _ => by cases us <;> simp [DataW.weightsEach]
  | [], _, _ :: _, h => by simp at h
  | _ :: _, _, [], _ => by simp [DataW.weightsEach]
  | t :: ts, us, y :: r, h => by
    simp only [List.cons_append, DataW.weightsEach]
    rw [wt_more ts us r (by simpa using h)]

/-- Type t reads by R. -/
def ReadBy {α : Type} (enc : TypeId × Value → H) (P : Program) (w : World) (sp : Nat → Bool) (held : Bool) (t : TypeId) (R : CR α) : Prop :=
  ∀ fuel cs d ps, DataW.trod enc P w 0 sp held fuel t cs = some (d, ps) → Wt P t d → ∃ x, R w cs x

theorem readBy_int {t : TypeId} (ht : P.underlying t = some (.int .i64)) : ReadBy enc P w sp held t rInt := by
  intro fuel cs d ps h _
  obtain ⟨n, rfl, _, hwf⟩ := DataW.trod_int ht h
  refine ⟨n, rfl, ?_⟩
  simpa [Lit.wf, IntKind.min, IntKind.max, IntKind.signed, IntKind.bits] using hwf
theorem readBy_bool {t : TypeId} (ht : P.underlying t = some .bool) : ReadBy enc P w sp held t rBool := by
  intro fuel cs d ps h _
  obtain ⟨n, rfl, _⟩ := DataW.trod_bool ht h
  exact ⟨n, rfl⟩
theorem readBy_byte {t : TypeId} (ht : P.underlying t = some (.int .u8)) : ReadBy enc P w sp held t rByte := by
  intro fuel cs d ps h _
  obtain ⟨n, rfl, _, hwf⟩ := DataW.trod_int ht h
  have hb : 0 ≤ n ∧ n ≤ 255 := by simpa [Lit.wf, IntKind.min, IntKind.max, IntKind.signed, IntKind.bits] using hwf
  refine ⟨UInt8.ofNat n.toNat, ?_⟩
  have e : ((UInt8.ofNat n.toNat).toNat : Int) = n := by
    rw [UInt8.toNat_ofNat']; omega
  show _ = [bv _]
  unfold bv
  rw [e]

theorem readBy_sliceM {α : Type} {t e : TypeId} {size M : Nat} {R : CR α} (ht : P.underlying t = some (.slice e)) (hs : P.cellsOf e = size) (hs0 : 0 < size) (hR : ReadBy enc P w sp held e R) (hM : ∀ n, 0 < P.bytesOf e → n * P.bytesOf e ≤ 140737488351232 → n ≤ M) : ReadBy enc P w sp held t (rSliceM size R M) := by
  intro fuel cs d ps h hb
  rcases DataW.trod_slice ht h with ⟨rfl, _⟩ | ⟨a, len, cap, elems, rest, n, _, rfl, hx, _, hl, _, hlen, hel, _⟩
  · exact ⟨[], none, 0, rfl, Nat.le_refl _, by simp, fun i hi => absurd hi (by simp)⟩
  · have hx1 : d = .slice (elems.map (·.1)) (rest.map (·.1)) := congrArg Prod.fst hx
    subst hx1
    have hpos : 0 < P.bytesOf e := hb.1.2 _ _ hb.2.1 ht
    have hb := wt_slice ht hb
    simp only [List.length_map] at hb
    have hlen9 : len ≤ M := hM _ hpos (Nat.le_trans (Nat.mul_le_mul_right _ (by omega : len ≤ elems.length + rest.length)) hb.1)
    have each : ∀ i, i < len → ∃ x cs', w.cells? 0 (a.add (i * size)) size = some cs' ∧ R w cs' x := by
      intro i hi
      have h1 := hel i hi
      rw [hs, List.getElem?_eq_getElem (by omega), Option.bind_eq_some_iff] at h1
      obtain ⟨cs', hc, hd⟩ := h1
      obtain ⟨x, hx⟩ := hR n cs' _ _ hd (hb.2 _ (List.mem_map.2 ⟨_, List.getElem_mem _, rfl⟩))
      exact ⟨x, cs', hc, hx⟩
    let f : Fin len → α := fun i => Classical.choose (each i.1 i.2)
    have hf : ∀ i : Fin len, ∃ cs', w.cells? 0 (a.add (i.1 * size)) size = some cs' ∧ R w cs' (f i) := fun i => Classical.choose_spec (each i.1 i.2)
    have cell : ∀ (i : Nat) (cs' : List Value), w.cells? 0 (a.add (i * size)) size = some cs' → cs'.length = size ∧ ∀ j, (hj : j < cs'.length) → w.cell? ((a.add (i * size)).add j) = some cs'[j] := by
      intro i cs' hc
      unfold World.cells? at hc
      rw [if_pos (Nat.zero_le _)] at hc
      have hl' : cs'.length = size := (mapM_some_length hc).trans List.length_range
      refine ⟨hl', fun j hj => ?_⟩
      have := mapM_some_get hc j j (List.getElem?_range (by omega))
      rw [this, List.getElem?_eq_getElem hj]
    refine ⟨List.ofFn f, some a, cap, by simp, by simpa using hl, by simp; omega, fun i hi => ?_⟩
    simp at hi
    obtain ⟨cs0, hc0, _⟩ := hf ⟨0, by omega⟩
    obtain ⟨cs', hc, hr⟩ := hf ⟨i, hi⟩
    obtain ⟨hl0, h0⟩ := cell 0 cs0 (by simpa using hc0)
    obtain ⟨hl', hj⟩ := cell i cs' hc
    obtain ⟨b, o, spot⟩ := a
    have hz := h0 0 (by omega)
    have hspot : spot = none := by
      have : w.cell? ⟨b, o, spot⟩ = some cs0[0] := by simpa [Addr.add] using hz
      unfold World.cell? at this
      split at this <;> simp_all
    subst hspot
    have hadd : ∀ k : Nat, (⟨b, o, none⟩ : Addr).add k = ⟨b, o + k, none⟩ := by
      intro k; unfold Addr.add; split <;> simp_all
    refine ⟨b, o, rfl, ?_, cs', hl', fun j hj' => ?_, by simpa using hr⟩
    · have : w.cell? ⟨b, o, none⟩ = some cs0[0] := by simpa [Addr.add] using hz
      rcases Nat.lt_or_ge b w.heap.size with h | h
      · exact h
      · unfold World.cell? at this
        rw [Array.getElem?_eq_none h] at this
        simp at this
    · have := hj j hj'
      rw [hadd] at this
      have h2 : (⟨b, o + i * size, none⟩ : Addr).add j = ⟨b, o + i * size + j, none⟩ := by unfold Addr.add; split <;> simp_all
      rw [h2] at this
      exact this

theorem readBy_slice {α : Type} {t e : TypeId} {size : Nat} {R : CR α} (ht : P.underlying t = some (.slice e)) (hs : P.cellsOf e = size) (hs0 : 0 < size) (hR : ReadBy enc P w sp held e R) : ReadBy enc P w sp held t (rSlice size R) :=
  readBy_sliceM ht hs hs0 hR fun _ h1 h2 => Nat.le_trans (Nat.le_mul_of_pos_right _ h1) h2

/-- A field of a struct that reads. -/
theorem field_of {t : TypeId} {fs : Array Field} {fuel : Nat} {cs : List Value} {d : DataW H} {ps : List MemPlace} (ht : P.underlying t = some (.struct fs)) (h : DataW.trod enc P w 0 sp held fuel t cs = some (d, ps)) (hb : Wt P t d) :
    cs.length = P.cellsOf t ∧ ∀ (i : Nat) (f : Field), fs[i]? = some f → ∀ {α : Type} {R : CR α}, ReadBy enc P w sp held f.type R → ∃ x, R w ((cs.drop f.offset).take (P.cellsOf f.type)) x := by
  obtain ⟨xs, n, _, hx, hl, hlen, hf⟩ := DataW.trod_struct ht h
  have hx1 : d = .agg (xs.map (·.1)) := congrArg Prod.fst hx
  subst hx1
  refine ⟨hl, fun i f hi α R hR => ?_⟩
  have h1 := hf i f hi
  have hi' : i < xs.length := by rw [hlen]; exact (Array.getElem?_eq_some_iff.1 hi).1
  rw [List.getElem?_eq_getElem hi'] at h1
  exact hR n _ _ _ h1 (wt_struct ht hb i f _ hi (by rw [List.getElem?_map, List.getElem?_eq_getElem hi']; rfl))

/-- An element of an array that reads. -/
theorem place_of {t e : TypeId} {m fuel : Nat} {cs : List Value} {d : DataW H} {ps : List MemPlace} (ht : P.underlying t = some (.array m e)) (h : DataW.trod enc P w 0 sp held fuel t cs = some (d, ps)) (hb : Wt P t d) :
    cs.length = P.cellsOf t ∧ ∀ (i : Nat), i < m → ∀ {α : Type} {R : CR α}, ReadBy enc P w sp held e R → ∃ x, R w ((cs.drop (i * P.cellsOf e)).take (P.cellsOf e)) x := by
  obtain ⟨xs, n, _, hx, hl, hlen, hf⟩ := DataW.trod_array ht h
  have hx1 : d = .agg (xs.map (·.1)) := congrArg Prod.fst hx
  subst hx1
  refine ⟨hl, fun i hi α R hR => ?_⟩
  have h1 := hf i hi
  rw [List.getElem?_eq_getElem (by omega)] at h1
  exact hR n _ _ _ h1 (wt_array ht hb _ (List.mem_map.2 ⟨_, List.getElem_mem _, rfl⟩))

/-- What the arguments are, at the end as at the beginning. -/
theorem trodAll_below (hl : laidOutB P = true) {W W' : World} (hb : Below W.heap.size W W') : ∀ (ts : List TypeId) (vs : List Value) (ds : List (DataW H)) (ps : List MemPlace),
    (ts.all fun t => P.readableRec t && decide (t < P.types.size)) = true → DataW.TrodAll enc P W 0 (fun _ => true) true ts vs ds ps → DataW.TrodAll enc P W' 0 (fun b => decide (b < W.heap.size)) true ts vs ds ps
  | [], [], [], _, _, h => h
  | t :: ts, v :: vs, d :: ds, ps, ha, ⟨p, q, h1, h2, e⟩ => by
    simp only [List.all_cons, Bool.and_eq_true, decide_eq_true_eq] at ha
    refine ⟨p, q, ?_, trodAll_below hl hb ts vs ds q (by simpa using ha.2) h2, e⟩
    refine Below.trod hl ha.1.1 ha.1.2 h1 hb ?_
    obtain ⟨m, hm⟩ := h1
    exact DataW.trod_lt m _ _ _ hm
end

/-- Argument number j of a call reads by R. -/
theorem arg_read {H : Type} {enc : TypeId × Value → H} {P : Program} {w : World} {α : Type} {R : CR α} {t : TypeId} {v : Value} {d : DataW H} {p : List MemPlace} (h : DataW.Trod enc P w 0 (fun _ => true) true t v d p) (hR : ReadBy enc P w (fun _ => true) true t R) (hb : Wt P t d) :
    ∃ x, R w v.cells.toList x := by
  obtain ⟨fuel, hf⟩ := h
  exact hR fuel _ d p hf hb
end Go.Proofs.Ytefkfglkpebbmac
