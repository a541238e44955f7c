/- Readings: what the cells of a value read as, as plain Lean data: numbers, bools, bytes, slices of such, structs of such. No conditions. -/
import Derived.Test.YtefkfglkpebbmaaBase
import Derived.Test.YtefkfglkpebbmaaRows
import Derived.ProofKit
import Derived.ChangeOld
import Derived.OpenShut
namespace Go.Proofs.Ytefkfglkpebbmaa
open Go.RowKit Go.WideShapes
set_option linter.unusedVariables false

/-- A reading: in a world, these cells read as that. -/
abbrev CR (α : Type) := World → List Value → α → Prop

def rInt : CR Int := fun _ cs n => cs = [.int .i64 n] ∧ -9223372036854775808 ≤ n ∧ n ≤ 9223372036854775807
def rBool : CR Bool := fun _ cs b => cs = [.bool b]
def rByte : CR UInt8 := fun _ cs x => cs = [bv x]

/-- The elements of a slice that starts at A, each of 'size' cells. -/
def Elems {α : Type} (size : Nat) (R : CR α) (w : World) (A : Option Addr) (xs : List α) : Prop :=
  ∀ i, (h : i < xs.length) → ∃ b o, A = some ⟨b, o, none⟩ ∧ b < w.heap.size ∧ ∃ cs, cs.length = size ∧ (∀ j, (hj : j < cs.length) → w.cell? ⟨b, o + i * size + j, none⟩ = some cs[j]) ∧ R w cs xs[i]

theorem Elems.bts {w : World} {A : Option Addr} {l : List UInt8} (h : Elems 1 rByte w A l) : Bts w A l := by
  intro i hi
  obtain ⟨b, o, rfl, hlt, cs, hl, hc, hr⟩ := h i hi
  have hr' : cs = [bv l[i]] := hr
  subst hr'
  exact ⟨b, o, rfl, hlt, by simpa using hc 0 (by simp)⟩

/-- A reading outlives new blocks and writes to them. -/
def Stays {α : Type} (R : CR α) : Prop := ∀ w w' cs x, R w cs x → Below w.heap.size w w' → R w' cs x
theorem stays_int : Stays rInt := fun _ _ _ _ h _ => h
theorem stays_bool : Stays rBool := fun _ _ _ _ h _ => h
theorem stays_byte : Stays rByte := fun _ _ _ _ h _ => h
theorem Elems.stays {α : Type} {size : Nat} {R : CR α} (hR : Stays R) {w w' : World} {A : Option Addr} {xs : List α} (h : Elems size R w A xs) (hb : Below w.heap.size w w') : Elems size R w' A xs := by
  intro i hi
  obtain ⟨b, o, rfl, hlt, cs, hl, hc, hr⟩ := h i hi
  exact ⟨b, o, rfl, Nat.lt_of_lt_of_le hlt hb.size, cs, hl, fun j hj => (hb.cell (p := ⟨b, o + i * size + j, none⟩) hlt).trans (hc j hj), hR _ _ _ _ hr hb⟩
/-! ### Readings out of the form's own reading -/
section
variable {H : Type} {enc : TypeId × Value → H} {P : Program} {w : World} {sp : Nat → Bool} {held : Bool} {N : Nat}

/-- Type t reads by R. -/
def ReadBy {α : Type} (N : Nat) (enc : TypeId × Value → H) (P : Program) (w : World) (sp : Nat → Bool) (held : Bool) (t : TypeId) (R : CR α) : Prop :=
  ∀ fuel cs d ps, DataW.trod enc P w 0 sp held fuel t cs = some (d, ps) → Rows.uptoBulk d ≤ N → ∃ x, R w cs x

theorem readBy_int {t : TypeId} (ht : P.underlying t = some (.int .i64)) : ReadBy N enc P w sp held t rInt := by
  intro fuel cs d ps h _
  obtain ⟨n, rfl, _, hwf⟩ := DataW.trod_int ht h
  refine ⟨n, rfl, ?_⟩
  simpa [Lit.wf, IntKind.min, IntKind.max, IntKind.signed, IntKind.bits] using hwf
theorem readBy_bool {t : TypeId} (ht : P.underlying t = some .bool) : ReadBy N enc P w sp held t rBool := by
  intro fuel cs d ps h _
  obtain ⟨n, rfl, _⟩ := DataW.trod_bool ht h
  exact ⟨n, rfl⟩
theorem readBy_byte {t : TypeId} (ht : P.underlying t = some (.int .u8)) : ReadBy N enc P w sp held t rByte := by
  intro fuel cs d ps h _
  obtain ⟨n, rfl, _, hwf⟩ := DataW.trod_int ht h
  have hb : 0 ≤ n ∧ n ≤ 255 := by simpa [Lit.wf, IntKind.min, IntKind.max, IntKind.signed, IntKind.bits] using hwf
  refine ⟨UInt8.ofNat n.toNat, ?_⟩
  have e : ((UInt8.ofNat n.toNat).toNat : Int) = n := by
    rw [UInt8.toNat_ofNat']; omega
  show _ = [bv _]
  unfold bv
  rw [e]

theorem bulkAll_mem : ∀ (l : List (DataW H)) (d : DataW H), d ∈ l → Rows.uptoBulk d ≤ Rows.uptoBulkAll l
  | [], _, h => by cases h
  | x :: r, d, h => by
    simp only [Rows.uptoBulkAll]
    rcases List.mem_cons.1 h with rfl | h
    · omega
    · have := bulkAll_mem r d h; omega
theorem bulk_pos (d : DataW H) : 1 ≤ Rows.uptoBulk d := by
  cases d with
  | lit l => cases l <;> simp [Rows.uptoBulk]
  | _ => simp [Rows.uptoBulk]
theorem bulkAll_len : ∀ (l : List (DataW H)), l.length ≤ Rows.uptoBulkAll l
  | [] => by simp [Rows.uptoBulkAll]
  | x :: r => by
    simp only [Rows.uptoBulkAll, List.length_cons]
    have := bulk_pos x; have := bulkAll_len r; omega

/-- A field of a struct that reads. -/
theorem field_of {t : TypeId} {fs : Array Field} {fuel : Nat} {cs : List Value} {d : DataW H} {ps : List MemPlace} (ht : P.underlying t = some (.struct fs)) (h : DataW.trod enc P w 0 sp held fuel t cs = some (d, ps)) (hb : Rows.uptoBulk d ≤ N) :
    cs.length = P.cellsOf t ∧ ∀ (i : Nat) (f : Field), fs[i]? = some f → ∀ {α : Type} {R : CR α}, ReadBy N enc P w sp held f.type R → ∃ x, R w ((cs.drop f.offset).take (P.cellsOf f.type)) x := by
  obtain ⟨xs, n, _, hx, hl, hlen, hf⟩ := DataW.trod_struct ht h
  have hx1 : d = .agg (xs.map (·.1)) := congrArg Prod.fst hx
  subst hx1
  simp only [Rows.uptoBulk] at hb
  refine ⟨hl, fun i f hi α R hR => ?_⟩
  have h1 := hf i f hi
  have hi' : i < xs.length := by rw [hlen]; exact (Array.getElem?_eq_some_iff.1 hi).1
  rw [List.getElem?_eq_getElem hi'] at h1
  have h2 := bulkAll_mem (xs.map (·.1)) xs[i].1 (List.mem_map.2 ⟨_, List.getElem_mem _, rfl⟩)
  exact hR n _ _ _ h1 (Nat.le_trans h2 (by omega))

/-- An element of an array that reads. -/
theorem place_of {t e : TypeId} {m fuel : Nat} {cs : List Value} {d : DataW H} {ps : List MemPlace} (ht : P.underlying t = some (.array m e)) (h : DataW.trod enc P w 0 sp held fuel t cs = some (d, ps)) (hb : Rows.uptoBulk d ≤ N) :
    cs.length = P.cellsOf t ∧ ∀ (i : Nat), i < m → ∀ {α : Type} {R : CR α}, ReadBy N enc P w sp held e R → ∃ x, R w ((cs.drop (i * P.cellsOf e)).take (P.cellsOf e)) x := by
  obtain ⟨xs, n, _, hx, hl, hlen, hf⟩ := DataW.trod_array ht h
  have hx1 : d = .agg (xs.map (·.1)) := congrArg Prod.fst hx
  subst hx1
  simp only [Rows.uptoBulk] at hb
  refine ⟨hl, fun i hi α R hR => ?_⟩
  have h1 := hf i hi
  rw [List.getElem?_eq_getElem (by omega)] at h1
  have h2 := bulkAll_mem (xs.map (·.1)) (xs[i]'(by omega)).1 (List.mem_map.2 ⟨_, List.getElem_mem _, rfl⟩)
  exact hR n _ _ _ h1 (Nat.le_trans h2 (by omega))

/-- What the arguments are, at the end as at the beginning. -/
theorem trodAll_below (hl : laidOutB P = true) {W W' : World} (hb : Below W.heap.size W W') : ∀ (ts : List TypeId) (vs : List Value) (ds : List (DataW H)) (ps : List MemPlace),
    (ts.all fun t => P.readableRec t && decide (t < P.types.size)) = true → DataW.TrodAll enc P W 0 (fun _ => true) true ts vs ds ps → DataW.TrodAll enc P W' 0 (fun b => decide (b < W.heap.size)) true ts vs ds ps
  | [], [], [], _, _, h => h
  | t :: ts, v :: vs, d :: ds, ps, ha, ⟨p, q, h1, h2, e⟩ => by
    simp only [List.all_cons, Bool.and_eq_true, decide_eq_true_eq] at ha
    refine ⟨p, q, ?_, trodAll_below hl hb ts vs ds q (by simpa using ha.2) h2, e⟩
    refine Below.trod hl ha.1.1 ha.1.2 h1 hb ?_
    obtain ⟨m, hm⟩ := h1
    exact DataW.trod_lt m _ _ _ hm
end

/-- Argument number j of a call reads by R. -/
theorem arg_read {N : Nat} {H : Type} {enc : TypeId × Value → H} {P : Program} {w : World} {α : Type} {R : CR α} {t : TypeId} {v : Value} {d : DataW H} {p : List MemPlace} (h : DataW.Trod enc P w 0 (fun _ => true) true t v d p) (hR : ReadBy N enc P w (fun _ => true) true t R) (hb : Rows.uptoBulk d ≤ N) :
    ∃ x, R w v.cells.toList x := by
  obtain ⟨fuel, hf⟩ := h
  exact hR fuel _ d p hf hb
end Go.Proofs.Ytefkfglkpebbmaa
