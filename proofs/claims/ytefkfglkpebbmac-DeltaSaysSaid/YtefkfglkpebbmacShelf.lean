/- bytes.Index: the library's contract, laid at this program by the kit's tool; then in the words of these texts. Condition: the library's own variable holds some number. -/
import Derived.Shelf.Bytes.SlIndexWhole
import Derived.Test.YtefkfglkpebbmacShaped
namespace Go.Proofs.Ytefkfglkpebbmac
open Go.Shelf Go.RowKit
set_option linter.unusedVariables false

def lays185_ren : Go.Shelf.Ren := ⟨fun | 185 => 139 | 187 => 157 | 115 => 23 | 253 => 158 | 224 => 159 | 254 => 160 | 255 => 166 | 291 => 167 | n => n, fun | 37 => 22 | 3 => 3 | 4 => 4 | 0 => 0 | 5 => 5 | 46 => 165 | 9 => 9 | 146 => 182 | 51 => 181 | n => n, fun | 1 => 0 | n => n⟩
theorem lays185 : Go.Proofs.Lays.n185 Try.prog lays185_ren := {
  mixed := by kernel_rfl
  f115 := Try.func23.trans (congrArg some (by kernel_rfl))
  f185 := Try.func139.trans (congrArg some (by kernel_rfl))
  f187 := Try.func157.trans (congrArg some (by kernel_rfl))
  f224 := Try.func159.trans (congrArg some (by kernel_rfl))
  f253 := Try.func158.trans (congrArg some (by kernel_rfl))
  f254 := Try.func160.trans (congrArg some (by kernel_rfl))
  f255 := Try.func166.trans (congrArg some (by kernel_rfl))
  f291 := Try.func167.trans (congrArg some (by kernel_rfl))
  t0 := Try.underlying0
  a0 := Try.isAgg0
  z0 := Try.sizeOf0
  v0 := Try.zeroValue0
  t3 := Try.underlying3
  a3 := Try.isAgg3
  z3 := Try.sizeOf3
  v3 := Try.zeroValue3
  t4 := Try.underlying4
  a4 := Try.isAgg4
  z4 := Try.sizeOf4
  v4 := Try.zeroValue4
  t5 := Try.underlying5
  a5 := Try.isAgg5
  z5 := Try.sizeOf5
  v5 := Try.zeroValue5
  t9 := Try.underlying9
  a9 := Try.isAgg9
  z9 := Try.sizeOf9
  v9 := Try.zeroValue9
  t37 := Try.underlying22
  a37 := Try.isAgg22
  z37 := Try.sizeOf22
  v37 := Try.zeroValue22
  t46 := Try.underlying165
  a46 := Try.isAgg165
  z46 := Try.sizeOf165
  v46 := Try.zeroValue165
  t51 := Try.underlying181
  a51 := Try.isAgg181
  z51 := Try.sizeOf181
  v51 := Try.zeroValue181
  t146 := Try.underlying182
  a146 := Try.isAgg182
  z146 := Try.sizeOf182
  v146 := Try.zeroValue182
  g1 := by kernel_rfl }
theorem bytesOf_map (l : List UInt8) : Lib.bytesOf (l.map fun x => (x.toNat : Int)) = l := by
  unfold Lib.bytesOf
  rw [List.map_map]
  conv => rhs; rw [← List.map_id l]
  apply List.map_congr_left
  intro x _
  simp
theorem bts_add {w : World} {A : Addr} {l : List UInt8} (h : Bts w (some A) l) : ∀ i, i < l.length → w.cell? (A.add i) = some (.int .u8 ((l.map fun x => (x.toNat : Int)).getD i 0)) := by
  intro i hi
  obtain ⟨b, o, e, _, hc⟩ := h i hi
  injection e with e
  subst e
  have : (⟨b, o, none⟩ : Addr).add i = ⟨b, o + i, none⟩ := by unfold Addr.add; split <;> simp_all
  rw [this, hc]
  simp [List.getD_eq_getElem?_getD, hi]
theorem byte_bd (l : List UInt8) : ∀ x ∈ l.map (fun x : UInt8 => (x.toNat : Int)), 0 ≤ x ∧ x < 256 := by
  intro x hx
  obtain ⟨y, _, rfl⟩ := List.mem_map.1 hx
  have := y.toNat_lt
  omega
theorem bts_none {w : World} {l : List UInt8} (h : Bts w none l) : l = [] := by
  rcases l with _ | ⟨x, r⟩
  · rfl
  · obtain ⟨b, o, e, _⟩ := h 0 (by simp)
    cases e
theorem index_calls (A B : Addr) (c d : Nat) (s t : List UInt8) (w : World) (hm : ML w) (hc : s.length ≤ c) (hs : s.length ≤ 1048576) (ht : t.length ≤ 1048576) (h1 : Bts w (some A) s) (h2 : Bts w (some B) t) :
    Calls Try.prog 139 #[.slice (some A) s.length c, .slice (some B) t.length d] w (RetN w (iv (Lib.index s t))) := by
  obtain ⟨m, hm⟩ := hm
  have h := Any.bytes_Index_at lays185 A B s.length c t.length d (s.map fun x => (x.toNat : Int)) (t.map fun x => (x.toNat : Int)) m w (by simp) (by simp) (byte_bd s) (byte_bd t) (bts_add h1) (bts_add h2) hc (by omega) (by omega) hm
  rw [bytesOf_map, bytesOf_map] at h
  refine h.mono ?_
  rintro e w' ⟨rfl, q, rfl⟩
  exact ⟨rfl, q, rfl⟩
end Go.Proofs.Ytefkfglkpebbmac
