/- bytes.Contains: the library's contract, laid at this program by the kit's tool; then in the words of these texts. Condition: the library's own variable holds some number. -/
import Derived.Test.YtefkfglkpebbmabShelf
namespace Go.Proofs.Ytefkfglkpebbmab
open Go.Shelf Go.RowKit
set_option linter.unusedVariables false

def lays186_ren : Go.Shelf.Ren := ⟨fun | 186 => 34 | 185 => 35 | 187 => 61 | 115 => 18 | 253 => 62 | 224 => 63 | 254 => 64 | 255 => 73 | 291 => 74 | n => n, fun | 37 => 22 | 4 => 4 | 3 => 3 | 0 => 0 | 5 => 5 | 46 => 75 | 9 => 9 | 146 => 84 | 51 => 83 | n => n, fun | 1 => 0 | n => n⟩
theorem lays186 : Go.Proofs.Lays.n186 Try.prog lays186_ren := {
  mixed := by kernel_rfl
  f115 := Try.func18.trans (congrArg some (by kernel_rfl))
  f185 := Try.func35.trans (congrArg some (by kernel_rfl))
  f186 := Try.func34.trans (congrArg some (by kernel_rfl))
  f187 := Try.func61.trans (congrArg some (by kernel_rfl))
  f224 := Try.func63.trans (congrArg some (by kernel_rfl))
  f253 := Try.func62.trans (congrArg some (by kernel_rfl))
  f254 := Try.func64.trans (congrArg some (by kernel_rfl))
  f255 := Try.func73.trans (congrArg some (by kernel_rfl))
  f291 := Try.func74.trans (congrArg some (by kernel_rfl))
  t0 := Try.underlying0
  a0 := Try.isAgg0
  z0 := Try.sizeOf0
  v0 := Try.zeroValue0
  t3 := Try.underlying3
  a3 := Try.isAgg3
  z3 := Try.sizeOf3
  v3 := Try.zeroValue3
  t4 := Try.underlying4
  a4 := Try.isAgg4
  z4 := Try.sizeOf4
  v4 := Try.zeroValue4
  t5 := Try.underlying5
  a5 := Try.isAgg5
  z5 := Try.sizeOf5
  v5 := Try.zeroValue5
  t9 := Try.underlying9
  a9 := Try.isAgg9
  z9 := Try.sizeOf9
  v9 := Try.zeroValue9
  t37 := Try.underlying22
  a37 := Try.isAgg22
  z37 := Try.sizeOf22
  v37 := Try.zeroValue22
  t46 := Try.underlying75
  a46 := Try.isAgg75
  z46 := Try.sizeOf75
  v46 := Try.zeroValue75
  t51 := Try.underlying83
  a51 := Try.isAgg83
  z51 := Try.sizeOf83
  v51 := Try.zeroValue83
  t146 := Try.underlying84
  a146 := Try.isAgg84
  z146 := Try.sizeOf84
  v146 := Try.zeroValue84
  g1 := by kernel_rfl }
theorem contains_calls (A B : Addr) (c d : Nat) (s t : List UInt8) (w : World) (hm : ML w) (hc : s.length ≤ c) (hs : s.length ≤ 1048576) (ht : t.length ≤ 1048576) (h1 : Bts w (some A) s) (h2 : Bts w (some B) t) :
    Calls Try.prog 34 #[.slice (some A) s.length c, .slice (some B) t.length d] w (RetN w (.bool (Lib.contains s t))) := by
  obtain ⟨m, hm⟩ := hm
  have h := Any.bytes_Contains_at lays186 A B s.length c t.length d (s.map fun x => (x.toNat : Int)) (t.map fun x => (x.toNat : Int)) m w (by simp) (by simp) (byte_bd s) (byte_bd t) (bts_add h1) (bts_add h2) hc (by omega) (by omega) hm
  rw [bytesOf_map, bytesOf_map] at h
  refine h.mono ?_
  rintro e w' ⟨rfl, q, rfl⟩
  exact ⟨rfl, q, rfl⟩
theorem containsNil_calls (B : Addr) (d : Nat) (t : List UInt8) (w : World) (h0 : 1 ≤ t.length) (ht : t.length ≤ 1048576) (h2 : Bts w (some B) t) :
    Calls Try.prog 34 #[.slice none 0 0, .slice (some B) t.length d] w (Ret w (.bool false)) := by
  have h := Any.bytes_Contains_nil lays186 (some B) t.length d w (by omega) (fun h1 => by
    obtain ⟨b, o, e, _, hc⟩ := h2 0 (by omega)
    exact ⟨b, o, _, e, by simpa using hc⟩)
  refine h.mono ?_
  rintro e w' ⟨rfl, rfl⟩
  exact ⟨by rw [decide_eq_false (by omega)], rfl⟩
section
open Go.WideShapes
theorem argNil_of {H : Type} {enc : TypeId × Value → H} {P : Program} {w : World} {t : TypeId} {v : Value} {d : DataW H} {p : List MemPlace} {e : TypeId} (ht : P.underlying t = some (.slice e)) (h : DataW.Trod enc P w 0 (fun _ => true) true t v d p) : ∀ n c, v = .slice none n c → c = 0 := by
  rintro n c rfl
  obtain ⟨fuel, hf⟩ := h
  rcases DataW.trod_slice ht hf with ⟨e1, _⟩ | ⟨a, len, cap, elems, rest, n', _, e1, _⟩
  · simp [Value.cells] at e1; exact e1.2
  · simp [Value.cells] at e1
end
end Go.Proofs.Ytefkfglkpebbmab
