/- How long, how large: bytes put one by one. Plain. -/
import Derived.Test.YtefkfglkpebbmabComposePart
import Derived.Test.YtefkfglkpebbmabComposeRef
namespace Go.Proofs.Ytefkfglkpebbmab
open Go.RowKit
set_option linter.unusedVariables false

theorem unitsAll_cons (o : Stp) (l : List Stp) : unitsAll (o :: l) = unitsOf o ++ unitsAll l := by simp [unitsAll]
theorem unitsOf_bd {o : Stp} (h : o.cuts) : (unitsOf o).length ≤ 128 := by
  obtain ⟨⟨h1, h2, h3, h4⟩, _⟩ := h
  unfold unitsOf dataU
  rw [List.length_append, lenU_len, List.length_map]
  omega
theorem units_bd : ∀ (l : List Stp), (∀ o ∈ l, o.cuts) → (unitsAll l).length ≤ 128 * l.length
  | [], _ => by simp [unitsAll]
  | o :: l, h => by
    have h1 := unitsOf_bd (h o (by simp))
    have h2 := units_bd l (fun x hx => h x (by simp [hx]))
    rw [unitsAll_cons, List.length_append, List.length_cons]
    omega
theorem units_lt : ∀ (l : List Stp), (∀ o ∈ l, o.cuts) → ∀ u ∈ unitsAll l, u.1 < 64
  | [], _, u, hu => by simp [unitsAll] at hu
  | o :: l, h, u, hu => by
    rw [unitsAll_cons, List.mem_append] at hu
    rcases hu with hu | hu
    · obtain ⟨⟨h1, h2, h3, h4⟩, _⟩ := h o (by simp)
      unfold unitsOf at hu
      rw [List.mem_append] at hu
      rcases hu with hu | hu
      · unfold lenU at hu
        obtain ⟨k, hk, rfl⟩ := List.mem_map.1 hu
        have := List.mem_range.1 hk
        dsimp only; omega
      · unfold dataU at hu
        obtain ⟨x, _, rfl⟩ := List.mem_map.1 hu
        dsimp only; omega
    · exact units_lt l (fun x hx => h x (by simp [hx])) u hu
theorem units_made {old : Int} : ∀ (l : List Stp), Sound old l → ((unitsAll l).length : Int) = made l
  | [], _ => rfl
  | o :: l, h => by
    have h1 := (h o (by simp)).1.1
    have h2 := units_made l (fun x hx => h x (by simp [hx]))
    have h3 := unitsOf_len h1
    rw [unitsAll_cons, List.length_append, made_cons]
    omega
theorem unit_lim {u : Src1} (h : u.1 < 64) : (unitStp u).lim := by
  unfold unitStp Stp.lim
  split
  · simp
  · simp; omega
theorem addU_lim : ∀ (us : List Src1) {k : Nat} {l : List Stp}, Lim k l → (∀ u ∈ us, u.1 < 64) → Lim (k + us.length) (addU l us)
  | [], k, l, h, _ => h
  | u :: us, k, l, h, hu => by
    have := addU_lim us (lim_add h (unit_lim (hu u (by simp)))) (fun v hv => hu v (by simp [hv]))
    rw [List.length_cons, show k + (us.length + 1) = k + 1 + us.length by omega]
    exact this
theorem dataU_lt {d : List UInt8} : ∀ u ∈ dataU d, u.1 < 64 := fun u hu => by
  unfold dataU at hu
  obtain ⟨x, _, rfl⟩ := List.mem_map.1 hu
  dsimp only; omega
theorem dataU_len (d : List UInt8) : (dataU d).length = d.length := by simp [dataU]
theorem dataU_succ {d : List UInt8} {j : Nat} (h : j < d.length) : dataU (d.take (j + 1)) = dataU (d.take j) ++ [((-1 : Int), d[j])] := by
  unfold dataU
  rw [List.take_succ_eq_append_getElem h, List.map_append]; rfl
theorem lim_small {k : Nat} {l : List Stp} (h : Lim k l) (hk : k ≤ 16384) : l.length ≤ 1048576 ∧ ∀ p ∈ l, p.small := by
  refine ⟨by have := h.1; omega, fun p hp => ?_⟩
  obtain ⟨a, b, c, d⟩ := h.2 p hp
  exact ⟨a, b, by omega, by omega⟩
def accU (us : List Src1) (second : List Stp) (k : Nat) : List Stp := (second.take k).foldl (refStep us) []
theorem accU_succ {us : List Src1} {second : List Stp} {k : Nat} (h : k < second.length) : accU us second (k + 1) = refStep us (accU us second k) second[k] := by
  unfold accU
  rw [List.take_succ_eq_append_getElem h, List.foldl_append]; rfl
theorem accU_lim {us : List Src1} {second : List Stp} (hu : ∀ u ∈ us, u.1 < 64) (hc : ∀ o ∈ second, o.cuts) : ∀ k, k ≤ second.length → Lim (128 * k) (accU us second k)
  | 0, _ => ⟨by simp [accU], by simp [accU]⟩
  | k + 1, h => by
    have h1 := accU_lim hu hc k (by omega)
    rw [accU_succ (by omega)]
    obtain ⟨⟨c1, c2, c3, c4⟩, _⟩ := hc _ (List.getElem_mem (show k < second.length by omega))
    have h2 := addU_lim (dataU second[k].data) h1 dataU_lt
    have h3 := addU_lim ((us.drop second[k].at_.toNat).take second[k].len.toNat) h2 (fun u hu' => hu u (List.mem_of_mem_drop (List.mem_of_mem_take hu')))
    refine Lim.mono h3 ?_
    rw [dataU_len, List.length_take]
    omega
end Go.Proofs.Ytefkfglkpebbmab
