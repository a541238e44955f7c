/- The walk of the law SumOne. -/
import Derived.Test.YtefkfglkpebbmaaSum
import Derived.Test.YtefkfglkpebbmaaAux
import Derived.Test.YtefkfglkpebbmaaCloneBytes
import Derived.Test.YtefkfglkpebbmaaConcat23
import Derived.Test.YtefkfglkpebbmaaArgs
namespace Go.Proofs.Ytefkfglkpebbmaa
open Go.RowKit
set_option linter.unusedVariables false

theorem sumStep_inj (s s' : Int) (x : UInt8) (hs : 0 ≤ s ∧ s ≤ 65520) (hs' : 0 ≤ s' ∧ s' ≤ 65520) (h : sumStep s x = sumStep s' x) : s = s' := by
  unfold sumStep at h; omega
theorem sumOn_inj (s s' : Int) (l : List UInt8) (hs : 0 ≤ s ∧ s ≤ 65520) (hs' : 0 ≤ s' ∧ s' ≤ 65520) (h : sumOn s l = sumOn s' l) : s = s' := by
  induction l generalizing s s' with
  | nil => exact h
  | cons x l ih =>
    have := ih (sumStep s x) (sumStep s' x) (sumStep_bd _ _) (sumStep_bd _ _) h
    exact sumStep_inj _ _ _ hs hs' this
theorem sumOn_append (s : Int) (a b : List UInt8) : sumOn s (a ++ b) = sumOn (sumOn s a) b := by unfold sumOn; rw [List.foldl_append]
theorem sumOn_set (l : List UInt8) (k : Nat) (y : UInt8) (h : k < l.length) : (sumOn 1 (l.set k y) = sumOn 1 l) ↔ y = l[k] := by
  constructor
  · intro he
    have h1 : l = l.take k ++ l[k] :: l.drop (k + 1) := by rw [← List.drop_eq_getElem_cons h, List.take_append_drop]
    have h2 : l.set k y = l.take k ++ y :: l.drop (k + 1) := by rw [List.set_eq_take_append_cons_drop, if_pos h]
    rw [h2] at he
    have he2 : sumOn 1 (l.take k ++ y :: l.drop (k + 1)) = sumOn 1 (l.take k ++ l[k] :: l.drop (k + 1)) := by rw [← h1]; exact he
    rw [sumOn_append, sumOn_append] at he2
    have h3 : sumStep (sumOn 1 (l.take k)) y = sumStep (sumOn 1 (l.take k)) l[k] := sumOn_inj _ _ (l.drop (k + 1)) (sumStep_bd _ _) (sumStep_bd _ _) he2
    have hy := y.toNat_lt
    have hx := l[k].toNat_lt
    have : y.toNat = l[k].toNat := by unfold sumStep at h3; omega
    exact UInt8.toNat_inj.1 this
  · rintro rfl
    rw [List.set_getElem_self]

/-- A byte's conversion. -/
theorem u8_ofInt (x : Int) : IntKind.u8.wrap x = ((UInt8.ofNat (x % 256).toNat).toNat : Int) := by
  rw [IntKind.wrap_u8, UInt8.toNat_ofNat']
  omega

set_option maxHeartbeats 1000000 in
theorem SumOne_walk (W : World) (v0 v1 v2 v3 : Value) (b : List UInt8) (k0 x0 : Int) (more : List UInt8) (g0 : ArgBytes W v0 b) (g1 : ArgInt v1 k0) (g2 : ArgInt v2 x0) (g3 : ArgBytes W v3 more) :
    Calls Try.prog 6 #[v0, v1, v2, v3] W (RetB W (.bool true)) := by
  obtain ⟨A, c, rfl, hc, hl, hr⟩ := g0
  obtain ⟨rfl, hk1, hk2⟩ := g1
  obtain ⟨rfl, hx1, hx2⟩ := g2
  obtain ⟨B, d, rfl, hd, hm, hs⟩ := g3
  have hbd := sumOn_bd 1 b (by omega)
  have hcat : sumOn 1 (b ++ more) = sumOn (sumOn 1 b) more := sumOn_append _ _ _
  obtain ⟨l2, hl2⟩ : ∃ l2, b ++ more = l2 := ⟨_, rfl⟩
  have hll : l2.length ≤ 281474976702464 := by rw [← hl2, List.length_append]; omega
  rw [hl2] at hcat
  have HC := Lib.hid hcat
  have HL := Lib.hid hl2
  clear hl2
  go_enter Try.func6, Try.ntmps6
  go_wp2_with fail
  refine (sumOf_calls A c b W (by omega) hr).mono ?_
  rintro e w1 ⟨rfl, rfl⟩
  go_wp2_with fail
  refine (sumOn_calls B d more _ _ hbd.1 hbd.2 (by omega) hs).mono ?_
  rintro e w1 ⟨rfl, rfl⟩
  go_wp2_with fail
  refine (added_calls _).mono ?_
  rintro e w1 ⟨rfl, hb1⟩
  have hr1 := hr.stays hb1
  have hs1 := hs.stays hb1
  clear hcat
  go_wp2_with fail
  have hcc := concat2_calls (w := w1.alloc (.cells #[.slice A b.length c, .slice B more.length d] 27)) (blk_top rfl) (by omega) (hr1.stays ((Below.refl _ _).alloc (Nat.le_refl _) _)) (hs1.stays ((Below.refl _ _).alloc (Nat.le_refl _) _))
  rw [HL.out] at hcc
  refine hcc.mono ?_
  clear hcc
  rintro e w2 ⟨A2, c2, rfl, ho2, hb2⟩
  have hb12 : Below W.heap.size W w2 := hb1.trans ((((Below.refl _ _).alloc (Nat.le_refl _) _).trans (hb2.mono (by simp))).mono hb1.size)
  have hr2 := hr.stays hb12
  have hbt := (ho2.src).bts
  clear hr1 hs1 hs hr hb1 hb2 ho2
  go_wp2_with fail
  refine (sumOf_calls A2 c2 l2 _ hll hbt).mono ?_
  rintro e w3 ⟨rfl, rfl⟩
  rw [HC.out]
  by_cases h0 : b.length = 0
  · have h0' : ((b.length : Int) == 0) = true := by rw [beq_iff_eq]; omega
    clear hbt
    go_wp2_with fail
    go_ret
    exact ⟨rfl, hb12⟩
  have h0' : ((b.length : Int) == 0) = false := by rw [beq_eq_false_iff_ne]; omega
  go_wp2_with fail
  refine (cloneBytes_calls A b.length c (b.map bv) _ (by simp) (by omega) hr2.src (bv_one b)).mono ?_
  rintro e w3 ⟨A3, c3, rfl, ho3, hb3⟩
  have hb2s := hb12.size
  have hb13 : Below W.heap.size W w3 := hb12.trans (hb3.mono hb12.size)
  have hr3 := hr2.stays hb3
  obtain ⟨g, rfl, hg1, hg2⟩ := ho3.form (by omega)
  obtain ⟨k, hk⟩ : ∃ k : Nat, k0 % (b.length : Int) = k := ⟨(k0 % (b.length : Int)).toNat, by have := Int.emod_nonneg k0 (show (b.length : Int) ≠ 0 by omega); omega⟩
  have hkb : k < b.length := by have := Int.emod_lt_of_pos k0 (show 0 < (b.length : Int) by omega); omega
  have a1 := at_calls k0 (b.length : Int) w3 hk1 hk2 (by omega) (by omega)
  rw [hk] at a1
  have HA := Lib.hid a1
  clear a1 hk hbt hb12
  go_wp2_with fail
  refine HA.out.mono ?_
  rintro e w4 ⟨rfl, rfl⟩
  have hb34 := hb3.setCell (p := ⟨g, k, none⟩) hg1 (.int .u8 (x0 % 256))
  have hb14 := hb13.setCell (p := ⟨g, k, none⟩) (Nat.le_trans hb2s hg1) (.int .u8 (x0 % 256))
  have hcell := ho3.cellAt k (by omega)
  rw [List.getElem?_eq_getElem (by simpa using hkb)] at hcell
  have hfr := ho3.frozenAt k
  obtain ⟨y, hy⟩ : ∃ y : UInt8, (y.toNat : Int) = x0 % 256 := ⟨UInt8.ofNat (x0 % 256).toNat, by rw [UInt8.toNat_ofNat']; omega⟩
  have ho4 := ho3.stored k (.int .u8 (x0 % 256))
  have e4 : (b.map bv).set k (.int .u8 (x0 % 256)) = (b.set k y).map bv := by rw [List.map_set]; unfold bv; rw [hy]
  rw [e4] at ho4
  have q1 := ho4.src.bts
  have q2 := hr2.stays hb34
  have hc4 : (w3.setCell ⟨g, k, none⟩ (.int .u8 (x0 % 256))).cell? ⟨g, k, none⟩ = some (.int .u8 (x0 % 256)) := by
    rw [ho4.cellAt k (by omega), List.getElem?_eq_getElem (by simpa using hkb)]
    simp [bv, hy]
  obtain ⟨b5, o5, rfl, hs5, hc5⟩ := q2 k hkb
  have H1 := fun n => sumOf_calls (some ⟨g, 0, none⟩) c3 (b.set k y) ((w3.setCell ⟨g, k, none⟩ (.int .u8 (x0 % 256))).drewN n) (by rw [List.length_set]; omega) (q1.drewN n)
  have H2 := fun n => sumOf_calls (some ⟨b5, o5, none⟩) c b ((w3.setCell ⟨g, k, none⟩ (.int .u8 (x0 % 256))).drewN n) (by omega) (q2.drewN n)
  rw [List.length_set] at H1
  have hiff := sumOn_set b k y hkb
  have K1 := Lib.hid H1
  have K2 := Lib.hid H2
  have HB := Lib.hid hb14
  clear H1 H2 e4 ho4 q1 q2 hb34 hb14 hr2 hr3 hb13 hb3
  go_wp2_with fail
  by_cases hyb : y = b[k]
  · have d1 : (x0 % 256 == (b[k].toNat : Int)) = true := by rw [← hy, hyb]; simp
    have d2 : (sumOn 1 (b.set k y) == sumOn 1 b) = true := by rw [beq_iff_eq]; exact hiff.2 hyb
    clear hiff hyb hy
    go_quiet ((go_at_call 17; first | with_reducible exact quietRet (K1.out _) | with_reducible exact quietRet (K2.out _)))
    go_wp2_with fail
    go_ret
    exact ⟨rfl, Below.drewN' HB.out _⟩
  · have d1 : (x0 % 256 == (b[k].toNat : Int)) = false := by
      rw [← hy, beq_eq_false_iff_ne]; exact fun e => hyb (UInt8.toNat_inj.1 (by omega))
    have d2 : (sumOn 1 (b.set k y) == sumOn 1 b) = false := by rw [beq_eq_false_iff_ne]; exact fun e => hyb (hiff.1 e)
    clear hiff hyb hy
    go_quiet ((go_at_call 17; first | with_reducible exact quietRet (K1.out _) | with_reducible exact quietRet (K2.out _)))
    go_wp2_with fail
    go_ret
    exact ⟨rfl, Below.drewN' HB.out _⟩
end Go.Proofs.Ytefkfglkpebbmaa
