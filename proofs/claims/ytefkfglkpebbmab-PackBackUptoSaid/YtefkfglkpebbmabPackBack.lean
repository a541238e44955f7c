/- The walk of the law PackBack. No conditions. -/
import Derived.Test.YtefkfglkpebbmabPacked
import Derived.Test.YtefkfglkpebbmabConcat23
import Derived.Test.YtefkfglkpebbmabArgs
import Derived.IntWalk
namespace Go.Proofs.Ytefkfglkpebbmab
open Go.RowKit
set_option linter.unusedVariables false
set_option linter.unusedSimpArgs false

set_option maxRecDepth 100000 in
set_option maxHeartbeats 8000000 in
theorem PackBack_walk (W : World) (v0 v1 : Value) (b c : List UInt8) (g0 : ArgBytes W v0 b) (g1 : ArgBytes W v1 c) :
    Calls Try.prog 4 #[v0, v1] W (RetB W (.bool true)) := by
  obtain ⟨A, ca, rfl, hca, hla, hA⟩ := g0
  obtain ⟨B, cb, rfl, hcb, hlb, hB⟩ := g1
  obtain ⟨p, hp⟩ : ∃ p, packed b = p := ⟨_, rfl⟩
  obtain ⟨q, hq⟩ : ∃ q, packed c = q := ⟨_, rfl⟩
  have hpl : p.length ≤ b.length + b.length / 127 + 1 := hp ▸ packed_len b
  have hql : q.length ≤ c.length + c.length / 127 + 1 := hq ▸ packed_len c
  have hpp : Packs p b := hp ▸ packed_packs b
  have hqq : Packs q c := hq ▸ packed_packs c
  have U1 : Hid (unpacked p (b.length : Int) = (b, 0)) := Lib.hid (by rw [unpack_packs hpp, if_pos (.inl (Int.le_refl _))])
  have U2 : Hid (b ≠ [] → unpacked p ((b.length : Int) - 1) = ([], 1)) := Lib.hid (fun h => by rw [unpack_packs hpp, if_neg (by simp [h]; omega)])
  have U3 : Hid (unpacked (p ++ q) ((b.length : Int) + (c.length : Int)) = (b ++ c, 0)) := Lib.hid (by rw [unpack_packs (hpp.append hqq), if_pos (.inl (by simp))])
  have HP := Lib.hid hp
  have HQ := Lib.hid hq
  have HA := Lib.hid hA
  have HBB := Lib.hid hB
  have HPL := Lib.hid hpl
  have HQL := Lib.hid hql
  have q1 : (p.length : Int) ≤ (b.length : Int) + (b.length : Int) / 127 + 1 := by omega
  clear hp hq hA hB hpl hql hpp hqq
  have dq : decide ((b.length : Int) + (b.length : Int) / 127 + 1 < (p.length : Int)) = false := by simp <;> omega
  have i1 : IntKind.i64.wrap ((b.length : Int) + (b.length : Int) / 127) = (b.length : Int) + (b.length : Int) / 127 := IntWalk.i64_in _ (by omega)
  have i2 : IntKind.i64.wrap ((b.length : Int) + (b.length : Int) / 127 + 1) = (b.length : Int) + (b.length : Int) / 127 + 1 := IntWalk.i64_in _ (by omega)
  have i3 : IntKind.i64.wrap ((b.length : Int) + (c.length : Int)) = (b.length : Int) + (c.length : Int) := IntWalk.i64_in _ (by omega)
  have hi1 : I64 (b.length : Int) := ⟨by omega, by omega⟩
  have hi2 : I64 ((b.length : Int) - 1) := ⟨by omega, by omega⟩
  have hi3 : I64 ((b.length : Int) + (c.length : Int)) := ⟨by omega, by omega⟩
  go_enter Try.func4, Try.ntmps4
  go_wp2_with fail
  refine (packB_calls HP.out rfl hca hla HA.out).mono ?_
  rintro e w1 ⟨A1, c1, rfl, ho1, hb1⟩
  have HB1 : Hid (Below W.heap.size W w1) := Lib.hid hb1
  have HP1 := Lib.hid ho1.src.bts
  have hc1 : p.length ≤ c1 := ho1.le
  clear ho1 hb1
  go_wp2_with fail
  refine (unpackB_calls U1.out rfl hc1 (by have := HPL.out; omega) hi1 HP1.out).mono ?_
  rintro e w2 ⟨A2, c2, rfl, ho2, hb2⟩
  have HB2 : Hid (Below W.heap.size W w2) := Lib.hid (HB1.out.trans (hb2.mono HB1.out.size))
  have HP2 := Lib.hid (HP1.out.stays hb2)
  have HU2 := Lib.hid ho2.src.bts
  have hc2 : b.length ≤ c2 := ho2.le
  clear ho2 hb2
  go_wp2_with fail
  refine (packed_calls _).mono ?_
  rintro e w3 ⟨rfl, hb3⟩
  have HB3 : Hid (Below W.heap.size W w3) := Lib.hid (HB2.out.trans (hb3.mono HB2.out.size))
  have HP3 := Lib.hid (HP2.out.stays hb3)
  have HU3 := Lib.hid (HU2.out.stays hb3)
  clear hb3
  go_wp2_with fail
  refine (eqB_calls rfl rfl hc2 hca HU3.out (HA.out.stays HB3.out) (decide_eq_true rfl)).mono ?_
  rintro e w4 ⟨rfl, rfl⟩
  by_cases hb0 : 0 < b.length
  · have dz : decide ((0 : Int) < (b.length : Int)) = true := by simp <;> omega
    have U2 := Lib.hid (U2.out (List.ne_nil_of_length_pos hb0))
    go_wp2_with fail
    refine (unpackB_calls U2.out rfl hc1 (by have := HPL.out; omega) hi2 HP3.out).mono ?_
    rintro e w4 ⟨A4, c4, rfl, ho4, hb4⟩
    have HB4 : Hid (Below W.heap.size W w4) := Lib.hid (HB3.out.trans (hb4.mono HB3.out.size))
    have HP4 := Lib.hid (HP3.out.stays hb4)
    clear ho4 hb4
    go_wp2_with fail
    refine (packB_calls HQ.out rfl hcb hlb (HBB.out.stays HB4.out)).mono ?_
    rintro e w5 ⟨A5, c5, rfl, ho5, hb5⟩
    have HB5 : Hid (Below W.heap.size W w5) := Lib.hid (HB4.out.trans (hb5.mono HB4.out.size))
    have HP5 := Lib.hid (HP4.out.stays hb5)
    have HQ5 := Lib.hid ho5.src.bts
    have hc5 : q.length ≤ c5 := ho5.le
    clear ho5 hb5
    go_wp2_with fail
    have hba := fun o => (Below.refl w5.heap.size w5).alloc (Nat.le_refl _) o
    have HBA := Lib.hid hba
    have HB5a : Hid (∀ o, Below W.heap.size W (w5.alloc o)) := Lib.hid (fun o => HB5.out.alloc HB5.out.size o)
    clear hba
    refine (concat2_calls (a := p) (b := q) (blk_top rfl) (by have := HPL.out; have := HQL.out; omega) (HP5.out.stays (HBA.out _)) (HQ5.out.stays (HBA.out _))).mono ?_
    rintro e w6 ⟨A6, c6, rfl, ho6, hb6⟩
    have HB6 : Hid (Below W.heap.size W w6) := Lib.hid ((HB5a.out _).trans (hb6.mono (HB5a.out _).size))
    have HP6 := Lib.hid ho6.src.bts
    have hc6 : (p ++ q).length ≤ c6 := ho6.le
    clear ho6 hb6 HBA HB5a
    go_wp2_with fail
    refine (unpackB_calls U3.out (by simp) hc6 (by have := HPL.out; have := HQL.out; simp; omega) hi3 HP6.out).mono ?_
    rintro e w7 ⟨A7, c7, rfl, ho7, hb7⟩
    have HB7 : Hid (Below W.heap.size W w7) := Lib.hid (HB6.out.trans (hb7.mono HB6.out.size))
    have HU7 := Lib.hid ho7.src.bts
    have hc7 : (b ++ c).length ≤ c7 := ho7.le
    clear ho7 hb7
    go_wp2_with fail
    have HB7a : Hid (∀ o, Below W.heap.size W (w7.alloc o)) := Lib.hid (fun o => HB7.out.alloc HB7.out.size o)
    have HU7a : Hid (∀ o, Bts (w7.alloc o) A7 (b ++ c)) := Lib.hid (fun o => HU7.out.stays ((Below.refl w7.heap.size w7).alloc (Nat.le_refl _) o))
    refine (concat2_calls (a := b) (b := c) (blk_top rfl) (by omega) (HA.out.stays (HB7a.out _)) (HBB.out.stays (HB7a.out _))).mono ?_
    rintro e w8 ⟨A8, c8, rfl, ho8, hb8⟩
    have HB8 : Hid (Below W.heap.size W w8) := Lib.hid ((HB7a.out _).trans (hb8.mono (HB7a.out _).size))
    have HU8 := Lib.hid ((HU7a.out _).stays hb8)
    have HC8 := Lib.hid ho8.src.bts
    have hc8 : (b ++ c).length ≤ c8 := ho8.le
    clear ho8 hb8 HB7a HU7a
    go_wp2_with fail
    refine (eqB_calls (l := b ++ c) (k := b ++ c) (by simp) (by simp) (by simpa using hc7) (by simpa using hc8) HU8.out HC8.out (decide_eq_true rfl)).mono ?_
    rintro e w9 ⟨rfl, rfl⟩
    go_wp2_with fail
    go_ret
    exact ⟨rfl, HB8.out⟩
  · have dz : decide ((0 : Int) < (b.length : Int)) = false := decide_eq_false (by omega)
    clear U2
    go_wp2_with fail
    refine (packB_calls HQ.out rfl hcb hlb (HBB.out.stays HB3.out)).mono ?_
    rintro e w5 ⟨A5, c5, rfl, ho5, hb5⟩
    have HB5 : Hid (Below W.heap.size W w5) := Lib.hid (HB3.out.trans (hb5.mono HB3.out.size))
    have HP5 := Lib.hid (HP3.out.stays hb5)
    have HQ5 := Lib.hid ho5.src.bts
    have hc5 : q.length ≤ c5 := ho5.le
    clear ho5 hb5
    go_wp2_with fail
    have hba := fun o => (Below.refl w5.heap.size w5).alloc (Nat.le_refl _) o
    have HBA := Lib.hid hba
    have HB5a : Hid (∀ o, Below W.heap.size W (w5.alloc o)) := Lib.hid (fun o => HB5.out.alloc HB5.out.size o)
    clear hba
    refine (concat2_calls (a := p) (b := q) (blk_top rfl) (by have := HPL.out; have := HQL.out; omega) (HP5.out.stays (HBA.out _)) (HQ5.out.stays (HBA.out _))).mono ?_
    rintro e w6 ⟨A6, c6, rfl, ho6, hb6⟩
    have HB6 : Hid (Below W.heap.size W w6) := Lib.hid ((HB5a.out _).trans (hb6.mono (HB5a.out _).size))
    have HP6 := Lib.hid ho6.src.bts
    have hc6 : (p ++ q).length ≤ c6 := ho6.le
    clear ho6 hb6 HBA HB5a
    go_wp2_with fail
    refine (unpackB_calls U3.out (by simp) hc6 (by have := HPL.out; have := HQL.out; simp; omega) hi3 HP6.out).mono ?_
    rintro e w7 ⟨A7, c7, rfl, ho7, hb7⟩
    have HB7 : Hid (Below W.heap.size W w7) := Lib.hid (HB6.out.trans (hb7.mono HB6.out.size))
    have HU7 := Lib.hid ho7.src.bts
    have hc7 : (b ++ c).length ≤ c7 := ho7.le
    clear ho7 hb7
    go_wp2_with fail
    have HB7a : Hid (∀ o, Below W.heap.size W (w7.alloc o)) := Lib.hid (fun o => HB7.out.alloc HB7.out.size o)
    have HU7a : Hid (∀ o, Bts (w7.alloc o) A7 (b ++ c)) := Lib.hid (fun o => HU7.out.stays ((Below.refl w7.heap.size w7).alloc (Nat.le_refl _) o))
    refine (concat2_calls (a := b) (b := c) (blk_top rfl) (by omega) (HA.out.stays (HB7a.out _)) (HBB.out.stays (HB7a.out _))).mono ?_
    rintro e w8 ⟨A8, c8, rfl, ho8, hb8⟩
    have HB8 : Hid (Below W.heap.size W w8) := Lib.hid ((HB7a.out _).trans (hb8.mono (HB7a.out _).size))
    have HU8 := Lib.hid ((HU7a.out _).stays hb8)
    have HC8 := Lib.hid ho8.src.bts
    have hc8 : (b ++ c).length ≤ c8 := ho8.le
    clear ho8 hb8 HB7a HU7a
    go_wp2_with fail
    refine (eqB_calls (l := b ++ c) (k := b ++ c) (by simp) (by simp) (by simpa using hc7) (by simpa using hc8) HU8.out HC8.out (decide_eq_true rfl)).mono ?_
    rintro e w9 ⟨rfl, rfl⟩
    go_wp2_with fail
    go_ret
    exact ⟨rfl, HB8.out⟩
end Go.Proofs.Ytefkfglkpebbmab
