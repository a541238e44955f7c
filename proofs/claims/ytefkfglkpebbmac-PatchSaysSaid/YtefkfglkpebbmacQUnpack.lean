/- The walk of pack.Unpack. No conditions. -/
import Derived.Test.YtefkfglkpebbmacQRepeat
import Derived.Test.YtefkfglkpebbmacQBase
import Derived.Deep.LoopGhost
namespace Go.Proofs.Ytefkfglkpebbmac
open Go.RowKit
set_option linter.unusedVariables false
set_option linter.unusedSimpArgs false

theorem mid_drop {w : World} {A : Option Addr} {l : List UInt8} (h : Bts w A l) (c k : Nat) (hc : l.length ≤ c) : Bts w (if c = k then A else Option.map (fun x => x.add k) A) (l.drop k) := by
  by_cases e : k < l.length
  · obtain ⟨b, o, rfl, hlt, _⟩ := h 0 (by omega)
    rw [if_neg (by omega)]
    have e2 : Option.map (fun x : Addr => x.add k) (some ⟨b, o, none⟩) = some ⟨b, o + k, none⟩ := by simp [Addr.add]
    rw [e2]
    intro i hi
    rw [List.length_drop] at hi
    obtain ⟨b', o', e3, h1, h2⟩ := h (k + i) (by omega)
    injection e3 with e3
    injection e3 with e4 e5
    subst e4 e5
    exact ⟨b, o + k, rfl, h1, by rw [Nat.add_assoc, h2]; simp⟩
  · rw [List.drop_eq_nil_of_le (by omega)]; exact Bts.nil _ _
theorem mid_at {w : World} {ab ao : Nat} {l : List UInt8} (h : Bts w (some ⟨ab, ao, none⟩) l) (k : Nat) : Bts w (some ⟨ab, ao + k, none⟩) (l.drop k) := by
  intro i hi
  rw [List.length_drop] at hi
  obtain ⟨b', o', e3, h1, h2⟩ := h (k + i) (by omega)
  injection e3 with e3
  injection e3 with e4 e5
  subst e4 e5
  exact ⟨ab, ao + k, rfl, h1, by rw [Nat.add_assoc, h2]; simp⟩
theorem mid_take {w : World} {A : Option Addr} {l : List UInt8} (h : Bts w A l) (k : Nat) : Bts w A (l.take k) := by
  intro i hi
  rw [List.length_take] at hi
  obtain ⟨b, o, rfl, h1, h2⟩ := h i (by omega)
  exact ⟨b, o, rfl, h1, by simpa using h2⟩
/-- It returns bytes of the call's own, and a number. -/
def UnRet (w : World) (r : List UInt8 × Int) : Ending → World → Prop := fun en w' =>
  ∃ A c, en = .returned (.tuple #[.slice A r.1.length c, iv r.2]) ∧ Own w' w.heap.size 5 1 A r.1.length c (r.1.map bv) ∧ Below w.heap.size w w'
theorem and127 (x : UInt8) : bits .and .u8 (x.toNat : Int) 127 = ((x.toNat % 128 : Nat) : Int) := by
  have key : ∀ n : Fin 256, bits .and .u8 (n.val : Int) 127 = ((n.val % 128 : Nat) : Int) := by decide +kernel
  exact key ⟨x.toNat, x.toNat_lt⟩
set_option maxRecDepth 100000 in
set_option maxHeartbeats 8000000 in
theorem unpack_calls (Ab : Option Addr) (cb : Nat) (b : List UInt8) (most : Int) (w : World) (hc : b.length ≤ cb) (hl : b.length ≤ 4194304) (hm : I64 most) (hB : Bts w Ab b) :
    Calls Try.prog 104 #[.slice Ab b.length cb, iv most] w (UnRet w (unpacked b most)) := by
  obtain ⟨hm1, hm2⟩ := hm
  have HB0 := Lib.hid hB
  have HBB : Hid (Below w.heap.size w w) := Lib.hid (Below.refl _ _)
  have HO0 : Hid (Own w w.heap.size 5 1 none 0 0 (([] : List UInt8).map bv)) := Lib.hid (Own.nil_ _ _ _ _)
  clear hB
  go_enter Try.func104, Try.ntmps104
  go_wp2_with fail
  generalize hbase : w.heap.size = base at *
  have HBE := Lib.hid hbase
  clear hbase
  go_loopg [0, 6] b.length (fun g y o wr => ∃ (l out : List UInt8) (A B : Option Addr) (c d : Nat), y = .slice A l.length c ∧ o = .slice B out.length d ∧ l.length ≤ c ∧ l.length ≤ g ∧ Hid (unpackAt most l out = unpacked b most) ∧ ((out.length : Int) ≤ most ∨ out = []) ∧ out.length + 127 * l.length ≤ 127 * b.length ∧ Hid (Bts w A l) ∧ Hid (Own wr base 5 1 B out.length d (out.map bv)) ∧ Hid (Below base w wr))
  case atStart => exact ⟨b, [], Ab, none, cb, 0, rfl, rfl, hc, Nat.le_refl _, Lib.hid rfl, .inr rfl, by simp, HB0, HO0, HBB⟩
  case round =>
    clear HB0 HO0 HBB
    rename World => wo
    obtain ⟨l, out, A, B, c, d, rfl, rfl, hlc, hlg, HE, hom, hob, HBt, HO, HB⟩ := hrel
    rcases l with _ | ⟨x, r⟩
    · have hz : (out, (0 : Int)) = unpacked b most := by rw [← HE.out, unpackAt_nil]
      have HZ := Lib.hid hz
      simp only [List.length_nil, Int.ofNat_eq_natCast, Int.natCast_zero] at *
      clear hz
      go_wp2_with fail
      go_ret2
      exact ⟨B, d, by rw [← HZ.out]; rfl, by rw [← HZ.out]; exact HBE.out ▸ HO.out, HBE.out ▸ HB.out⟩
    · simp only [List.length_cons] at *
      have HBW : Hid (∀ w1, Below base w w1 → Bts w1 A (x :: r)) := Lib.hid (fun w1 h => HBt.out.stays (HBE.out ▸ h))
      obtain ⟨ab, ao, rfl, hab, hx⟩ := HBW.out wo HB.out 0 (by simp)
      simp only [Nat.add_zero, List.getElem_cons_zero] at hx
      have hxl := x.toNat_lt
      obtain ⟨n, hn⟩ : ∃ n, n = x.toNat % 128 := ⟨_, rfl⟩
      have hand : bits .and .u8 (x.toNat : Int) 127 = (n : Int) := by rw [and127, hn]
      have hn1 : n < 128 := by omega
      have HN := Lib.hid hn
      clear hn
      have dl : decide ((0 : Int) < ((r.length + 1 : Nat) : Int)) = true := by simp <;> omega
      have hw1 : IntKind.i64.wrap (most - (out.length : Int)) = most - (out.length : Int) := IntWalk.i64_in _ (by have : (out.length : Int) ≤ most ∨ (out.length : Int) = 0 := (hom.imp id (fun h => by rw [h]; rfl)); omega)
      have hw2 : IntKind.i64.wrap (1 + (n : Int)) = 1 + (n : Int) := IntWalk.i64_in _ (by omega)
      have HOM := Lib.hid hom
      clear hom
      by_cases n0 : n = 0
      · subst n0
        have hz : (([] : List UInt8), (3 : Int)) = unpacked b most := by rw [← HE.out, unpackAt_zero HN.out.symm]
        have HZ := Lib.hid hz
        clear hz HE
        go_wp2_with fail
        go_ret2
        exact ⟨none, 0, by rw [← HZ.out]; rfl, by rw [← HZ.out]; exact Own.nil_ _ _ _ _, HBE.out ▸ HB.out⟩
      · have dn : ((n : Int) == 0) = false := by simp <;> omega
        have hn0 : x.toNat % 128 ≠ 0 := by rw [← HN.out]; exact n0
        by_cases h8 : 128 ≤ x.toNat
        · have hu := unpackAt_run (most := most) (r := r) (out := out) hn0 h8
          rw [HE.out, ← HN.out] at hu
          have d8 : decide ((128 : Int) ≤ (x.toNat : Int)) = true := by simp <;> omega
          rcases r with _ | ⟨y, r⟩
          · have hz : (([] : List UInt8), (7 : Int)) = unpacked b most := by rw [hu, if_pos (by simp)]
            simp only [List.length_nil, Nat.zero_add, Int.natCast_one] at *
            clear hu
            have HZ := Lib.hid hz
            clear hz HE
            go_wp2_with fail
            go_ret2
            exact ⟨none, 0, by rw [← HZ.out]; rfl, by rw [← HZ.out]; exact Own.nil_ _ _ _ _, HBE.out ▸ HB.out⟩
          · simp only [List.length_cons] at *
            have d2 : decide ((((r.length + 1 + 1 : Nat)) : Int) < 2) = false := by simp <;> omega
            rw [if_neg (by omega)] at hu
            by_cases hgt : most - (out.length : Int) < (n : Int)
            · have dg : decide (most - (out.length : Int) < (n : Int)) = true := by simp <;> omega
              have hz : (([] : List UInt8), (1 : Int)) = unpacked b most := by rw [hu, if_pos hgt]
              clear hu
              have HZ := Lib.hid hz
              clear hz HE
              go_wp2_with fail
              go_ret2
              exact ⟨none, 0, by rw [← HZ.out]; rfl, by rw [← HZ.out]; exact Own.nil_ _ _ _ _, HBE.out ▸ HB.out⟩
            · have dg : decide (most - (out.length : Int) < (n : Int)) = false := by simp <;> omega
              rw [if_neg hgt, List.drop_succ_cons, List.drop_zero, List.headD_cons] at hu
              have HU := Lib.hid hu
              have HY : Hid (Bts wo (some ⟨ab, ao + 1, none⟩) [y]) := Lib.hid (fun i hi => by
                have e0 : i = 0 := by simp at hi; omega
                subst e0
                obtain ⟨b', o', e3, h1, h2⟩ := HBW.out wo HB.out 1 (by simp)
                injection e3 with e3
                injection e3 with e4 e5
                subst e4 e5
                exact ⟨ab, ao + 1, rfl, h1, by simpa using h2⟩)
              have HG : Hid (¬ most - (out.length : Int) < (n : Int)) := Lib.hid hgt
              have hcc : ¬ c = 1 := by omega
              have j1 : (2 : Int) ≤ (c : Int) := by omega
              have hob1 : out.length + n ≤ 137438953472 := by omega
              clear hu hgt
              go_wp2_with fail
              refine (repeat_calls (some ⟨ab, ao + 1, none⟩) (c - 1) y n wo (by omega) (by omega) HY.out).mono ?_
              rintro e w1 ⟨A1, c1, rfl, ho1, hb1⟩
              rw [List.length_replicate] at ho1
              have hle : base ≤ w1.heap.size := Nat.le_trans (Nat.le_trans (Nat.le_of_eq HBE.out.symm) HB.out.size) hb1.size
              have hs1 := ho1.src
              have ho2 := HO.out.below (B := 0) hb1
              have hls : ((List.replicate n y).map bv).length = n * 1 := by simp
              have HB1 : Hid (Below base w w1) := Lib.hid (HB.out.trans (hb1.mono (Nat.le_trans (Nat.le_of_eq HBE.out.symm) HB.out.size)))
              simp only [List.length_replicate]
              go_wp2_with (at_builtin; go_must (refine wpList_app w1 rfl _ _ 22 rfl elBytes base B out.length d (out.map bv) rfl ho2 A1 n c1 ((List.replicate n y).map bv) rfl hs1 hls (bv_one _) hob1 hle ?_; intro A' c' w2 hown hgr hbel hor))
              all_goals (
                have HO2 := Lib.hid hown
                have HB2 : Hid (Below base w w2) := Lib.hid (HB1.out.trans hbel)
                have HM2 : Hid (((out ++ List.replicate n y).length : Int) ≤ most ∨ out ++ List.replicate n y = []) := Lib.hid (.inl (by have := HG.out; simp; omega))
                clear hown hgr hbel hor hs1 ho2 ho1 hb1 hls hle hob1
                go_roundg r.length
                case rel => first
                  | exact ⟨r, out ++ List.replicate n y, some ⟨ab, ao + 2, none⟩, A', c - 2, c', rfl, by simp, by omega, by omega, Lib.hid HU.out.symm, HM2.out, by simp; omega, Lib.hid (mid_at HBt.out 2), Lib.hid (by simpa using HO2.out), HB2⟩
                  | exact ⟨r, out ++ List.replicate n y, some ⟨ab, ao, none⟩, A', 0, c', rfl, by simp, by omega, by omega, Lib.hid HU.out.symm, HM2.out, by simp; omega, Lib.hid (by rw [List.eq_nil_of_length_eq_zero (by omega : r.length = 0)]; exact Bts.nil _ _), Lib.hid (by simpa using HO2.out), HB2⟩
                case measure => omega)
        · have hu := unpackAt_plain (most := most) (r := r) (out := out) hn0 h8
          rw [HE.out, ← HN.out] at hu
          have d8 : decide ((128 : Int) ≤ (x.toNat : Int)) = false := by simp <;> omega
          by_cases h7 : r.length < n
          · have hz : (([] : List UInt8), (7 : Int)) = unpacked b most := by rw [hu, if_pos h7]
            have d2 : decide (((r.length + 1 : Nat) : Int) < 1 + (n : Int)) = true := by simp <;> omega
            clear hu
            have HZ := Lib.hid hz
            clear hz HE
            go_wp2_with fail
            go_ret2
            exact ⟨none, 0, by rw [← HZ.out]; rfl, by rw [← HZ.out]; exact Own.nil_ _ _ _ _, HBE.out ▸ HB.out⟩
          · have d2 : decide (((r.length + 1 : Nat) : Int) < 1 + (n : Int)) = false := by simp <;> omega
            rw [if_neg h7] at hu
            by_cases hgt : most - (out.length : Int) < (n : Int)
            · have dg : decide (most - (out.length : Int) < (n : Int)) = true := by simp <;> omega
              have hz : (([] : List UInt8), (1 : Int)) = unpacked b most := by rw [hu, if_pos hgt]
              have HZ := Lib.hid hz
              clear hu hz HE
              go_wp2_with fail
              go_ret2
              exact ⟨none, 0, by rw [← HZ.out]; rfl, by rw [← HZ.out]; exact Own.nil_ _ _ _ _, HBE.out ▸ HB.out⟩
            · have dg : decide (most - (out.length : Int) < (n : Int)) = false := by simp <;> omega
              rw [if_neg hgt] at hu
              have HU := Lib.hid hu
              have HG : Hid (¬ most - (out.length : Int) < (n : Int)) := Lib.hid hgt
              have hcc : ¬ c = 1 := by omega
              have j1 : (1 : Int) + (n : Int) ≤ (c : Int) := by omega
              have j2 : (1 : Int) ≤ 1 + (n : Int) := by omega
              have hob1 : out.length + (1 + n - 1) ≤ 137438953472 := by omega
              have hs1 : Src wo (some ⟨ab, ao + 1, none⟩) ((r.take n).map bv) := (mid_take (mid_at (HBW.out wo HB.out) 1) n).src
              have hls : ((r.take n).map bv).length = (1 + n - 1) * 1 := by simp; omega
              have hle : base ≤ wo.heap.size := Nat.le_trans (Nat.le_of_eq HBE.out.symm) HB.out.size
              have ho2 := HO.out
              clear hu hgt
              go_wp2_with (at_builtin; go_must (refine wpList_app wo rfl _ _ 22 rfl elBytes base B out.length d (out.map bv) rfl ho2 (some ⟨ab, ao + 1, none⟩) (1 + n - 1) (c - 1) ((r.take n).map bv) rfl hs1 hls (bv_one _) hob1 hle ?_; intro A' c' w2 hown hgr hbel hor))
              all_goals (
                have e1n : out.length + n = (out ++ r.take n).length := by simp; omega
                rw [show out.length + (1 + n - 1) = (out ++ r.take n).length by simp; omega] at hown
                have HO2 := Lib.hid hown
                have HB2 : Hid (Below base w w2) := Lib.hid (HB.out.trans hbel)
                have HM2 : Hid (((out ++ r.take n).length : Int) ≤ most ∨ out ++ r.take n = []) := Lib.hid (.inl (by have := HG.out; simp; omega))
                have HE1 : Hid (r.length + 1 - (1 + n) = (r.drop n).length) := Lib.hid (by simp; omega)
                have HE0 : Hid (out.length + n = (out ++ r.take n).length) := Lib.hid e1n
                clear hown hgr hbel hor hs1 ho2 hls hle hob1 e1n
                go_roundg r.length
                case rel => first
                  | (have h9 : ¬ c = 1 + n := by assumption
                     exact ⟨r.drop n, out ++ r.take n, some ⟨ab, ao + (1 + n), none⟩, A', c - (1 + n), c', by rw [HE1.out], by rw [HE0.out], by simp; omega, by simp, Lib.hid HU.out.symm, HM2.out, by simp; omega, Lib.hid (by have := mid_at HBt.out (1 + n); rwa [show (x :: r).drop (1 + n) = r.drop n by rw [Nat.add_comm, List.drop_succ_cons]] at this), Lib.hid (by simpa using HO2.out), HB2⟩)
                  | exact ⟨r.drop n, out ++ r.take n, some ⟨ab, ao, none⟩, A', 0, c', by rw [HE1.out], by rw [HE0.out], by simp; omega, by simp, Lib.hid HU.out.symm, HM2.out, by simp; omega, Lib.hid (by rw [List.eq_nil_of_length_eq_zero (show (r.drop n).length = 0 by simp; omega)]; exact Bts.nil _ _), Lib.hid (by simpa using HO2.out), HB2⟩
                case measure => omega)
end Go.Proofs.Ytefkfglkpebbmac
