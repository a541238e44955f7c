/- Walks of functions, and plain words. No conditions. -/
import Derived.Test.YtefkfglkpebbmacP2
set_option linter.unusedVariables false
set_option linter.unusedSimpArgs false
set_option maxRecDepth 100000
set_option maxHeartbeats 40000000
namespace Go.Proofs.Ytefkfglkpebbmac
open Go.RowKit
theorem chk_eq_iff {x y : Chk} : x = y ↔ kin x y ∧ x.n = y.n ∧ x.data = y.data := by
 obtain ⟨f, t, n, o, l⟩ := x
 obtain ⟨f2, t2, n2, o2, l2⟩ := y
 unfold kin
 simp only [Chk.mk.injEq]
 constructor
 ·rintro ⟨h1, h2, h3, h4, h5⟩; exact ⟨⟨h1, h2, h4⟩, h3, h5⟩
 ·rintro ⟨⟨h1, h2, h4⟩, h3, h5⟩; exact ⟨h1, h2, h3, h4, h5⟩
theorem kinX_calls (A B : Option Addr) (c d : Nat) (x y : Chk) (w : World) :
  Calls Try.prog 102 #[.agg (chkA x.from_ x.to_ x.n x.of_ A x.data.length c), .agg (chkA y.from_ y.to_ y.n y.of_ B y.data.length d)] w (RetB w (.bool (decide (kin x y)))) :=
 kin_calls A B c d x.data.length y.data.length x.from_ x.to_ x.n x.of_ y.from_ y.to_ y.n y.of_ x.data y.data w
theorem chkSame1_calls (x y : Chk) (B D : Option Addr) (c d : Nat) (w : World) (hx : ChkIn w x B c) (hy : ChkIn w y D d) :
  Calls Try.prog 106 #[.agg (chkA x.from_ x.to_ x.n x.of_ B x.data.length c), .agg (chkA y.from_ y.to_ y.n y.of_ D y.data.length d)] w (RetB w (.bool (decide (x = y)))) := by
 have bl := ((Below.refl w.heap.size w).alloc (Nat.le_refl _) (.cells (chkA x.from_ x.to_ x.n x.of_ B x.data.length c) 49)).alloc (by simp) (.cells (chkA y.from_ y.to_ y.n y.of_ D y.data.length d) 49)
 have hl := hx.len
 have hl2 := hy.len
 have HB := hD bl
 have HK := hD (fun w => kinX_calls B D c d x y w)
 obtain ⟨r, hr⟩ : ∃ r, decide (x = y) = r := ⟨_, rfl⟩
 rw [hr]
 have hr2 : decide (kin x y ∧ x.n = y.n ∧ x.data = y.data) = r := by
  rw [← hr]
  exact decide_eq_decide.2 chk_eq_iff.symm
 have HR := hD hr2
 have HC := hD (fun w h1 h2 => equalBytes_calls B D c d x.data y.data w hl hl2 h1 h2)
 have HX := hD hx
 have HY := hD hy
 clear hx hy bl hr hr2
 by_cases hk : kin x y
 ·have dk : decide (kin x y) = true := decide_eq_true hk
  have HKK := hD hk
  clear hk
  by_cases hn : x.n = y.n
  ·have hz : decide (x.data = y.data) = r := by
    rw [← HR.out]
    by_cases e : x.data = y.data
    ·rw [decide_eq_true e, decide_eq_true ⟨HKK.out, hn, e⟩]
    ·rw [decide_eq_false e, decide_eq_false (fun h => e h.2.2)]
   have HZ := hD hz
   have q : (x.n == y.n) = true := by simp [hn]
   clear hn hz
   go_enter Try.func106, Try.ntmps106
   go_wp2_with fail
   refine (HK.out _).mono ?_
   rintro e w1 ⟨rfl, hb⟩
   obtain ⟨a0r, a0f, a0n, a0c, a0z, a0l⟩ := kp (w.heap.size) (chkA x.from_ x.to_ x.n x.of_ B x.data.length c) hb
   obtain ⟨a1r, a1f, a1n, a1c, a1z, a1l⟩ := kp (w.heap.size + 1) (chkA y.from_ y.to_ y.n y.of_ D y.data.length d) hb
   have HB1 : Hid (Below w.heap.size w w1) := hD (HB.out.trans (hb.mono (by simp; omega)))
   clear hb
   go_wp2_with fail
   refine (HC.out _ (HX.out.data.stays HB1.out) (HY.out.data.stays HB1.out)).mono ?_
   rintro e w2 ⟨rfl, n, rfl⟩
   go_wp2_with fail
   go_ret
   exact ⟨ret_bool HZ.out, Below.drewN' HB1.out n⟩
  ·have hz : false = r := by rw [← HR.out, decide_eq_false (fun h => hn h.2.1)]
   have HZ := hD hz
   have q : (x.n == y.n) = false := by simp [hn]
   clear hn hz
   go_enter Try.func106, Try.ntmps106
   go_wp2_with fail
   refine (HK.out _).mono ?_
   rintro e w1 ⟨rfl, hb⟩
   obtain ⟨a0r, a0f, a0n, a0c, a0z, a0l⟩ := kp (w.heap.size) (chkA x.from_ x.to_ x.n x.of_ B x.data.length c) hb
   obtain ⟨a1r, a1f, a1n, a1c, a1z, a1l⟩ := kp (w.heap.size + 1) (chkA y.from_ y.to_ y.n y.of_ D y.data.length d) hb
   have HB1 : Hid (Below w.heap.size w w1) := hD (HB.out.trans (hb.mono (by simp; omega)))
   clear hb
   go_wp2_with fail
   go_ret
   exact ⟨ret_bool HZ.out, HB1.out⟩
 ·have dk : decide (kin x y) = false := decide_eq_false hk
  have hz : false = r := by rw [← HR.out, decide_eq_false (fun h => hk h.1)]
  have HZ := hD hz
  clear hk hz
  go_enter Try.func106, Try.ntmps106
  go_wp2_with fail
  refine (HK.out _).mono ?_
  rintro e w1 ⟨rfl, hb⟩
  have HB1 : Hid (Below w.heap.size w w1) := hD (HB.out.trans (hb.mono (by simp; omega)))
  clear hb
  go_wp2_with fail
  go_ret
  exact ⟨ret_bool HZ.out, HB1.out⟩
theorem chkSame_eqf (A B : Option Addr) (c d : Nat) (l m : List Chk) (w : World) (hl : l.length ≤ 1048576) (hm : m.length ≤ 1048576) (ha : Chs w A l) (hb : Chs w B m) :
  Calls Try.prog 105 #[.slice A l.length c, .slice B m.length d, .func (Fn.func 106) #[] #[]] w (RetB w (.bool (decide (l = m)))) := by
 by_cases hne : l.length = m.length
 ·have hdl : ((l.length : Int) != (m.length : Int)) = false := by simp [hne]
  have HE := hD hne
  have hm1 : l.length ≤ m.length := by omega
  have hm2 : m.length ≤ l.length := by omega
  clear hne
  go_enter Try.func105, Try.ntmps105
  go_wp2_with fail
  go_loopw [17] (fun i wr => ∃ k : Nat, k ≤ l.length ∧ i = .int .i64 k ∧ Hid (l.take k = m.take k) ∧ Hid (Below w.heap.size w wr)) (fun i _ => l.length - (intOf i).toNat)
  case atStart => exact ⟨0, Nat.zero_le _, rfl, hD rfl, hD (Below.refl _ _)⟩
  case round =>
   obtain ⟨k, hk, rfl, HT, HB⟩ := hrel
   by_cases hlt : k < l.length
   ·obtain ⟨b1, o1, B1, c1, rfl, hs1, p0, p1, p2, p3, p4, p5⟩ := (ha.stays HB.out).at_ hlt
    obtain ⟨b2, o2, B2, c2, rfl, hs2, r0, r1, r2, r3, r4, r5⟩ := (hb.stays HB.out).at_ (i := k) (by omega)
    have hsz := HB.out.size
    have HX : Hid (∀ e : l[k] = m[k]'(by omega), l.take (k + 1) = m.take (k + 1)) := hD fun e => take_eq_succ HT.out hlt (by omega) e
    have HN : Hid (∀ e : l[k] ≠ m[k]'(by omega), l ≠ m) := hD fun e => ne_of_at hlt (by omega) e
    generalize l[k] = x at *
    generalize m[k]'(by omega) = y at *
    have hsb := fun w2 (h : Below wr.heap.size wr w2) => chkSame1_calls x y B1 B2 c1 c2 w2 (p5.stays h) (r5.stays h)
    have HC := hD hsb
    clear hsb p5 r5
    go_wp2_with fail
    refine (HC.out _ ?_).mono ?_
    ·repeat (first | exact Below.refl _ _ | refine bA ?_ _)
    rintro e w2 ⟨rfl, hb2⟩
    have HB2 : Hid (Below w.heap.size w w2) := by
     refine hD (HB.out.trans (Below.trans ?_ (hb2.mono (by first | omega | (simp <;> omega)))))
     repeat (first | exact Below.refl _ _ | refine bA ?_ _)
    clear hb2
    by_cases hxy : x = y
    ·have hd : decide (x = y) = true := by simp [hxy]
     have HY := hD (HX.out hxy)
     clear hxy HX HN
     go_wp2_with fail
     go_roundw
     case rel => exact ⟨k + 1, by omega, by go_num, HY, HB2⟩
     case measure => simp [intOf] <;> omega
    ·have hd : decide (x = y) = false := by simp [hxy]
     have HY := hD (HN.out hxy)
     clear hxy HX HN
     go_wp2_with fail
     go_ret
     exact ⟨ret_bool (by rw [decide_eq_false HY.out]), HB2.out⟩
   ·go_wp2_with fail
    go_ret
    refine ⟨ret_bool ?_, HB.out⟩
    have h := HT.out
    rw [List.take_of_length_le (by omega), List.take_of_length_le (by omega)] at h
    rw [decide_eq_true h]
 ·have hdl : ((l.length : Int) != (m.length : Int)) = true := by simp; omega
  have HX := hD hne
  clear hne
  go_enter Try.func105, Try.ntmps105
  go_wp2_with fail
  go_ret
  exact ⟨ret_bool (by rw [decide_eq_false (fun e => HX.out (by rw [e]))]), Below.refl _ _⟩
theorem chkSame_calls (A B : Option Addr) (c d : Nat) (l m : List Chk) (w : World) (hl : l.length ≤ 1048576) (hm : m.length ≤ 1048576) (ha : Chs w A l) (hb : Chs w B m) :
  Calls Try.prog 39 #[.slice A l.length c, .slice B m.length d] w (RetB w (.bool (decide (l = m)))) := by
 go_enter Try.func39, Try.ntmps39
 go_wp2_with fail
 refine (chkSame_eqf A B c d l m w hl hm ha hb).mono ?_
 rintro e w1 ⟨rfl, hb1⟩
 go_wp2_with fail
 go_ret
 exact ⟨rfl, hb1⟩
end Go.Proofs.Ytefkfglkpebbmac
