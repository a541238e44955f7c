/- The walk of delta.Same, and of the library's slices.EqualFunc there. No conditions. -/
import Derived.Test.YtefkfglkpebbmacQBase
import Derived.Test.YtefkfglkpebbmacQEqBytes
namespace Go.Proofs.Ytefkfglkpebbmac
open Go.RowKit
set_option linter.unusedVariables false
set_option linter.unusedSimpArgs false

def opVal (o : Stp) (B : Option Addr) (c : Nat) : Value := .agg #[iv o.at_, iv o.len, .slice B o.data.length c]
theorem stp_ne_at {x y : Stp} (h : x.at_ ≠ y.at_) : x ≠ y := by rintro rfl; exact h rfl
theorem stp_ne_len {x y : Stp} (h : x.len ≠ y.len) : x ≠ y := by rintro rfl; exact h rfl
theorem stp_eq {x y : Stp} (h1 : x.at_ = y.at_) (h2 : x.len = y.len) : decide (x.data = y.data) = decide (x = y) := by
  obtain ⟨a, l, d⟩ := x
  obtain ⟨b, m, e⟩ := y
  simp only at h1 h2
  subst h1 h2
  simp
set_option maxRecDepth 100000 in
set_option maxHeartbeats 1000000 in
theorem same1_calls (x y : Stp) (B D : Option Addr) (c d : Nat) (w : World) (hx : x.data.length ≤ 140737488351232) (hy : y.data.length ≤ 140737488351232) (hB : Bts w B x.data) (hD : Bts w D y.data) :
    Calls Try.prog 93 #[.agg #[iv x.at_, iv x.len, .slice B x.data.length c], .agg #[iv y.at_, iv y.len, .slice D y.data.length d]] w (RetB w (.bool (decide (x = y)))) := by
  by_cases h1 : x.at_ = y.at_
  · by_cases h2 : x.len = y.len
    · have q1 : (x.at_ == y.at_) = true := by simp [h1]
      have q2 : (x.len == y.len) = true := by simp [h2]
      have HE := Lib.hid (stp_eq h1 h2)
      have bl := ((Below.refl w.heap.size w).alloc (Nat.le_refl _) (.cells #[iv x.at_, iv x.len, .slice B x.data.length c] 117)).alloc (by simp) (.cells #[iv y.at_, iv y.len, .slice D y.data.length d] 117)
      have HC := Lib.hid (equalBytes_calls B D c d x.data y.data _ hx hy (hB.stays bl) (hD.stays bl))
      have HB := Lib.hid bl
      clear h1 h2 hB hD bl
      go_enter Try.func93, Try.ntmps93
      go_wp2_with fail
      refine HC.out.mono ?_
      rintro e w1 ⟨rfl, n, rfl⟩
      go_wp2_with fail
      go_ret
      exact ⟨ret_bool HE.out, Below.drewN' HB.out n⟩
    · have q1 : (x.at_ == y.at_) = true := by simp [h1]
      have q2 : (x.len == y.len) = false := by simp [h2]
      have HE := Lib.hid (decide_eq_false (stp_ne_len h2))
      clear h1 h2
      go_enter Try.func93, Try.ntmps93
      go_wp2_with fail
      go_ret
      exact ⟨ret_bool HE.out.symm, ((Below.refl _ _).alloc (Nat.le_refl _) _).alloc (by simp) _⟩
  · have q1 : (x.at_ == y.at_) = false := by simp [h1]
    have HE := Lib.hid (decide_eq_false (stp_ne_at h1))
    clear h1
    go_enter Try.func93, Try.ntmps93
    go_wp2_with fail
    go_ret
    exact ⟨ret_bool HE.out.symm, ((Below.refl _ _).alloc (Nat.le_refl _) _).alloc (by simp) _⟩
set_option maxRecDepth 100000 in
set_option maxHeartbeats 4000000 in
theorem eqfOps_calls (A B : Option Addr) (c d : Nat) (l m : List Stp) (w : World) (hl : l.length ≤ 3518437208780) (hm : m.length ≤ 3518437208780) (ha : Sps w A l) (hb : Sps w B m) :
    Calls Try.prog 92 #[.slice A l.length c, .slice B m.length d, .func (Fn.func 93) #[] #[]] w (RetB w (.bool (decide (l = m)))) := by
  by_cases hne : l.length = m.length
  · have hdl : ((l.length : Int) != (m.length : Int)) = false := by simp [hne]
    have HE := Lib.hid hne
    have hm1 : l.length ≤ m.length := by omega
    have hm2 : m.length ≤ l.length := by omega
    clear hne
    go_enter Try.func92, Try.ntmps92
    go_wp2_with fail
    go_loopw [17] (fun i wr => ∃ k : Nat, k ≤ l.length ∧ i = .int .i64 k ∧ Hid (l.take k = m.take k) ∧ Hid (Below w.heap.size w wr)) (fun i _ => l.length - (intOf i).toNat)
    case atStart => exact ⟨0, Nat.zero_le _, rfl, Lib.hid rfl, Lib.hid (Below.refl _ _)⟩
    case round =>
      obtain ⟨k, hk, rfl, HT, HB⟩ := hrel
      by_cases hlt : k < l.length
      · obtain ⟨b1, o1, B1, c1, rfl, hs1, p0, p1, p2, p3, p4, p5, -, -⟩ := (ha.stays HB.out).at_ hlt
        obtain ⟨b2, o2, B2, c2, rfl, hs2, r0, r1, r2, r3, r4, r5, -, -⟩ := (hb.stays HB.out).at_ (i := k) (by omega)
        have hsz := HB.out.size
        have HX : Hid (∀ e : l[k] = m[k]'(by omega), l.take (k + 1) = m.take (k + 1)) := Lib.hid fun e => take_eq_succ HT.out hlt (by omega) e
        have HN : Hid (∀ e : l[k] ≠ m[k]'(by omega), l ≠ m) := Lib.hid fun e => ne_of_at hlt (by omega) e
        generalize l[k] = x at *
        generalize m[k]'(by omega) = y at *
        have hsb := fun w2 (h : Below wr.heap.size wr w2) => same1_calls x y B1 B2 c1 c2 w2 p4 r4 (p5.stays h) (r5.stays h)
        have HC := Lib.hid hsb
        clear hsb p5 r5
        go_wp2_with fail
        have bl := ((Below.refl wr.heap.size wr).alloc (Nat.le_refl _) (.cells #[iv x.at_, iv x.len, .slice B1 x.data.length c1] 117)).alloc (by simp) (.cells #[iv y.at_, iv y.len, .slice B2 y.data.length c2] 117)
        refine (HC.out _ bl).mono ?_
        rintro e w2 ⟨rfl, hb2⟩
        have HB2 : Hid (Below w.heap.size w w2) := Lib.hid ((HB.out.trans (bl.mono hsz)).trans (hb2.mono (by simp; omega)))
        clear bl hb2
        by_cases hxy : x = y
        · have hd : decide (x = y) = true := by simp [hxy]
          have HY := Lib.hid (HX.out hxy)
          clear hxy HX HN
          go_wp2_with fail
          go_roundw
          case rel => exact ⟨k + 1, by omega, by go_num, HY, HB2⟩
          case measure => simp [intOf] <;> omega
        · have hd : decide (x = y) = false := by simp [hxy]
          have HY := Lib.hid (HN.out hxy)
          clear hxy HX HN
          go_wp2_with fail
          go_ret
          exact ⟨ret_bool (by rw [decide_eq_false HY.out]), HB2.out⟩
      · go_wp2_with fail
        go_ret
        refine ⟨ret_bool ?_, HB.out⟩
        have h := HT.out
        rw [List.take_of_length_le (by omega), List.take_of_length_le (by omega)] at h
        rw [decide_eq_true h]
  · have hdl : ((l.length : Int) != (m.length : Int)) = true := by simp; omega
    have HX := Lib.hid hne
    clear hne
    go_enter Try.func92, Try.ntmps92
    go_wp2_with fail
    go_ret
    exact ⟨ret_bool (by rw [decide_eq_false (fun e => HX.out (by rw [e]))]), Below.refl _ _⟩
theorem equalOps_calls (A B : Option Addr) (c d : Nat) (l m : List Stp) (w : World) (hl : l.length ≤ 3518437208780) (hm : m.length ≤ 3518437208780) (ha : Sps w A l) (hb : Sps w B m) :
    Calls Try.prog 21 #[.slice A l.length c, .slice B m.length d] w (RetB w (.bool (decide (l = m)))) := by
  go_enter Try.func21, Try.ntmps21
  go_wp2_with fail
  refine (eqfOps_calls A B c d l m w hl hm ha hb).mono ?_
  rintro e w1 ⟨rfl, hb1⟩
  go_wp2_with fail
  go_ret
  exact ⟨rfl, hb1⟩
end Go.Proofs.Ytefkfglkpebbmac
