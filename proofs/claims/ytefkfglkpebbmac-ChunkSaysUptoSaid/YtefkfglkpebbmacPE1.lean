/- Walks of functions, and plain words. No conditions. -/
import Derived.Test.YtefkfglkpebbmacP0
import Derived.StillTailTactics
import Derived.Laws.IdiomStrings
import Derived.Laws.BytesArg
set_option linter.unusedVariables false
set_option linter.unusedSimpArgs false
set_option maxRecDepth 100000
set_option maxHeartbeats 40000000
namespace Go.Proofs.Ytefkfglkpebbmac
open Go.RowKit
variable {l : List Stp} {old size : Int} {o x y : Stp}
theorem dc_many (h : 40 < l.length ∨ old < 0 ∨ 64 < old ∨ size < 0 ∨ 64 < size) : deltaCheck l old size = 1 := by unfold deltaCheck; rw [if_pos h]
theorem dc_go (h : ¬ (40 < l.length ∨ old < 0 ∨ 64 < old ∨ size < 0 ∨ 64 < size)) : deltaCheck l old size = stepsCheck old l size := by unfold deltaCheck; rw [if_neg h]
theorem sc_form (h : ¬ o.form) : stepsCheck old (o :: l) size = 3 := by unfold stepsCheck; rw [if_pos h]
theorem sc_range (h : o.form) (g : ¬ o.in_ old) : stepsCheck old (o :: l) size = 2 := by unfold stepsCheck; rw [if_neg (by simpa using h), if_pos g]
theorem sc_many (h : o.form) (g : o.in_ old) (k : size < o.n) : stepsCheck old (o :: l) size = 1 := by unfold stepsCheck; rw [if_neg (by simpa using h), if_neg (by simpa using g), if_pos k]
theorem sc_on (h : o.form) (g : o.in_ old) (k : ¬ size < o.n) : stepsCheck old (o :: l) size = stepsCheck old l (size - o.n) := by
 conv => lhs; unfold stepsCheck
 rw [if_neg (by simpa using h), if_neg (by simpa using g), if_neg k]
def ScAt (old : Int) (l : List Stp) (size : Int) (k : Nat) (s : Int) : Prop := stepsCheck old (l.drop k) s = stepsCheck old l size
theorem ScAt.here {s : Int} {k : Nat} (h : ScAt old l size k s) (hk : k < l.length) : stepsCheck old (l[k] :: l.drop (k + 1)) s = stepsCheck old l size := by
 unfold ScAt at h; rwa [List.drop_eq_getElem_cons hk] at h
theorem deltaCheck_calls (A : Option Addr) (c : Nat) (l : List Stp) (old size : Int) (w : World) (hl : l.length ≤ 1048576) (hr : Sps w A l) :
  Calls Try.prog 19 #[.slice A l.length c, iv old, iv size] w (RetB w (iv (deltaCheck l old size))) := by
 by_cases hm : 40 < l.length ∨ old < 0 ∨ 64 < old ∨ size < 0 ∨ 64 < size
 ·have HR := Lib.hid (dc_many hm)
  by_cases h1 : 40 < l.length
  ·have h1' : (40 : Int) < (l.length : Int) := by omega
   clear hm h1
   go_enter Try.func19, Try.ntmps19
   go_wp2_with fail
   go_ret
   exact ⟨ret_int HR.out.symm, Below.refl _ _⟩
  have h1' : ¬ (40 : Int) < (l.length : Int) := by omega
  by_cases h2 : old < 0
  ·clear hm h1
   go_enter Try.func19, Try.ntmps19
   go_wp2_with fail
   go_ret
   exact ⟨ret_int HR.out.symm, Below.refl _ _⟩
  by_cases h3 : 64 < old
  ·clear hm h1
   go_enter Try.func19, Try.ntmps19
   go_wp2_with fail
   go_ret
   exact ⟨ret_int HR.out.symm, Below.refl _ _⟩
  by_cases h4 : size < 0
  ·clear hm h1
   go_enter Try.func19, Try.ntmps19
   go_wp2_with fail
   go_ret
   exact ⟨ret_int HR.out.symm, Below.refl _ _⟩
  have h5 : 64 < size := by omega
  clear hm h1
  go_enter Try.func19, Try.ntmps19
  go_wp2_with fail
  go_ret
  exact ⟨ret_int HR.out.symm, Below.refl _ _⟩
 ·have HR := Lib.hid (dc_go hm)
  have h1 : ¬ (40 : Int) < (l.length : Int) := by omega
  have h2 : ¬ old < 0 := by omega
  have h3 : ¬ 64 < old := by omega
  have h4 : ¬ size < 0 := by omega
  have h5 : ¬ 64 < size := by omega
  have h6 : l.length ≤ 40 := by omega
  clear hm
  go_enter Try.func19, Try.ntmps19
  go_wp2_with fail
  go_loopw [31, 2] (fun i s wr => ∃ (k : Nat) (z : Int), k ≤ l.length ∧ i = .int .i64 k ∧ s = .int .i64 z ∧ 0 ≤ z ∧ z ≤ 64 ∧ Hid (ScAt old l size k z) ∧ Hid (Below w.heap.size w wr)) (fun i _ _ => l.length - (intOf i).toNat)
  case atStart => exact ⟨0, size, Nat.zero_le _, rfl, rfl, by omega, by omega, Lib.hid (by unfold ScAt; rw [List.drop_zero]), Lib.hid (Below.refl _ _)⟩
  case round =>
   clear h4 h5
   obtain ⟨k, z, hk, rfl, rfl, hz0, hz1, HS, HB⟩ := hrel
   by_cases hlt : k < l.length
   ·obtain ⟨b, o, B, cc, rfl, hs, hc0, hc1, hc2, hd1, hd2, -, hi0, hi1⟩ := (hr.stays HB.out).at_ hlt
    have HH := Lib.hid (HS.out.here hlt)
    have hsz := HB.out.size
    clear HS
    unfold I64 at hi0 hi1
    obtain ⟨i00, i01⟩ := hi0
    obtain ⟨i10, i11⟩ := hi1
    generalize hx : l[k] = x at *
    clear hx
    obtain ⟨at_, len, data⟩ := x
    dsimp only at *
    have hdl : 0 ≤ (data.length : Int) := by omega
    by_cases hf : (⟨at_, len, data⟩ : Stp).form
    ·by_cases hin : (⟨at_, len, data⟩ : Stp).in_ old
     ·have hn : (⟨at_, len, data⟩ : Stp).n = len + data.length := rfl
      have hin' := hin
      unfold Stp.in_ at hin'
      dsimp only at hin'
      obtain ⟨j1, j2, j3⟩ := hin'
      have hf' := hf
      unfold Stp.form at hf'
      dsimp only at hf'
      by_cases hzn : z < len + data.length
      ·have HE := Lib.hid (HH.out.symm.trans (sc_many hf hin (by rw [hn]; exact hzn)))
       clear hf hin hn HH
       by_cases e0 : len = 0
       ·obtain ⟨rfl, e2, e3⟩ := hf'.1 e0
        subst e0
        have e4 : 1 ≤ data.length := by rcases data with _ | ⟨y, d⟩; exact absurd rfl e2; simp
        have q1 : ((data.length : Int) == 0) = false := by simp; omega
        have q2 : ¬ (64 : Int) < (data.length : Int) := by omega
        clear hf' e2
        go_wp2_with fail
        go_ret
        exact ⟨ret_int (by rw [HR.out, HE.out]), (HB.out.alloc hsz _)⟩
       ·have e2 := hf'.2 e0
        subst e2
        have q1 : (len == 0) = false := by simp [e0]
        have q2 : (len != 0) = true := by simp [e0]
        clear hf' e0
        simp only [List.length_nil, Int.ofNat_eq_natCast, Int.natCast_zero, Int.add_zero] at *
        go_wp2_with fail
        go_ret
        exact ⟨ret_int (by rw [HR.out, HE.out]), (HB.out.alloc hsz _)⟩
      ·have HE := Lib.hid ((sc_on hf hin (by rw [hn]; exact hzn)).symm.trans HH.out)
       clear hf hin HH
       rw [hn] at HE
       clear hn
       by_cases e0 : len = 0
       ·obtain ⟨rfl, e2, e3⟩ := hf'.1 e0
        subst e0
        have e4 : 1 ≤ data.length := by rcases data with _ | ⟨y, d⟩; exact absurd rfl e2; simp
        have q1 : ((data.length : Int) == 0) = false := by simp; omega
        have q2 : ¬ (64 : Int) < (data.length : Int) := by omega
        clear hf' e2
        go_wp2_with fail
        go_roundw
        case rel => exact ⟨k + 1, z - (0 + data.length), by omega, by go_num, by simp, by omega, by omega, HE, Lib.hid (HB.out.alloc hsz _)⟩
        case measure => simp [intOf]; omega
       ·have e2 := hf'.2 e0
        subst e2
        have q1 : (len == 0) = false := by simp [e0]
        have q2 : (len != 0) = true := by simp [e0]
        clear hf' e0
        have HE2 : Hid (ScAt old l size (k + 1) (z - len)) := by
         have := HE.out
         refine Lib.hid ?_
         simpa [ScAt] using this
        clear HE
        simp only [List.length_nil, Int.ofNat_eq_natCast, Int.natCast_zero, Int.add_zero] at *
        go_wp2_with fail
        go_roundw
        case rel => exact ⟨k + 1, z - len, by omega, by go_num, by simp, by omega, by omega, HE2, Lib.hid (HB.out.alloc hsz _)⟩
        case measure => simp [intOf]; omega
     ·have HE := Lib.hid (HH.out.symm.trans (sc_range hf hin))
      have hf' := hf
      unfold Stp.form at hf'
      dsimp only at hf'
      have hin' := hin
      unfold Stp.in_ at hin'
      dsimp only at hin'
      clear hf hin HH
      have e0 : len ≠ 0 := by
       intro e0
       obtain ⟨e1, _, _⟩ := hf'.1 e0
       omega
      have e2 := hf'.2 e0
      subst e2
      have q1 : (len == 0) = false := by simp [e0]
      have q2 : (len != 0) = true := by simp [e0]
      clear hf' e0
      simp only [List.length_nil, Int.ofNat_eq_natCast, Int.natCast_zero, Int.add_zero] at *
      have HI := Lib.hid hin'
      clear hin'
      by_cases r1 : len < 0
      ·go_wp2_with fail
       go_ret
       exact ⟨ret_int (by rw [HR.out, HE.out]), (HB.out.alloc hsz _)⟩
      by_cases r2 : at_ < 0
      ·go_wp2_with fail
       go_ret
       exact ⟨ret_int (by rw [HR.out, HE.out]), (HB.out.alloc hsz _)⟩
      by_cases r3 : old < len
      ·go_wp2_with fail
       go_ret
       exact ⟨ret_int (by rw [HR.out, HE.out]), (HB.out.alloc hsz _)⟩
      have r4 : old - len < at_ := by have := HI.out; omega
      go_wp2_with fail
      go_ret
      exact ⟨ret_int (by rw [HR.out, HE.out]), (HB.out.alloc hsz _)⟩
    ·have HE := Lib.hid (HH.out.symm.trans (sc_form hf))
     have hf' := hf
     unfold Stp.form at hf'
     dsimp only at hf'
     clear hf HH
     by_cases e0 : len = 0
     ·subst e0
      by_cases e1 : at_ = 0
      ·subst e1
       by_cases e2 : data = []
       ·subst e2
        clear hf'
        simp only [List.length_nil, Int.ofNat_eq_natCast, Int.natCast_zero, Int.add_zero] at *
        go_wp2_with fail
        go_ret
        exact ⟨ret_int (by rw [HR.out, HE.out]), (HB.out.alloc hsz _)⟩
       ·have e4 : 1 ≤ data.length := by rcases data with _ | ⟨y, d⟩; exact absurd rfl e2; simp
        have e3 : (64 : Int) < (data.length : Int) := by
         by_cases g : data.length ≤ 64
         ·exact absurd ⟨fun _ => ⟨rfl, e2, g⟩, fun h => absurd rfl h⟩ hf'
         ·omega
        have q1 : ((data.length : Int) == 0) = false := by simp; omega
        clear hf' e2
        go_wp2_with fail
        go_ret
        exact ⟨ret_int (by rw [HR.out, HE.out]), (HB.out.alloc hsz _)⟩
      ·have q1 : (at_ != 0) = true := by simp [e1]
       clear hf' e1
       go_wp2_with fail
       go_ret
       exact ⟨ret_int (by rw [HR.out, HE.out]), (HB.out.alloc hsz _)⟩
     ·have e2 : data ≠ [] := fun e => hf' ⟨fun h => absurd h e0, fun _ => e⟩
      have e4 : 1 ≤ data.length := by rcases data with _ | ⟨y, d⟩; exact absurd rfl e2; simp
      have q1 : (len == 0) = false := by simp [e0]
      have q2 : (len != 0) = true := by simp [e0]
      have q3 : (0 : Int) < (data.length : Int) := by omega
      clear hf' e0 e2
      go_wp2_with fail
      go_ret
      exact ⟨ret_int (by rw [HR.out, HE.out]), (HB.out.alloc hsz _)⟩
   ·obtain rfl : k = l.length := by omega
    have HE : Hid (stepsCheck old l size = if z = 0 then 0 else 3) := by
     have := HS.out
     unfold ScAt at this
     rw [List.drop_length] at this
     rw [← this]; rfl
    clear HS
    by_cases e : z = 0
    ·have HF := Lib.hid (HE.out.trans (if_pos e))
     subst e
     go_wp2_with fail
     go_ret
     exact ⟨ret_int (by rw [HR.out, HF.out]), HB.out⟩
    ·have HF := Lib.hid (HE.out.trans (if_neg e))
     have q : (z != 0) = true := by simp [e]
     clear e
     go_wp2_with fail
     go_ret
     exact ⟨ret_int (by rw [HR.out, HF.out]), HB.out⟩
theorem patCheck_bad {p : Pat} (h : ¬ p.range) : patCheck p = 2 := by unfold patCheck; rw [if_pos h]
theorem patCheck_in {p : Pat} (h : p.range) : patCheck p = deltaCheck p.ops 64 p.size := by unfold patCheck; rw [if_neg (by simpa using h)]
theorem patCheckA_calls (A : Option Addr) (c : Nat) (f t o n sz : Int) (l : List Stp) (w : World) (hl : l.length ≤ 1048576) (hs : Sps w A l) :
  Calls Try.prog 29 #[.agg #[iv f, iv t, iv o, iv n, iv sz, .slice A l.length c]] w (RetB w (iv (patCheck ⟨f, t, o, n, sz, l⟩))) := by
 have hb : Below w.heap.size w (w.alloc (.cells #[iv f, iv t, iv o, iv n, iv sz, .slice A l.length c] 35)) := (Below.refl _ _).alloc (Nat.le_refl _) _
 have HB := Lib.hid hb
 have HC := Lib.hid (deltaCheck_calls A c l 64 sz _ hl (hs.stays hb))
 clear hb hs
 by_cases h0 : f < (1 : Int)
 ·have hz := Lib.hid (patCheck_bad (p := ⟨f, t, o, n, sz, l⟩) (by unfold Pat.range; dsimp only; omega))
  clear HC
  go_enter Try.func29, Try.ntmps29
  go_wp2_with fail
  go_ret
  exact ⟨ret_int hz.out.symm, HB.out⟩
 by_cases h1 : (30 : Int) < f
 ·have hz := Lib.hid (patCheck_bad (p := ⟨f, t, o, n, sz, l⟩) (by unfold Pat.range; dsimp only; omega))
  clear HC
  go_enter Try.func29, Try.ntmps29
  go_wp2_with fail
  go_ret
  exact ⟨ret_int hz.out.symm, HB.out⟩
 by_cases h2 : t < (1 : Int)
 ·have hz := Lib.hid (patCheck_bad (p := ⟨f, t, o, n, sz, l⟩) (by unfold Pat.range; dsimp only; omega))
  clear HC
  go_enter Try.func29, Try.ntmps29
  go_wp2_with fail
  go_ret
  exact ⟨ret_int hz.out.symm, HB.out⟩
 by_cases h3 : (30 : Int) < t
 ·have hz := Lib.hid (patCheck_bad (p := ⟨f, t, o, n, sz, l⟩) (by unfold Pat.range; dsimp only; omega))
  clear HC
  go_enter Try.func29, Try.ntmps29
  go_wp2_with fail
  go_ret
  exact ⟨ret_int hz.out.symm, HB.out⟩
 by_cases h4 : o < (0 : Int)
 ·have hz := Lib.hid (patCheck_bad (p := ⟨f, t, o, n, sz, l⟩) (by unfold Pat.range; dsimp only; omega))
  clear HC
  go_enter Try.func29, Try.ntmps29
  go_wp2_with fail
  go_ret
  exact ⟨ret_int hz.out.symm, HB.out⟩
 by_cases h5 : (65535 : Int) < o
 ·have hz := Lib.hid (patCheck_bad (p := ⟨f, t, o, n, sz, l⟩) (by unfold Pat.range; dsimp only; omega))
  clear HC
  go_enter Try.func29, Try.ntmps29
  go_wp2_with fail
  go_ret
  exact ⟨ret_int hz.out.symm, HB.out⟩
 by_cases h6 : n < (0 : Int)
 ·have hz := Lib.hid (patCheck_bad (p := ⟨f, t, o, n, sz, l⟩) (by unfold Pat.range; dsimp only; omega))
  clear HC
  go_enter Try.func29, Try.ntmps29
  go_wp2_with fail
  go_ret
  exact ⟨ret_int hz.out.symm, HB.out⟩
 by_cases h7 : (65535 : Int) < n
 ·have hz := Lib.hid (patCheck_bad (p := ⟨f, t, o, n, sz, l⟩) (by unfold Pat.range; dsimp only; omega))
  clear HC
  go_enter Try.func29, Try.ntmps29
  go_wp2_with fail
  go_ret
  exact ⟨ret_int hz.out.symm, HB.out⟩
 have hz := Lib.hid (patCheck_in (p := ⟨f, t, o, n, sz, l⟩) (by unfold Pat.range; dsimp only; omega))
 go_enter Try.func29, Try.ntmps29
 go_wp2_with fail
 refine HC.out.mono ?_
 rintro e w1 ⟨rfl, hb1⟩
 have HB1 := Lib.hid (HB.out.trans (hb1.mono HB.out.size))
 clear hb1
 go_wp2_with fail
 go_ret
 exact ⟨ret_int hz.out.symm, HB1.out⟩
theorem cloneBytes_calls (A : Option Addr) (n c : Nat) (cs : List Value) (w : World) (hl : cs.length = n * 1) (hn0 : n ≤ 16777216) (hr : Src w A cs) (h1 : ∀ u ∈ cs, u.oneCell' = true) :
  Calls Try.prog 100 #[.slice A n c] w (SlRet w 5 1 n cs) := by
 rcases A with _ | ad
 ·have h0 : cs.length = 0 := by
   rcases Nat.eq_zero_or_pos cs.length with h | h
   ·exact h
   ·obtain ⟨b, o, h, _⟩ := hr 0 h
    cases h
  obtain rfl : n = 0 := by omega
  obtain rfl : cs = [] := List.eq_nil_of_length_eq_zero h0
  have hn := fun (wx : World) (a : Option Addr) (n c n' c' : Nat) => Lib.run_eql_slice_nil (P := Try.prog) wx 22 5 a n c n' c' Try.underlying22
  clear h0 hl
  go_enter Try.func100, Try.ntmps100
  go_wp2
  go_ret
  exact ⟨none, 0, rfl, Own.nil_ _ _ _ _, Below.refl _ _⟩
 ·have hn := fun (wx : World) (a : Option Addr) (n c n' c' : Nat) => Lib.run_eql_slice_nil (P := Try.prog) wx 22 5 a n c n' c' Try.underlying22
  have ho : Own (w.alloc (.cells #[] 5)) w.heap.size 5 1 (some ⟨w.heap.size, 0, none⟩) 0 0 [] := own_zero w _ _
  have hs := hr.stays ((Below.refl w.heap.size w).alloc (Nat.le_refl _) (.cells #[] 5))
  have hb1 : 0 + n ≤ 1073741824 := by omega
  have hb2 : w.heap.size ≤ (w.alloc (.cells #[] 5)).heap.size := by simp
  have HL := Lib.hid hl
  clear hl
  go_enter Try.func100, Try.ntmps100
  go_wp2_with (at_builtin; refine wpList_app _ rfl _ _ 22 rfl elBytes w.heap.size (some ⟨w.heap.size, 0, none⟩) 0 0 [] rfl ho (some ad) n c cs rfl hs HL.out h1 hb1 hb2 ?_; intro A' c' w1 hown hg hb hx)
  go_ret
  simp only [Nat.zero_add, List.nil_append] at hown
  exact ⟨_, _, rfl, hown, ((Below.refl _ _).alloc (Nat.le_refl _) _).trans hb⟩
section
open Go.RowKit
end
section
open Go.RowKit
end
theorem equalBytes_calls (A B : Option Addr) (c d : Nat) (l m : List UInt8) (w : World) (hl : l.length ≤ 1048576) (hm : m.length ≤ 1048576) (ha : Bts w A l) (hb : Bts w B m) :
  Calls Try.prog 94 #[.slice A l.length c, .slice B m.length d] w (RetN w (.bool (decide (l = m)))) := by
 by_cases hne : l.length = m.length
 ·have hdl : ((l.length : Int) != (m.length : Int)) = false := by simp [hne]
  have HE := Lib.hid hne
  have hm1 : l.length ≤ m.length := by omega
  have hm2 : m.length ≤ l.length := by omega
  clear hne
  go_enter Try.func94, Try.ntmps94
  go_wp2
  go_loopw [5, 13] (fun u i wr => ∃ k n : Nat, k ≤ l.length ∧ i = .int .i64 k ∧ l.take k = m.take k ∧ w.drewN n = wr) (fun _ i _ => l.length - (intOf i).toNat)
  case atStart => exact ⟨0, 0, Nat.zero_le _, rfl, rfl, rfl⟩
  case round =>
   obtain ⟨k, n, hk, rfl, ht, rfl⟩ := hrel
   have HT := Lib.hid ht
   clear ht
   by_cases hlt : k < l.length
   ·obtain ⟨b1, o1, rfl, hs1, hc1⟩ := ha k hlt
    obtain ⟨b2, o2, rfl, hs2, hc2⟩ := hb k (by omega)
    by_cases he : l[k] = m[k]'(by omega)
    ·have hd : ((l[k].toNat : Int) != ((m[k]'(by omega)).toNat : Int)) = false := by simp [he]
     have HX := Lib.hid he
     clear he
     go_wp2_with fail
     go_quiet (fail)
     go_wp2_with fail
     go_roundw
     case rel => exact ⟨k + 1, _, by omega, by go_num, take_eq_succ HT.out hlt (by omega) HX.out, rfl⟩
     case measure => simp [intOf] <;> omega
    ·have hd : ((l[k].toNat : Int) != ((m[k]'(by omega)).toNat : Int)) = true := by simp; exact fun e => he (UInt8.toNat_inj.1 (by omega))
     have HX := Lib.hid he
     clear he
     go_wp2_with fail
     go_quiet (fail)
     go_wp2_with fail
     go_ret
     exact ⟨ret_bool (by rw [decide_eq_false (ne_of_at hlt (by omega) HX.out)]), _, (World.drewN_drewN _ _ _).symm⟩
   ·go_wp2_with fail
    go_ret
    refine ⟨ret_bool ?_, _, rfl⟩
    have h := HT.out
    rw [List.take_of_length_le (by omega), List.take_of_length_le (by omega)] at h
    rw [decide_eq_true h]
 ·have hdl : ((l.length : Int) != (m.length : Int)) = true := by simp; omega
  have HX := Lib.hid hne
  clear hne
  go_enter Try.func94, Try.ntmps94
  go_wp2
  go_ret
  exact ⟨ret_bool (by rw [decide_eq_false (fun e => HX.out (by rw [e]))]), 0, rfl⟩
theorem stp_ne_at (h : x.at_ ≠ y.at_) : x ≠ y := by rintro rfl; exact h rfl
theorem stp_ne_len (h : x.len ≠ y.len) : x ≠ y := by rintro rfl; exact h rfl
theorem stp_eq (h1 : x.at_ = y.at_) (h2 : x.len = y.len) : decide (x.data = y.data) = decide (x = y) := by
 obtain ⟨a, l, d⟩ := x
 obtain ⟨b, m, e⟩ := y
 simp only at h1 h2
 subst h1 h2
 simp
theorem same1_calls (x y : Stp) (B D : Option Addr) (c d : Nat) (w : World) (hx : x.data.length ≤ 1048576) (hy : y.data.length ≤ 1048576) (hB : Bts w B x.data) (hD : Bts w D y.data) :
  Calls Try.prog 93 #[.agg #[iv x.at_, iv x.len, .slice B x.data.length c], .agg #[iv y.at_, iv y.len, .slice D y.data.length d]] w (RetB w (.bool (decide (x = y)))) := by
 by_cases h1 : x.at_ = y.at_
 ·by_cases h2 : x.len = y.len
  ·have q1 : (x.at_ == y.at_) = true := by simp [h1]
   have q2 : (x.len == y.len) = true := by simp [h2]
   have HE := Lib.hid (stp_eq h1 h2)
   have bl := ((Below.refl w.heap.size w).alloc (Nat.le_refl _) (.cells #[iv x.at_, iv x.len, .slice B x.data.length c] 117)).alloc (by simp) (.cells #[iv y.at_, iv y.len, .slice D y.data.length d] 117)
   have HC := Lib.hid (equalBytes_calls B D c d x.data y.data _ hx hy (hB.stays bl) (hD.stays bl))
   have HB := Lib.hid bl
   clear h1 h2 hB hD bl
   go_enter Try.func93, Try.ntmps93
   go_wp2_with fail
   refine HC.out.mono ?_
   rintro e w1 ⟨rfl, n, rfl⟩
   go_wp2_with fail
   go_ret
   exact ⟨ret_bool HE.out, Below.drewN' HB.out n⟩
  ·have q1 : (x.at_ == y.at_) = true := by simp [h1]
   have q2 : (x.len == y.len) = false := by simp [h2]
   have HE := Lib.hid (decide_eq_false (stp_ne_len h2))
   clear h1 h2
   go_enter Try.func93, Try.ntmps93
   go_wp2_with fail
   go_ret
   exact ⟨ret_bool HE.out.symm, ((Below.refl _ _).alloc (Nat.le_refl _) _).alloc (by simp) _⟩
 ·have q1 : (x.at_ == y.at_) = false := by simp [h1]
  have HE := Lib.hid (decide_eq_false (stp_ne_at h1))
  clear h1
  go_enter Try.func93, Try.ntmps93
  go_wp2_with fail
  go_ret
  exact ⟨ret_bool HE.out.symm, ((Below.refl _ _).alloc (Nat.le_refl _) _).alloc (by simp) _⟩
theorem eqfOps_calls (A B : Option Addr) (c d : Nat) (l m : List Stp) (w : World) (hl : l.length ≤ 1048576) (hm : m.length ≤ 1048576) (ha : Sps w A l) (hb : Sps w B m) :
  Calls Try.prog 92 #[.slice A l.length c, .slice B m.length d, .func (Fn.func 93) #[] #[]] w (RetB w (.bool (decide (l = m)))) := by
 by_cases hne : l.length = m.length
 ·have hdl : ((l.length : Int) != (m.length : Int)) = false := by simp [hne]
  have HE := Lib.hid hne
  have hm1 : l.length ≤ m.length := by omega
  have hm2 : m.length ≤ l.length := by omega
  clear hne
  go_enter Try.func92, Try.ntmps92
  go_wp2_with fail
  go_loopw [17] (fun i wr => ∃ k : Nat, k ≤ l.length ∧ i = .int .i64 k ∧ Hid (l.take k = m.take k) ∧ Hid (Below w.heap.size w wr)) (fun i _ => l.length - (intOf i).toNat)
  case atStart => exact ⟨0, Nat.zero_le _, rfl, Lib.hid rfl, Lib.hid (Below.refl _ _)⟩
  case round =>
   obtain ⟨k, hk, rfl, HT, HB⟩ := hrel
   by_cases hlt : k < l.length
   ·obtain ⟨b1, o1, B1, c1, rfl, hs1, p0, p1, p2, p3, p4, p5, -, -⟩ := (ha.stays HB.out).at_ hlt
    obtain ⟨b2, o2, B2, c2, rfl, hs2, r0, r1, r2, r3, r4, r5, -, -⟩ := (hb.stays HB.out).at_ (i := k) (by omega)
    have hsz := HB.out.size
    have HX : Hid (∀ e : l[k] = m[k]'(by omega), l.take (k + 1) = m.take (k + 1)) := Lib.hid fun e => take_eq_succ HT.out hlt (by omega) e
    have HN : Hid (∀ e : l[k] ≠ m[k]'(by omega), l ≠ m) := Lib.hid fun e => ne_of_at hlt (by omega) e
    generalize l[k] = x at *
    generalize m[k]'(by omega) = y at *
    have hsb := fun w2 (h : Below wr.heap.size wr w2) => same1_calls x y B1 B2 c1 c2 w2 p4 r4 (p5.stays h) (r5.stays h)
    have HC := Lib.hid hsb
    clear hsb p5 r5
    go_wp2_with fail
    have bl := ((Below.refl wr.heap.size wr).alloc (Nat.le_refl _) (.cells #[iv x.at_, iv x.len, .slice B1 x.data.length c1] 117)).alloc (by simp) (.cells #[iv y.at_, iv y.len, .slice B2 y.data.length c2] 117)
    refine (HC.out _ bl).mono ?_
    rintro e w2 ⟨rfl, hb2⟩
    have HB2 : Hid (Below w.heap.size w w2) := Lib.hid ((HB.out.trans (bl.mono hsz)).trans (hb2.mono (by simp; omega)))
    clear bl hb2
    by_cases hxy : x = y
    ·have hd : decide (x = y) = true := by simp [hxy]
     have HY := Lib.hid (HX.out hxy)
     clear hxy HX HN
     go_wp2_with fail
     go_roundw
     case rel => exact ⟨k + 1, by omega, by go_num, HY, HB2⟩
     case measure => simp [intOf] <;> omega
    ·have hd : decide (x = y) = false := by simp [hxy]
     have HY := Lib.hid (HN.out hxy)
     clear hxy HX HN
     go_wp2_with fail
     go_ret
     exact ⟨ret_bool (by rw [decide_eq_false HY.out]), HB2.out⟩
   ·go_wp2_with fail
    go_ret
    refine ⟨ret_bool ?_, HB.out⟩
    have h := HT.out
    rw [List.take_of_length_le (by omega), List.take_of_length_le (by omega)] at h
    rw [decide_eq_true h]
 ·have hdl : ((l.length : Int) != (m.length : Int)) = true := by simp; omega
  have HX := Lib.hid hne
  clear hne
  go_enter Try.func92, Try.ntmps92
  go_wp2_with fail
  go_ret
  exact ⟨ret_bool (by rw [decide_eq_false (fun e => HX.out (by rw [e]))]), Below.refl _ _⟩
theorem equalOps_calls (A B : Option Addr) (c d : Nat) (l m : List Stp) (w : World) (hl : l.length ≤ 1048576) (hm : m.length ≤ 1048576) (ha : Sps w A l) (hb : Sps w B m) :
  Calls Try.prog 21 #[.slice A l.length c, .slice B m.length d] w (RetB w (.bool (decide (l = m)))) := by
 go_enter Try.func21, Try.ntmps21
 go_wp2_with fail
 refine (eqfOps_calls A B c d l m w hl hm ha hb).mono ?_
 rintro e w1 ⟨rfl, hb1⟩
 go_wp2_with fail
 go_ret
 exact ⟨rfl, hb1⟩
theorem patSameA_calls (A B : Option Addr) (c d : Nat) (f t o n sz f2 t2 o2 n2 sz2 : Int) (l m : List Stp) (w : World) (hl : l.length ≤ 1048576) (hm : m.length ≤ 1048576) (hs : Sps w A l) (hr : Sps w B m) :
  Calls Try.prog 31 #[.agg #[iv f, iv t, iv o, iv n, iv sz, .slice A l.length c], .agg #[iv f2, iv t2, iv o2, iv n2, iv sz2, .slice B m.length d]] w (RetB w (.bool (decide ((⟨f, t, o, n, sz, l⟩ : Pat) = ⟨f2, t2, o2, n2, sz2, m⟩)))) := by
 have hb : Below w.heap.size w ((w.alloc (.cells #[iv f, iv t, iv o, iv n, iv sz, .slice A l.length c] 35)).alloc (.cells #[iv f2, iv t2, iv o2, iv n2, iv sz2, .slice B m.length d] 35)) := ((Below.refl _ _).alloc (Nat.le_refl _) _).alloc (by simp) _
 obtain ⟨r, hR⟩ : ∃ r, decide ((⟨f, t, o, n, sz, l⟩ : Pat) = ⟨f2, t2, o2, n2, sz2, m⟩) = r := ⟨_, rfl⟩
 rw [hR]
 have HR := Lib.hid hR
 clear hR
 have HB := Lib.hid hb
 have HC := Lib.hid (equalOps_calls A B c d l m _ hl hm (hs.stays hb) (hr.stays hb))
 clear hb hs hr
 by_cases h0 : ¬ f = f2
 ·have hz : false = r := (decide_eq_false (fun e => by injection e; contradiction)).symm.trans HR.out
  have HZ := Lib.hid hz
  have q : (f == f2) = false := by simp [h0]
  clear HC hz h0
  go_enter Try.func31, Try.ntmps31
  go_wp2_with fail
  go_ret
  exact ⟨ret_bool HZ.out, HB.out⟩
 have h0 := Decidable.not_not.1 h0
 subst h0
 have q0 : (f == f) = true := by simp
 by_cases h1 : ¬ t = t2
 ·have hz : false = r := (decide_eq_false (fun e => by injection e; contradiction)).symm.trans HR.out
  have HZ := Lib.hid hz
  have q : (t == t2) = false := by simp [h1]
  clear HC hz h1
  go_enter Try.func31, Try.ntmps31
  go_wp2_with fail
  go_ret
  exact ⟨ret_bool HZ.out, HB.out⟩
 have h1 := Decidable.not_not.1 h1
 subst h1
 have q1 : (t == t) = true := by simp
 by_cases h2 : ¬ o = o2
 ·have hz : false = r := (decide_eq_false (fun e => by injection e; contradiction)).symm.trans HR.out
  have HZ := Lib.hid hz
  have q : (o == o2) = false := by simp [h2]
  clear HC hz h2
  go_enter Try.func31, Try.ntmps31
  go_wp2_with fail
  go_ret
  exact ⟨ret_bool HZ.out, HB.out⟩
 have h2 := Decidable.not_not.1 h2
 subst h2
 have q2 : (o == o) = true := by simp
 by_cases h3 : ¬ n = n2
 ·have hz : false = r := (decide_eq_false (fun e => by injection e; contradiction)).symm.trans HR.out
  have HZ := Lib.hid hz
  have q : (n == n2) = false := by simp [h3]
  clear HC hz h3
  go_enter Try.func31, Try.ntmps31
  go_wp2_with fail
  go_ret
  exact ⟨ret_bool HZ.out, HB.out⟩
 have h3 := Decidable.not_not.1 h3
 subst h3
 have q3 : (n == n) = true := by simp
 by_cases h4 : ¬ sz = sz2
 ·have hz : false = r := (decide_eq_false (fun e => by injection e; contradiction)).symm.trans HR.out
  have HZ := Lib.hid hz
  have q : (sz == sz2) = false := by simp [h4]
  clear HC hz h4
  go_enter Try.func31, Try.ntmps31
  go_wp2_with fail
  go_ret
  exact ⟨ret_bool HZ.out, HB.out⟩
 have h4 := Decidable.not_not.1 h4
 subst h4
 have q4 : (sz == sz) = true := by simp
 have hz : decide (l = m) = r := by
  rw [← HR.out]
  by_cases e : l = m
  ·subst e; simp
  ·rw [decide_eq_false e, decide_eq_false (fun h => e (by injection h))]
 have HZ := Lib.hid hz
 clear hz
 go_enter Try.func31, Try.ntmps31
 go_wp2_with fail
 refine HC.out.mono ?_
 rintro e w9 ⟨rfl, hb1⟩
 have HB1 := Lib.hid (HB.out.trans (hb1.mono HB.out.size))
 clear hb1
 go_wp2_with fail
 go_ret
 exact ⟨ret_bool HZ.out, HB1.out⟩
theorem conv_str (A : Option Addr) (c : Nat) (l : List UInt8) (w : World) (hc : l.length ≤ c) (h : Bts w A l) : (convert 22 9 (.slice A l.length c)).run Try.prog w = .ok (.string ⟨l.toArray⟩) w := by
 by_cases e : l = []
 ·subst e
  cases A with
  | none => exact run_convert_bytes_nil (P := Try.prog) w 22 5 Try.underlying22 Try.underlying5 0 c 9 Try.underlying9
  | some a => exact run_convert_bytes_back (P := Try.prog) w 22 9 5 a c [] Try.underlying22 Try.underlying5 Try.underlying9 (fun j hj => by simp at hj)
 ·obtain ⟨b, o, rfl, -, -⟩ := h 0 (by rcases l with _ | ⟨x, l⟩; exact absurd rfl e; simp)
  refine run_convert_bytes_back (P := Try.prog) w 22 9 5 ⟨b, o, none⟩ c l Try.underlying22 Try.underlying5 Try.underlying9 (fun j hj => ?_)
  obtain ⟨b', o', e, -, hc⟩ := h j hj
  injection e with e
  injection e with e1 e2
  subst e1 e2
  rw [show (⟨b, o, none⟩ : Addr).add j = ⟨b, o + j, none⟩ by simp [Addr.add]]
  exact hc
theorem bytesEqual_calls (A B : Option Addr) (c d : Nat) (l m : List UInt8) (w : World) (hc : l.length ≤ c) (hd : m.length ≤ d) (ha : Bts w A l) (hb : Bts w B m) :
  Calls Try.prog 23 #[.slice A l.length c, .slice B m.length d] w (Ret w (.bool (decide (l = m)))) := by
 have k1 := conv_str A c l w hc ha
 have k2 := conv_str B d m w hd hb
 go_enter Try.func23, Try.ntmps23
 go_wp2_with fail
 go_ret
 exact ⟨ret_bool (by by_cases e : l = m <;> simp [e]), rfl⟩
section
open Go.RowKit
end
theorem refIn_t {n a b : Int} (h : a ≤ n ∧ n ≤ b) (w : World) : Calls Try.prog 91 #[iv n, iv a, iv b] w (Ret w (.bool true)) := by
 obtain ⟨h1, h2⟩ := h
 go_enter Try.func91, Try.ntmps91
 go_wp2_with fail
 go_ret
 exact ⟨rfl, rfl⟩
theorem refIn_f {n a b : Int} (h : n < a ∨ b < n) (w : World) : Calls Try.prog 91 #[iv n, iv a, iv b] w (Ret w (.bool false)) := by
 by_cases h1 : a ≤ n
 ·have h2 : ¬ n ≤ b := by omega
  clear h
  go_enter Try.func91, Try.ntmps91
  go_wp2_with fail
  go_ret
  exact ⟨rfl, rfl⟩
 ·clear h
  go_enter Try.func91, Try.ntmps91
  go_wp2_with fail
  go_ret
  exact ⟨rfl, rfl⟩
theorem refCheck_calls (A : Option Addr) (c : Nat) (l : List Stp) (old size : Int) (w : World) (hl : l.length ≤ 1048576) (hr : Sps w A l) :
  Calls Try.prog 20 #[.slice A l.length c, iv old, iv size] w (RetB w (iv (deltaCheck l old size))) := by
 by_cases hm : 40 < l.length ∨ old < 0 ∨ 64 < old ∨ size < 0 ∨ 64 < size
 ·have HR := Lib.hid (dc_many hm)
  by_cases h1 : 40 < l.length
  ·have h1' : (40 : Int) < (l.length : Int) := by omega
   clear hm h1
   go_enter Try.func20, Try.ntmps20
   go_wp2_with fail
   go_ret
   exact ⟨ret_int HR.out.symm, Below.refl _ _⟩
  have h1' : ¬ (40 : Int) < (l.length : Int) := by omega
  by_cases h2 : old < 0 ∨ 64 < old
  ·have I1 := Lib.hid (fun w => refIn_f (a := 0) (b := 64) h2 w)
   clear hm h1 h2
   go_enter Try.func20, Try.ntmps20
   go_wp2_with fail
   refine (I1.out _).mono ?_
   rintro e9 w9 ⟨rfl, rfl⟩
   go_wp2_with fail
   go_ret
   exact ⟨ret_int HR.out.symm, Below.refl _ _⟩
  have I1 := Lib.hid (fun w => refIn_t (n := old) (a := 0) (b := 64) (by omega) w)
  have I2 := Lib.hid (fun w => refIn_f (n := size) (a := 0) (b := 64) (by omega) w)
  clear hm h1 h2
  go_enter Try.func20, Try.ntmps20
  go_wp2_with fail
  refine (I1.out _).mono ?_
  rintro e9 w9 ⟨rfl, rfl⟩
  go_wp2_with fail
  refine (I2.out _).mono ?_
  rintro e9 w9 ⟨rfl, rfl⟩
  go_wp2_with fail
  go_ret
  exact ⟨ret_int HR.out.symm, Below.refl _ _⟩
 ·have HR := Lib.hid (dc_go hm)
  have h1 : ¬ (40 : Int) < (l.length : Int) := by omega
  have I1 := Lib.hid (fun w => refIn_t (n := old) (a := 0) (b := 64) (by omega) w)
  have I2 := Lib.hid (fun w => refIn_t (n := size) (a := 0) (b := 64) (by omega) w)
  have h2 : 0 ≤ old := by omega
  have h3 : old ≤ 64 := by omega
  have h4 : 0 ≤ size := by omega
  have h5 : size ≤ 64 := by omega
  have h6 : l.length ≤ 40 := by omega
  clear hm
  go_enter Try.func20, Try.ntmps20
  go_wp2_with fail
  refine (I1.out _).mono ?_
  rintro e9 w9 ⟨rfl, rfl⟩
  go_wp2_with fail
  refine (I2.out _).mono ?_
  rintro e9 w9 ⟨rfl, rfl⟩
  go_wp2_with fail
  go_loopw [26, 7] (fun i s wr => ∃ (k : Nat) (z : Int), k ≤ l.length ∧ i = .int .i64 k ∧ s = .int .i64 (size - z) ∧ 0 ≤ z ∧ z ≤ size ∧ Hid (ScAt old l size k z) ∧ Hid (Below w.heap.size w wr)) (fun i _ _ => l.length - (intOf i).toNat)
  case atStart => exact ⟨0, size, Nat.zero_le _, rfl, by simp, by omega, by omega, Lib.hid (by unfold ScAt; rw [List.drop_zero]), Lib.hid (Below.refl _ _)⟩
  case round =>
   obtain ⟨k, z, hk, rfl, rfl, hz0, hz1, HS, HB⟩ := hrel
   by_cases hlt : k < l.length
   ·obtain ⟨b, o, B, cc, rfl, hs, hc0, hc1, hc2, hd1, hd2, -, hi0, hi1⟩ := (hr.stays HB.out).at_ hlt
    have HH := Lib.hid (HS.out.here hlt)
    have hsz := HB.out.size
    clear HS
    unfold I64 at hi0 hi1
    obtain ⟨i00, i01⟩ := hi0
    obtain ⟨i10, i11⟩ := hi1
    generalize hx : l[k] = x at *
    clear hx
    obtain ⟨at_, len, data⟩ := x
    dsimp only at *
    have hdl : 0 ≤ (data.length : Int) := by omega
    by_cases hf : (⟨at_, len, data⟩ : Stp).form
    ·by_cases hin : (⟨at_, len, data⟩ : Stp).in_ old
     ·have hn : (⟨at_, len, data⟩ : Stp).n = len + data.length := rfl
      have hin' := hin
      unfold Stp.in_ at hin'
      dsimp only at hin'
      obtain ⟨j1, j2, j3⟩ := hin'
      have hf' := hf
      unfold Stp.form at hf'
      dsimp only at hf'
      have t1 : ¬ len < 0 := by omega
      have t2 : ¬ at_ < 0 := by omega
      have t3 : ¬ 64 < len := by omega
      have t4 : ¬ 64 < at_ := by omega
      have t5 : ¬ old < at_ + len := by omega
      have w1 : IntKind.i64.wrap (at_ + len) = at_ + len := IntWalk.i64_in _ (by omega)
      by_cases hzn : z < len + data.length
      ·have HE := Lib.hid (HH.out.symm.trans (sc_many hf hin (by rw [hn]; exact hzn)))
       clear hf hin hn HH
       by_cases e0 : len = 0
       ·obtain ⟨rfl, e2, e3⟩ := hf'.1 e0
        subst e0
        have e4 : 1 ≤ data.length := by rcases data with _ | ⟨y, d⟩; exact absurd rfl e2; simp
        have I3 := Lib.hid (fun w => refIn_t (n := (data.length : Int)) (a := 1) (b := 64) (by omega) w)
        have w2 : IntKind.i64.wrap ((size - z) + (data.length : Int)) = (size - z) + (data.length : Int) := IntWalk.i64_in _ (by omega)
        have t6 : size < (size - z) + (data.length : Int) := by omega
        clear hf' e2 w1 t1 t2 t3 t4 t5
        go_wp2_with fail
        refine (I3.out _).mono ?_
        rintro e9 w9 ⟨rfl, rfl⟩
        go_wp2_with fail
        go_ret
        exact ⟨ret_int (by rw [HR.out, HE.out]), (HB.out.alloc hsz _)⟩
       ·have e2 := hf'.2 e0
        subst e2
        have q1 : (len == 0) = false := by simp [e0]
        have q2 : (len != 0) = true := by simp [e0]
        clear hf' e0
        simp only [List.length_nil, Int.ofNat_eq_natCast, Int.natCast_zero, Int.add_zero] at *
        have w2 : IntKind.i64.wrap ((size - z) + len) = (size - z) + len := IntWalk.i64_in _ (by omega)
        have t6 : size < (size - z) + len := by omega
        go_wp2_with fail
        go_ret
        exact ⟨ret_int (by rw [HR.out, HE.out]), (HB.out.alloc hsz _)⟩
      ·have HE := Lib.hid ((sc_on hf hin (by rw [hn]; exact hzn)).symm.trans HH.out)
       clear hf hin HH
       rw [hn] at HE
       clear hn
       by_cases e0 : len = 0
       ·obtain ⟨rfl, e2, e3⟩ := hf'.1 e0
        subst e0
        have e4 : 1 ≤ data.length := by rcases data with _ | ⟨y, d⟩; exact absurd rfl e2; simp
        have I3 := Lib.hid (fun w => refIn_t (n := (data.length : Int)) (a := 1) (b := 64) (by omega) w)
        have w2 : IntKind.i64.wrap ((size - z) + (data.length : Int)) = (size - z) + (data.length : Int) := IntWalk.i64_in _ (by omega)
        have t6 : ¬ size < (size - z) + (data.length : Int) := by omega
        clear hf' e2 w1 t1 t2 t3 t4 t5
        go_wp2_with fail
        refine (I3.out _).mono ?_
        rintro e9 w9 ⟨rfl, rfl⟩
        go_wp2_with fail
        go_roundw
        case rel => exact ⟨k + 1, z - (0 + data.length), by omega, by go_num, by go_num, by omega, by omega, HE, Lib.hid (HB.out.alloc hsz _)⟩
        case measure => simp [intOf]; omega
       ·have e2 := hf'.2 e0
        subst e2
        have q1 : (len == 0) = false := by simp [e0]
        have q2 : (len != 0) = true := by simp [e0]
        clear hf' e0
        have HE2 : Hid (ScAt old l size (k + 1) (z - len)) := by
         have := HE.out
         refine Lib.hid ?_
         simpa [ScAt] using this
        clear HE
        simp only [List.length_nil, Int.ofNat_eq_natCast, Int.natCast_zero, Int.add_zero] at *
        have w2 : IntKind.i64.wrap ((size - z) + len) = (size - z) + len := IntWalk.i64_in _ (by omega)
        have t6 : ¬ size < (size - z) + len := by omega
        go_wp2_with fail
        go_roundw
        case rel => exact ⟨k + 1, z - len, by omega, by go_num, by go_num, by omega, by omega, HE2, Lib.hid (HB.out.alloc hsz _)⟩
        case measure => simp [intOf]; omega
     ·have HE := Lib.hid (HH.out.symm.trans (sc_range hf hin))
      have hf' := hf
      unfold Stp.form at hf'
      dsimp only at hf'
      have hin' := hin
      unfold Stp.in_ at hin'
      dsimp only at hin'
      clear hf hin HH
      have e0 : len ≠ 0 := by
       intro e0
       obtain ⟨e1, _, _⟩ := hf'.1 e0
       omega
      have e2 := hf'.2 e0
      subst e2
      have q1 : (len == 0) = false := by simp [e0]
      have q2 : (len != 0) = true := by simp [e0]
      clear hf' e0
      simp only [List.length_nil, Int.ofNat_eq_natCast, Int.natCast_zero, Int.add_zero] at *
      have HI := Lib.hid hin'
      clear hin'
      by_cases r1 : len < 0
      ·go_wp2_with fail
       go_ret
       exact ⟨ret_int (by rw [HR.out, HE.out]), (HB.out.alloc hsz _)⟩
      by_cases r2 : at_ < 0
      ·go_wp2_with fail
       go_ret
       exact ⟨ret_int (by rw [HR.out, HE.out]), (HB.out.alloc hsz _)⟩
      by_cases r3 : 64 < len
      ·go_wp2_with fail
       go_ret
       exact ⟨ret_int (by rw [HR.out, HE.out]), (HB.out.alloc hsz _)⟩
      by_cases r4 : 64 < at_
      ·go_wp2_with fail
       go_ret
       exact ⟨ret_int (by rw [HR.out, HE.out]), (HB.out.alloc hsz _)⟩
      have w1 : IntKind.i64.wrap (at_ + len) = at_ + len := IntWalk.i64_in _ (by omega)
      have r5 : old < at_ + len := by have := HI.out; omega
      go_wp2_with fail
      go_ret
      exact ⟨ret_int (by rw [HR.out, HE.out]), (HB.out.alloc hsz _)⟩
    ·have HE := Lib.hid (HH.out.symm.trans (sc_form hf))
     have hf' := hf
     unfold Stp.form at hf'
     dsimp only at hf'
     clear hf HH
     by_cases e0 : len = 0
     ·subst e0
      by_cases e1 : at_ = 0
      ·subst e1
       have I3 : Hid (∀ w, Calls Try.prog 91 #[iv (data.length : Int), iv 1, iv 64] w (Ret w (.bool false))) := Lib.hid (fun w => by
        by_cases e2 : data = []
        ·subst e2; exact refIn_f (Or.inl (by decide)) w
        ·refine refIn_f (Or.inr ?_) w
         by_cases g : data.length ≤ 64
         ·exact absurd ⟨fun _ => ⟨rfl, e2, g⟩, fun h => absurd rfl h⟩ hf'
         ·omega)
       clear hf'
       go_wp2_with fail
       refine (I3.out _).mono ?_
       rintro e9 w9 ⟨rfl, rfl⟩
       go_wp2_with fail
       go_ret
       exact ⟨ret_int (by rw [HR.out, HE.out]), (HB.out.alloc hsz _)⟩
      ·have q1 : (at_ != 0) = true := by simp [e1]
       clear hf' e1
       go_wp2_with fail
       go_ret
       exact ⟨ret_int (by rw [HR.out, HE.out]), (HB.out.alloc hsz _)⟩
     ·have e2 : data ≠ [] := fun e => hf' ⟨fun h => absurd h e0, fun _ => e⟩
      have e4 : 1 ≤ data.length := by rcases data with _ | ⟨y, d⟩; exact absurd rfl e2; simp
      have q1 : (len == 0) = false := by simp [e0]
      have q2 : (len != 0) = true := by simp [e0]
      have q3 : ((data.length : Int) != 0) = true := by simp; omega
      clear hf' e0 e2
      go_wp2_with fail
      go_ret
      exact ⟨ret_int (by rw [HR.out, HE.out]), (HB.out.alloc hsz _)⟩
   ·obtain rfl : k = l.length := by omega
    have HE : Hid (stepsCheck old l size = if z = 0 then 0 else 3) := by
     have := HS.out
     unfold ScAt at this
     rw [List.drop_length] at this
     rw [← this]; rfl
    clear HS
    by_cases e : z = 0
    ·have HF := Lib.hid (HE.out.trans (if_pos e))
     subst e
     go_wp2_with fail
     go_ret
     exact ⟨ret_int (by rw [HR.out, HF.out]), HB.out⟩
    ·have HF := Lib.hid (HE.out.trans (if_neg e))
     have q : size - z < size := by omega
     clear e
     go_wp2_with fail
     go_ret
     exact ⟨ret_int (by rw [HR.out, HF.out]), HB.out⟩
theorem refPatCheckA_calls (A : Option Addr) (c : Nat) (f t o n sz : Int) (l : List Stp) (w : World) (hl : l.length ≤ 1048576) (hs : Sps w A l) :
  Calls Try.prog 30 #[.agg #[iv f, iv t, iv o, iv n, iv sz, .slice A l.length c]] w (RetB w (iv (patCheck ⟨f, t, o, n, sz, l⟩))) := by
 have hb : Below w.heap.size w (w.alloc (.cells #[iv f, iv t, iv o, iv n, iv sz, .slice A l.length c] 35)) := (Below.refl _ _).alloc (Nat.le_refl _) _
 have HB := Lib.hid hb
 have HC := Lib.hid (refCheck_calls A c l 64 sz _ hl (hs.stays hb))
 clear hb hs
 by_cases h0 : ¬ ((1 : Int) ≤ f ∧ f ≤ 30)
 ·have hz := Lib.hid (patCheck_bad (p := ⟨f, t, o, n, sz, l⟩) (by unfold Pat.range; dsimp only; omega))
  have I0 := Lib.hid (fun w => refIn_f (n := f) (a := 1) (b := 30) (by omega) w)
  clear HC h0
  go_enter Try.func30, Try.ntmps30
  go_wp2_with fail
  refine (I0.out _).mono ?_
  rintro e0 w0 ⟨rfl, rfl⟩
  go_wp2_with fail
  go_ret
  exact ⟨ret_int hz.out.symm, HB.out⟩
 have h0 := Decidable.not_not.1 h0
 have I0 := Lib.hid (fun w => refIn_t (n := f) (a := 1) (b := 30) h0 w)
 by_cases h1 : ¬ ((1 : Int) ≤ t ∧ t ≤ 30)
 ·have hz := Lib.hid (patCheck_bad (p := ⟨f, t, o, n, sz, l⟩) (by unfold Pat.range; dsimp only; omega))
  have I1 := Lib.hid (fun w => refIn_f (n := t) (a := 1) (b := 30) (by omega) w)
  clear HC h1
  go_enter Try.func30, Try.ntmps30
  go_wp2_with fail
  refine (I0.out _).mono ?_
  rintro e0 w0 ⟨rfl, rfl⟩
  go_wp2_with fail
  refine (I1.out _).mono ?_
  rintro e1 w1 ⟨rfl, rfl⟩
  go_wp2_with fail
  go_ret
  exact ⟨ret_int hz.out.symm, HB.out⟩
 have h1 := Decidable.not_not.1 h1
 have I1 := Lib.hid (fun w => refIn_t (n := t) (a := 1) (b := 30) h1 w)
 by_cases h2 : ¬ ((0 : Int) ≤ o ∧ o ≤ 65535)
 ·have hz := Lib.hid (patCheck_bad (p := ⟨f, t, o, n, sz, l⟩) (by unfold Pat.range; dsimp only; omega))
  have I2 := Lib.hid (fun w => refIn_f (n := o) (a := 0) (b := 65535) (by omega) w)
  clear HC h2
  go_enter Try.func30, Try.ntmps30
  go_wp2_with fail
  refine (I0.out _).mono ?_
  rintro e0 w0 ⟨rfl, rfl⟩
  go_wp2_with fail
  refine (I1.out _).mono ?_
  rintro e1 w1 ⟨rfl, rfl⟩
  go_wp2_with fail
  refine (I2.out _).mono ?_
  rintro e2 w2 ⟨rfl, rfl⟩
  go_wp2_with fail
  go_ret
  exact ⟨ret_int hz.out.symm, HB.out⟩
 have h2 := Decidable.not_not.1 h2
 have I2 := Lib.hid (fun w => refIn_t (n := o) (a := 0) (b := 65535) h2 w)
 by_cases h3 : ¬ ((0 : Int) ≤ n ∧ n ≤ 65535)
 ·have hz := Lib.hid (patCheck_bad (p := ⟨f, t, o, n, sz, l⟩) (by unfold Pat.range; dsimp only; omega))
  have I3 := Lib.hid (fun w => refIn_f (n := n) (a := 0) (b := 65535) (by omega) w)
  clear HC h3
  go_enter Try.func30, Try.ntmps30
  go_wp2_with fail
  refine (I0.out _).mono ?_
  rintro e0 w0 ⟨rfl, rfl⟩
  go_wp2_with fail
  refine (I1.out _).mono ?_
  rintro e1 w1 ⟨rfl, rfl⟩
  go_wp2_with fail
  refine (I2.out _).mono ?_
  rintro e2 w2 ⟨rfl, rfl⟩
  go_wp2_with fail
  refine (I3.out _).mono ?_
  rintro e3 w3 ⟨rfl, rfl⟩
  go_wp2_with fail
  go_ret
  exact ⟨ret_int hz.out.symm, HB.out⟩
 have h3 := Decidable.not_not.1 h3
 have I3 := Lib.hid (fun w => refIn_t (n := n) (a := 0) (b := 65535) h3 w)
 have hz := Lib.hid (patCheck_in (p := ⟨f, t, o, n, sz, l⟩) (by unfold Pat.range; dsimp only; omega))
 clear h0 h1 h2 h3
 go_enter Try.func30, Try.ntmps30
 go_wp2_with fail
 refine (I0.out _).mono ?_
 rintro e0 w0 ⟨rfl, rfl⟩
 go_wp2_with fail
 refine (I1.out _).mono ?_
 rintro e1 w1 ⟨rfl, rfl⟩
 go_wp2_with fail
 refine (I2.out _).mono ?_
 rintro e2 w2 ⟨rfl, rfl⟩
 go_wp2_with fail
 refine (I3.out _).mono ?_
 rintro e3 w3 ⟨rfl, rfl⟩
 go_wp2_with fail
 refine HC.out.mono ?_
 rintro e w9 ⟨rfl, hb1⟩
 have HB1 := Lib.hid (HB.out.trans (hb1.mono HB.out.size))
 clear hb1
 go_wp2_with fail
 go_ret
 exact ⟨ret_int hz.out.symm, HB1.out⟩
end Go.Proofs.Ytefkfglkpebbmac
