/- Some of the walks of this claim, one behind the other. No conditions. -/
import Derived.Test.YtefkfglkpebbmacQBase
import Derived.Deep.MidRow
import Derived.Laws.CopyOwn
import Derived.Laws.CopyRow
namespace Go.Proofs.Ytefkfglkpebbmac
open Go.RowKit
set_option linter.unusedVariables false
set_option linter.unusedSimpArgs false

theorem dc_many {l : List Stp} {old size : Int} (h : 40 < l.length ∨ old < 0 ∨ 64 < old ∨ size < 0 ∨ 64 < size) : deltaCheck l old size = 1 := by unfold deltaCheck; rw [if_pos h]
theorem dc_go {l : List Stp} {old size : Int} (h : ¬ (40 < l.length ∨ old < 0 ∨ 64 < old ∨ size < 0 ∨ 64 < size)) : deltaCheck l old size = stepsCheck old l size := by unfold deltaCheck; rw [if_neg h]
theorem sc_form {o : Stp} {l : List Stp} {old size : Int} (h : ¬ o.form) : stepsCheck old (o :: l) size = 3 := by unfold stepsCheck; rw [if_pos h]
theorem sc_range {o : Stp} {l : List Stp} {old size : Int} (h : o.form) (g : ¬ o.in_ old) : stepsCheck old (o :: l) size = 2 := by unfold stepsCheck; rw [if_neg (by simpa using h), if_pos g]
theorem sc_many {o : Stp} {l : List Stp} {old size : Int} (h : o.form) (g : o.in_ old) (k : size < o.n) : stepsCheck old (o :: l) size = 1 := by unfold stepsCheck; rw [if_neg (by simpa using h), if_neg (by simpa using g), if_pos k]
theorem sc_on {o : Stp} {l : List Stp} {old size : Int} (h : o.form) (g : o.in_ old) (k : ¬ size < o.n) : stepsCheck old (o :: l) size = stepsCheck old l (size - o.n) := by
  conv => lhs; unfold stepsCheck
  rw [if_neg (by simpa using h), if_neg (by simpa using g), if_neg k]
def ScAt (old : Int) (l : List Stp) (size : Int) (k : Nat) (s : Int) : Prop := stepsCheck old (l.drop k) s = stepsCheck old l size
theorem ScAt.here {old size s : Int} {l : List Stp} {k : Nat} (h : ScAt old l size k s) (hk : k < l.length) : stepsCheck old (l[k] :: l.drop (k + 1)) s = stepsCheck old l size := by
  unfold ScAt at h; rwa [List.drop_eq_getElem_cons hk] at h

set_option maxRecDepth 100000 in
set_option maxHeartbeats 4000000 in
theorem deltaCheck_calls (A : Option Addr) (c : Nat) (l : List Stp) (old size : Int) (w : World) (hl : l.length ≤ 1048576) (hr : Sps w A l) :
    Calls Try.prog 19 #[.slice A l.length c, iv old, iv size] w (RetB w (iv (deltaCheck l old size))) := by
  by_cases hm : 40 < l.length ∨ old < 0 ∨ 64 < old ∨ size < 0 ∨ 64 < size
  · have HR := Lib.hid (dc_many hm)
    by_cases h1 : 40 < l.length
    · have h1' : (40 : Int) < (l.length : Int) := by omega
      clear hm h1
      go_enter Try.func19, Try.ntmps19
      go_wp2_with fail
      go_ret
      exact ⟨ret_int HR.out.symm, Below.refl _ _⟩
    have h1' : ¬ (40 : Int) < (l.length : Int) := by omega
    by_cases h2 : old < 0
    · clear hm h1
      go_enter Try.func19, Try.ntmps19
      go_wp2_with fail
      go_ret
      exact ⟨ret_int HR.out.symm, Below.refl _ _⟩
    by_cases h3 : 64 < old
    · clear hm h1
      go_enter Try.func19, Try.ntmps19
      go_wp2_with fail
      go_ret
      exact ⟨ret_int HR.out.symm, Below.refl _ _⟩
    by_cases h4 : size < 0
    · clear hm h1
      go_enter Try.func19, Try.ntmps19
      go_wp2_with fail
      go_ret
      exact ⟨ret_int HR.out.symm, Below.refl _ _⟩
    have h5 : 64 < size := by omega
    clear hm h1
    go_enter Try.func19, Try.ntmps19
    go_wp2_with fail
    go_ret
    exact ⟨ret_int HR.out.symm, Below.refl _ _⟩
  · have HR := Lib.hid (dc_go hm)
    have h1 : ¬ (40 : Int) < (l.length : Int) := by omega
    have h2 : ¬ old < 0 := by omega
    have h3 : ¬ 64 < old := by omega
    have h4 : ¬ size < 0 := by omega
    have h5 : ¬ 64 < size := by omega
    have h6 : l.length ≤ 40 := by omega
    clear hm
    go_enter Try.func19, Try.ntmps19
    go_wp2_with fail
    go_loopw [31, 2] (fun i s wr => ∃ (k : Nat) (z : Int), k ≤ l.length ∧ i = .int .i64 k ∧ s = .int .i64 z ∧ 0 ≤ z ∧ z ≤ 64 ∧ Hid (ScAt old l size k z) ∧ Hid (Below w.heap.size w wr)) (fun i _ _ => l.length - (intOf i).toNat)
    case atStart => exact ⟨0, size, Nat.zero_le _, rfl, rfl, by omega, by omega, Lib.hid (by unfold ScAt; rw [List.drop_zero]), Lib.hid (Below.refl _ _)⟩
    case round =>
      clear h4 h5
      obtain ⟨k, z, hk, rfl, rfl, hz0, hz1, HS, HB⟩ := hrel
      by_cases hlt : k < l.length
      · obtain ⟨b, o, B, cc, rfl, hs, hc0, hc1, hc2, hd1, hd2, -, hi0, hi1⟩ := (hr.stays HB.out).at_ hlt
        have HH := Lib.hid (HS.out.here hlt)
        have hsz := HB.out.size
        clear HS
        unfold I64 at hi0 hi1
        obtain ⟨i00, i01⟩ := hi0
        obtain ⟨i10, i11⟩ := hi1
        generalize hx : l[k] = x at *
        clear hx
        obtain ⟨at_, len, data⟩ := x
        dsimp only at *
        have hdl : 0 ≤ (data.length : Int) := by omega
        by_cases hf : (⟨at_, len, data⟩ : Stp).form
        · by_cases hin : (⟨at_, len, data⟩ : Stp).in_ old
          · have hn : (⟨at_, len, data⟩ : Stp).n = len + data.length := rfl
            have hin' := hin
            unfold Stp.in_ at hin'
            dsimp only at hin'
            obtain ⟨j1, j2, j3⟩ := hin'
            have hf' := hf
            unfold Stp.form at hf'
            dsimp only at hf'
            by_cases hzn : z < len + data.length
            · have HE := Lib.hid (HH.out.symm.trans (sc_many hf hin (by rw [hn]; exact hzn)))
              clear hf hin hn HH
              by_cases e0 : len = 0
              · obtain ⟨rfl, e2, e3⟩ := hf'.1 e0
                subst e0
                have e4 : 1 ≤ data.length := by rcases data with _ | ⟨y, d⟩; exact absurd rfl e2; simp
                have q1 : ((data.length : Int) == 0) = false := by simp; omega
                have q2 : ¬ (64 : Int) < (data.length : Int) := by omega
                clear hf' e2
                go_wp2_with fail
                go_ret
                exact ⟨ret_int (by rw [HR.out, HE.out]), (HB.out.alloc hsz _)⟩
              · have e2 := hf'.2 e0
                subst e2
                have q1 : (len == 0) = false := by simp [e0]
                have q2 : (len != 0) = true := by simp [e0]
                clear hf' e0
                simp only [List.length_nil, Int.ofNat_eq_natCast, Int.natCast_zero, Int.add_zero] at *
                go_wp2_with fail
                go_ret
                exact ⟨ret_int (by rw [HR.out, HE.out]), (HB.out.alloc hsz _)⟩
            · have HE := Lib.hid ((sc_on hf hin (by rw [hn]; exact hzn)).symm.trans HH.out)
              clear hf hin HH
              rw [hn] at HE
              clear hn
              by_cases e0 : len = 0
              · obtain ⟨rfl, e2, e3⟩ := hf'.1 e0
                subst e0
                have e4 : 1 ≤ data.length := by rcases data with _ | ⟨y, d⟩; exact absurd rfl e2; simp
                have q1 : ((data.length : Int) == 0) = false := by simp; omega
                have q2 : ¬ (64 : Int) < (data.length : Int) := by omega
                clear hf' e2
                go_wp2_with fail
                go_roundw
                case rel => exact ⟨k + 1, z - (0 + data.length), by omega, by go_num, by simp, by omega, by omega, HE, Lib.hid (HB.out.alloc hsz _)⟩
                case measure => simp [intOf]; omega
              · have e2 := hf'.2 e0
                subst e2
                have q1 : (len == 0) = false := by simp [e0]
                have q2 : (len != 0) = true := by simp [e0]
                clear hf' e0
                have HE2 : Hid (ScAt old l size (k + 1) (z - len)) := by
                  have := HE.out
                  refine Lib.hid ?_
                  simpa [ScAt] using this
                clear HE
                simp only [List.length_nil, Int.ofNat_eq_natCast, Int.natCast_zero, Int.add_zero] at *
                go_wp2_with fail
                go_roundw
                case rel => exact ⟨k + 1, z - len, by omega, by go_num, by simp, by omega, by omega, HE2, Lib.hid (HB.out.alloc hsz _)⟩
                case measure => simp [intOf]; omega
          · have HE := Lib.hid (HH.out.symm.trans (sc_range hf hin))
            have hf' := hf
            unfold Stp.form at hf'
            dsimp only at hf'
            have hin' := hin
            unfold Stp.in_ at hin'
            dsimp only at hin'
            clear hf hin HH
            have e0 : len ≠ 0 := by
              intro e0
              obtain ⟨e1, _, _⟩ := hf'.1 e0
              omega
            have e2 := hf'.2 e0
            subst e2
            have q1 : (len == 0) = false := by simp [e0]
            have q2 : (len != 0) = true := by simp [e0]
            clear hf' e0
            simp only [List.length_nil, Int.ofNat_eq_natCast, Int.natCast_zero, Int.add_zero] at *
            have HI := Lib.hid hin'
            clear hin'
            by_cases r1 : len < 0
            · go_wp2_with fail
              go_ret
              exact ⟨ret_int (by rw [HR.out, HE.out]), (HB.out.alloc hsz _)⟩
            by_cases r2 : at_ < 0
            · go_wp2_with fail
              go_ret
              exact ⟨ret_int (by rw [HR.out, HE.out]), (HB.out.alloc hsz _)⟩
            by_cases r3 : old < len
            · go_wp2_with fail
              go_ret
              exact ⟨ret_int (by rw [HR.out, HE.out]), (HB.out.alloc hsz _)⟩
            have r4 : old - len < at_ := by have := HI.out; omega
            go_wp2_with fail
            go_ret
            exact ⟨ret_int (by rw [HR.out, HE.out]), (HB.out.alloc hsz _)⟩
        · have HE := Lib.hid (HH.out.symm.trans (sc_form hf))
          have hf' := hf
          unfold Stp.form at hf'
          dsimp only at hf'
          clear hf HH
          by_cases e0 : len = 0
          · subst e0
            by_cases e1 : at_ = 0
            · subst e1
              by_cases e2 : data = []
              · subst e2
                clear hf'
                simp only [List.length_nil, Int.ofNat_eq_natCast, Int.natCast_zero, Int.add_zero] at *
                go_wp2_with fail
                go_ret
                exact ⟨ret_int (by rw [HR.out, HE.out]), (HB.out.alloc hsz _)⟩
              · have e4 : 1 ≤ data.length := by rcases data with _ | ⟨y, d⟩; exact absurd rfl e2; simp
                have e3 : (64 : Int) < (data.length : Int) := by
                  by_cases g : data.length ≤ 64
                  · exact absurd ⟨fun _ => ⟨rfl, e2, g⟩, fun h => absurd rfl h⟩ hf'
                  · omega
                have q1 : ((data.length : Int) == 0) = false := by simp; omega
                clear hf' e2
                go_wp2_with fail
                go_ret
                exact ⟨ret_int (by rw [HR.out, HE.out]), (HB.out.alloc hsz _)⟩
            · have q1 : (at_ != 0) = true := by simp [e1]
              clear hf' e1
              go_wp2_with fail
              go_ret
              exact ⟨ret_int (by rw [HR.out, HE.out]), (HB.out.alloc hsz _)⟩
          · have e2 : data ≠ [] := fun e => hf' ⟨fun h => absurd h e0, fun _ => e⟩
            have e4 : 1 ≤ data.length := by rcases data with _ | ⟨y, d⟩; exact absurd rfl e2; simp
            have q1 : (len == 0) = false := by simp [e0]
            have q2 : (len != 0) = true := by simp [e0]
            have q3 : (0 : Int) < (data.length : Int) := by omega
            clear hf' e0 e2
            go_wp2_with fail
            go_ret
            exact ⟨ret_int (by rw [HR.out, HE.out]), (HB.out.alloc hsz _)⟩
      · obtain rfl : k = l.length := by omega
        have HE : Hid (stepsCheck old l size = if z = 0 then 0 else 3) := by
          have := HS.out
          unfold ScAt at this
          rw [List.drop_length] at this
          rw [← this]; rfl
        clear HS
        by_cases e : z = 0
        · have HF := Lib.hid (HE.out.trans (if_pos e))
          subst e
          go_wp2_with fail
          go_ret
          exact ⟨ret_int (by rw [HR.out, HF.out]), HB.out⟩
        · have HF := Lib.hid (HE.out.trans (if_neg e))
          have q : (z != 0) = true := by simp [e]
          clear e
          go_wp2_with fail
          go_ret
          exact ⟨ret_int (by rw [HR.out, HF.out]), HB.out⟩
end Go.Proofs.Ytefkfglkpebbmac
namespace Go.Proofs.Ytefkfglkpebbmac
open Go.RowKit
set_option linter.unusedVariables false
set_option linter.unusedSimpArgs false

theorem patCheck_bad {p : Pat} (h : ¬ p.range) : patCheck p = 2 := by unfold patCheck; rw [if_pos h]
theorem patCheck_in {p : Pat} (h : p.range) : patCheck p = deltaCheck p.ops 64 p.size := by unfold patCheck; rw [if_neg (by simpa using h)]
set_option maxRecDepth 100000 in
set_option maxHeartbeats 8000000 in
theorem patCheckA_calls (A : Option Addr) (c : Nat) (f t o n sz : Int) (l : List Stp) (w : World) (hl : l.length ≤ 1048576) (hs : Sps w A l) :
    Calls Try.prog 29 #[.agg #[iv f, iv t, iv o, iv n, iv sz, .slice A l.length c]] w (RetB w (iv (patCheck ⟨f, t, o, n, sz, l⟩))) := by
  have hb : Below w.heap.size w (w.alloc (.cells #[iv f, iv t, iv o, iv n, iv sz, .slice A l.length c] 35)) := (Below.refl _ _).alloc (Nat.le_refl _) _
  have HB := Lib.hid hb
  have HC := Lib.hid (deltaCheck_calls A c l 64 sz _ hl (hs.stays hb))
  clear hb hs
  by_cases h0 : f < (1 : Int)
  · have hz := Lib.hid (patCheck_bad (p := ⟨f, t, o, n, sz, l⟩) (by unfold Pat.range; dsimp only; omega))
    clear HC
    go_enter Try.func29, Try.ntmps29
    go_wp2_with fail
    go_ret
    exact ⟨ret_int hz.out.symm, HB.out⟩
  by_cases h1 : (30 : Int) < f
  · have hz := Lib.hid (patCheck_bad (p := ⟨f, t, o, n, sz, l⟩) (by unfold Pat.range; dsimp only; omega))
    clear HC
    go_enter Try.func29, Try.ntmps29
    go_wp2_with fail
    go_ret
    exact ⟨ret_int hz.out.symm, HB.out⟩
  by_cases h2 : t < (1 : Int)
  · have hz := Lib.hid (patCheck_bad (p := ⟨f, t, o, n, sz, l⟩) (by unfold Pat.range; dsimp only; omega))
    clear HC
    go_enter Try.func29, Try.ntmps29
    go_wp2_with fail
    go_ret
    exact ⟨ret_int hz.out.symm, HB.out⟩
  by_cases h3 : (30 : Int) < t
  · have hz := Lib.hid (patCheck_bad (p := ⟨f, t, o, n, sz, l⟩) (by unfold Pat.range; dsimp only; omega))
    clear HC
    go_enter Try.func29, Try.ntmps29
    go_wp2_with fail
    go_ret
    exact ⟨ret_int hz.out.symm, HB.out⟩
  by_cases h4 : o < (0 : Int)
  · have hz := Lib.hid (patCheck_bad (p := ⟨f, t, o, n, sz, l⟩) (by unfold Pat.range; dsimp only; omega))
    clear HC
    go_enter Try.func29, Try.ntmps29
    go_wp2_with fail
    go_ret
    exact ⟨ret_int hz.out.symm, HB.out⟩
  by_cases h5 : (65535 : Int) < o
  · have hz := Lib.hid (patCheck_bad (p := ⟨f, t, o, n, sz, l⟩) (by unfold Pat.range; dsimp only; omega))
    clear HC
    go_enter Try.func29, Try.ntmps29
    go_wp2_with fail
    go_ret
    exact ⟨ret_int hz.out.symm, HB.out⟩
  by_cases h6 : n < (0 : Int)
  · have hz := Lib.hid (patCheck_bad (p := ⟨f, t, o, n, sz, l⟩) (by unfold Pat.range; dsimp only; omega))
    clear HC
    go_enter Try.func29, Try.ntmps29
    go_wp2_with fail
    go_ret
    exact ⟨ret_int hz.out.symm, HB.out⟩
  by_cases h7 : (65535 : Int) < n
  · have hz := Lib.hid (patCheck_bad (p := ⟨f, t, o, n, sz, l⟩) (by unfold Pat.range; dsimp only; omega))
    clear HC
    go_enter Try.func29, Try.ntmps29
    go_wp2_with fail
    go_ret
    exact ⟨ret_int hz.out.symm, HB.out⟩
  have hz := Lib.hid (patCheck_in (p := ⟨f, t, o, n, sz, l⟩) (by unfold Pat.range; dsimp only; omega))
  go_enter Try.func29, Try.ntmps29
  go_wp2_with fail
  refine HC.out.mono ?_
  rintro e w1 ⟨rfl, hb1⟩
  have HB1 := Lib.hid (HB.out.trans (hb1.mono HB.out.size))
  clear hb1
  go_wp2_with fail
  go_ret
  exact ⟨ret_int hz.out.symm, HB1.out⟩
end Go.Proofs.Ytefkfglkpebbmac
namespace Go.Proofs.Ytefkfglkpebbmac
open Go.RowKit
set_option linter.unusedVariables false

/-- The cells of a block (none: no cells). -/
def rowOf (w : World) (g : Nat) : Array Value := match w.heap[g]? with | some (.cells cs _ _) => cs | _ => #[]
/-- The frozen marks of a block. -/
def frOf (w : World) (g : Nat) : Nat × Nat := match w.heap[g]? with | some (.cells _ _ fr) => fr | _ => (0, 0)
/-- How many cells a struct's or an array's type has (others: 0). -/
def aggSz (P : Program) (ty : TypeId) : Nat := match P.underlying ty, P.info? ty with
  | some (.struct _), some i => i.size
  | some (.array _ _), some i => i.size
  | _, _ => 0
/-- Cells put over others from a place on. -/
def splice (cs : Array Value) (o : Nat) (new : Array Value) : Array Value := (cs.toList.take o ++ new.toList ++ cs.toList.drop (o + new.size)).toArray
theorem splice_cons (cs : Array Value) (o : Nat) (v : Value) (r : List Value) (h : o < cs.size) : splice (cs.setIfInBounds o v) (o + 1) r.toArray = splice cs o (v :: r).toArray := by
  unfold splice
  have e : (cs.setIfInBounds o v).toList = cs.toList.take o ++ v :: cs.toList.drop (o + 1) := by
    rw [Array.toList_setIfInBounds, List.set_eq_take_append_cons_drop, if_pos (by simpa using h)]
  have hl : (cs.toList.take o).length = o := by rw [List.length_take]; simp; omega
  rw [e]
  simp only [List.size_toArray, List.length_cons]
  congr 1
  rw [List.take_append, List.drop_append, hl]
  have e1 : (cs.toList.take o).take (o + 1) = cs.toList.take o := List.take_of_length_le (by omega)
  have e2 : (cs.toList.take o).drop (o + 1 + r.length) = [] := List.drop_eq_nil_of_le (by omega)
  rw [e1, e2]
  have e3 : o + 1 - o = 1 := by omega
  have e4 : o + 1 + r.length - o = r.length + 1 := by omega
  rw [e3, e4]
  simp only [List.take_succ_cons, List.take_zero, List.drop_succ_cons, List.drop_drop, List.nil_append]
  have e5 : o + 1 + r.length = o + (r.length + 1) := by omega
  rw [e5]
  simp
theorem splice_nil (cs : Array Value) (o : Nat) : splice cs o #[] = cs := by unfold splice; simp
theorem splice_all (cs new : Array Value) (h : new.size = cs.size) : splice cs 0 new = new := by
  unfold splice
  rw [List.take_zero, List.drop_eq_nil_of_le (by simp; omega)]
  simp

section
variable {P : Program} {w : World} {g o : Nat}
theorem row_blk (h : 0 < (rowOf w g).size) : ∃ t, w.heap[g]? = some (.cells (rowOf w g) t (frOf w g)) := by
  unfold rowOf frOf at *
  split at h
  · rename_i cs t fr hg
    exact ⟨t, by rw [hg]⟩
  · simp at h
theorem row_of_blk {cs : Array Value} {t : TypeId} {fr : Nat × Nat} (h : w.heap[g]? = some (.cells cs t fr)) : rowOf w g = cs := by unfold rowOf; rw [h]
theorem fr_of_blk {cs : Array Value} {t : TypeId} {fr : Nat × Nat} (h : w.heap[g]? = some (.cells cs t fr)) : frOf w g = fr := by unfold frOf; rw [h]
theorem aggSz_pos {ty : TypeId} (h : 0 < aggSz P ty) : ∃ d, P.underlying ty = some d ∧ d.isRow = true ∧ (P.info? ty).map (·.size) = some (aggSz P ty) := by
  unfold aggSz at *
  split at h
  · rename_i h1 h2; exact ⟨_, h1, rfl, by simp [h2]⟩
  · rename_i h1 h2; exact ⟨_, h1, rfl, by simp [h2]⟩
  · omega

theorem rowOf_alloc (w : World) (cs : Array Value) (t : TypeId) (fr : Nat × Nat) (g : Nat) : rowOf (w.alloc (.cells cs t fr)) g = if g = w.heap.size then cs else rowOf w g := by
  by_cases h : g = w.heap.size
  · subst h; rw [if_pos rfl]; exact row_of_blk (heap_alloc_new w _)
  · rw [if_neg h]
    unfold rowOf
    have e : (w.alloc (.cells cs t fr)).heap[g]? = w.heap[g]? := by
      show (w.heap.push _)[g]? = _
      rw [Array.getElem?_push, if_neg h]
    rw [e]
theorem frOf_alloc (w : World) (cs : Array Value) (t : TypeId) (fr : Nat × Nat) (g : Nat) : frOf (w.alloc (.cells cs t fr)) g = if g = w.heap.size then fr else frOf w g := by
  by_cases h : g = w.heap.size
  · subst h; rw [if_pos rfl]; exact fr_of_blk (heap_alloc_new w _)
  · rw [if_neg h]
    unfold frOf
    have e : (w.alloc (.cells cs t fr)).heap[g]? = w.heap[g]? := by
      show (w.heap.push _)[g]? = _
      rw [Array.getElem?_push, if_neg h]
    rw [e]
theorem rowOf_drew (w : World) (g : Nat) : rowOf w.drew g = rowOf w g := by
  have h : w.drew.heap = w.heap := rfl
  unfold rowOf; rw [h]
theorem rowOf_drewN (w : World) (n g : Nat) : rowOf (w.drewN n) g = rowOf w g := by unfold rowOf; simp
theorem frOf_drew (w : World) (g : Nat) : frOf w.drew g = frOf w g := by
  have h : w.drew.heap = w.heap := rfl
  unfold frOf; rw [h]
theorem frOf_drewN (w : World) (n g : Nat) : frOf (w.drewN n) g = frOf w g := by unfold frOf; simp
theorem rowOf_below {w w' : World} {g : Nat} (hg : g < w.heap.size) (hb : Below w.heap.size w w') : rowOf w' g = rowOf w g := by unfold rowOf; rw [hb.block g hg]
theorem frOf_below {w w' : World} {g : Nat} (hg : g < w.heap.size) (hb : Below w.heap.size w w') : frOf w' g = frOf w g := by unfold frOf; rw [hb.block g hg]
theorem row_lt (h : 0 < (rowOf w g).size) : g < w.heap.size := by obtain ⟨t, ht⟩ := row_blk h; exact blk_lt ht

/-- A part of a block is read. -/
theorem loadVar_row {ty : TypeId} (h1 : 0 < aggSz P ty) (h2 : o + aggSz P ty ≤ (rowOf w g).size) :
    (loadVar ty ⟨g, o, none⟩).run P w = .ok (.agg ((rowOf w g).extract o (o + aggSz P ty))) w := by
  obtain ⟨d, hu, hd, hi⟩ := aggSz_pos h1
  obtain ⟨t, ht⟩ := row_blk (w := w) (g := g) (by omega)
  have hr := World.rangeAt_of_block ht o (aggSz P ty)
  have := run_loadVar_mid (P := P) w g o ty _ d hr hu hd (by rw [hi]; simp; omega)
  rw [Array.toArray_toList] at this
  exact this
theorem loadAt_row {ty : TypeId} (h1 : 0 < aggSz P ty) (h2 : o + aggSz P ty ≤ (rowOf w g).size) :
    (Instr.loadAt ty (.pointer (some ⟨g, o, none⟩))).run P w = .ok (.agg ((rowOf w g).extract o (o + aggSz P ty))) w := by
  simp only [Instr.loadAt, Instr.sureAddr, Sem.run_bind, Sem.run_pure, Result.andThen_ok, loadVar_row h1 h2]

theorem setRow_eq {cs : Array Value} {t : TypeId} {fr : Nat × Nat} (h : w.heap[g]? = some (.cells cs t fr)) (new : List Value) (ho : o + new.length ≤ cs.size) :
    w.setCells g o new = w.setRow g (splice cs o new.toArray) := by
  induction new generalizing w o cs with
  | nil =>
    rw [show ([] : List Value).toArray = #[] from rfl, splice_nil, setRow_self w g cs t fr h]
    rfl
  | cons v r ih =>
    simp only [List.length_cons] at ho
    have hs := setCell_eq_setRow w g o cs t fr v h
    show (w.setCell ⟨g, o, none⟩ v).setCells g (o + 1) r = _
    rw [hs]
    have h' : (w.setRow g (cs.setIfInBounds o v)).heap[g]? = some (.cells (cs.setIfInBounds o v) t fr) := setRow_heap w g cs _ t fr h
    rw [ih h' (by simp; omega), setRow_setRow]
    rw [splice_cons cs o v r (by omega)]

/-- A part of a block is written. -/
theorem storeVar_row {ty : TypeId} {cs : Array Value} (h1 : aggSz P ty = cs.size) (h0 : 0 < cs.size) (h2 : o + cs.size ≤ (rowOf w g).size) (hf : frOf w g = (0, 0)) (hc : cs.all (·.oneCell') = true) :
    (storeVar ty ⟨g, o, none⟩ (.agg cs)).run P w = .ok () (w.setRow g (splice (rowOf w g) o cs)) := by
  obtain ⟨d, hu, hd, hi⟩ := aggSz_pos (P := P) (ty := ty) (by omega)
  obtain ⟨t, ht⟩ := row_blk (w := w) (g := g) (by omega)
  rw [hf] at ht
  have hth : w.there g o cs.size := fun j hj => by
    refine ⟨?_, frozen_of_row w g (o + j) _ t ht⟩
    rw [cell_of_row w g (o + j) _ t _ ht, Array.getElem?_eq_getElem (by omega)]
    rfl
  have := run_storeVar_mid (P := P) w g o ty cs hth (by rw [hi, h1]) hc
  rw [this, setRow_eq ht cs.toList (by simpa using h2)]
theorem storeAt_row {ty : TypeId} {cs : Array Value} (h1 : aggSz P ty = cs.size) (h0 : 0 < cs.size) (h2 : o + cs.size ≤ (rowOf w g).size) (hf : frOf w g = (0, 0)) (hc : cs.all (·.oneCell') = true) :
    (Instr.storeAt ty (.pointer (some ⟨g, o, none⟩)) (.agg cs)).run P w = .ok () (w.setRow g (splice (rowOf w g) o cs)) := by
  simp only [Instr.storeAt, Instr.sureAddr, Sem.run_bind, Sem.run_pure, Result.andThen_ok, storeVar_row h1 h0 h2 hf hc]

theorem setRow_alloc (w : World) (cs : Array Value) (t : TypeId) (fr : Nat × Nat) (g : Nat) (new : Array Value) :
    (w.alloc (.cells cs t fr)).setRow g new = if g = w.heap.size then w.alloc (.cells new t fr) else (w.setRow g new).alloc (.cells cs t fr) := by
  by_cases h : g = w.heap.size
  · subst h
    rw [if_pos rfl]
    unfold World.setRow
    simp only [World.alloc]
    congr 1
    apply Array.ext_getElem?
    intro i
    simp only [Array.getElem?_modify, Array.getElem?_push]
    by_cases hi : i = w.heap.size
    · subst hi; simp
    · rw [if_neg (fun e => hi e.symm), if_neg hi, if_neg hi]
  · rw [if_neg h]
    unfold World.setRow
    simp only [World.alloc]
    congr 1
    apply Array.ext_getElem?
    intro i
    simp only [Array.getElem?_modify, Array.getElem?_push, Array.size_modify]
    by_cases hi : i = w.heap.size
    · subst hi; rw [if_neg h]; simp
    · rw [if_neg hi, if_neg hi]
theorem rowOf_setRow (w : World) (g g' : Nat) (new : Array Value) (h : 0 < (rowOf w g).size) : rowOf (w.setRow g new) g' = if g' = g then new else rowOf w g' := by
  by_cases e : g' = g
  · subst e
    obtain ⟨t, ht⟩ := row_blk h
    rw [if_pos rfl, row_of_blk (setRow_heap w g' _ new t _ ht)]
  · rw [if_neg e]
    unfold rowOf
    rw [setRow_other w g g' new e]
theorem frOf_setRow (w : World) (g g' : Nat) (new : Array Value) : frOf (w.setRow g new) g' = frOf w g' := by
  unfold frOf World.setRow
  simp only [Array.getElem?_modify]
  by_cases e : g = g'
  · subst e
    rw [if_pos rfl]
    cases h : w.heap[g]? with
    | none => rfl
    | some o => cases o <;> rfl
  · rw [if_neg e]
theorem rowOf_setCell (w : World) (g g' j : Nat) (v : Value) : rowOf (w.setCell ⟨g, j, none⟩ v) g' = if g' = g then (rowOf w g').setIfInBounds j v else rowOf w g' := by
  unfold rowOf World.setCell
  simp only [Array.getElem?_modify]
  by_cases e : g = g'
  · subst e
    rw [if_pos rfl, if_pos rfl]
    cases h : w.heap[g]? with
    | none => simp
    | some o => cases o <;> simp
  · rw [if_neg e, if_neg (fun h => e h.symm)]
theorem frOf_setCell (w : World) (a : Addr) (g' : Nat) (v : Value) : frOf (w.setCell a v) g' = frOf w g' := by
  unfold frOf World.setCell
  simp only [Array.getElem?_modify]
  by_cases e : a.block = g'
  · subst e
    rw [if_pos rfl]
    cases h : w.heap[a.block]? with
    | none => rfl
    | some o => cases o <;> rfl
  · rw [if_neg e]
/-- One cell of a block. -/
theorem cell_row (h : 0 < (rowOf w g).size) (j : Nat) : w.cell? ⟨g, j, none⟩ = (rowOf w g)[j]? := by
  obtain ⟨t, ht⟩ := row_blk h
  exact cell_of_row w g j _ t _ ht
theorem frozen_row (h : 0 < (rowOf w g).size) (hf : frOf w g = (0, 0)) (j : Nat) : w.frozen? ⟨g, j, none⟩ = false := by
  obtain ⟨t, ht⟩ := row_blk h
  rw [hf] at ht
  exact frozen_of_row w g j _ t ht


/-- What a call leaves of the blocks that were there, as rules. -/
theorem keepB {W0 w1 : World} (hb : Below W0.heap.size W0 w1) {n : Nat} (hn : n = W0.heap.size) :
    (∀ g, g < n → rowOf w1 g = rowOf W0 g) ∧ (∀ g, g < n → frOf w1 g = frOf W0 g) ∧ (∀ g, g < n → ¬ g = w1.heap.size) ∧
    (∀ g j, g < n → w1.cell? ⟨g, j, none⟩ = W0.cell? ⟨g, j, none⟩) ∧ (∀ g j, g < n → w1.frozen? ⟨g, j, none⟩ = W0.frozen? ⟨g, j, none⟩) := by
  subst hn
  exact ⟨fun g h => rowOf_below h hb, fun g h => frOf_below h hb, fun g h e => by have := hb.size; omega, fun g j h => hb.cell (p := ⟨g, j, none⟩) h, fun g j h => hb.frozen (p := ⟨g, j, none⟩) h⟩
theorem cell_setRow (w : World) (g g' j : Nat) (new : Array Value) (h : 0 < (rowOf w g).size) : (w.setRow g new).cell? ⟨g', j, none⟩ = if g' = g then new[j]? else w.cell? ⟨g', j, none⟩ := by
  by_cases e : g' = g
  · subst e
    obtain ⟨t, ht⟩ := row_blk h
    rw [if_pos rfl]
    exact cell_setRow_same w g' j _ new t _ ht
  · rw [if_neg e]
    exact cell_setRow_other w g new ⟨g', j, none⟩ e
theorem frozen_setRow (w : World) (g : Nat) (a : Addr) (new : Array Value) : (w.setRow g new).frozen? a = w.frozen? a := by
  unfold World.frozen? World.setRow
  simp only [Array.getElem?_modify]
  by_cases e : g = a.block
  · subst e
    rw [if_pos rfl]
    cases h : w.heap[a.block]? with
    | none => rfl
    | some o => cases o <;> rfl
  · rw [if_neg e]
theorem below_row {B : Nat} {a w : World} (h : Below B a w) {g : Nat} (hg : B ≤ g) (cs : Array Value) : Below B a (w.setRow g cs) := below_setRow h hg cs

/-- One block that a call leaves as it was, as rules. -/
theorem keep1 {W w' : World} {g : Nat} {cs : Array Value} (hb : Below W.heap.size W w') (hr : rowOf W g = cs) (h0 : 0 < cs.size) (hf : frOf W g = (0, 0)) :
    rowOf w' g = cs ∧ frOf w' g = (0, 0) ∧ ¬ g = w'.heap.size ∧ (∀ j, w'.cell? ⟨g, j, none⟩ = cs[j]?) ∧ (∀ j, w'.frozen? ⟨g, j, none⟩ = false) ∧ g < w'.heap.size := by
  have hlt : g < W.heap.size := row_lt (w := W) (by rw [hr]; exact h0)
  have h1 : rowOf w' g = cs := (rowOf_below hlt hb).trans hr
  have h2 : frOf w' g = (0, 0) := (frOf_below hlt hb).trans hf
  exact ⟨h1, h2, fun e => by have := hb.size; omega, fun j => by rw [cell_row (by rw [h1]; exact h0), h1], fun j => frozen_row (by rw [h1]; exact h0) h2 j, Nat.lt_of_lt_of_le hlt hb.size⟩

/-! Results that lie in cells. -/
theorem loadVar_all {ty : TypeId} {cs : Array Value} (hr : rowOf w g = cs) (hs : aggSz P ty = cs.size) (h0 : 0 < cs.size) : (loadVar ty ⟨g, 0, none⟩).run P w = .ok (.agg cs) w := by
  have := loadVar_row (P := P) (w := w) (g := g) (o := 0) (ty := ty) (by omega) (by rw [hr]; omega)
  rw [this, hr, hs]
  simp
section
variable {fn : Func} {p q u v : Tmp} {ty ty2 : TypeId} {tmps : Array Value} {cs ds : Array Value} {g2 : Nat}
theorem results_c (h : fn.results = #[.cell p ty]) (hp : tmps.getD p undef = .pointer (some ⟨g, 0, none⟩)) (hr : rowOf w g = cs) (hs : aggSz P ty = cs.size) (h0 : 0 < cs.size) :
    (results fn tmps).run P w = .ok (.agg cs) w := by
  have hl := loadVar_all (P := P) hr hs h0
  have hp' : tmps[p]?.getD undef = .pointer (some ⟨g, 0, none⟩) := by simpa using hp
  simp [results, h, hp', asAddr, hl]
theorem results_ct (h : fn.results = #[.cell p ty, .tmp u]) (hp : tmps.getD p undef = .pointer (some ⟨g, 0, none⟩)) (hr : rowOf w g = cs) (hs : aggSz P ty = cs.size) (h0 : 0 < cs.size) :
    (results fn tmps).run P w = .ok (.tuple #[.agg cs, tmps.getD u undef]) w := by
  have hl := loadVar_all (P := P) hr hs h0
  have hp' : tmps[p]?.getD undef = .pointer (some ⟨g, 0, none⟩) := by simpa using hp
  simp [results, h, hp', asAddr, hl]
theorem results_ctt (h : fn.results = #[.cell p ty, .tmp u, .tmp v]) (hp : tmps.getD p undef = .pointer (some ⟨g, 0, none⟩)) (hr : rowOf w g = cs) (hs : aggSz P ty = cs.size) (h0 : 0 < cs.size) :
    (results fn tmps).run P w = .ok (.tuple #[.agg cs, tmps.getD u undef, tmps.getD v undef]) w := by
  have hl := loadVar_all (P := P) hr hs h0
  have hp' : tmps[p]?.getD undef = .pointer (some ⟨g, 0, none⟩) := by simpa using hp
  simp [results, h, hp', asAddr, hl]
theorem results_tc (h : fn.results = #[.tmp u, .cell p ty]) (hp : tmps.getD p undef = .pointer (some ⟨g, 0, none⟩)) (hr : rowOf w g = cs) (hs : aggSz P ty = cs.size) (h0 : 0 < cs.size) :
    (results fn tmps).run P w = .ok (.tuple #[tmps.getD u undef, .agg cs]) w := by
  have hl := loadVar_all (P := P) hr hs h0
  have hp' : tmps[p]?.getD undef = .pointer (some ⟨g, 0, none⟩) := by simpa using hp
  simp [results, h, hp', asAddr, hl]
theorem results_tct (h : fn.results = #[.tmp u, .cell p ty, .tmp v]) (hp : tmps.getD p undef = .pointer (some ⟨g, 0, none⟩)) (hr : rowOf w g = cs) (hs : aggSz P ty = cs.size) (h0 : 0 < cs.size) :
    (results fn tmps).run P w = .ok (.tuple #[tmps.getD u undef, .agg cs, tmps.getD v undef]) w := by
  have hl := loadVar_all (P := P) hr hs h0
  have hp' : tmps[p]?.getD undef = .pointer (some ⟨g, 0, none⟩) := by simpa using hp
  simp [results, h, hp', asAddr, hl]
theorem results_cct (h : fn.results = #[.cell p ty, .cell q ty2, .tmp v]) (hp : tmps.getD p undef = .pointer (some ⟨g, 0, none⟩)) (hr : rowOf w g = cs) (hs : aggSz P ty = cs.size) (h0 : 0 < cs.size)
    (hp2 : tmps.getD q undef = .pointer (some ⟨g2, 0, none⟩)) (hr2 : rowOf w g2 = ds) (hs2 : aggSz P ty2 = ds.size) (h02 : 0 < ds.size) :
    (results fn tmps).run P w = .ok (.tuple #[.agg cs, .agg ds, tmps.getD v undef]) w := by
  have hl := loadVar_all (P := P) hr hs h0
  have hl2 := loadVar_all (P := P) hr2 hs2 h02
  have hp' : tmps[p]?.getD undef = .pointer (some ⟨g, 0, none⟩) := by simpa using hp
  have hp2' : tmps[q]?.getD undef = .pointer (some ⟨g2, 0, none⟩) := by simpa using hp2
  simp [results, h, hp', hp2', asAddr, hl, hl2]
end
set_option linter.unusedSimpArgs false
/-! As the walk meets them: the whole operation. -/
def plainPtr : Value → Bool | .pointer (some ⟨_, _, none⟩) => true | _ => false
def blkOf : Value → Nat | .pointer (some a) => a.block | _ => 0
def offOf : Value → Nat | .pointer (some a) => a.off | _ => 0
def isAggV : Value → Bool | .agg _ => true | _ => false
theorem plainPtr_mk (g o : Nat) : plainPtr (.pointer (some ⟨g, o, none⟩)) = true := by simp [plainPtr, blkOf, offOf, isAggV]
theorem blkOf_mk (g o : Nat) (s : Option Nat) : blkOf (.pointer (some ⟨g, o, s⟩)) = g := by simp [plainPtr, blkOf, offOf, isAggV]
theorem offOf_mk (g o : Nat) (s : Option Nat) : offOf (.pointer (some ⟨g, o, s⟩)) = o := by simp [plainPtr, blkOf, offOf, isAggV]
theorem isAggV_mk (cs : Array Value) : isAggV (.agg cs) = true := by simp [plainPtr, blkOf, offOf, isAggV]
theorem plain_form {v : Value} (h : plainPtr v = true) : v = .pointer (some ⟨blkOf v, offOf v, none⟩) := by
  unfold plainPtr at h
  split at h
  · rfl
  · cases h
/-- Each is one cell. -/
def allOne (cs : Array Value) : Bool := cs.all (·.oneCell')
set_option linter.unusedSimpArgs false
theorem exec_load_row {ev : Operand → Value} {d : Option Tmp} {ty t : TypeId} {x : Operand} {p : String} {e : Array Edge} {gd : Option (Nat × Bool)} (h1 : 0 < aggSz P ty) (hp : plainPtr (ev x) = true)
    (h2 : offOf (ev x) + aggSz P ty ≤ (rowOf w (blkOf (ev x))).size) :
    (execOp ev ⟨d, .load ty x, t, p, e, gd⟩).run P w = .ok (.value (.agg ((rowOf w (blkOf (ev x))).extract (offOf (ev x)) (offOf (ev x) + aggSz P ty)))) w := by
  have hl := loadAt_row (P := P) (w := w) (g := blkOf (ev x)) (o := offOf (ev x)) h1 h2
  rw [← plain_form hp] at hl
  show (do let r ← Instr.loadAt ty (ev x); pure (Next.value r) : Sem Next).run P w = _
  rw [Sem.run_bind, hl]
  rfl
theorem exec_store_row {ev : Operand → Value} {d : Option Tmp} {ty t : TypeId} {x y : Operand} {p : String} {e : Array Edge} {gd : Option (Nat × Bool)} (h0 : 0 < aggSz P ty) (hp : plainPtr (ev x) = true) (hy : isAggV (ev y) = true) (h1 : aggSz P ty = (ev y).cells.size)
    (h2 : offOf (ev x) + (ev y).cells.size ≤ (rowOf w (blkOf (ev x))).size) (hf : frOf w (blkOf (ev x)) = (0, 0)) (hc : allOne (ev y).cells = true) :
    (execOp ev ⟨d, .store ty x y, t, p, e, gd⟩).run P w = .ok .skip (w.setRow (blkOf (ev x)) (splice (rowOf w (blkOf (ev x))) (offOf (ev x)) (ev y).cells)) := by
  obtain ⟨cs, hcs⟩ : ∃ cs, ev y = .agg cs := by
    cases h : ev y <;> simp_all [isAggV]
  have hcc : (ev y).cells = cs := by rw [hcs]; rfl
  rw [hcc] at h1 h2 hc ⊢
  have hl := storeAt_row (P := P) (w := w) (g := blkOf (ev x)) (o := offOf (ev x)) (ty := ty) h1 (by omega) h2 hf hc
  rw [← plain_form hp, ← hcs] at hl
  show (do Instr.storeAt ty (ev x) (ev y); pure Next.skip : Sem Next).run P w = _
  rw [Sem.run_bind, hl]
  rfl
end
@[go_sem] theorem lt_up1 (n : Nat) : (n < n + 1) = True := by simp <;> omega
@[go_sem] theorem lt_up2 (n : Nat) : (n < n + 1 + 1) = True := by simp <;> omega
@[go_sem] theorem lt_up3 (n : Nat) : (n < n + 1 + 1 + 1) = True := by simp <;> omega
@[go_sem] theorem lt_up4 (n : Nat) : (n < n + 1 + 1 + 1 + 1) = True := by simp <;> omega
@[go_sem] theorem lt_up5 (n : Nat) : (n < n + 1 + 1 + 1 + 1 + 1) = True := by simp <;> omega
@[go_sem] theorem lt_up6 (n : Nat) : (n < n + 1 + 1 + 1 + 1 + 1 + 1) = True := by simp <;> omega
@[go_sem] theorem lt_up7 (n : Nat) : (n < n + 1 + 1 + 1 + 1 + 1 + 1 + 1) = True := by simp <;> omega
@[go_sem] theorem lt_up8 (n : Nat) : (n < n + 1 + 1 + 1 + 1 + 1 + 1 + 1 + 1) = True := by simp <;> omega
@[go_sem] theorem lt_up9 (n : Nat) : (n < n + 1 + 1 + 1 + 1 + 1 + 1 + 1 + 1 + 1) = True := by simp <;> omega
@[go_sem] theorem lt_up10 (n : Nat) : (n < n + 1 + 1 + 1 + 1 + 1 + 1 + 1 + 1 + 1 + 1) = True := by simp <;> omega
@[go_sem] theorem lt_up11 (n : Nat) : (n < n + 1 + 1 + 1 + 1 + 1 + 1 + 1 + 1 + 1 + 1 + 1) = True := by simp <;> omega
@[go_sem] theorem lt_up12 (n : Nat) : (n < n + 1 + 1 + 1 + 1 + 1 + 1 + 1 + 1 + 1 + 1 + 1 + 1) = True := by simp <;> omega
@[go_sem] theorem lt_up13 (n : Nat) : (n < n + 1 + 1 + 1 + 1 + 1 + 1 + 1 + 1 + 1 + 1 + 1 + 1 + 1) = True := by simp <;> omega
@[go_sem] theorem lt_up14 (n : Nat) : (n < n + 1 + 1 + 1 + 1 + 1 + 1 + 1 + 1 + 1 + 1 + 1 + 1 + 1 + 1) = True := by simp <;> omega
@[go_sem] theorem lt_up15 (n : Nat) : (n < n + 1 + 1 + 1 + 1 + 1 + 1 + 1 + 1 + 1 + 1 + 1 + 1 + 1 + 1 + 1) = True := by simp <;> omega
@[go_sem] theorem lt_up16 (n : Nat) : (n < n + 1 + 1 + 1 + 1 + 1 + 1 + 1 + 1 + 1 + 1 + 1 + 1 + 1 + 1 + 1 + 1) = True := by simp <;> omega
@[go_sem] theorem lt_up17 (n : Nat) : (n < n + 1 + 1 + 1 + 1 + 1 + 1 + 1 + 1 + 1 + 1 + 1 + 1 + 1 + 1 + 1 + 1 + 1) = True := by simp <;> omega
@[go_sem] theorem lt_up18 (n : Nat) : (n < n + 1 + 1 + 1 + 1 + 1 + 1 + 1 + 1 + 1 + 1 + 1 + 1 + 1 + 1 + 1 + 1 + 1 + 1) = True := by simp <;> omega
@[go_sem] theorem lt_up19 (n : Nat) : (n < n + 1 + 1 + 1 + 1 + 1 + 1 + 1 + 1 + 1 + 1 + 1 + 1 + 1 + 1 + 1 + 1 + 1 + 1 + 1) = True := by simp <;> omega
@[go_sem] theorem lt_up20 (n : Nat) : (n < n + 1 + 1 + 1 + 1 + 1 + 1 + 1 + 1 + 1 + 1 + 1 + 1 + 1 + 1 + 1 + 1 + 1 + 1 + 1 + 1) = True := by simp <;> omega
@[go_sem] theorem lt_up21 (n : Nat) : (n < n + 1 + 1 + 1 + 1 + 1 + 1 + 1 + 1 + 1 + 1 + 1 + 1 + 1 + 1 + 1 + 1 + 1 + 1 + 1 + 1 + 1) = True := by simp <;> omega
@[go_sem] theorem lt_up22 (n : Nat) : (n < n + 1 + 1 + 1 + 1 + 1 + 1 + 1 + 1 + 1 + 1 + 1 + 1 + 1 + 1 + 1 + 1 + 1 + 1 + 1 + 1 + 1 + 1) = True := by simp <;> omega
@[go_sem] theorem lt_up23 (n : Nat) : (n < n + 1 + 1 + 1 + 1 + 1 + 1 + 1 + 1 + 1 + 1 + 1 + 1 + 1 + 1 + 1 + 1 + 1 + 1 + 1 + 1 + 1 + 1 + 1) = True := by simp <;> omega
@[go_sem] theorem lt_up24 (n : Nat) : (n < n + 1 + 1 + 1 + 1 + 1 + 1 + 1 + 1 + 1 + 1 + 1 + 1 + 1 + 1 + 1 + 1 + 1 + 1 + 1 + 1 + 1 + 1 + 1 + 1) = True := by simp <;> omega
@[go_sem] theorem eq_up1 (n : Nat) : (n = n + 1) = False := by simp <;> omega
@[go_sem] theorem up_eq1 (n : Nat) : (n + 1 = n) = False := by simp <;> omega
@[go_sem] theorem eq_up2 (n : Nat) : (n = n + 1 + 1) = False := by simp <;> omega
@[go_sem] theorem up_eq2 (n : Nat) : (n + 1 + 1 = n) = False := by simp <;> omega
@[go_sem] theorem eq_up3 (n : Nat) : (n = n + 1 + 1 + 1) = False := by simp <;> omega
@[go_sem] theorem up_eq3 (n : Nat) : (n + 1 + 1 + 1 = n) = False := by simp <;> omega
@[go_sem] theorem eq_up4 (n : Nat) : (n = n + 1 + 1 + 1 + 1) = False := by simp <;> omega
@[go_sem] theorem up_eq4 (n : Nat) : (n + 1 + 1 + 1 + 1 = n) = False := by simp <;> omega
@[go_sem] theorem eq_up5 (n : Nat) : (n = n + 1 + 1 + 1 + 1 + 1) = False := by simp <;> omega
@[go_sem] theorem up_eq5 (n : Nat) : (n + 1 + 1 + 1 + 1 + 1 = n) = False := by simp <;> omega
@[go_sem] theorem eq_up6 (n : Nat) : (n = n + 1 + 1 + 1 + 1 + 1 + 1) = False := by simp <;> omega
@[go_sem] theorem up_eq6 (n : Nat) : (n + 1 + 1 + 1 + 1 + 1 + 1 = n) = False := by simp <;> omega
@[go_sem] theorem eq_up7 (n : Nat) : (n = n + 1 + 1 + 1 + 1 + 1 + 1 + 1) = False := by simp <;> omega
@[go_sem] theorem up_eq7 (n : Nat) : (n + 1 + 1 + 1 + 1 + 1 + 1 + 1 = n) = False := by simp <;> omega
@[go_sem] theorem eq_up8 (n : Nat) : (n = n + 1 + 1 + 1 + 1 + 1 + 1 + 1 + 1) = False := by simp <;> omega
@[go_sem] theorem up_eq8 (n : Nat) : (n + 1 + 1 + 1 + 1 + 1 + 1 + 1 + 1 = n) = False := by simp <;> omega
@[go_sem] theorem eq_up9 (n : Nat) : (n = n + 1 + 1 + 1 + 1 + 1 + 1 + 1 + 1 + 1) = False := by simp <;> omega
@[go_sem] theorem up_eq9 (n : Nat) : (n + 1 + 1 + 1 + 1 + 1 + 1 + 1 + 1 + 1 = n) = False := by simp <;> omega
@[go_sem] theorem eq_up10 (n : Nat) : (n = n + 1 + 1 + 1 + 1 + 1 + 1 + 1 + 1 + 1 + 1) = False := by simp <;> omega
@[go_sem] theorem up_eq10 (n : Nat) : (n + 1 + 1 + 1 + 1 + 1 + 1 + 1 + 1 + 1 + 1 = n) = False := by simp <;> omega
@[go_sem] theorem eq_up11 (n : Nat) : (n = n + 1 + 1 + 1 + 1 + 1 + 1 + 1 + 1 + 1 + 1 + 1) = False := by simp <;> omega
@[go_sem] theorem up_eq11 (n : Nat) : (n + 1 + 1 + 1 + 1 + 1 + 1 + 1 + 1 + 1 + 1 + 1 = n) = False := by simp <;> omega
@[go_sem] theorem eq_up12 (n : Nat) : (n = n + 1 + 1 + 1 + 1 + 1 + 1 + 1 + 1 + 1 + 1 + 1 + 1) = False := by simp <;> omega
@[go_sem] theorem up_eq12 (n : Nat) : (n + 1 + 1 + 1 + 1 + 1 + 1 + 1 + 1 + 1 + 1 + 1 + 1 = n) = False := by simp <;> omega
@[go_sem] theorem eq_up13 (n : Nat) : (n = n + 1 + 1 + 1 + 1 + 1 + 1 + 1 + 1 + 1 + 1 + 1 + 1 + 1) = False := by simp <;> omega
@[go_sem] theorem up_eq13 (n : Nat) : (n + 1 + 1 + 1 + 1 + 1 + 1 + 1 + 1 + 1 + 1 + 1 + 1 + 1 = n) = False := by simp <;> omega
@[go_sem] theorem eq_up14 (n : Nat) : (n = n + 1 + 1 + 1 + 1 + 1 + 1 + 1 + 1 + 1 + 1 + 1 + 1 + 1 + 1) = False := by simp <;> omega
@[go_sem] theorem up_eq14 (n : Nat) : (n + 1 + 1 + 1 + 1 + 1 + 1 + 1 + 1 + 1 + 1 + 1 + 1 + 1 + 1 = n) = False := by simp <;> omega
@[go_sem] theorem eq_up15 (n : Nat) : (n = n + 1 + 1 + 1 + 1 + 1 + 1 + 1 + 1 + 1 + 1 + 1 + 1 + 1 + 1 + 1) = False := by simp <;> omega
@[go_sem] theorem up_eq15 (n : Nat) : (n + 1 + 1 + 1 + 1 + 1 + 1 + 1 + 1 + 1 + 1 + 1 + 1 + 1 + 1 + 1 = n) = False := by simp <;> omega
@[go_sem] theorem eq_up16 (n : Nat) : (n = n + 1 + 1 + 1 + 1 + 1 + 1 + 1 + 1 + 1 + 1 + 1 + 1 + 1 + 1 + 1 + 1) = False := by simp <;> omega
@[go_sem] theorem up_eq16 (n : Nat) : (n + 1 + 1 + 1 + 1 + 1 + 1 + 1 + 1 + 1 + 1 + 1 + 1 + 1 + 1 + 1 + 1 = n) = False := by simp <;> omega
@[go_sem] theorem eq_up17 (n : Nat) : (n = n + 1 + 1 + 1 + 1 + 1 + 1 + 1 + 1 + 1 + 1 + 1 + 1 + 1 + 1 + 1 + 1 + 1) = False := by simp <;> omega
@[go_sem] theorem up_eq17 (n : Nat) : (n + 1 + 1 + 1 + 1 + 1 + 1 + 1 + 1 + 1 + 1 + 1 + 1 + 1 + 1 + 1 + 1 + 1 = n) = False := by simp <;> omega
@[go_sem] theorem eq_up18 (n : Nat) : (n = n + 1 + 1 + 1 + 1 + 1 + 1 + 1 + 1 + 1 + 1 + 1 + 1 + 1 + 1 + 1 + 1 + 1 + 1) = False := by simp <;> omega
@[go_sem] theorem up_eq18 (n : Nat) : (n + 1 + 1 + 1 + 1 + 1 + 1 + 1 + 1 + 1 + 1 + 1 + 1 + 1 + 1 + 1 + 1 + 1 + 1 = n) = False := by simp <;> omega
@[go_sem] theorem eq_up19 (n : Nat) : (n = n + 1 + 1 + 1 + 1 + 1 + 1 + 1 + 1 + 1 + 1 + 1 + 1 + 1 + 1 + 1 + 1 + 1 + 1 + 1) = False := by simp <;> omega
@[go_sem] theorem up_eq19 (n : Nat) : (n + 1 + 1 + 1 + 1 + 1 + 1 + 1 + 1 + 1 + 1 + 1 + 1 + 1 + 1 + 1 + 1 + 1 + 1 + 1 = n) = False := by simp <;> omega
@[go_sem] theorem eq_up20 (n : Nat) : (n = n + 1 + 1 + 1 + 1 + 1 + 1 + 1 + 1 + 1 + 1 + 1 + 1 + 1 + 1 + 1 + 1 + 1 + 1 + 1 + 1) = False := by simp <;> omega
@[go_sem] theorem up_eq20 (n : Nat) : (n + 1 + 1 + 1 + 1 + 1 + 1 + 1 + 1 + 1 + 1 + 1 + 1 + 1 + 1 + 1 + 1 + 1 + 1 + 1 + 1 = n) = False := by simp <;> omega
@[go_sem] theorem eq_up21 (n : Nat) : (n = n + 1 + 1 + 1 + 1 + 1 + 1 + 1 + 1 + 1 + 1 + 1 + 1 + 1 + 1 + 1 + 1 + 1 + 1 + 1 + 1 + 1) = False := by simp <;> omega
@[go_sem] theorem up_eq21 (n : Nat) : (n + 1 + 1 + 1 + 1 + 1 + 1 + 1 + 1 + 1 + 1 + 1 + 1 + 1 + 1 + 1 + 1 + 1 + 1 + 1 + 1 + 1 = n) = False := by simp <;> omega
@[go_sem] theorem eq_up22 (n : Nat) : (n = n + 1 + 1 + 1 + 1 + 1 + 1 + 1 + 1 + 1 + 1 + 1 + 1 + 1 + 1 + 1 + 1 + 1 + 1 + 1 + 1 + 1 + 1) = False := by simp <;> omega
@[go_sem] theorem up_eq22 (n : Nat) : (n + 1 + 1 + 1 + 1 + 1 + 1 + 1 + 1 + 1 + 1 + 1 + 1 + 1 + 1 + 1 + 1 + 1 + 1 + 1 + 1 + 1 + 1 = n) = False := by simp <;> omega
@[go_sem] theorem eq_up23 (n : Nat) : (n = n + 1 + 1 + 1 + 1 + 1 + 1 + 1 + 1 + 1 + 1 + 1 + 1 + 1 + 1 + 1 + 1 + 1 + 1 + 1 + 1 + 1 + 1 + 1) = False := by simp <;> omega
@[go_sem] theorem up_eq23 (n : Nat) : (n + 1 + 1 + 1 + 1 + 1 + 1 + 1 + 1 + 1 + 1 + 1 + 1 + 1 + 1 + 1 + 1 + 1 + 1 + 1 + 1 + 1 + 1 + 1 = n) = False := by simp <;> omega
@[go_sem] theorem eq_up24 (n : Nat) : (n = n + 1 + 1 + 1 + 1 + 1 + 1 + 1 + 1 + 1 + 1 + 1 + 1 + 1 + 1 + 1 + 1 + 1 + 1 + 1 + 1 + 1 + 1 + 1 + 1) = False := by simp <;> omega
@[go_sem] theorem up_eq24 (n : Nat) : (n + 1 + 1 + 1 + 1 + 1 + 1 + 1 + 1 + 1 + 1 + 1 + 1 + 1 + 1 + 1 + 1 + 1 + 1 + 1 + 1 + 1 + 1 + 1 + 1 = n) = False := by simp <;> omega
/-- A literal of a struct that holds a struct: run behind a name, so that simp brings its parts to their form first. -/
def runBuild (P : Program) (T : TypeId) (parts : Array (Nat × Value)) (w : World) : Result Value := (Instr.build T parts).run P w
/-- Which literals are run so: the type and how many parts. -/
def bigBuild (P : Program) (T : TypeId) (n : Nat) : Prop := ∃ i, P.info? T = some i ∧ 0 < n
theorem exec_build {P : Program} {ev : Operand → Value} {d : Option Tmp} {T t : TypeId} {parts : Array (Nat × Operand)} {p : String} {e : Array Edge} {gd : Option (Nat × Bool)} {w : World} (h : bigBuild P T parts.size) :
    (execOp ev ⟨d, .build T parts, t, p, e, gd⟩).run P w = (runBuild P T (parts.map fun (i, x) => (i, ev x)) w).andThen fun v w' => .ok (.value v) w' := by
  show (do let r ← Instr.build T (parts.map fun (i, x) => (i, ev x)); pure (Next.value r) : Sem Next).run P w = _
  rw [Sem.run_bind]
  rfl
attribute [go_sem ↓] exec_build
attribute [go_sem] cell_setRow frozen_setRow
attribute [go_sem] plainPtr_mk blkOf_mk offOf_mk isAggV_mk rowOf_alloc frOf_alloc rowOf_drew rowOf_drewN frOf_drew frOf_drewN rowOf_setCell frOf_setCell rowOf_setRow frOf_setRow setRow_alloc splice_all
attribute [go_sem ↓] exec_load_row exec_store_row
end Go.Proofs.Ytefkfglkpebbmac
namespace Go.Proofs.Ytefkfglkpebbmac
open Go.RowKit
set_option linter.unusedVariables false

def patA (f t o n s : Int) (A : Option Addr) (k c : Nat) : Array Value := #[iv f, iv t, iv o, iv n, iv s, .slice A k c]
@[go_sem] theorem patA_size (f t o n s : Int) (A : Option Addr) (k c : Nat) : (patA f t o n s A k c).size = 6 := by simp [patA]
@[go_sem] theorem patA_one (f t o n s : Int) (A : Option Addr) (k c : Nat) : allOne (patA f t o n s A k c) = true := by simp [patA, allOne, Value.oneCell']
@[go_sem] theorem patA_get0 (f t o n s : Int) (A : Option Addr) (k c : Nat) : (patA f t o n s A k c)[0]? = some (iv f) := by simp [patA]
@[go_sem] theorem patA_at0 (f t o n s : Int) (A : Option Addr) (k c : Nat) (h : 0 < (patA f t o n s A k c).size) : (patA f t o n s A k c)[0]'h = iv f := by simp [patA]
@[go_sem] theorem patA_get1 (f t o n s : Int) (A : Option Addr) (k c : Nat) : (patA f t o n s A k c)[1]? = some (iv t) := by simp [patA]
@[go_sem] theorem patA_at1 (f t o n s : Int) (A : Option Addr) (k c : Nat) (h : 1 < (patA f t o n s A k c).size) : (patA f t o n s A k c)[1]'h = iv t := by simp [patA]
@[go_sem] theorem patA_get2 (f t o n s : Int) (A : Option Addr) (k c : Nat) : (patA f t o n s A k c)[2]? = some (iv o) := by simp [patA]
@[go_sem] theorem patA_at2 (f t o n s : Int) (A : Option Addr) (k c : Nat) (h : 2 < (patA f t o n s A k c).size) : (patA f t o n s A k c)[2]'h = iv o := by simp [patA]
@[go_sem] theorem patA_get3 (f t o n s : Int) (A : Option Addr) (k c : Nat) : (patA f t o n s A k c)[3]? = some (iv n) := by simp [patA]
@[go_sem] theorem patA_at3 (f t o n s : Int) (A : Option Addr) (k c : Nat) (h : 3 < (patA f t o n s A k c).size) : (patA f t o n s A k c)[3]'h = iv n := by simp [patA]
@[go_sem] theorem patA_get4 (f t o n s : Int) (A : Option Addr) (k c : Nat) : (patA f t o n s A k c)[4]? = some (iv s) := by simp [patA]
@[go_sem] theorem patA_at4 (f t o n s : Int) (A : Option Addr) (k c : Nat) (h : 4 < (patA f t o n s A k c).size) : (patA f t o n s A k c)[4]'h = iv s := by simp [patA]
@[go_sem] theorem patA_get5 (f t o n s : Int) (A : Option Addr) (k c : Nat) : (patA f t o n s A k c)[5]? = some (.slice A k c) := by simp [patA]
@[go_sem] theorem patA_at5 (f t o n s : Int) (A : Option Addr) (k c : Nat) (h : 5 < (patA f t o n s A k c).size) : (patA f t o n s A k c)[5]'h = .slice A k c := by simp [patA]
@[go_sem] theorem patA_all (f t o n s : Int) (A : Option Addr) (k c : Nat) : (patA f t o n s A k c).extract 0 6 = patA f t o n s A k c := by simp [patA]
@[go_sem] theorem patA_cells (f t o n s : Int) (A : Option Addr) (k c : Nat) : (Value.agg (patA f t o n s A k c)).cells = patA f t o n s A k c := by simp [Value.cells]
@[go_sem] theorem pat_lit (f t o n s : Int) (A : Option Addr) (k c : Nat) : Value.agg #[.int .i64 f, .int .i64 t, .int .i64 o, .int .i64 n, .int .i64 s, .slice A k c] = Value.agg (patA f t o n s A k c) := by simp [patA]
@[go_sem] theorem patA_set5 (f t o n s : Int) (A : Option Addr) (k c : Nat) (B : Option Addr) (m d : Nat) : (patA f t o n s A k c).setIfInBounds 5 (.slice B m d) = patA f t o n s B m d := by simp [patA]
@[go_sem] theorem aggSzPat : aggSz Try.prog 35 = 6 := by kernel_rfl
@[go_sem] theorem patA_set0 (f t o n s : Int) (A : Option Addr) (k c : Nat) (x : Int) : (patA f t o n s A k c).setIfInBounds 0 (.int .i64 x) = patA x t o n s A k c := by simp [patA]
@[go_sem] theorem patA_set1 (f t o n s : Int) (A : Option Addr) (k c : Nat) (x : Int) : (patA f t o n s A k c).setIfInBounds 1 (.int .i64 x) = patA f x o n s A k c := by simp [patA]
@[go_sem] theorem patA_set2 (f t o n s : Int) (A : Option Addr) (k c : Nat) (x : Int) : (patA f t o n s A k c).setIfInBounds 2 (.int .i64 x) = patA f t x n s A k c := by simp [patA]
@[go_sem] theorem patA_set3 (f t o n s : Int) (A : Option Addr) (k c : Nat) (x : Int) : (patA f t o n s A k c).setIfInBounds 3 (.int .i64 x) = patA f t o x s A k c := by simp [patA]
@[go_sem] theorem patA_set4 (f t o n s : Int) (A : Option Addr) (k c : Nat) (x : Int) : (patA f t o n s A k c).setIfInBounds 4 (.int .i64 x) = patA f t o n x A k c := by simp [patA]
theorem patC_eq (p : Pat) (A : Option Addr) (c : Nat) : (patC p A c).toArray = patA p.from_ p.to_ p.old p.new_ p.size A p.ops.length c := by simp [patA]
end Go.Proofs.Ytefkfglkpebbmac
namespace Go.Proofs.Ytefkfglkpebbmac
open Go.RowKit
set_option linter.unusedVariables false

section
variable (A B : Option Addr) (c d : Nat) (old b : List UInt8) (w : World)
theorem longest_many (k : Int) (h : 64 < old.length ∨ 64 < b.length) (hl : old.length ≤ 1048576) (hm : b.length ≤ 1048576) :
    Calls Try.prog 86 #[.slice A old.length c, .slice B b.length d, iv k] w (Ret w (.tuple #[iv 0, iv 0, iv 1])) := by
  by_cases h1 : (64 : Int) < (old.length : Int)
  · go_enter Try.func86, Try.ntmps86
    go_wp2
    go_ret3
    exact ⟨rfl, rfl⟩
  · have h2 : (64 : Int) < (b.length : Int) := by omega
    go_enter Try.func86, Try.ntmps86
    go_wp2
    go_ret3
    exact ⟨rfl, rfl⟩
theorem longest_who (k : Int) (hl : old.length ≤ 64) (hm : b.length ≤ 64) (h : ¬ (0 ≤ k ∧ k ≤ b.length)) :
    Calls Try.prog 86 #[.slice A old.length c, .slice B b.length d, iv k] w (Ret w (.tuple #[iv 0, iv 0, iv 4])) := by
  have h1 : ¬ (64 : Int) < (old.length : Int) := by omega
  have h2 : ¬ (64 : Int) < (b.length : Int) := by omega
  by_cases h3 : k < 0
  · go_enter Try.func86, Try.ntmps86
    go_wp2
    go_ret3
    exact ⟨rfl, rfl⟩
  · have h4 : (b.length : Int) < k := by omega
    go_enter Try.func86, Try.ntmps86
    go_wp2
    go_ret3
    exact ⟨rfl, rfl⟩

set_option maxHeartbeats 1000000 in
theorem longest_calls (k : Nat) (hl : old.length ≤ 64) (hm : b.length ≤ 64) (hk : k ≤ b.length) (ha : Bts w A old) (hb : Bts w B b) :
    Calls Try.prog 86 #[.slice A old.length c, .slice B b.length d, iv k] w (RetN w (.tuple #[iv (longest old b k).1, iv (longest old b k).2, iv 0])) := by
  have h1 : ¬ (64 : Int) < (old.length : Int) := by omega
  have h2 : ¬ (64 : Int) < (b.length : Int) := by omega
  have h3 : ¬ (k : Int) < 0 := by omega
  have h4 : ¬ (b.length : Int) < (k : Int) := by omega
  go_enter Try.func86, Try.ntmps86
  go_wp2
  go_loopw [9, 10, 11, 12, 31] (fun p q x y i wr => ∃ j n : Nat, j ≤ old.length ∧ i = .int .i64 j ∧ p = iv (longTo old b k j).1 ∧ q = iv (longTo old b k j).2 ∧ w.drewN n = wr) (fun _ _ _ _ i _ => old.length - (intOf i).toNat)
  case atStart => exact ⟨0, 0, Nat.zero_le _, rfl, rfl, rfl, rfl⟩
  case round =>
    obtain ⟨j, n, hj, rfl, rfl, rfl, rfl⟩ := hrel
    have hb1 := longTo_le old b k j hj
    by_cases hlt : j < old.length
    · have HP := Lib.hid (preAt_le old b j k)
      go_wp2_with fail
      go_loopw [12] (fun y wr => ∃ t n : Nat, t ≤ preAt old b j k ∧ y = .int .i64 t ∧ w.drewN n = wr) (fun y _ => preAt old b j k - (intOf y).toNat)
      case atStart => exact ⟨0, n, Nat.zero_le _, rfl, rfl⟩
      case round =>
        obtain ⟨t, n1, ht, rfl, rfl⟩ := hrel
        have hP := HP.out
        by_cases hin : t < preAt old b j k
        · obtain ⟨i1, i2, he⟩ := preAt_lt old b j k t hin
          obtain ⟨b1, o1, rfl, hs1, hc1⟩ := ha (j + t) i1
          obtain ⟨b2, o2, rfl, hs2, hc2⟩ := hb (k + t) i2
          have d1 : decide ((j : Int) + (t : Int) < (old.length : Int)) = true := by simp; omega
          have d2 : decide ((k : Int) + (t : Int) < (b.length : Int)) = true := by simp; omega
          have d3 : ((old[j + t].toNat : Int) == (b[k + t].toNat : Int)) = true := by simp [he]
          have HE := Lib.hid he
          clear he
          go_wp2_with fail
          go_quiet (fail)
          go_wp2_with fail
          go_roundw
          case rel => exact ⟨t + 1, _, by omega, by go_num, rfl⟩
          case measure => simp [intOf] <;> omega
        · obtain rfl : t = preAt old b j k := by omega
          have hst := preAt_stop old b j k
          clear ht hin
          by_cases hbest : (longTo old b k j).2 < preAt old b j k
          · have HT : Hid (longTo old b k (j + 1) = (j, preAt old b j k)) := longTo_yes hbest
            have hbest' : ((longTo old b k j).2 : Int) < (preAt old b j k : Int) := by omega
            by_cases c1 : j + preAt old b j k < old.length
            · have d1 : decide ((j : Int) + (preAt old b j k : Int) < (old.length : Int)) = true := by simp; omega
              by_cases c2 : k + preAt old b j k < b.length
              · have d2 : decide ((k : Int) + (preAt old b j k : Int) < (b.length : Int)) = true := by simp; omega
                have hne := hst c1 c2
                have d3 : ((old[j + preAt old b j k].toNat : Int) == (b[k + preAt old b j k].toNat : Int)) = false := by
                  simp; exact fun e => hne (UInt8.toNat_inj.1 (by omega))
                obtain ⟨b1, o1, rfl, hs1, hc1⟩ := ha (j + preAt old b j k) c1
                obtain ⟨b2, o2, rfl, hs2, hc2⟩ := hb (k + preAt old b j k) c2
                clear hne hst
                go_wp2_with fail
                go_quiet (fail)
                go_wp2_with fail
                go_roundw
                case rel => exact ⟨j + 1, _, by omega, by go_num, by rw [HT.out], by rw [HT.out], rfl⟩
                case measure => simp [intOf] <;> omega
              · have d2 : decide ((k : Int) + (preAt old b j k : Int) < (b.length : Int)) = false := by simp; omega
                clear hst
                go_wp2_with fail
                go_quiet (fail)
                go_wp2_with fail
                go_roundw
                case rel => exact ⟨j + 1, _, by omega, by go_num, by rw [HT.out], by rw [HT.out], rfl⟩
                case measure => simp [intOf] <;> omega
            · have d1 : decide ((j : Int) + (preAt old b j k : Int) < (old.length : Int)) = false := by simp; omega
              clear hst
              go_wp2_with fail
              go_quiet (fail)
              go_wp2_with fail
              go_roundw
              case rel => exact ⟨j + 1, _, by omega, by go_num, by rw [HT.out], by rw [HT.out], rfl⟩
              case measure => simp [intOf] <;> omega
          · have HT : Hid (longTo old b k (j + 1) = longTo old b k j) := longTo_no hbest
            have hbest' : ¬ ((longTo old b k j).2 : Int) < (preAt old b j k : Int) := by omega
            by_cases c1 : j + preAt old b j k < old.length
            · have d1 : decide ((j : Int) + (preAt old b j k : Int) < (old.length : Int)) = true := by simp; omega
              by_cases c2 : k + preAt old b j k < b.length
              · have d2 : decide ((k : Int) + (preAt old b j k : Int) < (b.length : Int)) = true := by simp; omega
                have hne := hst c1 c2
                have d3 : ((old[j + preAt old b j k].toNat : Int) == (b[k + preAt old b j k].toNat : Int)) = false := by
                  simp; exact fun e => hne (UInt8.toNat_inj.1 (by omega))
                obtain ⟨b1, o1, rfl, hs1, hc1⟩ := ha (j + preAt old b j k) c1
                obtain ⟨b2, o2, rfl, hs2, hc2⟩ := hb (k + preAt old b j k) c2
                clear hne hst
                go_wp2_with fail
                go_quiet (fail)
                go_wp2_with fail
                go_roundw
                case rel => exact ⟨j + 1, _, by omega, by go_num, by rw [HT.out], by rw [HT.out], rfl⟩
                case measure => simp [intOf] <;> omega
              · have d2 : decide ((k : Int) + (preAt old b j k : Int) < (b.length : Int)) = false := by simp; omega
                clear hst
                go_wp2_with fail
                go_quiet (fail)
                go_wp2_with fail
                go_roundw
                case rel => exact ⟨j + 1, _, by omega, by go_num, by rw [HT.out], by rw [HT.out], rfl⟩
                case measure => simp [intOf] <;> omega
            · have d1 : decide ((j : Int) + (preAt old b j k : Int) < (old.length : Int)) = false := by simp; omega
              clear hst
              go_wp2_with fail
              go_quiet (fail)
              go_wp2_with fail
              go_roundw
              case rel => exact ⟨j + 1, _, by omega, by go_num, by rw [HT.out], by rw [HT.out], rfl⟩
              case measure => simp [intOf] <;> omega
    · go_wp2_with fail
      go_ret3
      refine ⟨?_, _, rfl⟩
      obtain rfl : j = old.length := by omega
      rfl
end
end Go.Proofs.Ytefkfglkpebbmac
