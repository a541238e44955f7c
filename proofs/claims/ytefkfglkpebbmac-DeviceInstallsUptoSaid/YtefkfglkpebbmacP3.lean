/- Walks of functions, and plain words. No conditions. -/
import Derived.Test.YtefkfglkpebbmacP1
import Derived.ChangeKeysEq
set_option linter.unusedVariables false
set_option linter.unusedSimpArgs false
set_option maxRecDepth 100000
set_option maxHeartbeats 40000000
namespace Go.Proofs.Ytefkfglkpebbmac
open Go.RowKit
variable {w : World} {x : Chk} {l : List Chk} {d : Dev}
theorem eqIn_inf (d : Nat) (x y z x' y' z' : Int) (w : World) : (Op.equalIn (d + 2) 63 (.agg #[iv x, iv y, iv z]) (.agg #[iv x', iv y', iv z'])).run Try.prog w = .ok (decide (x = x' ∧ y = y' ∧ z = z')) w := by
 go_simp
 split
 ·split
  ·split <;> simp_all
  ·simp_all
 ·simp_all
theorem cellsOfInf : Try.prog.cellsOf 63 = 3 := by kernel_rfl
theorem cellsOfCop : Try.prog.cellsOf 68 = 12 := by kernel_rfl
theorem run_eqItems2 {P : Program} {d n : Nat} {e : TypeId} {xs ys : Array Value} {a b a' b' : Value} {r r' : Bool}
  (p1 : (part e xs 0).run P w = .ok a w) (p2 : (part e ys 0).run P w = .ok a' w) (p3 : (part e xs n).run P w = .ok b w) (p4 : (part e ys n).run P w = .ok b' w)
  (h1 : (Op.equalIn d e a a').run P w = .ok r w) (h2 : (Op.equalIn d e b b').run P w = .ok r' w) : (Op.eqItems d e n xs ys (List.range 2)).run P w = .ok (r && r') w := by
 rw [show List.range 2 = [0, 1] from rfl]
 simp only [Op.eqItems, Sem.run_bind, Nat.zero_mul, Nat.one_mul, p1, p2, Result.andThen_ok, h1]
 cases r
 ·simp
 ·simp only [Bool.not_true, Bool.false_eq_true, if_false, Sem.run_bind, p3, p4, h2, Result.andThen_ok, Bool.true_and]
  cases r' <;> simp
theorem eqIn_infs (d : Nat) (x y z x' y' z' u v t u' v' t' : Int) (w : World) : (Op.equalIn (d + 3) 64 (.agg #[iv x, iv y, iv z, iv u, iv v, iv t]) (.agg #[iv x', iv y', iv z', iv u', iv v', iv t'])).run Try.prog w =
  .ok (decide (x = x' ∧ y = y' ∧ z = z') && decide (u = u' ∧ v = v' ∧ t = t')) w := by
 obtain ⟨i, hi, hz, hs, hb⟩ := info_parts (P := Try.prog) (e := 63) (z := .agg #[.int .i64 0, .int .i64 0, .int .i64 0]) (size := 3) (bytes := 24) (by kernel_rfl)
 rw [run_equalIn_array (P := Try.prog) (w := w) (d + 2) _ _ Try.underlying64 hi, cellsOfInf]
 exact run_eqItems2 (by kernel_rfl) (by kernel_rfl) (by kernel_rfl) (by kernel_rfl) (eqIn_inf d x y z x' y' z' w) (eqIn_inf d u v t u' v' t' w)
theorem rec_dec (r s : Rec) : decide (r = s) = (decide (r.gen = s.gen) && (decide (r.active = s.active) && (decide (r.trying = s.trying) && (decide (r.tries = s.tries) && (decide (r.floor = s.floor) && (decide (r.a.ver = s.a.ver ∧ r.a.size = s.a.size ∧ r.a.sum = s.a.sum) && decide (r.b.ver = s.b.ver ∧ r.b.size = s.b.size ∧ r.b.sum = s.b.sum))))))) := by
 obtain ⟨g, a, t, n, f, ⟨x, y, z⟩, ⟨u, v, w⟩⟩ := r
 obtain ⟨g', a', t', n', f', ⟨x', y', z'⟩, ⟨u', v', w'⟩⟩ := s
 rw [Bool.eq_iff_iff]
 simp
theorem eqIn_rec (d : Nat) (r s : Rec) (w : World) : (Op.equalIn (d + 4) 66 (.agg (recA r)) (.agg (recA s))).run Try.prog w = .ok (decide (r = s)) w := by
 have e := fun w => eqIn_infs d r.a.ver r.a.size r.a.sum s.a.ver s.a.size s.a.sum r.b.ver r.b.size r.b.sum s.b.ver s.b.size s.b.sum w
 rw [rec_dec]
 generalize decide (r.a.ver = s.a.ver ∧ r.a.size = s.a.size ∧ r.a.sum = s.a.sum) = B1 at e ⊢
 generalize decide (r.b.ver = s.b.ver ∧ r.b.size = s.b.size ∧ r.b.sum = s.b.sum) = B2 at e ⊢
 unfold recA
 go_simp
 by_cases h1 : r.gen = s.gen
 ·by_cases h2 : r.active = s.active
  ·by_cases h3 : r.trying = s.trying
   ·by_cases h4 : r.tries = s.tries
    ·by_cases h5 : r.floor = s.floor
     ·cases B1 <;> cases B2 <;> simp [h1, h2, h3, h4, h5]
     ·simp [h1, h2, h3, h4, h5]
    ·simp [h1, h2, h3, h4]
   ·simp [h1, h2, h3]
  ·simp [h1, h2]
 ·simp [h1]
theorem guard_rec : Try.prog.eqGuardType Try.prog.depth 66 = false := by kernel_rfl
theorem eql_rec (r s : Rec) (w : World) : (binOp .eql 66 (.agg (recA r)) (.agg (recA s))).run Try.prog w = .ok (.bool (decide (r = s))) w := by
 rw [run_eql_struct, eqIn_rec 9996]; rfl
theorem neq_rec (r s : Rec) (w : World) : (binOp .neq 66 (.agg (recA r)) (.agg (recA s))).run Try.prog w = .ok (.bool (!decide (r = s))) w := by
 rw [run_neq_struct, eqIn_rec 9996]; rfl
theorem neq_rec0 (r : Rec) (w : World) : (binOp .neq 66 (.agg (recA r)) (.agg #[.int .i64 0, .int .i64 0, .bool false, .int .i64 0, .int .i64 0, .int .i64 0, .int .i64 0, .int .i64 0, .int .i64 0, .int .i64 0, .int .i64 0])).run Try.prog w = .ok (.bool (!decide (r = Rec.zero))) w := neq_rec r Rec.zero w
theorem eql_rec0 (r : Rec) (w : World) : (binOp .eql 66 (.agg (recA r)) (.agg #[.int .i64 0, .int .i64 0, .bool false, .int .i64 0, .int .i64 0, .int .i64 0, .int .i64 0, .int .i64 0, .int .i64 0, .int .i64 0, .int .i64 0])).run Try.prog w = .ok (.bool (decide (r = Rec.zero))) w := eql_rec r Rec.zero w
theorem cop_dec (c d : Cop) : decide (c = d) = (decide (c.ok = d.ok) && decide (c.r = d.r)) := by
 obtain ⟨o, r⟩ := c
 obtain ⟨o', r'⟩ := d
 rw [Bool.eq_iff_iff]
 simp
theorem eqIn_cop (d : Nat) (a b : Cop) (w : World) : (Op.equalIn (d + 5) 68 (.agg (copA a)) (.agg (copA b))).run Try.prog w = .ok (decide (a = b)) w := by
 have e : ∀ w, (Op.equalIn (d + 4) 66 (.agg #[iv a.r.gen, iv a.r.active, .bool a.r.trying, iv a.r.tries, iv a.r.floor, iv a.r.a.ver, iv a.r.a.size, iv a.r.a.sum, iv a.r.b.ver, iv a.r.b.size, iv a.r.b.sum])
  (.agg #[iv b.r.gen, iv b.r.active, .bool b.r.trying, iv b.r.tries, iv b.r.floor, iv b.r.a.ver, iv b.r.a.size, iv b.r.a.sum, iv b.r.b.ver, iv b.r.b.size, iv b.r.b.sum])).run Try.prog w = .ok (decide (a.r = b.r)) w := fun w => eqIn_rec d a.r b.r w
 rw [cop_dec]
 generalize decide (a.r = b.r) = B1 at e ⊢
 unfold copA
 go_simp
 by_cases h1 : a.ok = b.ok <;> cases B1 <;> simp [h1]
theorem eql_cop (r s : Cop) (w : World) : (binOp .eql 68 (.agg (copA r)) (.agg (copA s))).run Try.prog w = .ok (.bool (decide (r = s))) w := by
 rw [run_eql_struct, eqIn_cop 9995]; rfl
theorem eqIn_cops (d : Nat) (a b x y : Cop) (w : World) : (Op.equalIn (d + 6) 69 (.agg (copsA a b)) (.agg (copsA x y))).run Try.prog w = .ok (decide (a = x) && decide (b = y)) w := by
 obtain ⟨i, hi, hz, hs, hb⟩ := info_parts (P := Try.prog) (e := 68) (z := .agg (copA Cop.zero)) (size := 12) (bytes := 96) (by kernel_rfl)
 rw [run_equalIn_array (P := Try.prog) (w := w) (d + 5) _ _ Try.underlying69 hi, cellsOfCop]
 exact run_eqItems2 (by kernel_rfl) (by kernel_rfl) (by kernel_rfl) (by kernel_rfl) (eqIn_cop d a x w) (eqIn_cop d b y w)
theorem eql_cops (a b x y : Cop) (w : World) : (binOp .eql 69 (.agg (copsA a b)) (.agg (copsA x y))).run Try.prog w = .ok (.bool (decide (a = x) && decide (b = y))) w := by
 rw [run_eql_struct, eqIn_cops 9994]; rfl
theorem neq_cops (a b x y : Cop) (w : World) : (binOp .neq 69 (.agg (copsA a b)) (.agg (copsA x y))).run Try.prog w = .ok (.bool (!(decide (a = x) && decide (b = y)))) w := by
 rw [run_neq_struct, eqIn_cops 9994]; rfl
theorem guard_cop : Try.prog.eqGuardType Try.prog.depth 68 = false := by kernel_rfl
theorem guard_cops : Try.prog.eqGuardType Try.prog.depth 69 = false := by kernel_rfl
theorem big_cop : bigBuild Try.prog 68 2 := by
 obtain ⟨i, hi, _⟩ := info_parts (P := Try.prog) (e := 68) (z := .agg (copA Cop.zero)) (size := 12) (bytes := 96) (by kernel_rfl)
 exact ⟨i, hi, by omega⟩
theorem big_inf : bigBuild Try.prog 63 3 := by
 obtain ⟨i, hi, _⟩ := info_parts (P := Try.prog) (e := 63) (z := .agg (infA Inf.zero)) (size := 3) (bytes := 24) (by kernel_rfl)
 exact ⟨i, hi, by omega⟩
theorem build_cop (b : Bool) (r : Rec) (w : World) : runBuild Try.prog 68 #[(0, .bool b), (1, .agg (recA r))] w = .ok (.agg (copA ⟨b, r⟩)) w := by kernel_rfl
theorem build_inf (a b c : Int) (w : World) : runBuild Try.prog 63 #[(0, .int .i64 a), (1, .int .i64 b), (2, .int .i64 c)] w = .ok (.agg (infA ⟨a, b, c⟩)) w := by kernel_rfl
attribute [go_sem] build_cop build_inf big_cop big_inf
attribute [go_sem] guard_rec guard_cop guard_cops
attribute [go_sem ↓] eql_cops neq_cops eql_rec neq_rec neq_rec0 eql_rec0 eql_cop
theorem recCheckA_calls (r : Rec) (w : World) : Calls Try.prog 151 #[.agg (recA r)] w (RetB w (iv (recCheck r))) :=
 recCheck_calls r.gen r.active r.trying r.tries r.floor r.a.ver r.a.size r.a.sum r.b.ver r.b.size r.b.sum w
theorem copies_calls (c d : Cop) (w : World) : Calls Try.prog 120 #[.agg (copsA c d)] w (RetB w (iv (copCheck c d))) := by
 have i0 : ∀ w, (Instr.index 69 (.agg (copsA c d)) (.int .i64 0)).run Try.prog w = .ok (.agg (copA c)) w := fun _ => by kernel_rfl
 have i1 : ∀ w, (Instr.index 69 (.agg (copsA c d)) (.int .i64 1)).run Try.prog w = .ok (.agg (copA d)) w := fun _ => by kernel_rfl
 go_enter Try.func120, Try.ntmps120
 go_wp2_with fail
 go_loopw [7] (fun i wr => ∃ k : Nat, k ≤ 2 ∧ i = .int .i64 k ∧ Below w.heap.size w wr ∧ rowOf wr w.heap.size = copsA c d ∧ (0 < k → copOne c = 0) ∧ (1 < k → copOne d = 0)) (fun i _ => (2 - intOf i).toNat)
 case atStart => exact ⟨0, by omega, rfl, (Below.refl _ _).alloc (Nat.le_refl _) _, by rw [rowOf_alloc, if_pos rfl], by omega, by omega⟩
 case round =>
  obtain ⟨k, hk, rfl, hB, hrow, ha, hb⟩ := hrel
  have HR := Lib.hid hrow
  clear hrow
  by_cases hlt : k < 2
  ·rcases (show k = 0 ∨ k = 1 by omega) with rfl | rfl
   ·clear ha hb
    cases hok : c.ok
    ·by_cases hz : c.r = Rec.zero
     ·have HO := Lib.hid (copOne_lost0 hok hz)
      have hd : decide (c.r = Rec.zero) = true := decide_eq_true hz
      have HK := Lib.hid hok
      have hok' : (c.ok == true) = false := by simp [hok]
      clear hz
      go_wp2_with fail
      go_roundw
      case rel => exact ⟨1, by omega, rfl, hB.alloc hB.size _, by rw [rowOf_alloc, if_neg (by have := row_lt (w := wr) (g := w.heap.size) (by rw [HR.out]; simp [copsA]); omega), HR.out], fun _ => HO.out, by omega⟩
      case measure => simp [intOf] <;> omega
     ·have HO := Lib.hid (copCheck_1 (d := d) (copOne_lost3 hok hz) (by omega))
      have hd : decide (c.r = Rec.zero) = false := decide_eq_false hz
      clear hz
      go_wp2_with fail
      go_ret
      exact ⟨ret_int HO.out.symm, hB.alloc hB.size _⟩
    ·have HO1 := Lib.hid (copOne_ok hok)
     go_wp2_with fail
     refine (recCheckA_calls c.r _).mono ?_
     rintro e w1 ⟨rfl, hb1⟩
     have hB1 := (hB.alloc hB.size (.cells (copA c) 68)).trans (hb1.mono (by simp; exact Nat.le_succ_of_le hB.size))
     have hrow1 : rowOf w1 w.heap.size = copsA c d := by rw [rowOf_below (by simp; have := row_lt (w := wr) (g := w.heap.size) (by rw [HR.out]; simp [copsA]); omega) hb1, rowOf_alloc, if_neg (by have := row_lt (w := wr) (g := w.heap.size) (by rw [HR.out]; simp [copsA]); omega), HR.out]
     by_cases hz : recCheck c.r = 0
     ·have HO := Lib.hid (HO1.out.trans hz)
      have hz' : (recCheck c.r != 0) = false := by simp [hz]
      have HW := Lib.hid hrow1
      clear hz hrow1 hb1
      go_wp2_with fail
      go_roundw
      case rel => exact ⟨1, by omega, rfl, hB1, HW.out, fun _ => HO.out, by omega⟩
      case measure => simp [intOf] <;> omega
     ·have HO := Lib.hid (copCheck_1 (d := d) HO1.out hz)
      have hz' : (recCheck c.r != 0) = true := by simp [hz]
      clear hz hrow1 hb1
      go_wp2_with fail
      go_ret
      exact ⟨ret_int HO.out.symm, hB1⟩
   ·have HA := Lib.hid (ha (by omega))
    clear ha hb
    cases hok : d.ok
    ·by_cases hz : d.r = Rec.zero
     ·have HO := Lib.hid (copOne_lost0 hok hz)
      have hd : decide (d.r = Rec.zero) = true := decide_eq_true hz
      have HK := Lib.hid hok
      have hok' : (d.ok == true) = false := by simp [hok]
      clear hz
      go_wp2_with fail
      go_roundw
      case rel => exact ⟨2, by omega, rfl, hB.alloc hB.size _, by rw [rowOf_alloc, if_neg (by have := row_lt (w := wr) (g := w.heap.size) (by rw [HR.out]; simp [copsA]); omega), HR.out], fun _ => HA.out, fun _ => HO.out⟩
      case measure => simp [intOf] <;> omega
     ·have HO := Lib.hid (copCheck_2 HA.out (copOne_lost3 hok hz) (by omega))
      have hd : decide (d.r = Rec.zero) = false := decide_eq_false hz
      clear hz
      go_wp2_with fail
      go_ret
      exact ⟨ret_int HO.out.symm, hB.alloc hB.size _⟩
    ·have HO1 := Lib.hid (copOne_ok hok)
     go_wp2_with fail
     refine (recCheckA_calls d.r _).mono ?_
     rintro e w1 ⟨rfl, hb1⟩
     have hB1 := (hB.alloc hB.size (.cells (copA d) 68)).trans (hb1.mono (by simp; exact Nat.le_succ_of_le hB.size))
     have hrow1 : rowOf w1 w.heap.size = copsA c d := by rw [rowOf_below (by simp; have := row_lt (w := wr) (g := w.heap.size) (by rw [HR.out]; simp [copsA]); omega) hb1, rowOf_alloc, if_neg (by have := row_lt (w := wr) (g := w.heap.size) (by rw [HR.out]; simp [copsA]); omega), HR.out]
     by_cases hz : recCheck d.r = 0
     ·have HO := Lib.hid (HO1.out.trans hz)
      have hz' : (recCheck d.r != 0) = false := by simp [hz]
      have HW := Lib.hid hrow1
      clear hz hrow1 hb1
      go_wp2_with fail
      go_roundw
      case rel => exact ⟨2, by omega, rfl, hB1, HW.out, fun _ => HA.out, fun _ => HO.out⟩
      case measure => simp [intOf] <;> omega
     ·have HO := Lib.hid (copCheck_2 HA.out HO1.out hz)
      have hz' : (recCheck d.r != 0) = true := by simp [hz]
      clear hz hrow1 hb1
      go_wp2_with fail
      go_ret
      exact ⟨ret_int HO.out.symm, hB1⟩
  ·obtain rfl : k = 2 := by omega
   have hp : 0 < (rowOf wr w.heap.size).size := by rw [HR.out]; simp [copsA]
   have c1 := cell_row hp 0
   have c2 := cell_row hp 12
   rw [HR.out] at c1 c2
   rw [copsA_get0] at c1
   rw [copsA_get12] at c2
   have HF := Lib.hid (copCheck_3 (ha (by omega)) (hb (by omega)))
   clear ha hb hp
   cases hc : c.ok
   ·cases hd : d.ok
    ·have HE : Hid (copCheck c d = 7) := by rw [hc, hd] at HF; exact HF
     go_wp2_with fail
     go_ret
     exact ⟨ret_int HE.out.symm, hB⟩
    ·have HE : Hid (copCheck c d = 0) := by rw [hc, hd] at HF; exact HF
     go_wp2_with fail
     go_ret
     exact ⟨ret_int HE.out.symm, hB⟩
   ·have HE : Hid (copCheck c d = 0) := by rw [hc] at HF; exact HF
    go_wp2_with fail
    go_ret
    exact ⟨ret_int HE.out.symm, hB⟩
theorem read_bad (c d : Cop) (w : World) (h : copCheck c d ≠ 0) : Calls Try.prog 53 #[.agg (copsA c d)] w (RetB w (.tuple #[.agg (recA Rec.zero), iv 0, iv (copCheck c d)])) := by
 have hb : (copCheck c d != 0) = true := by simp [h]
 clear h
 go_enter Try.func53, Try.ntmps53
 go_wp2_with fail
 refine (copies_calls c d _).mono ?_
 rintro e w1 ⟨rfl, hb1⟩
 obtain ⟨kr, kf, kn, kc, kz⟩ := keepB hb1 (n := w.heap.size + 1 + 1) (by simp)
 have HB := Lib.hid ((((Below.refl _ _).alloc (Nat.le_refl _) _).alloc (by simp) _).trans (hb1.mono (B' := w.heap.size) (by simp; omega)))
 clear hb1
 go_wp2_with fail
 refine bodyPost_ret (results_ctt rfl rfl (cs := recA Rec.zero) (by go_simp) (by go_simp) (by go_simp)) rfl ⟨rfl, below_row HB.out (by omega) _⟩
theorem read_ok (c d : Cop) (w : World) (h : copCheck c d = 0) : Calls Try.prog 53 #[.agg (copsA c d)] w (RetB w (.tuple #[.agg (recA (recRead c d).1), iv (recRead c d).2, iv 0])) := by
 have hb : (copCheck c d != 0) = false := by simp [h]
 clear h
 go_enter Try.func53, Try.ntmps53
 go_wp2_with fail
 refine (copies_calls c d _).mono ?_
 rintro e w1 ⟨rfl, hb1⟩
 obtain ⟨kr, kf, kn, kc, kz⟩ := keepB hb1 (n := w.heap.size + 1 + 1) (by simp)
 have HB := Lib.hid ((((Below.refl _ _).alloc (Nat.le_refl _) _).alloc (by simp) _).trans (hb1.mono (B' := w.heap.size) (by simp; omega)))
 clear hb1
 cases hc : c.ok
 ·have hE : recRead c d = (d.r, 1) := by unfold recRead newer; rw [hc]; rfl
  have HE := Lib.hid hE
  clear hE
  go_wp2_with fail
  refine bodyPost_ret (results_ctt rfl rfl (cs := recA d.r) (by go_simp) (by go_simp) (by go_simp)) rfl ⟨by rw [HE.out]; rfl, ?_⟩
  exact below_row HB.out (Nat.le_succ _) _
 ·cases hd : d.ok
  ·have hE : recRead c d = (c.r, 0) := by unfold recRead newer; rw [hc, hd]; rfl
   have HE := Lib.hid hE
   clear hE
   go_wp2_with fail
   refine bodyPost_ret (results_ctt rfl rfl (cs := recA c.r) (by go_simp) (by go_simp) (by go_simp)) rfl ⟨by rw [HE.out]; rfl, ?_⟩
   exact below_row HB.out (Nat.le_succ _) _
  ·by_cases hg : c.r.gen < d.r.gen
   ·have hE : recRead c d = (d.r, 1) := by unfold recRead newer; rw [hc, hd, decide_eq_true hg]; rfl
    have HE := Lib.hid hE
    clear hE
    go_wp2_with fail
    refine bodyPost_ret (results_ctt rfl rfl (cs := recA d.r) (by go_simp) (by go_simp) (by go_simp)) rfl ⟨by rw [HE.out]; rfl, ?_⟩
    exact below_row HB.out (Nat.le_succ _) _
   ·have hE : recRead c d = (c.r, 0) := by unfold recRead newer; rw [hc, hd, decide_eq_false hg]; rfl
    have HE := Lib.hid hE
    clear hE
    go_wp2_with fail
    refine bodyPost_ret (results_ctt rfl rfl (cs := recA c.r) (by go_simp) (by go_simp) (by go_simp)) rfl ⟨by rw [HE.out]; rfl, ?_⟩
    exact below_row HB.out (Nat.le_succ _) _
def chkA (f t n o : Int) (A : Option Addr) (k c : Nat) : Array Value := #[iv f, iv t, iv n, iv o, .slice A k c]
@[go_sem] theorem chkA_size (f t n o : Int) (A : Option Addr) (k c : Nat) : (chkA f t n o A k c).size = 5 := by simp [chkA]
@[go_sem] theorem chkA_one (f t n o : Int) (A : Option Addr) (k c : Nat) : allOne (chkA f t n o A k c) = true := by simp [chkA, allOne, Value.oneCell']
@[go_sem] theorem chkA_at0 (f t n o : Int) (A : Option Addr) (k c : Nat) (h : 0 < (chkA f t n o A k c).size) : (chkA f t n o A k c)[0]'h = iv f := by simp [chkA]
@[go_sem] theorem chkA_at1 (f t n o : Int) (A : Option Addr) (k c : Nat) (h : 1 < (chkA f t n o A k c).size) : (chkA f t n o A k c)[1]'h = iv t := by simp [chkA]
@[go_sem] theorem chkA_at2 (f t n o : Int) (A : Option Addr) (k c : Nat) (h : 2 < (chkA f t n o A k c).size) : (chkA f t n o A k c)[2]'h = iv n := by simp [chkA]
@[go_sem] theorem chkA_at3 (f t n o : Int) (A : Option Addr) (k c : Nat) (h : 3 < (chkA f t n o A k c).size) : (chkA f t n o A k c)[3]'h = iv o := by simp [chkA]
@[go_sem] theorem chkA_at4 (f t n o : Int) (A : Option Addr) (k c : Nat) (h : 4 < (chkA f t n o A k c).size) : (chkA f t n o A k c)[4]'h = .slice A k c := by simp [chkA]
@[go_sem] theorem chkA_all (f t n o : Int) (A : Option Addr) (k c : Nat) : (chkA f t n o A k c).extract 0 5 = chkA f t n o A k c := by simp [chkA]
@[go_sem] theorem chk_lit (f t n o : Int) (A : Option Addr) (k c : Nat) : Value.agg #[.int .i64 f, .int .i64 t, .int .i64 n, .int .i64 o, .slice A k c] = Value.agg (chkA f t n o A k c) := by simp [chkA]
@[go_sem] theorem chkA_set4 (f t n o : Int) (A : Option Addr) (k c : Nat) (B : Option Addr) (m d : Nat) : (chkA f t n o A k c).setIfInBounds 4 (.slice B m d) = chkA f t n o B m d := by simp [chkA]
@[go_sem] theorem aggSzChk : aggSz Try.prog 49 = 5 := by kernel_rfl
@[go_sem] theorem chkA_set0 (f t n o : Int) (A : Option Addr) (k c : Nat) (x : Int) : (chkA f t n o A k c).setIfInBounds 0 (.int .i64 x) = chkA x t n o A k c := by simp [chkA]
@[go_sem] theorem chkA_set1 (f t n o : Int) (A : Option Addr) (k c : Nat) (x : Int) : (chkA f t n o A k c).setIfInBounds 1 (.int .i64 x) = chkA f x n o A k c := by simp [chkA]
@[go_sem] theorem chkA_set2 (f t n o : Int) (A : Option Addr) (k c : Nat) (x : Int) : (chkA f t n o A k c).setIfInBounds 2 (.int .i64 x) = chkA f t x o A k c := by simp [chkA]
@[go_sem] theorem chkA_set3 (f t n o : Int) (A : Option Addr) (k c : Nat) (x : Int) : (chkA f t n o A k c).setIfInBounds 3 (.int .i64 x) = chkA f t n x A k c := by simp [chkA]
@[go_sem] theorem chkA_ne (f t n o : Int) (A : Option Addr) (k c : Nat) : (chkA f t n o A k c = #[]) = False := by simp [chkA]
theorem chkCheck_bad (h : ¬ x.range) : chkCheck x = 2 := by unfold chkCheck; rw [if_pos h]
theorem chkCheck_form (h : x.range) (g : ¬ x.full) : chkCheck x = 3 := by unfold chkCheck; rw [if_neg (by simpa using h), if_pos g]
theorem chkCheck_fine (h : x.range) (g : x.full) : chkCheck x = 0 := chkCheck_ok.2 ⟨h, g⟩
theorem full_len {f t n o : Int} {l : List UInt8} : Chk.full ⟨f, t, n, o, l⟩ ↔ l.length ≠ 0 ∧ l.length ≤ 16 ∧ (n < o - 1 → l.length = 16) := by
 unfold Chk.full
 dsimp only
 rw [← List.length_pos_iff]
 constructor <;> (intro h; refine ⟨by omega, h.2.1, h.2.2⟩)
theorem chkCheck_calls (A : Option Addr) (c : Nat) (f t n o : Int) (l : List UInt8) (w : World) (hn : I64 n) (ho : I64 o) :
  Calls Try.prog 47 #[.agg (chkA f t n o A l.length c)] w (RetB w (iv (chkCheck ⟨f, t, n, o, l⟩))) := by
 obtain ⟨hn1, hn2⟩ := hn
 obtain ⟨ho1, ho2⟩ := ho
 have hb : Below w.heap.size w (w.alloc (.cells (chkA f t n o A l.length c) 49)) := (Below.refl _ _).alloc (Nat.le_refl _) _
 have HB := Lib.hid hb
 clear hb
 by_cases h0 : f < (1 : Int)
 ·have hz := Lib.hid (chkCheck_bad (x := ⟨f, t, n, o, l⟩) (by unfold Chk.range; dsimp only; omega))
  go_enter Try.func47, Try.ntmps47
  go_wp2_with fail
  go_ret
  exact ⟨ret_int hz.out.symm, HB.out⟩
 by_cases h1 : (30 : Int) < f
 ·have hz := Lib.hid (chkCheck_bad (x := ⟨f, t, n, o, l⟩) (by unfold Chk.range; dsimp only; omega))
  go_enter Try.func47, Try.ntmps47
  go_wp2_with fail
  go_ret
  exact ⟨ret_int hz.out.symm, HB.out⟩
 by_cases h2 : t < (1 : Int)
 ·have hz := Lib.hid (chkCheck_bad (x := ⟨f, t, n, o, l⟩) (by unfold Chk.range; dsimp only; omega))
  go_enter Try.func47, Try.ntmps47
  go_wp2_with fail
  go_ret
  exact ⟨ret_int hz.out.symm, HB.out⟩
 by_cases h3 : (30 : Int) < t
 ·have hz := Lib.hid (chkCheck_bad (x := ⟨f, t, n, o, l⟩) (by unfold Chk.range; dsimp only; omega))
  go_enter Try.func47, Try.ntmps47
  go_wp2_with fail
  go_ret
  exact ⟨ret_int hz.out.symm, HB.out⟩
 by_cases h4 : o < (1 : Int)
 ·have hz := Lib.hid (chkCheck_bad (x := ⟨f, t, n, o, l⟩) (by unfold Chk.range; dsimp only; omega))
  go_enter Try.func47, Try.ntmps47
  go_wp2_with fail
  go_ret
  exact ⟨ret_int hz.out.symm, HB.out⟩
 by_cases h5 : (52 : Int) < o
 ·have hz := Lib.hid (chkCheck_bad (x := ⟨f, t, n, o, l⟩) (by unfold Chk.range; dsimp only; omega))
  go_enter Try.func47, Try.ntmps47
  go_wp2_with fail
  go_ret
  exact ⟨ret_int hz.out.symm, HB.out⟩
 by_cases h6 : n < (0 : Int)
 ·have hz := Lib.hid (chkCheck_bad (x := ⟨f, t, n, o, l⟩) (by unfold Chk.range; dsimp only; omega))
  go_enter Try.func47, Try.ntmps47
  go_wp2_with fail
  go_ret
  exact ⟨ret_int hz.out.symm, HB.out⟩
 by_cases h7 : o ≤ n
 ·have hz := Lib.hid (chkCheck_bad (x := ⟨f, t, n, o, l⟩) (by unfold Chk.range; dsimp only; omega))
  go_enter Try.func47, Try.ntmps47
  go_wp2_with fail
  go_ret
  exact ⟨ret_int hz.out.symm, HB.out⟩
 have hr : Chk.range ⟨f, t, n, o, l⟩ := by unfold Chk.range; dsimp only; omega
 have HR := Lib.hid hr
 clear hr
 have hw : IntKind.i64.wrap (o - 1) = o - 1 := IntWalk.i64_in _ (by omega)
 by_cases g0 : l.length = 0
 ·have hz := Lib.hid (chkCheck_form HR.out (fun e => (full_len.1 e).1 g0))
  have q : ((l.length : Int) == 0) = true := by simp [g0]
  clear g0
  go_enter Try.func47, Try.ntmps47
  go_wp2_with fail
  go_ret
  exact ⟨ret_int hz.out.symm, HB.out⟩
 have q0 : ((l.length : Int) == 0) = false := beq_eq_false_iff_ne.2 (by omega)
 by_cases g1 : (16 : Int) < (l.length : Int)
 ·have hz := Lib.hid (chkCheck_form HR.out (fun e => by have := (full_len.1 e).2.1; omega))
  clear g0
  go_enter Try.func47, Try.ntmps47
  go_wp2_with fail
  go_ret
  exact ⟨ret_int hz.out.symm, HB.out⟩
 by_cases g2 : n < o - 1
 ·by_cases g3 : l.length = 16
  ·have q1 : ((l.length : Int) != 16) = false := by simp [g3]
   have hz := Lib.hid (chkCheck_fine HR.out (full_len.2 ⟨by omega, by omega, fun _ => g3⟩))
   clear g0 g3
   go_enter Try.func47, Try.ntmps47
   go_wp2_with fail
   go_ret
   exact ⟨ret_int hz.out.symm, HB.out⟩
  ·have q1 : ((l.length : Int) != 16) = true := bne_iff_ne.2 (by omega)
   have hz := Lib.hid (chkCheck_form HR.out (fun e => g3 ((full_len.1 e).2.2 g2)))
   clear g0 g3
   go_enter Try.func47, Try.ntmps47
   go_wp2_with fail
   go_ret
   exact ⟨ret_int hz.out.symm, HB.out⟩
 ·have hz := Lib.hid (chkCheck_fine HR.out (full_len.2 ⟨by omega, by omega, fun h => absurd h g2⟩))
  clear g0
  go_enter Try.func47, Try.ntmps47
  go_wp2_with fail
  go_ret
  exact ⟨ret_int hz.out.symm, HB.out⟩
theorem kin_calls (A B : Option Addr) (c d k m : Nat) (f t n o f2 t2 n2 o2 : Int) (l r : List UInt8) (w : World) :
  Calls Try.prog 102 #[.agg (chkA f t n o A k c), .agg (chkA f2 t2 n2 o2 B m d)] w (RetB w (.bool (decide (kin ⟨f, t, n, o, l⟩ ⟨f2, t2, n2, o2, r⟩)))) := by
 have hb : Below w.heap.size w ((w.alloc (.cells (chkA f t n o A k c) 49)).alloc (.cells (chkA f2 t2 n2 o2 B m d) 49)) := ((Below.refl _ _).alloc (Nat.le_refl _) _).alloc (by simp) _
 have HB := Lib.hid hb
 clear hb
 by_cases h0 : ¬ f = f2
 ·have hz : decide (kin ⟨f, t, n, o, l⟩ ⟨f2, t2, n2, o2, r⟩) = false := decide_eq_false (by unfold kin; dsimp only; omega)
  have HZ := Lib.hid hz
  have q : (f == f2) = false := by simp [h0]
  clear hz h0
  go_enter Try.func102, Try.ntmps102
  go_wp2_with fail
  go_ret
  exact ⟨ret_bool HZ.out.symm, HB.out⟩
 have h0 := Decidable.not_not.1 h0
 subst h0
 have q0 : (f == f) = true := by simp
 by_cases h1 : ¬ t = t2
 ·have hz : decide (kin ⟨f, t, n, o, l⟩ ⟨f, t2, n2, o2, r⟩) = false := decide_eq_false (by unfold kin; dsimp only; omega)
  have HZ := Lib.hid hz
  have q : (t == t2) = false := by simp [h1]
  clear hz h1
  go_enter Try.func102, Try.ntmps102
  go_wp2_with fail
  go_ret
  exact ⟨ret_bool HZ.out.symm, HB.out⟩
 have h1 := Decidable.not_not.1 h1
 subst h1
 have q1 : (t == t) = true := by simp
 by_cases h2 : ¬ o = o2
 ·have hz : decide (kin ⟨f, t, n, o, l⟩ ⟨f, t, n2, o2, r⟩) = false := decide_eq_false (by unfold kin; dsimp only; omega)
  have HZ := Lib.hid hz
  have q : (o == o2) = false := by simp [h2]
  clear hz h2
  go_enter Try.func102, Try.ntmps102
  go_wp2_with fail
  go_ret
  exact ⟨ret_bool HZ.out.symm, HB.out⟩
 have h2 := Decidable.not_not.1 h2
 subst h2
 have q2 : (o == o) = true := by simp
 have hz : decide (kin ⟨f, t, n, o, l⟩ ⟨f, t, n2, o, r⟩) = true := decide_eq_true ⟨rfl, rfl, rfl⟩
 have HZ := Lib.hid hz
 clear hz
 go_enter Try.func102, Try.ntmps102
 go_wp2_with fail
 go_ret
 exact ⟨ret_bool HZ.out.symm, HB.out⟩
theorem listGo_bad {p : Option Chk} (h : chkCheck x ≠ 0) : listGo p (x :: l) = chkCheck x := by unfold listGo; rw [if_pos h]
theorem listGo_form {p : Option Chk} (h : chkCheck x = 0) (g : ¬ follows p x) : listGo p (x :: l) = 3 := by unfold listGo; rw [if_neg (by simpa using h), if_pos g]
theorem listGo_next {p : Option Chk} (h : chkCheck x = 0) (g : follows p x) : listGo p (x :: l) = listGo (some x) l := by
 conv => lhs; unfold listGo
 rw [if_neg (by simpa using h), if_neg (by simpa using g)]
theorem chkCheckX_calls (A : Option Addr) (c : Nat) (x : Chk) (w : World) (h : I64 x.n ∧ I64 x.of_) :
  Calls Try.prog 47 #[.agg (chkA x.from_ x.to_ x.n x.of_ A x.data.length c)] w (RetB w (iv (chkCheck x))) := chkCheck_calls A c x.from_ x.to_ x.n x.of_ x.data w h.1 h.2
theorem kinY_calls (A B : Option Addr) (c d : Nat) (x y : Chk) (w : World) :
  Calls Try.prog 102 #[.agg (chkA x.from_ x.to_ x.n x.of_ A x.data.length c), .agg (chkA y.from_ y.to_ y.n y.of_ B y.data.length d)] w (RetB w (.bool (decide (kin x y)))) :=
 kin_calls A B c d x.data.length y.data.length x.from_ x.to_ x.n x.of_ y.from_ y.to_ y.n y.of_ x.data y.data w
def ChkAt (w : World) (b o : Nat) (x : Chk) (B : Option Addr) (c : Nat) : Prop :=
 w.cell? ⟨b, o, none⟩ = some (iv x.from_) ∧ w.cell? ⟨b, o + 1, none⟩ = some (iv x.to_) ∧ w.cell? ⟨b, o + 2, none⟩ = some (iv x.n) ∧ w.cell? ⟨b, o + 3, none⟩ = some (iv x.of_) ∧ w.cell? ⟨b, o + 4, none⟩ = some (.slice B x.data.length c)
theorem ChkAt.stays {w' : World} {b o : Nat} {B : Option Addr} {c : Nat} (h : ChkAt w b o x B c) (hlt : b < w.heap.size) (hb : Below w.heap.size w w') : ChkAt w' b o x B c :=
 ⟨(hb.cell (p := ⟨b, o, none⟩) hlt).trans h.1, (hb.cell (p := ⟨b, o + 1, none⟩) hlt).trans h.2.1, (hb.cell (p := ⟨b, o + 2, none⟩) hlt).trans h.2.2.1, (hb.cell (p := ⟨b, o + 3, none⟩) hlt).trans h.2.2.2.1, (hb.cell (p := ⟨b, o + 4, none⟩) hlt).trans h.2.2.2.2⟩
theorem Chs.chk {A : Option Addr} (h : Chs w A l) {i : Nat} (hi : i < l.length) : ∃ b o B c, A = some ⟨b, o, none⟩ ∧ b < w.heap.size ∧ ChkAt w b (o + i * 5) l[i] B c ∧ ChkIn w l[i] B c := by
 obtain ⟨b, o, B, c, h1, h2, h3, h4, h5, h6, h7, h8⟩ := h.at_ hi
 exact ⟨b, o, B, c, h1, h2, ⟨h3, h4, h5, h6, h7⟩, h8⟩
theorem chkList_calls (A : Option Addr) (c : Nat) (l : List Chk) (w : World) (hl : l.length ≤ 1048576) (hs : Chs w A l) :
  Calls Try.prog 40 #[.slice A l.length c] w (RetB w (iv (chkList l))) := by
 have HS := Lib.hid hs
 clear hs
 obtain ⟨r, hr⟩ : ∃ r, chkList l = r := ⟨_, rfl⟩
 rw [hr]
 have HR : Hid (listGo none l = r) := Lib.hid hr
 clear hr
 go_enter Try.func40, Try.ntmps40
 go_wp2_with fail
 go_loopw [8] (fun i wr => ∃ k : Nat, k ≤ l.length ∧ i = .int .i64 k ∧ Hid (listGo ((l.take k).getLast?) (l.drop k) = r) ∧ Hid (Below w.heap.size w wr)) (fun i _ => l.length - (intOf i).toNat)
 case atStart => exact ⟨0, Nat.zero_le _, rfl, Lib.hid HR.out, Lib.hid (Below.refl _ _)⟩
 case round =>
  rename World => wr
  obtain ⟨k, hk, rfl, HE, HB⟩ := hrel
  have hsz := HB.out.size
  by_cases hlt : k < l.length
  ·obtain ⟨b, o, B, cx, rfl, hb, hat, hin⟩ := HS.out.chk hlt
   have hdr : l.drop k = l[k] :: l.drop (k + 1) := List.drop_eq_getElem_cons hlt
   have hlast : (l.take (k + 1)).getLast? = some l[k] := by rw [List.take_succ_eq_append_getElem hlt, List.getLast?_concat]
   have hpre : ∀ (h0 : 0 < k), ∃ q D d, (l.take k).getLast? = some q ∧ ChkAt w b (o + (k - 1) * 5) q D d := fun h0 => by
    obtain ⟨b', o', D, d, e, _, h1, _⟩ := HS.out.chk (i := k - 1) (by omega)
    injection e with e
    injection e with e1 e2
    subst e1 e2
    refine ⟨l[k - 1], D, d, ?_, h1⟩
    rw [List.getLast?_take, if_neg (by omega), List.getElem?_eq_getElem (by omega)]
    rfl
   obtain ⟨x, hx⟩ : ∃ x, l[k] = x := ⟨_, rfl⟩
   rw [hx] at hdr hlast hat hin
   rw [hdr] at HE
   obtain ⟨p, hp⟩ : ∃ p, (l.take k).getLast? = p := ⟨_, rfl⟩
   rw [hp] at HE hpre
   have HLAST := Lib.hid hlast
   have hat2 := hat.stays hb HB.out
   obtain ⟨c0, c1, c2, c3, c4⟩ := hat2
   have HAT := Lib.hid hat
   have HP0 : Hid (k = 0 → p = none) := Lib.hid (fun e => by rw [← hp, e]; simp)
   have HPR := Lib.hid hpre
   have HK := Lib.hid (fun w => chkCheckX_calls B cx x w ⟨hin.i2, hin.i3⟩)
   have hblt : b < wr.heap.size := by omega
   have dl : decide ((k : Int) < (l.length : Int)) = true := decide_eq_true (by omega)
   have hwk : IntKind.i64.wrap ((k : Int) + 1) = (k : Int) + 1 := IntWalk.i64_in _ (by omega)
   clear hdr hlast hx hp hpre hat hin
   by_cases hck : chkCheck x ≠ 0
   ·have hz : r = chkCheck x := by rw [← HE.out, listGo_bad hck]
    have q : (chkCheck x != 0) = true := by simp [hck]
    have HZ := Lib.hid hz
    clear hck hz
    go_wp2_with fail
    refine (HK.out _).mono ?_
    rintro e w1 ⟨rfl, hb1⟩
    have HB1 : Hid (Below w.heap.size w w1) := by
     refine Lib.hid (HB.out.trans (Below.trans ?_ (hb1.mono (by first | omega | (simp <;> omega)))))
     repeat (first | exact Below.refl _ _ | refine Below.alloc ?_ (by first | omega | (simp <;> omega)) _)
    clear hb1
    go_wp2_with fail
    go_ret
    exact ⟨ret_int HZ.out.symm, HB1.out⟩
   have hck := Decidable.not_not.1 hck
   have HCK := Lib.hid hck
   rw [hck] at HK
   clear hck
   go_wp2_with fail
   refine (HK.out _).mono ?_
   rintro e w1 ⟨rfl, hb1⟩
   obtain ⟨a0r, a0f, a0n, a0c, a0z, a0l⟩ := keep1 (g := wr.heap.size) (cs := chkA x.from_ x.to_ x.n x.of_ B x.data.length cx) hb1 (by first | (go_simp; done) | (go_simp; rfl)) (by go_simp) (by go_simp)
   have HB1 : Hid (Below w.heap.size w w1) := by
    refine Lib.hid (HB.out.trans (Below.trans ?_ (hb1.mono (by first | omega | (simp <;> omega)))))
    repeat (first | exact Below.refl _ _ | refine Below.alloc ?_ (by first | omega | (simp <;> omega)) _)
   have hs1 := HB1.out.size
   clear hb1 c0 c1 c2 c3 c4
   have HD : Hid (∀ wq, Below w1.drew.heap.size w1.drew wq → Below w1.heap.size w1 wq) := Lib.hid (fun wq h => (Below.refl w1.heap.size w1).drew.trans h)
   have R4 : rowOf w1.drew wr.heap.size = chkA x.from_ x.to_ x.n x.of_ B x.data.length cx := by go_simp
   have F4 : frOf w1.drew wr.heap.size = (0, 0) := by go_simp
   go_wp2_with fail
   by_cases hk0 : k = 0
   ·have hz : listGo (some x) (l.drop (k + 1)) = r := by rw [← HE.out, listGo_next HCK.out (by rw [HP0.out hk0]; intro q e; cases e)]
    have HZ := Lib.hid hz
    have HKP := Lib.hid hk0
    clear hz hk0
    refine wp_region_chain (by kernel_rfl) (some 18 :: some 19 :: some 20 :: some 21 :: some 22 :: some 23 :: some 24 :: some 25 :: some 26 :: some 27 :: some 28 :: some 29 :: some 30 :: some 31 :: some 32 :: some 33 :: some 34 :: some 35 :: some 36 :: some 37 :: some 38 :: some 39 :: some 40 :: []) (.int .i64 (k : Int) :: .bool false :: .bool false :: undef :: undef :: undef :: undef :: undef :: undef :: undef :: undef :: undef :: undef :: undef :: undef :: undef :: undef :: undef :: undef :: undef :: undef :: undef :: .bool false :: []) 42 rfl rfl (by decide +kernel) (by decide +kernel) (by decide +kernel) rfl ?_ ?_
    ·refine ⟨.inl ⟨rfl, fun done a wq hw h => ?_⟩, ?_⟩
     ·have e3 := ch_old (t := 3) (v := .int .i64 (k : Int)) h rfl rfl; exact ch_move (ch_ev e3)
     refine ⟨.inl ⟨rfl, fun done a wq hw h => ?_⟩, ?_⟩
     ·have e18 := ch_new (i := 0) (t := 18) h (hw 0 (by decide)) rfl rfl; have hp := HKP.out; refine ch_pure ?_; go_simp
     refine ⟨.inl ⟨rfl, fun done a wq hw h => ?_⟩, ?_⟩
     ·have e19 := ch_new (i := 1) (t := 19) h (hw 1 (by decide)) rfl rfl; exact ch_move (ch_ev e19)
     iterate 19 refine ⟨.inr ⟨rfl, rfl⟩, ?_⟩
     refine ⟨.inl ⟨rfl, fun done a wq hw h => ?_⟩, ?_⟩
     ·have e20 := ch_new (i := 2) (t := 20) h (hw 2 (by decide)) rfl rfl; exact ch_pick_f e20 rfl
     exact trivial
    ·intro w2 hb2
     simp only [putAll_some, putAll_none, putAll_nil, List.setIfInBounds_toArray, List.set_cons_zero, List.set_cons_succ]
     have HB2 : Hid (Below w.heap.size w w2) := Lib.hid (HB1.out.trans (hb2.mono HB1.out.size))
     clear hb2 R4 F4 a0r a0f a0n a0c a0z a0l
     go_wp2_with fail
     go_roundw
     case rel => exact ⟨k + 1, by omega, by go_num, Lib.hid (by rw [HLAST.out]; exact HZ.out), HB2⟩
     case measure => simp [intOf]; omega
   ·obtain ⟨q, D, dq, hpq, hq⟩ := HPR.out (by omega)
    have HQ : Hid (∀ wq, Below w1.heap.size w1 wq → ChkAt wq b (o + (k - 1) * 5) q D dq) := Lib.hid (fun wq h => hq.stays hb (HB1.out.trans (h.mono hs1)))
    have HKP : Hid (0 < k) := Lib.hid (by omega)
    have HI4 : Hid (¬ (k : Int) < 1) := Lib.hid (by omega)
    have hkp : 0 < k := by omega
    clear hk0
    have HW : Hid (IntKind.i64.wrap ((k : Int) - 1) = (k : Int) - 1) := Lib.hid (IntWalk.i64_in _ (by omega))
    have HI1 : Hid (((k : Int) - 1).toNat = k - 1) := Lib.hid (by omega)
    have HI2 : Hid (¬ (k : Int) - 1 < 0) := Lib.hid (by omega)
    have HI3 : Hid (¬ (l.length : Int) ≤ (k : Int) - 1) := Lib.hid (by omega)
    have HF : Hid (follows p x ↔ kin q x ∧ q.n < x.n) := Lib.hid (by rw [hpq]; exact ⟨fun h => h q rfl, fun h z e => by injection e with e; subst e; exact h⟩)
    clear hpq hq
    by_cases hkn : kin q x
    ·have HKN : Hid (decide (kin q x) = true) := Lib.hid (decide_eq_true hkn)
     by_cases hge : x.n ≤ q.n
     first | case' inl => have T10 : Hid True := Lib.hid trivial | case' pos => have T10 : Hid True := Lib.hid trivial | case' refine_1 => have T10 : Hid True := Lib.hid trivial
     iterate 2
      ·first
        |
         revert T10; intro T10
         have hz : r = 3 := by rw [← HE.out, listGo_form HCK.out (by rw [HF.out]; omega)]
        | have hz : listGo (some x) (l.drop (k + 1)) = r := by rw [← HE.out, listGo_next HCK.out (by rw [HF.out]; exact ⟨hkn, by omega⟩)]
       have HZ := Lib.hid hz
       first
        |
         revert T10; intro T10
         have HGE : Hid (decide (x.n ≤ q.n) = true) := Lib.hid (decide_eq_true hge)
        | have HGE : Hid (decide (x.n ≤ q.n) = false) := Lib.hid (decide_eq_false hge)
       clear hz hkn hge
       first
        |
         revert T10; intro T10
         refine wp_region_chain (by kernel_rfl) (some 18 :: some 19 :: some 20 :: some 21 :: some 22 :: some 23 :: some 24 :: some 25 :: some 26 :: some 27 :: some 28 :: some 29 :: some 30 :: some 31 :: some 32 :: some 33 :: some 34 :: some 35 :: some 36 :: some 37 :: some 38 :: some 39 :: some 40 :: []) (.int .i64 (k : Int) :: .bool true :: .bool true :: .slice (some ⟨b, o, none⟩) l.length c :: .int .i64 (k : Int) :: .int .i64 ((k : Int) - 1) :: .pointer (some ⟨b, o + (k - 1) * 5, none⟩) :: .agg (chkA q.from_ q.to_ q.n q.of_ D q.data.length dq) :: .agg (chkA x.from_ x.to_ x.n x.of_ B x.data.length cx) :: .bool true :: .bool false :: .bool false :: .slice (some ⟨b, o, none⟩) l.length c :: .int .i64 (k : Int) :: .int .i64 ((k : Int) - 1) :: .pointer (some ⟨b, o + (k - 1) * 5, none⟩) :: .pointer (some ⟨b, o + (k - 1) * 5 + 2, none⟩) :: iv q.n :: .pointer (some ⟨wr.heap.size, 2, none⟩) :: iv x.n :: .bool true :: .bool true :: .bool true :: []) 42 rfl rfl (by decide +kernel) (by decide +kernel) (by decide +kernel) rfl ?_ ?_
        | refine wp_region_chain (by kernel_rfl) (some 18 :: some 19 :: some 20 :: some 21 :: some 22 :: some 23 :: some 24 :: some 25 :: some 26 :: some 27 :: some 28 :: some 29 :: some 30 :: some 31 :: some 32 :: some 33 :: some 34 :: some 35 :: some 36 :: some 37 :: some 38 :: some 39 :: some 40 :: []) (.int .i64 (k : Int) :: .bool true :: .bool true :: .slice (some ⟨b, o, none⟩) l.length c :: .int .i64 (k : Int) :: .int .i64 ((k : Int) - 1) :: .pointer (some ⟨b, o + (k - 1) * 5, none⟩) :: .agg (chkA q.from_ q.to_ q.n q.of_ D q.data.length dq) :: .agg (chkA x.from_ x.to_ x.n x.of_ B x.data.length cx) :: .bool true :: .bool false :: .bool false :: .slice (some ⟨b, o, none⟩) l.length c :: .int .i64 (k : Int) :: .int .i64 ((k : Int) - 1) :: .pointer (some ⟨b, o + (k - 1) * 5, none⟩) :: .pointer (some ⟨b, o + (k - 1) * 5 + 2, none⟩) :: iv q.n :: .pointer (some ⟨wr.heap.size, 2, none⟩) :: iv x.n :: .bool false :: .bool false :: .bool false :: []) 42 rfl rfl (by decide +kernel) (by decide +kernel) (by decide +kernel) rfl ?_ ?_
       ·refine ⟨.inl ⟨rfl, fun done a wq hw h => ?_⟩, ?_⟩
        ·have e3 := ch_old (t := 3) (v := .int .i64 (k : Int)) h rfl rfl; exact ch_move (ch_ev e3)
        refine ⟨.inl ⟨rfl, fun done a wq hw h => ?_⟩, ?_⟩
        ·have e18 := ch_new (i := 0) (t := 18) h (hw 0 (by decide)) rfl rfl; have hp := HKP.out; refine ch_pure ?_; go_simp
        refine ⟨.inl ⟨rfl, fun done a wq hw h => ?_⟩, ?_⟩
        ·have e19 := ch_new (i := 1) (t := 19) h (hw 1 (by decide)) rfl rfl; exact ch_move (ch_ev e19)
        refine ⟨.inl ⟨rfl, fun done a wq hw h => ?_⟩, ?_⟩
        ·have e0 := ch_old (t := 0) (v := .slice (some ⟨b, o, none⟩) l.length c) h rfl rfl; exact ch_move (ch_ev e0)
        refine ⟨.inl ⟨rfl, fun done a wq hw h => ?_⟩, ?_⟩
        ·have e3 := ch_old (t := 3) (v := .int .i64 (k : Int)) h rfl rfl; exact ch_move (ch_ev e3)
        refine ⟨.inl ⟨rfl, fun done a wq hw h => ?_⟩, ?_⟩
        ·have e22 := ch_new (i := 4) (t := 22) h (hw 4 (by decide)) rfl rfl; have hw := HW.out; refine ch_pure ?_; go_simp
        refine ⟨.inl ⟨rfl, fun done a wq hw h => ?_⟩, ?_⟩
        ·have e21 := ch_new (i := 3) (t := 21) h (hw 3 (by decide)) rfl rfl; have e23 := ch_new (i := 5) (t := 23) h (hw 5 (by decide)) rfl rfl; have h1 := HI1.out; have h2 := HI2.out; have h3 := HI3.out; have h4 := HI4.out; refine ch_pure ?_; go_simp
        refine ⟨.inl ⟨rfl, fun done a wq hw h => ?_⟩, ?_⟩
        ·have e24 := ch_new (i := 6) (t := 24) h (hw 6 (by decide)) rfl rfl; obtain ⟨c0, c1, c2, c3, c4⟩ := HQ.out wq (HD.out wq h.bel); refine ch_pure ?_; go_simp
        refine ⟨.inl ⟨rfl, fun done a wq hw h => ?_⟩, ?_⟩
        ·have e4 := ch_old (t := 4) (v := .pointer (some ⟨wr.heap.size, 0, none⟩)) h rfl rfl; obtain ⟨r_, f_, n_, c_, z_, l_⟩ := keep1 h.bel R4 (by go_simp) F4; refine ch_pure ?_; go_simp
        refine ⟨.inl ⟨rfl, fun done a wq hw h => ?_⟩, ?_⟩
        ·have e25 := ch_new (i := 7) (t := 25) h (hw 7 (by decide)) rfl rfl; have e26 := ch_new (i := 8) (t := 26) h (hw 8 (by decide)) rfl rfl; exact ch_call (vals := #[.agg (chkA q.from_ q.to_ q.n q.of_ D q.data.length dq), .agg (chkA x.from_ x.to_ x.n x.of_ B x.data.length cx)]) (by go_simp) (by go_simp) (by have := kinY_calls D B dq cx q x wq; rwa [HKN.out] at this)
        refine ⟨.inl ⟨rfl, fun done a wq hw h => ?_⟩, ?_⟩
        ·have e27 := ch_new (i := 9) (t := 27) h (hw 9 (by decide)) rfl rfl; refine ch_pure ?_; go_simp
        refine ⟨.inl ⟨rfl, fun done a wq hw h => ?_⟩, ?_⟩
        ·have e28 := ch_new (i := 10) (t := 28) h (hw 10 (by decide)) rfl rfl; exact ch_move (ch_ev e28)
        refine ⟨.inl ⟨rfl, fun done a wq hw h => ?_⟩, ?_⟩
        ·have e0 := ch_old (t := 0) (v := .slice (some ⟨b, o, none⟩) l.length c) h rfl rfl; exact ch_move (ch_ev e0)
        refine ⟨.inl ⟨rfl, fun done a wq hw h => ?_⟩, ?_⟩
        ·have e3 := ch_old (t := 3) (v := .int .i64 (k : Int)) h rfl rfl; exact ch_move (ch_ev e3)
        refine ⟨.inl ⟨rfl, fun done a wq hw h => ?_⟩, ?_⟩
        ·have e31 := ch_new (i := 13) (t := 31) h (hw 13 (by decide)) rfl rfl; have hw := HW.out; refine ch_pure ?_; go_simp
        refine ⟨.inl ⟨rfl, fun done a wq hw h => ?_⟩, ?_⟩
        ·have e30 := ch_new (i := 12) (t := 30) h (hw 12 (by decide)) rfl rfl; have e32 := ch_new (i := 14) (t := 32) h (hw 14 (by decide)) rfl rfl; have h1 := HI1.out; have h2 := HI2.out; have h3 := HI3.out; have h4 := HI4.out; refine ch_pure ?_; go_simp
        refine ⟨.inl ⟨rfl, fun done a wq hw h => ?_⟩, ?_⟩
        ·have e33 := ch_new (i := 15) (t := 33) h (hw 15 (by decide)) rfl rfl; refine ch_pure ?_; go_simp
        refine ⟨.inl ⟨rfl, fun done a wq hw h => ?_⟩, ?_⟩
        ·have e34 := ch_new (i := 16) (t := 34) h (hw 16 (by decide)) rfl rfl; obtain ⟨c0, c1, c2, c3, c4⟩ := HQ.out wq (HD.out wq h.bel); refine ch_pure ?_; go_simp
        refine ⟨.inl ⟨rfl, fun done a wq hw h => ?_⟩, ?_⟩
        ·have e4 := ch_old (t := 4) (v := .pointer (some ⟨wr.heap.size, 0, none⟩)) h rfl rfl; refine ch_pure ?_; go_simp
        refine ⟨.inl ⟨rfl, fun done a wq hw h => ?_⟩, ?_⟩
        ·have e36 := ch_new (i := 18) (t := 36) h (hw 18 (by decide)) rfl rfl; obtain ⟨r_, f_, n_, c_, z_, l_⟩ := keep1 h.bel R4 (by go_simp) F4; refine ch_pure ?_; go_simp
        refine ⟨.inl ⟨rfl, fun done a wq hw h => ?_⟩, ?_⟩
        ·have e35 := ch_new (i := 17) (t := 35) h (hw 17 (by decide)) rfl rfl; have e37 := ch_new (i := 19) (t := 37) h (hw 19 (by decide)) rfl rfl; have hg := HGE.out; refine ch_pure ?_; go_simp
        refine ⟨.inl ⟨rfl, fun done a wq hw h => ?_⟩, ?_⟩
        ·have e29 := ch_new (i := 11) (t := 29) h (hw 11 (by decide)) rfl rfl; have e38 := ch_new (i := 20) (t := 38) h (hw 20 (by decide)) rfl rfl; exact ch_pick_f e29 (ch_ev e38)
        refine ⟨.inl ⟨rfl, fun done a wq hw h => ?_⟩, ?_⟩
        ·have e20 := ch_new (i := 2) (t := 20) h (hw 2 (by decide)) rfl rfl; have e39 := ch_new (i := 21) (t := 39) h (hw 21 (by decide)) rfl rfl; exact ch_pick_t e20 (ch_ev e39)
        exact trivial
       ·intro w2 hb2
        simp only [putAll_some, putAll_none, putAll_nil, List.setIfInBounds_toArray, List.set_cons_zero, List.set_cons_succ]
        have HB2 : Hid (Below w.heap.size w w2) := Lib.hid (HB1.out.trans (hb2.mono HB1.out.size))
        clear hb2 R4 F4 a0r a0f a0n a0c a0z a0l
        go_wp2_with fail
        first
         |
          revert T10; intro T10
          go_ret
          exact ⟨ret_int HZ.out.symm, HB2.out⟩
         |
          go_roundw
          case rel => exact ⟨k + 1, by omega, by go_num, Lib.hid (by rw [HLAST.out]; exact HZ.out), HB2⟩
          case measure => simp [intOf]; omega
    ·have HKN : Hid (decide (kin q x) = false) := Lib.hid (decide_eq_false hkn)
     have hz : r = 3 := by rw [← HE.out, listGo_form HCK.out (by rw [HF.out]; exact fun h => hkn h.1)]
     have HZ := Lib.hid hz
     clear hz hkn
     refine wp_region_chain (by kernel_rfl) (some 18 :: some 19 :: some 20 :: some 21 :: some 22 :: some 23 :: some 24 :: some 25 :: some 26 :: some 27 :: some 28 :: some 29 :: some 30 :: some 31 :: some 32 :: some 33 :: some 34 :: some 35 :: some 36 :: some 37 :: some 38 :: some 39 :: some 40 :: []) (.int .i64 (k : Int) :: .bool true :: .bool true :: .slice (some ⟨b, o, none⟩) l.length c :: .int .i64 (k : Int) :: .int .i64 ((k : Int) - 1) :: .pointer (some ⟨b, o + (k - 1) * 5, none⟩) :: .agg (chkA q.from_ q.to_ q.n q.of_ D q.data.length dq) :: .agg (chkA x.from_ x.to_ x.n x.of_ B x.data.length cx) :: .bool false :: .bool true :: .bool true :: undef :: undef :: undef :: undef :: undef :: undef :: undef :: undef :: undef :: .bool true :: .bool true :: []) 42 rfl rfl (by decide +kernel) (by decide +kernel) (by decide +kernel) rfl ?_ ?_
     ·refine ⟨.inl ⟨rfl, fun done a wq hw h => ?_⟩, ?_⟩
      ·have e3 := ch_old (t := 3) (v := .int .i64 (k : Int)) h rfl rfl; exact ch_move (ch_ev e3)
      refine ⟨.inl ⟨rfl, fun done a wq hw h => ?_⟩, ?_⟩
      ·have e18 := ch_new (i := 0) (t := 18) h (hw 0 (by decide)) rfl rfl; have hp := HKP.out; refine ch_pure ?_; go_simp
      refine ⟨.inl ⟨rfl, fun done a wq hw h => ?_⟩, ?_⟩
      ·have e19 := ch_new (i := 1) (t := 19) h (hw 1 (by decide)) rfl rfl; exact ch_move (ch_ev e19)
      refine ⟨.inl ⟨rfl, fun done a wq hw h => ?_⟩, ?_⟩
      ·have e0 := ch_old (t := 0) (v := .slice (some ⟨b, o, none⟩) l.length c) h rfl rfl; exact ch_move (ch_ev e0)
      refine ⟨.inl ⟨rfl, fun done a wq hw h => ?_⟩, ?_⟩
      ·have e3 := ch_old (t := 3) (v := .int .i64 (k : Int)) h rfl rfl; exact ch_move (ch_ev e3)
      refine ⟨.inl ⟨rfl, fun done a wq hw h => ?_⟩, ?_⟩
      ·have e22 := ch_new (i := 4) (t := 22) h (hw 4 (by decide)) rfl rfl; have hw := HW.out; refine ch_pure ?_; go_simp
      refine ⟨.inl ⟨rfl, fun done a wq hw h => ?_⟩, ?_⟩
      ·have e21 := ch_new (i := 3) (t := 21) h (hw 3 (by decide)) rfl rfl; have e23 := ch_new (i := 5) (t := 23) h (hw 5 (by decide)) rfl rfl; have h1 := HI1.out; have h2 := HI2.out; have h3 := HI3.out; have h4 := HI4.out; refine ch_pure ?_; go_simp
      refine ⟨.inl ⟨rfl, fun done a wq hw h => ?_⟩, ?_⟩
      ·have e24 := ch_new (i := 6) (t := 24) h (hw 6 (by decide)) rfl rfl; obtain ⟨c0, c1, c2, c3, c4⟩ := HQ.out wq (HD.out wq h.bel); refine ch_pure ?_; go_simp
      refine ⟨.inl ⟨rfl, fun done a wq hw h => ?_⟩, ?_⟩
      ·have e4 := ch_old (t := 4) (v := .pointer (some ⟨wr.heap.size, 0, none⟩)) h rfl rfl; obtain ⟨r_, f_, n_, c_, z_, l_⟩ := keep1 h.bel R4 (by go_simp) F4; refine ch_pure ?_; go_simp
      refine ⟨.inl ⟨rfl, fun done a wq hw h => ?_⟩, ?_⟩
      ·have e25 := ch_new (i := 7) (t := 25) h (hw 7 (by decide)) rfl rfl; have e26 := ch_new (i := 8) (t := 26) h (hw 8 (by decide)) rfl rfl; exact ch_call (vals := #[.agg (chkA q.from_ q.to_ q.n q.of_ D q.data.length dq), .agg (chkA x.from_ x.to_ x.n x.of_ B x.data.length cx)]) (by go_simp) (by go_simp) (by have := kinY_calls D B dq cx q x wq; rwa [HKN.out] at this)
      refine ⟨.inl ⟨rfl, fun done a wq hw h => ?_⟩, ?_⟩
      ·have e27 := ch_new (i := 9) (t := 27) h (hw 9 (by decide)) rfl rfl; refine ch_pure ?_; go_simp
      refine ⟨.inl ⟨rfl, fun done a wq hw h => ?_⟩, ?_⟩
      ·have e28 := ch_new (i := 10) (t := 28) h (hw 10 (by decide)) rfl rfl; exact ch_move (ch_ev e28)
      iterate 9 refine ⟨.inr ⟨rfl, rfl⟩, ?_⟩
      refine ⟨.inl ⟨rfl, fun done a wq hw h => ?_⟩, ?_⟩
      ·have e29 := ch_new (i := 11) (t := 29) h (hw 11 (by decide)) rfl rfl; exact ch_pick_t e29 rfl
      refine ⟨.inl ⟨rfl, fun done a wq hw h => ?_⟩, ?_⟩
      ·have e20 := ch_new (i := 2) (t := 20) h (hw 2 (by decide)) rfl rfl; have e39 := ch_new (i := 21) (t := 39) h (hw 21 (by decide)) rfl rfl; exact ch_pick_t e20 (ch_ev e39)
      exact trivial
     ·intro w2 hb2
      simp only [putAll_some, putAll_none, putAll_nil, List.setIfInBounds_toArray, List.set_cons_zero, List.set_cons_succ]
      have HB2 : Hid (Below w.heap.size w w2) := Lib.hid (HB1.out.trans (hb2.mono HB1.out.size))
      clear hb2 R4 F4 a0r a0f a0n a0c a0z a0l
      go_wp2_with fail
      go_ret
      exact ⟨ret_int HZ.out.symm, HB2.out⟩
  ·obtain rfl : k = l.length := by omega
   have dl : decide ((l.length : Int) < (l.length : Int)) = false := by simp
   have hz : r = 0 := by rw [← HE.out, List.drop_length]; unfold listGo; rfl
   have HZ := Lib.hid hz
   clear hz
   go_wp2_with fail
   go_ret
   exact ⟨ret_int HZ.out.symm, HB.out⟩
theorem devCheck_is_len (h : d.s0.length ≠ 64 ∨ d.s1.length ≠ 64) : devCheck d = 3 := by unfold devCheck; rw [if_pos h]
theorem devCheck_is_cop (h0 : d.s0.length = 64) (h1 : d.s1.length = 64) (hc : copCheck d.c0 d.c1 ≠ 0) : devCheck d = copCheck d.c0 d.c1 := by unfold devCheck; rw [if_neg (by omega), if_pos hc]
theorem devCheck_is_off (h0 : d.s0.length = 64) (h1 : d.s1.length = 64) (hc : copCheck d.c0 d.c1 = 0) (hu : d.up = false) : devCheck d = if d.running ≠ 0 ∨ d.got ≠ [] ∨ d.busy = true ∨ d.done ≠ 0 ∨ d.job ≠ Pat.zero then 3 else 0 := by unfold devCheck; rw [if_neg (by omega), if_neg (by omega), if_pos hu]
theorem devCheck_is_up (h0 : d.s0.length = 64) (h1 : d.s1.length = 64) (hc : copCheck d.c0 d.c1 = 0) (hu : d.up = true) : devCheck d = devUpCheck d (recRead d.c0 d.c1).1 := by unfold devCheck; rw [if_neg (by omega), if_neg (by omega), if_neg (by rw [hu]; simp)]; rfl
theorem patSameZ_calls (p : Pat) (B : Option Addr) (c : Nat) (w : World) (hp : PatIn w p B c) : Calls Try.prog 31 #[.agg (patA p.from_ p.to_ p.old p.new_ p.size B p.ops.length c), .agg (patA 0 0 0 0 0 none 0 0)] w (RetB w (.bool (decide (p = Pat.zero)))) :=
 patSameA_calls B none c 0 p.from_ p.to_ p.old p.new_ p.size 0 0 0 0 0 p.ops [] w hp.len (by simp) hp.ops (Sps.nil _ _)
theorem devCheck_len (d : Dev) (L : DLoc) (w : World) (h : d.s0.length ≠ 64 ∨ d.s1.length ≠ 64) : Calls Try.prog 52 #[.agg (devA d L)] w (RetB w (iv 3)) := by
 have i0 : ∀ w, (Instr.index 61 (.agg (slotsA L.a0 d.s0.length L.c0 L.a1 d.s1.length L.c1)) (.int .i64 0)).run Try.prog w = .ok (.slice L.a0 d.s0.length L.c0) w := fun _ => by kernel_rfl
 have i1 : ∀ w, (Instr.index 61 (.agg (slotsA L.a0 d.s0.length L.c0 L.a1 d.s1.length L.c1)) (.int .i64 1)).run Try.prog w = .ok (.slice L.a1 d.s1.length L.c1) w := fun _ => by kernel_rfl
 have HBA := Lib.hid ((Below.refl w.heap.size w).alloc (Nat.le_refl _) (.cells (devA d L) 71))
 go_enter Try.func52, Try.ntmps52
 go_wp2_with fail
 go_loopw [12] (fun i wr => ∃ k : Nat, k ≤ 2 ∧ i = .int .i64 k ∧ (0 < k → d.s0.length = 64) ∧ k < 2 ∧ wr = w.alloc (.cells (devA d L) 71)) (fun i _ => (2 - intOf i).toNat)
 case atStart => exact ⟨0, by omega, rfl, by omega, by omega, rfl⟩
 case round =>
  obtain ⟨k, hk, rfl, hz, hlt, rfl⟩ := hrel
  have HZ := Lib.hid hz
  have HH := Lib.hid h
  clear hz h
  rcases (show k = 0 ∨ k = 1 by omega) with rfl | rfl
  ·by_cases e : d.s0.length = 64
   ·have q : ((d.s0.length : Int) != 64) = false := by simp; omega
    have HE := Lib.hid e
    clear e
    go_wp2_with fail
    go_roundw
    case rel => exact ⟨1, by omega, rfl, fun _ => HE.out, by omega, by first | rfl | trivial⟩
    case measure => simp [intOf] <;> omega
   ·have q : ((d.s0.length : Int) != 64) = true := by simp; omega
    clear e
    go_wp2_with fail
    go_ret
    exact ⟨rfl, HBA.out⟩
  ·have q : ((d.s1.length : Int) != 64) = true := by have h1 := HZ.out (by omega); have h2 := HH.out; simp; omega
   go_wp2_with fail
   go_ret
   exact ⟨rfl, HBA.out⟩
theorem devCheck_cop (d : Dev) (L : DLoc) (w : World) (h0 : d.s0.length = 64) (h1 : d.s1.length = 64) (hc : copCheck d.c0 d.c1 ≠ 0) : Calls Try.prog 52 #[.agg (devA d L)] w (RetB w (iv (copCheck d.c0 d.c1))) := by
 have l0 : ((d.s0.length : Int) != 64) = false := by simp; omega
 have l1 : ((d.s1.length : Int) != 64) = false := by simp; omega
 have i0 : ∀ w, (Instr.index 61 (.agg (slotsA L.a0 d.s0.length L.c0 L.a1 d.s1.length L.c1)) (.int .i64 0)).run Try.prog w = .ok (.slice L.a0 d.s0.length L.c0) w := fun _ => by kernel_rfl
 have i1 : ∀ w, (Instr.index 61 (.agg (slotsA L.a0 d.s0.length L.c0 L.a1 d.s1.length L.c1)) (.int .i64 1)).run Try.prog w = .ok (.slice L.a1 d.s1.length L.c1) w := fun _ => by kernel_rfl
 have HBA := Lib.hid ((Below.refl w.heap.size w).alloc (Nat.le_refl _) (.cells (devA d L) 71))
 have KR := Lib.hid (fun w => read_bad d.c0 d.c1 w hc)
 have q : (copCheck d.c0 d.c1 != 0) = true := by simp [hc]
 generalize copCheck d.c0 d.c1 = n at *
 clear h0 h1 hc
 go_enter Try.func52, Try.ntmps52
 go_wp2_with fail
 go_loopw [12] (fun i wr => ∃ k : Nat, k ≤ 2 ∧ i = .int .i64 k ∧ wr = w.alloc (.cells (devA d L) 71)) (fun i _ => (2 - intOf i).toNat)
 case atStart => exact ⟨0, by omega, rfl, rfl⟩
 case round =>
  obtain ⟨k, hk, rfl, rfl⟩ := hrel
  by_cases hlt : k < 2
  ·rcases (show k = 0 ∨ k = 1 by omega) with rfl | rfl
   ·go_wp2_with fail
    go_roundw
    case rel => exact ⟨1, by omega, rfl, by first | rfl | trivial⟩
    case measure => simp [intOf] <;> omega
   ·go_wp2_with fail
    go_roundw
    case rel => exact ⟨2, by omega, rfl, by first | rfl | trivial⟩
    case measure => simp [intOf] <;> omega
  ·obtain rfl : k = 2 := by omega
   clear hk hlt i0 i1 l0 l1
   go_wp2_with fail
   refine (KR.out _).mono ?_
   rintro e w1 ⟨rfl, hb1⟩
   obtain ⟨a0r, a0f, a0n, a0c, a0z, a0l⟩ := keep1 (g := w.heap.size) (cs := devA d L) hb1 (by first | (go_simp; done) | (go_simp; rfl)) (by go_simp) (by go_simp)
   have HB1 := Lib.hid (HBA.out.trans (hb1.mono (by simp)))
   clear hb1
   go_wp2_with fail
   go_ret
   have hs := HB1.out.size
   refine ⟨rfl, ?_⟩
   repeat (first | exact HB1.out | refine below_row ?_ (by omega) _ | refine Below.setCell ?_ (by simp <;> omega) _ | refine Below.alloc ?_ (by first | omega | (simp <;> omega)) _)
theorem devCheck_off (d : Dev) (L : DLoc) (w : World) (h : DevIn w d L) (h0 : d.s0.length = 64) (h1 : d.s1.length = 64) (hc : copCheck d.c0 d.c1 = 0) (hu : d.up = false) : Calls Try.prog 52 #[.agg (devA d L)] w (RetB w (iv (devCheck d))) := by
 have E := Lib.hid (devCheck_is_off h0 h1 hc hu)
 obtain ⟨n, hn⟩ : ∃ n, devCheck d = n := ⟨_, rfl⟩
 rw [hn] at E
 rw [hn]
 have HJ := Lib.hid h.job
 clear hn h
 have l0 : ((d.s0.length : Int) != 64) = false := by simp; omega
 have l1 : ((d.s1.length : Int) != 64) = false := by simp; omega
 have i0 : ∀ w, (Instr.index 61 (.agg (slotsA L.a0 d.s0.length L.c0 L.a1 d.s1.length L.c1)) (.int .i64 0)).run Try.prog w = .ok (.slice L.a0 d.s0.length L.c0) w := fun _ => by kernel_rfl
 have i1 : ∀ w, (Instr.index 61 (.agg (slotsA L.a0 d.s0.length L.c0 L.a1 d.s1.length L.c1)) (.int .i64 1)).run Try.prog w = .ok (.slice L.a1 d.s1.length L.c1) w := fun _ => by kernel_rfl
 have HBA := Lib.hid ((Below.refl w.heap.size w).alloc (Nat.le_refl _) (.cells (devA d L) 71))
 have KR := Lib.hid (fun w => read_ok d.c0 d.c1 w hc)
 obtain ⟨r, hr⟩ : ∃ r, (recRead d.c0 d.c1).1 = r := ⟨_, rfl⟩
 obtain ⟨rk, hrk⟩ : ∃ rk, (recRead d.c0 d.c1).2 = rk := ⟨_, rfl⟩
 rw [hr, hrk] at KR
 clear hr
 clear h0 h1 hc hrk
 go_enter Try.func52, Try.ntmps52
 go_wp2_with fail
 go_loopw [12] (fun i wr => ∃ k : Nat, k ≤ 2 ∧ i = .int .i64 k ∧ wr = w.alloc (.cells (devA d L) 71)) (fun i _ => (2 - intOf i).toNat)
 case atStart => exact ⟨0, by omega, rfl, rfl⟩
 case round =>
  obtain ⟨k, hk, rfl, rfl⟩ := hrel
  by_cases hlt : k < 2
  ·rcases (show k = 0 ∨ k = 1 by omega) with rfl | rfl
   ·go_wp2_with fail
    go_roundw
    case rel => exact ⟨1, by omega, rfl, by first | rfl | trivial⟩
    case measure => simp [intOf] <;> omega
   ·go_wp2_with fail
    go_roundw
    case rel => exact ⟨2, by omega, rfl, by first | rfl | trivial⟩
    case measure => simp [intOf] <;> omega
  ·obtain rfl : k = 2 := by omega
   clear hk hlt i0 i1 l0 l1
   go_wp2_with fail
   refine (KR.out _).mono ?_
   rintro e w1 ⟨rfl, hb1⟩
   obtain ⟨a0r, a0f, a0n, a0c, a0z, a0l⟩ := keep1 (g := w.heap.size) (cs := devA d L) hb1 (by first | (go_simp; done) | (go_simp; rfl)) (by go_simp) (by go_simp)
   have HB1 := Lib.hid (HBA.out.trans (hb1.mono (by simp)))
   clear hb1
   by_cases c1 : d.running ≠ 0
   ·have hz : Hid (n = 3) := Lib.hid (E.out.trans (if_pos (.inl c1)))
    have q : (d.running != 0) = true := by simp [c1]
    clear c1
    go_wp2_with fail
    go_ret
    have hs := HB1.out.size
    refine ⟨ret_int hz.out.symm, ?_⟩
    repeat (first | exact HB1.out | refine below_row ?_ (by omega) _ | refine Below.setCell ?_ (by simp <;> omega) _ | refine Below.alloc ?_ (by first | omega | (simp <;> omega)) _)
   have q1 : (d.running != 0) = false := by simpa using c1
   by_cases c2 : d.got ≠ []
   ·have hz : Hid (n = 3) := Lib.hid (E.out.trans (if_pos (.inr (.inl c2))))
    have q : decide ((0 : Int) < (d.got.length : Int)) = true := decide_eq_true (by have := List.length_pos_iff.2 c2; omega)
    have q' : 0 < d.got.length := List.length_pos_iff.2 c2
    clear c1 c2
    go_wp2_with fail
    go_ret
    have hs := HB1.out.size
    refine ⟨ret_int hz.out.symm, ?_⟩
    repeat (first | exact HB1.out | refine below_row ?_ (by omega) _ | refine Below.setCell ?_ (by simp <;> omega) _ | refine Below.alloc ?_ (by first | omega | (simp <;> omega)) _)
   have q2 : ¬ 0 < d.got.length := by rw [List.length_pos_iff]; exact c2
   cases hbz : d.busy
   case true =>
    have hz : Hid (n = 3) := Lib.hid (E.out.trans (if_pos (.inr (.inr (.inl hbz)))))
    clear c1 c2
    go_wp2_with fail
    go_ret
    have hs := HB1.out.size
    refine ⟨ret_int hz.out.symm, ?_⟩
    repeat (first | exact HB1.out | refine below_row ?_ (by omega) _ | refine Below.setCell ?_ (by simp <;> omega) _ | refine Below.alloc ?_ (by first | omega | (simp <;> omega)) _)
   by_cases c4 : d.done ≠ 0
   ·have hz : Hid (n = 3) := Lib.hid (E.out.trans (if_pos (.inr (.inr (.inr (.inl c4))))))
    have q : (d.done != 0) = true := by simp [c4]
    clear c1 c2 c4
    go_wp2_with fail
    go_ret
    have hs := HB1.out.size
    refine ⟨ret_int hz.out.symm, ?_⟩
    repeat (first | exact HB1.out | refine below_row ?_ (by omega) _ | refine Below.setCell ?_ (by simp <;> omega) _ | refine Below.alloc ?_ (by first | omega | (simp <;> omega)) _)
   have q4 : (d.done != 0) = false := by simpa using c4
   have E2 : Hid (n = if d.job ≠ Pat.zero then 3 else 0) := Lib.hid (by
    rw [E.out]
    by_cases c5 : d.job ≠ Pat.zero
    ·rw [if_pos (.inr (.inr (.inr (.inr c5)))), if_pos c5]
    ·rw [if_neg (fun a => ?_), if_neg c5]
     rcases a with a | a | a | a | a
     ·exact c1 a
     ·exact c2 a
     ·rw [hbz] at a; cases a
     ·exact c4 a
     ·exact c5 a)
   clear c1 c2 c4
   go_wp2_with fail
   have hbx := (HB1.out.alloc HB1.out.size (.cells (recA r) 66))
   refine (patSameZ_calls d.job L.aj L.cj _ (HJ.out.stays hbx)).mono ?_
   rintro e w2 ⟨rfl, hb2⟩
   have HB2 := Lib.hid (hbx.trans (hb2.mono (by simp; have := HB1.out.size; omega)))
   clear hb2 hbx
   by_cases c5 : d.job = Pat.zero
   ·have hz : Hid (n = 0) := Lib.hid (E2.out.trans (if_neg (by simpa using c5)))
    have q5 : decide (d.job = Pat.zero) = true := decide_eq_true c5
    clear c5
    go_wp2_with fail
    go_ret
    have hs := HB2.out.size
    refine ⟨ret_int hz.out.symm, ?_⟩
    repeat (first | exact HB2.out | refine below_row ?_ (by omega) _ | refine Below.setCell ?_ (by simp <;> omega) _ | refine Below.alloc ?_ (by first | omega | (simp <;> omega)) _)
   ·have hz : Hid (n = 3) := Lib.hid (E2.out.trans (if_pos c5))
    have q5 : decide (d.job = Pat.zero) = false := decide_eq_false c5
    clear c5
    go_wp2_with fail
    go_ret
    have hs := HB2.out.size
    refine ⟨ret_int hz.out.symm, ?_⟩
    repeat (first | exact HB2.out | refine below_row ?_ (by omega) _ | refine Below.setCell ?_ (by simp <;> omega) _ | refine Below.alloc ?_ (by first | omega | (simp <;> omega)) _)
end Go.Proofs.Ytefkfglkpebbmac
