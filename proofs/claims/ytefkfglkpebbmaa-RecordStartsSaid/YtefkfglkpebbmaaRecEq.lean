/- Two records are held against each other; a record against the zero one; copies too. -/
import Derived.Test.YtefkfglkpebbmaaRecRows
import Derived.ChangeKeysEq
namespace Go.Proofs.Ytefkfglkpebbmaa
open Go.RowKit
set_option linter.unusedVariables false
set_option maxRecDepth 100000 in
theorem eqIn_inf (d : Nat) (x y z x' y' z' : Int) (w : World) : (Op.equalIn (d + 2) 41 (.agg #[iv x, iv y, iv z]) (.agg #[iv x', iv y', iv z'])).run Try.prog w = .ok (decide (x = x' ∧ y = y' ∧ z = z')) w := by
  go_simp
  split
  · split
    · split <;> simp_all
    · simp_all
  · simp_all
theorem cellsOfInf : Try.prog.cellsOf 41 = 3 := by kernel_rfl
theorem cellsOfCop : Try.prog.cellsOf 46 = 12 := by kernel_rfl
theorem run_eqItems2 {P : Program} {d n : Nat} {e : TypeId} {xs ys : Array Value} {w : World} {a b a' b' : Value} {r r' : Bool}
    (p1 : (part e xs 0).run P w = .ok a w) (p2 : (part e ys 0).run P w = .ok a' w) (p3 : (part e xs n).run P w = .ok b w) (p4 : (part e ys n).run P w = .ok b' w)
    (h1 : (Op.equalIn d e a a').run P w = .ok r w) (h2 : (Op.equalIn d e b b').run P w = .ok r' w) : (Op.eqItems d e n xs ys (List.range 2)).run P w = .ok (r && r') w := by
  rw [show List.range 2 = [0, 1] from rfl]
  simp only [Op.eqItems, Sem.run_bind, Nat.zero_mul, Nat.one_mul, p1, p2, Result.andThen_ok, h1]
  cases r
  · simp
  · simp only [Bool.not_true, Bool.false_eq_true, if_false, Sem.run_bind, p3, p4, h2, Result.andThen_ok, Bool.true_and]
    cases r' <;> simp
theorem eqIn_infs (d : Nat) (x y z x' y' z' u v t u' v' t' : Int) (w : World) : (Op.equalIn (d + 3) 42 (.agg #[iv x, iv y, iv z, iv u, iv v, iv t]) (.agg #[iv x', iv y', iv z', iv u', iv v', iv t'])).run Try.prog w =
    .ok (decide (x = x' ∧ y = y' ∧ z = z') && decide (u = u' ∧ v = v' ∧ t = t')) w := by
  obtain ⟨i, hi, hz, hs, hb⟩ := info_parts (P := Try.prog) (e := 41) (z := .agg #[.int .i64 0, .int .i64 0, .int .i64 0]) (size := 3) (bytes := 24) (by kernel_rfl)
  rw [run_equalIn_array (P := Try.prog) (w := w) (d + 2) _ _ Try.underlying42 hi, cellsOfInf]
  exact run_eqItems2 (by kernel_rfl) (by kernel_rfl) (by kernel_rfl) (by kernel_rfl) (eqIn_inf d x y z x' y' z' w) (eqIn_inf d u v t u' v' t' w)
theorem rec_dec (r s : Rec) : decide (r = s) = (decide (r.gen = s.gen) && (decide (r.active = s.active) && (decide (r.trying = s.trying) && (decide (r.tries = s.tries) && (decide (r.floor = s.floor) && (decide (r.a.ver = s.a.ver ∧ r.a.size = s.a.size ∧ r.a.sum = s.a.sum) && decide (r.b.ver = s.b.ver ∧ r.b.size = s.b.size ∧ r.b.sum = s.b.sum))))))) := by
  obtain ⟨g, a, t, n, f, ⟨x, y, z⟩, ⟨u, v, w⟩⟩ := r
  obtain ⟨g', a', t', n', f', ⟨x', y', z'⟩, ⟨u', v', w'⟩⟩ := s
  rw [Bool.eq_iff_iff]
  simp
set_option maxRecDepth 100000 in
theorem eqIn_rec (d : Nat) (r s : Rec) (w : World) : (Op.equalIn (d + 4) 44 (.agg (recA r)) (.agg (recA s))).run Try.prog w = .ok (decide (r = s)) w := by
  have e := fun w => eqIn_infs d r.a.ver r.a.size r.a.sum s.a.ver s.a.size s.a.sum r.b.ver r.b.size r.b.sum s.b.ver s.b.size s.b.sum w
  rw [rec_dec]
  generalize decide (r.a.ver = s.a.ver ∧ r.a.size = s.a.size ∧ r.a.sum = s.a.sum) = B1 at e ⊢
  generalize decide (r.b.ver = s.b.ver ∧ r.b.size = s.b.size ∧ r.b.sum = s.b.sum) = B2 at e ⊢
  unfold recA
  go_simp
  by_cases h1 : r.gen = s.gen
  · by_cases h2 : r.active = s.active
    · by_cases h3 : r.trying = s.trying
      · by_cases h4 : r.tries = s.tries
        · by_cases h5 : r.floor = s.floor
          · cases B1 <;> cases B2 <;> simp [h1, h2, h3, h4, h5]
          · simp [h1, h2, h3, h4, h5]
        · simp [h1, h2, h3, h4]
      · simp [h1, h2, h3]
    · simp [h1, h2]
  · simp [h1]

theorem guard_rec : Try.prog.eqGuardType Try.prog.depth 44 = false := by kernel_rfl
theorem eql_rec (r s : Rec) (w : World) : (binOp .eql 44 (.agg (recA r)) (.agg (recA s))).run Try.prog w = .ok (.bool (decide (r = s))) w := by
  rw [run_eql_struct, eqIn_rec 9996]; rfl
theorem neq_rec (r s : Rec) (w : World) : (binOp .neq 44 (.agg (recA r)) (.agg (recA s))).run Try.prog w = .ok (.bool (!decide (r = s))) w := by
  rw [run_neq_struct, eqIn_rec 9996]; rfl
/-- Against the zero record, as the text writes it. -/
theorem neq_rec0 (r : Rec) (w : World) : (binOp .neq 44 (.agg (recA r)) (.agg #[.int .i64 0, .int .i64 0, .bool false, .int .i64 0, .int .i64 0, .int .i64 0, .int .i64 0, .int .i64 0, .int .i64 0, .int .i64 0, .int .i64 0])).run Try.prog w = .ok (.bool (!decide (r = Rec.zero))) w := neq_rec r Rec.zero w
theorem eql_rec0 (r : Rec) (w : World) : (binOp .eql 44 (.agg (recA r)) (.agg #[.int .i64 0, .int .i64 0, .bool false, .int .i64 0, .int .i64 0, .int .i64 0, .int .i64 0, .int .i64 0, .int .i64 0, .int .i64 0, .int .i64 0])).run Try.prog w = .ok (.bool (decide (r = Rec.zero))) w := eql_rec r Rec.zero w
theorem cop_dec (c d : Cop) : decide (c = d) = (decide (c.ok = d.ok) && decide (c.r = d.r)) := by
  obtain ⟨o, r⟩ := c
  obtain ⟨o', r'⟩ := d
  rw [Bool.eq_iff_iff]
  simp
set_option maxRecDepth 100000 in
theorem eqIn_cop (d : Nat) (a b : Cop) (w : World) : (Op.equalIn (d + 5) 46 (.agg (copA a)) (.agg (copA b))).run Try.prog w = .ok (decide (a = b)) w := by
  have e : ∀ w, (Op.equalIn (d + 4) 44 (.agg #[iv a.r.gen, iv a.r.active, .bool a.r.trying, iv a.r.tries, iv a.r.floor, iv a.r.a.ver, iv a.r.a.size, iv a.r.a.sum, iv a.r.b.ver, iv a.r.b.size, iv a.r.b.sum])
    (.agg #[iv b.r.gen, iv b.r.active, .bool b.r.trying, iv b.r.tries, iv b.r.floor, iv b.r.a.ver, iv b.r.a.size, iv b.r.a.sum, iv b.r.b.ver, iv b.r.b.size, iv b.r.b.sum])).run Try.prog w = .ok (decide (a.r = b.r)) w := fun w => eqIn_rec d a.r b.r w
  rw [cop_dec]
  generalize decide (a.r = b.r) = B1 at e ⊢
  unfold copA
  go_simp
  by_cases h1 : a.ok = b.ok <;> cases B1 <;> simp [h1]
theorem eql_cop (r s : Cop) (w : World) : (binOp .eql 46 (.agg (copA r)) (.agg (copA s))).run Try.prog w = .ok (.bool (decide (r = s))) w := by
  rw [run_eql_struct, eqIn_cop 9995]; rfl
theorem eqIn_cops (d : Nat) (a b x y : Cop) (w : World) : (Op.equalIn (d + 6) 47 (.agg (copsA a b)) (.agg (copsA x y))).run Try.prog w = .ok (decide (a = x) && decide (b = y)) w := by
  obtain ⟨i, hi, hz, hs, hb⟩ := info_parts (P := Try.prog) (e := 46) (z := .agg (copA Cop.zero)) (size := 12) (bytes := 96) (by kernel_rfl)
  rw [run_equalIn_array (P := Try.prog) (w := w) (d + 5) _ _ Try.underlying47 hi, cellsOfCop]
  exact run_eqItems2 (by kernel_rfl) (by kernel_rfl) (by kernel_rfl) (by kernel_rfl) (eqIn_cop d a x w) (eqIn_cop d b y w)
theorem eql_cops (a b x y : Cop) (w : World) : (binOp .eql 47 (.agg (copsA a b)) (.agg (copsA x y))).run Try.prog w = .ok (.bool (decide (a = x) && decide (b = y))) w := by
  rw [run_eql_struct, eqIn_cops 9994]; rfl
theorem neq_cops (a b x y : Cop) (w : World) : (binOp .neq 47 (.agg (copsA a b)) (.agg (copsA x y))).run Try.prog w = .ok (.bool (!(decide (a = x) && decide (b = y)))) w := by
  rw [run_neq_struct, eqIn_cops 9994]; rfl
theorem guard_cop : Try.prog.eqGuardType Try.prog.depth 46 = false := by kernel_rfl
theorem guard_cops : Try.prog.eqGuardType Try.prog.depth 47 = false := by kernel_rfl
theorem big_cop : bigBuild Try.prog 46 2 := by
  obtain ⟨i, hi, _⟩ := info_parts (P := Try.prog) (e := 46) (z := .agg (copA Cop.zero)) (size := 12) (bytes := 96) (by kernel_rfl)
  exact ⟨i, hi, by omega⟩
theorem big_inf : bigBuild Try.prog 41 3 := by
  obtain ⟨i, hi, _⟩ := info_parts (P := Try.prog) (e := 41) (z := .agg (infA Inf.zero)) (size := 3) (bytes := 24) (by kernel_rfl)
  exact ⟨i, hi, by omega⟩
theorem build_cop (b : Bool) (r : Rec) (w : World) : runBuild Try.prog 46 #[(0, .bool b), (1, .agg (recA r))] w = .ok (.agg (copA ⟨b, r⟩)) w := by kernel_rfl
theorem build_inf (a b c : Int) (w : World) : runBuild Try.prog 41 #[(0, .int .i64 a), (1, .int .i64 b), (2, .int .i64 c)] w = .ok (.agg (infA ⟨a, b, c⟩)) w := by kernel_rfl
attribute [go_sem] build_cop build_inf big_cop big_inf
attribute [go_sem] guard_rec guard_cop guard_cops
attribute [go_sem ↓] eql_cops neq_cops eql_rec neq_rec neq_rec0 eql_rec0 eql_cop
end Go.Proofs.Ytefkfglkpebbmaa
