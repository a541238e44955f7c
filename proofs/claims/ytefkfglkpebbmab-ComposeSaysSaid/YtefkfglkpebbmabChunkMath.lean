/- Plain words on packed patches in chunks. No program here. -/
import Derived.Test.YtefkfglkpebbmabPatchMath
import Derived.Test.YtefkfglkpebbmabPackMath
namespace Go.Proofs.Ytefkfglkpebbmab
set_option linter.unusedVariables false

structure Chk where
  from_ : Int
  to_ : Int
  n : Int
  of_ : Int
  data : List UInt8
deriving DecidableEq
def Chk.zero : Chk := ⟨0, 0, 0, 0, []⟩
def Chk.range (c : Chk) : Prop := 1 ≤ c.from_ ∧ c.from_ ≤ 30 ∧ 1 ≤ c.to_ ∧ c.to_ ≤ 30 ∧ 1 ≤ c.of_ ∧ c.of_ ≤ 52 ∧ 0 ≤ c.n ∧ c.n < c.of_
instance (c : Chk) : Decidable c.range := by unfold Chk.range; infer_instance
def Chk.full (c : Chk) : Prop := c.data ≠ [] ∧ c.data.length ≤ 16 ∧ (c.n < c.of_ - 1 → c.data.length = 16)
instance (c : Chk) : Decidable c.full := by unfold Chk.full; infer_instance
def chkCheck (c : Chk) : Int := if ¬ c.range then 2 else if ¬ c.full then 3 else 0
theorem chkCheck_ok {c : Chk} : chkCheck c = 0 ↔ c.range ∧ c.full := by
  unfold chkCheck
  by_cases h : c.range
  · rw [if_neg (by simpa using h)]
    by_cases g : c.full
    · rw [if_neg (by simpa using g)]; simp [h, g]
    · rw [if_pos g]; simp [g]
  · rw [if_pos h]; simp [h]
/-- Of one patch. -/
def kin (a b : Chk) : Prop := a.from_ = b.from_ ∧ a.to_ = b.to_ ∧ a.of_ = b.of_
instance (a b : Chk) : Decidable (kin a b) := by unfold kin; infer_instance
theorem kin_trans {a b c : Chk} (h : kin a b) (g : kin b c) : kin a c := by unfold kin at *; omega
theorem kin_symm {a b : Chk} (h : kin a b) : kin b a := by unfold kin at *; omega
theorem kin_refl (a : Chk) : kin a a := ⟨rfl, rfl, rfl⟩
/-- Behind one. -/
def follows (p : Option Chk) (c : Chk) : Prop := ∀ q, p = some q → kin q c ∧ q.n < c.n
instance (p : Option Chk) (c : Chk) : Decidable (follows p c) := by
  cases p with
  | none => exact isTrue (fun q h => by cases h)
  | some q => exact decidable_of_iff (kin q c ∧ q.n < c.n) ⟨fun h r e => by injection e with e; subst e; exact h, fun h => h q rfl⟩
def listGo : Option Chk → List Chk → Int
  | _, [] => 0
  | p, c :: l => if chkCheck c ≠ 0 then chkCheck c else if ¬ follows p c then 3 else listGo (some c) l
def chkList (l : List Chk) : Int := listGo none l
/-- Right ones, by number. -/
def Lined : Option Chk → List Chk → Prop
  | _, [] => True
  | p, c :: l => chkCheck c = 0 ∧ follows p c ∧ Lined (some c) l
theorem listGo_ok : ∀ (p : Option Chk) (l : List Chk), listGo p l = 0 ↔ Lined p l
  | _, [] => by simp [listGo, Lined]
  | p, c :: l => by
    unfold listGo Lined
    by_cases h : chkCheck c = 0
    · rw [if_neg (by omega)]
      by_cases g : follows p c
      · rw [if_neg (by simpa using g), listGo_ok]; simp [h, g]
      · rw [if_pos g]; simp [g]
    · rw [if_pos h]; simp [h]
/-- The chunks of packed bytes. -/
def chunkAt (p : Pat) (b : List UInt8) (of_ k : Nat) : Chk := ⟨p.from_, p.to_, k, of_, (b.drop (k * 16)).take 16⟩
def chunksOf (p : Pat) (b : List UInt8) : List Chk := (List.range ((b.length + 15) / 16)).map (chunkAt p b ((b.length + 15) / 16))
def chkCut (p : Pat) : List Chk × Int :=
  if patCheck p ≠ 0 then ([], patCheck p)
  else if 52 < ((packed (patBytes p)).length + 15) / 16 then ([], 1)
  else (chunksOf p (packed (patBytes p)), 0)
theorem packed_patch_len {p : Pat} (h : patCheck p = 0) : (packed (patBytes p)).length ≤ 154 ∧ 1 ≤ (packed (patBytes p)).length := by
  have h1 := patBytes_len h
  have h2 := packed_len (patBytes p)
  refine ⟨by omega, ?_⟩
  have h3 := packed_packs (patBytes p)
  rcases hq : packed (patBytes p) with _ | ⟨x, r⟩
  · rw [hq] at h3
    have h4 := unpack_packs h3 152
    rw [if_pos (Or.inl (by omega))] at h4
    have h5 : unpacked [] 152 = ([], 0) := rfl
    rw [h5] at h4
    injection h4 with h4
    have h6 := congrArg List.length h4
    simp [patBytes, patHead] at h6
  · simp
/-- As many as there are at and ahead of a number. -/
def insAt (l : List Chk) (n : Int) : Nat := (l.takeWhile (fun c => decide (c.n < n))).length
def chkAdd (l : List Chk) (c : Chk) : List Chk × Int :=
  if chkList l ≠ 0 then ([], chkList l)
  else if chkCheck c ≠ 0 then ([], chkCheck c)
  else match l with
    | [] => ([c], 0)
    | x :: r =>
      if ¬ kin x c then ([c], 0)
      else if ∃ y ∈ x :: r, y.n = c.n then (x :: r, 0)
      else ((x :: r).take (insAt (x :: r) c.n) ++ c :: (x :: r).drop (insAt (x :: r) c.n), 0)
def dataOf (l : List Chk) : List UInt8 := (l.map Chk.data).flatten
def joinDone (l : List Chk) (q : Pat × Int) (x : Chk) : Pat × Int := if q.2 = 0 ∧ (q.1.from_ ≠ x.from_ ∨ q.1.to_ ≠ x.to_) then (Pat.zero, 3) else q
def chkJoin (l : List Chk) : Pat × Int :=
  if chkList l ≠ 0 then (Pat.zero, chkList l)
  else match l with
    | [] => (Pat.zero, 5)
    | x :: r => if ((x :: r).length : Int) < x.of_ then (Pat.zero, 5)
      else if (unpacked (dataOf (x :: r)) 400).2 ≠ 0 then (Pat.zero, (unpacked (dataOf (x :: r)) 400).2)
      else joinDone (x :: r) (patRead (unpacked (dataOf (x :: r)) 400).1) x
end Go.Proofs.Ytefkfglkpebbmab
