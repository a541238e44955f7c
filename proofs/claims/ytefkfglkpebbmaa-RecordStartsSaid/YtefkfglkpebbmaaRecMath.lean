/- Plain words on records. No program here. -/
namespace Go.Proofs.Ytefkfglkpebbmaa

structure Inf where
  ver : Int
  size : Int
  sum : Int
deriving DecidableEq
structure Rec where
  gen : Int
  active : Int
  trying : Bool
  tries : Int
  floor : Int
  a : Inf
  b : Inf
deriving DecidableEq
structure Cop where
  ok : Bool
  r : Rec
deriving DecidableEq
def Inf.zero : Inf := ⟨0, 0, 0⟩
def Rec.zero : Rec := ⟨0, 0, false, 0, 0, .zero, .zero⟩
def Cop.zero : Cop := ⟨false, .zero⟩
/-- What is in slot 0, in another one. -/
def Rec.at_ (r : Rec) (k : Int) : Inf := if k = 0 then r.a else r.b

def RangeOk (r : Rec) : Prop := 1 ≤ r.gen ∧ r.gen ≤ 1000000 ∧ 0 ≤ r.active ∧ r.active ≤ 1 ∧ 0 ≤ r.tries ∧ r.tries ≤ 3 ∧ 1 ≤ r.floor ∧ r.floor ≤ 30
instance (r : Rec) : Decidable (RangeOk r) := by unfold RangeOk; infer_instance
def InfRange (x : Inf) : Prop := 0 ≤ x.ver ∧ x.ver ≤ 30 ∧ 0 ≤ x.size ∧ x.size ≤ 64 ∧ 0 ≤ x.sum ∧ x.sum ≤ 65535
instance (x : Inf) : Decidable (InfRange x) := by unfold InfRange; infer_instance
def infCheck (x : Inf) : Int := if InfRange x then (if x.ver = 0 ∧ ¬ (x.size = 0 ∧ x.sum = 0) then 3 else 0) else 2
/-- The last conditions. -/
def FormOk (r : Rec) : Prop := (r.at_ r.active).ver ≠ 0 ∧ (r.trying = true → (r.at_ (1 - r.active)).ver ≠ 0 ∧ r.floor ≤ (r.at_ (1 - r.active)).ver) ∧ (r.trying = false → r.tries = 0) ∧ r.floor ≤ (r.at_ r.active).ver
instance (r : Rec) : Decidable (FormOk r) := by unfold FormOk; infer_instance
/-- Chapter 9's Check. -/
def recCheck (r : Rec) : Int :=
  if RangeOk r then
    if infCheck r.a = 0 then
      if infCheck r.b = 0 then (if FormOk r then 0 else 3) else infCheck r.b
    else infCheck r.a
  else 2
/-- A copy: whole, or lost. -/
def copOne (c : Cop) : Int := if c.ok = true then recCheck c.r else if c.r = Rec.zero then 0 else 3
/-- Chapter 9's Copies. -/
def copCheck (c d : Cop) : Int := if copOne c = 0 then (if copOne d = 0 then (if c.ok = false ∧ d.ok = false then 7 else 0) else copOne d) else copOne c
theorem copOne_lost0 {c : Cop} (h : c.ok = false) (h1 : c.r = Rec.zero) : copOne c = 0 := by unfold copOne; rw [if_neg (by simp [h]), if_pos h1]
theorem copOne_lost3 {c : Cop} (h : c.ok = false) (h1 : c.r ≠ Rec.zero) : copOne c = 3 := by unfold copOne; rw [if_neg (by simp [h]), if_neg h1]
theorem copOne_ok {c : Cop} (h : c.ok = true) : copOne c = recCheck c.r := by unfold copOne; rw [if_pos h]
theorem copCheck_1 {c d : Cop} {n : Int} (h : copOne c = n) (hn : n ≠ 0) : copCheck c d = n := by unfold copCheck; rw [if_neg (by omega), h]
theorem copCheck_2 {c d : Cop} {n : Int} (h0 : copOne c = 0) (h : copOne d = n) (hn : n ≠ 0) : copCheck c d = n := by unfold copCheck; rw [if_pos h0, if_neg (by omega), h]
theorem copCheck_3 {c d : Cop} (h0 : copOne c = 0) (h : copOne d = 0) : copCheck c d = if c.ok = false ∧ d.ok = false then 7 else 0 := by unfold copCheck; rw [if_pos h0, if_pos h]
theorem infCheck_bad {x : Inf} (h : ¬ InfRange x) : infCheck x = 2 := by unfold infCheck; rw [if_neg h]
theorem infCheck_form {x : Inf} (h : InfRange x) (h1 : x.ver = 0) (h2 : ¬ (x.size = 0 ∧ x.sum = 0)) : infCheck x = 3 := by unfold infCheck; rw [if_pos h, if_pos ⟨h1, h2⟩]
theorem infCheck_ok {x : Inf} (h : InfRange x) (h1 : x.ver = 0 → x.size = 0 ∧ x.sum = 0) : infCheck x = 0 := by unfold infCheck; rw [if_pos h, if_neg (fun h2 => h2.2 (h1 h2.1))]
theorem recCheck_a {r : Rec} {n : Int} (h : RangeOk r) (h1 : infCheck r.a = n) (hn : n ≠ 0) : recCheck r = n := by unfold recCheck; rw [if_pos h, if_neg (by omega), h1]
theorem recCheck_b {r : Rec} {n : Int} (h : RangeOk r) (h0 : infCheck r.a = 0) (h1 : infCheck r.b = n) (hn : n ≠ 0) : recCheck r = n := by unfold recCheck; rw [if_pos h, if_pos h0, if_neg (by omega), h1]
theorem recCheck_form {r : Rec} (h : RangeOk r) (h0 : infCheck r.a = 0) (h1 : infCheck r.b = 0) (h2 : ¬ FormOk r) : recCheck r = 3 := by unfold recCheck; rw [if_pos h, if_pos h0, if_pos h1, if_neg h2]
theorem recCheck_ok {r : Rec} (h : RangeOk r) (h0 : infCheck r.a = 0) (h1 : infCheck r.b = 0) (h2 : FormOk r) : recCheck r = 0 := by unfold recCheck; rw [if_pos h, if_pos h0, if_pos h1, if_pos h2]
theorem recCheck_bad {r : Rec} (h : ¬ RangeOk r) : recCheck r = 2 := by unfold recCheck; rw [if_neg h]
end Go.Proofs.Ytefkfglkpebbmaa
