/- Plain words on copies of records: what is read, written, started, confirmed. No program here. -/
import Derived.Test.YtefkfglkpebbmaaRecMath
namespace Go.Proofs.Ytefkfglkpebbmaa
set_option linter.unusedVariables false

/-- Chapter 9's Read, of right copies. -/
def newer (c d : Cop) : Bool := !c.ok || (d.ok && decide (c.r.gen < d.r.gen))
def recRead (c d : Cop) : Rec × Int := if newer c d = true then (d.r, 1) else (c.r, 0)

/-- Chapter 9's Write, of right copies and a right record. -/
def recPut (c d : Cop) (r : Rec) (torn : Bool) : Cop × Cop :=
  if (recRead c d).2 = 0 then (c, if torn = true then Cop.zero else ⟨true, { r with gen := (recRead c d).1.gen + 1 }⟩)
  else (if torn = true then Cop.zero else ⟨true, { r with gen := (recRead c d).1.gen + 1 }⟩, d)
def recWrite (c d : Cop) (r : Rec) (torn : Bool) : (Cop × Cop) × Int :=
  if copCheck c d = 0 then
    if recCheck { r with gen := (recRead c d).1.gen + 1 } = 0 then (recPut c d r torn, 0)
    else ((Cop.zero, Cop.zero), recCheck { r with gen := (recRead c d).1.gen + 1 })
  else ((Cop.zero, Cop.zero), copCheck c d)

theorem recCheck_range0 {r : Rec} (h : recCheck r = 0) : RangeOk r := by
  unfold recCheck at h
  split at h
  · assumption
  · omega
theorem copCheck_ok {c d : Cop} (h : copCheck c d = 0) : copOne c = 0 ∧ copOne d = 0 ∧ ¬ (c.ok = false ∧ d.ok = false) := by
  unfold copCheck at h
  split at h
  · split at h
    · split at h
      · omega
      · exact ⟨by assumption, by assumption, by assumption⟩
    · omega
  · omega
/-- What is read is a right record. -/
theorem recRead_ok {c d : Cop} (h : copCheck c d = 0) : recCheck (recRead c d).1 = 0 := by
  obtain ⟨h1, h2, h3⟩ := copCheck_ok h
  unfold recRead newer
  cases hc : c.ok
  · cases hd : d.ok
    · exact absurd ⟨hc, hd⟩ h3
    · simp
      rw [← copOne_ok hd]; exact h2
  · rw [copOne_ok hc] at h1
    cases hd : d.ok
    · simp; exact h1
    · rw [copOne_ok hd] at h2
      simp
      split
      · exact h2
      · exact h1

/-- Chapter 9's Start. -/
def recStart (r : Rec) : Int × Rec × Int :=
  if recCheck r = 0 then
    if r.trying = true then (if r.tries = 0 then (r.active, { r with trying := false }, 0) else (1 - r.active, { r with tries := r.tries - 1 }, 0))
    else (r.active, r, 0)
  else (0, Rec.zero, recCheck r)

/-- Chapter 9's Confirm. -/
def recDone (r : Rec) : Rec := ⟨r.gen, 1 - r.active, false, 0, max r.floor (r.at_ (1 - r.active)).ver, r.a, r.b⟩
def recConfirm (r : Rec) : Rec × Int :=
  if recCheck r = 0 then (if r.trying = true then (recDone r, 0) else (Rec.zero, 5)) else (Rec.zero, recCheck r)

end Go.Proofs.Ytefkfglkpebbmaa
