/- What the laws say of records, in plain words: a torn write leaves what was; who is tried is tried as often as there are tries. No program here. -/
import Derived.Test.YtefkfglkpebbmaaRecDefs
namespace Go.Proofs.Ytefkfglkpebbmaa
set_option linter.unusedVariables false

theorem recCheck_parts {r : Rec} (h : recCheck r = 0) : RangeOk r ∧ infCheck r.a = 0 ∧ infCheck r.b = 0 ∧ FormOk r := by
  unfold recCheck at h
  by_cases h1 : RangeOk r
  · rw [if_pos h1] at h
    by_cases h2 : infCheck r.a = 0
    · rw [if_pos h2] at h
      by_cases h3 : infCheck r.b = 0
      · rw [if_pos h3] at h
        by_cases h4 : FormOk r
        · exact ⟨h1, h2, h3, h4⟩
        · rw [if_neg h4] at h; omega
      · rw [if_neg h3] at h; exact absurd h h3
    · rw [if_neg h2] at h; exact absurd h h2
  · rw [if_neg h1] at h; omega
theorem copOne_zero : copOne Cop.zero = 0 := by decide
/-- The record as the other copy's next one. -/
def nextRec (c d : Cop) (r : Rec) : Rec := { r with gen := (recRead c d).1.gen + 1 }
theorem newer_ok {c d : Cop} (h : copCheck c d = 0) : (newer c d = true ∧ recRead c d = (d.r, 1) ∧ d.ok = true ∧ recCheck d.r = 0) ∨ (newer c d = false ∧ recRead c d = (c.r, 0) ∧ c.ok = true ∧ recCheck c.r = 0) := by
  obtain ⟨h1, h2, h3⟩ := copCheck_ok h
  unfold recRead newer
  cases hc : c.ok
  · cases hd : d.ok
    · exact absurd ⟨hc, hd⟩ h3
    · rw [copOne_ok hd] at h2
      left; simp; exact h2
  · rw [copOne_ok hc] at h1
    cases hd : d.ok
    · right; simp; exact h1
    · rw [copOne_ok hd] at h2
      by_cases hg : c.r.gen < d.r.gen
      · left; simp [hg]; exact h2
      · right; simp [hg]; exact h1
/-- A torn write, and a whole one. -/
theorem write_torn {c d : Cop} {r : Rec} (h : copCheck c d = 0) (hr : recCheck (nextRec c d r) = 0) :
    recWrite c d r false = (recPut c d r false, 0) ∧ recWrite c d r true = (recPut c d r true, 0) ∧
    copCheck (recPut c d r false).1 (recPut c d r false).2 = 0 ∧ copCheck (recPut c d r true).1 (recPut c d r true).2 = 0 ∧
    recRead (recPut c d r false).1 (recPut c d r false).2 = (nextRec c d r, 1 - (recRead c d).2) ∧
    recRead (recPut c d r true).1 (recPut c d r true).2 = recRead c d ∧
    ((recRead c d).2 = 0 → (recPut c d r false).1 = c ∧ (recPut c d r true).1 = c) ∧ ((recRead c d).2 = 1 → (recPut c d r false).2 = d ∧ (recPut c d r true).2 = d) := by
  have hw : ∀ t, recWrite c d r t = (recPut c d r t, 0) := by
    intro t; unfold recWrite; rw [if_pos h]; exact if_pos hr
  obtain ⟨h1, h2, h3⟩ := copCheck_ok h
  rcases newer_ok h with ⟨_, g2, g3, g4⟩ | ⟨_, g2, g3, g4⟩
  · have e : ∀ t, recPut c d r t = (if t = true then Cop.zero else ⟨true, nextRec c d r⟩, d) := by
      intro t; unfold recPut nextRec; rw [g2]; simp
    have e1 : recPut c d r false = (⟨true, nextRec c d r⟩, d) := by rw [e]; rfl
    have e2 : recPut c d r true = (Cop.zero, d) := by rw [e]; rfl
    have hgen : (nextRec c d r).gen = d.r.gen + 1 := by unfold nextRec; rw [g2]
    refine ⟨hw _, hw _, ?_, ?_, ?_, ?_, ?_, ?_⟩
    · rw [e1]; rw [copCheck_3 (by rw [copOne_ok rfl]; exact hr) h2, if_neg (by simp)]
    · rw [e2]; rw [copCheck_3 copOne_zero h2, if_neg (by simp [g3])]
    · rw [e1, g2]
      unfold recRead newer
      simp only [g3, hgen, Bool.not_true, Bool.false_or, Bool.true_and]
      rw [if_neg (by simp; omega)]; rfl
    · rw [e2, g2]
      unfold recRead newer
      simp [Cop.zero]
    · rw [g2]; intro e; cases e
    · rw [e1, e2]; intro _; exact ⟨rfl, rfl⟩
  · have e : ∀ t, recPut c d r t = (c, if t = true then Cop.zero else ⟨true, nextRec c d r⟩) := by
      intro t; unfold recPut nextRec; rw [g2]; simp
    have e1 : recPut c d r false = (c, ⟨true, nextRec c d r⟩) := by rw [e]; rfl
    have e2 : recPut c d r true = (c, Cop.zero) := by rw [e]; rfl
    have hgen : (nextRec c d r).gen = c.r.gen + 1 := by unfold nextRec; rw [g2]
    refine ⟨hw _, hw _, ?_, ?_, ?_, ?_, ?_, ?_⟩
    · rw [e1]; rw [copCheck_3 h1 (by rw [copOne_ok rfl]; exact hr), if_neg (by simp)]
    · rw [e2]; rw [copCheck_3 h1 copOne_zero, if_neg (by simp [g3])]
    · rw [e1, g2]
      unfold recRead newer
      simp only [g3, hgen, Bool.not_true, Bool.false_or, Bool.true_and]
      rw [if_pos (by simp; omega)]; rfl
    · rw [e2, g2]
      unfold recRead newer
      simp [Cop.zero, g3]
    · rw [e1, e2]; intro _; exact ⟨rfl, rfl⟩
    · rw [g2]; intro e; cases e

/-! ### Starts -/
/-- The record behind k starts. -/
def nowAt (r : Rec) (k : Int) : Rec := if r.trying = true then (if k ≤ r.tries then { r with tries := r.tries - k } else { r with tries := 0, trying := false }) else r
theorem nowAt_0 {r : Rec} (h : recCheck r = 0) : nowAt r 0 = r := by
  have := (recCheck_range0 h)
  unfold RangeOk at this
  unfold nowAt
  split
  · rw [if_pos (by omega)]; simp
  · rfl
theorem at_same (r : Rec) (t : Int) (b : Bool) (k : Int) : ({ r with tries := t, trying := b } : Rec).at_ k = r.at_ k := rfl
theorem nowAt_ok {r : Rec} (h : recCheck r = 0) {k : Int} (hk : 0 ≤ k) : recCheck (nowAt r k) = 0 := by
  obtain ⟨h1, h2, h3, h4⟩ := recCheck_parts h
  unfold nowAt
  by_cases ht : r.trying = true
  · rw [if_pos ht]
    unfold RangeOk at h1
    unfold FormOk at h4
    by_cases hle : k ≤ r.tries
    · rw [if_pos hle]
      refine recCheck_ok ?_ h2 h3 ?_
      · unfold RangeOk; simp only; omega
      · unfold FormOk
        exact ⟨h4.1, fun _ => h4.2.1 ht, fun e => by simp [ht] at e, h4.2.2.2⟩
    · rw [if_neg hle]
      refine recCheck_ok ?_ h2 h3 ?_
      · unfold RangeOk; simp only; omega
      · unfold FormOk
        exact ⟨h4.1, fun e => by simp at e, fun _ => rfl, h4.2.2.2⟩
  · rw [if_neg ht]; exact h
/-- Which slot is started then. -/
def slotAt (r : Rec) (k : Int) : Int := if r.trying = true ∧ k < r.tries then 1 - r.active else r.active
theorem start_at {r : Rec} (h : recCheck r = 0) {k : Int} (hk : 0 ≤ k) : recStart (nowAt r k) = (slotAt r k, nowAt r (k + 1), 0) := by
  have hn := nowAt_ok h hk
  unfold recStart
  rw [if_pos hn]
  have h0 := recCheck_range0 h
  unfold RangeOk at h0
  unfold nowAt slotAt
  by_cases ht : r.trying = true
  · simp only [ht, if_true, true_and]
    by_cases hle : k ≤ r.tries
    · simp only [if_pos hle]
      by_cases he : k = r.tries
      · subst he
        simp
        omega
      · rw [if_pos True.intro, if_neg (by omega), if_pos (by omega), if_pos (by omega)]
        congr 3
        omega
    · simp only [if_neg hle]
      rw [if_neg (by simp), if_neg (by omega), if_neg (by omega)]
  · simp [ht]
theorem slot_floor {r : Rec} (h : recCheck r = 0) (k : Int) : (slotAt r k = 0 ∨ slotAt r k = 1) ∧ r.floor ≤ (r.at_ (slotAt r k)).ver := by
  obtain ⟨h1, h2, h3, h4⟩ := recCheck_parts h
  unfold RangeOk at h1
  unfold FormOk at h4
  unfold slotAt
  split
  · rename_i hh
    exact ⟨by omega, (h4.2.1 hh.1).2⟩
  · exact ⟨by omega, h4.2.2.2⟩
theorem nowAt_at (r : Rec) (k s : Int) : (nowAt r k).at_ s = r.at_ s ∧ (nowAt r k).floor = r.floor ∧ (nowAt r k).active = r.active := by
  unfold nowAt
  split
  · split <;> exact ⟨rfl, rfl, rfl⟩
  · exact ⟨rfl, rfl, rfl⟩
theorem slot_is {r : Rec} (h : recCheck r = 0) (k : Int) : (slotAt r k = r.active) ↔ (r.trying = false ∨ r.tries ≤ k) := by
  have h1 := recCheck_range0 h
  unfold RangeOk at h1
  unfold slotAt
  cases ht : r.trying
  · simp
  · by_cases hk : k < r.tries
    · rw [if_pos ⟨rfl, hk⟩]; simp; omega
    · rw [if_neg (fun e => hk e.2)]; simp; omega
/-- What is confirmed. -/
theorem done_ok {r : Rec} (h : recCheck r = 0) (ht : r.trying = true) : recCheck (recDone r) = 0 ∧ recStart (recDone r) = (1 - r.active, recDone r, 0) ∧ r.floor ≤ (recDone r).floor ∧ ((recDone r).at_ (1 - r.active)).ver ≤ (recDone r).floor ∧ (1 - r.active = 0 ∨ 1 - r.active = 1) := by
  obtain ⟨h1, h2, h3, h4⟩ := recCheck_parts h
  unfold RangeOk at h1
  unfold FormOk at h4
  have h5 := h4.2.1 ht
  have hi : ∀ x, infCheck x = 0 → InfRange x := by
    intro x hx
    unfold infCheck at hx
    by_cases hr : InfRange x
    · exact hr
    · rw [if_neg hr] at hx; omega
  have hv : (r.at_ (1 - r.active)).ver ≤ 30 := by
    unfold Rec.at_
    have ha := hi _ h2
    have hb := hi _ h3
    unfold InfRange at ha hb
    split <;> omega
  have hmax : max r.floor (r.at_ (1 - r.active)).ver = (r.at_ (1 - r.active)).ver := by omega
  have hat : ∀ s, (recDone r).at_ s = r.at_ s := fun s => rfl
  have hok : recCheck (recDone r) = 0 := by
    refine recCheck_ok ?_ h2 h3 ?_
    · unfold RangeOk recDone
      simp only [hmax]; omega
    · unfold FormOk
      refine ⟨?_, fun e => by simp [recDone] at e, fun _ => rfl, ?_⟩
      · show ((recDone r).at_ (1 - r.active)).ver ≠ 0
        rw [hat]; exact h5.1
      · show (recDone r).floor ≤ ((recDone r).at_ (1 - r.active)).ver
        rw [hat]; unfold recDone; simp only [hmax]; omega
  refine ⟨hok, ?_, ?_, ?_, by omega⟩
  · unfold recStart
    rw [if_pos hok]
    simp [recDone]
  · unfold recDone; simp only [hmax]; omega
  · rw [hat]; unfold recDone; simp only [hmax]; omega
end Go.Proofs.Ytefkfglkpebbmaa
