/- The walk of record.Check. -/
import Derived.Test.YtefkfglkpebbmaaBase
import Derived.Test.YtefkfglkpebbmaaRecMath
import Derived.Laws.StructEq
import Derived.Deep.LoopGhost
namespace Go.Proofs.Ytefkfglkpebbmaa
open Go.RowKit
set_option linter.unusedVariables false

def Inf.vals (x : Inf) : List Value := [iv x.ver, iv x.size, iv x.sum]
def Rec.vals (r : Rec) : List Value := [iv r.gen, iv r.active, .bool r.trying, iv r.tries, iv r.floor, iv r.a.ver, iv r.a.size, iv r.a.sum, iv r.b.ver, iv r.b.size, iv r.b.sum]

set_option maxRecDepth 100000 in
set_option maxHeartbeats 1000000 in
theorem recCheck_range (g ac : Int) (tr : Bool) (ts fl va sa ca vb sb cb : Int) (w : World) (h : ¬ (1 ≤ g ∧ g ≤ 1000000 ∧ 0 ≤ ac ∧ ac ≤ 1 ∧ 0 ≤ ts ∧ ts ≤ 3 ∧ 1 ≤ fl ∧ fl ≤ 30)) :
    Calls Try.prog 33 #[.agg #[iv g, iv ac, .bool tr, iv ts, iv fl, iv va, iv sa, iv ca, iv vb, iv sb, iv cb]] w (RetB w (iv 2)) := by
  have H := Lib.hid h
  clear h
  go_enter Try.func33, Try.ntmps33
  go_wp2_with fail
  all_goals first | (go_ret; exact ⟨rfl, (Below.refl _ _).alloc (Nat.le_refl _) _⟩) | (exfalso; have h := H.out; omega)

set_option maxRecDepth 100000 in
set_option maxHeartbeats 4000000 in
theorem recCheck_rest (g ac : Int) (tr : Bool) (ts fl va sa ca vb sb cb : Int) (w : World) (h1 : 1 ≤ g) (h2 : g ≤ 1000000) (h3 : 0 ≤ ac) (h4 : ac ≤ 1) (h5 : 0 ≤ ts) (h6 : ts ≤ 3) (h7 : 1 ≤ fl) (h8 : fl ≤ 30) :
    Calls Try.prog 33 #[.agg #[iv g, iv ac, .bool tr, iv ts, iv fl, iv va, iv sa, iv ca, iv vb, iv sb, iv cb]] w (RetB w (iv (recCheck ⟨g, ac, tr, ts, fl, ⟨va, sa, ca⟩, ⟨vb, sb, cb⟩⟩))) := by
  have i0 : ∀ w, (Instr.index 42 (.agg #[iv va, iv sa, iv ca, iv vb, iv sb, iv cb]) (.int .i64 0)).run Try.prog w = .ok (.agg #[iv va, iv sa, iv ca]) w := fun _ => by kernel_rfl
  have i1 : ∀ w, (Instr.index 42 (.agg #[iv va, iv sa, iv ca, iv vb, iv sb, iv cb]) (.int .i64 1)).run Try.prog w = .ok (.agg #[iv vb, iv sb, iv cb]) w := fun _ => by kernel_rfl
  go_enter Try.func33, Try.ntmps33
  go_wp2_with fail
  go_loopw [45] (fun i wr => ∃ k : Nat, k ≤ 2 ∧ i = .int .i64 k ∧ Below w.heap.size w wr ∧ (wr.heap[w.heap.size]? = some (.cells #[iv g, iv ac, .bool tr, iv ts, iv fl, iv va, iv sa, iv ca, iv vb, iv sb, iv cb] 44)) ∧ (0 < k → infCheck ⟨va, sa, ca⟩ = 0) ∧ (1 < k → infCheck ⟨vb, sb, cb⟩ = 0)) (fun i _ => (2 - intOf i).toNat)
  case atStart => exact ⟨0, by omega, rfl, (Below.refl _ _).alloc (Nat.le_refl _) _, blk_top rfl, by omega, by omega⟩
  case round =>
    obtain ⟨k, hk, rfl, hB, hblk, ha, hb⟩ := hrel
    have hrg : RangeOk ⟨g, ac, tr, ts, fl, ⟨va, sa, ca⟩, ⟨vb, sb, cb⟩⟩ := ⟨h1, h2, h3, h4, h5, h6, h7, h8⟩
    have HR := Lib.hid hrg
    clear hrg
    by_cases hlt : k < 2
    · rcases (show k = 0 ∨ k = 1 by omega) with rfl | rfl
      · have HK := Lib.hid hblk
        clear hblk ha hb
        by_cases hI : InfRange ⟨va, sa, ca⟩
        · obtain ⟨j1, j2, j3, j4, j5, j6⟩ := hI
          simp only at j1 j2 j3 j4 j5 j6
          by_cases hv : va = 0
          · subst hv
            by_cases hz : sa = 0 ∧ ca = 0
            · obtain ⟨rfl, rfl⟩ := hz
              have HI : Hid (infCheck ⟨0, 0, 0⟩ = 0) := infCheck_ok ⟨j1, j2, j3, j4, j5, j6⟩ (fun _ => ⟨rfl, rfl⟩)
              clear j1 j2 j3 j4 j5 j6
              go_wp2_with fail
              go_roundw
              case rel => exact ⟨1, by omega, rfl, hB.alloc hB.size _, blk_old HK.out, fun _ => HI.out, by omega⟩
              case measure => simp [intOf] <;> omega
            · have HF := Lib.hid (recCheck_a HR.out (infCheck_form ⟨j1, j2, j3, j4, j5, j6⟩ rfl hz) (by omega))
              have HZ := Lib.hid hz
              clear hz
              go_wp2_with fail
              all_goals first | (go_ret; exact ⟨ret_int HF.out.symm, hB.alloc hB.size _⟩) | (exfalso; have h := HZ.out; omega)
          · have HI : Hid (infCheck ⟨va, sa, ca⟩ = 0) := infCheck_ok ⟨j1, j2, j3, j4, j5, j6⟩ (fun h => absurd h hv)
            have hv0 : (va == 0) = false := by rw [beq_eq_false_iff_ne]; exact hv
            clear hv
            go_wp2_with fail
            go_roundw
            case rel => exact ⟨1, by omega, rfl, hB.alloc hB.size _, blk_old HK.out, fun _ => HI.out, by omega⟩
            case measure => simp [intOf] <;> omega
        · have HF := Lib.hid (recCheck_a HR.out (infCheck_bad hI) (by omega))
          have HI := Lib.hid hI
          clear hI
          go_wp2_with fail
          all_goals first | (go_ret; exact ⟨ret_int HF.out.symm, hB.alloc hB.size _⟩) | (exfalso; have h := HI.out; unfold InfRange at h; simp only at h; omega)
      · have HK := Lib.hid hblk
        have HA := Lib.hid (ha (by omega))
        clear hblk ha hb
        by_cases hI : InfRange ⟨vb, sb, cb⟩
        · obtain ⟨j1, j2, j3, j4, j5, j6⟩ := hI
          simp only at j1 j2 j3 j4 j5 j6
          by_cases hv : vb = 0
          · subst hv
            by_cases hz : sb = 0 ∧ cb = 0
            · obtain ⟨rfl, rfl⟩ := hz
              have HI : Hid (infCheck ⟨0, 0, 0⟩ = 0) := infCheck_ok ⟨j1, j2, j3, j4, j5, j6⟩ (fun _ => ⟨rfl, rfl⟩)
              clear j1 j2 j3 j4 j5 j6
              go_wp2_with fail
              go_roundw
              case rel => exact ⟨2, by omega, rfl, hB.alloc hB.size _, blk_old HK.out, fun _ => HA.out, fun _ => HI.out⟩
              case measure => simp [intOf] <;> omega
            · have HF := Lib.hid (recCheck_b HR.out HA.out (infCheck_form ⟨j1, j2, j3, j4, j5, j6⟩ rfl hz) (by omega))
              have HZ := Lib.hid hz
              clear hz
              go_wp2_with fail
              all_goals first | (go_ret; exact ⟨ret_int HF.out.symm, hB.alloc hB.size _⟩) | (exfalso; have h := HZ.out; omega)
          · have HI : Hid (infCheck ⟨vb, sb, cb⟩ = 0) := infCheck_ok ⟨j1, j2, j3, j4, j5, j6⟩ (fun h => absurd h hv)
            have hv0 : (vb == 0) = false := by rw [beq_eq_false_iff_ne]; exact hv
            clear hv
            go_wp2_with fail
            go_roundw
            case rel => exact ⟨2, by omega, rfl, hB.alloc hB.size _, blk_old HK.out, fun _ => HA.out, fun _ => HI.out⟩
            case measure => simp [intOf] <;> omega
        · have HF := Lib.hid (recCheck_b HR.out HA.out (infCheck_bad hI) (by omega))
          have HI := Lib.hid hI
          clear hI
          go_wp2_with fail
          all_goals first | (go_ret; exact ⟨ret_int HF.out.symm, hB.alloc hB.size _⟩) | (exfalso; have h := HI.out; unfold InfRange at h; simp only at h; omega)
    · obtain rfl : k = 2 := by omega
      have HA := Lib.hid (ha (by omega))
      have HB2 := Lib.hid (hb (by omega))
      clear ha hb
      have c0 : ∀ j, wr.cell? ⟨w.heap.size, j, none⟩ = (#[iv g, iv ac, .bool tr, iv ts, iv fl, iv va, iv sa, iv ca, iv vb, iv sb, iv cb] : Array Value)[j]? := fun j => cell_of_row _ _ _ _ _ _ hblk
      have k1 := c0 1
      have k2 := c0 2
      have k3 := c0 3
      have k4 := c0 4
      have k5 := c0 5
      have k8 := c0 8
      simp at k1 k2 k3 k4 k5 k8
      clear c0 hblk
      by_cases hF : FormOk ⟨g, ac, tr, ts, fl, ⟨va, sa, ca⟩, ⟨vb, sb, cb⟩⟩
      · have HF := Lib.hid (recCheck_ok HR.out HA.out HB2.out hF)
        obtain ⟨f1, f2, f3, f4⟩ := hF
        rcases (show ac = 0 ∨ ac = 1 by omega) with rfl | rfl
        · simp [Rec.at_] at f1 f2 f3 f4
          cases tr
          · have e1 : (va == 0) = false := by rw [beq_eq_false_iff_ne]; simpa using f1
            have e2 : (ts != 0) = false := by have := f3 rfl; simp [this]
            have e4 : fl ≤ va := by simpa using f4
            clear f1 f2 f3 f4
            go_wp2_with fail
            go_quiet (fail)
            go_wp2_with fail
            go_ret
            exact ⟨ret_int HF.out.symm, Below.drewN' hB _⟩
          · have e1 : (va == 0) = false := by rw [beq_eq_false_iff_ne]; simpa using f1
            have e2 : (vb == 0) = false := by rw [beq_eq_false_iff_ne]; simpa using (f2 rfl).1
            have e3 : fl ≤ vb := by simpa using (f2 rfl).2
            have d3 : decide (vb < fl) = false := by simpa using e3
            have e4 : fl ≤ va := by simpa using f4
            clear f1 f2 f3 f4
            go_wp2_with fail
            go_quiet (fail)
            go_wp2_with fail
            go_ret
            exact ⟨ret_int HF.out.symm, Below.drewN' hB _⟩
        · simp [Rec.at_] at f1 f2 f3 f4
          cases tr
          · have e1 : (vb == 0) = false := by rw [beq_eq_false_iff_ne]; simpa using f1
            have e2 : (ts != 0) = false := by have := f3 rfl; simp [this]
            have e4 : fl ≤ vb := by simpa using f4
            clear f1 f2 f3 f4
            go_wp2_with fail
            go_quiet (fail)
            go_wp2_with fail
            go_ret
            exact ⟨ret_int HF.out.symm, Below.drewN' hB _⟩
          · have e1 : (vb == 0) = false := by rw [beq_eq_false_iff_ne]; simpa using f1
            have e2 : (va == 0) = false := by rw [beq_eq_false_iff_ne]; simpa using (f2 rfl).1
            have e3 : fl ≤ va := by simpa using (f2 rfl).2
            have d3 : decide (va < fl) = false := by simpa using e3
            have e4 : fl ≤ vb := by simpa using f4
            clear f1 f2 f3 f4
            go_wp2_with fail
            go_quiet (fail)
            go_wp2_with fail
            go_ret
            exact ⟨ret_int HF.out.symm, Below.drewN' hB _⟩
      · have HF := Lib.hid (recCheck_form HR.out HA.out HB2.out hF)
        rcases (show ac = 0 ∨ ac = 1 by omega) with rfl | rfl
        · cases tr
          · have hn := hF
            clear hF
            by_cases n1 : va = 0
            · have e1 : (va == 0) = true := by rw [beq_iff_eq]; exact n1
              clear n1
              clear hn
              go_wp2_with fail
              go_quiet (fail)
              go_wp2_with fail
              go_ret
              exact ⟨ret_int HF.out.symm, Below.drewN' hB _⟩
            have e1 : (va == 0) = false := by rw [beq_eq_false_iff_ne]; exact n1
            by_cases n2 : ts = 0
            · have e2 : (ts != 0) = false := by simp [n2]
              have e4 : va < fl := by
                rcases Int.lt_or_le va fl with h | h
                · exact h
                · exact absurd ⟨by simpa [Rec.at_] using n1, by simp, fun _ => n2, by simpa [Rec.at_] using h⟩ hn
              clear n1 n2
              clear hn
              go_wp2_with fail
              go_quiet (fail)
              go_wp2_with fail
              go_ret
              exact ⟨ret_int HF.out.symm, Below.drewN' hB _⟩
            · have e2 : (ts != 0) = true := by simp [n2]
              clear n1 n2
              clear hn
              go_wp2_with fail
              go_quiet (fail)
              go_wp2_with fail
              go_ret
              exact ⟨ret_int HF.out.symm, Below.drewN' hB _⟩
          · have hn := hF
            clear hF
            by_cases n1 : va = 0
            · have e1 : (va == 0) = true := by rw [beq_iff_eq]; exact n1
              clear n1
              clear hn
              go_wp2_with fail
              go_quiet (fail)
              go_wp2_with fail
              go_ret
              exact ⟨ret_int HF.out.symm, Below.drewN' hB _⟩
            have e1 : (va == 0) = false := by rw [beq_eq_false_iff_ne]; exact n1
            by_cases n2 : vb = 0
            · have e2 : (vb == 0) = true := by rw [beq_iff_eq]; exact n2
              clear n1 n2
              clear hn
              go_wp2_with fail
              go_quiet (fail)
              go_wp2_with fail
              go_ret
              exact ⟨ret_int HF.out.symm, Below.drewN' hB _⟩
            have e2 : (vb == 0) = false := by rw [beq_eq_false_iff_ne]; exact n2
            by_cases n3 : vb < fl
            · clear n1 n2
              clear hn
              go_wp2_with fail
              go_quiet (fail)
              go_wp2_with fail
              go_ret
              exact ⟨ret_int HF.out.symm, Below.drewN' hB _⟩
            have e3 : fl ≤ vb := by omega
            have d3 : decide (vb < fl) = false := by simpa using e3
            have e4 : va < fl := by
              rcases Int.lt_or_le va fl with h | h
              · exact h
              · exact absurd ⟨by simpa [Rec.at_] using n1, fun _ => ⟨by simpa [Rec.at_] using n2, by simpa [Rec.at_] using e3⟩, by simp, by simpa [Rec.at_] using h⟩ hn
            clear n1 n2 n3
            clear hn
            go_wp2_with fail
            go_quiet (fail)
            go_wp2_with fail
            go_ret
            exact ⟨ret_int HF.out.symm, Below.drewN' hB _⟩
        · cases tr
          · have hn := hF
            clear hF
            by_cases n1 : vb = 0
            · have e1 : (vb == 0) = true := by rw [beq_iff_eq]; exact n1
              clear n1
              clear hn
              go_wp2_with fail
              go_quiet (fail)
              go_wp2_with fail
              go_ret
              exact ⟨ret_int HF.out.symm, Below.drewN' hB _⟩
            have e1 : (vb == 0) = false := by rw [beq_eq_false_iff_ne]; exact n1
            by_cases n2 : ts = 0
            · have e2 : (ts != 0) = false := by simp [n2]
              have e4 : vb < fl := by
                rcases Int.lt_or_le vb fl with h | h
                · exact h
                · exact absurd ⟨by simpa [Rec.at_] using n1, by simp, fun _ => n2, by simpa [Rec.at_] using h⟩ hn
              clear n1 n2
              clear hn
              go_wp2_with fail
              go_quiet (fail)
              go_wp2_with fail
              go_ret
              exact ⟨ret_int HF.out.symm, Below.drewN' hB _⟩
            · have e2 : (ts != 0) = true := by simp [n2]
              clear n1 n2
              clear hn
              go_wp2_with fail
              go_quiet (fail)
              go_wp2_with fail
              go_ret
              exact ⟨ret_int HF.out.symm, Below.drewN' hB _⟩
          · have hn := hF
            clear hF
            by_cases n1 : vb = 0
            · have e1 : (vb == 0) = true := by rw [beq_iff_eq]; exact n1
              clear n1
              clear hn
              go_wp2_with fail
              go_quiet (fail)
              go_wp2_with fail
              go_ret
              exact ⟨ret_int HF.out.symm, Below.drewN' hB _⟩
            have e1 : (vb == 0) = false := by rw [beq_eq_false_iff_ne]; exact n1
            by_cases n2 : va = 0
            · have e2 : (va == 0) = true := by rw [beq_iff_eq]; exact n2
              clear n1 n2
              clear hn
              go_wp2_with fail
              go_quiet (fail)
              go_wp2_with fail
              go_ret
              exact ⟨ret_int HF.out.symm, Below.drewN' hB _⟩
            have e2 : (va == 0) = false := by rw [beq_eq_false_iff_ne]; exact n2
            by_cases n3 : va < fl
            · clear n1 n2
              clear hn
              go_wp2_with fail
              go_quiet (fail)
              go_wp2_with fail
              go_ret
              exact ⟨ret_int HF.out.symm, Below.drewN' hB _⟩
            have e3 : fl ≤ va := by omega
            have d3 : decide (va < fl) = false := by simpa using e3
            have e4 : vb < fl := by
              rcases Int.lt_or_le vb fl with h | h
              · exact h
              · exact absurd ⟨by simpa [Rec.at_] using n1, fun _ => ⟨by simpa [Rec.at_] using n2, by simpa [Rec.at_] using e3⟩, by simp, by simpa [Rec.at_] using h⟩ hn
            clear n1 n2 n3
            clear hn
            go_wp2_with fail
            go_quiet (fail)
            go_wp2_with fail
            go_ret
            exact ⟨ret_int HF.out.symm, Below.drewN' hB _⟩

theorem recCheck_calls (g ac : Int) (tr : Bool) (ts fl va sa ca vb sb cb : Int) (w : World) :
    Calls Try.prog 33 #[.agg #[iv g, iv ac, .bool tr, iv ts, iv fl, iv va, iv sa, iv ca, iv vb, iv sb, iv cb]] w (RetB w (iv (recCheck ⟨g, ac, tr, ts, fl, ⟨va, sa, ca⟩, ⟨vb, sb, cb⟩⟩))) := by
  by_cases h : RangeOk ⟨g, ac, tr, ts, fl, ⟨va, sa, ca⟩, ⟨vb, sb, cb⟩⟩
  · obtain ⟨h1, h2, h3, h4, h5, h6, h7, h8⟩ := h
    exact recCheck_rest g ac tr ts fl va sa ca vb sb cb w h1 h2 h3 h4 h5 h6 h7 h8
  · rw [recCheck_bad h]
    exact recCheck_range g ac tr ts fl va sa ca vb sb cb w h
end Go.Proofs.Ytefkfglkpebbmaa
