/- Walks of functions, and plain words. No conditions. -/
import Derived.Test.YtefkfglkpebbmacP14
set_option linter.unusedVariables false
set_option linter.unusedSimpArgs false
set_option maxRecDepth 100000
set_option maxHeartbeats 40000000
namespace Go.Proofs.Ytefkfglkpebbmac
open Go.RowKit
variable {x : Wor} {k n : Int}
theorem worDo_bad (h : worCheck x ≠ 0) : worDo x k n = (Wor.zero, worCheck x) := by unfold worDo; rw [if_pos h]
theorem worDo_fine (h : worCheck x = 0) : worDo x k n = worHappen x k n := by unfold worDo; rw [if_neg (by omega)]
theorem happen_err (h : (worHappen x k n).2 ≠ 0) : worHappen x k n = (Wor.zero, (worHappen x k n).2) := by
 unfold worHappen at h ⊢
 split at h
 ·rename_i e
  rw [if_pos e]
  unfold worSend at h ⊢
  split at h
  ·rename_i c; rw [if_pos c]
  rename_i c1; rw [if_neg c1]
  split at h
  ·rename_i c; rw [if_pos c]
  rename_i c2; rw [if_neg c2]
  split at h
  ·rename_i c; rw [if_pos c]
  rename_i c3; rw [if_neg c3]
  split at h
  ·rename_i c; rw [if_pos c]
  ·exact absurd rfl h
 ·rename_i e
  rw [if_neg e]
  split at h
  ·rename_i e2
   rw [if_pos e2]
   unfold worHear at h ⊢
   split at h
   ·rename_i c; rw [if_pos c]
   rename_i c1; rw [if_neg c1]
   split at h
   ·rename_i c; rw [if_pos c]
   ·exact absurd rfl h
  ·rename_i e2
   rw [if_neg e2]
   unfold worDevice at h ⊢
   split at h
   ·rename_i c; rw [if_pos c]
   ·exact absurd rfl h
theorem worDo_calls (x : Wor) (L : WLoc) (kind n : Int) (w : World) (h : WorIn w x L) (hi : I64 n) : Calls Try.prog 81 #[.agg (worA x L), .agg #[iv kind, iv n]] w (WvRet w (worDo x kind n).1 (worDo x kind n).2) := by
 have hba : Below w.heap.size w (((w.alloc (.cells (worA x L) 88)).alloc (.cells (#[iv kind, iv n]) 106)).alloc (.cells (worA Wor.zero WLoc.zero) 88)) := (((Below.refl w.heap.size w).alloc (by first | omega | (simp <;> omega)) (.cells (worA x L) 88)).alloc (by first | omega | (simp <;> omega)) (.cells (#[iv kind, iv n]) 106)).alloc (by first | omega | (simp <;> omega)) (.cells (worA Wor.zero WLoc.zero) 88)
 have HBA := hD hba
 have HIN := hD h
 have K1 := hD (fun w h => worCheck_calls x L w h)
 by_cases hc : worCheck x ≠ 0
 ·rw [worDo_bad hc]
  have q : (worCheck x != 0) = true := by simp [hc]
  generalize worCheck x = c at *
  clear hc hba h
  go_enter Try.func81, Try.ntmps81
  go_wp2_with fail
  refine (K1.out _ (HIN.out.stays HBA.out)).mono ?_
  rintro e w1 ⟨rfl, hb⟩
  obtain ⟨a0r, a0f, a0n, a0c, a0z, a0l⟩ := kp (w.heap.size) (worA x L) hb
  obtain ⟨a1r, a1f, a1n, a1c, a1z, a1l⟩ := kp (w.heap.size + 1) (#[iv kind, iv n]) hb
  obtain ⟨a2r, a2f, a2n, a2c, a2z, a2l⟩ := kp (w.heap.size + 1 + 1) (worA Wor.zero WLoc.zero) hb
  have HB1 := hD (HBA.out.trans (hb.mono (by simp <;> omega)))
  clear hb
  go_wp2_with fail
  refine bodyPost_ret (results_ct rfl rfl (cs := worA Wor.zero WLoc.zero) (by go_simp) (by go_simp) (by go_simp)) rfl ⟨WLoc.zero, rfl, .const fun v => WorIn.zero v, ?_⟩
  have hs := HB1.out.size
  repeat (first | exact HB1.out | refine bR ?_ _ | refine bC ?_ _ | refine bA ?_ _)
 have hc := Decidable.not_not.1 hc
 rw [worDo_fine hc]
 rw [hc] at K1
 have hok := worCheck_ok.1 hc
 have herr := @happen_err x kind n
 obtain ⟨res, hres⟩ : ∃ res, worHappen x kind n = res := ⟨_, rfl⟩
 rw [hres] at herr ⊢
 have HERR := hD herr
 have KH := hD (fun g base m top ds L w hr hf hg h => happen_calls g base m top ds n x L w hr hf hg h hok hi kind)
 rw [hres] at KH
 have K2 := hD (fun w h => worCopy_calls x L w h)
 clear hc hba h hres herr
 go_enter Try.func81, Try.ntmps81
 go_wp2_with fail
 refine (K1.out _ (HIN.out.stays HBA.out)).mono ?_
 rintro e w1 ⟨rfl, hb⟩
 obtain ⟨a0r, a0f, a0n, a0c, a0z, a0l⟩ := kp (w.heap.size) (worA x L) hb
 obtain ⟨a1r, a1f, a1n, a1c, a1z, a1l⟩ := kp (w.heap.size + 1) (#[iv kind, iv n]) hb
 obtain ⟨a2r, a2f, a2n, a2c, a2z, a2l⟩ := kp (w.heap.size + 1 + 1) (worA Wor.zero WLoc.zero) hb
 have hs1 : w.heap.size + 3 ≤ w1.heap.size := by have := hb.size; simp at this; omega
 have HB1 := hD (HBA.out.trans (hb.mono (by simp <;> omega)))
 clear hb
 go_wp2_with fail
 refine (K2.out _ (HIN.out.stays HB1.out)).mono ?_
 rintro e w2 ⟨L2, m, ds, rfl, hwa, hb⟩
 obtain ⟨a0r, a0f, a0n, a0c, a0z, a0l⟩ := kp (w.heap.size) (worA x L) hb
 obtain ⟨a1r, a1f, a1n, a1c, a1z, a1l⟩ := kp (w.heap.size + 1) (#[iv kind, iv n]) hb
 obtain ⟨a2r, a2f, a2n, a2c, a2z, a2l⟩ := kp (w.heap.size + 1 + 1) (worA Wor.zero WLoc.zero) hb
 have hs2 : w1.heap.size ≤ w2.heap.size := hb.size
 have HB2 : Hid (Below w.heap.size w w2) := hD (HB1.out.trans (hb.mono (by omega)))
 clear hb
 go_wp2_with fail
 have hp0 : 0 < (rowOf w2 w.heap.size).size := by rw [a0r]; simp [worA]
 obtain ⟨w3, hw3⟩ : ∃ w3, w2.setRow w.heap.size (worA x L2) = w3 := ⟨_, rfl⟩
 have z1 : rowOf w3 w.heap.size = worA x L2 := by rw [← hw3, rowOf_setRow _ _ _ _ hp0, if_pos rfl]
 have z2 : frOf w3 w.heap.size = (0, 0) := by rw [← hw3, frOf_setRow]; exact a0f
 have z3 : rowOf w3 (w.heap.size + 1 + 1) = worA Wor.zero WLoc.zero := by rw [← hw3, rowOf_setRow _ _ _ _ hp0, if_neg (by omega)]; exact a2r
 have z4 : frOf w3 (w.heap.size + 1 + 1) = (0, 0) := by rw [← hw3, frOf_setRow]; exact a2f
 have hs3 : w3.heap.size = w2.heap.size := by rw [← hw3]; simp [World.setRow]
 have HB3 : Hid (Below w.heap.size w w3) := hD (by rw [← hw3]; exact below_row HB2.out (Nat.le_refl _) _)
 have HW3 : Hid (WorAt w3 (w1.heap.size + 2) m w2.heap.size ds x L2) := hD (hwa.same (fun k a b => by rw [← hw3]; exact setRow_other _ _ _ _ (by omega)) (by omega))
 try rw [hw3]
 have KHH := hD (KH.out w.heap.size (w1.heap.size + 2) m w2.heap.size ds L2 w3 z1 z2 (.inl (by omega)) HW3.out)
 clear hw3 hp0 hwa a0r a0f a0n a0c a0z a0l a2r a2f a2n a2c a2z a2l
 refine KHH.out.mono ?_
 rintro e w4 ⟨rfl, hz, hx, hs4⟩
 have HZ := hD hz
 have e3 := rowOf_heap (hx.2 (w.heap.size + 1 + 1) (by omega) (by omega))
 have y3 := e3.1.trans z3
 have y4 := e3.2.trans z4
 have HB4 : Hid (Below w.heap.size w w4) := hD (HB3.out.trans (hx.to (Nat.le_refl _) (by omega)))
 have hl4 : w.heap.size + 1 + 1 < w4.heap.size := by omega
 clear hx KHH hz e3 z1 z2 z3 z4
 obtain ⟨x', e'⟩ := res
 by_cases c2 : e' ≠ 0
 ·have hzz := HERR.out c2
  have hx' : x' = Wor.zero := congrArg Prod.fst hzz
  subst hx'
  have q : (e' != 0) = true := by simp [c2]
  clear hzz c2
  go_wp2_with fail
  refine bodyPost_ret (results_ct rfl rfl (cs := worA Wor.zero WLoc.zero) (by go_simp) (by go_simp) (by go_simp)) rfl ⟨WLoc.zero, rfl, .const fun v => WorIn.zero v, ?_⟩
  have hs := HB4.out.size
  repeat (first | exact HB4.out | refine bR ?_ _ | refine bC ?_ _ | refine bA ?_ _)
 ·have c2 := Decidable.not_not.1 c2
  have c2' : e' = 0 := c2
  subst c2'
  obtain ⟨L4, r4, f4, hfr4⟩ := HZ.out rfl
  have HFR : Hid (Fresh (w1.heap.size + 2) w4 (fun v => WorIn v x' L4)) := hD (fun v hv => hfr4 v (fun k h1 _ h2 => hv k h1 h2))
  obtain ⟨b0r, b0f, b0n, b0c, b0z, b0l⟩ := keep1 (Below.refl w4.heap.size w4) r4 (by go_simp) f4
  clear hfr4 c2
  go_wp2_with fail
  refine bodyPost_ret (results_ct rfl rfl (cs := worA x' L4) (by go_simp) (by go_simp) (by go_simp)) rfl ⟨L4, rfl, ?_, ?_⟩
  ·refine Fresh.imp (P := fun v => WorIn v x' L4) (Fresh.mono (base := w1.heap.size + 2) ?_ (by omega)) (fun v hv => hv)
   repeat (first | exact HFR.out | refine Fresh.row ?_ (by omega) _)
  ·have hs := HB4.out.size
   repeat (first | exact HB4.out | refine bR ?_ _ | refine bC ?_ _ | refine bA ?_ _)
end Go.Proofs.Ytefkfglkpebbmac
