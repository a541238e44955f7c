/- The walk of cobblerlaw.played with the closure of StoryComes. Printed by gen_played.py. No conditions. -/
import Derived.Test.YtefkfglkpebbmadP14
set_option linter.unusedVariables false
set_option linter.unusedSimpArgs false
set_option maxRecDepth 100000
set_option maxHeartbeats 40000000
namespace Go.Proofs.Ytefkfglkpebbmad
open Go.RowKit
theorem playedStoryComes_calls  (g : Option Nat) (St : World → Int → Prop) (f0 : Int) (A : Option Addr) (c : Nat) (l : List (List UInt8)) (B : Option Addr) (e : Nat) (scr : List (Int × Int)) (w : World)
  (hc : l.length ≤ c) (hl : l.length ≤ 1048576) (hi : Ims w A l) (he : scr.length ≤ e) (hsl : scr.length ≤ 1048576) (hh : Hps w B scr) (hgl : ∀ k, g = some k → k < w.heap.size)
  (hst : ∀ (u v : World) f, (∀ k, g = some k → v.heap[k]? = u.heap[k]?) → St u f → St v f) (h0 : St w f0) (hf0 : f0 ≤ 1) (hhb : 0 < scr.length → ∀ k, g = some k → ∀ b o, B = some ⟨b, o, none⟩ → b ≠ k)
  (hcl : ∀ (x : Wor) (L : WLoc) (wr : World) (k f : Int), Inv l k x → 1 ≤ k → k ≤ 151 → f ≤ x.d.rec_.floor → (∀ v : World, (∀ q, g ≠ some q → q < wr.heap.size → v.heap[q]? = wr.heap[q]?) → WorIn v x L) → St wr f → Bx g w.heap.size w wr →
    Calls Try.prog 14 #[.agg (worA x L)] wr (fun en w2 => en = .returned (.bool true) ∧ St w2 x.d.rec_.floor ∧ Bx g wr.heap.size wr w2)) :
  Calls Try.prog 6 #[.slice A l.length c, .slice B scr.length e, .func (Fn.func 14) #[] #[]] w (PlRet w g l scr) := by
 have HS := hD hi
 have HH := hD hh
 have HHB := hD hhb
 have HGL := hD hgl
 have HST := hD hst
 have HCL := hD hcl
 have H0 := hD h0
 have HF0 := hD hf0
 have K1 := hD (fun w h => worNew_calls A c l w hc hl h)
 have HBA : Hid (Below w.heap.size w (w.alloc (.cells (worA Wor.zero WLoc.zero) 41))) := hD ((Below.refl _ _).alloc (Nat.le_refl _) _)
 clear hcl h0 hst hi hh hhb hgl
 by_cases hr : relCheck l ≠ 0
 ·have hz : worNew l = (Wor.zero, relCheck l) := by unfold worNew; rw [if_pos hr]
  rw [hz] at K1
  have HR := hD hr
  have q : (relCheck l != 0) = true := by simp [hr]
  obtain ⟨n, hn⟩ : ∃ n, relCheck l = n := ⟨_, rfl⟩
  rw [hn] at K1 q
  clear hz hr hn
  go_enter Try.func6, Try.ntmps6
  go_wp2_with fail
  refine (K1.out _ (HS.out.stays HBA.out)).mono ?_
  rintro en w1 ⟨L1, rfl, hf1, hb⟩
  obtain ⟨a0r, a0f, a0n, a0c, a0z, a0l⟩ := kp (w.heap.size) (worA Wor.zero WLoc.zero) hb
  have hs1 : w.heap.size + 1 ≤ w1.heap.size := by have := hb.size; simpa using this
  have HB1 : Hid (Below w.heap.size w w1) := hD (HBA.out.trans (hb.mono (by simp)))
  have HF1 := hD hf1
  have hp1 : 0 < (rowOf w1 w.heap.size).size := by rw [a0r]; simp [worA]
  clear hb hf1
  go_wp2_with fail
  refine bodyPost_ret (results_ct rfl rfl (cs := worA Wor.zero L1) (by go_simp) (by go_simp) (by go_simp)) rfl ⟨Wor.zero, L1, rfl, .inl ⟨HR.out, rfl⟩, ?_, ?_⟩
  ·intro v hv
   refine HF1.out v (fun k h1 h2 => ?_)
   simp at h1
   refine (hv k (by omega) (by simp [World.setRow]; omega)).trans ?_
   exact (Below.heap_alloc (w1.setRow w.heap.size (worA Wor.zero L1)) _ k (by simp [World.setRow]; omega)).trans (setRow_other _ _ _ _ (by omega))
  ·have hs := HB1.out.size
   refine Bx.of (b2 := w.heap.size) ?_ (Nat.le_refl _)
   repeat (first | exact HB1.out | refine bR ?_ _ | refine bC ?_ _ | refine bA ?_ _)
 have hr := Decidable.not_not.1 hr
 obtain ⟨hinv, hnew⟩ := inv_new hr
 rw [hnew] at K1
 obtain ⟨x0, hx0⟩ : ∃ x0, (⟨l, newDev (l.headD []), []⟩ : Wor) = x0 := ⟨_, rfl⟩
 rw [hx0] at K1 hinv
 have HI0 := hD hinv
 have HR := hD hr
 have hfl : x0.d.rec_.floor = 1 := by rw [← hx0]; rfl
 have HFL := hD hfl
 obtain ⟨m, hm⟩ : ∃ m, min scr.length 150 = m := ⟨_, rfl⟩
 have hmin := run_min150 scr.length
 rw [hm] at hmin
 have hm1 : m ≤ scr.length := by omega
 have hm2 : m ≤ 150 := by omega
 have HSL : Hid (∀ wq, (Instr.slice 23 (.slice B scr.length e) none (some (.int .i64 (m : Int))) none).run Try.prog wq = .ok (.slice B m e) wq) := hD (fun wq => by
  have k1 : (m : Int) ≤ (e : Int) := by omega
  cases B with
  | none =>
   have k2 : m = 0 := by
    rcases Nat.eq_zero_or_pos m with h | h
    ·exact h
    ·obtain ⟨b, o, h9, _⟩ := HH.out 0 (by omega)
     cases h9
   subst k2
   go_simp
  | some a =>
   by_cases k2 : e = 0
   ·subst k2
    have k3 : m = 0 := by omega
    subst k3
    go_simp
   ·go_simp)
 clear hr hinv hnew hx0 hm hfl
 go_enter Try.func6, Try.ntmps6
 go_wp2_with fail
 refine (K1.out _ (HS.out.stays HBA.out)).mono ?_
 rintro en w1 ⟨L1, rfl, hf1, hb⟩
 obtain ⟨a0r, a0f, a0n, a0c, a0z, a0l⟩ := kp (w.heap.size) (worA Wor.zero WLoc.zero) hb
 have hs1 : w.heap.size + 1 ≤ w1.heap.size := by have := hb.size; simpa using this
 have HB1 : Hid (Below w.heap.size w w1) := hD (HBA.out.trans (hb.mono (by simp)))
 have HF1 := hD hf1
 clear hb hf1
 go_wp2_with fail
 have hp2 : ¬ w.heap.size = w1.heap.size := a0n
 obtain ⟨w2, hw2⟩ : ∃ w2, w1.alloc (.cells (worA x0 L1) 41) = w2 := ⟨_, rfl⟩
 have hs2 : w2.heap.size = w1.heap.size + 1 := by rw [← hw2]; simp
 have hk2 : ∀ q, q < w1.heap.size → w2.heap[q]? = w1.heap[q]? := fun q h => by rw [← hw2]; exact Below.heap_alloc w1 _ q h
 have HR2 : Hid (rowOf w2 w.heap.size = worA Wor.zero WLoc.zero ∧ frOf w2 w.heap.size = (0, 0) ∧ rowOf w2 w1.heap.size = worA x0 L1 ∧ frOf w2 w1.heap.size = (0, 0)) := hD (by
  have e0 := rowOf_heap (hk2 w.heap.size a0l)
  exact ⟨e0.1.trans a0r, e0.2.trans a0f, by rw [← hw2, rowOf_alloc, if_pos rfl], by rw [← hw2, frOf_alloc, if_pos rfl]⟩)
 have HB2 : Hid (Below w.heap.size w w2) := hD (by rw [← hw2]; exact HB1.out.alloc (by omega) _)
 have HW2 : Hid (∀ v : World, (∀ q, w.heap.size + 1 ≤ q → q ≠ w1.heap.size → q < w2.heap.size → v.heap[q]? = w2.heap[q]?) → WorIn v x0 L1) := hD (fun v hv => HF1.out v (fun k h1 h2 => by
  simp at h1
  exact (hv k h1 (by omega) (by omega)).trans (hk2 k h2)))
 try rw [hw2]
 clear hw2 hk2 a0r a0f a0n a0c a0z a0l
 obtain ⟨g8, hg8⟩ : ∃ g8, w1.heap.size = g8 := ⟨_, rfl⟩
 have HG8 := hD hg8
 rw [hg8] at HR2 HW2 hs2 hs1 ⊢
 clear hg8
 go_loopw [28] (fun i wr => ∃ (k : Nat) (x : Wor) (L : WLoc) (f : Int), k ≤ m ∧ i = .int .i64 k ∧ Hid (Inv l (1 + k) x ∧ f ≤ x.d.rec_.floor) ∧ Hid (rowOf wr w.heap.size = worA Wor.zero WLoc.zero ∧ frOf wr w.heap.size = (0, 0) ∧ rowOf wr g8 = worA x L ∧ frOf wr g8 = (0, 0)) ∧
  Hid (∀ v : World, (∀ q, w.heap.size + 1 ≤ q → q ≠ g8 → q < wr.heap.size → v.heap[q]? = wr.heap[q]?) → WorIn v x L) ∧ Hid (St wr f) ∧ Hid (Bx g w.heap.size w wr ∧ g8 + 1 ≤ wr.heap.size)) (fun i _ => m - (intOf i).toNat)
 case atStart =>
  refine ⟨0, x0, L1, f0, Nat.zero_le _, rfl, hD ⟨HI0.out, by rw [HFL.out]; exact HF0.out⟩, HR2, HW2, hD (HST.out w w2 f0 (fun k h => HB2.out.block k (HGL.out k h)) H0.out), hD ⟨Bx.of HB2.out (Nat.le_refl _), by omega⟩⟩
 case round =>
  rename World => wr
  obtain ⟨k, x, L, f, hk, rfl, HX, HRR, HWI, HSt, HB⟩ := hrel
  clear HR2 HW2
  have hsz := HB.out.2
  obtain ⟨a0r, a0f, a0n, a0c, a0z, a0l⟩ := keep1 (Below.refl wr.heap.size wr) HRR.out.1 (by go_simp) HRR.out.2.1
  obtain ⟨a1r, a1f, a1n, a1c, a1z, a1l⟩ := keep1 (Below.refl wr.heap.size wr) HRR.out.2.2.1 (by go_simp) HRR.out.2.2.2
  by_cases hlt : k < m
  ·obtain ⟨b, o, rfl, hbl, cs, hcs, hcc, rfl, hi1, hi2⟩ := HH.out k (by omega)
   obtain ⟨⟨kd, n⟩, hy⟩ : ∃ y, scr[k] = y := ⟨_, rfl⟩
   rw [hy] at hcc hi1 hi2
   have hbg : g ≠ some b := fun h => HHB.out (by omega) b h b o rfl rfl
   have hb0 : b < wr.heap.size := Nat.lt_of_lt_of_le hbl (by omega)
   have hwb : ∀ j, wr.cell? ⟨b, j, none⟩ = w.cell? ⟨b, j, none⟩ := fun j => World.cell?_of_block (HB.out.1.2 b hbl hbg)
   have p0 : wr.cell? ⟨b, o + k * 2, none⟩ = some (iv kd) := by rw [hwb]; have := hcc 0 (by simp); simpa using this
   have p1 : wr.cell? ⟨b, o + k * 2 + 1, none⟩ = some (iv n) := by rw [hwb]; have := hcc 1 (by simp); simpa using this
   have HI2 : Hid (I64 n) := hD hi2
   have hwk : IntKind.i64.wrap ((k : Int) + 1) = (k : Int) + 1 := IntWalk.i64_in _ (by omega)
   have dl : decide ((k : Int) < (m : Int)) = true := decide_eq_true (by omega)
   have hcap : (m : Int) ≤ (e : Int) := by omega
   clear hcc hi1 hi2 hcs hy hwb hbl
   go_wp2_with fail
   have hx1 : WorIn (wr.alloc (.cells #[iv kd, iv n] 52)) x L := HWI.out _ (fun q _ _ h2 => Below.heap_alloc wr _ q h2)
   obtain ⟨⟨x', e'⟩, hres⟩ : ∃ res, worDo x kd n = res := ⟨_, rfl⟩
   have KD := hD (worDo_calls x L kd n _ hx1 HI2.out)
   rw [hres] at KD
   refine KD.out.mono ?_
   rintro en w3 ⟨L3, rfl, hf3, hb⟩
   obtain ⟨a0r, a0f, a0n, a0c, a0z, a0l⟩ := kp (w.heap.size) (worA Wor.zero WLoc.zero) hb
   obtain ⟨a1r, a1f, a1n, a1c, a1z, a1l⟩ := kp g8 (worA x L) hb
   have hs3 : wr.heap.size + 1 ≤ w3.heap.size := by have := hb.size; simpa using this
   have hbx3 : Below wr.heap.size wr w3 := ((Below.refl _ _).alloc (Nat.le_refl _) _).trans (hb.mono (by simp))
   have HF3 := hD hf3
   have HB3 := hD hbx3
   have HSTEP : Hid (stoStep x (kd, n) = (if e' = 0 then x' else x) ∧ Inv l (1 + (k : Int) + 1) (stoStep x (kd, n)) ∧ x.d.rec_.floor ≤ (stoStep x (kd, n)).d.rec_.floor) := hD (by
    have h9 := step_inv HX.out.1 (kd, n)
    refine ⟨?_, h9.1, h9.2⟩
    unfold stoStep
    dsimp only
    rw [hres])
   clear hb hf3 hbx3 KD hres hx1
   by_cases c2 : e' = 0
   ·subst c2
    have q : ((0 : Int) == 0) = true := rfl
    rw [if_pos rfl] at HSTEP
    have hp3 : 0 < (rowOf w3 g8).size := by rw [a1r]; simp [worA]
    go_wp2_with fail
    obtain ⟨wc, hwc⟩ : ∃ wc, (w3.setRow g8 (worA x' L3)).alloc (.cells (worA x' L3) 41) = wc := ⟨_, rfl⟩
    have hsc : wc.heap.size = w3.heap.size + 1 := by rw [← hwc]; simp [World.setRow]
    have hkc : ∀ q, q < w3.heap.size → q ≠ g8 → wc.heap[q]? = w3.heap[q]? := fun q h1 h2 => by rw [← hwc]; exact (Below.heap_alloc (w3.setRow g8 (worA x' L3)) _ q (by simpa [World.setRow] using h1)).trans (setRow_other _ _ _ _ h2)
    have hrc : rowOf wc w.heap.size = worA Wor.zero WLoc.zero ∧ frOf wc w.heap.size = (0, 0) := by
     have h9 := rowOf_heap (hkc w.heap.size (by omega) (by omega))
     exact ⟨h9.1.trans a0r, h9.2.trans a0f⟩
    have hrd : rowOf wc g8 = worA x' L3 ∧ frOf wc g8 = (0, 0) := by
     have h8 : wc.heap[g8]? = (w3.setRow g8 (worA x' L3)).heap[g8]? := by rw [← hwc]; exact Below.heap_alloc (w3.setRow g8 (worA x' L3)) _ g8 (by simp [World.setRow]; omega)
     have h9 := rowOf_heap h8
     exact ⟨h9.1.trans (by rw [rowOf_setRow _ _ _ _ hp3, if_pos rfl]), h9.2.trans (by rw [frOf_setRow]; exact a1f)⟩
    have hbc : Bx g w.heap.size w wc := by
     rw [← hwc]
     exact ((HB.out.1.below HB3.out (by omega)).row (by omega) _).below ((Below.refl _ _).alloc (Nat.le_refl _) _) (by simp [World.setRow]; omega)
    have hic : ∀ v : World, (∀ q, g ≠ some q → q < wc.heap.size → v.heap[q]? = wc.heap[q]?) → WorIn v x' L3 := fun v hv => HF3.out v (fun k h1 h2 => by
     simp at h1
     exact (hv k (fun h => by have := HGL.out _ h; omega) (by omega)).trans (hkc k h2 (by omega)))
    have hsc2 : St wc f := HST.out wr wc f (fun k h => by
     have := HGL.out k h
     exact (hkc k (by omega) (by omega)).trans (HB3.out.block k (by omega))) HSt.out
    have HKC := hD hkc
    have HSTEP2 : Hid (Inv l (1 + (k : Int) + 1) x' ∧ x.d.rec_.floor ≤ x'.d.rec_.floor) := hD (by
     have h9 := HSTEP.out
     rw [h9.1] at h9
     exact h9.2)
    have HRC := hD (And.intro hrc hrd)
    have HBC := hD hbc
    rw [hwc]
    refine (HCL.out x' L3 wc (1 + (k : Int) + 1) f HSTEP2.out.1 (by omega) (by omega) (Int.le_trans HX.out.2 HSTEP2.out.2) hic hsc2 hbc).mono ?_
    clear hwc hkc hrc hrd hbc hic hsc2 HSTEP HRR HCL a0r a0f a0n a0c a0z a0l a1r a1f a1n a1c a1z a1l
    rintro en w4 ⟨rfl, hst4, hbx4⟩
    have HB4 := hD hbx4
    have HS4 := hD hst4
    have hs4 := hbx4.size
    clear hst4 hbx4
    go_wp2_with fail
    go_roundw
    case rel =>
     refine ⟨k + 1, x', L3, x'.d.rec_.floor, by omega, by go_num, hD ⟨?_, Int.le_refl _⟩, hD ?_, hD ?_, HS4, hD ⟨HBC.out.trans HB4.out (by omega), by omega⟩⟩
     ·have h9 := HSTEP2.out.1
      rwa [show (1 : Int) + (k : Int) + 1 = 1 + ((k + 1 : Nat) : Int) by omega] at h9
     ·have e0 := HB4.out.rowBelow (by omega) (fun h => by have := HGL.out _ h; omega) HRC.out.1.1 HRC.out.1.2
      have e1 := HB4.out.rowBelow (by omega) (fun h => by have := HGL.out _ h; omega) HRC.out.2.1 HRC.out.2.2
      exact ⟨e0.1, e0.2, e1.1, e1.2⟩
     ·intro v hv
      refine HF3.out v (fun k h1 h2 => ?_)
      simp at h1
      refine (hv k (by omega) (by omega) (by omega)).trans ((HB4.out.2 k (by omega) (fun h => by have := HGL.out _ h; omega)).trans (HKC.out k h2 (by omega)))
    case measure => simp [intOf]; omega
   ·have q : (e' == 0) = false := by simp [c2]
    have HC2 := hD c2
    rw [if_neg c2] at HSTEP
    clear c2
    go_wp2_with fail
    have hkd : ∀ q, q < w3.heap.size → (w3.alloc (.cells (worA x' L3) 41)).heap[q]? = w3.heap[q]? := fun q h1 => Below.heap_alloc w3 _ q h1
    have hrd := rowOf_heap (hkd w.heap.size a0l)
    have hre := rowOf_heap (hkd g8 a1l)
    have HKD := hD hkd
    have HRD := hD (And.intro hrd hre)
    have HRO := hD (And.intro (And.intro a0r a0f) (And.intro a1r a1f))
    clear hkd hrd hre a0r a0f a0n a0c a0z a0l a1r a1f a1n a1c a1z a1l
    go_roundw
    case rel =>
     refine ⟨k + 1, x, L, f, by omega, by go_num, hD ⟨?_, HX.out.2⟩, hD ?_, hD ?_, hD ?_, hD ⟨?_, by simp; omega⟩⟩
     ·have h9 := HSTEP.out.2.1
      rw [HSTEP.out.1] at h9
      rwa [show (1 : Int) + (k : Int) + 1 = 1 + ((k + 1 : Nat) : Int) by omega] at h9
     ·exact ⟨HRD.out.1.1.trans HRO.out.1.1, HRD.out.1.2.trans HRO.out.1.2, HRD.out.2.1.trans HRO.out.2.1, HRD.out.2.2.trans HRO.out.2.2⟩
     ·intro v hv
      exact HWI.out v (fun q h1 h2 h3 => (hv q h1 h2 (by simp; omega)).trans ((HKD.out q (by omega)).trans (HB3.out.block q h3)))
     ·exact HST.out wr _ f (fun k h => by
       have := HGL.out k h
       exact (HKD.out k (by omega)).trans (HB3.out.block k (by omega))) HSt.out
     ·exact HB.out.1.below (HB3.out.alloc (by omega) _) (by omega)
    case measure => simp [intOf]; omega
  ·obtain rfl : k = m := by omega
   have dl : decide ((k : Int) < (k : Int)) = false := by simp
   go_wp2_with fail
   refine bodyPost_ret (results_ct rfl rfl (cs := worA x L) (by go_simp) (by go_simp) (by go_simp)) rfl ⟨x, L, rfl, .inr ⟨1 + (k : Int), HR.out, HX.out.1, by omega, by omega⟩, ?_, ?_⟩
   ·intro v hv
    refine HWI.out v (fun q h1 h2 h3 => ?_)
    refine (hv q (by omega) (by simp [World.setRow]; omega)).trans (setRow_other _ _ _ _ (by omega))
   ·exact HB.out.1.row (Nat.le_refl _) _
end Go.Proofs.Ytefkfglkpebbmad
