/- Walks of functions, and plain words. No conditions. -/
import Derived.Test.YtefkfglkpebbmadP11
import Derived.Test.YtefkfglkpebbmadP12
set_option linter.unusedVariables false
set_option linter.unusedSimpArgs false
set_option maxRecDepth 100000
set_option maxHeartbeats 40000000
namespace Go.Proofs.Ytefkfglkpebbmad
open Go.RowKit
variable {r : Rec} {x : Wor}
theorem DevIn.fin {w : World} {d : Dev} {L : DLoc} (h : DevIn w d L) (p q : Cop) : DevIn w { d with c0 := p, c1 := q, busy := false, job := Pat.zero, done := 0 } { L with aj := none, cj := 0 } := ⟨h.k0, h.l0, h.b0, h.k1, h.l1, h.b1, h.kg, h.lg, h.got, pat_in_zero w, h.ir, ⟨by show -9223372036854775808 ≤ (0:Int); omega, by show (0:Int) ≤ 9223372036854775807; omega⟩⟩
theorem tryIt0 (h : r.active = 0) (x : Inf) : r.tryIt x = { r with trying := true, tries := 3, b := x } := by unfold Rec.tryIt Rec.setOther; rw [if_pos (by exact h)]
theorem tryIt1 (h : r.active = 1) (x : Inf) : r.tryIt x = { r with trying := true, tries := 3, a := x } := by unfold Rec.tryIt Rec.setOther; rw [if_neg (by show ¬ r.active = 0; omega)]
theorem devFinish_bad (d : Dev) (L : DLoc) (torn : Bool) (w : World) (h : DevIn w d L)  (hne : devReady d ≠ 0) : Calls Try.prog 43 #[.agg (devA d L), .bool torn] w (DvRet w Dev.zero (devReady d)) := by
 have hba : Below w.heap.size w ((w.alloc (.cells (devA d L) 39)).alloc (.cells (devA Dev.zero DLoc.zero) 39)) := bA (bA (Below.refl _ _) _) _
 have HBA := hD hba
 have HIN := hD h
 have KB := hD (fun w h => ready_bad d L w h hne)
 have q : (devReady d != 0) = true := by simp [hne]
 generalize devReady d = n at *
 clear hne h hba
 go_enter Try.func43, Try.ntmps43
 go_wp2_with fail
 refine (KB.out _ (HIN.out.stays HBA.out)).mono ?_
 rintro e w1 ⟨rfl, hb1⟩
 obtain ⟨a0r, a0f, a0n, a0c, a0z, a0l⟩ := kp (w.heap.size) (devA d L) hb1
 obtain ⟨a1r, a1f, a1n, a1c, a1z, a1l⟩ := kp (w.heap.size + 1) (devA Dev.zero DLoc.zero) hb1
 have HB1 := hD (HBA.out.trans (hb1.mono (by simp <;> omega)))
 clear hb1
 go_wp2_with fail
 refine bodyPost_ret (results_ct rfl rfl (cs := devA Dev.zero DLoc.zero) (by go_simp) (by go_simp) (by go_simp)) rfl ⟨DLoc.zero, rfl, .const fun v => DevIn.zero v, ?_⟩
 have hs := HB1.out.size
 repeat (first | exact HB1.out | refine bR ?_ _ | refine bC ?_ _ | refine bA ?_ _)
theorem devFinish_ok (d : Dev) (L : DLoc) (torn : Bool) (w : World) (h : DevIn w d L)  (hz : devReady d = 0) : Calls Try.prog 43 #[.agg (devA d L), .bool torn] w (DvRet w (devFinish d torn).1 (devFinish d torn).2) := by
 have hba : Below w.heap.size w ((w.alloc (.cells (devA d L) 39)).alloc (.cells (devA Dev.zero DLoc.zero) 39)) := bA (bA (Below.refl _ _) _) _
 have HBA := hD hba
 have HIN := hD h
 have KR := hD (fun w h => ready_ok d L w h hz)
 have hdef : devFinish d torn = if d.busy = false ∨ d.done < d.job.size then (Dev.zero, 5)
   else if (recWrite d.c0 d.c1 (d.rec_.tryIt ⟨d.job.to_, d.job.size, d.job.new_⟩) torn).2 ≠ 0 then (Dev.zero, (recWrite d.c0 d.c1 (d.rec_.tryIt ⟨d.job.to_, d.job.size, d.job.new_⟩) torn).2)
   else (if torn = true then ({ d.write (d.rec_.tryIt ⟨d.job.to_, d.job.size, d.job.new_⟩) torn with busy := false, job := Pat.zero, done := 0 } : Dev).down else { d.write (d.rec_.tryIt ⟨d.job.to_, d.job.size, d.job.new_⟩) torn with busy := false, job := Pat.zero, done := 0 }, 0) := by unfold devFinish; rw [if_neg (by omega)]
 have hact := rec_active (rec_ok (devReady_ok.1 hz).1)
 unfold Dev.write at hdef
 obtain ⟨rt, hrt⟩ : ∃ rt, d.rec_.tryIt ⟨d.job.to_, d.job.size, d.job.new_⟩ = rt := ⟨_, rfl⟩
 have HT0 : Hid (d.rec_.active = 0 → rt = ⟨d.rec_.gen, 0, true, 3, d.rec_.floor, d.rec_.a, ⟨d.job.to_, d.job.size, d.job.new_⟩⟩) := hD (fun e => by rw [← hrt, tryIt0 e, Rec.mk.injEq]; exact ⟨rfl, e, rfl, rfl, rfl, rfl, rfl⟩)
 have HT1 : Hid (d.rec_.active = 1 → rt = ⟨d.rec_.gen, 1, true, 3, d.rec_.floor, ⟨d.job.to_, d.job.size, d.job.new_⟩, d.rec_.b⟩) := hD (fun e => by rw [← hrt, tryIt1 e, Rec.mk.injEq]; exact ⟨rfl, e, rfl, rfl, rfl, rfl, rfl⟩)
 rw [hrt] at hdef
 have K3 := hD (fun w => write_calls d.c0 d.c1 rt torn w)
 obtain ⟨⟨⟨p1, p2⟩, e3⟩, hw⟩ : ∃ x, recWrite d.c0 d.c1 rt torn = x := ⟨_, rfl⟩
 rw [hw] at hdef K3
 dsimp only at hdef
 have HD := hD hdef
 generalize devFinish d torn = res at *
 clear hz h hba hdef hw hrt
 go_enter Try.func43, Try.ntmps43
 go_wp2_with fail
 refine (KR.out _ (HIN.out.stays HBA.out)).mono ?_
 rintro e w1 ⟨L1, rfl, hfr, hb1⟩
 obtain ⟨a0r, a0f, a0n, a0c, a0z, a0l⟩ := kp (w.heap.size) (devA d L) hb1
 obtain ⟨a1r, a1f, a1n, a1c, a1z, a1l⟩ := kp (w.heap.size + 1) (devA Dev.zero DLoc.zero) hb1
 have HFR : Hid (Fresh (w.heap.size + 2) w1 (fun v => DvOwn v (w.heap.size + 2) d L1)) := hD (by simpa [Nat.add_assoc] using hfr)
 have HB1 := hD (HBA.out.trans (hb1.mono (by simp <;> omega)))
 have hsz1 : w.heap.size + 2 ≤ w1.heap.size := by have := hb1.size; simp at this; omega
 have HK1 : Hid (Kp (w.heap.size + 2) w1 w1) := hD (Kp.refl _ _)
 clear hb1 hfr
 cases hbz : d.busy
 ·have hz : res = (Dev.zero, 5) := HD.out.trans (if_pos (.inl hbz))
  subst hz
  go_wp2_with fail
  refine bodyPost_ret (results_ct rfl rfl (cs := devA Dev.zero DLoc.zero) (by go_simp) (by go_simp) (by go_simp)) rfl ⟨DLoc.zero, rfl, .const fun v => DevIn.zero v, ?_⟩
  have hs := HB1.out.size
  repeat (first | exact HB1.out | refine bR ?_ _ | refine bC ?_ _ | refine bA ?_ _)
 by_cases c1 : d.done < d.job.size
 ·have hz : res = (Dev.zero, 5) := HD.out.trans (if_pos (.inr c1))
  subst hz
  go_wp2_with fail
  refine bodyPost_ret (results_ct rfl rfl (cs := devA Dev.zero DLoc.zero) (by go_simp) (by go_simp) (by go_simp)) rfl ⟨DLoc.zero, rfl, .const fun v => DevIn.zero v, ?_⟩
  have hs := HB1.out.size
  repeat (first | exact HB1.out | refine bR ?_ _ | refine bC ?_ _ | refine bA ?_ _)
 have HD2 := hD (HD.out.trans (if_neg (by rw [hbz]; simpa using c1)))
 clear HD
 rcases hact with hk | hk
 first | case' inl => have T2 : Hid True := hD trivial | case' pos => have T2 : Hid True := hD trivial | case' refine_1 => have T2 : Hid True := hD trivial
 iterate 2
  ·first
    |
     revert T2; intro T2
     have HT := hD (HT0.out hk)
    | have HT := hD (HT1.out hk)
   clear HT0 HT1
   have w1e : IntKind.i64.wrap (1 - 0) = 1 := by decide
   have w2e : IntKind.i64.wrap (1 - 1) = 0 := by decide
   have w3e : IntKind.i64.wrap 1 = 1 := by decide
   have w4e : IntKind.i64.wrap 0 = 0 := by decide
   go_wp2_with fail
   rw [← HT.out]
   refine (K3.out _).mono ?_
   rintro e w3 ⟨rfl, hb⟩
   obtain ⟨a0r, a0f, a0n, a0c, a0z, a0l⟩ := kp (w.heap.size) (devA d L1) hb
   obtain ⟨a1r, a1f, a1n, a1c, a1z, a1l⟩ := kp (w.heap.size + 1) (devA Dev.zero DLoc.zero) hb
   have hbs3 := hb.size
   have hsz3 : w1.heap.size ≤ w3.heap.size := by first | omega | (simp at hbs3; omega)
   have HK3 : Hid (Kp (w.heap.size + 2) w1 w3) := hD (by
    refine Kp.below ?_ (by first | omega | (simp <;> omega)) hb
    repeat (first | exact HK1.out | exact Kp.refl _ _ | refine Kp.row ?_ (by omega) _ | refine Kp.cell ?_ (by first | (show _ < _ ∨ _ ≤ _; omega) | (simp <;> omega)) _ | refine Kp.alloc ?_ (by first | omega | (simp <;> omega)) _))
   have HB3 : Hid (Below w.heap.size w w3) := hD (by
    refine Below.trans ?_ (hb.mono (by first | omega | (simp <;> omega)))
    have hs := HB1.out.size
    repeat (first | exact HB1.out | refine bR ?_ _ | refine bC ?_ _ | refine bA ?_ _))
   clear hb hbs3
   by_cases c3 : e3 ≠ 0
   ·have hz : res = (Dev.zero, e3) := HD2.out.trans (if_pos c3)
    subst hz
    have q : (e3 != 0) = true := by simp [c3]
    clear c3
    go_wp2_with fail
    refine bodyPost_ret (results_ct rfl rfl (cs := devA Dev.zero DLoc.zero) (by go_simp) (by go_simp) (by go_simp)) rfl ⟨DLoc.zero, rfl, .const fun v => DevIn.zero v, ?_⟩
    have hs := HB3.out.size
    repeat (first | exact HB3.out | refine bR ?_ _ | refine bC ?_ _ | refine bA ?_ _)
   have c3 := Decidable.not_not.1 c3
   subst c3
   have HD3 := hD (HD2.out.trans (if_neg (by decide)))
   clear HD2
   cases torn
   case false =>
    have hz : res = ({ d with c0 := p1, c1 := p2, busy := false, job := Pat.zero, done := 0 }, 0) := HD3.out.trans (by rw [if_neg (by decide)])
    subst hz
    go_wp2_with fail
    refine bodyPost_ret (results_ct rfl rfl (cs := devA { d with c0 := p1, c1 := p2, busy := false, job := Pat.zero, done := 0 } { L1 with aj := none, cj := 0 }) (by go_simp) (by go_simp) (by go_simp)) rfl ⟨{ L1 with aj := none, cj := 0 }, rfl, ?_, ?_⟩
    ·refine Fresh.imp (P := fun v => DvOwn v (w.heap.size + 2) d L1) (Fresh.kp HFR.out ?_ (by omega) (by first | omega | (simp <;> omega))) (fun v hv => hv.devIn.fin p1 p2)
     repeat (first | exact HK3.out | exact Kp.refl _ _ | refine Kp.row ?_ (by omega) _ | refine Kp.cell ?_ (by first | (show _ < _ ∨ _ ≤ _; omega) | (simp <;> omega)) _ | refine Kp.alloc ?_ (by first | omega | (simp <;> omega)) _)
    ·have hs := HB3.out.size
     repeat (first | exact HB3.out | refine bR ?_ _ | refine bC ?_ _ | refine bA ?_ _)
   case true =>
    have hz : res = (({ d with c0 := p1, c1 := p2, busy := false, job := Pat.zero, done := 0 } : Dev).down, 0) := HD3.out.trans (by rw [if_pos rfl])
    subst hz
    go_wp2_with fail
    refine (down_calls { d with c0 := p1, c1 := p2, busy := false, job := Pat.zero, done := 0 } { L1 with aj := none, cj := 0 } _).mono ?_
    rintro e w4 ⟨rfl, hb⟩
    obtain ⟨a0r, a0f, a0n, a0c, a0z, a0l⟩ := kp (w.heap.size + 1) (devA Dev.zero DLoc.zero) hb
    obtain ⟨a1r, a1f, a1n, a1c, a1z, a1l⟩ := kp (w.heap.size) (devA { d with c0 := p1, c1 := p2, busy := false, job := Pat.zero, done := 0 } { L1 with aj := none, cj := 0 }) hb
    have hbs4 := hb.size
    have hsz4 : w1.heap.size ≤ w4.heap.size := by first | omega | (simp at hbs4; omega)
    have HK4 : Hid (Kp (w.heap.size + 2) w1 w4) := hD (by
     refine Kp.below ?_ (by first | omega | (simp <;> omega)) hb
     repeat (first | exact HK3.out | exact Kp.refl _ _ | refine Kp.row ?_ (by omega) _ | refine Kp.cell ?_ (by first | (show _ < _ ∨ _ ≤ _; omega) | (simp <;> omega)) _ | refine Kp.alloc ?_ (by first | omega | (simp <;> omega)) _))
    have HB4 : Hid (Below w.heap.size w w4) := hD (by
     refine Below.trans ?_ (hb.mono (by first | omega | (simp <;> omega)))
     have hs := HB3.out.size
     repeat (first | exact HB3.out | refine bR ?_ _ | refine bC ?_ _ | refine bA ?_ _))
    clear hb hbs4
    go_wp2_with fail
    refine bodyPost_ret (results_ct rfl rfl (cs := devA ({ d with c0 := p1, c1 := p2, busy := false, job := Pat.zero, done := 0 } : Dev).down ({ L1 with aj := none, cj := 0 } : DLoc).down) (by go_simp) (by go_simp) (by go_simp)) rfl ⟨({ L1 with aj := none, cj := 0 } : DLoc).down, rfl, ?_, ?_⟩
    ·refine Fresh.imp (P := fun v => DvOwn v (w.heap.size + 2) d L1) (Fresh.kp HFR.out ?_ (by omega) (by first | omega | (simp <;> omega))) (fun v hv => (hv.devIn.fin p1 p2).down)
     repeat (first | exact HK4.out | exact Kp.refl _ _ | refine Kp.row ?_ (by omega) _ | refine Kp.cell ?_ (by first | (show _ < _ ∨ _ ≤ _; omega) | (simp <;> omega)) _ | refine Kp.alloc ?_ (by first | omega | (simp <;> omega)) _)
    ·have hs := HB4.out.size
     repeat (first | exact HB4.out | refine bR ?_ _ | refine bC ?_ _ | refine bA ?_ _)
theorem devFinish_calls (d : Dev) (L : DLoc) (torn : Bool) (w : World) (h : DevIn w d L) : Calls Try.prog 43 #[.agg (devA d L), .bool torn] w (DvRet w (devFinish d torn).1 (devFinish d torn).2) := by
 by_cases hz : devReady d = 0
 ·exact devFinish_ok d L torn w h hz
 ·have e : devFinish d torn = (Dev.zero, devReady d) := by unfold devFinish; rw [if_pos hz]
  rw [e]; exact devFinish_bad d L torn w h hz
theorem devCrash_bad (d : Dev) (L : DLoc) (w : World) (h : DevIn w d L)  (hne : devReady d ≠ 0) : Calls Try.prog 22 #[.agg (devA d L)] w (DvRet w Dev.zero (devReady d)) := by
 have hba : Below w.heap.size w ((w.alloc (.cells (devA d L) 39)).alloc (.cells (devA Dev.zero DLoc.zero) 39)) := bA (bA (Below.refl _ _) _) _
 have HBA := hD hba
 have HIN := hD h
 have KB := hD (fun w h => ready_bad d L w h hne)
 have q : (devReady d != 0) = true := by simp [hne]
 generalize devReady d = n at *
 clear hne h hba
 go_enter Try.func22, Try.ntmps22
 go_wp2_with fail
 refine (KB.out _ (HIN.out.stays HBA.out)).mono ?_
 rintro e w1 ⟨rfl, hb1⟩
 obtain ⟨a0r, a0f, a0n, a0c, a0z, a0l⟩ := kp (w.heap.size) (devA d L) hb1
 obtain ⟨a1r, a1f, a1n, a1c, a1z, a1l⟩ := kp (w.heap.size + 1) (devA Dev.zero DLoc.zero) hb1
 have HB1 := hD (HBA.out.trans (hb1.mono (by simp <;> omega)))
 clear hb1
 go_wp2_with fail
 refine bodyPost_ret (results_ct rfl rfl (cs := devA Dev.zero DLoc.zero) (by go_simp) (by go_simp) (by go_simp)) rfl ⟨DLoc.zero, rfl, .const fun v => DevIn.zero v, ?_⟩
 have hs := HB1.out.size
 repeat (first | exact HB1.out | refine bR ?_ _ | refine bC ?_ _ | refine bA ?_ _)
theorem devCrash_ok (d : Dev) (L : DLoc) (w : World) (h : DevIn w d L)  (hz : devReady d = 0) : Calls Try.prog 22 #[.agg (devA d L)] w (DvRet w d.down 0) := by
 have hba : Below w.heap.size w ((w.alloc (.cells (devA d L) 39)).alloc (.cells (devA Dev.zero DLoc.zero) 39)) := bA (bA (Below.refl _ _) _) _
 have HBA := hD hba
 have HIN := hD h
 have KR := hD (fun w h => ready_ok d L w h hz)
 clear hz h hba
 go_enter Try.func22, Try.ntmps22
 go_wp2_with fail
 refine (KR.out _ (HIN.out.stays HBA.out)).mono ?_
 rintro e w1 ⟨L1, rfl, hfr, hb1⟩
 obtain ⟨a0r, a0f, a0n, a0c, a0z, a0l⟩ := kp (w.heap.size) (devA d L) hb1
 obtain ⟨a1r, a1f, a1n, a1c, a1z, a1l⟩ := kp (w.heap.size + 1) (devA Dev.zero DLoc.zero) hb1
 have HFR : Hid (Fresh (w.heap.size + 2) w1 (fun v => DvOwn v (w.heap.size + 2) d L1)) := hD (by simpa [Nat.add_assoc] using hfr)
 have HB1 := hD (HBA.out.trans (hb1.mono (by simp <;> omega)))
 have hsz1 : w.heap.size + 2 ≤ w1.heap.size := by have := hb1.size; simp at this; omega
 have HK1 : Hid (Kp (w.heap.size + 2) w1 w1) := hD (Kp.refl _ _)
 clear hb1 hfr
 go_wp2_with fail
 refine (down_calls d L1 _).mono ?_
 rintro e w2 ⟨rfl, hb2⟩
 obtain ⟨a0r, a0f, a0n, a0c, a0z, a0l⟩ := kp (w.heap.size) (devA d L1) hb2
 obtain ⟨a1r, a1f, a1n, a1c, a1z, a1l⟩ := kp (w.heap.size + 1) (devA Dev.zero DLoc.zero) hb2
 have HB12 : Hid (Below w1.heap.size w1 w2 ∨ True) := hD (.inr trivial)
 have hs1 := HB1.out.size
 have HX : Hid (Fresh (w.heap.size + 2) w2 (fun v => DvOwn v (w.heap.size + 2) d L1)) := hD (by
  refine Fresh.below ?_ hb2 (Nat.le_refl _)
  repeat (first | exact HFR.out | refine Fresh.row ?_ (by omega) _ | refine Fresh.alloc ?_ _))
 have HB2 : Hid (Below w.heap.size w w2) := hD (by
  refine Below.trans ?_ (hb2.mono (by first | omega | (simp <;> omega)))
  repeat (first | exact HB1.out | refine bR ?_ _ | refine bC ?_ _ | refine bA ?_ _))
 clear hb2 HFR
 go_wp2_with fail
 refine bodyPost_ret (results_ct rfl rfl (cs := devA d.down L1.down) (by go_simp) (by go_simp) (by go_simp)) rfl ⟨L1.down, rfl, ?_, ?_⟩
 ·refine Fresh.imp (P := fun v => DvOwn v (w.heap.size + 2) d L1) (Fresh.mono (base := w.heap.size + 2) ?_ (by omega)) (fun v hv => hv.devIn.down)
  repeat (first | exact HX.out | refine Fresh.row ?_ (by omega) _)
 ·have hs := HB2.out.size
  repeat (first | exact HB2.out | refine bR ?_ _ | refine bC ?_ _ | refine bA ?_ _)
theorem devCrash_calls (d : Dev) (L : DLoc) (w : World) (h : DevIn w d L) : Calls Try.prog 22 #[.agg (devA d L)] w (DvRet w (devCrash d).1 (devCrash d).2) := by
 unfold devCrash
 by_cases hz : devReady d = 0
 ·rw [if_neg (by omega)]; exact devCrash_ok d L w h hz
 ·rw [if_pos hz]; exact devCrash_bad d L w h hz
theorem DevIn.booted {w : World} {d : Dev} {L : DLoc} (h : DevIn w d L) (p q : Cop) (k : Int) (hk : k = 0 ∨ k = 1) : DevIn w { d with c0 := p, c1 := q, up := true, running := k } L := ⟨h.k0, h.l0, h.b0, h.k1, h.l1, h.b1, h.kg, h.lg, h.got, h.job, ⟨by show -9223372036854775808 ≤ k; omega, by show k ≤ 9223372036854775807; omega⟩, h.id⟩
theorem start_slot (h : recCheck r = 0) : (recStart r).1 = 0 ∨ (recStart r).1 = 1 := by
 have := rec_active h
 unfold recStart
 repeat' split
 all_goals (try dsimp only)
 all_goals first | omega | (unfold nowAt; omega)
theorem devBoot_bad (d : Dev) (L : DLoc) (w : World) (h : DevIn w d L) (hne : devCheck d ≠ 0) : Calls Try.prog 23 #[.agg (devA d L)] w (DvRet w Dev.zero (devCheck d)) := by
 have hba : Below w.heap.size w ((w.alloc (.cells (devA d L) 39)).alloc (.cells (devA Dev.zero DLoc.zero) 39)) := bA (bA (Below.refl _ _) _) _
 have HBA := hD hba
 have HIN := hD h
 have K1 := hD (fun w h => devCheck_calls d L w h)
 have q : (devCheck d != 0) = true := by simp [hne]
 generalize devCheck d = n at *
 clear hne h hba
 go_enter Try.func23, Try.ntmps23
 go_wp2_with fail
 refine (K1.out _ (HIN.out.stays HBA.out)).mono ?_
 rintro e w1 ⟨rfl, hb1⟩
 obtain ⟨a0r, a0f, a0n, a0c, a0z, a0l⟩ := kp (w.heap.size) (devA d L) hb1
 obtain ⟨a1r, a1f, a1n, a1c, a1z, a1l⟩ := kp (w.heap.size + 1) (devA Dev.zero DLoc.zero) hb1
 have HB1 := hD (HBA.out.trans (hb1.mono (by simp <;> omega)))
 have hsz1 : w.heap.size + 2 ≤ w1.heap.size := by have := hb1.size; simp at this; omega
 clear hb1
 go_wp2_with fail
 refine bodyPost_ret (results_ct rfl rfl (cs := devA Dev.zero DLoc.zero) (by go_simp) (by go_simp) (by go_simp)) rfl ⟨DLoc.zero, rfl, .const fun v => DevIn.zero v, ?_⟩
 have hs := HB1.out.size
 repeat (first | exact HB1.out | refine bR ?_ _ | refine bC ?_ _ | refine bA ?_ _)
theorem devBoot_late (d : Dev) (L : DLoc) (w : World) (h : DevIn w d L) (hz : devCheck d = 0) (hu : d.up = true) : Calls Try.prog 23 #[.agg (devA d L)] w (DvRet w Dev.zero 5) := by
 have hba : Below w.heap.size w ((w.alloc (.cells (devA d L) 39)).alloc (.cells (devA Dev.zero DLoc.zero) 39)) := bA (bA (Below.refl _ _) _) _
 have HBA := hD hba
 have HIN := hD h
 have K1 := hD (fun w h => devCheck_calls d L w h)
 rw [hz] at K1
 clear hz h hba
 go_enter Try.func23, Try.ntmps23
 go_wp2_with fail
 refine (K1.out _ (HIN.out.stays HBA.out)).mono ?_
 rintro e w1 ⟨rfl, hb1⟩
 obtain ⟨a0r, a0f, a0n, a0c, a0z, a0l⟩ := kp (w.heap.size) (devA d L) hb1
 obtain ⟨a1r, a1f, a1n, a1c, a1z, a1l⟩ := kp (w.heap.size + 1) (devA Dev.zero DLoc.zero) hb1
 have HB1 := hD (HBA.out.trans (hb1.mono (by simp <;> omega)))
 have hsz1 : w.heap.size + 2 ≤ w1.heap.size := by have := hb1.size; simp at this; omega
 clear hb1
 go_wp2_with fail
 refine bodyPost_ret (results_ct rfl rfl (cs := devA Dev.zero DLoc.zero) (by go_simp) (by go_simp) (by go_simp)) rfl ⟨DLoc.zero, rfl, .const fun v => DevIn.zero v, ?_⟩
 have hs := HB1.out.size
 repeat (first | exact HB1.out | refine bR ?_ _ | refine bC ?_ _ | refine bA ?_ _)
theorem devBoot_ok (d : Dev) (L : DLoc) (w : World) (h : DevIn w d L) (hz : devCheck d = 0) (hu : d.up = false) : Calls Try.prog 23 #[.agg (devA d L)] w (DvRet w (devBoot d).1 (devBoot d).2) := by
 have hba : Below w.heap.size w ((w.alloc (.cells (devA d L) 39)).alloc (.cells (devA Dev.zero DLoc.zero) 39)) := bA (bA (Below.refl _ _) _) _
 have HBA := hD hba
 have HIN := hD h
 have K1 := hD (fun w h => devCheck_calls d L w h)
 have hdef : devBoot d = if (recStart d.rec_).2.2 ≠ 0 then (Dev.zero, (recStart d.rec_).2.2)
   else if (recStart d.rec_).2.1 ≠ d.rec_ then
    (if (recWrite d.c0 d.c1 (recStart d.rec_).2.1 false).2 ≠ 0 then (Dev.zero, (recWrite d.c0 d.c1 (recStart d.rec_).2.1 false).2)
    else ({ d with c0 := (recWrite d.c0 d.c1 (recStart d.rec_).2.1 false).1.1, c1 := (recWrite d.c0 d.c1 (recStart d.rec_).2.1 false).1.2, up := true, running := (recStart d.rec_).1 }, 0))
   else ({ d with c0 := d.c0, c1 := d.c1, up := true, running := (recStart d.rec_).1 }, 0) := by unfold devBoot; rw [if_neg (by omega), if_neg (by rw [hu]; decide)]; rfl
 have hok := devCheck_ok.1 hz
 have hrec := rec_ok hok
 have HSL := hD (start_slot hrec)
 have KC := hD (fun w h => devCopy_calls d L w h)
 have K2 := hD (fun w => read_ok d.c0 d.c1 w hok.cops)
 obtain ⟨rk, hrk⟩ : ∃ rk, (recRead d.c0 d.c1).2 = rk := ⟨_, rfl⟩
 have hre : (recRead d.c0 d.c1).1 = d.rec_ := rfl
 rw [hrk, hre] at K2
 have K3 := hD (fun w => start_calls d.rec_ w)
 obtain ⟨⟨k, nx, e3⟩, hq⟩ : ∃ x, recStart d.rec_ = x := ⟨_, rfl⟩
 rw [hq] at hdef K3 HSL
 dsimp only at hdef K3 HSL
 have K4 := hD (fun w => write_calls d.c0 d.c1 nx false w)
 obtain ⟨⟨⟨p1, p2⟩, e4⟩, hw⟩ : ∃ x, recWrite d.c0 d.c1 nx false = x := ⟨_, rfl⟩
 rw [hw] at hdef K4
 dsimp only at hdef
 have HD := hD hdef
 rw [hz] at K1
 generalize devBoot d = res at *
 clear hdef hok hrec hrk hre hq hw hz h hba
 go_enter Try.func23, Try.ntmps23
 go_wp2_with fail
 refine (K1.out _ (HIN.out.stays HBA.out)).mono ?_
 rintro e w1 ⟨rfl, hb1⟩
 obtain ⟨a0r, a0f, a0n, a0c, a0z, a0l⟩ := kp (w.heap.size) (devA d L) hb1
 obtain ⟨a1r, a1f, a1n, a1c, a1z, a1l⟩ := kp (w.heap.size + 1) (devA Dev.zero DLoc.zero) hb1
 have HB1 := hD (HBA.out.trans (hb1.mono (by simp <;> omega)))
 have hsz1 : w.heap.size + 2 ≤ w1.heap.size := by have := hb1.size; simp at this; omega
 clear hb1
 go_wp2_with fail
 refine (KC.out _ (HIN.out.stays HB1.out)).mono ?_
 rintro e w2 ⟨L1, rfl, hfr, hb⟩
 obtain ⟨a0r, a0f, a0n, a0c, a0z, a0l⟩ := kp (w.heap.size) (devA d L) hb
 obtain ⟨a1r, a1f, a1n, a1c, a1z, a1l⟩ := kp (w.heap.size + 1) (devA Dev.zero DLoc.zero) hb
 have HFR := hD hfr
 have hsz2 : w1.heap.size ≤ w2.heap.size := hb.size
 have HB2 : Hid (Below w.heap.size w w2) := hD (HB1.out.trans (hb.mono HB1.out.size))
 have HK2 : Hid (Kp w1.heap.size w2 w2) := hD (Kp.refl _ _)
 clear hb hfr
 go_wp2_with fail
 refine (K2.out _).mono ?_
 rintro e w3 ⟨rfl, hb⟩
 obtain ⟨a0r, a0f, a0n, a0c, a0z, a0l⟩ := kp (w.heap.size) (devA d L1) hb
 obtain ⟨a1r, a1f, a1n, a1c, a1z, a1l⟩ := kp (w.heap.size + 1) (devA Dev.zero DLoc.zero) hb
 have hbs3 := hb.size
 have hsz3 : w2.heap.size ≤ w3.heap.size := by first | omega | (simp [World.setRow] at hbs3; omega)
 have HK3 : Hid (Kp w1.heap.size w2 w3) := hD (by
  refine Kp.below ?_ (by first | omega | (simp [World.setRow] <;> omega)) hb
  repeat (first | exact HK2.out | exact Kp.refl _ _ | refine Kp.row ?_ (by omega) _ | refine Kp.cell ?_ (by first | (show _ < _ ∨ _ ≤ _; omega) | (simp <;> omega)) _ | refine Kp.alloc ?_ (by first | omega | (simp <;> omega)) _))
 have HB3 : Hid (Below w.heap.size w w3) := hD (by
  refine Below.trans ?_ (hb.mono (by first | omega | (simp [World.setRow] <;> omega)))
  have hs := HB2.out.size
  repeat (first | exact HB2.out | refine bR ?_ _ | refine bC ?_ _ | refine bA ?_ _))
 clear hb hbs3
 go_wp2_with fail
 refine (K3.out _).mono ?_
 rintro e w4 ⟨rfl, hb⟩
 obtain ⟨a0r, a0f, a0n, a0c, a0z, a0l⟩ := kp (w.heap.size) (devA d L1) hb
 obtain ⟨a1r, a1f, a1n, a1c, a1z, a1l⟩ := kp (w.heap.size + 1) (devA Dev.zero DLoc.zero) hb
 obtain ⟨a2r, a2f, a2n, a2c, a2z, a2l⟩ := kp (w3.heap.size) (recA d.rec_) hb
 have hbs4 := hb.size
 have hsz4 : w2.heap.size ≤ w4.heap.size := by first | omega | (simp [World.setRow] at hbs4; omega)
 have HK4 : Hid (Kp w1.heap.size w2 w4) := hD (by
  refine Kp.below ?_ (by first | omega | (simp [World.setRow] <;> omega)) hb
  repeat (first | exact HK3.out | exact Kp.refl _ _ | refine Kp.row ?_ (by omega) _ | refine Kp.cell ?_ (by first | (show _ < _ ∨ _ ≤ _; omega) | (simp <;> omega)) _ | refine Kp.alloc ?_ (by first | omega | (simp <;> omega)) _))
 have HB4 : Hid (Below w.heap.size w w4) := hD (by
  refine Below.trans ?_ (hb.mono (by first | omega | (simp [World.setRow] <;> omega)))
  have hs := HB3.out.size
  repeat (first | exact HB3.out | refine bR ?_ _ | refine bC ?_ _ | refine bA ?_ _))
 clear hb hbs4
 have hsz34 : w3.heap.size < w4.heap.size := a2l
 by_cases c3 : e3 ≠ 0
 ·have hz : res = (Dev.zero, e3) := HD.out.trans (if_pos c3)
  subst hz
  have q : (e3 != 0) = true := by simp [c3]
  clear c3
  go_wp2_with fail
  refine bodyPost_ret (results_ct rfl rfl (cs := devA Dev.zero DLoc.zero) (by go_simp) (by go_simp) (by go_simp)) rfl ⟨DLoc.zero, rfl, .const fun v => DevIn.zero v, ?_⟩
  have hs := HB4.out.size
  repeat (first | exact HB4.out | refine bR ?_ _ | refine bC ?_ _ | refine bA ?_ _)
 have c3 := Decidable.not_not.1 c3
 subst c3
 have HD2 := hD (HD.out.trans (if_neg (by decide)))
 clear HD
 by_cases c4 : nx ≠ d.rec_
 ·have HD3 := hD (HD2.out.trans (if_pos c4))
  have q4 : decide (nx = d.rec_) = false := decide_eq_false c4
  clear HD2 c4
  go_wp2_with fail
  refine (K4.out _).mono ?_
  rintro e w5 ⟨rfl, hb⟩
  obtain ⟨a0r, a0f, a0n, a0c, a0z, a0l⟩ := kp (w.heap.size) (devA d L1) hb
  obtain ⟨a1r, a1f, a1n, a1c, a1z, a1l⟩ := kp (w.heap.size + 1) (devA Dev.zero DLoc.zero) hb
  have hbs5 := hb.size
  have hsz5 : w2.heap.size ≤ w5.heap.size := by first | omega | (simp [World.setRow] at hbs5; omega)
  have HK5 : Hid (Kp w1.heap.size w2 w5) := hD (by
   refine Kp.below ?_ (by first | omega | (simp [World.setRow] <;> omega)) hb
   repeat (first | exact HK4.out | exact Kp.refl _ _ | refine Kp.row ?_ (by omega) _ | refine Kp.cell ?_ (by first | (show _ < _ ∨ _ ≤ _; omega) | (simp <;> omega)) _ | refine Kp.alloc ?_ (by first | omega | (simp <;> omega)) _))
  have HB5 : Hid (Below w.heap.size w w5) := hD (by
   refine Below.trans ?_ (hb.mono (by first | omega | (simp [World.setRow] <;> omega)))
   have hs := HB4.out.size
   repeat (first | exact HB4.out | refine bR ?_ _ | refine bC ?_ _ | refine bA ?_ _))
  clear hb hbs5
  by_cases c5 : e4 ≠ 0
  ·have hz : res = (Dev.zero, e4) := HD3.out.trans (if_pos c5)
   subst hz
   have q : (e4 != 0) = true := by simp [c5]
   clear c5
   go_wp2_with fail
   refine bodyPost_ret (results_ct rfl rfl (cs := devA Dev.zero DLoc.zero) (by go_simp) (by go_simp) (by go_simp)) rfl ⟨DLoc.zero, rfl, .const fun v => DevIn.zero v, ?_⟩
   have hs := HB5.out.size
   repeat (first | exact HB5.out | refine bR ?_ _ | refine bC ?_ _ | refine bA ?_ _)
  have c5 := Decidable.not_not.1 c5
  subst c5
  have hz : res = ({ d with c0 := p1, c1 := p2, up := true, running := k }, 0) := HD3.out.trans (if_neg (by decide))
  subst hz
  clear hu
  go_wp2_with fail
  refine bodyPost_ret (results_ct rfl rfl (cs := devA { d with c0 := p1, c1 := p2, up := true, running := k } L1) (by go_simp) (by go_simp) (by go_simp)) rfl ⟨L1, rfl, ?_, ?_⟩
  ·refine Fresh.imp (P := fun v => DvOwn v w1.heap.size d L1) (Fresh.kp HFR.out ?_ (by omega) (by first | omega | (simp [World.setRow] <;> omega))) (fun v hv => hv.devIn.booted p1 p2 k HSL.out)
   repeat (first | exact HK5.out | exact Kp.refl _ _ | refine Kp.row ?_ (by omega) _ | refine Kp.cell ?_ (by first | (show _ < _ ∨ _ ≤ _; omega) | (simp <;> omega)) _ | refine Kp.alloc ?_ (by first | omega | (simp <;> omega)) _)
  ·have hs := HB5.out.size
   repeat (first | exact HB5.out | refine bR ?_ _ | refine bC ?_ _ | refine bA ?_ _)
 ·have hz : res = ({ d with c0 := d.c0, c1 := d.c1, up := true, running := k }, 0) := HD2.out.trans (if_neg c4)
  have q4 : decide (nx = d.rec_) = true := decide_eq_true (Decidable.not_not.1 c4)
  subst hz
  clear c4 hu
  go_wp2_with fail
  refine bodyPost_ret (results_ct rfl rfl (cs := devA { d with c0 := d.c0, c1 := d.c1, up := true, running := k } L1) (by go_simp) (by go_simp) (by go_simp)) rfl ⟨L1, rfl, ?_, ?_⟩
  ·refine Fresh.imp (P := fun v => DvOwn v w1.heap.size d L1) (Fresh.kp HFR.out ?_ (by omega) (by first | omega | (simp [World.setRow] <;> omega))) (fun v hv => hv.devIn.booted d.c0 d.c1 k HSL.out)
   repeat (first | exact HK4.out | exact Kp.refl _ _ | refine Kp.row ?_ (by omega) _ | refine Kp.cell ?_ (by first | (show _ < _ ∨ _ ≤ _; omega) | (simp <;> omega)) _ | refine Kp.alloc ?_ (by first | omega | (simp <;> omega)) _)
  ·have hs := HB4.out.size
   repeat (first | exact HB4.out | refine bR ?_ _ | refine bC ?_ _ | refine bA ?_ _)
theorem devBoot_calls (d : Dev) (L : DLoc) (w : World) (h : DevIn w d L) : Calls Try.prog 23 #[.agg (devA d L)] w (DvRet w (devBoot d).1 (devBoot d).2) := by
 by_cases hz : devCheck d = 0
 ·cases hu : d.up
  ·exact devBoot_ok d L w h hz hu
  ·have e : devBoot d = (Dev.zero, 5) := by unfold devBoot; rw [if_neg (by omega), if_pos hu]
   rw [e]; exact devBoot_late d L w h hz hu
 ·have e : devBoot d = (Dev.zero, devCheck d) := by unfold devBoot; rw [if_pos hz]
  rw [e]; exact devBoot_bad d L w h hz
theorem happen_5_ : (∀ (g base m top : Nat) (ds : List (Option Addr × Nat)) (n : Int) (x : Wor) (L : WLoc) (w : World) (hr : rowOf w g = worA x L) (hf : frOf w g = (0, 0)) (hg : g < base ∨ top ≤ g) (h : WorAt w base m top ds x L), Calls Try.prog 25 #[.pointer (some ⟨g, 0, none⟩), .agg #[iv 5, iv n]] w (HaRet w g base (worDevice x (devOpen x.d)).1 (worDevice x (devOpen x.d)).2)) ∧ (∀ (g base m top : Nat) (ds : List (Option Addr × Nat)) (n : Int) (x : Wor) (L : WLoc) (w : World) (hr : rowOf w g = worA x L) (hf : frOf w g = (0, 0)) (hg : g < base ∨ top ≤ g) (h : WorAt w base m top ds x L), Calls Try.prog 25 #[.pointer (some ⟨g, 0, none⟩), .agg #[iv 6, iv n]] w (HaRet w g base (worDevice x (devWrite x.d false n)).1 (worDevice x (devWrite x.d false n)).2)) ∧ (∀ (g base m top : Nat) (ds : List (Option Addr × Nat)) (n : Int) (x : Wor) (L : WLoc) (w : World) (hr : rowOf w g = worA x L) (hf : frOf w g = (0, 0)) (hg : g < base ∨ top ≤ g) (h : WorAt w base m top ds x L), Calls Try.prog 25 #[.pointer (some ⟨g, 0, none⟩), .agg #[iv 7, iv n]] w (HaRet w g base (worDevice x (devFinish x.d false)).1 (worDevice x (devFinish x.d false)).2)) ∧ (∀ (g base m top : Nat) (ds : List (Option Addr × Nat)) (n : Int) (x : Wor) (L : WLoc) (w : World) (hr : rowOf w g = worA x L) (hf : frOf w g = (0, 0)) (hg : g < base ∨ top ≤ g) (h : WorAt w base m top ds x L), Calls Try.prog 25 #[.pointer (some ⟨g, 0, none⟩), .agg #[iv 8, iv n]] w (HaRet w g base (worDevice x (devConfirm x.d)).1 (worDevice x (devConfirm x.d)).2)) ∧ (∀ (g base m top : Nat) (ds : List (Option Addr × Nat)) (n : Int) (x : Wor) (L : WLoc) (w : World) (hr : rowOf w g = worA x L) (hf : frOf w g = (0, 0)) (hg : g < base ∨ top ≤ g) (h : WorAt w base m top ds x L), Calls Try.prog 25 #[.pointer (some ⟨g, 0, none⟩), .agg #[iv 9, iv n]] w (HaRet w g base (worDevice x (devCrash x.d)).1 (worDevice x (devCrash x.d)).2)) ∧ (∀ (g base m top : Nat) (ds : List (Option Addr × Nat)) (n : Int) (x : Wor) (L : WLoc) (w : World) (hr : rowOf w g = worA x L) (hf : frOf w g = (0, 0)) (hg : g < base ∨ top ≤ g) (h : WorAt w base m top ds x L), Calls Try.prog 25 #[.pointer (some ⟨g, 0, none⟩), .agg #[iv 10, iv n]] w (HaRet w g base (worDevice x (devBoot x.d)).1 (worDevice x (devBoot x.d)).2)) ∧ (∀ (g base m top : Nat) (ds : List (Option Addr × Nat)) (n : Int) (x : Wor) (L : WLoc) (w : World) (hr : rowOf w g = worA x L) (hf : frOf w g = (0, 0)) (hg : g < base ∨ top ≤ g) (h : WorAt w base m top ds x L), Calls Try.prog 25 #[.pointer (some ⟨g, 0, none⟩), .agg #[iv 11, iv n]] w (HaRet w g base (worDevice x (devWrite x.d true n)).1 (worDevice x (devWrite x.d true n)).2)) ∧ (∀ (g base m top : Nat) (ds : List (Option Addr × Nat)) (n : Int) (x : Wor) (L : WLoc) (w : World) (hr : rowOf w g = worA x L) (hf : frOf w g = (0, 0)) (hg : g < base ∨ top ≤ g) (h : WorAt w base m top ds x L), Calls Try.prog 25 #[.pointer (some ⟨g, 0, none⟩), .agg #[iv 12, iv n]] w (HaRet w g base (worDevice x (devFinish x.d true)).1 (worDevice x (devFinish x.d true)).2)) := by
 refine ⟨?_, ?_, ?_, ?_, ?_, ?_, ?_, ?_⟩
 case' refine_1 => have U01 : Hid True := hD trivial; have U02 : Hid True := hD trivial; have U03 : Hid True := hD trivial; have U04 : Hid True := hD trivial; have U05 : Hid True := hD trivial; have U06 : Hid True := hD trivial; have U07 : Hid True := hD trivial; intro g base m top ds n x L w hr hf hg h
 case' refine_2 => have U02 : Hid True := hD trivial; have U03 : Hid True := hD trivial; have U04 : Hid True := hD trivial; have U05 : Hid True := hD trivial; have U06 : Hid True := hD trivial; have U07 : Hid True := hD trivial; intro g base m top ds n x L w hr hf hg h
 case' refine_3 => have U03 : Hid True := hD trivial; have U04 : Hid True := hD trivial; have U05 : Hid True := hD trivial; have U06 : Hid True := hD trivial; have U07 : Hid True := hD trivial; intro g base m top ds n x L w hr hf hg h
 case' refine_4 => have U04 : Hid True := hD trivial; have U05 : Hid True := hD trivial; have U06 : Hid True := hD trivial; have U07 : Hid True := hD trivial; intro g base m top ds n x L w hr hf hg h
 case' refine_5 => have U05 : Hid True := hD trivial; have U06 : Hid True := hD trivial; have U07 : Hid True := hD trivial; intro g base m top ds n x L w hr hf hg h
 case' refine_6 => have U06 : Hid True := hD trivial; have U07 : Hid True := hD trivial; intro g base m top ds n x L w hr hf hg h
 case' refine_7 => have U07 : Hid True := hD trivial; intro g base m top ds n x L w hr hf hg h
 case' refine_8 => intro g base m top ds n x L w hr hf hg h
 all_goals
  have hlt : g < w.heap.size := row_lt (w := w) (by rw [hr]; simp [worA])
  have hm3 := h.h3
  have hm2 := h.h2
  have hm1 := h.h1
  obtain ⟨a0r, a0f, a0n, a0c, a0z, a0l⟩ := keep1 (Below.refl w.heap.size w) hr (by go_simp) hf
  first
   |
    revert U07; intro U07
    first
     |
      revert U06; intro U06
      first
       |
        revert U05; intro U05
        first
         |
          revert U04; intro U04
          first
           |
            revert U03; intro U03
            first
             |
              revert U02; intro U02
              first
               |
                revert U01; intro U01
                have HBA : Hid (Below w.heap.size w ((w.alloc (.cells #[iv 5, iv n] 52)).alloc (.cells (devA x.d L.l) 39))) := hD (((Below.refl _ _).alloc (Nat.le_refl _) _).alloc (by simp) _)
               | have HBA : Hid (Below w.heap.size w ((w.alloc (.cells #[iv 6, iv n] 52)).alloc (.cells (devA x.d L.l) 39))) := hD (((Below.refl _ _).alloc (Nat.le_refl _) _).alloc (by simp) _)
             | have HBA : Hid (Below w.heap.size w ((w.alloc (.cells #[iv 7, iv n] 52)).alloc (.cells (devA x.d L.l) 39))) := hD (((Below.refl _ _).alloc (Nat.le_refl _) _).alloc (by simp) _)
           | have HBA : Hid (Below w.heap.size w ((w.alloc (.cells #[iv 8, iv n] 52)).alloc (.cells (devA x.d L.l) 39))) := hD (((Below.refl _ _).alloc (Nat.le_refl _) _).alloc (by simp) _)
         | have HBA : Hid (Below w.heap.size w ((w.alloc (.cells #[iv 9, iv n] 52)).alloc (.cells (devA x.d L.l) 39))) := hD (((Below.refl _ _).alloc (Nat.le_refl _) _).alloc (by simp) _)
       | have HBA : Hid (Below w.heap.size w ((w.alloc (.cells #[iv 10, iv n] 52)).alloc (.cells (devA x.d L.l) 39))) := hD (((Below.refl _ _).alloc (Nat.le_refl _) _).alloc (by simp) _)
     | have HBA : Hid (Below w.heap.size w ((w.alloc (.cells #[iv 11, iv n] 52)).alloc (.cells (devA x.d L.l) 39))) := hD (((Below.refl _ _).alloc (Nat.le_refl _) _).alloc (by simp) _)
   | have HBA : Hid (Below w.heap.size w ((w.alloc (.cells #[iv 12, iv n] 52)).alloc (.cells (devA x.d L.l) 39))) := hD (((Below.refl _ _).alloc (Nat.le_refl _) _).alloc (by simp) _)
  first
   |
    revert U07; intro U07
    first
     |
      revert U06; intro U06
      first
       |
        revert U05; intro U05
        first
         |
          revert U04; intro U04
          first
           |
            revert U03; intro U03
            first
             |
              revert U02; intro U02
              first
               |
                revert U01; intro U01
                have HW1 : Hid (WorAt ((w.alloc (.cells #[iv 5, iv n] 52)).alloc (.cells (devA x.d L.l) 39)) base m top ds x L) := hD (h.same (fun k a b => HBA.out.block k (by omega)) (by simp; omega))
               | have HW1 : Hid (WorAt ((w.alloc (.cells #[iv 6, iv n] 52)).alloc (.cells (devA x.d L.l) 39)) base m top ds x L) := hD (h.same (fun k a b => HBA.out.block k (by omega)) (by simp; omega))
             | have HW1 : Hid (WorAt ((w.alloc (.cells #[iv 7, iv n] 52)).alloc (.cells (devA x.d L.l) 39)) base m top ds x L) := hD (h.same (fun k a b => HBA.out.block k (by omega)) (by simp; omega))
           | have HW1 : Hid (WorAt ((w.alloc (.cells #[iv 8, iv n] 52)).alloc (.cells (devA x.d L.l) 39)) base m top ds x L) := hD (h.same (fun k a b => HBA.out.block k (by omega)) (by simp; omega))
         | have HW1 : Hid (WorAt ((w.alloc (.cells #[iv 9, iv n] 52)).alloc (.cells (devA x.d L.l) 39)) base m top ds x L) := hD (h.same (fun k a b => HBA.out.block k (by omega)) (by simp; omega))
       | have HW1 : Hid (WorAt ((w.alloc (.cells #[iv 10, iv n] 52)).alloc (.cells (devA x.d L.l) 39)) base m top ds x L) := hD (h.same (fun k a b => HBA.out.block k (by omega)) (by simp; omega))
     | have HW1 : Hid (WorAt ((w.alloc (.cells #[iv 11, iv n] 52)).alloc (.cells (devA x.d L.l) 39)) base m top ds x L) := hD (h.same (fun k a b => HBA.out.block k (by omega)) (by simp; omega))
   | have HW1 : Hid (WorAt ((w.alloc (.cells #[iv 12, iv n] 52)).alloc (.cells (devA x.d L.l) 39)) base m top ds x L) := hD (h.same (fun k a b => HBA.out.block k (by omega)) (by simp; omega))
  first
   |
    revert U07; intro U07
    first
     |
      revert U06; intro U06
      first
       |
        revert U05; intro U05
        first
         |
          revert U04; intro U04
          first
           |
            revert U03; intro U03
            first
             |
              revert U02; intro U02
              first
               |
                revert U01; intro U01
                have HX1 : Hid (Bex g base w ((w.alloc (.cells #[iv 5, iv n] 52)).alloc (.cells (devA x.d L.l) 39))) := hD ((Bex.refl g base w).below HBA.out (by omega) (by omega))
               | have HX1 : Hid (Bex g base w ((w.alloc (.cells #[iv 6, iv n] 52)).alloc (.cells (devA x.d L.l) 39))) := hD ((Bex.refl g base w).below HBA.out (by omega) (by omega))
             | have HX1 : Hid (Bex g base w ((w.alloc (.cells #[iv 7, iv n] 52)).alloc (.cells (devA x.d L.l) 39))) := hD ((Bex.refl g base w).below HBA.out (by omega) (by omega))
           | have HX1 : Hid (Bex g base w ((w.alloc (.cells #[iv 8, iv n] 52)).alloc (.cells (devA x.d L.l) 39))) := hD ((Bex.refl g base w).below HBA.out (by omega) (by omega))
         | have HX1 : Hid (Bex g base w ((w.alloc (.cells #[iv 9, iv n] 52)).alloc (.cells (devA x.d L.l) 39))) := hD ((Bex.refl g base w).below HBA.out (by omega) (by omega))
       | have HX1 : Hid (Bex g base w ((w.alloc (.cells #[iv 10, iv n] 52)).alloc (.cells (devA x.d L.l) 39))) := hD ((Bex.refl g base w).below HBA.out (by omega) (by omega))
     | have HX1 : Hid (Bex g base w ((w.alloc (.cells #[iv 11, iv n] 52)).alloc (.cells (devA x.d L.l) 39))) := hD ((Bex.refl g base w).below HBA.out (by omega) (by omega))
   | have HX1 : Hid (Bex g base w ((w.alloc (.cells #[iv 12, iv n] 52)).alloc (.cells (devA x.d L.l) 39))) := hD ((Bex.refl g base w).below HBA.out (by omega) (by omega))
  first
   |
    revert U07; intro U07
    first
     |
      revert U06; intro U06
      first
       |
        revert U05; intro U05
        first
         |
          revert U04; intro U04
          first
           |
            revert U03; intro U03
            first
             |
              revert U02; intro U02
              first
               |
                revert U01; intro U01
                have hs1 : ((w.alloc (.cells #[iv 5, iv n] 52)).alloc (.cells (devA x.d L.l) 39)).heap.size = w.heap.size + 2 := by simp
               | have hs1 : ((w.alloc (.cells #[iv 6, iv n] 52)).alloc (.cells (devA x.d L.l) 39)).heap.size = w.heap.size + 2 := by simp
             | have hs1 : ((w.alloc (.cells #[iv 7, iv n] 52)).alloc (.cells (devA x.d L.l) 39)).heap.size = w.heap.size + 2 := by simp
           | have hs1 : ((w.alloc (.cells #[iv 8, iv n] 52)).alloc (.cells (devA x.d L.l) 39)).heap.size = w.heap.size + 2 := by simp
         | have hs1 : ((w.alloc (.cells #[iv 9, iv n] 52)).alloc (.cells (devA x.d L.l) 39)).heap.size = w.heap.size + 2 := by simp
       | have hs1 : ((w.alloc (.cells #[iv 10, iv n] 52)).alloc (.cells (devA x.d L.l) 39)).heap.size = w.heap.size + 2 := by simp
     | have hs1 : ((w.alloc (.cells #[iv 11, iv n] 52)).alloc (.cells (devA x.d L.l) 39)).heap.size = w.heap.size + 2 := by simp
   | have hs1 : ((w.alloc (.cells #[iv 12, iv n] 52)).alloc (.cells (devA x.d L.l) 39)).heap.size = w.heap.size + 2 := by simp
  first
   |
    revert U07; intro U07
    first
     |
      revert U06; intro U06
      first
       |
        revert U05; intro U05
        first
         |
          revert U04; intro U04
          first
           |
            revert U03; intro U03
            first
             |
              revert U02; intro U02
              first
               |
                revert U01; intro U01
                obtain ⟨⟨d2, e2⟩, hd2⟩ : ∃ z, devOpen x.d = z := ⟨_, rfl⟩
               | obtain ⟨⟨d2, e2⟩, hd2⟩ : ∃ z, devWrite x.d false n = z := ⟨_, rfl⟩
             | obtain ⟨⟨d2, e2⟩, hd2⟩ : ∃ z, devFinish x.d false = z := ⟨_, rfl⟩
           | obtain ⟨⟨d2, e2⟩, hd2⟩ : ∃ z, devConfirm x.d = z := ⟨_, rfl⟩
         | obtain ⟨⟨d2, e2⟩, hd2⟩ : ∃ z, devCrash x.d = z := ⟨_, rfl⟩
       | obtain ⟨⟨d2, e2⟩, hd2⟩ : ∃ z, devBoot x.d = z := ⟨_, rfl⟩
     | obtain ⟨⟨d2, e2⟩, hd2⟩ : ∃ z, devWrite x.d true n = z := ⟨_, rfl⟩
   | obtain ⟨⟨d2, e2⟩, hd2⟩ : ∃ z, devFinish x.d true = z := ⟨_, rfl⟩
  first
   |
    revert U07; intro U07
    first
     |
      revert U06; intro U06
      first
       |
        revert U05; intro U05
        first
         |
          revert U04; intro U04
          first
           |
            revert U03; intro U03
            first
             |
              revert U02; intro U02
              first
               |
                revert U01; intro U01
                have KD := hD (devOpen_calls x.d L.l ((w.alloc (.cells #[iv 5, iv n] 52)).alloc (.cells (devA x.d L.l) 39)) HW1.out.dev.now)
               | have KD := hD (devWrite_calls x.d L.l false n ((w.alloc (.cells #[iv 6, iv n] 52)).alloc (.cells (devA x.d L.l) 39)) HW1.out.dev.now)
             | have KD := hD (devFinish_calls x.d L.l false ((w.alloc (.cells #[iv 7, iv n] 52)).alloc (.cells (devA x.d L.l) 39)) HW1.out.dev.now)
           | have KD := hD (devConfirm_calls x.d L.l ((w.alloc (.cells #[iv 8, iv n] 52)).alloc (.cells (devA x.d L.l) 39)) HW1.out.dev.now)
         | have KD := hD (devCrash_calls x.d L.l ((w.alloc (.cells #[iv 9, iv n] 52)).alloc (.cells (devA x.d L.l) 39)) HW1.out.dev.now)
       | have KD := hD (devBoot_calls x.d L.l ((w.alloc (.cells #[iv 10, iv n] 52)).alloc (.cells (devA x.d L.l) 39)) HW1.out.dev.now)
     | have KD := hD (devWrite_calls x.d L.l true n ((w.alloc (.cells #[iv 11, iv n] 52)).alloc (.cells (devA x.d L.l) 39)) HW1.out.dev.now)
   | have KD := hD (devFinish_calls x.d L.l true ((w.alloc (.cells #[iv 12, iv n] 52)).alloc (.cells (devA x.d L.l) 39)) HW1.out.dev.now)
  rw [hd2] at KD ⊢
  obtain ⟨res, hres⟩ : ∃ res, worDevice x (d2, e2) = res := ⟨_, rfl⟩
  rw [hres]
  have HD : Hid (res = if e2 ≠ 0 then (Wor.zero, e2) else ({ x with d := d2 }, 0)) := hD (by rw [← hres]; unfold worDevice; rfl)
  clear hd2 hres hr hf h
  go_enter Try.func25, Try.ntmps25
  go_wp2_with fail
  refine KD.out.mono ?_
  rintro e w2 ⟨L2, rfl, hfr, hb⟩
  have hg1 : ¬ w.heap.size + 1 = g := by omega
  have hg2 : ¬ g = w.heap.size + 1 := by omega
  obtain ⟨a0r, a0f, a0n, a0c, a0z, a0l⟩ := kp g (worA x L) hb
  obtain ⟨a1r, a1f, a1n, a1c, a1z, a1l⟩ := kp (w.heap.size + 1) (devA x.d L.l) hb
  have hs2 : w.heap.size + 2 ≤ w2.heap.size := by have := hb.size; omega
  have HX2 : Hid (Bex g base w w2) := hD (HX1.out.below hb (by omega) (by omega))
  have HW2 : Hid (WorAt w2 base m top ds x L) := hD (HW1.out.same (fun k a b => hb.block k (by omega)) (by omega))
  have HFR : Hid (Fresh (w.heap.size + 2) w2 (fun v => DevIn v d2 L2)) := hD (by simpa [Nat.add_assoc] using hfr)
  clear hb hfr KD HX1 HW1
  by_cases c2 : e2 ≠ 0
  ·have hz : res = (Wor.zero, e2) := HD.out.trans (if_pos c2)
   subst hz
   have q : (e2 == 0) = false := by simp [c2]
   have HC := hD c2
   clear c2
   go_wp2_with fail
   go_ret
   refine ⟨rfl, fun e => absurd e HC.out, HX2.out.row (.inr (by omega)) _, by simp [World.setRow]; omega⟩
  ·have c2 := Decidable.not_not.1 c2
   subst c2
   have hz : res = ({ x with d := d2 }, 0) := HD.out.trans (if_neg (by simp))
   subst hz
   go_wp2_with fail
   have hp1 : 0 < (rowOf w2 (w.heap.size + 1)).size := by rw [a1r]; simp [devA]
   have hp2 : 0 < (rowOf (w2.setRow (w.heap.size + 1) (devA d2 L2)) g).size := by rw [rowOf_setRow _ _ _ _ hp1, if_neg (by omega), a0r]; simp [worA]
   go_ret
   refine ⟨rfl, fun _ => ⟨{ L with l := L2 }, ?_, ?_, ?_⟩, ?_, ?_⟩
   ·rw [rowOf_setRow _ _ _ _ hp2, if_pos rfl]
   ·rw [frOf_setRow, frOf_setRow]; exact a0f
   ·intro v hv
    have hb0 : ∀ k, base ≤ k → k ≠ g → k ≠ w.heap.size + 1 → k < w2.heap.size → v.heap[k]? = w2.heap[k]? := fun k h1 h0 h3 h2 => (hv k h1 h0 (by simp [World.setRow]; omega)).trans ((setRow_other _ _ _ _ h0).trans (setRow_other _ _ _ _ h3))
    have hi := HW2.out.wex (v := v) (fun k h1 h2 => hb0 k h1 (by omega) (by omega) (by omega))
    exact ⟨hi.kr, hi.lr, hi.rel, HFR.out v (fun k h1 h2 => hb0 k (by omega) (by omega) (by omega) h2), hi.kn, hi.ln, hi.net⟩
   ·exact (HX2.out.row (.inr (by omega)) _).row (.inl rfl) _
   ·simp [World.setRow]; omega
theorem happen_1 (g base m top : Nat) (ds : List (Option Addr × Nat)) (n : Int) (x : Wor) (L : WLoc) (w : World) (hr : rowOf w g = worA x L) (hf : frOf w g = (0, 0)) (hg : g < base ∨ top ≤ g) (h : WorAt w base m top ds x L) (hok : WorOk x) (hi : I64 n) : Calls Try.prog 25 #[.pointer (some ⟨g, 0, none⟩), .agg #[iv 1, iv n]] w (HaRet w g base (worSend x n).1 (worSend x n).2) := by
 have hlt : g < w.heap.size := row_lt (w := w) (by rw [hr]; simp [worA])
 have hm3 := h.h3
 have hm2 := h.h2
 have hm1 := h.h1
 obtain ⟨a0r, a0f, a0n, a0c, a0z, a0l⟩ := keep1 (Below.refl w.heap.size w) hr (by go_simp) hf
 have HBA : Hid (Below w.heap.size w ((w.alloc (.cells #[iv 1, iv n] 52)).alloc (.cells (devA x.d L.l) 39))) := hD (((Below.refl _ _).alloc (Nat.le_refl _) _).alloc (by simp) _)
 have HW1 : Hid (WorAt ((w.alloc (.cells #[iv 1, iv n] 52)).alloc (.cells (devA x.d L.l) 39)) base m top ds x L) := hD (h.same (fun k a b => HBA.out.block k (by omega)) (by simp; omega))
 have HX1 : Hid (Bex g base w ((w.alloc (.cells #[iv 1, iv n] 52)).alloc (.cells (devA x.d L.l) 39))) := hD ((Bex.refl g base w).below HBA.out (by omega) (by omega))
 have hs1 : ((w.alloc (.cells #[iv 1, iv n] 52)).alloc (.cells (devA x.d L.l) 39)).heap.size = w.heap.size + 2 := by simp
 have z1 : rowOf ((w.alloc (.cells #[iv 1, iv n] 52)).alloc (.cells (devA x.d L.l) 39)) g = worA x L := by rw [rowOf_alloc, if_neg (by simp; omega), rowOf_alloc, if_neg (by omega)]; exact hr
 have z2 : frOf ((w.alloc (.cells #[iv 1, iv n] 52)).alloc (.cells (devA x.d L.l) 39)) g = (0, 0) := by rw [frOf_alloc, if_neg (by simp; omega), frOf_alloc, if_neg (by omega)]; exact hf
 have KS := hD (send_calls g base m top ds n x L ((w.alloc (.cells #[iv 1, iv n] 52)).alloc (.cells (devA x.d L.l) 39)) z1 z2 hg HW1.out hok hi)
 generalize worSend x n = res at *
 clear hr hf h z1 z2
 go_enter Try.func25, Try.ntmps25
 go_wp2_with fail
 refine KS.out.mono ?_
 rintro e w2 ⟨rfl, hz, hx, hs⟩
 have HZ := hD hz
 have HX2 : Hid (Bex g base w w2) := hD ⟨HX1.out.1.trans hx.1, fun k a b => (hx.2 k a b).trans (HX1.out.2 k a b)⟩
 have hs2 : w.heap.size ≤ w2.heap.size := by omega
 clear hz hx KS
 go_wp2_with fail
 go_ret
 exact ⟨rfl, HZ.out, HX2.out, hs2⟩
theorem hear_calls (g base m top : Nat) (ds : List (Option Addr × Nat)) (n : Int) (x : Wor) (L : WLoc) (w : World) (hr : rowOf w g = worA x L) (hf : frOf w g = (0, 0)) (hg : g < base ∨ top ≤ g) (h : WorAt w base m top ds x L) (hok : WorOk x) (k : Int) (hk : k = 2 ∨ k = 3 ∨ k = 4) : Calls Try.prog 40 #[.pointer (some ⟨g, 0, none⟩), .agg #[iv k, iv n]] w (HaRet w g base (worHear x k n).1 (worHear x k n).2) := by
 by_cases hn : n < 0 ∨ (x.net.length : Int) ≤ n
 ·have e : worHear x k n = (Wor.zero, 4) := by unfold worHear; rw [if_pos hn]
  rw [e]
  exact hear_who g base m top ds n x L w hr hf hg h hok.few k hn
 ·obtain ⟨i, hi⟩ : ∃ i : Nat, n = (i : Int) := ⟨n.toNat, by omega⟩
  have hil : i < x.net.length := by omega
  rcases hk with rfl | rfl | rfl
  ·exact hear_h2_.1 g base m top ds n x L w hr hf hg h hok.few i hi hil
  ·exact hear_h2_.2.1 g base m top ds n x L w hr hf hg h hok.few i hi hil
  ·exact hear_h2_.2.2 g base m top ds n x L w hr hf hg h hok.few i hi hil
theorem happen_2 (g base m top : Nat) (ds : List (Option Addr × Nat)) (n : Int) (x : Wor) (L : WLoc) (w : World) (hr : rowOf w g = worA x L) (hf : frOf w g = (0, 0)) (hg : g < base ∨ top ≤ g) (h : WorAt w base m top ds x L) (hok : WorOk x) (hi : I64 n) : Calls Try.prog 25 #[.pointer (some ⟨g, 0, none⟩), .agg #[iv 2, iv n]] w (HaRet w g base (worHear x 2 n).1 (worHear x 2 n).2) := by
 have hlt : g < w.heap.size := row_lt (w := w) (by rw [hr]; simp [worA])
 have hm3 := h.h3
 have hm2 := h.h2
 have hm1 := h.h1
 obtain ⟨a0r, a0f, a0n, a0c, a0z, a0l⟩ := keep1 (Below.refl w.heap.size w) hr (by go_simp) hf
 have HBA : Hid (Below w.heap.size w ((w.alloc (.cells #[iv 2, iv n] 52)).alloc (.cells (devA x.d L.l) 39))) := hD (((Below.refl _ _).alloc (Nat.le_refl _) _).alloc (by simp) _)
 have HW1 : Hid (WorAt ((w.alloc (.cells #[iv 2, iv n] 52)).alloc (.cells (devA x.d L.l) 39)) base m top ds x L) := hD (h.same (fun k a b => HBA.out.block k (by omega)) (by simp; omega))
 have HX1 : Hid (Bex g base w ((w.alloc (.cells #[iv 2, iv n] 52)).alloc (.cells (devA x.d L.l) 39))) := hD ((Bex.refl g base w).below HBA.out (by omega) (by omega))
 have hs1 : ((w.alloc (.cells #[iv 2, iv n] 52)).alloc (.cells (devA x.d L.l) 39)).heap.size = w.heap.size + 2 := by simp
 have z1 : rowOf ((w.alloc (.cells #[iv 2, iv n] 52)).alloc (.cells (devA x.d L.l) 39)) g = worA x L := by rw [rowOf_alloc, if_neg (by simp; omega), rowOf_alloc, if_neg (by omega)]; exact hr
 have z2 : frOf ((w.alloc (.cells #[iv 2, iv n] 52)).alloc (.cells (devA x.d L.l) 39)) g = (0, 0) := by rw [frOf_alloc, if_neg (by simp; omega), frOf_alloc, if_neg (by omega)]; exact hf
 have KS := hD (hear_calls g base m top ds n x L ((w.alloc (.cells #[iv 2, iv n] 52)).alloc (.cells (devA x.d L.l) 39)) z1 z2 hg HW1.out hok 2 (by decide))
 generalize worHear x 2 n = res at *
 clear hr hf h z1 z2
 go_enter Try.func25, Try.ntmps25
 go_wp2_with fail
 refine KS.out.mono ?_
 rintro e w2 ⟨rfl, hz, hx, hs⟩
 have HZ := hD hz
 have HX2 : Hid (Bex g base w w2) := hD ⟨HX1.out.1.trans hx.1, fun k a b => (hx.2 k a b).trans (HX1.out.2 k a b)⟩
 have hs2 : w.heap.size ≤ w2.heap.size := by omega
 clear hz hx KS
 go_wp2_with fail
 go_ret
 exact ⟨rfl, HZ.out, HX2.out, hs2⟩
theorem happen_3 (g base m top : Nat) (ds : List (Option Addr × Nat)) (n : Int) (x : Wor) (L : WLoc) (w : World) (hr : rowOf w g = worA x L) (hf : frOf w g = (0, 0)) (hg : g < base ∨ top ≤ g) (h : WorAt w base m top ds x L) (hok : WorOk x) (hi : I64 n) : Calls Try.prog 25 #[.pointer (some ⟨g, 0, none⟩), .agg #[iv 3, iv n]] w (HaRet w g base (worHear x 3 n).1 (worHear x 3 n).2) := by
 have hlt : g < w.heap.size := row_lt (w := w) (by rw [hr]; simp [worA])
 have hm3 := h.h3
 have hm2 := h.h2
 have hm1 := h.h1
 obtain ⟨a0r, a0f, a0n, a0c, a0z, a0l⟩ := keep1 (Below.refl w.heap.size w) hr (by go_simp) hf
 have HBA : Hid (Below w.heap.size w ((w.alloc (.cells #[iv 3, iv n] 52)).alloc (.cells (devA x.d L.l) 39))) := hD (((Below.refl _ _).alloc (Nat.le_refl _) _).alloc (by simp) _)
 have HW1 : Hid (WorAt ((w.alloc (.cells #[iv 3, iv n] 52)).alloc (.cells (devA x.d L.l) 39)) base m top ds x L) := hD (h.same (fun k a b => HBA.out.block k (by omega)) (by simp; omega))
 have HX1 : Hid (Bex g base w ((w.alloc (.cells #[iv 3, iv n] 52)).alloc (.cells (devA x.d L.l) 39))) := hD ((Bex.refl g base w).below HBA.out (by omega) (by omega))
 have hs1 : ((w.alloc (.cells #[iv 3, iv n] 52)).alloc (.cells (devA x.d L.l) 39)).heap.size = w.heap.size + 2 := by simp
 have z1 : rowOf ((w.alloc (.cells #[iv 3, iv n] 52)).alloc (.cells (devA x.d L.l) 39)) g = worA x L := by rw [rowOf_alloc, if_neg (by simp; omega), rowOf_alloc, if_neg (by omega)]; exact hr
 have z2 : frOf ((w.alloc (.cells #[iv 3, iv n] 52)).alloc (.cells (devA x.d L.l) 39)) g = (0, 0) := by rw [frOf_alloc, if_neg (by simp; omega), frOf_alloc, if_neg (by omega)]; exact hf
 have KS := hD (hear_calls g base m top ds n x L ((w.alloc (.cells #[iv 3, iv n] 52)).alloc (.cells (devA x.d L.l) 39)) z1 z2 hg HW1.out hok 3 (by decide))
 generalize worHear x 3 n = res at *
 clear hr hf h z1 z2
 go_enter Try.func25, Try.ntmps25
 go_wp2_with fail
 refine KS.out.mono ?_
 rintro e w2 ⟨rfl, hz, hx, hs⟩
 have HZ := hD hz
 have HX2 : Hid (Bex g base w w2) := hD ⟨HX1.out.1.trans hx.1, fun k a b => (hx.2 k a b).trans (HX1.out.2 k a b)⟩
 have hs2 : w.heap.size ≤ w2.heap.size := by omega
 clear hz hx KS
 go_wp2_with fail
 go_ret
 exact ⟨rfl, HZ.out, HX2.out, hs2⟩
theorem happen_4 (g base m top : Nat) (ds : List (Option Addr × Nat)) (n : Int) (x : Wor) (L : WLoc) (w : World) (hr : rowOf w g = worA x L) (hf : frOf w g = (0, 0)) (hg : g < base ∨ top ≤ g) (h : WorAt w base m top ds x L) (hok : WorOk x) (hi : I64 n) : Calls Try.prog 25 #[.pointer (some ⟨g, 0, none⟩), .agg #[iv 4, iv n]] w (HaRet w g base (worHear x 4 n).1 (worHear x 4 n).2) := by
 have hlt : g < w.heap.size := row_lt (w := w) (by rw [hr]; simp [worA])
 have hm3 := h.h3
 have hm2 := h.h2
 have hm1 := h.h1
 obtain ⟨a0r, a0f, a0n, a0c, a0z, a0l⟩ := keep1 (Below.refl w.heap.size w) hr (by go_simp) hf
 have HBA : Hid (Below w.heap.size w ((w.alloc (.cells #[iv 4, iv n] 52)).alloc (.cells (devA x.d L.l) 39))) := hD (((Below.refl _ _).alloc (Nat.le_refl _) _).alloc (by simp) _)
 have HW1 : Hid (WorAt ((w.alloc (.cells #[iv 4, iv n] 52)).alloc (.cells (devA x.d L.l) 39)) base m top ds x L) := hD (h.same (fun k a b => HBA.out.block k (by omega)) (by simp; omega))
 have HX1 : Hid (Bex g base w ((w.alloc (.cells #[iv 4, iv n] 52)).alloc (.cells (devA x.d L.l) 39))) := hD ((Bex.refl g base w).below HBA.out (by omega) (by omega))
 have hs1 : ((w.alloc (.cells #[iv 4, iv n] 52)).alloc (.cells (devA x.d L.l) 39)).heap.size = w.heap.size + 2 := by simp
 have z1 : rowOf ((w.alloc (.cells #[iv 4, iv n] 52)).alloc (.cells (devA x.d L.l) 39)) g = worA x L := by rw [rowOf_alloc, if_neg (by simp; omega), rowOf_alloc, if_neg (by omega)]; exact hr
 have z2 : frOf ((w.alloc (.cells #[iv 4, iv n] 52)).alloc (.cells (devA x.d L.l) 39)) g = (0, 0) := by rw [frOf_alloc, if_neg (by simp; omega), frOf_alloc, if_neg (by omega)]; exact hf
 have KS := hD (hear_calls g base m top ds n x L ((w.alloc (.cells #[iv 4, iv n] 52)).alloc (.cells (devA x.d L.l) 39)) z1 z2 hg HW1.out hok 4 (by decide))
 generalize worHear x 4 n = res at *
 clear hr hf h z1 z2
 go_enter Try.func25, Try.ntmps25
 go_wp2_with fail
 refine KS.out.mono ?_
 rintro e w2 ⟨rfl, hz, hx, hs⟩
 have HZ := hD hz
 have HX2 : Hid (Bex g base w w2) := hD ⟨HX1.out.1.trans hx.1, fun k a b => (hx.2 k a b).trans (HX1.out.2 k a b)⟩
 have hs2 : w.heap.size ≤ w2.heap.size := by omega
 clear hz hx KS
 go_wp2_with fail
 go_ret
 exact ⟨rfl, HZ.out, HX2.out, hs2⟩
theorem happen_none (g base m top : Nat) (ds : List (Option Addr × Nat)) (n : Int) (x : Wor) (L : WLoc) (w : World) (hr : rowOf w g = worA x L) (hf : frOf w g = (0, 0)) (hg : g < base ∨ top ≤ g) (h : WorAt w base m top ds x L) (k : Int) (hk : k < 1 ∨ 12 < k) : Calls Try.prog 25 #[.pointer (some ⟨g, 0, none⟩), .agg #[iv k, iv n]] w (HaRet w g base Wor.zero 3) := by
 have hlt : g < w.heap.size := row_lt (w := w) (by rw [hr]; simp [worA])
 have hm3 := h.h3
 have hm2 := h.h2
 have hm1 := h.h1
 obtain ⟨a0r, a0f, a0n, a0c, a0z, a0l⟩ := keep1 (Below.refl w.heap.size w) hr (by go_simp) hf
 have HBA : Hid (Below w.heap.size w ((w.alloc (.cells #[iv k, iv n] 52)).alloc (.cells (devA x.d L.l) 39))) := hD (((Below.refl _ _).alloc (Nat.le_refl _) _).alloc (by simp) _)
 have HW1 : Hid (WorAt ((w.alloc (.cells #[iv k, iv n] 52)).alloc (.cells (devA x.d L.l) 39)) base m top ds x L) := hD (h.same (fun k2 a b => HBA.out.block k2 (by omega)) (by simp; omega))
 have HX1 : Hid (Bex g base w ((w.alloc (.cells #[iv k, iv n] 52)).alloc (.cells (devA x.d L.l) 39))) := hD ((Bex.refl g base w).below HBA.out (by omega) (by omega))
 have hs1 : ((w.alloc (.cells #[iv k, iv n] 52)).alloc (.cells (devA x.d L.l) 39)).heap.size = w.heap.size + 2 := by simp
 have q1 : (k == 1) = false := by simp; omega
 have q2 : (k == 2) = false := by simp; omega
 have q3 : (k == 3) = false := by simp; omega
 have q4 : (k == 4) = false := by simp; omega
 have q5 : (k == 5) = false := by simp; omega
 have q6 : (k == 6) = false := by simp; omega
 have q7 : (k == 7) = false := by simp; omega
 have q8 : (k == 8) = false := by simp; omega
 have q9 : (k == 9) = false := by simp; omega
 have q10 : (k == 10) = false := by simp; omega
 have q11 : (k == 11) = false := by simp; omega
 have q12 : (k == 12) = false := by simp; omega
 clear hr hf h hk
 go_enter Try.func25, Try.ntmps25
 go_wp2_with fail
 go_ret
 exact ⟨rfl, fun e => absurd e (by decide), HX1.out, by omega⟩
theorem happen_calls (g base m top : Nat) (ds : List (Option Addr × Nat)) (n : Int) (x : Wor) (L : WLoc) (w : World) (hr : rowOf w g = worA x L) (hf : frOf w g = (0, 0)) (hg : g < base ∨ top ≤ g) (h : WorAt w base m top ds x L) (hok : WorOk x) (hi : I64 n) (k : Int) : Calls Try.prog 25 #[.pointer (some ⟨g, 0, none⟩), .agg #[iv k, iv n]] w (HaRet w g base (worHappen x k n).1 (worHappen x k n).2) := by
 by_cases h0 : k < 1 ∨ 12 < k
 ·have e : worHappen x k n = (Wor.zero, 3) := by
   have hd : devAct x.d k n = (Dev.zero, 3) := by
    unfold devAct
    rw [if_neg (by omega), if_neg (by omega), if_neg (by omega), if_neg (by omega), if_neg (by omega), if_neg (by omega), if_neg (by omega), if_neg (by omega)]
   unfold worHappen
   rw [if_neg (by omega), if_neg (by omega), hd]
   rfl
  rw [e]
  exact happen_none g base m top ds n x L w hr hf hg h k h0
 ·rcases (show k = 1 ∨ k = 2 ∨ k = 3 ∨ k = 4 ∨ k = 5 ∨ k = 6 ∨ k = 7 ∨ k = 8 ∨ k = 9 ∨ k = 10 ∨ k = 11 ∨ k = 12 by omega) with rfl | rfl | rfl | rfl | rfl | rfl | rfl | rfl | rfl | rfl | rfl | rfl
  ·exact happen_1 g base m top ds n x L w hr hf hg h hok hi
  ·exact happen_2 g base m top ds n x L w hr hf hg h hok hi
  ·exact happen_3 g base m top ds n x L w hr hf hg h hok hi
  ·exact happen_4 g base m top ds n x L w hr hf hg h hok hi
  ·exact happen_5_.1 g base m top ds n x L w hr hf hg h
  ·exact happen_5_.2.1 g base m top ds n x L w hr hf hg h
  ·exact happen_5_.2.2.1 g base m top ds n x L w hr hf hg h
  ·exact happen_5_.2.2.2.1 g base m top ds n x L w hr hf hg h
  ·exact happen_5_.2.2.2.2.1 g base m top ds n x L w hr hf hg h
  ·exact happen_5_.2.2.2.2.2.1 g base m top ds n x L w hr hf hg h
  ·exact happen_5_.2.2.2.2.2.2.1 g base m top ds n x L w hr hf hg h
  ·exact happen_5_.2.2.2.2.2.2.2 g base m top ds n x L w hr hf hg h
theorem relCheck_bad {l : List (List UInt8)} (h : l = [] ∨ 30 < l.length ∨ ∃ b ∈ l, 64 < b.length) : relCheck l = 1 := by unfold relCheck; rw [if_pos h]
theorem relCheck_fine {l : List (List UInt8)} (h : ¬ (l = [] ∨ 30 < l.length ∨ ∃ b ∈ l, 64 < b.length)) : relCheck l = 0 := by unfold relCheck; rw [if_neg h]
theorem releases_calls (A : Option Addr) (c : Nat) (l : List (List UInt8)) (w : World) (hc : l.length ≤ c) (hl : l.length ≤ 1048576) (hs : Ims w A l) :
  Calls Try.prog 28 #[.slice A l.length c] w (Ret w (iv (relCheck l))) := by
 by_cases h1 : l = []
 ·subst h1
  rw [relCheck_bad (.inl rfl)]
  go_enter Try.func28, Try.ntmps28
  go_wp2_with fail
  go_ret
  exact ⟨rfl, rfl⟩
 have hpos : 0 < l.length := List.length_pos_iff.2 h1
 by_cases h2 : 30 < l.length
 ·rw [relCheck_bad (.inr (.inl h2))]
  have q1 : ¬ ((l.length : Int) = 0) := by omega
  have q2 : (30 : Int) < (l.length : Int) := by omega
  have q3 : ((l.length : Int) == 0) = false := by simp; omega
  clear h1
  go_enter Try.func28, Try.ntmps28
  go_wp2_with fail
  go_ret
  exact ⟨rfl, rfl⟩
 obtain ⟨r, hr⟩ : ∃ r, relCheck l = r := ⟨_, rfl⟩
 rw [hr]
 have HR : Hid (r = if ∃ b ∈ l, 64 < b.length then 1 else 0) := hD (by
  rw [← hr]
  by_cases h3 : ∃ b ∈ l, 64 < b.length
  ·rw [relCheck_bad (.inr (.inr h3)), if_pos h3]
  ·rw [relCheck_fine (fun h => h.elim h1 (fun h => h.elim h2 h3)), if_neg h3])
 have HS := hD hs
 have q1 : ¬ ((l.length : Int) = 0) := by omega
 have q2 : ¬ (30 : Int) < (l.length : Int) := by omega
 have q3 : ((l.length : Int) == 0) = false := by simp; omega
 have hcap : (l.length : Int) ≤ (c : Int) := by omega
 clear hr hs h1 hpos
 go_enter Try.func28, Try.ntmps28
 go_wp2_with fail
 go_loopw [15] (fun i wr => ∃ k : Nat, k ≤ l.length ∧ i = .int .i64 k ∧ wr = w ∧ Hid (∀ b ∈ l.take k, b.length ≤ 64)) (fun i _ => l.length - (intOf i).toNat)
 case atStart => exact ⟨0, Nat.zero_le _, rfl, rfl, hD (by simp)⟩
 case round =>
  obtain ⟨k, hk, rfl, rfl, HB⟩ := hrel
  by_cases hlt : k < l.length
  ·obtain ⟨b, o, rfl, hb, cs, hcl, hcc, B, d, rfl, hd1, hd2, hd3⟩ := HS.out k hlt
   obtain ⟨x, hx⟩ : ∃ x, l[k] = x := ⟨_, rfl⟩
   have q0 : wr.cell? ⟨b, o + k, none⟩ = some (.slice B x.length d) := by have := hcc 0 (by simp); rw [hx] at this; simpa using this
   have hwk : IntKind.i64.wrap ((k : Int) + 1) = (k : Int) + 1 := IntWalk.i64_in _ (by omega)
   have HX := hD hx
   by_cases h64 : 64 < x.length
   ·have hz : r = 1 := by rw [HR.out, if_pos ⟨x, by rw [← HX.out]; exact List.getElem_mem hlt, h64⟩]
    subst hz
    have q : (64 : Int) < (x.length : Int) := by omega
    clear hcc hcl hd1 hd2 hd3 hx
    go_wp2_with fail
    go_ret
    exact ⟨rfl, rfl⟩
   ·have q : ¬ (64 : Int) < (x.length : Int) := by omega
    have HB2 : Hid (∀ b ∈ l.take (k + 1), b.length ≤ 64) := hD (fun y hy => by
     rw [List.take_succ_eq_append_getElem hlt, List.mem_append] at hy
     rcases hy with hy | hy
     ·exact HB.out y hy
     ·have e : y = l[k] := by simpa using hy
      rw [e, HX.out]; omega)
    clear hcc hcl hd1 hd2 hd3 hx
    go_wp2_with fail
    go_roundw
    case rel => exact ⟨k + 1, by omega, by go_num, by first | rfl | trivial, HB2⟩
    case measure => simp [intOf]; omega
  ·obtain rfl : k = l.length := by omega
   have hz : r = 0 := by
    rw [HR.out, if_neg]
    rintro ⟨b, hb, h⟩
    have := HB.out b (by rw [List.take_length]; exact hb)
    omega
   subst hz
   go_wp2_with fail
   go_ret
   exact ⟨rfl, rfl⟩
theorem worCheck_rel (h : relCheck x.rel ≠ 0) : worCheck x = relCheck x.rel := by unfold worCheck; rw [if_pos h]
theorem worCheck_dev (h : relCheck x.rel = 0) (g : devCheck x.d ≠ 0) : worCheck x = devCheck x.d := by unfold worCheck; rw [if_neg (by omega), if_pos g]
theorem worCheck_many (h : relCheck x.rel = 0) (g : devCheck x.d = 0) (i : 120 < x.net.length) : worCheck x = 1 := by unfold worCheck; rw [if_neg (by omega), if_neg (by omega), if_pos i]
theorem worCheck_net (h : relCheck x.rel = 0) (g : devCheck x.d = 0) (i : ¬ 120 < x.net.length) : worCheck x = netCheck x.net := by unfold worCheck; rw [if_neg (by omega), if_neg (by omega), if_neg i]
theorem netCheck_cons (y : Chk) (l : List Chk) : netCheck (y :: l) = if chkCheck y ≠ 0 then chkCheck y else netCheck l := rfl
theorem worCheck_calls (x : Wor) (L : WLoc) (w : World) (h : WorIn w x L) : Calls Try.prog 21 #[.agg (worA x L)] w (RetB w (iv (worCheck x))) := by
 have HBA := hD ((Below.refl w.heap.size w).alloc (Nat.le_refl _) (.cells (worA x L) 41))
 have HIN := hD h
 have K1 := hD (fun w h => releases_calls L.ar L.cr x.rel w HIN.out.kr HIN.out.lr h)
 have K2 := hD (fun w h => devCheck_calls x.d L.l w h)
 obtain ⟨n, hn⟩ : ∃ n, worCheck x = n := ⟨_, rfl⟩
 rw [hn]
 have HN := hD hn
 obtain ⟨e1, he1⟩ : ∃ e, relCheck x.rel = e := ⟨_, rfl⟩
 obtain ⟨e2, he2⟩ : ∃ e, devCheck x.d = e := ⟨_, rfl⟩
 rw [he1] at K1
 rw [he2] at K2
 have HE1 := hD he1
 have HE2 := hD he2
 clear h hn he1 he2
 go_enter Try.func21, Try.ntmps21
 go_wp2_with fail
 refine (K1.out _ (HIN.out.rel.stays HBA.out)).mono ?_
 rintro e w0 ⟨rfl, rfl⟩
 by_cases c1 : e1 ≠ 0
 ·have hz : Hid (n = e1) := hD (by rw [← HN.out, worCheck_rel (by rw [HE1.out]; exact c1), HE1.out])
  have q : (e1 != 0) = true := by simp [c1]
  clear c1
  go_wp2_with fail
  go_ret
  have hs := HBA.out.size
  refine ⟨ret_int hz.out.symm, ?_⟩
  repeat (first | exact HBA.out | refine bR ?_ _ | refine bC ?_ _ | refine bA ?_ _)
 have c1 := Decidable.not_not.1 c1
 subst c1
 go_wp2_with fail
 refine (K2.out _ (HIN.out.dev.stays HBA.out)).mono ?_
 rintro e w1 ⟨rfl, hb⟩
 obtain ⟨a0r, a0f, a0n, a0c, a0z, a0l⟩ := kp (w.heap.size) (worA x L) hb
 have HB1 := hD (HBA.out.trans (hb.mono (by simp)))
 clear hb
 by_cases c2 : e2 ≠ 0
 ·have hz : Hid (n = e2) := hD (by rw [← HN.out, worCheck_dev HE1.out (by rw [HE2.out]; exact c2), HE2.out])
  have q : (e2 != 0) = true := by simp [c2]
  clear c2
  go_wp2_with fail
  go_ret
  have hs := HB1.out.size
  refine ⟨ret_int hz.out.symm, ?_⟩
  repeat (first | exact HB1.out | refine bR ?_ _ | refine bC ?_ _ | refine bA ?_ _)
 have c2 := Decidable.not_not.1 c2
 subst c2
 by_cases c3 : 120 < x.net.length
 ·have hz : Hid (n = 1) := hD (by rw [← HN.out, worCheck_many HE1.out HE2.out c3])
  have q : (120 : Int) < (x.net.length : Int) := by omega
  go_wp2_with fail
  go_ret
  have hs := HB1.out.size
  refine ⟨ret_int hz.out.symm, ?_⟩
  repeat (first | exact HB1.out | refine bR ?_ _ | refine bC ?_ _ | refine bA ?_ _)
 have q3 : ¬ (120 : Int) < (x.net.length : Int) := by omega
 have HN2 : Hid (netCheck x.net = n) := hD (by rw [← HN.out, worCheck_net HE1.out HE2.out c3])
 have hcap : (x.net.length : Int) ≤ (L.cn : Int) := by have := HIN.out.kn; omega
 have HNT := hD HIN.out.net
 go_wp2_with fail
 generalize L.an = an at *
 go_loopw [27] (fun i wr => ∃ k : Nat, k ≤ x.net.length ∧ i = .int .i64 k ∧ Hid (netCheck (x.net.drop k) = n) ∧ Hid (Below w.heap.size w wr)) (fun i _ => x.net.length - (intOf i).toNat)
 case atStart => exact ⟨0, Nat.zero_le _, rfl, hD (by rw [List.drop_zero]; exact HN2.out), HB1⟩
 case round =>
  clear HB1 HN2 a0r a0f a0n a0c a0z a0l
  rename World => wr
  obtain ⟨k, hk, rfl, HE, HB⟩ := hrel
  have hsz := HB.out.size
  by_cases hlt : k < x.net.length
  ·obtain ⟨b, o, B, c, rfl, hb, hck, hin⟩ := (HNT.out.stays HB.out).chk hlt
   obtain ⟨y, hy⟩ : ∃ y, x.net[k] = y := ⟨_, rfl⟩
   rw [hy] at hck hin
   obtain ⟨q0, q1, q2, q4, q5⟩ := hck
   have hdr : x.net.drop k = y :: x.net.drop (k + 1) := by rw [List.drop_eq_getElem_cons hlt, hy]
   have hne := HE.out
   rw [hdr, netCheck_cons] at hne
   have HNE := hD hne
   have KC := hD (fun w => chkCheckX_calls B c y w ⟨hin.i2, hin.i3⟩)
   have hwk : IntKind.i64.wrap ((k : Int) + 1) = (k : Int) + 1 := IntWalk.i64_in _ (by omega)
   have dl : decide ((k : Int) < (x.net.length : Int)) = true := decide_eq_true (by omega)
   obtain ⟨e3, he3⟩ : ∃ e, chkCheck y = e := ⟨_, rfl⟩
   rw [he3] at KC HNE
   clear hy hin hdr hne he3
   go_wp2_with fail
   refine (KC.out _).mono ?_
   rintro e w2 ⟨rfl, hb2⟩
   have HB2 : Hid (Below w.heap.size w w2) := hD (by
    refine Below.trans ?_ (hb2.mono (by first | omega | (simp <;> omega)))
    repeat (first | exact HB.out | refine bA ?_ _))
   clear hb2
   by_cases c5 : e3 ≠ 0
   ·have hz : Hid (n = e3) := hD (by have := HNE.out; rw [if_pos c5] at this; exact this.symm)
    have q : (e3 != 0) = true := by simp [c5]
    clear c5
    go_wp2_with fail
    go_ret
    have hs := HB2.out.size
    refine ⟨ret_int hz.out.symm, ?_⟩
    repeat (first | exact HB2.out | refine bR ?_ _ | refine bC ?_ _ | refine bA ?_ _)
   ·have c5 := Decidable.not_not.1 c5
    subst c5
    have HE2' : Hid (netCheck (x.net.drop (k + 1)) = n) := hD (by have := HNE.out; rw [if_neg (by decide)] at this; exact this)
    go_wp2_with fail
    go_roundw
    case rel => exact ⟨k + 1, by omega, by go_num, HE2', HB2⟩
    case measure => simp [intOf]; omega
  ·obtain rfl : k = x.net.length := by omega
   have dl : decide ((x.net.length : Int) < (x.net.length : Int)) = false := by simp
   have hz : Hid (n = 0) := hD (by have := HE.out; rw [List.drop_length] at this; exact this.symm)
   go_wp2_with fail
   go_ret
   have hs := HB.out.size
   refine ⟨ret_int hz.out.symm, ?_⟩
   repeat (first | exact HB.out | refine bR ?_ _ | refine bC ?_ _ | refine bA ?_ _)
theorem images_calls (A : Option Addr) (c : Nat) (l : List (List UInt8)) (w : World) (hl : l.length ≤ 1048576) (hs : Ims w A l) :
  Calls Try.prog 30 #[.slice A l.length c] w (KrRet kImg w l) := by
 obtain ⟨ds0, hg⟩ := hs.gsrc
 have hbd := hs.bound
 have HBD := hD hbd
 have HG := hD hg
 have K1 := hD (cloneRows_calls A l.length c (kImg.cells l ds0) w (cells_len _ _ hg.len) (by omega) hg.row (cells_oneCell _ _))
 clear hs hg hbd
 go_enter Try.func30, Try.ntmps30
 go_wp2_with fail
 refine K1.out.mono ?_
 rintro e w1 ⟨A1, c1, rfl, hown, hb1⟩
 have hrow : GRow kImg w1 w.heap.size l ds0 A1 c1 := ⟨HG.out.len, hown, (HG.out.stays hb1).data, fun i o d h1 h2 hx k hk e => by
  have := HG.out.each i o d h1 h2 hx k hk
  have := (hown.block k e).1
  omega⟩
 have HR0 := hD hrow
 have HB0 : Hid (Below w.heap.size w w1) := hD hb1
 clear hown hb1 hrow K1
 go_wp2_with fail
 go_loopw [9] (fun i wr => ∃ (k : Nat) (ds : List (Option Addr × Nat)), k ≤ l.length ∧ i = .int .i64 k ∧ Hid (GRow kImg wr w.heap.size l ds A1 c1) ∧ Hid (∀ (j : Nat) (o : (List UInt8)) (d : Option Addr × Nat), j < k → l[j]? = some o → ds[j]? = some d → kImg.dat o ≠ [] → ∀ q, d.1.map (·.block) = some q → w.heap.size ≤ q) ∧ Hid (Below w.heap.size w wr)) (fun i _ => l.length - (intOf i).toNat)
 case atStart => exact ⟨0, ds0, Nat.zero_le _, rfl, HR0, hD (fun j o d h => by omega), HB0⟩
 case round =>
  clear HR0 HB0
  rename World => wr
  obtain ⟨k, ds, hk, rfl, HR, HN, HB⟩ := hrel
  have hsz := HB.out.size
  by_cases hlt : k < l.length
  ·obtain ⟨g, rfl, hg1, hg2⟩ := HR.out.row.form (by omega)
   have hlk : l[k]? = some l[k] := List.getElem?_eq_getElem hlt
   have hdk : ds[k]? = some (ds[k]'(by have := HR.out.len; omega)) := List.getElem?_eq_getElem _
   obtain ⟨x, hx⟩ : ∃ x, l[k] = x := ⟨_, rfl⟩
   obtain ⟨e, he⟩ : ∃ e, ds[k]'(by have := HR.out.len; omega) = e := ⟨_, rfl⟩
   rw [hx] at hlk
   rw [he] at hdk
   have hcell : ∀ j, j < 1 → wr.cell? ⟨g, k + j, none⟩ = (kImg.cell x e)[j]? := fun j hj => by
    rw [HR.out.row.cellAt _ (show k + j < l.length * 1 by omega)]
    have h9 := cells_at (K := kImg) l ds HR.out.len k j x e hlk hdk hj
    rw [show k * kImg.size + j = k + j by show k * 1 + j = k + j; omega] at h9
    exact h9
   have q0 : wr.cell? ⟨g, k, none⟩ = some (.slice e.1 x.length e.2) := by have := hcell 0 (by decide); simpa [kImg] using this
   obtain ⟨hd1, hd2⟩ := HR.out.data k x e hlk hdk
   have hxl : x.length ≤ 1048576 := (HBD.out x (List.mem_of_getElem? hlk))
   have HD1 : Hid (Bts wr e.1 x) := hD hd1
   have HLK := hD hlk
   have HDK := hD hdk
   have K2 := hD (fun w h => cloneBytes_calls e.1 x.length e.2 (x.map bv) w (by simp) (by omega) h (bv_one _))
   have hfr : wr.frozen? ⟨g, k, none⟩ = false := HR.out.row.frozenAt _
   have dl : decide ((k : Int) < (l.length : Int)) = true := decide_eq_true (by omega)
   have hwk : IntKind.i64.wrap ((k : Int) + 1) = (k : Int) + 1 := IntWalk.i64_in _ (by omega)
   have hcap : (l.length : Int) ≤ (c1 : Int) := by have := HR.out.row.le; omega
   clear hcell hx he hlk hdk hd1 hd2
   go_wp2_with fail
   refine (K2.out _ HD1.out.src).mono ?_
   rintro en w2 ⟨B, d, rfl, hob, hb2⟩
   have hb3 := hb2
   have HR2 := hD (HR.out.below hb3)
   have hq2 : w2.cell? ⟨g, k, none⟩ = some (.slice e.1 x.length e.2) := (hb3.cell (p := ⟨g, k, none⟩) hg2).trans q0
   have hf2 : w2.frozen? ⟨g, k, none⟩ = false := (hb3.frozen (p := ⟨g, k, none⟩) hg2).trans hfr
   have HBB : Hid (Below w.heap.size w (w2.setCell ⟨g, k, none⟩ (.slice B x.length d))) := hD ((HB.out.trans (hb3.mono hsz)).setCell (p := ⟨g, k, none⟩) hg1 _)
   have hgw : ∀ q, B.map (·.block) = some q → wr.heap.size ≤ q := fun q h => (hob.block q h).1
   have HR3 : Hid (GRow kImg (w2.setCell ⟨g, k, none⟩ (.slice B x.length d)) w.heap.size l (ds.set k (B, d)) (some ⟨g, 0, none⟩) c1) := hD (by
    have h9 := HR2.out.setData (e := (B, d)) HLK.out hob.src.bts (by show x.length ≤ d; simpa using hob.le) (fun _ q h e2 => by have := hgw q h; omega)
    rw [show k * kImg.size + kImg.slot = k by show k * 1 + 0 = k; omega] at h9
    exact h9)
   have HN3 : Hid (∀ (j : Nat) (o : (List UInt8)) (d' : Option Addr × Nat), j < k + 1 → l[j]? = some o → (ds.set k (B, d))[j]? = some d' → kImg.dat o ≠ [] → ∀ q, d'.1.map (·.block) = some q → w.heap.size ≤ q) := hD (fun j o d' hj h1 h2 hx q hq => by
    rw [List.getElem?_set] at h2
    by_cases hjk : k = j
    ·by_cases hdl : k < ds.length
     ·rw [if_pos hjk, if_pos hdl] at h2
      injection h2 with h2
      subst h2
      have := hgw q hq
      omega
     ·rw [if_pos hjk, if_neg hdl] at h2; cases h2
    ·rw [if_neg hjk] at h2
     exact HN.out j o d' (by omega) h1 h2 hx q hq)
   clear hob hb2 hb3 q0 hfr hgw
   go_wp2_with fail
   go_roundw
   case rel => exact ⟨k + 1, ds.set k (B, d), by omega, by go_num, HR3, HN3, HBB⟩
   case measure => simp [intOf]; omega
  ·obtain rfl : k = l.length := by omega
   have dl : decide ((l.length : Int) < (l.length : Int)) = false := by simp
   go_wp2_with fail
   go_ret
   exact ⟨A1, c1, ds, rfl, HR.out, fun i o d h1 h2 hx q hq => HN.out i o d (List.getElem?_eq_some_iff.1 h1).1 h1 h2 hx q hq, HB.out⟩
end Go.Proofs.Ytefkfglkpebbmad
