/- Walks of functions, and plain words. No conditions. -/
import Derived.Test.YtefkfglkpebbmacPE4
import Derived.Test.YtefkfglkpebbmacP10
import Derived.Test.YtefkfglkpebbmacP11
set_option linter.unusedVariables false
set_option linter.unusedSimpArgs false
set_option maxRecDepth 100000
set_option maxHeartbeats 40000000
namespace Go.Proofs.Ytefkfglkpebbmac
open Go.RowKit
variable {w : World} {r : Rec}
theorem DevIn.fin {d : Dev} {L : DLoc} (h : DevIn w d L) (p q : Cop) : DevIn w { d with c0 := p, c1 := q, busy := false, job := Pat.zero, done := 0 } { L with aj := none, cj := 0 } := ⟨h.k0, h.l0, h.b0, h.k1, h.l1, h.b1, h.kg, h.lg, h.got, pat_in_zero w, h.ir, ⟨by show -9223372036854775808 ≤ (0:Int); omega, by show (0:Int) ≤ 9223372036854775807; omega⟩⟩
theorem tryIt0 (h : r.active = 0) (x : Inf) : r.tryIt x = { r with trying := true, tries := 3, b := x } := by unfold Rec.tryIt Rec.setOther; rw [if_pos (by exact h)]
theorem tryIt1 (h : r.active = 1) (x : Inf) : r.tryIt x = { r with trying := true, tries := 3, a := x } := by unfold Rec.tryIt Rec.setOther; rw [if_neg (by show ¬ r.active = 0; omega)]
theorem devFinish_bad (d : Dev) (L : DLoc) (torn : Bool) (w : World) (h : DevIn w d L)  (hne : devReady d ≠ 0) : Calls Try.prog 61 #[.agg (devA d L), .bool torn] w (DvRet w Dev.zero (devReady d)) := by
 have hba : Below w.heap.size w ((w.alloc (.cells (devA d L) 71)).alloc (.cells (devA Dev.zero DLoc.zero) 71)) := bA (bA (Below.refl _ _) _) _
 have HBA := hD hba
 have HIN := hD h
 have KB := hD (fun w h => ready_bad d L w h hne)
 have q : (devReady d != 0) = true := by simp [hne]
 generalize devReady d = n at *
 clear hne h hba
 go_enter Try.func61, Try.ntmps61
 go_wp2_with fail
 refine (KB.out _ (HIN.out.stays HBA.out)).mono ?_
 rintro e w1 ⟨rfl, hb1⟩
 obtain ⟨a0r, a0f, a0n, a0c, a0z, a0l⟩ := kp (w.heap.size) (devA d L) hb1
 obtain ⟨a1r, a1f, a1n, a1c, a1z, a1l⟩ := kp (w.heap.size + 1) (devA Dev.zero DLoc.zero) hb1
 have HB1 := hD (HBA.out.trans (hb1.mono (by simp <;> omega)))
 clear hb1
 go_wp2_with fail
 refine bodyPost_ret (results_ct rfl rfl (cs := devA Dev.zero DLoc.zero) (by go_simp) (by go_simp) (by go_simp)) rfl ⟨DLoc.zero, rfl, .const fun v => DevIn.zero v, ?_⟩
 have hs := HB1.out.size
 repeat (first | exact HB1.out | refine bR ?_ _ | refine bC ?_ _ | refine bA ?_ _)
theorem devFinish_ok (d : Dev) (L : DLoc) (torn : Bool) (w : World) (h : DevIn w d L)  (hz : devReady d = 0) : Calls Try.prog 61 #[.agg (devA d L), .bool torn] w (DvRet w (devFinish d torn).1 (devFinish d torn).2) := by
 have hba : Below w.heap.size w ((w.alloc (.cells (devA d L) 71)).alloc (.cells (devA Dev.zero DLoc.zero) 71)) := bA (bA (Below.refl _ _) _) _
 have HBA := hD hba
 have HIN := hD h
 have KR := hD (fun w h => ready_ok d L w h hz)
 have hdef : devFinish d torn = if d.busy = false ∨ d.done < d.job.size then (Dev.zero, 5)
   else if (recWrite d.c0 d.c1 (d.rec_.tryIt ⟨d.job.to_, d.job.size, d.job.new_⟩) torn).2 ≠ 0 then (Dev.zero, (recWrite d.c0 d.c1 (d.rec_.tryIt ⟨d.job.to_, d.job.size, d.job.new_⟩) torn).2)
   else (if torn = true then ({ d.write (d.rec_.tryIt ⟨d.job.to_, d.job.size, d.job.new_⟩) torn with busy := false, job := Pat.zero, done := 0 } : Dev).down else { d.write (d.rec_.tryIt ⟨d.job.to_, d.job.size, d.job.new_⟩) torn with busy := false, job := Pat.zero, done := 0 }, 0) := by unfold devFinish; rw [if_neg (by omega)]
 have hact := rec_active (rec_ok (devReady_ok.1 hz).1)
 unfold Dev.write at hdef
 obtain ⟨rt, hrt⟩ : ∃ rt, d.rec_.tryIt ⟨d.job.to_, d.job.size, d.job.new_⟩ = rt := ⟨_, rfl⟩
 have HT0 : Hid (d.rec_.active = 0 → rt = ⟨d.rec_.gen, 0, true, 3, d.rec_.floor, d.rec_.a, ⟨d.job.to_, d.job.size, d.job.new_⟩⟩) := hD (fun e => by rw [← hrt, tryIt0 e, Rec.mk.injEq]; exact ⟨rfl, e, rfl, rfl, rfl, rfl, rfl⟩)
 have HT1 : Hid (d.rec_.active = 1 → rt = ⟨d.rec_.gen, 1, true, 3, d.rec_.floor, ⟨d.job.to_, d.job.size, d.job.new_⟩, d.rec_.b⟩) := hD (fun e => by rw [← hrt, tryIt1 e, Rec.mk.injEq]; exact ⟨rfl, e, rfl, rfl, rfl, rfl, rfl⟩)
 rw [hrt] at hdef
 have K3 := hD (fun w => write_calls d.c0 d.c1 rt torn w)
 obtain ⟨⟨⟨p1, p2⟩, e3⟩, hw⟩ : ∃ x, recWrite d.c0 d.c1 rt torn = x := ⟨_, rfl⟩
 rw [hw] at hdef K3
 dsimp only at hdef
 have HD := hD hdef
 generalize devFinish d torn = res at *
 clear hz h hba hdef hw hrt
 go_enter Try.func61, Try.ntmps61
 go_wp2_with fail
 refine (KR.out _ (HIN.out.stays HBA.out)).mono ?_
 rintro e w1 ⟨L1, rfl, hfr, hb1⟩
 obtain ⟨a0r, a0f, a0n, a0c, a0z, a0l⟩ := kp (w.heap.size) (devA d L) hb1
 obtain ⟨a1r, a1f, a1n, a1c, a1z, a1l⟩ := kp (w.heap.size + 1) (devA Dev.zero DLoc.zero) hb1
 have HFR : Hid (Fresh (w.heap.size + 2) w1 (fun v => DvOwn v (w.heap.size + 2) d L1)) := hD (by simpa [Nat.add_assoc] using hfr)
 have HB1 := hD (HBA.out.trans (hb1.mono (by simp <;> omega)))
 have hsz1 : w.heap.size + 2 ≤ w1.heap.size := by have := hb1.size; simp at this; omega
 have HK1 : Hid (Kp (w.heap.size + 2) w1 w1) := hD (Kp.refl _ _)
 clear hb1 hfr
 cases hbz : d.busy
 ·have hz : res = (Dev.zero, 5) := HD.out.trans (if_pos (.inl hbz))
  subst hz
  go_wp2_with fail
  refine bodyPost_ret (results_ct rfl rfl (cs := devA Dev.zero DLoc.zero) (by go_simp) (by go_simp) (by go_simp)) rfl ⟨DLoc.zero, rfl, .const fun v => DevIn.zero v, ?_⟩
  have hs := HB1.out.size
  repeat (first | exact HB1.out | refine bR ?_ _ | refine bC ?_ _ | refine bA ?_ _)
 by_cases c1 : d.done < d.job.size
 ·have hz : res = (Dev.zero, 5) := HD.out.trans (if_pos (.inr c1))
  subst hz
  go_wp2_with fail
  refine bodyPost_ret (results_ct rfl rfl (cs := devA Dev.zero DLoc.zero) (by go_simp) (by go_simp) (by go_simp)) rfl ⟨DLoc.zero, rfl, .const fun v => DevIn.zero v, ?_⟩
  have hs := HB1.out.size
  repeat (first | exact HB1.out | refine bR ?_ _ | refine bC ?_ _ | refine bA ?_ _)
 have HD2 := hD (HD.out.trans (if_neg (by rw [hbz]; simpa using c1)))
 clear HD
 rcases hact with hk | hk
 first | case' inl => have T2 : Hid True := hD trivial | case' pos => have T2 : Hid True := hD trivial | case' refine_1 => have T2 : Hid True := hD trivial
 iterate 2
  ·first
    |
     revert T2; intro T2
     have HT := hD (HT0.out hk)
    | have HT := hD (HT1.out hk)
   clear HT0 HT1
   have w1e : IntKind.i64.wrap (1 - 0) = 1 := by decide
   have w2e : IntKind.i64.wrap (1 - 1) = 0 := by decide
   have w3e : IntKind.i64.wrap 1 = 1 := by decide
   have w4e : IntKind.i64.wrap 0 = 0 := by decide
   go_wp2_with fail
   rw [← HT.out]
   refine (K3.out _).mono ?_
   rintro e w3 ⟨rfl, hb⟩
   obtain ⟨a0r, a0f, a0n, a0c, a0z, a0l⟩ := kp (w.heap.size) (devA d L1) hb
   obtain ⟨a1r, a1f, a1n, a1c, a1z, a1l⟩ := kp (w.heap.size + 1) (devA Dev.zero DLoc.zero) hb
   have hbs3 := hb.size
   have hsz3 : w1.heap.size ≤ w3.heap.size := by first | omega | (simp at hbs3; omega)
   have HK3 : Hid (Kp (w.heap.size + 2) w1 w3) := hD (by
    refine Kp.below ?_ (by first | omega | (simp <;> omega)) hb
    repeat (first | exact HK1.out | exact Kp.refl _ _ | refine Kp.row ?_ (by omega) _ | refine Kp.cell ?_ (by first | (show _ < _ ∨ _ ≤ _; omega) | (simp <;> omega)) _ | refine Kp.alloc ?_ (by first | omega | (simp <;> omega)) _))
   have HB3 : Hid (Below w.heap.size w w3) := hD (by
    refine Below.trans ?_ (hb.mono (by first | omega | (simp <;> omega)))
    have hs := HB1.out.size
    repeat (first | exact HB1.out | refine bR ?_ _ | refine bC ?_ _ | refine bA ?_ _))
   clear hb hbs3
   by_cases c3 : e3 ≠ 0
   ·have hz : res = (Dev.zero, e3) := HD2.out.trans (if_pos c3)
    subst hz
    have q : (e3 != 0) = true := by simp [c3]
    clear c3
    go_wp2_with fail
    refine bodyPost_ret (results_ct rfl rfl (cs := devA Dev.zero DLoc.zero) (by go_simp) (by go_simp) (by go_simp)) rfl ⟨DLoc.zero, rfl, .const fun v => DevIn.zero v, ?_⟩
    have hs := HB3.out.size
    repeat (first | exact HB3.out | refine bR ?_ _ | refine bC ?_ _ | refine bA ?_ _)
   have c3 := Decidable.not_not.1 c3
   subst c3
   have HD3 := hD (HD2.out.trans (if_neg (by decide)))
   clear HD2
   cases torn
   case false =>
    have hz : res = ({ d with c0 := p1, c1 := p2, busy := false, job := Pat.zero, done := 0 }, 0) := HD3.out.trans (by rw [if_neg (by decide)])
    subst hz
    go_wp2_with fail
    refine bodyPost_ret (results_ct rfl rfl (cs := devA { d with c0 := p1, c1 := p2, busy := false, job := Pat.zero, done := 0 } { L1 with aj := none, cj := 0 }) (by go_simp) (by go_simp) (by go_simp)) rfl ⟨{ L1 with aj := none, cj := 0 }, rfl, ?_, ?_⟩
    ·refine Fresh.imp (P := fun v => DvOwn v (w.heap.size + 2) d L1) (Fresh.kp HFR.out ?_ (by omega) (by first | omega | (simp <;> omega))) (fun v hv => hv.devIn.fin p1 p2)
     repeat (first | exact HK3.out | exact Kp.refl _ _ | refine Kp.row ?_ (by omega) _ | refine Kp.cell ?_ (by first | (show _ < _ ∨ _ ≤ _; omega) | (simp <;> omega)) _ | refine Kp.alloc ?_ (by first | omega | (simp <;> omega)) _)
    ·have hs := HB3.out.size
     repeat (first | exact HB3.out | refine bR ?_ _ | refine bC ?_ _ | refine bA ?_ _)
   case true =>
    have hz : res = (({ d with c0 := p1, c1 := p2, busy := false, job := Pat.zero, done := 0 } : Dev).down, 0) := HD3.out.trans (by rw [if_pos rfl])
    subst hz
    go_wp2_with fail
    refine (down_calls { d with c0 := p1, c1 := p2, busy := false, job := Pat.zero, done := 0 } { L1 with aj := none, cj := 0 } _).mono ?_
    rintro e w4 ⟨rfl, hb⟩
    obtain ⟨a0r, a0f, a0n, a0c, a0z, a0l⟩ := kp (w.heap.size + 1) (devA Dev.zero DLoc.zero) hb
    obtain ⟨a1r, a1f, a1n, a1c, a1z, a1l⟩ := kp (w.heap.size) (devA { d with c0 := p1, c1 := p2, busy := false, job := Pat.zero, done := 0 } { L1 with aj := none, cj := 0 }) hb
    have hbs4 := hb.size
    have hsz4 : w1.heap.size ≤ w4.heap.size := by first | omega | (simp at hbs4; omega)
    have HK4 : Hid (Kp (w.heap.size + 2) w1 w4) := hD (by
     refine Kp.below ?_ (by first | omega | (simp <;> omega)) hb
     repeat (first | exact HK3.out | exact Kp.refl _ _ | refine Kp.row ?_ (by omega) _ | refine Kp.cell ?_ (by first | (show _ < _ ∨ _ ≤ _; omega) | (simp <;> omega)) _ | refine Kp.alloc ?_ (by first | omega | (simp <;> omega)) _))
    have HB4 : Hid (Below w.heap.size w w4) := hD (by
     refine Below.trans ?_ (hb.mono (by first | omega | (simp <;> omega)))
     have hs := HB3.out.size
     repeat (first | exact HB3.out | refine bR ?_ _ | refine bC ?_ _ | refine bA ?_ _))
    clear hb hbs4
    go_wp2_with fail
    refine bodyPost_ret (results_ct rfl rfl (cs := devA ({ d with c0 := p1, c1 := p2, busy := false, job := Pat.zero, done := 0 } : Dev).down ({ L1 with aj := none, cj := 0 } : DLoc).down) (by go_simp) (by go_simp) (by go_simp)) rfl ⟨({ L1 with aj := none, cj := 0 } : DLoc).down, rfl, ?_, ?_⟩
    ·refine Fresh.imp (P := fun v => DvOwn v (w.heap.size + 2) d L1) (Fresh.kp HFR.out ?_ (by omega) (by first | omega | (simp <;> omega))) (fun v hv => (hv.devIn.fin p1 p2).down)
     repeat (first | exact HK4.out | exact Kp.refl _ _ | refine Kp.row ?_ (by omega) _ | refine Kp.cell ?_ (by first | (show _ < _ ∨ _ ≤ _; omega) | (simp <;> omega)) _ | refine Kp.alloc ?_ (by first | omega | (simp <;> omega)) _)
    ·have hs := HB4.out.size
     repeat (first | exact HB4.out | refine bR ?_ _ | refine bC ?_ _ | refine bA ?_ _)
theorem devFinish_calls (d : Dev) (L : DLoc) (torn : Bool) (w : World) (h : DevIn w d L) : Calls Try.prog 61 #[.agg (devA d L), .bool torn] w (DvRet w (devFinish d torn).1 (devFinish d torn).2) := by
 by_cases hz : devReady d = 0
 ·exact devFinish_ok d L torn w h hz
 ·have e : devFinish d torn = (Dev.zero, devReady d) := by unfold devFinish; rw [if_pos hz]
  rw [e]; exact devFinish_bad d L torn w h hz
theorem devCrash_bad (d : Dev) (L : DLoc) (w : World) (h : DevIn w d L)  (hne : devReady d ≠ 0) : Calls Try.prog 63 #[.agg (devA d L)] w (DvRet w Dev.zero (devReady d)) := by
 have hba : Below w.heap.size w ((w.alloc (.cells (devA d L) 71)).alloc (.cells (devA Dev.zero DLoc.zero) 71)) := bA (bA (Below.refl _ _) _) _
 have HBA := hD hba
 have HIN := hD h
 have KB := hD (fun w h => ready_bad d L w h hne)
 have q : (devReady d != 0) = true := by simp [hne]
 generalize devReady d = n at *
 clear hne h hba
 go_enter Try.func63, Try.ntmps63
 go_wp2_with fail
 refine (KB.out _ (HIN.out.stays HBA.out)).mono ?_
 rintro e w1 ⟨rfl, hb1⟩
 obtain ⟨a0r, a0f, a0n, a0c, a0z, a0l⟩ := kp (w.heap.size) (devA d L) hb1
 obtain ⟨a1r, a1f, a1n, a1c, a1z, a1l⟩ := kp (w.heap.size + 1) (devA Dev.zero DLoc.zero) hb1
 have HB1 := hD (HBA.out.trans (hb1.mono (by simp <;> omega)))
 clear hb1
 go_wp2_with fail
 refine bodyPost_ret (results_ct rfl rfl (cs := devA Dev.zero DLoc.zero) (by go_simp) (by go_simp) (by go_simp)) rfl ⟨DLoc.zero, rfl, .const fun v => DevIn.zero v, ?_⟩
 have hs := HB1.out.size
 repeat (first | exact HB1.out | refine bR ?_ _ | refine bC ?_ _ | refine bA ?_ _)
theorem devCrash_ok (d : Dev) (L : DLoc) (w : World) (h : DevIn w d L)  (hz : devReady d = 0) : Calls Try.prog 63 #[.agg (devA d L)] w (DvRet w d.down 0) := by
 have hba : Below w.heap.size w ((w.alloc (.cells (devA d L) 71)).alloc (.cells (devA Dev.zero DLoc.zero) 71)) := bA (bA (Below.refl _ _) _) _
 have HBA := hD hba
 have HIN := hD h
 have KR := hD (fun w h => ready_ok d L w h hz)
 clear hz h hba
 go_enter Try.func63, Try.ntmps63
 go_wp2_with fail
 refine (KR.out _ (HIN.out.stays HBA.out)).mono ?_
 rintro e w1 ⟨L1, rfl, hfr, hb1⟩
 obtain ⟨a0r, a0f, a0n, a0c, a0z, a0l⟩ := kp (w.heap.size) (devA d L) hb1
 obtain ⟨a1r, a1f, a1n, a1c, a1z, a1l⟩ := kp (w.heap.size + 1) (devA Dev.zero DLoc.zero) hb1
 have HFR : Hid (Fresh (w.heap.size + 2) w1 (fun v => DvOwn v (w.heap.size + 2) d L1)) := hD (by simpa [Nat.add_assoc] using hfr)
 have HB1 := hD (HBA.out.trans (hb1.mono (by simp <;> omega)))
 have hsz1 : w.heap.size + 2 ≤ w1.heap.size := by have := hb1.size; simp at this; omega
 have HK1 : Hid (Kp (w.heap.size + 2) w1 w1) := hD (Kp.refl _ _)
 clear hb1 hfr
 go_wp2_with fail
 refine (down_calls d L1 _).mono ?_
 rintro e w2 ⟨rfl, hb2⟩
 obtain ⟨a0r, a0f, a0n, a0c, a0z, a0l⟩ := kp (w.heap.size) (devA d L1) hb2
 obtain ⟨a1r, a1f, a1n, a1c, a1z, a1l⟩ := kp (w.heap.size + 1) (devA Dev.zero DLoc.zero) hb2
 have HB12 : Hid (Below w1.heap.size w1 w2 ∨ True) := hD (.inr trivial)
 have hs1 := HB1.out.size
 have HX : Hid (Fresh (w.heap.size + 2) w2 (fun v => DvOwn v (w.heap.size + 2) d L1)) := hD (by
  refine Fresh.below ?_ hb2 (Nat.le_refl _)
  repeat (first | exact HFR.out | refine Fresh.row ?_ (by omega) _ | refine Fresh.alloc ?_ _))
 have HB2 : Hid (Below w.heap.size w w2) := hD (by
  refine Below.trans ?_ (hb2.mono (by first | omega | (simp <;> omega)))
  repeat (first | exact HB1.out | refine bR ?_ _ | refine bC ?_ _ | refine bA ?_ _))
 clear hb2 HFR
 go_wp2_with fail
 refine bodyPost_ret (results_ct rfl rfl (cs := devA d.down L1.down) (by go_simp) (by go_simp) (by go_simp)) rfl ⟨L1.down, rfl, ?_, ?_⟩
 ·refine Fresh.imp (P := fun v => DvOwn v (w.heap.size + 2) d L1) (Fresh.mono (base := w.heap.size + 2) ?_ (by omega)) (fun v hv => hv.devIn.down)
  repeat (first | exact HX.out | refine Fresh.row ?_ (by omega) _)
 ·have hs := HB2.out.size
  repeat (first | exact HB2.out | refine bR ?_ _ | refine bC ?_ _ | refine bA ?_ _)
theorem devCrash_calls (d : Dev) (L : DLoc) (w : World) (h : DevIn w d L) : Calls Try.prog 63 #[.agg (devA d L)] w (DvRet w (devCrash d).1 (devCrash d).2) := by
 unfold devCrash
 by_cases hz : devReady d = 0
 ·rw [if_neg (by omega)]; exact devCrash_ok d L w h hz
 ·rw [if_pos hz]; exact devCrash_bad d L w h hz
theorem DevIn.booted {d : Dev} {L : DLoc} (h : DevIn w d L) (p q : Cop) (k : Int) (hk : k = 0 ∨ k = 1) : DevIn w { d with c0 := p, c1 := q, up := true, running := k } L := ⟨h.k0, h.l0, h.b0, h.k1, h.l1, h.b1, h.kg, h.lg, h.got, h.job, ⟨by show -9223372036854775808 ≤ k; omega, by show k ≤ 9223372036854775807; omega⟩, h.id⟩
theorem start_slot (h : recCheck r = 0) : (recStart r).1 = 0 ∨ (recStart r).1 = 1 := by
 have := rec_active h
 unfold recStart
 repeat' split
 all_goals (try dsimp only)
 all_goals first | omega | (unfold nowAt; omega)
theorem devBoot_bad (d : Dev) (L : DLoc) (w : World) (h : DevIn w d L) (hne : devCheck d ≠ 0) : Calls Try.prog 65 #[.agg (devA d L)] w (DvRet w Dev.zero (devCheck d)) := by
 have hba : Below w.heap.size w ((w.alloc (.cells (devA d L) 71)).alloc (.cells (devA Dev.zero DLoc.zero) 71)) := bA (bA (Below.refl _ _) _) _
 have HBA := hD hba
 have HIN := hD h
 have K1 := hD (fun w h => devCheck_calls d L w h)
 have q : (devCheck d != 0) = true := by simp [hne]
 generalize devCheck d = n at *
 clear hne h hba
 go_enter Try.func65, Try.ntmps65
 go_wp2_with fail
 refine (K1.out _ (HIN.out.stays HBA.out)).mono ?_
 rintro e w1 ⟨rfl, hb1⟩
 obtain ⟨a0r, a0f, a0n, a0c, a0z, a0l⟩ := kp (w.heap.size) (devA d L) hb1
 obtain ⟨a1r, a1f, a1n, a1c, a1z, a1l⟩ := kp (w.heap.size + 1) (devA Dev.zero DLoc.zero) hb1
 have HB1 := hD (HBA.out.trans (hb1.mono (by simp <;> omega)))
 have hsz1 : w.heap.size + 2 ≤ w1.heap.size := by have := hb1.size; simp at this; omega
 clear hb1
 go_wp2_with fail
 refine bodyPost_ret (results_ct rfl rfl (cs := devA Dev.zero DLoc.zero) (by go_simp) (by go_simp) (by go_simp)) rfl ⟨DLoc.zero, rfl, .const fun v => DevIn.zero v, ?_⟩
 have hs := HB1.out.size
 repeat (first | exact HB1.out | refine bR ?_ _ | refine bC ?_ _ | refine bA ?_ _)
theorem devBoot_late (d : Dev) (L : DLoc) (w : World) (h : DevIn w d L) (hz : devCheck d = 0) (hu : d.up = true) : Calls Try.prog 65 #[.agg (devA d L)] w (DvRet w Dev.zero 5) := by
 have hba : Below w.heap.size w ((w.alloc (.cells (devA d L) 71)).alloc (.cells (devA Dev.zero DLoc.zero) 71)) := bA (bA (Below.refl _ _) _) _
 have HBA := hD hba
 have HIN := hD h
 have K1 := hD (fun w h => devCheck_calls d L w h)
 rw [hz] at K1
 clear hz h hba
 go_enter Try.func65, Try.ntmps65
 go_wp2_with fail
 refine (K1.out _ (HIN.out.stays HBA.out)).mono ?_
 rintro e w1 ⟨rfl, hb1⟩
 obtain ⟨a0r, a0f, a0n, a0c, a0z, a0l⟩ := kp (w.heap.size) (devA d L) hb1
 obtain ⟨a1r, a1f, a1n, a1c, a1z, a1l⟩ := kp (w.heap.size + 1) (devA Dev.zero DLoc.zero) hb1
 have HB1 := hD (HBA.out.trans (hb1.mono (by simp <;> omega)))
 have hsz1 : w.heap.size + 2 ≤ w1.heap.size := by have := hb1.size; simp at this; omega
 clear hb1
 go_wp2_with fail
 refine bodyPost_ret (results_ct rfl rfl (cs := devA Dev.zero DLoc.zero) (by go_simp) (by go_simp) (by go_simp)) rfl ⟨DLoc.zero, rfl, .const fun v => DevIn.zero v, ?_⟩
 have hs := HB1.out.size
 repeat (first | exact HB1.out | refine bR ?_ _ | refine bC ?_ _ | refine bA ?_ _)
theorem devBoot_ok (d : Dev) (L : DLoc) (w : World) (h : DevIn w d L) (hz : devCheck d = 0) (hu : d.up = false) : Calls Try.prog 65 #[.agg (devA d L)] w (DvRet w (devBoot d).1 (devBoot d).2) := by
 have hba : Below w.heap.size w ((w.alloc (.cells (devA d L) 71)).alloc (.cells (devA Dev.zero DLoc.zero) 71)) := bA (bA (Below.refl _ _) _) _
 have HBA := hD hba
 have HIN := hD h
 have K1 := hD (fun w h => devCheck_calls d L w h)
 have hdef : devBoot d = if (recStart d.rec_).2.2 ≠ 0 then (Dev.zero, (recStart d.rec_).2.2)
   else if (recStart d.rec_).2.1 ≠ d.rec_ then
    (if (recWrite d.c0 d.c1 (recStart d.rec_).2.1 false).2 ≠ 0 then (Dev.zero, (recWrite d.c0 d.c1 (recStart d.rec_).2.1 false).2)
    else ({ d with c0 := (recWrite d.c0 d.c1 (recStart d.rec_).2.1 false).1.1, c1 := (recWrite d.c0 d.c1 (recStart d.rec_).2.1 false).1.2, up := true, running := (recStart d.rec_).1 }, 0))
   else ({ d with c0 := d.c0, c1 := d.c1, up := true, running := (recStart d.rec_).1 }, 0) := by unfold devBoot; rw [if_neg (by omega), if_neg (by rw [hu]; decide)]; rfl
 have hok := devCheck_ok.1 hz
 have hrec := rec_ok hok
 have HSL := hD (start_slot hrec)
 have KC := hD (fun w h => devCopy_calls d L w h)
 have K2 := hD (fun w => read_ok d.c0 d.c1 w hok.cops)
 obtain ⟨rk, hrk⟩ : ∃ rk, (recRead d.c0 d.c1).2 = rk := ⟨_, rfl⟩
 have hre : (recRead d.c0 d.c1).1 = d.rec_ := rfl
 rw [hrk, hre] at K2
 have K3 := hD (fun w => start_calls d.rec_ w)
 obtain ⟨⟨k, nx, e3⟩, hq⟩ : ∃ x, recStart d.rec_ = x := ⟨_, rfl⟩
 rw [hq] at hdef K3 HSL
 dsimp only at hdef K3 HSL
 have K4 := hD (fun w => write_calls d.c0 d.c1 nx false w)
 obtain ⟨⟨⟨p1, p2⟩, e4⟩, hw⟩ : ∃ x, recWrite d.c0 d.c1 nx false = x := ⟨_, rfl⟩
 rw [hw] at hdef K4
 dsimp only at hdef
 have HD := hD hdef
 rw [hz] at K1
 generalize devBoot d = res at *
 clear hdef hok hrec hrk hre hq hw hz h hba
 go_enter Try.func65, Try.ntmps65
 go_wp2_with fail
 refine (K1.out _ (HIN.out.stays HBA.out)).mono ?_
 rintro e w1 ⟨rfl, hb1⟩
 obtain ⟨a0r, a0f, a0n, a0c, a0z, a0l⟩ := kp (w.heap.size) (devA d L) hb1
 obtain ⟨a1r, a1f, a1n, a1c, a1z, a1l⟩ := kp (w.heap.size + 1) (devA Dev.zero DLoc.zero) hb1
 have HB1 := hD (HBA.out.trans (hb1.mono (by simp <;> omega)))
 have hsz1 : w.heap.size + 2 ≤ w1.heap.size := by have := hb1.size; simp at this; omega
 clear hb1
 go_wp2_with fail
 refine (KC.out _ (HIN.out.stays HB1.out)).mono ?_
 rintro e w2 ⟨L1, rfl, hfr, hb⟩
 obtain ⟨a0r, a0f, a0n, a0c, a0z, a0l⟩ := kp (w.heap.size) (devA d L) hb
 obtain ⟨a1r, a1f, a1n, a1c, a1z, a1l⟩ := kp (w.heap.size + 1) (devA Dev.zero DLoc.zero) hb
 have HFR := hD hfr
 have hsz2 : w1.heap.size ≤ w2.heap.size := hb.size
 have HB2 : Hid (Below w.heap.size w w2) := hD (HB1.out.trans (hb.mono HB1.out.size))
 have HK2 : Hid (Kp w1.heap.size w2 w2) := hD (Kp.refl _ _)
 clear hb hfr
 go_wp2_with fail
 refine (K2.out _).mono ?_
 rintro e w3 ⟨rfl, hb⟩
 obtain ⟨a0r, a0f, a0n, a0c, a0z, a0l⟩ := kp (w.heap.size) (devA d L1) hb
 obtain ⟨a1r, a1f, a1n, a1c, a1z, a1l⟩ := kp (w.heap.size + 1) (devA Dev.zero DLoc.zero) hb
 have hbs3 := hb.size
 have hsz3 : w2.heap.size ≤ w3.heap.size := by first | omega | (simp [World.setRow] at hbs3; omega)
 have HK3 : Hid (Kp w1.heap.size w2 w3) := hD (by
  refine Kp.below ?_ (by first | omega | (simp [World.setRow] <;> omega)) hb
  repeat (first | exact HK2.out | exact Kp.refl _ _ | refine Kp.row ?_ (by omega) _ | refine Kp.cell ?_ (by first | (show _ < _ ∨ _ ≤ _; omega) | (simp <;> omega)) _ | refine Kp.alloc ?_ (by first | omega | (simp <;> omega)) _))
 have HB3 : Hid (Below w.heap.size w w3) := hD (by
  refine Below.trans ?_ (hb.mono (by first | omega | (simp [World.setRow] <;> omega)))
  have hs := HB2.out.size
  repeat (first | exact HB2.out | refine bR ?_ _ | refine bC ?_ _ | refine bA ?_ _))
 clear hb hbs3
 go_wp2_with fail
 refine (K3.out _).mono ?_
 rintro e w4 ⟨rfl, hb⟩
 obtain ⟨a0r, a0f, a0n, a0c, a0z, a0l⟩ := kp (w.heap.size) (devA d L1) hb
 obtain ⟨a1r, a1f, a1n, a1c, a1z, a1l⟩ := kp (w.heap.size + 1) (devA Dev.zero DLoc.zero) hb
 obtain ⟨a2r, a2f, a2n, a2c, a2z, a2l⟩ := kp (w3.heap.size) (recA d.rec_) hb
 have hbs4 := hb.size
 have hsz4 : w2.heap.size ≤ w4.heap.size := by first | omega | (simp [World.setRow] at hbs4; omega)
 have HK4 : Hid (Kp w1.heap.size w2 w4) := hD (by
  refine Kp.below ?_ (by first | omega | (simp [World.setRow] <;> omega)) hb
  repeat (first | exact HK3.out | exact Kp.refl _ _ | refine Kp.row ?_ (by omega) _ | refine Kp.cell ?_ (by first | (show _ < _ ∨ _ ≤ _; omega) | (simp <;> omega)) _ | refine Kp.alloc ?_ (by first | omega | (simp <;> omega)) _))
 have HB4 : Hid (Below w.heap.size w w4) := hD (by
  refine Below.trans ?_ (hb.mono (by first | omega | (simp [World.setRow] <;> omega)))
  have hs := HB3.out.size
  repeat (first | exact HB3.out | refine bR ?_ _ | refine bC ?_ _ | refine bA ?_ _))
 clear hb hbs4
 have hsz34 : w3.heap.size < w4.heap.size := a2l
 by_cases c3 : e3 ≠ 0
 ·have hz : res = (Dev.zero, e3) := HD.out.trans (if_pos c3)
  subst hz
  have q : (e3 != 0) = true := by simp [c3]
  clear c3
  go_wp2_with fail
  refine bodyPost_ret (results_ct rfl rfl (cs := devA Dev.zero DLoc.zero) (by go_simp) (by go_simp) (by go_simp)) rfl ⟨DLoc.zero, rfl, .const fun v => DevIn.zero v, ?_⟩
  have hs := HB4.out.size
  repeat (first | exact HB4.out | refine bR ?_ _ | refine bC ?_ _ | refine bA ?_ _)
 have c3 := Decidable.not_not.1 c3
 subst c3
 have HD2 := hD (HD.out.trans (if_neg (by decide)))
 clear HD
 by_cases c4 : nx ≠ d.rec_
 ·have HD3 := hD (HD2.out.trans (if_pos c4))
  have q4 : decide (nx = d.rec_) = false := decide_eq_false c4
  clear HD2 c4
  go_wp2_with fail
  refine (K4.out _).mono ?_
  rintro e w5 ⟨rfl, hb⟩
  obtain ⟨a0r, a0f, a0n, a0c, a0z, a0l⟩ := kp (w.heap.size) (devA d L1) hb
  obtain ⟨a1r, a1f, a1n, a1c, a1z, a1l⟩ := kp (w.heap.size + 1) (devA Dev.zero DLoc.zero) hb
  have hbs5 := hb.size
  have hsz5 : w2.heap.size ≤ w5.heap.size := by first | omega | (simp [World.setRow] at hbs5; omega)
  have HK5 : Hid (Kp w1.heap.size w2 w5) := hD (by
   refine Kp.below ?_ (by first | omega | (simp [World.setRow] <;> omega)) hb
   repeat (first | exact HK4.out | exact Kp.refl _ _ | refine Kp.row ?_ (by omega) _ | refine Kp.cell ?_ (by first | (show _ < _ ∨ _ ≤ _; omega) | (simp <;> omega)) _ | refine Kp.alloc ?_ (by first | omega | (simp <;> omega)) _))
  have HB5 : Hid (Below w.heap.size w w5) := hD (by
   refine Below.trans ?_ (hb.mono (by first | omega | (simp [World.setRow] <;> omega)))
   have hs := HB4.out.size
   repeat (first | exact HB4.out | refine bR ?_ _ | refine bC ?_ _ | refine bA ?_ _))
  clear hb hbs5
  by_cases c5 : e4 ≠ 0
  ·have hz : res = (Dev.zero, e4) := HD3.out.trans (if_pos c5)
   subst hz
   have q : (e4 != 0) = true := by simp [c5]
   clear c5
   go_wp2_with fail
   refine bodyPost_ret (results_ct rfl rfl (cs := devA Dev.zero DLoc.zero) (by go_simp) (by go_simp) (by go_simp)) rfl ⟨DLoc.zero, rfl, .const fun v => DevIn.zero v, ?_⟩
   have hs := HB5.out.size
   repeat (first | exact HB5.out | refine bR ?_ _ | refine bC ?_ _ | refine bA ?_ _)
  have c5 := Decidable.not_not.1 c5
  subst c5
  have hz : res = ({ d with c0 := p1, c1 := p2, up := true, running := k }, 0) := HD3.out.trans (if_neg (by decide))
  subst hz
  clear hu
  go_wp2_with fail
  refine bodyPost_ret (results_ct rfl rfl (cs := devA { d with c0 := p1, c1 := p2, up := true, running := k } L1) (by go_simp) (by go_simp) (by go_simp)) rfl ⟨L1, rfl, ?_, ?_⟩
  ·refine Fresh.imp (P := fun v => DvOwn v w1.heap.size d L1) (Fresh.kp HFR.out ?_ (by omega) (by first | omega | (simp [World.setRow] <;> omega))) (fun v hv => hv.devIn.booted p1 p2 k HSL.out)
   repeat (first | exact HK5.out | exact Kp.refl _ _ | refine Kp.row ?_ (by omega) _ | refine Kp.cell ?_ (by first | (show _ < _ ∨ _ ≤ _; omega) | (simp <;> omega)) _ | refine Kp.alloc ?_ (by first | omega | (simp <;> omega)) _)
  ·have hs := HB5.out.size
   repeat (first | exact HB5.out | refine bR ?_ _ | refine bC ?_ _ | refine bA ?_ _)
 ·have hz : res = ({ d with c0 := d.c0, c1 := d.c1, up := true, running := k }, 0) := HD2.out.trans (if_neg c4)
  have q4 : decide (nx = d.rec_) = true := decide_eq_true (Decidable.not_not.1 c4)
  subst hz
  clear c4 hu
  go_wp2_with fail
  refine bodyPost_ret (results_ct rfl rfl (cs := devA { d with c0 := d.c0, c1 := d.c1, up := true, running := k } L1) (by go_simp) (by go_simp) (by go_simp)) rfl ⟨L1, rfl, ?_, ?_⟩
  ·refine Fresh.imp (P := fun v => DvOwn v w1.heap.size d L1) (Fresh.kp HFR.out ?_ (by omega) (by first | omega | (simp [World.setRow] <;> omega))) (fun v hv => hv.devIn.booted d.c0 d.c1 k HSL.out)
   repeat (first | exact HK4.out | exact Kp.refl _ _ | refine Kp.row ?_ (by omega) _ | refine Kp.cell ?_ (by first | (show _ < _ ∨ _ ≤ _; omega) | (simp <;> omega)) _ | refine Kp.alloc ?_ (by first | omega | (simp <;> omega)) _)
  ·have hs := HB4.out.size
   repeat (first | exact HB4.out | refine bR ?_ _ | refine bC ?_ _ | refine bA ?_ _)
theorem devBoot_calls (d : Dev) (L : DLoc) (w : World) (h : DevIn w d L) : Calls Try.prog 65 #[.agg (devA d L)] w (DvRet w (devBoot d).1 (devBoot d).2) := by
 by_cases hz : devCheck d = 0
 ·cases hu : d.up
  ·exact devBoot_ok d L w h hz hu
  ·have e : devBoot d = (Dev.zero, 5) := by unfold devBoot; rw [if_neg (by omega), if_pos hu]
   rw [e]; exact devBoot_late d L w h hz hu
 ·have e : devBoot d = (Dev.zero, devCheck d) := by unfold devBoot; rw [if_pos hz]
  rw [e]; exact devBoot_bad d L w h hz
section
open Go.RowKit
end
section
open Go.RowKit
end
section
open Go.RowKit
end
section
open Go.RowKit
end
section
open Go.RowKit
end
section
open Go.RowKit
end
@[go_sem] theorem aggSzHap : aggSz Try.prog 106 = 2 := by kernel_rfl
theorem ims_three {g0 g1 g2 g3 : Nat} (h0 : ∃ t f, w.heap[g0]? = some (.cells (im0.map bv).toArray t f)) (h1 : ∃ t f, w.heap[g1]? = some (.cells (im1.map bv).toArray t f)) (h2 : ∃ t f, w.heap[g2]? = some (.cells (im2.map bv).toArray t f))
  (h3 : ∃ t f, w.heap[g3]? = some (.cells #[.slice (some ⟨g0, 0, none⟩) 8 8, .slice (some ⟨g1, 0, none⟩) 9 9, .slice (some ⟨g2, 0, none⟩) 11 11] t f)) : Ims w (some ⟨g3, 0, none⟩) ims := by
 obtain ⟨_, _, h0⟩ := h0
 obtain ⟨_, _, h1⟩ := h1
 obtain ⟨_, _, h2⟩ := h2
 obtain ⟨_, _, h3⟩ := h3
 intro i hi
 have hi3 : i < 3 := hi
 refine ⟨g3, 0, rfl, blk_lt h3, ?_⟩
 have hc := fun j => cell_of_row w g3 j _ _ _ h3
 match i, hi3 with
 | 0, _ => exact ⟨[.slice (some ⟨g0, 0, none⟩) 8 8], rfl, (fun j hj => by
   obtain rfl : j = 0 := by simpa using hj
   simp [hc]), ⟨_, 8, rfl, Nat.le_refl _, Nat.le_of_ble_eq_true rfl, bts_blk h0 rfl⟩⟩
 | 1, _ => exact ⟨[.slice (some ⟨g1, 0, none⟩) 9 9], rfl, (fun j hj => by
   obtain rfl : j = 0 := by simpa using hj
   simp [hc]), ⟨_, 9, rfl, Nat.le_refl _, Nat.le_of_ble_eq_true rfl, bts_blk h1 rfl⟩⟩
 | 2, _ => exact ⟨[.slice (some ⟨g2, 0, none⟩) 11 11], rfl, (fun j hj => by
   obtain rfl : j = 0 := by simpa using hj
   simp [hc]), ⟨_, 11, rfl, Nat.le_refl _, Nat.le_of_ble_eq_true rfl, bts_blk h2 rfl⟩⟩
def IsRet (w : World) : Ending → World → Prop := fun en w' =>
 ∃ A c, en = .returned (.slice A ims.length c) ∧ ims.length ≤ c ∧ Ims w' A ims ∧ Below w.heap.size w w'
theorem lawImages_calls (w : World) : Calls Try.prog 116 #[] w (IsRet w) := by
 have kc := convert_const (P := Try.prog) 22 5 Try.underlying22 Try.underlying5
 go_enter Try.func116, Try.ntmps116
 go_wp2_with fail
 go_ret
 refine ⟨some ⟨w.heap.size + 1 + 1 + 1, 0, none⟩, 3, rfl, Nat.le_refl _, ims_three (g0 := w.heap.size) (g1 := w.heap.size + 1) (g2 := w.heap.size + 1 + 1) ?_ ?_ ?_ ?_, ?_⟩
 ·exact ⟨_, _, blk_old (blk_old (blk_old (blk_top (by simp))))⟩
 ·exact ⟨_, _, blk_old (blk_old (blk_top (by simp)))⟩
 ·exact ⟨_, _, blk_old (blk_top (by simp))⟩
 ·exact ⟨_, _, blk_top (by simp)⟩
 ·exact ((((Below.refl _ _).alloc (by simp) _).alloc (by simp) _).alloc (by simp; omega) _).alloc (by simp; omega) _
theorem Ims.at_ {A : Option Addr} {l : List (List UInt8)} (h : Ims w A l) {n : Nat} (hn : n < l.length) : ∃ b o B m, A = some ⟨b, o, none⟩ ∧ b < w.heap.size ∧ w.cell? ⟨b, o + n, none⟩ = some (.slice B l[n].length m) ∧ l[n].length ≤ m ∧ Bts w B l[n] := by
 obtain ⟨b, o, rfl, hb, cs, h1, h2, B, m, h3, h4, h5, h6⟩ := h n hn
 subst h3
 refine ⟨b, o, B, m, rfl, hb, ?_, h4, h6⟩
 have := h2 0 (by simp)
 simpa using this
section
variable {X : Type} {w0 w w' : World} {ci al st : Nat} {ix : List Nat} {val : X → Nat → Value} {row : X → Array Value} {zr : Array Value} {R : X → World → Prop} {dn : Nat → Bool} {cv : Nat → Value}
theorem tbJ_o {k : Nat} {v : Value} (hc : k ≠ ci) (hal : k ≠ al) (hst : k ≠ st) (hix : ∀ j ∈ ix, j ≠ k) (h : tbJ w0 ci al st ix val row zr R dn cv w) (hb : Below w.heap.size w w') :
  tbJ w0 ci al st ix val row zr R (fun j => if j = k then true else dn j) (fun j => if j = k then v else cv j) w' := by
 obtain ⟨x, b, gb, w2, h⟩ := h
 refine ⟨x, b, gb, w2, h.bel.trans (hb.mono h.bel.size), ?_, ?_, ?_, ?_⟩
 ·simp only [if_neg (fun e : ci = k => hc e.symm)]
  intro e
  obtain ⟨g2, g3, g4, g5⟩ := h.call e
  exact ⟨g2, g3, fun q h1 h2 => (hb.block q (by omega)).trans (g4 q h1 h2), Nat.le_trans g5 hb.size⟩
 ·simp only [if_neg (fun e : ci = k => hc e.symm)]
  intro e j hj hd
  rw [if_neg (hix j hj)] at hd ⊢
  exact h.vals e j hj hd
 ·simp only [if_neg (fun e : al = k => hal e.symm), if_neg (fun e : st = k => hst e.symm)]
  intro ha
  obtain ⟨g1, g2, g3, g4, g5, g6⟩ := h.box ha
  exact ⟨g1, g2, Nat.lt_of_lt_of_le g3 hb.size, (frOf_below g3 hb).trans g4, fun e => (rowOf_below g3 hb).trans (g5 e), fun e => (rowOf_below g3 hb).trans (g6 e)⟩
 ·simp only [if_neg (fun e : ci = k => hc e.symm), if_neg (fun e : al = k => hal e.symm)]
  exact h.apart
end
def imC (i0 i1 i2 idx : Nat) (im : List UInt8) (dn : Nat → Bool) (cv : Nat → Value) (w : World) : Prop :=
 (dn i0 = true → ∃ b o c, cv i0 = .slice (some ⟨b, o, none⟩) 3 c ∧ 3 ≤ c ∧ Ims w (some ⟨b, o, none⟩) ims ∧ (dn i1 = true → cv i1 = .pointer (some ⟨b, o + idx, none⟩))) ∧
 (dn i2 = true → ∃ B m, cv i2 = .slice B im.length m ∧ im.length ≤ m ∧ Bts w B im)
section
variable {i0 i1 i2 idx k : Nat} {im : List UInt8} {dn : Nat → Bool} {cv : Nat → Value} {w w' : World} {v : Value}
theorem imC_o (h0 : i0 ≠ k) (h1 : i1 ≠ k) (h2 : i2 ≠ k) (h : imC i0 i1 i2 idx im dn cv w) (hb : Below w.heap.size w w') : imC i0 i1 i2 idx im (fun j => if j = k then true else dn j) (fun j => if j = k then v else cv j) w' := by
 unfold imC
 simp only [if_neg h0, if_neg h1, if_neg h2]
 refine ⟨fun e => ?_, fun e => ?_⟩
 ·obtain ⟨b, o, c, e1, e2, e3, e4⟩ := h.1 e
  exact ⟨b, o, c, e1, e2, e3.stays hb, e4⟩
 ·obtain ⟨B, m, e1, e2, e3⟩ := h.2 e
  exact ⟨B, m, e1, e2, e3.stays hb⟩
theorem imC_0 {b o c : Nat} (h1 : i1 ≠ i0) (h2 : i2 ≠ i0) (hd : dn i1 = false) (hd2 : dn i2 = false) (hv : v = .slice (some ⟨b, o, none⟩) 3 c) (hc : 3 ≤ c) (hi : Ims w' (some ⟨b, o, none⟩) ims) : imC i0 i1 i2 idx im (fun j => if j = i0 then true else dn j) (fun j => if j = i0 then v else cv j) w' := by
 unfold imC
 simp only [if_true, if_neg h1, if_neg h2, hd, hd2]
 exact ⟨fun _ => ⟨b, o, c, hv, hc, hi, fun e => by cases e⟩, fun e => by cases e⟩
theorem imC_1 (h0 : i0 ≠ i1) (h2 : i2 ≠ i1) (hd : dn i0 = true) (hd2 : dn i2 = false) (h : imC i0 i1 i2 idx im dn cv w) : ∃ b o c, cv i0 = .slice (some ⟨b, o, none⟩) 3 c ∧ 3 ≤ c ∧ ∀ v, v = .pointer (some ⟨b, o + idx, none⟩) → imC i0 i1 i2 idx im (fun j => if j = i1 then true else dn j) (fun j => if j = i1 then v else cv j) w := by
 obtain ⟨b, o, c, e1, e2, e3, e4⟩ := h.1 hd
 refine ⟨b, o, c, e1, e2, fun v hv => ?_⟩
 unfold imC
 simp only [if_neg h0, if_true, if_neg h2, hd2]
 exact ⟨fun _ => ⟨b, o, c, e1, e2, e3, fun _ => hv⟩, fun e => by cases e⟩
theorem imC_2 (h0 : i0 ≠ i2) (h1 : i1 ≠ i2) (hd : dn i0 = true) (hd1 : dn i1 = true) (hl : idx < ims.length) (hi : ims[idx]? = some im) (h : imC i0 i1 i2 idx im dn cv w) : ∃ b o B m, cv i1 = .pointer (some ⟨b, o + idx, none⟩) ∧ w.cell? ⟨b, o + idx, none⟩ = some (.slice B im.length m) ∧ ∀ v, v = .slice B im.length m → imC i0 i1 i2 idx im (fun j => if j = i2 then true else dn j) (fun j => if j = i2 then v else cv j) w := by
 obtain ⟨b, o, c, e1, e2, e3, e4⟩ := h.1 hd
 obtain ⟨b', o', B, m, f1, f2, f3, f4, f5⟩ := e3.at_ hl
 have hg : ims[idx] = im := by rw [List.getElem?_eq_getElem hl] at hi; injection hi
 cases f1
 rw [hg] at f3 f4 f5
 refine ⟨b, o, B, m, e4 hd1, f3, fun v hv => ?_⟩
 unfold imC
 simp only [if_neg h0, if_neg h1, if_true]
 exact ⟨fun _ => ⟨b, o, c, e1, e2, e3, e4⟩, fun _ => ⟨B, m, hv, f4, f5⟩⟩
end
theorem refPatCheck_calls (A : Option Addr) (c : Nat) (f t o n sz : Int) (l : List Stp) (w : World) (hl : l.length ≤ 1048576) (hs : Sps w A l) :
  Calls Try.prog 30 #[.agg (patA f t o n sz A l.length c)] w (RetB w (iv (patCheck ⟨f, t, o, n, sz, l⟩))) := refPatCheckA_calls A c f t o n sz l w hl hs
theorem refMade_many (A B : Option Addr) (c d : Nat) (fr to_ : Int) (old b : List UInt8) (w : World) (h : 64 < old.length ∨ 64 < b.length) (ho : old.length ≤ 1048576) (hl : b.length ≤ 1048576) :
  Calls Try.prog 26 #[iv fr, iv to_, .slice A old.length c, .slice B b.length d] w (PaRet w Pat.zero 1) := by
 have K := hD (fun w => refDiffed_many A B c d old b w h ho hl)
 clear h
 go_enter Try.func26, Try.ntmps26
 go_wp2_with fail
 refine (K.out _).mono ?_
 rintro e w1 ⟨rfl, hb1⟩
 obtain ⟨a0r, a0f, a0n, a0c, a0z, a0l⟩ := kp (w.heap.size) (patA 0 0 0 0 0 none 0 0) hb1
 have HB := hD (((Below.refl _ _).alloc (Nat.le_refl w.heap.size) _).trans (hb1.mono (by simp)))
 clear hb1
 go_wp2_with fail
 refine bodyPost_ret (results_ct rfl rfl (cs := patA 0 0 0 0 0 none 0 0) (by go_simp) (by go_simp) (by go_simp)) rfl ⟨none, 0, rfl, .const fun v => patIn_zero v, below_row HB.out (by omega) _⟩
theorem refMade_fit (A B : Option Addr) (c d : Nat) (fr to_ : Int) (old b : List UInt8) (w : World) (hml : ML w) (hc : old.length ≤ c) (hd : b.length ≤ d) (hf : I64 fr) (ht : I64 to_) (ho : old.length ≤ 64) (hl : b.length ≤ 64) (hA : Bts w A old) (hB : Bts w B b) :
  Calls Try.prog 26 #[iv fr, iv to_, .slice A old.length c, .slice B b.length d] w (PaRet w (patMake (sumOn 1) fr to_ old b).1 (patMake (sumOn 1) fr to_ old b).2) := by
 have K1 := hD (fun w hm h1 h2 => refDiffed3_calls A B c d old b w hm hc hd ho hl h1 h2)
 have K2 := hD (fun w h => refSumOf_calls A c old w (by omega) h)
 have K3 := hD (fun w h => refSumOf_calls B d b w (by omega) h)
 have hs1 := sumOn_bd 1 old (by omega)
 have hs2 := sumOn_bd 1 b (by omega)
 have hdl : (diffed old b).length ≤ 40 := (diffed_ok old b ho hl).many
 have HM : Hid ((patMake (sumOn 1) fr to_ old b) = if patCheck ⟨fr, to_, sumOn 1 old, sumOn 1 b, b.length, diffed old b⟩ ≠ 0 then (Pat.zero, patCheck ⟨fr, to_, sumOn 1 old, sumOn 1 b, b.length, diffed old b⟩) else (⟨fr, to_, sumOn 1 old, sumOn 1 b, b.length, diffed old b⟩, 0)) := hD (by
  unfold patMake; rw [if_neg (by omega)])
 generalize sumOn 1 old = s1 at *
 generalize sumOn 1 b = s2 at *
 generalize diffed old b = l at *
 have HA := hD hA
 have HB := hD hB
 have HML := hD hml
 have HI : Hid (I64 fr ∧ I64 to_) := hD ⟨hf, ht⟩
 clear hA hB hf ht hml
 generalize patMake (sumOn 1) fr to_ old b = r at *
 go_enter Try.func26, Try.ntmps26
 go_wp2_with fail
 have hba := (Below.refl w.heap.size w).alloc (Nat.le_refl _) (.cells (patA 0 0 0 0 0 none 0 0) 35)
 refine (K1.out _ (HML.out.stays hba) (HA.out.stays hba) (HB.out.stays hba)).mono ?_
 rintro e w1 ⟨A1, c1, rfl, hsp, hc1, hb1⟩
 obtain ⟨a0r, a0f, a0n, a0c, a0z, a0l⟩ := kp (w.heap.size) (patA 0 0 0 0 0 none 0 0) hb1
 have HB1 := hD (hba.trans (hb1.mono (by simp)))
 have HSP := hD hsp
 clear hb1 hba hsp
 go_wp2_with fail
 refine (K2.out _ (HA.out.stays HB1.out)).mono ?_
 rintro e w2 ⟨rfl, rfl⟩
 go_wp2_with fail
 refine (K3.out _ (HB.out.stays HB1.out)).mono ?_
 rintro e w3 ⟨rfl, rfl⟩
 go_wp2_with fail
 have hba := (Below.refl w1.heap.size w1).alloc (Nat.le_refl _) (.cells (patA fr to_ s1 s2 b.length A1 l.length c1) 35)
 have HS2 := hD (HSP.out.below hba (Nat.le_refl _))
 refine (refPatCheck_calls A1 c1 fr to_ s1 s2 b.length l _ (by omega) HS2.out.now).mono ?_
 rintro e w4 ⟨rfl, hb4⟩
 obtain ⟨b0r, b0f, b0n, b0c, b0z, b0l⟩ := kp (w.heap.size) (patA 0 0 0 0 0 none 0 0) hb4
 obtain ⟨b1r, b1f, b1n, b1c, b1z, b1l⟩ := kp (w1.heap.size) (patA fr to_ s1 s2 b.length A1 l.length c1) hb4
 have HB4 : Hid (Below w.heap.size w w4) := hD ((HB1.out.alloc HB1.out.size _).trans (hb4.mono (by have := HB1.out.size; simp; omega)))
 have HS4 := hD (HS2.out.below hb4 (Nat.le_refl _))
 have HPI : Hid (Fresh (w.heap.size + 1) w4 (fun v => PatIn v ⟨fr, to_, s1, s2, b.length, l⟩ A1 c1)) := hD (Fresh.imp (by simpa using HS4.out) fun v hv => ⟨hc1, by dsimp only; omega, hv, HI.out.1, HI.out.2, ⟨by dsimp only; omega, by dsimp only; omega⟩, ⟨by dsimp only; omega, by dsimp only; omega⟩, ⟨by dsimp only; omega, by dsimp only; omega⟩⟩)
 clear hb4 hba
 by_cases hz : patCheck ⟨fr, to_, s1, s2, b.length, l⟩ = 0
 ·have hr : r = (⟨fr, to_, s1, s2, b.length, l⟩, 0) := by rw [HM.out, if_neg (by simpa using hz)]
  have HR := hD hr
  clear hr
  go_wp2_with fail
  refine bodyPost_ret (results_ct rfl rfl (cs := patA fr to_ s1 s2 b.length A1 l.length c1) (by go_simp) (by go_simp) (by go_simp)) rfl ?_
  rw [HR.out]
  exact ⟨A1, c1, rfl, (HPI.out.row (by omega) _).mono (by omega), below_row HB4.out (by omega) _⟩
 ·have hr : r = (Pat.zero, patCheck ⟨fr, to_, s1, s2, b.length, l⟩) := by rw [HM.out, if_pos hz]
  have hq : (patCheck ⟨fr, to_, s1, s2, b.length, l⟩ != 0) = true := by simp [hz]
  have HR := hD hr
  clear hr hz
  generalize patCheck ⟨fr, to_, s1, s2, b.length, l⟩ = e1 at *
  go_wp2_with fail
  refine bodyPost_ret (results_ct rfl rfl (cs := patA 0 0 0 0 0 none 0 0) (by go_simp) (by go_simp) (by go_simp)) rfl ?_
  rw [HR.out]
  exact ⟨none, 0, rfl, .const fun v => patIn_zero v, below_row HB4.out (by omega) _⟩
theorem refMade_calls (A B : Option Addr) (c d : Nat) (fr to_ : Int) (old b : List UInt8) (w : World) (hml : ML w) (hc : old.length ≤ c) (hd : b.length ≤ d) (hf : I64 fr) (ht : I64 to_) (ho : old.length ≤ 1048576) (hl : b.length ≤ 1048576) (hA : Bts w A old) (hB : Bts w B b) :
  Calls Try.prog 26 #[iv fr, iv to_, .slice A old.length c, .slice B b.length d] w (PaRet w (patMake (sumOn 1) fr to_ old b).1 (patMake (sumOn 1) fr to_ old b).2) := by
 by_cases h : 64 < old.length ∨ 64 < b.length
 ·have e : patMake (sumOn 1) fr to_ old b = (Pat.zero, 1) := by unfold patMake; rw [if_pos h]
  rw [e]; exact refMade_many A B c d fr to_ old b w h ho hl
 ·exact refMade_fit A B c d fr to_ old b w hml hc hd hf ht (by omega) (by omega) hA hB
theorem refPatCheckR_calls (A : Option Addr) (c : Nat) (f t o n sz : Int) (l : List Stp) (w : World) (hl : l.length ≤ 1048576) (hs : Sps w A l) :
  Calls Try.prog 30 #[.agg (patA f t o n sz A l.length c)] w (RetB w (iv (patCheck ⟨f, t, o, n, sz, l⟩))) := refPatCheckA_calls A c f t o n sz l w hl hs
theorem u8wrap (n : Int) : IntKind.u8.wrap n = n % 256 := by unfold IntKind.wrap; simp [IntKind.signed, IntKind.bits]
theorem bv_by3 (n : Int) : bv (by_ n) = .int .u8 (IntKind.u8.wrap n) := by rw [u8wrap]; exact bv_by2 n
theorem refPatPut_bad (B : Option Addr) (d : Nat) (p : Pat) (w : World) (hp : PatIn w p B d) (h : patCheck p ≠ 0) :
  Calls Try.prog 108 #[.agg (patA p.from_ p.to_ p.old p.new_ p.size B p.ops.length d)] w (RetB w (.tuple #[.slice none 0 0, iv (patCheck p)])) := by
 obtain ⟨f, t, o, n, sz, l⟩ := p
 obtain ⟨hcap, hlen, hops, -, -, -, -, -⟩ := hp
 dsimp only at *
 have hba := (Below.refl w.heap.size w).alloc (Nat.le_refl _) (.cells (patA f t o n sz B l.length d) 35)
 have K1 := hD (refPatCheckR_calls B d f t o n sz l _ hlen (hops.stays hba))
 generalize patCheck ⟨f, t, o, n, sz, l⟩ = ck at *
 have q : (ck != 0) = true := by simp [h]
 clear hops h
 go_enter Try.func108, Try.ntmps108
 go_wp2_with fail
 refine K1.out.mono ?_
 rintro e w1 ⟨rfl, hb1⟩
 go_wp2_with fail
 go_ret2
 exact ⟨rfl, hba.trans (hb1.mono (by simp))⟩
theorem refPatPut_ok (B : Option Addr) (d : Nat) (p : Pat) (w : World) (hp : PatIn w p B d) (h : patCheck p = 0) :
  Calls Try.prog 108 #[.agg (patA p.from_ p.to_ p.old p.new_ p.size B p.ops.length d)] w (UnRet w (patBytes p, 0)) := by
 have hl400 := patBytes_len h
 obtain ⟨hr, hd⟩ := patCheck_ok.1 h
 have HPB : Hid (patBytes p = patHead p ++ opsBytes p.ops) := hD rfl
 obtain ⟨f, t, o, n, sz, l⟩ := p
 obtain ⟨hcap, hlen, hops, -, -, -, -, -⟩ := hp
 unfold Pat.range at hr
 dsimp only at *
 obtain ⟨r1, r2, r3, r4, r5, r6, r7, r8⟩ := hr
 have r9 := hd.s0
 have r10 := hd.s1
 have r11 := hd.many
 have hba := (Below.refl w.heap.size w).alloc (Nat.le_refl _) (.cells (patA f t o n sz B l.length d) 35)
 have K1 := hD (refPatCheckR_calls B d f t o n sz l _ hlen (hops.stays hba))
 rw [h] at K1
 have HD := hD hd
 have HS := hD hops
 have HBA := hD hba
 have t1 : o.tdiv 256 = o / 256 := Int.tdiv_eq_ediv_of_nonneg (by omega)
 have t2 : o.tmod 256 = o % 256 := Int.tmod_eq_emod_of_nonneg (by omega)
 have t3 : n.tdiv 256 = n / 256 := Int.tdiv_eq_ediv_of_nonneg (by omega)
 have t4 : n.tmod 256 = n % 256 := Int.tmod_eq_emod_of_nonneg (by omega)
 have u1 : IntKind.i64.wrap (o / 256) = o / 256 := IntWalk.i64_in _ (by omega)
 have u3 : IntKind.i64.wrap (n / 256) = n / 256 := IntWalk.i64_in _ (by omega)
 clear hops hd h hba
 go_enter Try.func108, Try.ntmps108
 go_wp2_with fail
 refine K1.out.mono ?_
 rintro e w1 ⟨rfl, hb1⟩
 obtain ⟨a0r, a0f, a0n, a0c, a0z, a0l⟩ := kp (w.heap.size) (patA f t o n sz B l.length d) hb1
 have HB1 := hD (HBA.out.trans (hb1.mono (by simp)))
 clear hb1 K1
 go_wp2_with fail
 obtain ⟨ns, hns⟩ : ∃ ns : List Int, [f, t, o / 256, o % 256, n / 256, n % 256, sz, (l.length : Int)] = ns := ⟨_, rfl⟩
 have HHD : Hid ((patHead ⟨f, t, o, n, sz, l⟩) = ns.map by_) := hD (by
  have e : ∀ m : Int, by_ (m % 256) = by_ m := fun m => by unfold by_; rw [Int.emod_emod_of_dvd _ (Int.dvd_refl _)]
  rw [← hns]; unfold patHead; simp only [List.map_cons, List.map_nil, e])
 have hn8 : ns.length = 8 := by rw [← hns]; rfl
 have HNT : Hid (Nts (w1.alloc (.cells #[iv f, iv t, .int .i64 (o / 256), .int .i64 (o % 256), .int .i64 (n / 256), .int .i64 (n % 256), iv sz, .int .i64 (l.length : Int)] 3)) (some ⟨w1.heap.size, 0, none⟩) ns) := hD (nts_top rfl (by rw [← hns]; rfl))
 have HB2 : Hid (Below w.heap.size w (w1.alloc (.cells #[iv f, iv t, .int .i64 (o / 256), .int .i64 (o % 256), .int .i64 (n / 256), .int .i64 (n % 256), iv sz, .int .i64 (l.length : Int)] 3))) := hD (HB1.out.alloc HB1.out.size _)
 obtain ⟨b0r, b0f, b0n, b0c, b0z, b0l⟩ := keep1 (g := w.heap.size) (cs := patA f t o n sz B l.length d) ((Below.refl _ _).alloc (Nat.le_refl _) (.cells #[iv f, iv t, .int .i64 (o / 256), .int .i64 (o % 256), .int .i64 (n / 256), .int .i64 (n % 256), iv sz, .int .i64 (l.length : Int)] 3)) a0r (by simp [patA]) a0f
 have HR0 := hD b0r
 have HF0 := hD b0f
 have hsw := HB2.out.size
 clear hns t1 t2 t3 t4 u1 u3 a0r a0f a0n a0c a0z a0l b0r b0f b0n b0c b0z
 generalize w1.alloc (.cells #[iv f, iv t, .int .i64 (o / 256), .int .i64 (o % 256), .int .i64 (n / 256), .int .i64 (n % 256), iv sz, .int .i64 (l.length : Int)] 3) = w2 at *
 generalize hg1 : w1.heap.size = g1 at *
 clear hg1
 generalize hbase : w2.heap.size = base at *
 have HBE := hD hbase
 have HS2 : Hid (∀ w', Below base w2 w' → Sps w' B l) := hD (fun w' hb => (HS.out.stays HB2.out).stays (HBE.out.symm ▸ hb))
 generalize hg0 : w.heap.size = g0 at *
 have HG0 := hD hg0
 clear hg0 hbase HB1 HBA
 have HFIN : Hid (∀ w' A c (x : List UInt8), Own w' base 5 1 A x.length c (x.map bv) → Below base w2 w' → Own w' w.heap.size 5 1 A x.length c (x.map bv) ∧ Below w.heap.size w w') := hD (fun w' A c x h1 h2 => ⟨h1.mono (by rw [HG0.out]; omega), by rw [HG0.out]; exact HB2.out.trans (h2.mono (by omega))⟩)
 have hph8 : (patHead ⟨f, t, o, n, sz, l⟩).length = 8 := rfl
 have HP8 := hD hph8
 clear hph8
 generalize patHead ⟨f, t, o, n, sz, l⟩ = hd at *
 generalize patBytes ⟨f, t, o, n, sz, l⟩ = pb at *
 go_loopw [5, 38] (fun v i wr => ∃ (k : Nat) (C : Option Addr) (cc : Nat) (pre : List UInt8), k ≤ 8 ∧ i = .int .i64 k ∧ v = .slice C pre.length cc ∧ Hid (pre = hd.take k) ∧ Hid (Own wr base 5 1 C pre.length cc (pre.map bv)) ∧ Hid (Below base w2 wr)) (fun _ i _ => 8 - (intOf i).toNat)
 case atStart => exact ⟨0, none, 0, [], Nat.zero_le _, rfl, rfl, hD (by simp), hD (Own.nil_ _ _ _ _), hD (Below.refl _ _)⟩
 case round =>
  rename World => wz
  obtain ⟨k, C, cc, pre, hk, rfl, rfl, HPRE, HO0, HB0⟩ := hrel
  have hbz : base ≤ wz.heap.size := Nat.le_trans (Nat.le_of_eq HBE.out.symm) HB0.out.size
  have hpl : pre.length = k := by rw [HPRE.out, List.length_take, HP8.out]; omega
  by_cases hlt : k < 8
  ·have hbw : Below w2.heap.size w2 wz := HBE.out ▸ HB0.out
   have hkn : k < ns.length := by omega
   obtain ⟨sb, so, e1, hsb, hc⟩ := (HNT.out.stays hbw) k hkn
   injection e1 with e1
   injection e1 with e1 e2
   subst e1 e2
   have hpre2 : hd.take (k + 1) = pre ++ [by_ ns[k]] := by
    rw [List.take_succ_eq_append_getElem (by rw [HP8.out]; omega), ← HPRE.out]
    congr 2
    simp [HHD.out]
   obtain ⟨x, hx⟩ : ∃ x, ns[k] = x := ⟨_, rfl⟩
   rw [hx] at hc hpre2
   clear hx
   simp only [Nat.zero_add] at hc
   have HPRE2 := hD hpre2
   have dl : decide ((k : Int) < 8) = true := decide_eq_true (by omega)
   have HBV : Hid (([by_ x] : List UInt8).map bv = [.int .u8 (IntKind.u8.wrap x)]) := hD (by simp only [List.map_cons, List.map_nil]; rw [bv_by3])
   clear hpre2 hbw
   rw [u8wrap] at HBV
   have hoa := HO0.out.alloc (.cells #[.int .u8 (x % 256)] 5)
   have hs1 : Src (wz.alloc (.cells #[.int .u8 (x % 256)] 5)) (some ⟨wz.heap.size, 0, none⟩) [.int .u8 (x % 256)] := src_blk (blk_top rfl)
   have hob : pre.length + 1 ≤ 1073741824 := by omega
   clear hpl
   have hle : base ≤ (wz.alloc (.cells #[.int .u8 (x % 256)] 5)).heap.size := by simp; omega
   go_wp2_with (at_builtin; go_must (refine wpList_app (wz.alloc (.cells #[.int .u8 (x % 256)] 5)) rfl _ _ 22 rfl elBytes base C pre.length cc (pre.map bv) rfl hoa (some ⟨wz.heap.size, 0, none⟩) 1 1 [.int .u8 (x % 256)] rfl hs1 rfl (by simp [Value.oneCell']) hob hle ?_; intro C1 c1 w3 hown hgr hbel hor))
   have HB3 : Hid (Below base w2 w3) := hD ((HB0.out.alloc hbz _).trans hbel)
   have HL : Hid (pre.length + 1 = (pre ++ [by_ x]).length) := hD (by simp)
   have HO3 : Hid (Own w3 base 5 1 C1 (pre ++ [by_ x]).length c1 ((pre ++ [by_ x]).map bv)) := hD (by rw [List.map_append, HBV.out, ← HL.out]; exact hown)
   clear hown hgr hbel hor hoa hs1 hob hle
   go_roundw
   case rel => exact ⟨k + 1, C1, c1, pre ++ [by_ x], by omega, by go_num, by rw [HL.out], hD HPRE2.out.symm, HO3, HB3⟩
   case measure => simp [intOf]; omega
  ·obtain rfl : k = 8 := by omega
   have dl : decide ((8 : Int) < 8) = false := by decide
   have e8 : ((8 : Nat) : Int) = 8 := rfl
   rw [e8]
   clear e8
   have hpre : pre = hd := by rw [HPRE.out, List.take_of_length_le (by rw [HP8.out]; omega)]
   subst hpre
   clear hpl
   obtain ⟨b0r, b0f, b0n, b0c, b0z, b0l'⟩ := keep1 (W := w2) (w' := wz) (g := g0) (cs := patA f t o n sz B l.length d) (HBE.out ▸ HB0.out) HR0.out (by simp [patA]) HF0.out
   go_wp2_with fail
   go_loopw [5, 51] (fun v i wr => ∃ (k : Nat) (C : Option Addr) (cc : Nat) (p2 : List UInt8), k ≤ l.length ∧ i = .int .i64 k ∧ v = .slice C p2.length cc ∧ Hid (p2 = pre ++ opsBytes (l.take k)) ∧ Hid (Own wr base 5 1 C p2.length cc (p2.map bv)) ∧ Hid (Below base w2 wr)) (fun _ i _ => l.length - (intOf i).toNat)
   case atStart => exact ⟨0, C, cc, pre, Nat.zero_le _, rfl, rfl, hD (by simp [opsBytes]), HO0, HB0⟩
   case round =>
    clear HO0 HB0 b0r b0f b0n b0c b0z b0l'
    rename World => wx
    obtain ⟨k, C, cc, p2, hk, rfl, rfl, HPRE, HO0, HB0⟩ := hrel
    have hbx : base ≤ wx.heap.size := Nat.le_trans (Nat.le_of_eq HBE.out.symm) HB0.out.size
    have hpl : p2.length + (opsBytes (l.drop k)).length = pb.length := by
     rw [HPB.out, HPRE.out, ← List.length_append, List.append_assoc, ← opsBytes_append, List.take_append_drop]
    by_cases hlt : k < l.length
    ·have hxo := HD.out.each l[k] (List.getElem_mem hlt)
     have hbw : Below w2.heap.size w2 wx := HBE.out ▸ HB0.out
     obtain ⟨sb, so, D, dc, rfl, hsb, q0, q1, q2, p3, p4, p5, -, -⟩ := (HS2.out w2 (Below.refl _ _)).at_ hlt
     have p0 := (hbw.cell (p := ⟨sb, so + k * 3, none⟩) hsb).trans q0
     have p1 := (hbw.cell (p := ⟨sb, so + k * 3 + 1, none⟩) hsb).trans q1
     have p2c := (hbw.cell (p := ⟨sb, so + k * 3 + 2, none⟩) hsb).trans q2
     clear q0 q1 q2
     have hpre2 : pre ++ opsBytes (l.take (k + 1)) = p2 ++ stpBytes l[k] := by rw [List.take_succ_eq_append_getElem hlt, opsBytes_append, opsBytes_one, ← List.append_assoc, ← HPRE.out]
     have hdrop : l.drop k = l[k] :: l.drop (k + 1) := List.drop_eq_getElem_cons hlt
     rw [hdrop, opsBytes_cons, List.length_append] at hpl
     obtain ⟨x, hx⟩ : ∃ x, l[k] = x := ⟨_, rfl⟩
     rw [hx] at hxo hpre2 hpl p0 p1 p2c p3 p4 p5
     clear hx hdrop
     obtain ⟨at_, len, data⟩ := x
     obtain ⟨hform, hin⟩ := hxo
     unfold Stp.in_ at hin
     dsimp only at *
     obtain ⟨j1, j2, j3⟩ := hin
     have HDT0 : Hid (∀ w', Below base w2 w' → Bts w' D data) := hD (fun w' hb => p5.stays (HBE.out ▸ hb))
     have HPRE2 := hD hpre2
     have dl : decide ((k : Int) < (l.length : Int)) = true := decide_eq_true (by omega)
     have hwk : IntKind.i64.wrap ((k : Int) + 1) = (k : Int) + 1 := IntWalk.i64_in _ (by omega)
     clear p5 hpre2 hbw
     by_cases hl0 : 0 < len
     ·have hst : stpBytes ⟨at_, len, data⟩ = [by_ at_, by_ len] := by unfold stpBytes; rw [if_pos hl0]
      rw [hst] at HPRE2 hpl
      have hj4 : at_ ≤ 64 := by omega
      have hj5 : len ≤ 64 := by omega
      have dz : (len == 0) = false := by simp; omega
      have v1 : at_ % 256 = at_ := by omega
      have v2 : len % 256 = len := by omega
      have HBV : Hid (([by_ at_, by_ len] : List UInt8).map bv = [.int .u8 at_, .int .u8 len]) := hD (by simp only [List.map_cons, List.map_nil]; rw [bv_by at_ (by omega), bv_by len (by omega)])
      have hoa := (HO0.out.alloc (.cells #[iv at_, iv len, .slice D data.length dc] 117)).alloc (.cells #[.int .u8 at_, .int .u8 len] 5)
      have hs1 : Src ((wx.alloc (.cells #[iv at_, iv len, .slice D data.length dc] 117)).alloc (.cells #[.int .u8 at_, .int .u8 len] 5)) (some ⟨wx.heap.size + 1, 0, none⟩) [.int .u8 at_, .int .u8 len] := src_blk (blk_top (by simp))
      have hob : p2.length + 2 ≤ 1073741824 := by omega
      have hle : base ≤ ((wx.alloc (.cells #[iv at_, iv len, .slice D data.length dc] 117)).alloc (.cells #[.int .u8 at_, .int .u8 len] 5)).heap.size := by simp; omega
      clear hst hform hpl
      go_wp2_with (at_builtin; go_must (refine wpList_app ((wx.alloc (.cells #[iv at_, iv len, .slice D data.length dc] 117)).alloc (.cells #[.int .u8 at_, .int .u8 len] 5)) rfl _ _ 22 rfl elBytes base C p2.length cc (p2.map bv) rfl hoa (some ⟨wx.heap.size + 1, 0, none⟩) 2 2 [.int .u8 at_, .int .u8 len] rfl hs1 rfl (by simp [Value.oneCell']) hob hle ?_; intro C1 c1 w3 hown hgr hbel hor))
      have HB3 : Hid (Below base w2 w3) := hD (((HB0.out.alloc hbx _).alloc (by simp; omega) _).trans hbel)
      have HL : Hid (p2.length + 2 = (p2 ++ [by_ at_, by_ len]).length) := hD (by simp)
      have HO3 : Hid (Own w3 base 5 1 C1 (p2 ++ [by_ at_, by_ len]).length c1 ((p2 ++ [by_ at_, by_ len]).map bv)) := hD (by rw [List.map_append, HBV.out, ← HL.out]; exact hown)
      clear hown hgr hbel hor hoa hs1 hob hle
      go_roundw
      case rel => exact ⟨k + 1, C1, c1, p2 ++ [by_ at_, by_ len], by omega, by go_num, by rw [HL.out], hD HPRE2.out.symm, HO3, HB3⟩
      case measure => simp [intOf]; omega
     ·obtain rfl : len = 0 := by omega
      obtain ⟨rfl, hd1, hd2⟩ := hform.1 rfl
      have hst : stpBytes ⟨0, 0, data⟩ = 255 :: by_ data.length :: data := by unfold stpBytes; rw [if_neg (by simp)]
      rw [hst] at HPRE2 hpl
      simp only [List.length_cons] at hpl
      have hdl : data.length ≤ 64 := hd2
      have v1 : (data.length : Int) % 256 = (data.length : Int) := by omega
      have HBV : Hid ((255 :: by_ data.length :: data : List UInt8).map bv = [.int .u8 255, .int .u8 (data.length : Int)] ++ data.map bv) := hD (by simp only [List.map_cons]; rw [bv_by (data.length : Int) (by omega)]; rfl)
      have HG0' : Hid ((wx.alloc (.cells #[iv 0, iv 0, .slice D data.length dc] 117)).heap[wx.heap.size]? = some (.cells #[iv 0, iv 0, .slice D data.length dc] 117 (0, 0))) := hD (blk_top rfl)
      have hoa := (HO0.out.alloc (.cells #[iv 0, iv 0, .slice D data.length dc] 117)).alloc (.cells #[.int .u8 255, .int .u8 (data.length : Int)] 5)
      have hs1 : Src ((wx.alloc (.cells #[iv 0, iv 0, .slice D data.length dc] 117)).alloc (.cells #[.int .u8 255, .int .u8 (data.length : Int)] 5)) (some ⟨wx.heap.size + 1, 0, none⟩) [.int .u8 255, .int .u8 (data.length : Int)] := src_blk (blk_top (by simp))
      have hob : p2.length + 2 ≤ 1073741824 := by omega
      have hob2 : p2.length + 2 + data.length ≤ 1073741824 := by omega
      have hle : base ≤ ((wx.alloc (.cells #[iv 0, iv 0, .slice D data.length dc] 117)).alloc (.cells #[.int .u8 255, .int .u8 (data.length : Int)] 5)).heap.size := by simp; omega
      have hgC : C.map (·.block) ≠ some wx.heap.size := fun e => by have := (HO0.out.block _ e).2; omega
      clear hst hform hpl
      go_wp2_with (at_builtin; go_must (refine wpList_app ((wx.alloc (.cells #[iv 0, iv 0, .slice D data.length dc] 117)).alloc (.cells #[.int .u8 255, .int .u8 (data.length : Int)] 5)) rfl _ _ 22 rfl elBytes base C p2.length cc (p2.map bv) rfl hoa (some ⟨wx.heap.size + 1, 0, none⟩) 2 2 [.int .u8 255, .int .u8 (data.length : Int)] rfl hs1 rfl (by simp [Value.oneCell']) hob hle ?_))
      intro C1 c1 w3 hown hgr hbel hor
      have hg3 : w3.heap[wx.heap.size]? = some (.cells #[iv 0, iv 0, .slice D data.length dc] 117 (0, 0)) := (hgr.block wx.heap.size (by simp; omega) (fun e => hgC e.symm)).trans (blk_old HG0'.out)
      obtain ⟨g1c, g2c, g3c, g4c, g5c⟩ := blkFacts hg3 (by simp)
      have HB3 : Hid (Below base w2 w3) := hD (((HB0.out.alloc hbx _).alloc (by simp; omega) _).trans hbel)
      have hbz3 : base ≤ w3.heap.size := Nat.le_trans (Nat.le_of_eq HBE.out.symm) HB3.out.size
      have HO3 : Hid (Own w3 base 5 1 C1 (p2.length + 2) c1 (p2.map bv ++ [.int .u8 255, .int .u8 (data.length : Int)])) := hD hown
      have hsd := (HDT0.out w3 HB3.out).src
      clear hown hgr hbel hor hoa hs1 hob hle hg3 hgC
      go_wp2_with (at_builtin; go_must (refine wpList_app w3 rfl _ _ 22 rfl elBytes base C1 (p2.length + 2) c1 (p2.map bv ++ [.int .u8 255, .int .u8 (data.length : Int)]) rfl HO3.out D data.length dc (data.map bv) rfl hsd (by simp) (bv_one _) hob2 hbz3 ?_))
      intro C2 c2 w4 hown hgr hbel hor
      have HB4 : Hid (Below base w2 w4) := hD (HB3.out.trans hbel)
      have HL : Hid (p2.length + 2 + data.length = (p2 ++ (255 :: by_ data.length :: data)).length) := hD (by simp; omega)
      have HO4 : Hid (Own w4 base 5 1 C2 (p2 ++ (255 :: by_ data.length :: data)).length c2 ((p2 ++ (255 :: by_ data.length :: data)).map bv)) := hD (by rw [List.map_append, HBV.out, ← HL.out]; simpa using hown)
      clear hown hgr hbel hor hsd hob2
      go_wp2_with fail
      go_roundw
      case rel => exact ⟨k + 1, C2, c2, p2 ++ (255 :: by_ data.length :: data), by omega, by go_num, by rw [HL.out], hD HPRE2.out.symm, HO4, HB4⟩
      case measure => simp [intOf]; omega
    ·obtain rfl : k = l.length := by omega
     have dl : decide ((l.length : Int) < (l.length : Int)) = false := by simp
     have hpre : p2 = pb := by rw [HPB.out, HPRE.out, List.take_length]
     subst hpre
     have d4 : decide ((400 : Int) < (p2.length : Int)) = false := decide_eq_false (by omega)
     clear hpl
     go_wp2_with fail
     go_ret2
     obtain ⟨z1, z2⟩ := HFIN.out _ C cc p2 HO0.out HB0.out
     exact ⟨C, cc, rfl, z1, z2⟩
end Go.Proofs.Ytefkfglkpebbmac
