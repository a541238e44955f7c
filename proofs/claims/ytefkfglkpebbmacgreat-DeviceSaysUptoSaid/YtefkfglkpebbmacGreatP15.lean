/- Walks of functions, and plain words. No conditions. -/
import Derived.Test.YtefkfglkpebbmacGreatP11
set_option linter.unusedVariables false
set_option linter.unusedSimpArgs false
set_option maxRecDepth 100000
set_option maxHeartbeats 40000000
namespace Go.Proofs.YtefkfglkpebbmacGreat
open Go.RowKit
variable {r : Rec}
theorem DevIn.fin {w : World} {d : Dev} {L : DLoc} (h : DevIn w d L) (p q : Cop) : DevIn w { d with c0 := p, c1 := q, busy := false, job := Pat.zero, done := 0 } { L with aj := none, cj := 0 } := ⟨h.k0, h.l0, h.b0, h.k1, h.l1, h.b1, h.kg, h.lg, h.got, pat_in_zero w, h.ir, ⟨by show -9223372036854775808 <= (0:Int); omega, by show (0:Int) <= 9223372036854775807; omega⟩⟩
theorem tryIt0 (h : r.active = 0) (x : Inf) : r.tryIt x = { r with trying := true, tries := 3, b := x } := by unfold Rec.tryIt Rec.setOther; rw [if_pos (by exact h)]
theorem tryIt1 (h : r.active = 1) (x : Inf) : r.tryIt x = { r with trying := true, tries := 3, a := x } := by unfold Rec.tryIt Rec.setOther; rw [if_neg (by show ¬ r.active = 0; omega)]
theorem devFinish_bad (d : Dev) (L : DLoc) (torn : Bool) (w : World) (h : DevIn w d L)  (hne : devReady d ≠ 0) : Calls Tryz.prog 15 #[.agg (devA d L), .bool torn] w (DvRet w Dev.zero (devReady d)) := by
 have hba : Below w.heap.size w ((w.alloc (.cells (devA d L) 37)).alloc (.cells (devA Dev.zero DLoc.zero) 37)) := bA (bA (Below.refl _ _) _) _
 have HBA := hD hba
 have HIN := hD h
 have KB := hD (fun w h => ready_bad d L w h hne)
 have q : (devReady d != 0) = true := by simp [hne]
 generalize devReady d = n at *
 clear hne h hba
 go_enter Tryz.func15, Tryz.ntmps15
 go_wp2_with fail
 refine (KB.out _ (HIN.out.stays HBA.out)).mono ?_
 rintro e w1 ⟨rfl, hb1⟩
 obtain ⟨a0r, a0f, a0n, a0c, a0z, a0l⟩ := kp (w.heap.size) (devA d L) hb1
 obtain ⟨a1r, a1f, a1n, a1c, a1z, a1l⟩ := kp (w.heap.size + 1) (devA Dev.zero DLoc.zero) hb1
 have HB1 := hD (HBA.out.trans (hb1.mono (by simp <;> omega)))
 clear hb1
 go_wp2_with fail
 refine bodyPost_ret (rC (devA Dev.zero DLoc.zero)) rfl ⟨DLoc.zero, rfl, .const fun v => DevIn.zero v, ?_⟩
 have hs := HB1.out.size
 exact x0
theorem devFinish_ok (d : Dev) (L : DLoc) (torn : Bool) (w : World) (h : DevIn w d L)  (hz : devReady d = 0) : Calls Tryz.prog 15 #[.agg (devA d L), .bool torn] w (DvRet w (devFinish d torn).1 (devFinish d torn).2) := by
 have hba : Below w.heap.size w ((w.alloc (.cells (devA d L) 37)).alloc (.cells (devA Dev.zero DLoc.zero) 37)) := bA (bA (Below.refl _ _) _) _
 have HBA := hD hba
 have HIN := hD h
 have KR := hD (fun w h => ready_ok d L w h hz)
 have hdef : devFinish d torn = if d.busy = false ∨ d.done < d.job.size then (Dev.zero, 5)
   else if (recWrite d.c0 d.c1 (d.rec_.tryIt ⟨d.job.to_, d.job.size, d.job.new_⟩) torn).2 ≠ 0 then (Dev.zero, (recWrite d.c0 d.c1 (d.rec_.tryIt ⟨d.job.to_, d.job.size, d.job.new_⟩) torn).2)
   else (if torn = true then ({ d.write (d.rec_.tryIt ⟨d.job.to_, d.job.size, d.job.new_⟩) torn with busy := false, job := Pat.zero, done := 0 } : Dev).down else { d.write (d.rec_.tryIt ⟨d.job.to_, d.job.size, d.job.new_⟩) torn with busy := false, job := Pat.zero, done := 0 }, 0) := by unfold devFinish; rw [if_neg (by omega)]
 have hact := rec_active (rec_ok (devReady_ok.1 hz).1)
 unfold Dev.write at hdef
 obtain ⟨rt, hrt⟩ : ∃ rt, d.rec_.tryIt ⟨d.job.to_, d.job.size, d.job.new_⟩ = rt := ⟨_, rfl⟩
 have HT0 : Hid (d.rec_.active = 0 -> rt = ⟨d.rec_.gen, 0, true, 3, d.rec_.floor, d.rec_.a, ⟨d.job.to_, d.job.size, d.job.new_⟩⟩) := hD (fun e => by rw [← hrt, tryIt0 e, Rec.mk.injEq]; exact ⟨rfl, e, rfl, rfl, rfl, rfl, rfl⟩)
 have HT1 : Hid (d.rec_.active = 1 -> rt = ⟨d.rec_.gen, 1, true, 3, d.rec_.floor, ⟨d.job.to_, d.job.size, d.job.new_⟩, d.rec_.b⟩) := hD (fun e => by rw [← hrt, tryIt1 e, Rec.mk.injEq]; exact ⟨rfl, e, rfl, rfl, rfl, rfl, rfl⟩)
 rw [hrt] at hdef
 have K3 := hD (fun w => write_calls d.c0 d.c1 rt torn w)
 obtain ⟨⟨⟨p1, p2⟩, e3⟩, hw⟩ : ∃ x, recWrite d.c0 d.c1 rt torn = x := ⟨_, rfl⟩
 rw [hw] at hdef K3
 dsimp only at hdef
 have HD := hD hdef
 generalize devFinish d torn = res at *
 clear hz h hba hdef hw hrt
 go_enter Tryz.func15, Tryz.ntmps15
 go_wp2_with fail
 refine (KR.out _ (HIN.out.stays HBA.out)).mono ?_
 rintro e w1 ⟨L1, rfl, hfr, hb1⟩
 obtain ⟨a0r, a0f, a0n, a0c, a0z, a0l⟩ := kp (w.heap.size) (devA d L) hb1
 obtain ⟨a1r, a1f, a1n, a1c, a1z, a1l⟩ := kp (w.heap.size + 1) (devA Dev.zero DLoc.zero) hb1
 have HFR : Hid (Fresh (w.heap.size + 2) w1 (fun v => DvOwn v (w.heap.size + 2) d L1)) := hD (by simpa [Nat.add_assoc] using hfr)
 have HB1 := hD (HBA.out.trans (hb1.mono (by simp <;> omega)))
 have hsz1 : w.heap.size + 2 <= w1.heap.size := by have := hb1.size; simp at this; omega
 have HK1 : Hid (Kp (w.heap.size + 2) w1 w1) := hD (Kp.refl _ _)
 clear hb1 hfr
 cases hbz : d.busy
 ·have hz : res = (Dev.zero, 5) := HD.out.trans (if_pos (.inl hbz))
  subst hz
  go_wp2_with fail
  refine bodyPost_ret (rC (devA Dev.zero DLoc.zero)) rfl ⟨DLoc.zero, rfl, .const fun v => DevIn.zero v, ?_⟩
  have hs := HB1.out.size
  exact x0
 by_cases c1 : d.done < d.job.size
 ·have hz : res = (Dev.zero, 5) := HD.out.trans (if_pos (.inr c1))
  subst hz
  go_wp2_with fail
  refine bodyPost_ret (rC (devA Dev.zero DLoc.zero)) rfl ⟨DLoc.zero, rfl, .const fun v => DevIn.zero v, ?_⟩
  have hs := HB1.out.size
  exact x0
 have HD2 := hD (HD.out.trans (if_neg (by rw [hbz]; simpa using c1)))
 clear HD
 rcases hact with hk | hk
 first | case' inl => have T2 : Hid True := hD trivial | case' pos => have T2 : Hid True := hD trivial | case' refine_1 => have T2 : Hid True := hD trivial
 iterate 2
  ·first
    |
     revert T2; intro T2
     have HT := hD (HT0.out hk)
    | have HT := hD (HT1.out hk)
   clear HT0 HT1
   have w1e : IntKind.i64.wrap (1 - 0) = 1 := by decide
   have w2e : IntKind.i64.wrap (1 - 1) = 0 := by decide
   have w3e : IntKind.i64.wrap 1 = 1 := by decide
   have w4e : IntKind.i64.wrap 0 = 0 := by decide
   go_wp2_with fail
   rw [← HT.out]
   refine (K3.out _).mono ?_
   rintro e w3 ⟨rfl, hb⟩
   obtain ⟨a0r, a0f, a0n, a0c, a0z, a0l⟩ := kp (w.heap.size) (devA d L1) hb
   obtain ⟨a1r, a1f, a1n, a1c, a1z, a1l⟩ := kp (w.heap.size + 1) (devA Dev.zero DLoc.zero) hb
   have hbs3 := hb.size
   have hsz3 : w1.heap.size <= w3.heap.size := by first | omega | (simp at hbs3; omega)
   have HK3 : Hid (Kp (w.heap.size + 2) w1 w3) := hD (by
    refine Kp.below ?_ (by first | omega | (simp <;> omega)) hb
    repeat (first | exact HK1.out | exact Kp.refl _ _ | refine Kp.row ?_ (by omega) _ | refine Kp.cell ?_ (by first | (show _ < _ ∨ _ <= _; omega) | (simp <;> omega)) _ | refine Kp.alloc ?_ (by first | omega | (simp <;> omega)) _))
   have HB3 : Hid (Below w.heap.size w w3) := hD (by
    refine Below.trans ?_ (hb.mono (by first | omega | (simp <;> omega)))
    have hs := HB1.out.size
    repeat (first | exact hA | refine bR ?_ _ | refine bC ?_ _ | refine bA ?_ _))
   clear hb hbs3
   by_cases c3 : e3 ≠ 0
   ·have hz : res = (Dev.zero, e3) := HD2.out.trans (if_pos c3)
    subst hz
    have q : (e3 != 0) = true := by simp [c3]
    clear c3
    go_wp2_with fail
    refine bodyPost_ret (rC (devA Dev.zero DLoc.zero)) rfl ⟨DLoc.zero, rfl, .const fun v => DevIn.zero v, ?_⟩
    have hs := HB3.out.size
    repeat (first | exact hA | refine bR ?_ _ | refine bC ?_ _ | refine bA ?_ _)
   have c3 := Decidable.not_not.1 c3
   subst c3
   have HD3 := hD (HD2.out.trans (if_neg (by decide)))
   clear HD2
   cases torn
   case false =>
    have hz : res = ({ d with c0 := p1, c1 := p2, busy := false, job := Pat.zero, done := 0 }, 0) := HD3.out.trans (by rw [if_neg (by decide)])
    subst hz
    go_wp2_with fail
    refine bodyPost_ret (rC (devA { d with c0 := p1, c1 := p2, busy := false, job := Pat.zero, done := 0 } { L1 with aj := none, cj := 0 })) rfl ⟨{ L1 with aj := none, cj := 0 }, rfl, ?_, ?_⟩
    ·refine Fresh.imp (P := fun v => DvOwn v (w.heap.size + 2) d L1) (Fresh.kp HFR.out ?_ (by omega) (by first | omega | (simp <;> omega))) (fun v hv => hv.devIn.fin p1 p2)
     repeat (first | exact HK3.out | exact Kp.refl _ _ | refine Kp.row ?_ (by omega) _ | refine Kp.cell ?_ (by first | (show _ < _ ∨ _ <= _; omega) | (simp <;> omega)) _ | refine Kp.alloc ?_ (by first | omega | (simp <;> omega)) _)
    have hs := HB3.out.size
    repeat (first | exact hA | refine bR ?_ _ | refine bC ?_ _ | refine bA ?_ _)
   case true =>
    have hz : res = (({ d with c0 := p1, c1 := p2, busy := false, job := Pat.zero, done := 0 } : Dev).down, 0) := HD3.out.trans (by rw [if_pos rfl])
    subst hz
    go_wp2_with fail
    refine (down_calls { d with c0 := p1, c1 := p2, busy := false, job := Pat.zero, done := 0 } { L1 with aj := none, cj := 0 } _).mono ?_
    rintro e w4 ⟨rfl, hb⟩
    obtain ⟨a0r, a0f, a0n, a0c, a0z, a0l⟩ := kp (w.heap.size + 1) (devA Dev.zero DLoc.zero) hb
    obtain ⟨a1r, a1f, a1n, a1c, a1z, a1l⟩ := kp (w.heap.size) (devA { d with c0 := p1, c1 := p2, busy := false, job := Pat.zero, done := 0 } { L1 with aj := none, cj := 0 }) hb
    have hbs4 := hb.size
    have hsz4 : w1.heap.size <= w4.heap.size := by first | omega | (simp at hbs4; omega)
    have HK4 : Hid (Kp (w.heap.size + 2) w1 w4) := hD (by
     refine Kp.below ?_ (by first | omega | (simp <;> omega)) hb
     repeat (first | exact HK3.out | exact Kp.refl _ _ | refine Kp.row ?_ (by omega) _ | refine Kp.cell ?_ (by first | (show _ < _ ∨ _ <= _; omega) | (simp <;> omega)) _ | refine Kp.alloc ?_ (by first | omega | (simp <;> omega)) _))
    have HB4 : Hid (Below w.heap.size w w4) := hD (by
     refine Below.trans ?_ (hb.mono (by first | omega | (simp <;> omega)))
     have hs := HB3.out.size
     repeat (first | exact hA | refine bR ?_ _ | refine bC ?_ _ | refine bA ?_ _))
    clear hb hbs4
    go_wp2_with fail
    refine bodyPost_ret (rC (devA ({ d with c0 := p1, c1 := p2, busy := false, job := Pat.zero, done := 0 } : Dev).down ({ L1 with aj := none, cj := 0 } : DLoc).down)) rfl ⟨({ L1 with aj := none, cj := 0 } : DLoc).down, rfl, ?_, ?_⟩
    ·refine Fresh.imp (P := fun v => DvOwn v (w.heap.size + 2) d L1) (Fresh.kp HFR.out ?_ (by omega) (by first | omega | (simp <;> omega))) (fun v hv => (hv.devIn.fin p1 p2).down)
     repeat (first | exact HK4.out | exact Kp.refl _ _ | refine Kp.row ?_ (by omega) _ | refine Kp.cell ?_ (by first | (show _ < _ ∨ _ <= _; omega) | (simp <;> omega)) _ | refine Kp.alloc ?_ (by first | omega | (simp <;> omega)) _)
    have hs := HB4.out.size
    repeat (first | exact hA | refine bR ?_ _ | refine bC ?_ _ | refine bA ?_ _)
theorem devFinish_calls (d : Dev) (L : DLoc) (torn : Bool) (w : World) (h : DevIn w d L) : Calls Tryz.prog 15 #[.agg (devA d L), .bool torn] w (DvRet w (devFinish d torn).1 (devFinish d torn).2) := by
 by_cases hz : devReady d = 0
 ·exact devFinish_ok d L torn w h hz
 have e : devFinish d torn = (Dev.zero, devReady d) := by unfold devFinish; rw [if_pos hz]
 rw [e]; exact devFinish_bad d L torn w h hz
theorem devCrash_bad (d : Dev) (L : DLoc) (w : World) (h : DevIn w d L)  (hne : devReady d ≠ 0) : Calls Tryz.prog 17 #[.agg (devA d L)] w (DvRet w Dev.zero (devReady d)) := by
 have hba : Below w.heap.size w ((w.alloc (.cells (devA d L) 37)).alloc (.cells (devA Dev.zero DLoc.zero) 37)) := bA (bA (Below.refl _ _) _) _
 have HBA := hD hba
 have HIN := hD h
 have KB := hD (fun w h => ready_bad d L w h hne)
 have q : (devReady d != 0) = true := by simp [hne]
 generalize devReady d = n at *
 clear hne h hba
 go_enter Tryz.func17, Tryz.ntmps17
 go_wp2_with fail
 refine (KB.out _ (HIN.out.stays HBA.out)).mono ?_
 rintro e w1 ⟨rfl, hb1⟩
 obtain ⟨a0r, a0f, a0n, a0c, a0z, a0l⟩ := kp (w.heap.size) (devA d L) hb1
 obtain ⟨a1r, a1f, a1n, a1c, a1z, a1l⟩ := kp (w.heap.size + 1) (devA Dev.zero DLoc.zero) hb1
 have HB1 := hD (HBA.out.trans (hb1.mono (by simp <;> omega)))
 clear hb1
 go_wp2_with fail
 refine bodyPost_ret (rC (devA Dev.zero DLoc.zero)) rfl ⟨DLoc.zero, rfl, .const fun v => DevIn.zero v, ?_⟩
 have hs := HB1.out.size
 exact x0
theorem devCrash_ok (d : Dev) (L : DLoc) (w : World) (h : DevIn w d L)  (hz : devReady d = 0) : Calls Tryz.prog 17 #[.agg (devA d L)] w (DvRet w d.down 0) := by
 have hba : Below w.heap.size w ((w.alloc (.cells (devA d L) 37)).alloc (.cells (devA Dev.zero DLoc.zero) 37)) := bA (bA (Below.refl _ _) _) _
 have HBA := hD hba
 have HIN := hD h
 have KR := hD (fun w h => ready_ok d L w h hz)
 clear hz h hba
 go_enter Tryz.func17, Tryz.ntmps17
 go_wp2_with fail
 refine (KR.out _ (HIN.out.stays HBA.out)).mono ?_
 rintro e w1 ⟨L1, rfl, hfr, hb1⟩
 obtain ⟨a0r, a0f, a0n, a0c, a0z, a0l⟩ := kp (w.heap.size) (devA d L) hb1
 obtain ⟨a1r, a1f, a1n, a1c, a1z, a1l⟩ := kp (w.heap.size + 1) (devA Dev.zero DLoc.zero) hb1
 have HFR : Hid (Fresh (w.heap.size + 2) w1 (fun v => DvOwn v (w.heap.size + 2) d L1)) := hD (by simpa [Nat.add_assoc] using hfr)
 have HB1 := hD (HBA.out.trans (hb1.mono (by simp <;> omega)))
 have hsz1 : w.heap.size + 2 <= w1.heap.size := by have := hb1.size; simp at this; omega
 have HK1 : Hid (Kp (w.heap.size + 2) w1 w1) := hD (Kp.refl _ _)
 clear hb1 hfr
 go_wp2_with fail
 refine (down_calls d L1 _).mono ?_
 rintro e w2 ⟨rfl, hb2⟩
 obtain ⟨a0r, a0f, a0n, a0c, a0z, a0l⟩ := kp (w.heap.size) (devA d L1) hb2
 obtain ⟨a1r, a1f, a1n, a1c, a1z, a1l⟩ := kp (w.heap.size + 1) (devA Dev.zero DLoc.zero) hb2
 have HB12 : Hid (Below w1.heap.size w1 w2 ∨ True) := hD (.inr trivial)
 have hs1 := HB1.out.size
 have HX : Hid (Fresh (w.heap.size + 2) w2 (fun v => DvOwn v (w.heap.size + 2) d L1)) := hD (by
  refine Fresh.below ?_ hb2 (Nat.le_refl _)
  repeat (first | exact HFR.out | refine Fresh.row ?_ (by omega) _ | refine Fresh.alloc ?_ _))
 have HB2 : Hid (Below w.heap.size w w2) := hD (by
  refine Below.trans ?_ (hb2.mono (by first | omega | (simp <;> omega)))
  exact x0)
 clear hb2 HFR
 go_wp2_with fail
 refine bodyPost_ret (rC (devA d.down L1.down)) rfl ⟨L1.down, rfl, ?_, ?_⟩
 ·refine Fresh.imp (P := fun v => DvOwn v (w.heap.size + 2) d L1) (Fresh.mono (base := w.heap.size + 2) ?_ (by omega)) (fun v hv => hv.devIn.down)
  repeat (first | exact HX.out | refine Fresh.row ?_ (by omega) _)
 have hs := HB2.out.size
 exact x0
theorem devCrash_calls (d : Dev) (L : DLoc) (w : World) (h : DevIn w d L) : Calls Tryz.prog 17 #[.agg (devA d L)] w (DvRet w (devCrash d).1 (devCrash d).2) := by
 unfold devCrash
 by_cases hz : devReady d = 0
 ·rw [if_neg (by omega)]; exact devCrash_ok d L w h hz
 rw [if_pos hz]; exact devCrash_bad d L w h hz
theorem DevIn.booted {w : World} {d : Dev} {L : DLoc} (h : DevIn w d L) (p q : Cop) (k : Int) (hk : k = 0 ∨ k = 1) : DevIn w { d with c0 := p, c1 := q, up := true, running := k } L := ⟨h.k0, h.l0, h.b0, h.k1, h.l1, h.b1, h.kg, h.lg, h.got, h.job, ⟨by show -9223372036854775808 <= k; omega, by show k <= 9223372036854775807; omega⟩, h.id⟩
theorem start_slot (h : recCheck r = 0) : (recStart r).1 = 0 ∨ (recStart r).1 = 1 := by
 have := rec_active h
 unfold recStart
 repeat' split
 all_goals (try dsimp only)
 all_goals first | omega | (unfold nowAt; omega)
theorem devBoot_bad (d : Dev) (L : DLoc) (w : World) (h : DevIn w d L) (hne : devCheck d ≠ 0) : Calls Tryz.prog 18 #[.agg (devA d L)] w (DvRet w Dev.zero (devCheck d)) := by
 have hba : Below w.heap.size w ((w.alloc (.cells (devA d L) 37)).alloc (.cells (devA Dev.zero DLoc.zero) 37)) := bA (bA (Below.refl _ _) _) _
 have HBA := hD hba
 have HIN := hD h
 have K1 := hD (fun w h => devCheck_calls d L w h)
 have q : (devCheck d != 0) = true := by simp [hne]
 generalize devCheck d = n at *
 clear hne h hba
 go_enter Tryz.func18, Tryz.ntmps18
 go_wp2_with fail
 refine (K1.out _ (HIN.out.stays HBA.out)).mono ?_
 rintro e w1 ⟨rfl, hb1⟩
 obtain ⟨a0r, a0f, a0n, a0c, a0z, a0l⟩ := kp (w.heap.size) (devA d L) hb1
 obtain ⟨a1r, a1f, a1n, a1c, a1z, a1l⟩ := kp (w.heap.size + 1) (devA Dev.zero DLoc.zero) hb1
 have HB1 := hD (HBA.out.trans (hb1.mono (by simp <;> omega)))
 have hsz1 : w.heap.size + 2 <= w1.heap.size := by have := hb1.size; simp at this; omega
 clear hb1
 go_wp2_with fail
 refine bodyPost_ret (rC (devA Dev.zero DLoc.zero)) rfl ⟨DLoc.zero, rfl, .const fun v => DevIn.zero v, ?_⟩
 have hs := HB1.out.size
 exact x0
theorem devBoot_late (d : Dev) (L : DLoc) (w : World) (h : DevIn w d L) (hz : devCheck d = 0) (hu : d.up = true) : Calls Tryz.prog 18 #[.agg (devA d L)] w (DvRet w Dev.zero 5) := by
 have hba : Below w.heap.size w ((w.alloc (.cells (devA d L) 37)).alloc (.cells (devA Dev.zero DLoc.zero) 37)) := bA (bA (Below.refl _ _) _) _
 have HBA := hD hba
 have HIN := hD h
 have K1 := hD (fun w h => devCheck_calls d L w h)
 rw [hz] at K1
 clear hz h hba
 go_enter Tryz.func18, Tryz.ntmps18
 go_wp2_with fail
 refine (K1.out _ (HIN.out.stays HBA.out)).mono ?_
 rintro e w1 ⟨rfl, hb1⟩
 obtain ⟨a0r, a0f, a0n, a0c, a0z, a0l⟩ := kp (w.heap.size) (devA d L) hb1
 obtain ⟨a1r, a1f, a1n, a1c, a1z, a1l⟩ := kp (w.heap.size + 1) (devA Dev.zero DLoc.zero) hb1
 have HB1 := hD (HBA.out.trans (hb1.mono (by simp <;> omega)))
 have hsz1 : w.heap.size + 2 <= w1.heap.size := by have := hb1.size; simp at this; omega
 clear hb1
 go_wp2_with fail
 refine bodyPost_ret (rC (devA Dev.zero DLoc.zero)) rfl ⟨DLoc.zero, rfl, .const fun v => DevIn.zero v, ?_⟩
 have hs := HB1.out.size
 exact x0
theorem devBoot_ok (d : Dev) (L : DLoc) (w : World) (h : DevIn w d L) (hz : devCheck d = 0) (hu : d.up = false) : Calls Tryz.prog 18 #[.agg (devA d L)] w (DvRet w (devBoot d).1 (devBoot d).2) := by
 have hba : Below w.heap.size w ((w.alloc (.cells (devA d L) 37)).alloc (.cells (devA Dev.zero DLoc.zero) 37)) := bA (bA (Below.refl _ _) _) _
 have HBA := hD hba
 have HIN := hD h
 have K1 := hD (fun w h => devCheck_calls d L w h)
 have hdef : devBoot d = if (recStart d.rec_).2.2 ≠ 0 then (Dev.zero, (recStart d.rec_).2.2)
   else if (recStart d.rec_).2.1 ≠ d.rec_ then
    (if (recWrite d.c0 d.c1 (recStart d.rec_).2.1 false).2 ≠ 0 then (Dev.zero, (recWrite d.c0 d.c1 (recStart d.rec_).2.1 false).2)
    else ({ d with c0 := (recWrite d.c0 d.c1 (recStart d.rec_).2.1 false).1.1, c1 := (recWrite d.c0 d.c1 (recStart d.rec_).2.1 false).1.2, up := true, running := (recStart d.rec_).1 }, 0))
   else ({ d with c0 := d.c0, c1 := d.c1, up := true, running := (recStart d.rec_).1 }, 0) := by unfold devBoot; rw [if_neg (by omega), if_neg (by rw [hu]; decide)]; rfl
 have hok := devCheck_ok.1 hz
 have hrec := rec_ok hok
 have HSL := hD (start_slot hrec)
 have KC := hD (fun w h => devCopy_calls d L w h)
 have K2 := hD (fun w => read_ok d.c0 d.c1 w hok.cops)
 obtain ⟨rk, hrk⟩ : ∃ rk, (recRead d.c0 d.c1).2 = rk := ⟨_, rfl⟩
 have hre : (recRead d.c0 d.c1).1 = d.rec_ := rfl
 rw [hrk, hre] at K2
 have K3 := hD (fun w => start_calls d.rec_ w)
 obtain ⟨⟨k, nx, e3⟩, hq⟩ : ∃ x, recStart d.rec_ = x := ⟨_, rfl⟩
 rw [hq] at hdef K3 HSL
 dsimp only at hdef K3 HSL
 have K4 := hD (fun w => write_calls d.c0 d.c1 nx false w)
 obtain ⟨⟨⟨p1, p2⟩, e4⟩, hw⟩ : ∃ x, recWrite d.c0 d.c1 nx false = x := ⟨_, rfl⟩
 rw [hw] at hdef K4
 dsimp only at hdef
 have HD := hD hdef
 rw [hz] at K1
 generalize devBoot d = res at *
 clear hdef hok hrec hrk hre hq hw hz h hba
 go_enter Tryz.func18, Tryz.ntmps18
 go_wp2_with fail
 refine (K1.out _ (HIN.out.stays HBA.out)).mono ?_
 rintro e w1 ⟨rfl, hb1⟩
 obtain ⟨a0r, a0f, a0n, a0c, a0z, a0l⟩ := kp (w.heap.size) (devA d L) hb1
 obtain ⟨a1r, a1f, a1n, a1c, a1z, a1l⟩ := kp (w.heap.size + 1) (devA Dev.zero DLoc.zero) hb1
 have HB1 := hD (HBA.out.trans (hb1.mono (by simp <;> omega)))
 have hsz1 : w.heap.size + 2 <= w1.heap.size := by have := hb1.size; simp at this; omega
 clear hb1
 go_wp2_with fail
 refine (KC.out _ (HIN.out.stays HB1.out)).mono ?_
 rintro e w2 ⟨L1, rfl, hfr, hb⟩
 obtain ⟨a0r, a0f, a0n, a0c, a0z, a0l⟩ := kp (w.heap.size) (devA d L) hb
 obtain ⟨a1r, a1f, a1n, a1c, a1z, a1l⟩ := kp (w.heap.size + 1) (devA Dev.zero DLoc.zero) hb
 have HFR := hD hfr
 have hsz2 : w1.heap.size <= w2.heap.size := hb.size
 have HB2 := bT HB1 hb
 have HK2 : Hid (Kp w1.heap.size w2 w2) := hD (Kp.refl _ _)
 clear hb hfr
 go_wp2_with fail
 refine (K2.out _).mono ?_
 rintro e w3 ⟨rfl, hb⟩
 obtain ⟨a0r, a0f, a0n, a0c, a0z, a0l⟩ := kp (w.heap.size) (devA d L1) hb
 obtain ⟨a1r, a1f, a1n, a1c, a1z, a1l⟩ := kp (w.heap.size + 1) (devA Dev.zero DLoc.zero) hb
 have hbs3 := hb.size
 have hsz3 : w2.heap.size <= w3.heap.size := by first | omega | (simp [World.setRow] at hbs3; omega)
 have HK3 : Hid (Kp w1.heap.size w2 w3) := hD (by
  refine Kp.below ?_ (by first | omega | (simp [World.setRow] <;> omega)) hb
  exact x39)
 have HB3 : Hid (Below w.heap.size w w3) := hD (by
  refine Below.trans ?_ (hb.mono (by first | omega | (simp [World.setRow] <;> omega)))
  have hs := HB2.out.size
  exact x0)
 clear hb hbs3
 go_wp2_with fail
 refine (K3.out _).mono ?_
 rintro e w4 ⟨rfl, hb⟩
 obtain ⟨a0r, a0f, a0n, a0c, a0z, a0l⟩ := kp (w.heap.size) (devA d L1) hb
 obtain ⟨a1r, a1f, a1n, a1c, a1z, a1l⟩ := kp (w.heap.size + 1) (devA Dev.zero DLoc.zero) hb
 obtain ⟨a2r, a2f, a2n, a2c, a2z, a2l⟩ := kp (w3.heap.size) (recA d.rec_) hb
 have hbs4 := hb.size
 have hsz4 : w2.heap.size <= w4.heap.size := by first | omega | (simp [World.setRow] at hbs4; omega)
 have HK4 : Hid (Kp w1.heap.size w2 w4) := hD (by
  refine Kp.below ?_ (by first | omega | (simp [World.setRow] <;> omega)) hb
  exact x111)
 have HB4 : Hid (Below w.heap.size w w4) := hD (by
  refine Below.trans ?_ (hb.mono (by first | omega | (simp [World.setRow] <;> omega)))
  have hs := HB3.out.size
  exact x0)
 clear hb hbs4
 have hsz34 : w3.heap.size < w4.heap.size := a2l
 by_cases c3 : e3 ≠ 0
 ·have hz : res = (Dev.zero, e3) := HD.out.trans (if_pos c3)
  subst hz
  have q : (e3 != 0) = true := by simp [c3]
  clear c3
  go_wp2_with fail
  refine bodyPost_ret (rC (devA Dev.zero DLoc.zero)) rfl ⟨DLoc.zero, rfl, .const fun v => DevIn.zero v, ?_⟩
  have hs := HB4.out.size
  exact x0
 have c3 := Decidable.not_not.1 c3
 subst c3
 have HD2 := hD (HD.out.trans (if_neg (by decide)))
 clear HD
 by_cases c4 : nx ≠ d.rec_
 ·have HD3 := hD (HD2.out.trans (if_pos c4))
  have q4 : decide (nx = d.rec_) = false := decide_eq_false c4
  clear HD2 c4
  go_wp2_with fail
  refine (K4.out _).mono ?_
  rintro e w5 ⟨rfl, hb⟩
  obtain ⟨a0r, a0f, a0n, a0c, a0z, a0l⟩ := kp (w.heap.size) (devA d L1) hb
  obtain ⟨a1r, a1f, a1n, a1c, a1z, a1l⟩ := kp (w.heap.size + 1) (devA Dev.zero DLoc.zero) hb
  have hbs5 := hb.size
  have hsz5 : w2.heap.size <= w5.heap.size := by first | omega | (simp [World.setRow] at hbs5; omega)
  have HK5 : Hid (Kp w1.heap.size w2 w5) := hD (by
   refine Kp.below ?_ (by first | omega | (simp [World.setRow] <;> omega)) hb
   exact x62)
  have HB5 : Hid (Below w.heap.size w w5) := hD (by
   refine Below.trans ?_ (hb.mono (by first | omega | (simp [World.setRow] <;> omega)))
   have hs := HB4.out.size
   exact x0)
  clear hb hbs5
  by_cases c5 : e4 ≠ 0
  ·have hz : res = (Dev.zero, e4) := HD3.out.trans (if_pos c5)
   subst hz
   have q : (e4 != 0) = true := by simp [c5]
   clear c5
   go_wp2_with fail
   refine bodyPost_ret (rC (devA Dev.zero DLoc.zero)) rfl ⟨DLoc.zero, rfl, .const fun v => DevIn.zero v, ?_⟩
   have hs := HB5.out.size
   exact x0
  have c5 := Decidable.not_not.1 c5
  subst c5
  have hz : res = ({ d with c0 := p1, c1 := p2, up := true, running := k }, 0) := HD3.out.trans (if_neg (by decide))
  subst hz
  clear hu
  go_wp2_with fail
  refine bodyPost_ret (rC (devA { d with c0 := p1, c1 := p2, up := true, running := k } L1)) rfl ⟨L1, rfl, ?_, ?_⟩
  ·refine Fresh.imp (P := fun v => DvOwn v w1.heap.size d L1) (Fresh.kp HFR.out ?_ (by omega) (by first | omega | (simp [World.setRow] <;> omega))) (fun v hv => hv.devIn.booted p1 p2 k HSL.out)
   repeat (first | exact HK5.out | exact Kp.refl _ _ | refine Kp.row ?_ (by omega) _ | refine Kp.cell ?_ (by first | (show _ < _ ∨ _ <= _; omega) | (simp <;> omega)) _ | refine Kp.alloc ?_ (by first | omega | (simp <;> omega)) _)
  have hs := HB5.out.size
  exact x0
 have hz : res = ({ d with c0 := d.c0, c1 := d.c1, up := true, running := k }, 0) := HD2.out.trans (if_neg c4)
 have q4 : decide (nx = d.rec_) = true := decide_eq_true (Decidable.not_not.1 c4)
 subst hz
 clear c4 hu
 go_wp2_with fail
 refine bodyPost_ret (rC (devA { d with c0 := d.c0, c1 := d.c1, up := true, running := k } L1)) rfl ⟨L1, rfl, ?_, ?_⟩
 ·refine Fresh.imp (P := fun v => DvOwn v w1.heap.size d L1) (Fresh.kp HFR.out ?_ (by omega) (by first | omega | (simp [World.setRow] <;> omega))) (fun v hv => hv.devIn.booted d.c0 d.c1 k HSL.out)
  exact x62
 have hs := HB4.out.size
 exact x0
theorem devBoot_calls (d : Dev) (L : DLoc) (w : World) (h : DevIn w d L) : Calls Tryz.prog 18 #[.agg (devA d L)] w (DvRet w (devBoot d).1 (devBoot d).2) := by
 by_cases hz : devCheck d = 0
 ·cases hu : d.up
  ·exact devBoot_ok d L w h hz hu
  ·have e : devBoot d = (Dev.zero, 5) := by unfold devBoot; rw [if_neg (by omega), if_pos hu]
   rw [e]; exact devBoot_late d L w h hz hu
 have e : devBoot d = (Dev.zero, devCheck d) := by unfold devBoot; rw [if_pos hz]
 rw [e]; exact devBoot_bad d L w h hz
theorem cut_bound {p : Pat} {y : Chk} (hy : y ∈ (chkCut p).1) : ChkB y := by
 by_cases h : (chkCut p).2 = 0
 ·have hc := (chkCheck_ok.1 (cut_chunks h y hy))
  obtain ⟨h1, h2⟩ := hc
  unfold Chk.range at h1
  unfold Chk.full at h2
  refine ⟨by omega, ⟨by omega, by omega⟩, ⟨by omega, by omega⟩, ⟨by omega, by omega⟩, ⟨by omega, by omega⟩⟩
 exfalso
 unfold chkCut at hy h
 by_cases h1 : patCheck p ≠ 0
 ·rw [if_pos h1] at hy; simp at hy
 rw [if_neg h1] at hy h
 split at hy
 ·simp at hy
 rename_i h2
 rw [if_neg h2] at h
 exact h rfl
end Go.Proofs.YtefkfglkpebbmacGreat
