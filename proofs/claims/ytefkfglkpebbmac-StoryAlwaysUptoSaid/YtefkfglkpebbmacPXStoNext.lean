/- The walk of story.Next. Printed by gen_devacts.py. No conditions. -/
import Derived.Test.YtefkfglkpebbmacP13
import Derived.Test.YtefkfglkpebbmacPXStoryMath
set_option linter.unusedVariables false
set_option linter.unusedSimpArgs false
set_option maxRecDepth 100000
set_option maxHeartbeats 40000000
namespace Go.Proofs.Ytefkfglkpebbmac
open Go.RowKit
theorem stoNext_bad {x : Wor} (h : worCheck x ≠ 0) : stoNext x = (0, worCheck x) := by unfold stoNext; rw [if_pos h]
theorem stoNext_ok {x : Wor} (h : worCheck x = 0) : stoNext x = if (devBoot x.d.off).2 ≠ 0 then (0, (devBoot x.d.off).2) else (((devBoot x.d.off).1.rec_.at_ (devBoot x.d.off).1.running).ver, 0) := by unfold stoNext; rw [if_neg (by omega)]
theorem booted_ok {d : Dev} (h : (devBoot d).2 = 0) : DevOk (devBoot d).1 ∧ ((devBoot d).1.running = 0 ∨ (devBoot d).1.running = 1) := by
 obtain ⟨h1, h2⟩ := boot_parts h
 rw [h2]
 have h3 := boot_ok_dev h1
 exact ⟨h3, (h3.run (by unfold Dev.boots; split <;> rfl)).1⟩
theorem stoNext_calls (x : Wor) (L : WLoc) (w : World) (h : WorIn w x L) : Calls Try.prog 78 #[.agg (worA x L)] w (RetB w (.tuple #[iv (stoNext x).1, iv (stoNext x).2])) := by
 have HBA : Hid (Below w.heap.size w (w.alloc (.cells (worA x L) 88))) := hD ((Below.refl _ _).alloc (Nat.le_refl _) _)
 have HIN := hD h
 have K1 := hD (fun w h => worCheck_calls x L w h)
 by_cases hc : worCheck x ≠ 0
 ·rw [stoNext_bad hc]
  have q : (worCheck x != 0) = true := by simp [hc]
  generalize worCheck x = n at *
  clear hc h
  go_enter Try.func78, Try.ntmps78
  go_wp2_with fail
  refine (K1.out _ (HIN.out.stays HBA.out)).mono ?_
  rintro e w1 ⟨rfl, hb⟩
  obtain ⟨a0r, a0f, a0n, a0c, a0z, a0l⟩ := kp (w.heap.size) (worA x L) hb
  have hs1 : w.heap.size + 1 ≤ w1.heap.size := by have := hb.size; simpa using this
  have HB1 : Hid (Below w.heap.size w w1) := hD (HBA.out.trans (hb.mono (by simp)))
  clear hb
  go_wp2_with fail
  go_ret2
  refine ⟨rfl, ?_⟩
  have hs := HB1.out.size
  repeat (first | exact HB1.out | refine bR ?_ _ | refine bC ?_ _ | refine bA ?_ _)
 have hc := Decidable.not_not.1 hc
 have hdef := stoNext_ok hc
 have hok := (worCheck_ok.1 hc).dev
 obtain ⟨res, hres⟩ : ∃ res, stoNext x = res := ⟨_, rfl⟩
 rw [hres] at hdef ⊢
 have HD := hD hdef
 rw [hc] at K1
 have KB := hD (fun L w h => devBoot_calls x.d.off L w h)
 clear hc h hdef hres
 cases hu : x.d.up
 ·have hoff : x.d.off = x.d := by unfold Dev.off; rw [hu]; rfl
  rw [hoff] at HD KB
  clear hok hoff
  go_enter Try.func78, Try.ntmps78
  go_wp2_with fail
  refine (K1.out _ (HIN.out.stays HBA.out)).mono ?_
  rintro e w1 ⟨rfl, hb⟩
  obtain ⟨a0r, a0f, a0n, a0c, a0z, a0l⟩ := kp (w.heap.size) (worA x L) hb
  have hs1 : w.heap.size + 1 ≤ w1.heap.size := by have := hb.size; simpa using this
  have HB1 : Hid (Below w.heap.size w w1) := hD (HBA.out.trans (hb.mono (by simp)))
  clear hb
  obtain ⟨⟨d3, e3⟩, hd3⟩ : ∃ z, devBoot x.d = z := ⟨_, rfl⟩
  have hbk := @booted_ok x.d
  rw [hd3] at HD KB hbk
  go_wp2_with fail
  refine (KB.out _ _ ?_).mono ?_
  ·refine HIN.out.dev.stays ?_
   have hs := HB1.out.size
   repeat (first | exact HB1.out | refine bR ?_ _ | refine bC ?_ _ | refine bA ?_ _)
  rintro e w2 ⟨L3, rfl, hfr3, hb⟩
  obtain ⟨a0r, a0f, a0n, a0c, a0z, a0l⟩ := kp (w1.heap.size) (devA x.d L.l) hb
  have hs2 : w1.heap.size + 1 ≤ w2.heap.size := by have := hb.size; first | omega | (simp [World.setRow] at this; omega)
  have HB2 : Hid (Below w.heap.size w w2) := hD (by
   refine Below.trans ?_ (hb.mono (by first | omega | (simp [World.setRow] <;> omega)))
   repeat (first | exact HB1.out | refine bR ?_ _ | refine bA ?_ _))
  clear hb hd3 hfr3
  by_cases c3 : e3 ≠ 0
  ·have hz : res = (0, e3) := HD.out.trans (if_pos c3)
   subst hz
   have q : (e3 != 0) = true := by simp [c3]
   clear c3 hbk
   go_wp2_with fail
   go_ret2
   refine ⟨rfl, ?_⟩
   have hs := HB2.out.size
   repeat (first | exact HB2.out | refine bR ?_ _ | refine bC ?_ _ | refine bA ?_ _)
  have c3 := Decidable.not_not.1 c3
  subst c3
  have hz : res = ((d3.rec_.at_ d3.running).ver, 0) := HD.out.trans (if_neg (by simp))
  subst hz
  obtain ⟨hok3, hrun⟩ := hbk rfl
  try dsimp only at hok3 hrun
  have K2 := hD (fun w => read_ok d3.c0 d3.c1 w hok3.cops)
  obtain ⟨rk, hrk⟩ : ∃ rk, (recRead d3.c0 d3.c1).2 = rk := ⟨_, rfl⟩
  have hre : (recRead d3.c0 d3.c1).1 = d3.rec_ := rfl
  rw [hrk, hre] at K2
  clear hok3 hrk hre HD KB
  go_wp2_with fail
  refine (K2.out _).mono ?_
  rintro e w9 ⟨rfl, hb⟩
  obtain ⟨a0r, a0f, a0n, a0c, a0z, a0l⟩ := kp (w1.heap.size) (devA d3 L3) hb
  have HB9 : Hid (Below w.heap.size w w9) := hD (by
   refine Below.trans ?_ (hb.mono (by first | omega | (simp [World.setRow] <;> omega)))
   have hs := HB2.out.size
   repeat (first | exact HB2.out | refine bR ?_ _ | refine bA ?_ _))
  clear hb K2
  rcases hrun with hk | hk
  ·have hv : (d3.rec_.at_ d3.running).ver = d3.rec_.a.ver := by rw [hk, at_0]
   have HV := hD hv
   clear hv
   go_wp2_with fail
   go_ret2
   refine ⟨by first | rfl | (dsimp only; rw [HV.out]; rfl) | (rw [HV.out]; rfl), ?_⟩
   have hs := HB9.out.size
   repeat (first | exact HB9.out | refine bR ?_ _ | refine bC ?_ _ | refine bA ?_ _)
  ·have hv : (d3.rec_.at_ d3.running).ver = d3.rec_.b.ver := by rw [hk, at_1]
   have HV := hD hv
   clear hv
   go_wp2_with fail
   go_ret2
   refine ⟨by first | rfl | (dsimp only; rw [HV.out]; rfl) | (rw [HV.out]; rfl), ?_⟩
   have hs := HB9.out.size
   repeat (first | exact HB9.out | refine bR ?_ _ | refine bC ?_ _ | refine bA ?_ _)
 ·have hoff : x.d.off = x.d.down := by unfold Dev.off; rw [hu]; rfl
  rw [hoff] at HD KB
  have hcr : devCrash x.d = (x.d.down, 0) := by
   unfold devCrash
   rw [if_neg (by have := devReady_ok.2 ⟨hok, hu⟩; omega)]
  have KC := hD (fun w h => devCrash_calls x.d L.l w h)
  rw [hcr] at KC
  clear hok hoff hcr
  go_enter Try.func78, Try.ntmps78
  go_wp2_with fail
  refine (K1.out _ (HIN.out.stays HBA.out)).mono ?_
  rintro e w1 ⟨rfl, hb⟩
  obtain ⟨a0r, a0f, a0n, a0c, a0z, a0l⟩ := kp (w.heap.size) (worA x L) hb
  have hs1 : w.heap.size + 1 ≤ w1.heap.size := by have := hb.size; simpa using this
  have HB1 : Hid (Below w.heap.size w w1) := hD (HBA.out.trans (hb.mono (by simp)))
  clear hb
  go_wp2_with fail
  refine (KC.out _ ?_).mono ?_
  ·refine HIN.out.dev.stays ?_
   have hs := HB1.out.size
   repeat (first | exact HB1.out | refine bR ?_ _ | refine bC ?_ _ | refine bA ?_ _)
  rintro e w2 ⟨L2, rfl, hfr, hb⟩
  obtain ⟨a0r, a0f, a0n, a0c, a0z, a0l⟩ := kp (w1.heap.size) (devA x.d L.l) hb
  have hs2 : w1.heap.size + 1 ≤ w2.heap.size := by have := hb.size; simpa using this
  have HB2 : Hid (Below w.heap.size w w2) := hD (by
   refine Below.trans ?_ (hb.mono (by first | omega | (simp <;> omega)))
   repeat (first | exact HB1.out | refine bA ?_ _))
  have HFR : Hid (Fresh (w1.heap.size + 1) w2 (fun v => DevIn v x.d.down L2)) := hD (by simpa using hfr)
  clear hb hfr KC
  obtain ⟨⟨d3, e3⟩, hd3⟩ : ∃ z, devBoot x.d.down = z := ⟨_, rfl⟩
  have hbk := @booted_ok x.d.down
  rw [hd3] at HD KB hbk
  go_wp2_with fail
  refine (KB.out _ _ ?_).mono ?_
  ·have hf9 : Fresh (w1.heap.size + 1) (w2.setRow w1.heap.size (devA x.d.down L2)) (fun v => DevIn v x.d.down L2) := HFR.out.row (by omega) _
   first | exact hf9.now | exact (HFR.out.row (by omega) _).now
  rintro e w3 ⟨L3, rfl, hfr3, hb⟩
  obtain ⟨a0r, a0f, a0n, a0c, a0z, a0l⟩ := kp (w1.heap.size) (devA x.d.down L2) hb
  have hs3 : w1.heap.size + 1 ≤ w3.heap.size := by have := hb.size; first | omega | (simp [World.setRow] at this; omega)
  have HB3 : Hid (Below w.heap.size w w3) := hD (by
   refine Below.trans ?_ (hb.mono (by first | omega | (simp [World.setRow] <;> omega)))
   repeat (first | exact HB2.out | refine bR ?_ _ | refine bA ?_ _))
  clear hb hd3 hfr3
  by_cases c3 : e3 ≠ 0
  ·have hz : res = (0, e3) := HD.out.trans (if_pos c3)
   subst hz
   have q : (e3 != 0) = true := by simp [c3]
   clear c3 hbk
   go_wp2_with fail
   go_ret2
   refine ⟨rfl, ?_⟩
   have hs := HB3.out.size
   repeat (first | exact HB3.out | refine bR ?_ _ | refine bC ?_ _ | refine bA ?_ _)
  have c3 := Decidable.not_not.1 c3
  subst c3
  have hz : res = ((d3.rec_.at_ d3.running).ver, 0) := HD.out.trans (if_neg (by simp))
  subst hz
  obtain ⟨hok3, hrun⟩ := hbk rfl
  try dsimp only at hok3 hrun
  have K2 := hD (fun w => read_ok d3.c0 d3.c1 w hok3.cops)
  obtain ⟨rk, hrk⟩ : ∃ rk, (recRead d3.c0 d3.c1).2 = rk := ⟨_, rfl⟩
  have hre : (recRead d3.c0 d3.c1).1 = d3.rec_ := rfl
  rw [hrk, hre] at K2
  clear hok3 hrk hre HD KB
  go_wp2_with fail
  refine (K2.out _).mono ?_
  rintro e w9 ⟨rfl, hb⟩
  obtain ⟨a0r, a0f, a0n, a0c, a0z, a0l⟩ := kp (w1.heap.size) (devA d3 L3) hb
  have HB9 : Hid (Below w.heap.size w w9) := hD (by
   refine Below.trans ?_ (hb.mono (by first | omega | (simp [World.setRow] <;> omega)))
   have hs := HB3.out.size
   repeat (first | exact HB3.out | refine bR ?_ _ | refine bA ?_ _))
  clear hb K2
  rcases hrun with hk | hk
  ·have hv : (d3.rec_.at_ d3.running).ver = d3.rec_.a.ver := by rw [hk, at_0]
   have HV := hD hv
   clear hv
   go_wp2_with fail
   go_ret2
   refine ⟨by first | rfl | (dsimp only; rw [HV.out]; rfl) | (rw [HV.out]; rfl), ?_⟩
   have hs := HB9.out.size
   repeat (first | exact HB9.out | refine bR ?_ _ | refine bC ?_ _ | refine bA ?_ _)
  ·have hv : (d3.rec_.at_ d3.running).ver = d3.rec_.b.ver := by rw [hk, at_1]
   have HV := hD hv
   clear hv
   go_wp2_with fail
   go_ret2
   refine ⟨by first | rfl | (dsimp only; rw [HV.out]; rfl) | (rw [HV.out]; rfl), ?_⟩
   have hs := HB9.out.size
   repeat (first | exact HB9.out | refine bR ?_ _ | refine bC ?_ _ | refine bA ?_ _)
end Go.Proofs.Ytefkfglkpebbmac
