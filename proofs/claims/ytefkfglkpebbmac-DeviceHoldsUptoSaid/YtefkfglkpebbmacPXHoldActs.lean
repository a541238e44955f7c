/- The closures of DeviceHolds: what a device is told. Printed by gen_holdacts.py. No conditions. -/
import Derived.Test.YtefkfglkpebbmacP12
import Derived.Test.YtefkfglkpebbmacPXHoldsLaw
set_option linter.unusedVariables false
set_option linter.unusedSimpArgs false
set_option maxRecDepth 100000
set_option maxHeartbeats 40000000
namespace Go.Proofs.Ytefkfglkpebbmac
open Go.RowKit
theorem tmod2 (n : Int) (h1 : -9223372036854775808 ≤ n) (h2 : n ≤ 9223372036854775807) : IntKind.i64.wrap (n.tmod 2) = n.tmod 2 :=
 IntWalk.i64_in _ (by
  have h3 := Int.tmod_eq_emod (a := n) (b := 2)
  split at h3 <;> omega)
theorem hold0_calls (d : Dev) (L : DLoc) (c : Chk) (B : Option Addr) (e : Nat) (gd gc : Nat) (w : World) (h : DevIn w d L) (hr : rowOf w gd = devA d L) (hf : frOf w gd = (0, 0)) (hc : ChkIn w c B e) (hr2 : rowOf w gc = chkA c.from_ c.to_ c.n c.of_ B c.data.length e) (hf2 : frOf w gc = (0, 0)) : Calls Try.prog 54 #[.pointer (some ⟨gd, 0, none⟩), .pointer (some ⟨gc, 0, none⟩)] w (DvRet w (devHear d c).1 (devHear d c).2) := by
 have H := hD h
 have HBA : Hid (Below w.heap.size w (w.alloc (.cells (devA Dev.zero DLoc.zero) 71))) := hD ((Below.refl _ _).alloc (Nat.le_refl _) _)
 obtain ⟨a0r, a0f, a0n, a0c, a0z, a0l⟩ := keep1 (Below.refl w.heap.size w) hr (by go_simp) hf
 obtain ⟨b0r, b0f, b0n, b0c, b0z, b0l⟩ := keep1 (Below.refl w.heap.size w) hr2 (by simp [chkA]) hf2
 have HC := hD hc
 clear hc
 have K := hD (fun w h h2 => devHear_calls d L c B e w h h2)
 obtain ⟨y, hy⟩ : ∃ y, devHear d c = y := ⟨_, rfl⟩
 rw [hy] at K ⊢
 clear hy h
 go_enter Try.func54, Try.ntmps54
 go_wp2_with fail
 refine (K.out _ (H.out.stays HBA.out) (HC.out.stays HBA.out)).mono ?_
 rintro en w1 ⟨L1, rfl, hf1, hb⟩
 obtain ⟨c0r, c0f, c0n, c0c, c0z, c0l⟩ := kp (w.heap.size) (devA Dev.zero DLoc.zero) hb
 have HB1 : Hid (Below w.heap.size w w1) := hD (HBA.out.trans (hb.mono (by simp)))
 have HF1 := hD hf1
 have hp1 : 0 < (rowOf w1 w.heap.size).size := by rw [c0r]; simp [devA]
 clear hb hf1
 go_wp2_with fail
 refine bodyPost_ret (results_ct rfl rfl (cs := devA y.1 L1) (by go_simp) (by go_simp) (by go_simp)) rfl ⟨L1, rfl, ?_, ?_⟩
 ·intro v hv
  refine HF1.out v (fun k h1 h2 => ?_)
  simp at h1
  exact (hv k (by omega) (by simpa [World.setRow] using h2)).trans (setRow_other _ _ _ _ (by omega))
 ·have hs := HB1.out.size
  repeat (first | exact HB1.out | refine bR ?_ _ | refine bC ?_ _ | refine bA ?_ _)
theorem hold1_calls (d : Dev) (L : DLoc) (gd : Nat) (w : World) (h : DevIn w d L) (hr : rowOf w gd = devA d L) (hf : frOf w gd = (0, 0)) : Calls Try.prog 56 #[.pointer (some ⟨gd, 0, none⟩)] w (DvRet w (devOpen d).1 (devOpen d).2) := by
 have H := hD h
 have HBA : Hid (Below w.heap.size w (w.alloc (.cells (devA Dev.zero DLoc.zero) 71))) := hD ((Below.refl _ _).alloc (Nat.le_refl _) _)
 obtain ⟨a0r, a0f, a0n, a0c, a0z, a0l⟩ := keep1 (Below.refl w.heap.size w) hr (by go_simp) hf
 have K := hD (fun w h => devOpen_calls d L w h)
 obtain ⟨y, hy⟩ : ∃ y, devOpen d = y := ⟨_, rfl⟩
 rw [hy] at K ⊢
 clear hy h
 go_enter Try.func56, Try.ntmps56
 go_wp2_with fail
 refine (K.out _ (H.out.stays HBA.out)).mono ?_
 rintro en w1 ⟨L1, rfl, hf1, hb⟩
 obtain ⟨c0r, c0f, c0n, c0c, c0z, c0l⟩ := kp (w.heap.size) (devA Dev.zero DLoc.zero) hb
 have HB1 : Hid (Below w.heap.size w w1) := hD (HBA.out.trans (hb.mono (by simp)))
 have HF1 := hD hf1
 have hp1 : 0 < (rowOf w1 w.heap.size).size := by rw [c0r]; simp [devA]
 clear hb hf1
 go_wp2_with fail
 refine bodyPost_ret (results_ct rfl rfl (cs := devA y.1 L1) (by go_simp) (by go_simp) (by go_simp)) rfl ⟨L1, rfl, ?_, ?_⟩
 ·intro v hv
  refine HF1.out v (fun k h1 h2 => ?_)
  simp at h1
  exact (hv k (by omega) (by simpa [World.setRow] using h2)).trans (setRow_other _ _ _ _ (by omega))
 ·have hs := HB1.out.size
  repeat (first | exact HB1.out | refine bR ?_ _ | refine bC ?_ _ | refine bA ?_ _)
theorem hold2_calls (d : Dev) (L : DLoc) (n : Int) (gd gc : Nat) (w : World) (h : DevIn w d L) (hr : rowOf w gd = devA d L) (hf : frOf w gd = (0, 0)) (hr2 : rowOf w gc = #[iv n]) (hf2 : frOf w gc = (0, 0)) (hn : I64 n) : Calls Try.prog 58 #[.pointer (some ⟨gd, 0, none⟩), .pointer (some ⟨gc, 0, none⟩)] w (DvRet w (devWrite d (decide (n.tmod 2 = 0)) n).1 (devWrite d (decide (n.tmod 2 = 0)) n).2) := by
 have H := hD h
 have HBA : Hid (Below w.heap.size w (w.alloc (.cells (devA Dev.zero DLoc.zero) 71))) := hD ((Below.refl _ _).alloc (Nat.le_refl _) _)
 obtain ⟨a0r, a0f, a0n, a0c, a0z, a0l⟩ := keep1 (Below.refl w.heap.size w) hr (by go_simp) hf
 obtain ⟨b0r, b0f, b0n, b0c, b0z, b0l⟩ := keep1 (Below.refl w.heap.size w) hr2 (by simp) hf2
 have b0p := b0c 0
 simp at b0p
 obtain ⟨hn1, hn2⟩ := hn
 have hq := tmod2 n hn1 hn2
 have K := hD (fun w h => devWrite_calls d L (decide (n.tmod 2 = 0)) n w h)
 obtain ⟨y, hy⟩ : ∃ y, devWrite d (decide (n.tmod 2 = 0)) n = y := ⟨_, rfl⟩
 rw [hy] at K ⊢
 clear hy h
 go_enter Try.func58, Try.ntmps58
 go_wp2_with fail
 refine (K.out _ (H.out.stays HBA.out)).mono ?_
 rintro en w1 ⟨L1, rfl, hf1, hb⟩
 obtain ⟨c0r, c0f, c0n, c0c, c0z, c0l⟩ := kp (w.heap.size) (devA Dev.zero DLoc.zero) hb
 have HB1 : Hid (Below w.heap.size w w1) := hD (HBA.out.trans (hb.mono (by simp)))
 have HF1 := hD hf1
 have hp1 : 0 < (rowOf w1 w.heap.size).size := by rw [c0r]; simp [devA]
 clear hb hf1
 go_wp2_with fail
 refine bodyPost_ret (results_ct rfl rfl (cs := devA y.1 L1) (by go_simp) (by go_simp) (by go_simp)) rfl ⟨L1, rfl, ?_, ?_⟩
 ·intro v hv
  refine HF1.out v (fun k h1 h2 => ?_)
  simp at h1
  exact (hv k (by omega) (by simpa [World.setRow] using h2)).trans (setRow_other _ _ _ _ (by omega))
 ·have hs := HB1.out.size
  repeat (first | exact HB1.out | refine bR ?_ _ | refine bC ?_ _ | refine bA ?_ _)
theorem hold3_calls (d : Dev) (L : DLoc) (n : Int) (gd gc : Nat) (w : World) (h : DevIn w d L) (hr : rowOf w gd = devA d L) (hf : frOf w gd = (0, 0)) (hr2 : rowOf w gc = #[iv n]) (hf2 : frOf w gc = (0, 0)) (hn : I64 n) : Calls Try.prog 60 #[.pointer (some ⟨gd, 0, none⟩), .pointer (some ⟨gc, 0, none⟩)] w (DvRet w (devFinish d (decide (n.tmod 2 = 0))).1 (devFinish d (decide (n.tmod 2 = 0))).2) := by
 have H := hD h
 have HBA : Hid (Below w.heap.size w (w.alloc (.cells (devA Dev.zero DLoc.zero) 71))) := hD ((Below.refl _ _).alloc (Nat.le_refl _) _)
 obtain ⟨a0r, a0f, a0n, a0c, a0z, a0l⟩ := keep1 (Below.refl w.heap.size w) hr (by go_simp) hf
 obtain ⟨b0r, b0f, b0n, b0c, b0z, b0l⟩ := keep1 (Below.refl w.heap.size w) hr2 (by simp) hf2
 have b0p := b0c 0
 simp at b0p
 obtain ⟨hn1, hn2⟩ := hn
 have hq := tmod2 n hn1 hn2
 have K := hD (fun w h => devFinish_calls d L (decide (n.tmod 2 = 0)) w h)
 obtain ⟨y, hy⟩ : ∃ y, devFinish d (decide (n.tmod 2 = 0)) = y := ⟨_, rfl⟩
 rw [hy] at K ⊢
 clear hy h
 go_enter Try.func60, Try.ntmps60
 go_wp2_with fail
 refine (K.out _ (H.out.stays HBA.out)).mono ?_
 rintro en w1 ⟨L1, rfl, hf1, hb⟩
 obtain ⟨c0r, c0f, c0n, c0c, c0z, c0l⟩ := kp (w.heap.size) (devA Dev.zero DLoc.zero) hb
 have HB1 : Hid (Below w.heap.size w w1) := hD (HBA.out.trans (hb.mono (by simp)))
 have HF1 := hD hf1
 have hp1 : 0 < (rowOf w1 w.heap.size).size := by rw [c0r]; simp [devA]
 clear hb hf1
 go_wp2_with fail
 refine bodyPost_ret (results_ct rfl rfl (cs := devA y.1 L1) (by go_simp) (by go_simp) (by go_simp)) rfl ⟨L1, rfl, ?_, ?_⟩
 ·intro v hv
  refine HF1.out v (fun k h1 h2 => ?_)
  simp at h1
  exact (hv k (by omega) (by simpa [World.setRow] using h2)).trans (setRow_other _ _ _ _ (by omega))
 ·have hs := HB1.out.size
  repeat (first | exact HB1.out | refine bR ?_ _ | refine bC ?_ _ | refine bA ?_ _)
theorem hold4_calls (d : Dev) (L : DLoc) (gd : Nat) (w : World) (h : DevIn w d L) (hr : rowOf w gd = devA d L) (hf : frOf w gd = (0, 0)) : Calls Try.prog 62 #[.pointer (some ⟨gd, 0, none⟩)] w (DvRet w (devCrash d).1 (devCrash d).2) := by
 have H := hD h
 have HBA : Hid (Below w.heap.size w (w.alloc (.cells (devA Dev.zero DLoc.zero) 71))) := hD ((Below.refl _ _).alloc (Nat.le_refl _) _)
 obtain ⟨a0r, a0f, a0n, a0c, a0z, a0l⟩ := keep1 (Below.refl w.heap.size w) hr (by go_simp) hf
 have K := hD (fun w h => devCrash_calls d L w h)
 obtain ⟨y, hy⟩ : ∃ y, devCrash d = y := ⟨_, rfl⟩
 rw [hy] at K ⊢
 clear hy h
 go_enter Try.func62, Try.ntmps62
 go_wp2_with fail
 refine (K.out _ (H.out.stays HBA.out)).mono ?_
 rintro en w1 ⟨L1, rfl, hf1, hb⟩
 obtain ⟨c0r, c0f, c0n, c0c, c0z, c0l⟩ := kp (w.heap.size) (devA Dev.zero DLoc.zero) hb
 have HB1 : Hid (Below w.heap.size w w1) := hD (HBA.out.trans (hb.mono (by simp)))
 have HF1 := hD hf1
 have hp1 : 0 < (rowOf w1 w.heap.size).size := by rw [c0r]; simp [devA]
 clear hb hf1
 go_wp2_with fail
 refine bodyPost_ret (results_ct rfl rfl (cs := devA y.1 L1) (by go_simp) (by go_simp) (by go_simp)) rfl ⟨L1, rfl, ?_, ?_⟩
 ·intro v hv
  refine HF1.out v (fun k h1 h2 => ?_)
  simp at h1
  exact (hv k (by omega) (by simpa [World.setRow] using h2)).trans (setRow_other _ _ _ _ (by omega))
 ·have hs := HB1.out.size
  repeat (first | exact HB1.out | refine bR ?_ _ | refine bC ?_ _ | refine bA ?_ _)
theorem hold5_calls (d : Dev) (L : DLoc) (gd : Nat) (w : World) (h : DevIn w d L) (hr : rowOf w gd = devA d L) (hf : frOf w gd = (0, 0)) : Calls Try.prog 64 #[.pointer (some ⟨gd, 0, none⟩)] w (DvRet w (devBoot d).1 (devBoot d).2) := by
 have H := hD h
 have HBA : Hid (Below w.heap.size w (w.alloc (.cells (devA Dev.zero DLoc.zero) 71))) := hD ((Below.refl _ _).alloc (Nat.le_refl _) _)
 obtain ⟨a0r, a0f, a0n, a0c, a0z, a0l⟩ := keep1 (Below.refl w.heap.size w) hr (by go_simp) hf
 have K := hD (fun w h => devBoot_calls d L w h)
 obtain ⟨y, hy⟩ : ∃ y, devBoot d = y := ⟨_, rfl⟩
 rw [hy] at K ⊢
 clear hy h
 go_enter Try.func64, Try.ntmps64
 go_wp2_with fail
 refine (K.out _ (H.out.stays HBA.out)).mono ?_
 rintro en w1 ⟨L1, rfl, hf1, hb⟩
 obtain ⟨c0r, c0f, c0n, c0c, c0z, c0l⟩ := kp (w.heap.size) (devA Dev.zero DLoc.zero) hb
 have HB1 : Hid (Below w.heap.size w w1) := hD (HBA.out.trans (hb.mono (by simp)))
 have HF1 := hD hf1
 have hp1 : 0 < (rowOf w1 w.heap.size).size := by rw [c0r]; simp [devA]
 clear hb hf1
 go_wp2_with fail
 refine bodyPost_ret (results_ct rfl rfl (cs := devA y.1 L1) (by go_simp) (by go_simp) (by go_simp)) rfl ⟨L1, rfl, ?_, ?_⟩
 ·intro v hv
  refine HF1.out v (fun k h1 h2 => ?_)
  simp at h1
  exact (hv k (by omega) (by simpa [World.setRow] using h2)).trans (setRow_other _ _ _ _ (by omega))
 ·have hs := HB1.out.size
  repeat (first | exact HB1.out | refine bR ?_ _ | refine bC ?_ _ | refine bA ?_ _)
theorem hold6_calls (d : Dev) (L : DLoc) (gd : Nat) (w : World) (h : DevIn w d L) (hr : rowOf w gd = devA d L) (hf : frOf w gd = (0, 0)) : Calls Try.prog 66 #[.pointer (some ⟨gd, 0, none⟩)] w (DvRet w (devConfirm d).1 (devConfirm d).2) := by
 have H := hD h
 have HBA : Hid (Below w.heap.size w (w.alloc (.cells (devA Dev.zero DLoc.zero) 71))) := hD ((Below.refl _ _).alloc (Nat.le_refl _) _)
 obtain ⟨a0r, a0f, a0n, a0c, a0z, a0l⟩ := keep1 (Below.refl w.heap.size w) hr (by go_simp) hf
 have K := hD (fun w h => devConfirm_calls d L w h)
 obtain ⟨y, hy⟩ : ∃ y, devConfirm d = y := ⟨_, rfl⟩
 rw [hy] at K ⊢
 clear hy h
 go_enter Try.func66, Try.ntmps66
 go_wp2_with fail
 refine (K.out _ (H.out.stays HBA.out)).mono ?_
 rintro en w1 ⟨L1, rfl, hf1, hb⟩
 obtain ⟨c0r, c0f, c0n, c0c, c0z, c0l⟩ := kp (w.heap.size) (devA Dev.zero DLoc.zero) hb
 have HB1 : Hid (Below w.heap.size w w1) := hD (HBA.out.trans (hb.mono (by simp)))
 have HF1 := hD hf1
 have hp1 : 0 < (rowOf w1 w.heap.size).size := by rw [c0r]; simp [devA]
 clear hb hf1
 go_wp2_with fail
 refine bodyPost_ret (results_ct rfl rfl (cs := devA y.1 L1) (by go_simp) (by go_simp) (by go_simp)) rfl ⟨L1, rfl, ?_, ?_⟩
 ·intro v hv
  refine HF1.out v (fun k h1 h2 => ?_)
  simp at h1
  exact (hv k (by omega) (by simpa [World.setRow] using h2)).trans (setRow_other _ _ _ _ (by omega))
 ·have hs := HB1.out.size
  repeat (first | exact HB1.out | refine bR ?_ _ | refine bC ?_ _ | refine bA ?_ _)
end Go.Proofs.Ytefkfglkpebbmac
