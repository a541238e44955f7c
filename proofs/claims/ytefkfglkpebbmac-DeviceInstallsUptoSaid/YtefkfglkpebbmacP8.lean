/- Walks of functions, and plain words. No conditions. -/
import Derived.Test.YtefkfglkpebbmacP7
import Derived.ArgAppend
import Derived.BigRegion
set_option linter.unusedVariables false
set_option linter.unusedSimpArgs false
set_option maxRecDepth 100000
set_option maxHeartbeats 40000000
namespace Go.Proofs.Ytefkfglkpebbmac
open Go.RowKit
variable {w : World} {l : List Chk}
theorem DevIn.hear {d : Dev} {L : DLoc} (h : DevIn w d L) {A : Option Addr} {c : Nat} (h1 : l.length ≤ c) (h2 : l.length ≤ 1048576) (h3 : Chs w A l) : DevIn w { d with got := l } { L with ag := A, cg := c } := ⟨h.k0, h.l0, h.b0, h.k1, h.l1, h.b1, h1, h2, h3, h.job, h.ir, h.id⟩
theorem chkAdd_all {c x : Chk} (h : x ∈ (chkAdd l c).1) : x ∈ l ∨ x = c := by
 unfold chkAdd at h
 by_cases h1 : chkList l ≠ 0
 ·rw [if_pos h1] at h; simp at h
 rw [if_neg h1] at h
 by_cases h2 : chkCheck c ≠ 0
 ·rw [if_pos h2] at h; simp at h
 rw [if_neg h2] at h
 rcases l with _ | ⟨y, r⟩
 ·dsimp only at h; exact .inr (by simpa using h)
 dsimp only at h
 by_cases h3 : ¬ kin y c
 ·rw [if_pos h3] at h; exact .inr (by simpa using h)
 rw [if_neg h3] at h
 by_cases h4 : ∃ z ∈ y :: r, z.n = c.n
 ·rw [if_pos h4] at h; exact .inl h
 rw [if_neg h4] at h
 rcases List.mem_append.1 h with h | h
 ·exact .inl (List.mem_of_mem_take h)
 ·rcases List.mem_cons.1 h with h | h
  ·exact .inr h
  ·exact .inl (List.mem_of_mem_drop h)
theorem chkAdd_len {c : Chk} (h : (chkAdd l c).2 = 0) : (chkAdd l c).1.length ≤ 100 := by
 unfold chkAdd at h ⊢
 by_cases h1 : chkList l ≠ 0
 ·rw [if_pos h1] at h; exact absurd h h1
 rw [if_neg h1] at h ⊢
 have hl := chkList_len (Decidable.not_not.1 h1)
 by_cases h2 : chkCheck c ≠ 0
 ·rw [if_pos h2] at h; exact absurd h h2
 rw [if_neg h2] at h ⊢
 rcases l with _ | ⟨y, r⟩
 ·simp
 dsimp only
 split
 ·simp
 split
 ·dsimp only; omega
 ·simp only [List.length_append, List.length_take, List.length_cons, List.length_drop] at hl ⊢; omega
theorem Fresh.and {base : Nat} {P Q : World → Prop} (h : Fresh base w P) (g : Fresh base w Q) : Fresh base w (fun v => P v ∧ Q v) := fun v hv => ⟨h v hv, g v hv⟩
theorem devHear_bad (d : Dev) (L : DLoc) (x : Chk) (B : Option Addr) (e : Nat) (w : World) (h : DevIn w d L) (hx : ChkIn w x B e) (hne : devReady d ≠ 0) : Calls Try.prog 55 #[.agg (devA d L), .agg (chkA x.from_ x.to_ x.n x.of_ B x.data.length e)] w (DvRet w Dev.zero (devReady d)) := by
 have hba : Below w.heap.size w (((w.alloc (.cells (devA d L) 71)).alloc (.cells (chkA x.from_ x.to_ x.n x.of_ B x.data.length e) 49)).alloc (.cells (devA Dev.zero DLoc.zero) 71)) := (((Below.refl w.heap.size w).alloc (by first | omega | (simp <;> omega)) (.cells (devA d L) 71)).alloc (by first | omega | (simp <;> omega)) (.cells (chkA x.from_ x.to_ x.n x.of_ B x.data.length e) 49)).alloc (by first | omega | (simp <;> omega)) (.cells (devA Dev.zero DLoc.zero) 71)
 have HBA := hD hba
 have HIN := hD h
 have KB := hD (fun w h => ready_bad d L w h hne)
 have q : (devReady d != 0) = true := by simp [hne]
 generalize devReady d = n at *
 clear hne h hba
 go_enter Try.func55, Try.ntmps55
 go_wp2_with fail
 refine (KB.out _ (HIN.out.stays HBA.out)).mono ?_
 rintro e w1 ⟨rfl, hb1⟩
 obtain ⟨a0r, a0f, a0n, a0c, a0z, a0l⟩ := kp (w.heap.size) (devA d L) hb1
 obtain ⟨a1r, a1f, a1n, a1c, a1z, a1l⟩ := kp (w.heap.size + 1) (chkA x.from_ x.to_ x.n x.of_ B x.data.length e) hb1
 obtain ⟨a2r, a2f, a2n, a2c, a2z, a2l⟩ := kp (w.heap.size + 1 + 1) (devA Dev.zero DLoc.zero) hb1
 have HB1 := hD (HBA.out.trans (hb1.mono (by simp <;> omega)))
 clear hb1
 go_wp2_with fail
 refine bodyPost_ret (results_ct rfl rfl (cs := devA Dev.zero DLoc.zero) (by go_simp) (by go_simp) (by go_simp)) rfl ⟨DLoc.zero, rfl, .const fun v => DevIn.zero v, ?_⟩
 have hs := HB1.out.size
 repeat (first | exact HB1.out | refine bR ?_ _ | refine bC ?_ _ | refine bA ?_ _)
theorem devHear_ok (d : Dev) (L : DLoc) (x : Chk) (B : Option Addr) (e : Nat) (w : World) (h : DevIn w d L) (hx : ChkIn w x B e) (hz : devReady d = 0) : Calls Try.prog 55 #[.agg (devA d L), .agg (chkA x.from_ x.to_ x.n x.of_ B x.data.length e)] w (DvRet w (devHear d x).1 (devHear d x).2) := by
 have hba : Below w.heap.size w (((w.alloc (.cells (devA d L) 71)).alloc (.cells (chkA x.from_ x.to_ x.n x.of_ B x.data.length e) 49)).alloc (.cells (devA Dev.zero DLoc.zero) 71)) := (((Below.refl w.heap.size w).alloc (by first | omega | (simp <;> omega)) (.cells (devA d L) 71)).alloc (by first | omega | (simp <;> omega)) (.cells (chkA x.from_ x.to_ x.n x.of_ B x.data.length e) 49)).alloc (by first | omega | (simp <;> omega)) (.cells (devA Dev.zero DLoc.zero) 71)
 have HBA := hD hba
 have HIN := hD h
 have KR := hD (fun w h => ready_ok d L w h hz)
 have hdef : devHear d x = if d.busy = true then (Dev.zero, 5) else if (chkAdd d.got x).2 ≠ 0 then (Dev.zero, (chkAdd d.got x).2) else ({ d with got := (chkAdd d.got x).1 }, 0) := by unfold devHear; rw [if_neg (by omega)]
 have HLG := hD h.lg
 have HBD : Hid (∀ y ∈ (chkAdd d.got x).1, ChkB y) := hD (fun y hy => by
  rcases chkAdd_all hy with hy | hy
  ·exact h.got.bound y hy
  ·subst hy; exact ⟨hx.len, hx.i0, hx.i1, hx.i2, hx.i3⟩)
 have HLN : Hid ((chkAdd d.got x).2 = 0 → (chkAdd d.got x).1.length ≤ 100) := hD (fun e => chkAdd_len e)
 have HX := hD hx
 have K2 := hD (fun A c w h1 h2 => chkAdd_calls A B c e d.got x w HLG.out h1 h2)
 obtain ⟨⟨l2, e2⟩, hq⟩ : ∃ y, chkAdd d.got x = y := ⟨_, rfl⟩
 rw [hq] at hdef HBD HLN K2
 dsimp only at hdef
 have HD := hD hdef
 generalize devHear d x = res at *
 clear hz h hba hdef hq hx
 go_enter Try.func55, Try.ntmps55
 go_wp2_with fail
 refine (KR.out _ (HIN.out.stays HBA.out)).mono ?_
 rintro e w1 ⟨L1, rfl, hfr, hb1⟩
 obtain ⟨a0r, a0f, a0n, a0c, a0z, a0l⟩ := kp (w.heap.size) (devA d L) hb1
 obtain ⟨a1r, a1f, a1n, a1c, a1z, a1l⟩ := kp (w.heap.size + 1) (chkA x.from_ x.to_ x.n x.of_ B x.data.length e) hb1
 obtain ⟨a2r, a2f, a2n, a2c, a2z, a2l⟩ := kp (w.heap.size + 1 + 1) (devA Dev.zero DLoc.zero) hb1
 have HFR : Hid (Fresh (w.heap.size + 3) w1 (fun v => DvOwn v (w.heap.size + 3) d L1)) := hD (by simpa [Nat.add_assoc] using hfr)
 have HB1 := hD (HBA.out.trans (hb1.mono (by simp <;> omega)))
 have hsz1 : w.heap.size + 3 ≤ w1.heap.size := by have := hb1.size; simp at this; omega
 have HK1 : Hid (Kp (w.heap.size + 3) w1 w1) := hD (Kp.refl _ _)
 clear hb1 hfr
 by_cases c1 : d.busy = true
 ·have hz : res = (Dev.zero, 5) := HD.out.trans (if_pos c1)
  subst hz
  go_wp2_with fail
  refine bodyPost_ret (results_ct rfl rfl (cs := devA Dev.zero DLoc.zero) (by go_simp) (by go_simp) (by go_simp)) rfl ⟨DLoc.zero, rfl, .const fun v => DevIn.zero v, ?_⟩
  have hs := HB1.out.size
  repeat (first | exact HB1.out | refine bR ?_ _ | refine bC ?_ _ | refine bA ?_ _)
 have HD2 := hD (HD.out.trans (if_neg c1))
 have c1 : d.busy = false := by simpa using c1
 clear HD
 go_wp2_with fail
 refine (K2.out L1.ag L1.cg _ ?_ ?_).mono ?_
 ·refine (Fresh.kp (B := w.heap.size + 3) HFR.out ?_ (Nat.le_refl _) (by first | omega | (simp <;> omega))).now.devIn.got
  repeat (first | exact HK1.out | exact Kp.refl _ _ | refine Kp.row ?_ (by omega) _ | refine Kp.cell ?_ (by first | (show _ < _ ∨ _ ≤ _; omega) | (simp <;> omega)) _ | refine Kp.alloc ?_ (by first | omega | (simp <;> omega)) _)
 ·refine HX.out.stays ?_
  have hs := HB1.out.size
  repeat (first | exact HB1.out | refine bR ?_ _ | refine bC ?_ _ | refine bA ?_ _)
 rintro en w2 ⟨A2, c2, ds, rfl, hrow, heach, hb⟩
 have HS2 : Hid (w1.heap.size + 1 ≤ w2.heap.size) := hD (by have := hb.size; simpa using this)
 obtain ⟨a0r, a0f, a0n, a0c, a0z, a0l⟩ := kp (w.heap.size) (devA d L1) hb
 obtain ⟨a1r, a1f, a1n, a1c, a1z, a1l⟩ := kp (w.heap.size + 1 + 1) (devA Dev.zero DLoc.zero) hb
 have hbs2 := hb.size
 have hsz2 : w1.heap.size ≤ w2.heap.size := by first | omega | (simp at hbs2; omega)
 have HK2 : Hid (Kp (w.heap.size + 3) w1 w2) := hD (by
  refine Kp.below ?_ (by first | omega | (simp <;> omega)) hb
  repeat (first | exact HK1.out | exact Kp.refl _ _ | refine Kp.row ?_ (by omega) _ | refine Kp.cell ?_ (by first | (show _ < _ ∨ _ ≤ _; omega) | (simp <;> omega)) _ | refine Kp.alloc ?_ (by first | omega | (simp <;> omega)) _))
 have HB2 : Hid (Below w.heap.size w w2) := hD (by
  refine Below.trans ?_ (hb.mono (by first | omega | (simp <;> omega)))
  have hs := HB1.out.size
  repeat (first | exact HB1.out | refine bR ?_ _ | refine bC ?_ _ | refine bA ?_ _))
 clear hb hbs2
 have HGR : Hid (Fresh (w1.heap.size + 1) w2 (fun v => GRow kChk v (w1.heap.size + 1) l2 ds A2 c2)) := hD (by
  have h1 := hrow.fresh heach
  simpa using h1)
 have HC2 := hD hrow.row.le
 have hsz3 : w1.heap.size + 1 ≤ w2.heap.size := HS2.out
 clear hrow heach
 by_cases c2' : e2 ≠ 0
 ·have hz : res = (Dev.zero, e2) := HD2.out.trans (if_pos c2')
  subst hz
  have q : (e2 != 0) = true := by simp [c2']
  clear c2'
  go_wp2_with fail
  refine bodyPost_ret (results_ct rfl rfl (cs := devA Dev.zero DLoc.zero) (by go_simp) (by go_simp) (by go_simp)) rfl ⟨DLoc.zero, rfl, .const fun v => DevIn.zero v, ?_⟩
  have hs := HB2.out.size
  repeat (first | exact HB2.out | refine bR ?_ _ | refine bC ?_ _ | refine bA ?_ _)
 have c2' := Decidable.not_not.1 c2'
 subst c2'
 have hz : res = ({ d with got := l2 }, 0) := HD2.out.trans (if_neg (by decide))
 subst hz
 have HL2 : Hid (l2.length ≤ 1048576) := hD (by have := HLN.out rfl; omega)
 clear HLN HD2
 go_wp2_with fail
 refine bodyPost_ret (results_ct rfl rfl (cs := devA { d with got := l2 } { L1 with ag := A2, cg := c2 }) (by go_simp) (by go_simp) (by go_simp)) rfl ⟨{ L1 with ag := A2, cg := c2 }, rfl, ?_, ?_⟩
 ·refine Fresh.imp (P := fun v => DvOwn v (w.heap.size + 3) d L1 ∧ GRow kChk v (w1.heap.size + 1) l2 ds A2 c2) (Fresh.and (Fresh.kp HFR.out ?_ (by omega) (by first | omega | (simp <;> omega))) (Fresh.kp HGR.out ?_ (by omega) (by first | omega | (simp <;> omega)))) (fun v hv => hv.1.devIn.hear HC2.out HL2.out (hv.2.src.chs HBD.out))
  ·repeat (first | exact HK2.out | exact Kp.refl _ _ | refine Kp.row ?_ (by omega) _ | refine Kp.cell ?_ (by first | (show _ < _ ∨ _ ≤ _; omega) | (simp <;> omega)) _ | refine Kp.alloc ?_ (by first | omega | (simp <;> omega)) _)
  ·repeat (first | exact HK2.out | exact Kp.refl _ _ | refine Kp.row ?_ (by omega) _ | refine Kp.cell ?_ (by first | (show _ < _ ∨ _ ≤ _; omega) | (simp <;> omega)) _ | refine Kp.alloc ?_ (by first | omega | (simp <;> omega)) _)
 ·have hs := HB2.out.size
  repeat (first | exact HB2.out | refine bR ?_ _ | refine bC ?_ _ | refine bA ?_ _)
theorem devHear_calls (d : Dev) (L : DLoc) (x : Chk) (B : Option Addr) (e : Nat) (w : World) (h : DevIn w d L) (hx : ChkIn w x B e) : Calls Try.prog 55 #[.agg (devA d L), .agg (chkA x.from_ x.to_ x.n x.of_ B x.data.length e)] w (DvRet w (devHear d x).1 (devHear d x).2) := by
 by_cases hz : devReady d = 0
 ·exact devHear_ok d L x B e w h hx hz
 ·have e1 : devHear d x = (Dev.zero, devReady d) := by unfold devHear; rw [if_pos hz]
  rw [e1]; exact devHear_bad d L x B e w h hx hz
section
open Go.RowKit
end
section
variable {g base : Nat} {w w' w2 : World}
end
theorem cut_bound {p : Pat} {y : Chk} (hy : y ∈ (chkCut p).1) : ChkB y := by
 by_cases h : (chkCut p).2 = 0
 ·have hc := (chkCheck_ok.1 (cut_chunks h y hy))
  obtain ⟨h1, h2⟩ := hc
  unfold Chk.range at h1
  unfold Chk.full at h2
  refine ⟨by omega, ⟨by omega, by omega⟩, ⟨by omega, by omega⟩, ⟨by omega, by omega⟩, ⟨by omega, by omega⟩⟩
 ·exfalso
  unfold chkCut at hy h
  by_cases h1 : patCheck p ≠ 0
  ·rw [if_pos h1] at hy; simp at hy
  ·rw [if_neg h1] at hy h
   split at hy
   ·simp at hy
   ·rename_i h2
    rw [if_neg h2] at h
    exact h rfl
attribute [go_sem] setRow_setRow
theorem write_bad (c d : Cop) (r : Rec) (torn : Bool) (w : World) (h : copCheck c d ≠ 0) : Calls Try.prog 122 #[.agg (copsA c d), .agg (recA r), .bool torn] w (RetB w (.tuple #[.agg (copsA Cop.zero Cop.zero), iv (copCheck c d)])) := by
 have hb : (copCheck c d != 0) = true := by simp [h]
 go_enter Try.func122, Try.ntmps122
 go_wp2_with fail
 refine (read_bad c d _ h).mono ?_
 rintro e w1 ⟨rfl, hb1⟩
 obtain ⟨r0, f0, n0, c0, z0, l0⟩ := keep1 (g := w.heap.size) (cs := copsA c d) hb1 (by go_simp) (by go_simp) (by go_simp)
 obtain ⟨r1, f1, n1, c1, z1, l1⟩ := keep1 (g := w.heap.size + 1) (cs := recA r) hb1 (by go_simp) (by go_simp) (by go_simp)
 obtain ⟨r2, f2, n2, c2, z2, l2⟩ := keep1 (g := w.heap.size + 1 + 1) (cs := copsA Cop.zero Cop.zero) hb1 (by go_simp) (by go_simp) (by go_simp)
 obtain ⟨r3, f3, n3, c3, z3, l3⟩ := keep1 (g := w.heap.size + 1 + 1 + 1) (cs := copsA Cop.zero Cop.zero) hb1 (by go_simp) (by go_simp) (by go_simp)
 have HB := Lib.hid ((((((Below.refl _ _).alloc (Nat.le_refl _) _).alloc (by simp) _).alloc (by simp; omega) _).alloc (by simp; omega) _).trans (hb1.mono (B' := w.heap.size) (by simp; omega)))
 clear hb1 h
 go_wp2_with fail
 refine bodyPost_ret (results_ct rfl rfl (cs := copsA Cop.zero Cop.zero) (by go_simp) (by go_simp) (by go_simp)) rfl ⟨rfl, ?_⟩
 have hs := HB.out.size
 repeat (first | exact HB.out | refine below_row ?_ (by omega) _ | refine Below.setCell ?_ (by simp <;> omega) _ | refine Below.alloc ?_ (by simp <;> omega) _)
theorem write_ok (c d : Cop) (r : Rec) (torn : Bool) (w : World) (h : copCheck c d = 0) : Calls Try.prog 122 #[.agg (copsA c d), .agg (recA r), .bool torn] w
  (RetB w (.tuple #[.agg (copsA (recWrite c d r torn).1.1 (recWrite c d r torn).1.2), iv (recWrite c d r torn).2])) := by
 have hrg := recCheck_range0 (recRead_ok h)
 have hk : (recRead c d).2 = 0 ∨ (recRead c d).2 = 1 := by unfold recRead; split <;> simp
 have hw : recWrite c d r torn = if recCheck { r with gen := (recRead c d).1.gen + 1 } = 0 then (recPut c d r torn, 0) else ((Cop.zero, Cop.zero), recCheck { r with gen := (recRead c d).1.gen + 1 }) := by unfold recWrite; rw [if_pos h]
 have hp : recPut c d r torn = if (recRead c d).2 = 0 then (c, if torn = true then Cop.zero else ⟨true, { r with gen := (recRead c d).1.gen + 1 }⟩) else (if torn = true then Cop.zero else ⟨true, { r with gen := (recRead c d).1.gen + 1 }⟩, d) := rfl
 have hread := read_ok c d
 have hread := fun w => hread w h
 generalize recRead c d = q at *
 obtain ⟨was, k⟩ := q
 simp only at hk hw hp hread hrg
 have HW := Lib.hid hw
 have HP := Lib.hid hp
 have HRd := Lib.hid hread
 have hg1 := hrg.1
 have hg2 := hrg.2.1
 clear hw hp hread hrg h
 go_enter Try.func122, Try.ntmps122
 go_wp2_with fail
 refine (HRd.out _).mono ?_
 rintro e w1 ⟨rfl, hb1⟩
 obtain ⟨r0, f0, n0, c0, z0, l0⟩ := keep1 (g := w.heap.size) (cs := copsA c d) hb1 (by go_simp) (by go_simp) (by go_simp)
 obtain ⟨r1, f1, n1, c1, z1, l1⟩ := keep1 (g := w.heap.size + 1) (cs := recA r) hb1 (by go_simp) (by go_simp) (by go_simp)
 obtain ⟨r2, f2, n2, c2, z2, l2⟩ := keep1 (g := w.heap.size + 1 + 1) (cs := copsA Cop.zero Cop.zero) hb1 (by go_simp) (by go_simp) (by go_simp)
 obtain ⟨r3, f3, n3, c3, z3, l3⟩ := keep1 (g := w.heap.size + 1 + 1 + 1) (cs := copsA Cop.zero Cop.zero) hb1 (by go_simp) (by go_simp) (by go_simp)
 have HB := Lib.hid ((((((Below.refl _ _).alloc (Nat.le_refl _) _).alloc (by simp) _).alloc (by simp; omega) _).alloc (by simp; omega) _).trans (hb1.mono (B' := w.heap.size) (by simp; omega)))
 clear hb1
 go_wp2_with fail
 refine (recCheckA_calls { r with gen := was.gen + 1 } _).mono ?_
 rintro e w2 ⟨rfl, hb2⟩
 obtain ⟨r5, f5, n5, c5, z5, l5⟩ := keep1 (g := w.heap.size) (cs := copsA c d) hb2 (by go_simp) (by go_simp) (by go_simp)
 obtain ⟨r6, f6, n6, c6, z6, l6⟩ := keep1 (g := w.heap.size + 1) (cs := recA { r with gen := was.gen + 1 }) hb2 (by go_simp) (by go_simp) (by go_simp)
 obtain ⟨r7, f7, n7, c7, z7, l7⟩ := keep1 (g := w.heap.size + 1 + 1) (cs := copsA Cop.zero Cop.zero) hb2 (by go_simp) (by go_simp) (by go_simp)
 obtain ⟨r8, f8, n8, c8, z8, l8⟩ := keep1 (g := w.heap.size + 1 + 1 + 1) (cs := copsA Cop.zero Cop.zero) hb2 (by go_simp) (by go_simp) (by go_simp)
 have hs := HB.out.size
 have HB2 : Hid (Below w.heap.size w w2) := ((HB.out.setCell (p := ⟨w.heap.size + 1, 0, none⟩) (by simp) (.int .i64 (was.gen + 1))).alloc (by simp; omega) (.cells (recA was) 66)).trans (hb2.mono (by simp; omega))
 have hs2 := HB2.out.size
 clear hb2 r0 f0 n0 c0 z0 l0 r1 f1 n1 c1 z1 l1 r2 f2 n2 c2 z2 l2 r3 f3 n3 c3 z3 l3 hs
 by_cases hz : recCheck { r with gen := was.gen + 1 } = 0
 ·have hz' : (recCheck { r with gen := was.gen + 1 } != 0) = false := by simp [hz]
  have HE := Lib.hid (HW.out.trans (if_pos hz))
  clear hz HW
  rcases hk with rfl | rfl
  ·have HP2 := Lib.hid (HP.out.trans (if_pos rfl))
   cases torn
   ·go_wp2_with fail
    refine bodyPost_ret (results_ct rfl rfl (cs := copsA c ⟨true, { r with gen := was.gen + 1 }⟩) (by go_simp) (by go_simp) (by first | (go_simp; done) | (go_simp; kernel_rfl))) rfl ⟨by rw [HE.out, HP2.out]; rfl, ?_⟩
    repeat (first | exact HB2.out | refine below_row ?_ (by omega) _ | refine Below.setCell ?_ (by simp <;> omega) _ | refine Below.alloc ?_ (by simp <;> omega) _)
   ·go_wp2_with fail
    refine bodyPost_ret (results_ct rfl rfl (cs := copsA c Cop.zero) (by go_simp) (by go_simp) (by first | (go_simp; done) | (go_simp; kernel_rfl))) rfl ⟨by rw [HE.out, HP2.out]; rfl, ?_⟩
    repeat (first | exact HB2.out | refine below_row ?_ (by omega) _ | refine Below.setCell ?_ (by simp <;> omega) _ | refine Below.alloc ?_ (by simp <;> omega) _)
  ·have HP2 := Lib.hid (HP.out.trans (if_neg (by decide)))
   cases torn
   ·go_wp2_with fail
    refine bodyPost_ret (results_ct rfl rfl (cs := copsA ⟨true, { r with gen := was.gen + 1 }⟩ d) (by go_simp) (by go_simp) (by first | (go_simp; done) | (go_simp; kernel_rfl))) rfl ⟨by rw [HE.out, HP2.out]; rfl, ?_⟩
    repeat (first | exact HB2.out | refine below_row ?_ (by omega) _ | refine Below.setCell ?_ (by simp <;> omega) _ | refine Below.alloc ?_ (by simp <;> omega) _)
   ·go_wp2_with fail
    refine bodyPost_ret (results_ct rfl rfl (cs := copsA Cop.zero d) (by go_simp) (by go_simp) (by first | (go_simp; done) | (go_simp; kernel_rfl))) rfl ⟨by rw [HE.out, HP2.out]; rfl, ?_⟩
    repeat (first | exact HB2.out | refine below_row ?_ (by omega) _ | refine Below.setCell ?_ (by simp <;> omega) _ | refine Below.alloc ?_ (by simp <;> omega) _)
 ·have hz' : (recCheck { r with gen := was.gen + 1 } != 0) = true := by simp [hz]
  have HE := Lib.hid (HW.out.trans (if_neg hz))
  clear hz HW HP hk
  go_wp2_with fail
  refine bodyPost_ret (results_ct rfl rfl (cs := copsA Cop.zero Cop.zero) (by go_simp) (by go_simp) (by first | (go_simp; done) | (go_simp; kernel_rfl))) rfl ⟨by rw [HE.out]; rfl, ?_⟩
  repeat (first | exact HB2.out | refine below_row ?_ (by omega) _ | refine Below.setCell ?_ (by simp <;> omega) _ | refine Below.alloc ?_ (by simp <;> omega) _)
theorem write_calls (c d : Cop) (r : Rec) (torn : Bool) (w : World) : Calls Try.prog 122 #[.agg (copsA c d), .agg (recA r), .bool torn] w
  (RetB w (.tuple #[.agg (copsA (recWrite c d r torn).1.1 (recWrite c d r torn).1.2), iv (recWrite c d r torn).2])) := by
 by_cases h : copCheck c d = 0
 ·exact write_ok c d r torn w h
 ·have e : recWrite c d r torn = ((Cop.zero, Cop.zero), copCheck c d) := by unfold recWrite; rw [if_neg h]
  rw [e]; exact write_bad c d r torn w h
theorem start_calls (r : Rec) (w : World) : Calls Try.prog 125 #[.agg (recA r)] w (RetB w (.tuple #[iv (recStart r).1, .agg (recA (recStart r).2.1), iv (recStart r).2.2])) := by
 go_enter Try.func125, Try.ntmps125
 go_wp2_with fail
 refine (recCheckA_calls r _).mono ?_
 rintro e w1 ⟨rfl, hb1⟩
 obtain ⟨r0, f0, n0, c0, z0, l0⟩ := keep1 (g := w.heap.size) (cs := recA r) hb1 (by go_simp) (by go_simp) (by go_simp)
 obtain ⟨r1, f1, n1, c1, z1, l1⟩ := keep1 (g := w.heap.size + 1) (cs := recA Rec.zero) hb1 (by go_simp) (by go_simp) (by go_simp)
 have HB := Lib.hid ((((Below.refl _ _).alloc (Nat.le_refl _) _).alloc (by simp) _).trans (hb1.mono (B' := w.heap.size) (by simp; omega)))
 have hs := HB.out.size
 clear hb1
 by_cases hz : recCheck r = 0
 ·have hz' : (recCheck r != 0) = false := by simp [hz]
  have hrg := recCheck_range0 hz
  have hg1 := hrg.2.2.1
  have hg2 := hrg.2.2.2.1
  have hg3 := hrg.2.2.2.2.1
  have hg4 := hrg.2.2.2.2.2.1
  cases ht : r.trying
  ·have hE : recStart r = (r.active, r, 0) := by unfold recStart; rw [if_pos hz, if_neg (by simp [ht])]
   have HE := Lib.hid hE
   clear hE hrg hz
   go_wp2_with fail
   go_region
   all_goals (
    go_wp2_with fail
    refine bodyPost_ret (results_tct rfl rfl (cs := recA r) (by go_simp) (by go_simp) (by go_simp)) rfl ⟨by rw [HE.out]; rfl, ?_⟩
    repeat (first | exact HB.out | refine below_row ?_ (by omega) _ | refine Below.setCell ?_ (by simp <;> omega) _ | refine Below.alloc ?_ (by simp <;> omega) _ | refine Below.drew ?_))
  ·by_cases h0 : r.tries = 0
   ·have hE : recStart r = (r.active, { r with trying := false }, 0) := by unfold recStart; rw [if_pos hz, if_pos ht, if_pos h0]
    have h0' : (r.tries == 0) = true := by simp [h0]
    have HE := Lib.hid hE
    clear hE hrg hz h0
    go_wp2_with fail
    go_region
    all_goals (
     go_wp2_with fail
     refine bodyPost_ret (results_tct rfl rfl (cs := recA { r with trying := false }) (by go_simp) (by go_simp) (by go_simp)) rfl ⟨by rw [HE.out]; rfl, ?_⟩
     repeat (first | exact HB.out | refine below_row ?_ (by omega) _ | refine Below.setCell ?_ (by simp <;> omega) _ | refine Below.alloc ?_ (by simp <;> omega) _ | refine Below.drew ?_))
   ·have hE : recStart r = (1 - r.active, { r with tries := r.tries - 1 }, 0) := by unfold recStart; rw [if_pos hz, if_pos ht, if_neg h0]
    have h0' : (r.tries == 0) = false := by simp [h0]
    have HE := Lib.hid hE
    clear hE hrg hz h0
    go_wp2_with fail
    go_region
    all_goals (
     go_wp2_with fail
     refine bodyPost_ret (results_tct rfl rfl (cs := recA { r with tries := r.tries - 1 }) (by go_simp) (by go_simp) (by go_simp)) rfl ⟨by rw [HE.out]; rfl, ?_⟩
     repeat (first | exact HB.out | refine below_row ?_ (by omega) _ | refine Below.setCell ?_ (by simp <;> omega) _ | refine Below.alloc ?_ (by simp <;> omega) _ | refine Below.drew ?_))
 ·have hz' : (recCheck r != 0) = true := by simp [hz]
  have hE : recStart r = (0, Rec.zero, recCheck r) := by unfold recStart; rw [if_neg hz]
  have HE := Lib.hid hE
  clear hE hz
  go_wp2_with fail
  all_goals (
   go_wp2_with fail
   refine bodyPost_ret (results_tct rfl rfl (cs := recA Rec.zero) (by go_simp) (by go_simp) (by go_simp)) rfl ⟨by rw [HE.out]; rfl, ?_⟩
   repeat (first | exact HB.out | refine below_row ?_ (by omega) _ | refine Below.setCell ?_ (by simp <;> omega) _ | refine Below.alloc ?_ (by simp <;> omega) _ | refine Below.drew ?_))
theorem confirm_calls (r : Rec) (w : World) : Calls Try.prog 126 #[.agg (recA r)] w (RetB w (.tuple #[.agg (recA (recConfirm r).1), iv (recConfirm r).2])) := by
 go_enter Try.func126, Try.ntmps126
 go_wp2_with fail
 refine (recCheckA_calls r _).mono ?_
 rintro e w1 ⟨rfl, hb1⟩
 obtain ⟨r0, f0, n0, c0, z0, l0⟩ := keep1 (g := w.heap.size) (cs := recA r) hb1 (by go_simp) (by go_simp) (by go_simp)
 obtain ⟨r1, f1, n1, c1, z1, l1⟩ := keep1 (g := w.heap.size + 1) (cs := recA Rec.zero) hb1 (by go_simp) (by go_simp) (by go_simp)
 have HB := Lib.hid ((((Below.refl _ _).alloc (Nat.le_refl _) _).alloc (by simp) _).trans (hb1.mono (B' := w.heap.size) (by simp; omega)))
 have hs := HB.out.size
 clear hb1
 by_cases hz : recCheck r = 0
 ·have hz' : (recCheck r != 0) = false := by simp [hz]
  have hrg := recCheck_range0 hz
  have hg1 := hrg.2.2.1
  have hg2 := hrg.2.2.2.1
  have hg3 := hrg.2.2.2.2.1
  have hg4 := hrg.2.2.2.2.2.1
  have hg5 := hrg.2.2.2.2.2.2.1
  have hg6 := hrg.2.2.2.2.2.2.2
  cases ht : r.trying
  ·have hE : recConfirm r = (Rec.zero, 5) := by unfold recConfirm; rw [if_pos hz, if_neg (by simp [ht])]
   have HE := Lib.hid hE
   clear hE hrg hz
   go_wp2_with fail
   refine bodyPost_ret (results_ct rfl rfl (cs := recA Rec.zero) (by go_simp) (by go_simp) (by go_simp)) rfl ⟨by rw [HE.out]; rfl, ?_⟩
   repeat (first | exact HB.out | refine below_row ?_ (by omega) _ | refine Below.setCell ?_ (by simp <;> omega) _ | refine Below.alloc ?_ (by simp <;> omega) _ | refine Below.drew ?_)
  ·have hE : recConfirm r = (recDone r, 0) := by unfold recConfirm; rw [if_pos hz, if_pos ht]
   have hk : r.active = 0 ∨ r.active = 1 := by omega
   clear hrg hz
   rcases hk with hk | hk
   ·have HE := Lib.hid (hE.trans (show _ = ((⟨r.gen, 1, false, 0, max r.floor r.b.ver, r.a, r.b⟩ : Rec), (0 : Int)) by unfold recDone Rec.at_; simp [hk]))
    clear hE
    go_wp2_with fail
    go_region
    all_goals go_wp2_with fail
    all_goals (
     refine bodyPost_ret (results_ct rfl rfl (cs := recA ⟨r.gen, 1, false, 0, max r.floor r.b.ver, r.a, r.b⟩) (by first | (go_simp; done) | (go_simp; refine congrArg (fun z => recA ⟨_, _, _, _, z, _, _⟩) ?_ <;> omega)) (by go_simp) (by go_simp)) rfl ⟨by rw [HE.out]; rfl, ?_⟩
     repeat (first | exact HB.out | refine below_row ?_ (by omega) _ | refine Below.setCell ?_ (by simp <;> omega) _ | refine Below.alloc ?_ (by simp <;> omega) _ | refine Below.drew ?_))
   ·have HE := Lib.hid (hE.trans (show _ = ((⟨r.gen, 0, false, 0, max r.floor r.a.ver, r.a, r.b⟩ : Rec), (0 : Int)) by unfold recDone Rec.at_; simp [hk]))
    clear hE
    go_wp2_with fail
    go_region
    all_goals go_wp2_with fail
    all_goals (
     refine bodyPost_ret (results_ct rfl rfl (cs := recA ⟨r.gen, 0, false, 0, max r.floor r.a.ver, r.a, r.b⟩) (by first | (go_simp; done) | (go_simp; refine congrArg (fun z => recA ⟨_, _, _, _, z, _, _⟩) ?_ <;> omega)) (by go_simp) (by go_simp)) rfl ⟨by rw [HE.out]; rfl, ?_⟩
     repeat (first | exact HB.out | refine below_row ?_ (by omega) _ | refine Below.setCell ?_ (by simp <;> omega) _ | refine Below.alloc ?_ (by simp <;> omega) _ | refine Below.drew ?_))
 ·have hz' : (recCheck r != 0) = true := by simp [hz]
  have hE : recConfirm r = (Rec.zero, recCheck r) := by unfold recConfirm; rw [if_neg hz]
  have HE := Lib.hid hE
  clear hE hz
  go_wp2_with fail
  refine bodyPost_ret (results_ct rfl rfl (cs := recA Rec.zero) (by go_simp) (by go_simp) (by go_simp)) rfl ⟨by rw [HE.out]; rfl, ?_⟩
  repeat (first | exact HB.out | refine below_row ?_ (by omega) _ | refine Below.setCell ?_ (by simp <;> omega) _ | refine Below.alloc ?_ (by simp <;> omega) _ | refine Below.drew ?_)
theorem DevIn.cops {d : Dev} {L : DLoc} (h : DevIn w d L) (p q : Cop) : DevIn w { d with c0 := p, c1 := q } L := ⟨h.k0, h.l0, h.b0, h.k1, h.l1, h.b1, h.kg, h.lg, h.got, h.job, h.ir, h.id⟩
theorem devConfirm_bad (d : Dev) (L : DLoc) (w : World) (h : DevIn w d L)  (hne : devReady d ≠ 0) : Calls Try.prog 67 #[.agg (devA d L)] w (DvRet w Dev.zero (devReady d)) := by
 have hba : Below w.heap.size w ((w.alloc (.cells (devA d L) 71)).alloc (.cells (devA Dev.zero DLoc.zero) 71)) := bA (bA (Below.refl _ _) _) _
 have HBA := hD hba
 have HIN := hD h
 have KB := hD (fun w h => ready_bad d L w h hne)
 have q : (devReady d != 0) = true := by simp [hne]
 generalize devReady d = n at *
 clear hne h hba
 go_enter Try.func67, Try.ntmps67
 go_wp2_with fail
 refine (KB.out _ (HIN.out.stays HBA.out)).mono ?_
 rintro e w1 ⟨rfl, hb1⟩
 obtain ⟨a0r, a0f, a0n, a0c, a0z, a0l⟩ := kp (w.heap.size) (devA d L) hb1
 obtain ⟨a1r, a1f, a1n, a1c, a1z, a1l⟩ := kp (w.heap.size + 1) (devA Dev.zero DLoc.zero) hb1
 have HB1 := hD (HBA.out.trans (hb1.mono (by simp <;> omega)))
 clear hb1
 go_wp2_with fail
 refine bodyPost_ret (results_ct rfl rfl (cs := devA Dev.zero DLoc.zero) (by go_simp) (by go_simp) (by go_simp)) rfl ⟨DLoc.zero, rfl, .const fun v => DevIn.zero v, ?_⟩
 have hs := HB1.out.size
 repeat (first | exact HB1.out | refine bR ?_ _ | refine bC ?_ _ | refine bA ?_ _)
theorem devConfirm_ok (d : Dev) (L : DLoc) (w : World) (h : DevIn w d L)  (hz : devReady d = 0) : Calls Try.prog 67 #[.agg (devA d L)] w (DvRet w (devConfirm d).1 (devConfirm d).2) := by
 have hba : Below w.heap.size w ((w.alloc (.cells (devA d L) 71)).alloc (.cells (devA Dev.zero DLoc.zero) 71)) := bA (bA (Below.refl _ _) _) _
 have HBA := hD hba
 have HIN := hD h
 have KR := hD (fun w h => ready_ok d L w h hz)
 have hdef : devConfirm d = if d.running = d.rec_.active then (Dev.zero, 5)
   else if (recConfirm d.rec_).2 ≠ 0 then (Dev.zero, (recConfirm d.rec_).2)
   else if (recWrite d.c0 d.c1 (recConfirm d.rec_).1 false).2 ≠ 0 then (Dev.zero, (recWrite d.c0 d.c1 (recConfirm d.rec_).1 false).2)
   else (d.write (recConfirm d.rec_).1 false, 0) := by unfold devConfirm; rw [if_neg (by omega)]
 have K2 := hD (fun w => confirm_calls d.rec_ w)
 obtain ⟨⟨r2, e2⟩, hq⟩ : ∃ x, recConfirm d.rec_ = x := ⟨_, rfl⟩
 unfold Dev.write at hdef
 rw [hq] at hdef K2
 dsimp only at hdef
 have K3 := hD (fun w => write_calls d.c0 d.c1 r2 false w)
 obtain ⟨⟨⟨p1, p2⟩, e3⟩, hw⟩ : ∃ x, recWrite d.c0 d.c1 r2 false = x := ⟨_, rfl⟩
 rw [hw] at hdef K3
 dsimp only at hdef
 have HD := hD hdef
 generalize devConfirm d = res at *
 clear hz h hba hdef hq hw
 go_enter Try.func67, Try.ntmps67
 go_wp2_with fail
 refine (KR.out _ (HIN.out.stays HBA.out)).mono ?_
 rintro e w1 ⟨L1, rfl, hfr, hb1⟩
 obtain ⟨a0r, a0f, a0n, a0c, a0z, a0l⟩ := kp (w.heap.size) (devA d L) hb1
 obtain ⟨a1r, a1f, a1n, a1c, a1z, a1l⟩ := kp (w.heap.size + 1) (devA Dev.zero DLoc.zero) hb1
 have HFR : Hid (Fresh (w.heap.size + 2) w1 (fun v => DvOwn v (w.heap.size + 2) d L1)) := hD (by simpa [Nat.add_assoc] using hfr)
 have HB1 := hD (HBA.out.trans (hb1.mono (by simp <;> omega)))
 have hsz1 : w.heap.size + 2 ≤ w1.heap.size := by have := hb1.size; simp at this; omega
 have HK1 : Hid (Kp (w.heap.size + 2) w1 w1) := hD (Kp.refl _ _)
 clear hb1 hfr
 by_cases c1 : d.running = d.rec_.active
 ·have hz : res = (Dev.zero, 5) := HD.out.trans (if_pos c1)
  subst hz
  have q : (d.running == d.rec_.active) = true := by simp [c1]
  clear c1
  go_wp2_with fail
  refine bodyPost_ret (results_ct rfl rfl (cs := devA Dev.zero DLoc.zero) (by go_simp) (by go_simp) (by go_simp)) rfl ⟨DLoc.zero, rfl, .const fun v => DevIn.zero v, ?_⟩
  have hs := HB1.out.size
  repeat (first | exact HB1.out | refine bR ?_ _ | refine bC ?_ _ | refine bA ?_ _)
 have q1 : (d.running == d.rec_.active) = false := by simp [c1]
 have HD2 := hD (HD.out.trans (if_neg c1))
 clear c1 HD
 go_wp2_with fail
 refine (K2.out _).mono ?_
 rintro e w2 ⟨rfl, hb⟩
 obtain ⟨a0r, a0f, a0n, a0c, a0z, a0l⟩ := kp (w.heap.size) (devA d L1) hb
 obtain ⟨a1r, a1f, a1n, a1c, a1z, a1l⟩ := kp (w.heap.size + 1) (devA Dev.zero DLoc.zero) hb
 obtain ⟨a2r, a2f, a2n, a2c, a2z, a2l⟩ := kp (w1.heap.size) (recA d.rec_) hb
 have hbs2 := hb.size
 have hsz2 : w1.heap.size ≤ w2.heap.size := by first | omega | (simp at hbs2; omega)
 have HK2 : Hid (Kp (w.heap.size + 2) w1 w2) := hD (by
  refine Kp.below ?_ (by first | omega | (simp <;> omega)) hb
  repeat (first | exact HK1.out | exact Kp.refl _ _ | refine Kp.row ?_ (by omega) _ | refine Kp.cell ?_ (by first | (show _ < _ ∨ _ ≤ _; omega) | (simp <;> omega)) _ | refine Kp.alloc ?_ (by first | omega | (simp <;> omega)) _))
 have HB2 : Hid (Below w.heap.size w w2) := hD (by
  refine Below.trans ?_ (hb.mono (by first | omega | (simp <;> omega)))
  have hs := HB1.out.size
  repeat (first | exact HB1.out | refine bR ?_ _ | refine bC ?_ _ | refine bA ?_ _))
 clear hb hbs2
 by_cases c2 : e2 ≠ 0
 ·have hz : res = (Dev.zero, e2) := HD2.out.trans (if_pos c2)
  subst hz
  have q : (e2 != 0) = true := by simp [c2]
  clear c2
  go_wp2_with fail
  refine bodyPost_ret (results_ct rfl rfl (cs := devA Dev.zero DLoc.zero) (by go_simp) (by go_simp) (by go_simp)) rfl ⟨DLoc.zero, rfl, .const fun v => DevIn.zero v, ?_⟩
  have hs := HB2.out.size
  repeat (first | exact HB2.out | refine bR ?_ _ | refine bC ?_ _ | refine bA ?_ _)
 have c2 := Decidable.not_not.1 c2
 subst c2
 have HD3 := hD (HD2.out.trans (if_neg (by decide)))
 clear HD2
 go_wp2_with fail
 refine (K3.out _).mono ?_
 rintro e w3 ⟨rfl, hb⟩
 obtain ⟨a0r, a0f, a0n, a0c, a0z, a0l⟩ := kp (w.heap.size) (devA d L1) hb
 obtain ⟨a1r, a1f, a1n, a1c, a1z, a1l⟩ := kp (w.heap.size + 1) (devA Dev.zero DLoc.zero) hb
 have hbs3 := hb.size
 have hsz3 : w1.heap.size ≤ w3.heap.size := by first | omega | (simp at hbs3; omega)
 have HK3 : Hid (Kp (w.heap.size + 2) w1 w3) := hD (by
  refine Kp.below ?_ (by first | omega | (simp <;> omega)) hb
  repeat (first | exact HK2.out | exact Kp.refl _ _ | refine Kp.row ?_ (by omega) _ | refine Kp.cell ?_ (by first | (show _ < _ ∨ _ ≤ _; omega) | (simp <;> omega)) _ | refine Kp.alloc ?_ (by first | omega | (simp <;> omega)) _))
 have HB3 : Hid (Below w.heap.size w w3) := hD (by
  refine Below.trans ?_ (hb.mono (by first | omega | (simp <;> omega)))
  have hs := HB2.out.size
  repeat (first | exact HB2.out | refine bR ?_ _ | refine bC ?_ _ | refine bA ?_ _))
 clear hb hbs3
 by_cases c3 : e3 ≠ 0
 ·have hz : res = (Dev.zero, e3) := HD3.out.trans (if_pos c3)
  subst hz
  have q : (e3 != 0) = true := by simp [c3]
  clear c3
  go_wp2_with fail
  refine bodyPost_ret (results_ct rfl rfl (cs := devA Dev.zero DLoc.zero) (by go_simp) (by go_simp) (by go_simp)) rfl ⟨DLoc.zero, rfl, .const fun v => DevIn.zero v, ?_⟩
  have hs := HB3.out.size
  repeat (first | exact HB3.out | refine bR ?_ _ | refine bC ?_ _ | refine bA ?_ _)
 have c3 := Decidable.not_not.1 c3
 subst c3
 have hz : res = ({ d with c0 := p1, c1 := p2 }, 0) := HD3.out.trans (if_neg (by decide))
 subst hz
 go_wp2_with fail
 refine bodyPost_ret (results_ct rfl rfl (cs := devA { d with c0 := p1, c1 := p2 } L1) (by go_simp) (by go_simp) (by go_simp)) rfl ⟨L1, rfl, ?_, ?_⟩
 ·refine Fresh.imp (P := fun v => DvOwn v (w.heap.size + 2) d L1) (Fresh.kp HFR.out ?_ (by omega) (by first | omega | (simp <;> omega))) (fun v hv => hv.devIn.cops p1 p2)
  repeat (first | exact HK3.out | exact Kp.refl _ _ | refine Kp.row ?_ (by omega) _ | refine Kp.cell ?_ (by first | (show _ < _ ∨ _ ≤ _; omega) | (simp <;> omega)) _ | refine Kp.alloc ?_ (by first | omega | (simp <;> omega)) _)
 ·have hs := HB3.out.size
  repeat (first | exact HB3.out | refine bR ?_ _ | refine bC ?_ _ | refine bA ?_ _)
theorem devConfirm_calls (d : Dev) (L : DLoc) (w : World) (h : DevIn w d L) : Calls Try.prog 67 #[.agg (devA d L)] w (DvRet w (devConfirm d).1 (devConfirm d).2) := by
 by_cases hz : devReady d = 0
 ·exact devConfirm_ok d L w h hz
 ·have e : devConfirm d = (Dev.zero, devReady d) := by unfold devConfirm; rw [if_pos hz]
  rw [e]; exact devConfirm_bad d L w h hz
end Go.Proofs.Ytefkfglkpebbmac
