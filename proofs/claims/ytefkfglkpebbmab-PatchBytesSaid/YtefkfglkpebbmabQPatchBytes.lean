/- The walk of the law PatchBytes. Printed by gen_patchbytes.py. No conditions. -/
import Derived.Test.YtefkfglkpebbmabQPatched
import Derived.Test.YtefkfglkpebbmabQBase
import Derived.Test.YtefkfglkpebbmabQRefPatRead
import Derived.Test.YtefkfglkpebbmabQRefPatSame
import Derived.Test.YtefkfglkpebbmabQEqB
import Derived.Test.YtefkfglkpebbmabQAux
namespace Go.Proofs.Ytefkfglkpebbmab
open Go.RowKit
set_option linter.unusedVariables false
set_option linter.unusedSimpArgs false

theorem unRet_nil {w : World} {n : Int} {e : Ending} {w' : World} (h : RetB w (.tuple #[.slice none 0 0, iv n]) e w') : UnRet w ([], n) e w' :=
  ⟨none, 0, h.1, Own.nil_ _ _ _ _, h.2⟩
theorem patPutAny_calls (B : Option Addr) (d : Nat) (p : Pat) (w : World) (hp : PatIn w p B d) :
    Calls Try.prog 37 #[.agg (patA p.from_ p.to_ p.old p.new_ p.size B p.ops.length d)] w (UnRet w (patPut p)) := by
  unfold patPut
  by_cases h : patCheck p = 0
  · rw [if_neg (by simpa using h)]; exact patPut_ok B d p w hp h
  · rw [if_pos h]; exact (patPut_bad B d p w hp h).mono fun _ _ => unRet_nil
theorem refPatPutAny_calls (B : Option Addr) (d : Nat) (p : Pat) (w : World) (hp : PatIn w p B d) :
    Calls Try.prog 39 #[.agg (patA p.from_ p.to_ p.old p.new_ p.size B p.ops.length d)] w (UnRet w (patPut p)) := by
  unfold patPut
  by_cases h : patCheck p = 0
  · rw [if_neg (by simpa using h)]; exact refPatPut_ok B d p w hp h
  · rw [if_pos h]; exact (refPatPut_bad B d p w hp h).mono fun _ _ => unRet_nil
theorem refPatSame_calls (A B : Option Addr) (c d : Nat) (p q : Pat) (w : World) (hp : PatIn w p A c) (hq : PatIn w q B d) :
    Calls Try.prog 42 #[.agg (patA p.from_ p.to_ p.old p.new_ p.size A p.ops.length c), .agg (patA q.from_ q.to_ q.old q.new_ q.size B q.ops.length d)] w (RetB w (.bool (decide (p = q)))) :=
  refPatSameA_calls A B c d p.from_ p.to_ p.old p.new_ p.size q.from_ q.to_ q.old q.new_ q.size p.ops q.ops w hp.len hq.len hp.ops hq.ops
set_option maxRecDepth 100000 in
set_option maxHeartbeats 8000000 in
theorem PatchBytes_walk (W : World) (v0 v1 : Value) (p : Pat) (b : List UInt8) (g0 : ArgPat W v0 p) (g1 : ArgBytes W v1 b) :
    Calls Try.prog 12 #[v0, v1] W (RetB W (.bool true)) := by
  obtain ⟨P, cp, rfl, hp⟩ := g0
  obtain ⟨B, cb, rfl, hcb, hlb, hB⟩ := g1
  rw [patC_eq]
  have HP := Lib.hid hp
  have HBB := Lib.hid hB
  have K1 := Lib.hid (fun w h => patPutAny_calls P cp p w h)
  have K2 := Lib.hid (fun w h => patRead_calls B cb b w hcb h)
  have K3 := Lib.hid (fun w h => refPatPutAny_calls P cp p w h)
  have K4 := Lib.hid (fun w h => refPatRead_calls B cb b w hcb h)
  clear hp hB
  obtain ⟨x, e1, hx⟩ : ∃ x e1, patPut p = (x, e1) := ⟨_, _, rfl⟩
  obtain ⟨y, f1, hy⟩ : ∃ y f1, patRead b = (y, f1) := ⟨_, _, rfl⟩
  rw [hx] at K1 K3
  rw [hy] at K2 K4
  have z1 : (e1 == e1) = true := by simp
  have z2 : (f1 == f1) = true := by simp
  clear hx hy
  go_enter Try.func12, Try.ntmps12
  go_wp2_with fail
  refine (K1.out _ (HP.out.stays (by repeat (first | exact Below.refl _ _ | refine Below.alloc ?_ (by first | omega | (simp <;> omega)) _)))).mono ?_
  rintro e w1 ⟨A1, c1, rfl, ho, hb⟩
  obtain ⟨a0r, a0f, a0n, a0c, a0z, a0l⟩ := keep1 (g := W.heap.size) (cs := patA p.from_ p.to_ p.old p.new_ p.size P p.ops.length cp) hb (by first | (go_simp; done) | (go_simp; rfl)) (by go_simp) (by go_simp)
  have hbx : Below W.heap.size W w1 := Below.trans (by repeat (first | exact Below.refl _ _ | refine Below.alloc ?_ (by first | omega | (simp <;> omega)) _)) (hb.mono (by first | omega | (simp <;> omega)))
  have HB1 : Hid (Below W.heap.size W w1) := Lib.hid (hbx)
  have hx1 := Lib.hid ho.src.bts
  have hc1 := ho.le
  clear ho
  dsimp only at hc1
  clear hb hbx 
  go_wp2_with fail
  refine (K2.out _ (HBB.out.stays (by have hs := HB1.out.size; repeat (first | exact HB1.out | refine Below.alloc ?_ (by first | omega | (simp <;> omega)) _)))).mono ?_
  rintro e w2 ⟨A2, c2, rfl, hy, hb⟩
  obtain ⟨a0r, a0f, a0n, a0c, a0z, a0l⟩ := keep1 (g := W.heap.size) (cs := patA p.from_ p.to_ p.old p.new_ p.size P p.ops.length cp) hb (by first | (go_simp; done) | (go_simp; rfl)) (by go_simp) (by go_simp)
  have hbx : Below w1.heap.size w1 w2 := Below.trans (by repeat (first | exact Below.refl _ _ | refine Below.alloc ?_ (by first | omega | (simp <;> omega)) _)) (hb.mono (by first | omega | (simp <;> omega)))
  have HB2 : Hid (Below W.heap.size W w2) := Lib.hid (HB1.out.trans (hbx.mono HB1.out.size))
  have HX2 := Lib.hid (hx1.out.stays hbx)
  have hy2 := Lib.hid hy.now
  clear hy
  clear hb hbx 
  go_wp2_with fail
  refine (K3.out _ (HP.out.stays (by have hs := HB2.out.size; repeat (first | exact HB2.out | refine Below.alloc ?_ (by first | omega | (simp <;> omega)) _)))).mono ?_
  rintro e w3 ⟨A3, c3, rfl, ho, hb⟩
  obtain ⟨a0r, a0f, a0n, a0c, a0z, a0l⟩ := keep1 (g := W.heap.size) (cs := patA p.from_ p.to_ p.old p.new_ p.size P p.ops.length cp) hb (by first | (go_simp; done) | (go_simp; rfl)) (by go_simp) (by go_simp)
  obtain ⟨a1r, a1f, a1n, a1c, a1z, a1l⟩ := keep1 (g := w2.heap.size) (cs := patA y.from_ y.to_ y.old y.new_ y.size A2 y.ops.length c2) hb (by first | (go_simp; done) | (go_simp; rfl)) (by go_simp) (by go_simp)
  have hbx : Below w2.heap.size w2 w3 := Below.trans (by repeat (first | exact Below.refl _ _ | refine Below.alloc ?_ (by first | omega | (simp <;> omega)) _)) (hb.mono (by first | omega | (simp <;> omega)))
  have HB3 : Hid (Below W.heap.size W w3) := Lib.hid (HB2.out.trans (hbx.mono HB2.out.size))
  have HX3 := Lib.hid (HX2.out.stays hbx)
  have HY3 := Lib.hid (hy2.out.stays hbx)
  have hx3 := Lib.hid ho.src.bts
  have hc3 := ho.le
  clear ho
  dsimp only at hc3
  clear hb hbx 
  go_wp2_with fail
  refine (K4.out _ (HBB.out.stays (by have hs := HB3.out.size; repeat (first | exact HB3.out | refine Below.alloc ?_ (by first | omega | (simp <;> omega)) _)))).mono ?_
  rintro e w4 ⟨A4, c4, rfl, hy, hb⟩
  obtain ⟨a0r, a0f, a0n, a0c, a0z, a0l⟩ := keep1 (g := W.heap.size) (cs := patA p.from_ p.to_ p.old p.new_ p.size P p.ops.length cp) hb (by first | (go_simp; done) | (go_simp; rfl)) (by go_simp) (by go_simp)
  obtain ⟨a1r, a1f, a1n, a1c, a1z, a1l⟩ := keep1 (g := w2.heap.size) (cs := patA y.from_ y.to_ y.old y.new_ y.size A2 y.ops.length c2) hb (by first | (go_simp; done) | (go_simp; rfl)) (by go_simp) (by go_simp)
  have hbx : Below w3.heap.size w3 w4 := Below.trans (by repeat (first | exact Below.refl _ _ | refine Below.alloc ?_ (by first | omega | (simp <;> omega)) _)) (hb.mono (by first | omega | (simp <;> omega)))
  have HB4 : Hid (Below W.heap.size W w4) := Lib.hid (HB3.out.trans (hbx.mono HB3.out.size))
  have HX4 := Lib.hid (HX3.out.stays hbx)
  have HY4 := Lib.hid (HY3.out.stays hbx)
  have HU4 := Lib.hid (hx3.out.stays hbx)
  have HV4 := Lib.hid hy
  clear hb hbx hy
  go_wp2_with fail
  refine (patched_calls _).mono ?_
  rintro e w5 ⟨rfl, hb⟩
  obtain ⟨a0r, a0f, a0n, a0c, a0z, a0l⟩ := keep1 (g := W.heap.size) (cs := patA p.from_ p.to_ p.old p.new_ p.size P p.ops.length cp) hb (by first | (go_simp; done) | (go_simp; rfl)) (by go_simp) (by go_simp)
  obtain ⟨a1r, a1f, a1n, a1c, a1z, a1l⟩ := keep1 (g := w2.heap.size) (cs := patA y.from_ y.to_ y.old y.new_ y.size A2 y.ops.length c2) hb (by first | (go_simp; done) | (go_simp; rfl)) (by go_simp) (by go_simp)
  obtain ⟨a2r, a2f, a2n, a2c, a2z, a2l⟩ := keep1 (g := w4.heap.size) (cs := patA y.from_ y.to_ y.old y.new_ y.size A4 y.ops.length c4) hb (by first | (go_simp; done) | (go_simp; rfl)) (by go_simp) (by go_simp)
  have hbx : Below w4.heap.size w4 w5 := Below.trans (by repeat (first | exact Below.refl _ _ | refine Below.alloc ?_ (by first | omega | (simp <;> omega)) _)) (hb.mono (by first | omega | (simp <;> omega)))
  have HB5 : Hid (Below W.heap.size W w5) := Lib.hid (HB4.out.trans (hbx.mono HB4.out.size))
  have HX5 := Lib.hid (HX4.out.stays hbx)
  have HY5 := Lib.hid (HY4.out.stays hbx)
  have HU5 := Lib.hid (HU4.out.stays hbx)
  have HV5 := Lib.hid (HV4.out.stays hbx)
  clear hb hbx 
  go_wp2_with fail
  refine (eqB_calls rfl rfl hc1 hc3 (HX5.out.stays (by repeat (first | exact Below.refl _ _ | refine Below.alloc ?_ (by first | omega | (simp <;> omega)) _))) (HU5.out.stays (by repeat (first | exact Below.refl _ _ | refine Below.alloc ?_ (by first | omega | (simp <;> omega)) _))) (decide_eq_true rfl)).mono ?_
  rintro e u1 ⟨rfl, rfl⟩
  go_wp2_with fail
  refine (refPatSame_calls _ _ _ _ y y _ (HY5.out.stays (by repeat (first | exact Below.refl _ _ | refine Below.alloc ?_ (by first | omega | (simp <;> omega)) _))) (HV5.out.stays (by repeat (first | exact Below.refl _ _ | refine Below.alloc ?_ (by first | omega | (simp <;> omega)) _)))).mono ?_
  rintro e w6 ⟨rfl, hb⟩
  obtain ⟨a0r, a0f, a0n, a0c, a0z, a0l⟩ := keep1 (g := W.heap.size) (cs := patA p.from_ p.to_ p.old p.new_ p.size P p.ops.length cp) hb (by first | (go_simp; done) | (go_simp; rfl)) (by go_simp) (by go_simp)
  obtain ⟨a1r, a1f, a1n, a1c, a1z, a1l⟩ := keep1 (g := w2.heap.size) (cs := patA y.from_ y.to_ y.old y.new_ y.size A2 y.ops.length c2) hb (by first | (go_simp; done) | (go_simp; rfl)) (by go_simp) (by go_simp)
  obtain ⟨a2r, a2f, a2n, a2c, a2z, a2l⟩ := keep1 (g := w4.heap.size) (cs := patA y.from_ y.to_ y.old y.new_ y.size A4 y.ops.length c4) hb (by first | (go_simp; done) | (go_simp; rfl)) (by go_simp) (by go_simp)
  have hbx : Below w5.heap.size w5 w6 := Below.trans (by repeat (first | exact Below.refl _ _ | refine Below.alloc ?_ (by first | omega | (simp <;> omega)) _)) (hb.mono (by first | omega | (simp <;> omega)))
  have HB6 : Hid (Below W.heap.size W w6) := Lib.hid (HB5.out.trans (hbx.mono HB5.out.size))
  have HX6 := Lib.hid (HX5.out.stays hbx)
  have HY6 := Lib.hid (HY5.out.stays hbx)
  have HU6 := Lib.hid (HU5.out.stays hbx)
  have HV6 := Lib.hid (HV5.out.stays hbx)
  clear hb hbx 
  go_wp2_with fail
  go_ret
  refine ⟨ret_bool (by simp), ?_⟩
  have hs := HB6.out.size
  repeat (first | exact HB6.out | refine Below.alloc ?_ (by first | omega | (simp <;> omega)) _)
end Go.Proofs.Ytefkfglkpebbmab
