/- The walk of the law PatchSays. Printed by gen_patchsays.py. Condition: the library's own variable holds some number. -/
import Derived.Test.YtefkfglkpebbmacQPatched
import Derived.Test.YtefkfglkpebbmacQBase
import Derived.Test.YtefkfglkpebbmacQRefDone
import Derived.Test.YtefkfglkpebbmacQRefMade
import Derived.Test.YtefkfglkpebbmacQRefPatSame
import Derived.Test.YtefkfglkpebbmacQEqB
namespace Go.Proofs.Ytefkfglkpebbmac
open Go.RowKit
set_option linter.unusedVariables false
set_option linter.unusedSimpArgs false

theorem refPatSameS_calls (A B : Option Addr) (c d : Nat) (p q : Pat) (w : World) (hp : PatIn w p A c) (hq : PatIn w q B d) :
    Calls Try.prog 32 #[.agg (patA p.from_ p.to_ p.old p.new_ p.size A p.ops.length c), .agg (patA q.from_ q.to_ q.old q.new_ q.size B q.ops.length d)] w (RetB w (.bool (decide (p = q)))) :=
  refPatSameA_calls A B c d p.from_ p.to_ p.old p.new_ p.size q.from_ q.to_ q.old q.new_ q.size p.ops q.ops w hp.len hq.len hp.ops hq.ops
theorem patCheckP_calls (A : Option Addr) (c : Nat) (p : Pat) (w : World) (hp : PatIn w p A c) :
    Calls Try.prog 29 #[.agg (patA p.from_ p.to_ p.old p.new_ p.size A p.ops.length c)] w (RetB w (iv (patCheck p))) := patCheck_calls A c p.from_ p.to_ p.old p.new_ p.size p.ops w hp.len hp.ops
theorem refPatCheckP_calls (A : Option Addr) (c : Nat) (p : Pat) (w : World) (hp : PatIn w p A c) :
    Calls Try.prog 30 #[.agg (patA p.from_ p.to_ p.old p.new_ p.size A p.ops.length c)] w (RetB w (iv (patCheck p))) := refPatCheck_calls A c p.from_ p.to_ p.old p.new_ p.size p.ops w hp.len hp.ops
set_option maxRecDepth 100000 in
set_option maxHeartbeats 8000000 in
theorem PatchSays_walk (W : World) (v0 v1 v2 v3 v4 v5 : Value) (p : Pat) (old b : List UInt8) (fr to_ : Int) (q : Pat) (g0 : ArgPat W v0 p) (g1 : ArgBytes W v1 old) (g2 : ArgBytes W v2 b) (g3 : ArgInt v3 fr) (g4 : ArgInt v4 to_) (g5 : ArgPat W v5 q) (hml : ML W) :
    Calls Try.prog 4 #[v0, v1, v2, v3, v4, v5] W (RetB W (.bool true)) := by
  obtain ⟨P, cp, rfl, hp⟩ := g0
  obtain ⟨O, co, rfl, hco, hlo, hO⟩ := g1
  obtain ⟨B, cb, rfl, hcb, hlb, hB⟩ := g2
  obtain ⟨rfl, hf⟩ := g3
  obtain ⟨rfl, ht⟩ := g4
  obtain ⟨Q, cq, rfl, hq⟩ := g5
  rw [patC_eq, patC_eq]
  have HP := Lib.hid hp
  have HQ := Lib.hid hq
  have HO := Lib.hid hO
  have HBB := Lib.hid hB
  have HML := Lib.hid hml
  have K1 := Lib.hid (fun w h1 h2 => patMake_calls O B co cb fr to_ old b w hf ht hlo hlb h1 h2)
  have K2 := Lib.hid (fun w h1 h2 => patDo_calls P O cp co p old w hco hlo h1 h2)
  have K3 := Lib.hid (fun w hm h1 h2 => refMade_calls O B co cb fr to_ old b w hm hco hcb hf ht hlo hlb h1 h2)
  have K4 := Lib.hid (fun w h1 h2 => refDone_calls P O cp co p old w hco hlo h1 h2)
  have K5 := Lib.hid (fun w h => patCheckP_calls P cp p w h)
  have K6 := Lib.hid (fun w h => refPatCheckP_calls P cp p w h)
  have K7 := Lib.hid (fun w h1 h2 => patSame_calls P Q cp cq p q w h1 h2)
  have K8 := Lib.hid (fun w h1 h2 => refPatSameS_calls P Q cp cq p q w h1 h2)
  clear hp hq hO hB hml hf ht
  obtain ⟨x, e1, hx⟩ : ∃ x e1, patMake (sumOn 1) fr to_ old b = (x, e1) := ⟨_, _, rfl⟩
  obtain ⟨y, f1, hy⟩ : ∃ y f1, patDo (sumOn 1) p old = (y, f1) := ⟨_, _, rfl⟩
  rw [hx] at K1 K3
  rw [hy] at K2 K4
  dsimp only at K1 K2 K3 K4
  generalize patCheck p = ck at *
  generalize decide (p = q) = sm at *
  have z4 : (sm == sm) = true := by simp
  clear hx hy
  go_enter Try.func4, Try.ntmps4
  go_wp2_with fail
  refine (K1.out _ (HO.out.stays (by repeat (first | exact Below.refl _ _ | refine Below.alloc ?_ (by first | omega | (simp <;> omega)) _))) (HBB.out.stays (by repeat (first | exact Below.refl _ _ | refine Below.alloc ?_ (by first | omega | (simp <;> omega)) _)))).mono ?_
  rintro e w1 ⟨A1, c1, rfl, hx, hb⟩
  obtain ⟨a0r, a0f, a0n, a0c, a0z, a0l⟩ := keep1 (g := W.heap.size) (cs := patA p.from_ p.to_ p.old p.new_ p.size P p.ops.length cp) hb (by first | (go_simp; done) | (go_simp; rfl)) (by go_simp) (by go_simp)
  obtain ⟨a1r, a1f, a1n, a1c, a1z, a1l⟩ := keep1 (g := W.heap.size + 1) (cs := patA q.from_ q.to_ q.old q.new_ q.size Q q.ops.length cq) hb (by first | (go_simp; done) | (go_simp; rfl)) (by go_simp) (by go_simp)
  have hbx : Below W.heap.size W w1 := Below.trans (by repeat (first | exact Below.refl _ _ | refine Below.alloc ?_ (by first | omega | (simp <;> omega)) _)) (hb.mono (by first | omega | (simp <;> omega)))
  have HB1 : Hid (Below W.heap.size W w1) := Lib.hid (hbx)
  have hx1 := Lib.hid hx.now
  clear hx
  clear hb hbx 
  go_wp2_with fail
  refine (K2.out _ (HO.out.stays (by have hs := HB1.out.size; repeat (first | exact HB1.out | refine Below.alloc ?_ (by first | omega | (simp <;> omega)) _))) (HP.out.stays (by have hs := HB1.out.size; repeat (first | exact HB1.out | refine Below.alloc ?_ (by first | omega | (simp <;> omega)) _)))).mono ?_
  rintro e w2 ⟨A2, c2, rfl, hy, hc2, hb⟩
  obtain ⟨a0r, a0f, a0n, a0c, a0z, a0l⟩ := keep1 (g := W.heap.size) (cs := patA p.from_ p.to_ p.old p.new_ p.size P p.ops.length cp) hb (by first | (go_simp; done) | (go_simp; rfl)) (by go_simp) (by go_simp)
  obtain ⟨a1r, a1f, a1n, a1c, a1z, a1l⟩ := keep1 (g := W.heap.size + 1) (cs := patA q.from_ q.to_ q.old q.new_ q.size Q q.ops.length cq) hb (by first | (go_simp; done) | (go_simp; rfl)) (by go_simp) (by go_simp)
  obtain ⟨a2r, a2f, a2n, a2c, a2z, a2l⟩ := keep1 (g := w1.heap.size) (cs := patA x.from_ x.to_ x.old x.new_ x.size A1 x.ops.length c1) hb (by first | (go_simp; done) | (go_simp; rfl)) (by go_simp) (by go_simp)
  have hbx : Below w1.heap.size w1 w2 := Below.trans (by repeat (first | exact Below.refl _ _ | refine Below.alloc ?_ (by first | omega | (simp <;> omega)) _)) (hb.mono (by first | omega | (simp <;> omega)))
  have HB2 : Hid (Below W.heap.size W w2) := Lib.hid (HB1.out.trans (hbx.mono HB1.out.size))
  have HX2 := Lib.hid (hx1.out.stays hbx)
  have HY2 := Lib.hid hy
  clear hb hbx hy
  go_wp2_with fail
  refine (K3.out _ (HML.out.stays (by have hs := HB2.out.size; repeat (first | exact HB2.out | refine Below.alloc ?_ (by first | omega | (simp <;> omega)) _))) (HO.out.stays (by have hs := HB2.out.size; repeat (first | exact HB2.out | refine Below.alloc ?_ (by first | omega | (simp <;> omega)) _))) (HBB.out.stays (by have hs := HB2.out.size; repeat (first | exact HB2.out | refine Below.alloc ?_ (by first | omega | (simp <;> omega)) _)))).mono ?_
  rintro e w3 ⟨A3, c3, rfl, hx, hb⟩
  obtain ⟨a0r, a0f, a0n, a0c, a0z, a0l⟩ := keep1 (g := W.heap.size) (cs := patA p.from_ p.to_ p.old p.new_ p.size P p.ops.length cp) hb (by first | (go_simp; done) | (go_simp; rfl)) (by go_simp) (by go_simp)
  obtain ⟨a1r, a1f, a1n, a1c, a1z, a1l⟩ := keep1 (g := W.heap.size + 1) (cs := patA q.from_ q.to_ q.old q.new_ q.size Q q.ops.length cq) hb (by first | (go_simp; done) | (go_simp; rfl)) (by go_simp) (by go_simp)
  obtain ⟨a2r, a2f, a2n, a2c, a2z, a2l⟩ := keep1 (g := w1.heap.size) (cs := patA x.from_ x.to_ x.old x.new_ x.size A1 x.ops.length c1) hb (by first | (go_simp; done) | (go_simp; rfl)) (by go_simp) (by go_simp)
  have hbx : Below w2.heap.size w2 w3 := Below.trans (by repeat (first | exact Below.refl _ _ | refine Below.alloc ?_ (by first | omega | (simp <;> omega)) _)) (hb.mono (by first | omega | (simp <;> omega)))
  have HB3 : Hid (Below W.heap.size W w3) := Lib.hid (HB2.out.trans (hbx.mono HB2.out.size))
  have HX3 := Lib.hid (HX2.out.stays hbx)
  have HY3 := Lib.hid (HY2.out.stays hbx)
  have hx3 := Lib.hid hx.now
  clear hx
  clear hb hbx 
  go_wp2_with fail
  refine (K4.out _ (HO.out.stays (by have hs := HB3.out.size; repeat (first | exact HB3.out | refine Below.alloc ?_ (by first | omega | (simp <;> omega)) _))) (HP.out.stays (by have hs := HB3.out.size; repeat (first | exact HB3.out | refine Below.alloc ?_ (by first | omega | (simp <;> omega)) _)))).mono ?_
  rintro e w4 ⟨A4, c4, rfl, hy, hc4, hb⟩
  obtain ⟨a0r, a0f, a0n, a0c, a0z, a0l⟩ := keep1 (g := W.heap.size) (cs := patA p.from_ p.to_ p.old p.new_ p.size P p.ops.length cp) hb (by first | (go_simp; done) | (go_simp; rfl)) (by go_simp) (by go_simp)
  obtain ⟨a1r, a1f, a1n, a1c, a1z, a1l⟩ := keep1 (g := W.heap.size + 1) (cs := patA q.from_ q.to_ q.old q.new_ q.size Q q.ops.length cq) hb (by first | (go_simp; done) | (go_simp; rfl)) (by go_simp) (by go_simp)
  obtain ⟨a2r, a2f, a2n, a2c, a2z, a2l⟩ := keep1 (g := w1.heap.size) (cs := patA x.from_ x.to_ x.old x.new_ x.size A1 x.ops.length c1) hb (by first | (go_simp; done) | (go_simp; rfl)) (by go_simp) (by go_simp)
  obtain ⟨a3r, a3f, a3n, a3c, a3z, a3l⟩ := keep1 (g := w3.heap.size) (cs := patA x.from_ x.to_ x.old x.new_ x.size A3 x.ops.length c3) hb (by first | (go_simp; done) | (go_simp; rfl)) (by go_simp) (by go_simp)
  have hbx : Below w3.heap.size w3 w4 := Below.trans (by repeat (first | exact Below.refl _ _ | refine Below.alloc ?_ (by first | omega | (simp <;> omega)) _)) (hb.mono (by first | omega | (simp <;> omega)))
  have HB4 : Hid (Below W.heap.size W w4) := Lib.hid (HB3.out.trans (hbx.mono HB3.out.size))
  have HX4 := Lib.hid (HX3.out.stays hbx)
  have HY4 := Lib.hid (HY3.out.stays hbx)
  have HU4 := Lib.hid (hx3.out.stays hbx)
  have HV4 := Lib.hid hy
  clear hb hbx hy
  go_wp2_with fail
  have R6 : rowOf w4.drew (W.heap.size) = patA p.from_ p.to_ p.old p.new_ p.size P p.ops.length cp := by first | (go_simp; done) | (go_simp; intro he; exfalso; omega)
  have F6 : frOf w4.drew (W.heap.size) = (0, 0) := by first | (go_simp; done) | (go_simp; intro he; exfalso; omega)
  have R11 : rowOf w4.drew (W.heap.size + 1) = patA q.from_ q.to_ q.old q.new_ q.size Q q.ops.length cq := by first | (go_simp; done) | (go_simp; intro he; exfalso; omega)
  have F11 : frOf w4.drew (W.heap.size + 1) = (0, 0) := by first | (go_simp; done) | (go_simp; intro he; exfalso; omega)
  have R13 : rowOf w4.drew (w1.heap.size) = patA x.from_ x.to_ x.old x.new_ x.size A1 x.ops.length c1 := by first | (go_simp; done) | (go_simp; intro he; exfalso; omega)
  have F13 : frOf w4.drew (w1.heap.size) = (0, 0) := by first | (go_simp; done) | (go_simp; intro he; exfalso; omega)
  have R17 : rowOf w4.drew (w3.heap.size) = patA x.from_ x.to_ x.old x.new_ x.size A3 x.ops.length c3 := by first | (go_simp; done) | (go_simp; intro he; exfalso; omega)
  have F17 : frOf w4.drew (w3.heap.size) = (0, 0) := by first | (go_simp; done) | (go_simp; intro he; exfalso; omega)
  have hd4 : ∀ wq, Below w4.drew.heap.size w4.drew wq → Below w4.heap.size w4 wq := fun wq h => (Below.refl w4.heap.size w4).drew.trans h
  have HD4 := Lib.hid hd4
  clear hd4
  refine wp_region_chain (by kernel_rfl) (some 49 :: some 50 :: some 51 :: some 52 :: some 53 :: some 54 :: some 55 :: some 56 :: some 57 :: some 58 :: some 59 :: some 60 :: some 61 :: some 62 :: some 63 :: some 64 :: some 65 :: some 66 :: some 67 :: some 68 :: some 69 :: some 70 :: some 71 :: some 72 :: some 73 :: some 74 :: some 75 :: some 76 :: some 77 :: some 78 :: some 79 :: some 80 :: some 81 :: some 82 :: some 83 :: some 84 :: some 85 :: some 12 :: []) (.bool true :: .bool true :: .agg (patA p.from_ p.to_ p.old p.new_ p.size P p.ops.length cp) :: iv ck :: .agg (patA p.from_ p.to_ p.old p.new_ p.size P p.ops.length cp) :: iv ck :: .bool true :: .bool true :: .bool true :: .agg (patA p.from_ p.to_ p.old p.new_ p.size P p.ops.length cp) :: .agg (patA q.from_ q.to_ q.old q.new_ q.size Q q.ops.length cq) :: .bool sm :: .agg (patA p.from_ p.to_ p.old p.new_ p.size P p.ops.length cp) :: .agg (patA q.from_ q.to_ q.old q.new_ q.size Q q.ops.length cq) :: .bool sm :: .bool true :: .bool true :: .bool true :: iv e1 :: iv e1 :: .bool true :: .bool true :: .bool true :: .agg (patA x.from_ x.to_ x.old x.new_ x.size A1 x.ops.length c1) :: .agg (patA x.from_ x.to_ x.old x.new_ x.size A3 x.ops.length c3) :: .bool true :: .bool true :: .bool true :: iv f1 :: iv f1 :: .bool true :: .bool true :: .bool true :: .slice A2 y.length c2 :: .slice A4 y.length c4 :: .bool true :: .bool true :: .bool true :: []) 86 rfl rfl (by decide +kernel) (by decide +kernel) (by decide +kernel) rfl ?_ ?_
  · refine ⟨.inl ⟨rfl, fun done a wq hw h => ?_⟩, ?_⟩
    · exact ch_call (by go_simp) (by go_simp) (patched_calls _)
    refine ⟨.inl ⟨rfl, fun done a wq hw h => ?_⟩, ?_⟩
    · have e49 := ch_new (i := 0) (t := 49) h (hw 0 (by decide)) rfl rfl; exact ch_move (ch_ev e49)
    refine ⟨.inl ⟨rfl, fun done a wq hw h => ?_⟩, ?_⟩
    · have e6 := ch_old (t := 6) (v := .pointer (some ⟨W.heap.size, 0, none⟩)) h rfl rfl; obtain ⟨r_, f_, n_, c_, z_, l_⟩ := keep1 h.bel R6 (by go_simp) F6; refine ch_pure ?_; go_simp
    refine ⟨.inl ⟨rfl, fun done a wq hw h => ?_⟩, ?_⟩
    · have e51 := ch_new (i := 2) (t := 51) h (hw 2 (by decide)) rfl rfl; exact ch_call (by go_simp) (by go_simp) (K5.out _ ((HP.out.stays HB4.out).stays (HD4.out _ h.bel)))
    refine ⟨.inl ⟨rfl, fun done a wq hw h => ?_⟩, ?_⟩
    · have e6 := ch_old (t := 6) (v := .pointer (some ⟨W.heap.size, 0, none⟩)) h rfl rfl; obtain ⟨r_, f_, n_, c_, z_, l_⟩ := keep1 h.bel R6 (by go_simp) F6; refine ch_pure ?_; go_simp
    refine ⟨.inl ⟨rfl, fun done a wq hw h => ?_⟩, ?_⟩
    · have e53 := ch_new (i := 4) (t := 53) h (hw 4 (by decide)) rfl rfl; exact ch_call (by go_simp) (by go_simp) (K6.out _ ((HP.out.stays HB4.out).stays (HD4.out _ h.bel)))
    refine ⟨.inl ⟨rfl, fun done a wq hw h => ?_⟩, ?_⟩
    · have e52 := ch_new (i := 3) (t := 52) h (hw 3 (by decide)) rfl rfl; have e54 := ch_new (i := 5) (t := 54) h (hw 5 (by decide)) rfl rfl; exact ch_eql_int (by kernel_rfl) (ch_ev e52) (ch_ev e54) (by simp)
    refine ⟨.inl ⟨rfl, fun done a wq hw h => ?_⟩, ?_⟩
    · have e50 := ch_new (i := 1) (t := 50) h (hw 1 (by decide)) rfl rfl; have e55 := ch_new (i := 6) (t := 55) h (hw 6 (by decide)) rfl rfl; exact ch_pick_t e50 (ch_ev e55)
    refine ⟨.inl ⟨rfl, fun done a wq hw h => ?_⟩, ?_⟩
    · have e56 := ch_new (i := 7) (t := 56) h (hw 7 (by decide)) rfl rfl; exact ch_move (ch_ev e56)
    refine ⟨.inl ⟨rfl, fun done a wq hw h => ?_⟩, ?_⟩
    · have e6 := ch_old (t := 6) (v := .pointer (some ⟨W.heap.size, 0, none⟩)) h rfl rfl; obtain ⟨r_, f_, n_, c_, z_, l_⟩ := keep1 h.bel R6 (by go_simp) F6; refine ch_pure ?_; go_simp
    refine ⟨.inl ⟨rfl, fun done a wq hw h => ?_⟩, ?_⟩
    · have e11 := ch_old (t := 11) (v := .pointer (some ⟨W.heap.size + 1, 0, none⟩)) h rfl rfl; obtain ⟨r_, f_, n_, c_, z_, l_⟩ := keep1 h.bel R11 (by go_simp) F11; refine ch_pure ?_; go_simp
    refine ⟨.inl ⟨rfl, fun done a wq hw h => ?_⟩, ?_⟩
    · have e58 := ch_new (i := 9) (t := 58) h (hw 9 (by decide)) rfl rfl; have e59 := ch_new (i := 10) (t := 59) h (hw 10 (by decide)) rfl rfl; exact ch_call (by go_simp) (by go_simp) (K7.out _ ((HP.out.stays HB4.out).stays (HD4.out _ h.bel)) ((HQ.out.stays HB4.out).stays (HD4.out _ h.bel)))
    refine ⟨.inl ⟨rfl, fun done a wq hw h => ?_⟩, ?_⟩
    · have e6 := ch_old (t := 6) (v := .pointer (some ⟨W.heap.size, 0, none⟩)) h rfl rfl; obtain ⟨r_, f_, n_, c_, z_, l_⟩ := keep1 h.bel R6 (by go_simp) F6; refine ch_pure ?_; go_simp
    refine ⟨.inl ⟨rfl, fun done a wq hw h => ?_⟩, ?_⟩
    · have e11 := ch_old (t := 11) (v := .pointer (some ⟨W.heap.size + 1, 0, none⟩)) h rfl rfl; obtain ⟨r_, f_, n_, c_, z_, l_⟩ := keep1 h.bel R11 (by go_simp) F11; refine ch_pure ?_; go_simp
    refine ⟨.inl ⟨rfl, fun done a wq hw h => ?_⟩, ?_⟩
    · have e61 := ch_new (i := 12) (t := 61) h (hw 12 (by decide)) rfl rfl; have e62 := ch_new (i := 13) (t := 62) h (hw 13 (by decide)) rfl rfl; exact ch_call (by go_simp) (by go_simp) (K8.out _ ((HP.out.stays HB4.out).stays (HD4.out _ h.bel)) ((HQ.out.stays HB4.out).stays (HD4.out _ h.bel)))
    refine ⟨.inl ⟨rfl, fun done a wq hw h => ?_⟩, ?_⟩
    · have e60 := ch_new (i := 11) (t := 60) h (hw 11 (by decide)) rfl rfl; have e63 := ch_new (i := 14) (t := 63) h (hw 14 (by decide)) rfl rfl; refine ch_pure ?_; go_simp
    refine ⟨.inl ⟨rfl, fun done a wq hw h => ?_⟩, ?_⟩
    · have e57 := ch_new (i := 8) (t := 57) h (hw 8 (by decide)) rfl rfl; have e64 := ch_new (i := 15) (t := 64) h (hw 15 (by decide)) rfl rfl; exact ch_pick_t e57 (ch_ev e64)
    refine ⟨.inl ⟨rfl, fun done a wq hw h => ?_⟩, ?_⟩
    · have e65 := ch_new (i := 16) (t := 65) h (hw 16 (by decide)) rfl rfl; exact ch_move (ch_ev e65)
    refine ⟨.inl ⟨rfl, fun done a wq hw h => ?_⟩, ?_⟩
    · have e14 := ch_old (t := 14) (v := iv e1) h rfl rfl; exact ch_move (ch_ev e14)
    refine ⟨.inl ⟨rfl, fun done a wq hw h => ?_⟩, ?_⟩
    · have e18 := ch_old (t := 18) (v := iv e1) h rfl rfl; exact ch_move (ch_ev e18)
    refine ⟨.inl ⟨rfl, fun done a wq hw h => ?_⟩, ?_⟩
    · have e67 := ch_new (i := 18) (t := 67) h (hw 18 (by decide)) rfl rfl; have e68 := ch_new (i := 19) (t := 68) h (hw 19 (by decide)) rfl rfl; exact ch_eql_int (by kernel_rfl) (ch_ev e67) (ch_ev e68) (by simp)
    refine ⟨.inl ⟨rfl, fun done a wq hw h => ?_⟩, ?_⟩
    · have e66 := ch_new (i := 17) (t := 66) h (hw 17 (by decide)) rfl rfl; have e69 := ch_new (i := 20) (t := 69) h (hw 20 (by decide)) rfl rfl; exact ch_pick_t e66 (ch_ev e69)
    refine ⟨.inl ⟨rfl, fun done a wq hw h => ?_⟩, ?_⟩
    · have e70 := ch_new (i := 21) (t := 70) h (hw 21 (by decide)) rfl rfl; exact ch_move (ch_ev e70)
    refine ⟨.inl ⟨rfl, fun done a wq hw h => ?_⟩, ?_⟩
    · have e13 := ch_old (t := 13) (v := .pointer (some ⟨w1.heap.size, 0, none⟩)) h rfl rfl; obtain ⟨r_, f_, n_, c_, z_, l_⟩ := keep1 h.bel R13 (by go_simp) F13; refine ch_pure ?_; go_simp
    refine ⟨.inl ⟨rfl, fun done a wq hw h => ?_⟩, ?_⟩
    · have e17 := ch_old (t := 17) (v := .pointer (some ⟨w3.heap.size, 0, none⟩)) h rfl rfl; obtain ⟨r_, f_, n_, c_, z_, l_⟩ := keep1 h.bel R17 (by go_simp) F17; refine ch_pure ?_; go_simp
    refine ⟨.inl ⟨rfl, fun done a wq hw h => ?_⟩, ?_⟩
    · have e72 := ch_new (i := 23) (t := 72) h (hw 23 (by decide)) rfl rfl; have e73 := ch_new (i := 24) (t := 73) h (hw 24 (by decide)) rfl rfl; exact ch_call (by go_simp) (by go_simp) ((refPatSameS_calls _ _ _ _ x x _ (HX4.out.stays (HD4.out _ h.bel)) (HU4.out.stays (HD4.out _ h.bel))).mono fun _ _ hh => by simpa using hh)
    refine ⟨.inl ⟨rfl, fun done a wq hw h => ?_⟩, ?_⟩
    · have e71 := ch_new (i := 22) (t := 71) h (hw 22 (by decide)) rfl rfl; have e74 := ch_new (i := 25) (t := 74) h (hw 25 (by decide)) rfl rfl; exact ch_pick_t e71 (ch_ev e74)
    refine ⟨.inl ⟨rfl, fun done a wq hw h => ?_⟩, ?_⟩
    · have e75 := ch_new (i := 26) (t := 75) h (hw 26 (by decide)) rfl rfl; exact ch_move (ch_ev e75)
    refine ⟨.inl ⟨rfl, fun done a wq hw h => ?_⟩, ?_⟩
    · have e16 := ch_old (t := 16) (v := iv f1) h rfl rfl; exact ch_move (ch_ev e16)
    refine ⟨.inl ⟨rfl, fun done a wq hw h => ?_⟩, ?_⟩
    · have e20 := ch_old (t := 20) (v := iv f1) h rfl rfl; exact ch_move (ch_ev e20)
    refine ⟨.inl ⟨rfl, fun done a wq hw h => ?_⟩, ?_⟩
    · have e77 := ch_new (i := 28) (t := 77) h (hw 28 (by decide)) rfl rfl; have e78 := ch_new (i := 29) (t := 78) h (hw 29 (by decide)) rfl rfl; exact ch_eql_int (by kernel_rfl) (ch_ev e77) (ch_ev e78) (by simp)
    refine ⟨.inl ⟨rfl, fun done a wq hw h => ?_⟩, ?_⟩
    · have e76 := ch_new (i := 27) (t := 76) h (hw 27 (by decide)) rfl rfl; have e79 := ch_new (i := 30) (t := 79) h (hw 30 (by decide)) rfl rfl; exact ch_pick_t e76 (ch_ev e79)
    refine ⟨.inl ⟨rfl, fun done a wq hw h => ?_⟩, ?_⟩
    · have e80 := ch_new (i := 31) (t := 80) h (hw 31 (by decide)) rfl rfl; exact ch_move (ch_ev e80)
    refine ⟨.inl ⟨rfl, fun done a wq hw h => ?_⟩, ?_⟩
    · have e15 := ch_old (t := 15) (v := .slice A2 y.length c2) h rfl rfl; exact ch_move (ch_ev e15)
    refine ⟨.inl ⟨rfl, fun done a wq hw h => ?_⟩, ?_⟩
    · have e19 := ch_old (t := 19) (v := .slice A4 y.length c4) h rfl rfl; exact ch_move (ch_ev e19)
    refine ⟨.inl ⟨rfl, fun done a wq hw h => ?_⟩, ?_⟩
    · have e82 := ch_new (i := 33) (t := 82) h (hw 33 (by decide)) rfl rfl; have e83 := ch_new (i := 34) (t := 83) h (hw 34 (by decide)) rfl rfl; exact ch_call (by go_simp) (by go_simp) ((eqB_calls rfl rfl hc2 hc4 (HY4.out.stays (HD4.out _ h.bel)) (HV4.out.stays (HD4.out _ h.bel)) (decide_eq_true rfl)).mono fun _ _ => Ret.to)
    refine ⟨.inl ⟨rfl, fun done a wq hw h => ?_⟩, ?_⟩
    · have e81 := ch_new (i := 32) (t := 81) h (hw 32 (by decide)) rfl rfl; have e84 := ch_new (i := 35) (t := 84) h (hw 35 (by decide)) rfl rfl; exact ch_pick_t e81 (ch_ev e84)
    refine ⟨.inl ⟨rfl, fun done a wq hw h => ?_⟩, ?_⟩
    · have e85 := ch_new (i := 36) (t := 85) h (hw 36 (by decide)) rfl rfl; exact ch_assign (ch_ev e85)
    exact trivial
  · intro w5 hb
    simp only [putAll_some, putAll_none, putAll_nil, List.setIfInBounds_toArray, List.set_cons_zero, List.set_cons_succ]
    have HB5 : Hid (Below W.heap.size W w5) := Lib.hid (HB4.out.trans (hb.mono HB4.out.size))
    go_wp2_with fail
    go_ret
    exact ⟨rfl, HB5.out⟩
end Go.Proofs.Ytefkfglkpebbmac
