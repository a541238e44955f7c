/- The walk of the law PatchBack. Printed by gen_patchback.py. No conditions. -/
import Derived.Test.YtefkfglkpebbmabQPatched
import Derived.Test.YtefkfglkpebbmabQBase
import Derived.Test.YtefkfglkpebbmabQAux
namespace Go.Proofs.Ytefkfglkpebbmab
open Go.RowKit
set_option linter.unusedVariables false
set_option linter.unusedSimpArgs false

set_option maxRecDepth 100000 in
set_option maxHeartbeats 16000000 in
theorem PatchBack_walk (W : World) (v0 v1 v2 v3 : Value) (p : Pat) (b old0 new0 : List UInt8) (g0 : ArgPat W v0 p) (g1 : ArgBytes W v1 b) (g2 : ArgBytes W v2 old0) (g3 : ArgBytes W v3 new0) :
    Calls Try.prog 13 #[v0, v1, v2, v3] W (RetB W (.bool true)) := by
  obtain ⟨P, cp, rfl, hp⟩ := g0
  obtain ⟨B, cb, rfl, hcb, hlb, hB⟩ := g1
  obtain ⟨O, co, rfl, hco0, hlo0, hO0⟩ := g2
  obtain ⟨N, cn, rfl, hcn0, hln0, hN0⟩ := g3
  rw [patC_eq]
  have I1 := Lib.hid (fun w => lawImage_calls O co old0 w hco0 hlo0)
  have I2 := Lib.hid (fun w => lawImage_calls N cn new0 w hcn0 hln0)
  have hlo := img_len old0
  have hln := img_len new0
  have hO := img_bts hO0
  have hN := img_bts hN0
  have hco : (img old0).length ≤ co := by unfold img; rw [List.length_take]; omega
  have hcn : (img new0).length ≤ cn := by unfold img; rw [List.length_take]; omega
  clear hO0 hN0 hlo0 hln0 hco0 hcn0
  generalize img old0 = old at *
  generalize img new0 = new at *
  have HP := Lib.hid hp
  have HB2 := Lib.hid hB
  have HO := Lib.hid hO
  have HN := Lib.hid hN
  clear hp hB hO hN
  have hmk := patMake_ok sum_in (from_ := 1) (to_ := 2) (by omega) (by omega) hlo hln
  obtain ⟨m, hm⟩ : ∃ m : Pat, (⟨1, 2, sumOn 1 old, sumOn 1 new, new.length, diffed old new⟩ : Pat) = m := ⟨_, rfl⟩
  rw [hm] at hmk
  obtain ⟨hm1, hm2, hm3⟩ := hmk
  have M1 : Hid (∀ w, Bts w O old → Bts w N new → Calls Try.prog 44 #[iv 1, iv 2, .slice O old.length co, .slice N new.length cn] w (PaRet w m 0)) := Lib.hid fun w h1 h2 => by
    have := patMake_calls O N co cn 1 2 old new w ⟨by decide, by decide⟩ ⟨by decide, by decide⟩ (by omega) (by omega) h1 h2
    rwa [hm1] at this
  have M2 : Hid (∀ Y cy w, PatIn w m Y cy → Bts w O old → Calls Try.prog 45 #[.agg (patA m.from_ m.to_ m.old m.new_ m.size Y m.ops.length cy), .slice O old.length co] w (ByRet2 w new 0)) := Lib.hid fun Y cy w h1 h2 => by
    have := patDo_calls Y O cy co m old w hco (by omega) h2 h1
    rwa [hm3] at this
  have M3 := Lib.hid hm2
  clear hm hm1 hm2 hm3
  obtain ⟨qb, eb, hqb⟩ : ∃ qb eb, patRead b = (qb, eb) := ⟨_, _, rfl⟩
  have R2 : Hid (∀ w, Bts w B b → Calls Try.prog 38 #[.slice B b.length cb] w (PaRet w qb eb)) := Lib.hid fun w h => by
    have := patRead_calls B cb b w hcb h
    rwa [hqb] at this
  have R3 : Hid (eb = 0 → patCheck qb = 0 ∧ patBytes qb = b) := Lib.hid fun h => put_read (by rw [hqb, h])
  clear hqb
  by_cases hck : patCheck p = 0
  · have K1 := Lib.hid (fun w h => patPut_ok P cp p w h hck)
    have K2 : Hid (∀ A c w, (patBytes p).length ≤ c → Bts w A (patBytes p) → Calls Try.prog 38 #[.slice A (patBytes p).length c] w (PaRet w p 0)) := Lib.hid fun A c w h1 h2 => by
      have := patRead_calls A c (patBytes p) w h1 h2
      rwa [read_put hck] at this
    clear hck
    go_enter Try.func13, Try.ntmps13
    go_wp2_with fail
    refine (K1.out _ (HP.out.stays ((Below.refl _ _).alloc (Nat.le_refl _) _))).mono ?_
    rintro e w1 ⟨A1, c1, rfl, ho1, hb1⟩
    obtain ⟨a0r, a0f, a0n, a0c, a0z, a0l⟩ := keep1 (g := W.heap.size) (cs := patA p.from_ p.to_ p.old p.new_ p.size P p.ops.length cp) hb1 (by first | (go_simp; done) | (go_simp; rfl)) (by go_simp) (by go_simp)
    have HB1 : Hid (Below W.heap.size W w1) := Lib.hid (((Below.refl _ _).alloc (Nat.le_refl _) _).trans (hb1.mono (by simp)))
    have HT1 := Lib.hid ho1.src.bts
    have hc1 := ho1.le
    dsimp only at hc1
    clear ho1 hb1
    go_wp2_with fail
    refine (K2.out _ _ _ hc1 HT1.out).mono ?_
    rintro e w2 ⟨A2, c2, rfl, hq2, hb2⟩
    obtain ⟨b0r, b0f, b0n, b0c, b0z, b0l⟩ := keep1 (g := W.heap.size) (cs := patA p.from_ p.to_ p.old p.new_ p.size P p.ops.length cp) hb2 (by first | (go_simp; done) | (go_simp; rfl)) (by go_simp) (by go_simp)
    have HBw2 : Hid (Below W.heap.size W w2) := Lib.hid (HB1.out.trans (hb2.mono HB1.out.size))
    have HQ2 := Lib.hid hq2.now
    clear hq2 hb2 a0r a0f a0n a0c a0z a0l
    go_wp2_with fail
    have hbq := (Below.refl w2.heap.size w2).alloc (Nat.le_refl _) (.cells (patA p.from_ p.to_ p.old p.new_ p.size A2 p.ops.length c2) 53)
    refine (patSame_calls _ _ _ _ p p _ ((HP.out.stays HBw2.out).stays hbq) (HQ2.out.stays hbq)).mono ?_
    rintro e w3 ⟨rfl, hb3⟩
    have HB3 : Hid (Below W.heap.size W w3) := Lib.hid ((HBw2.out.alloc HBw2.out.size _).trans (hb3.mono (by have := HBw2.out.size; simp; omega)))
    have hdp : decide (p = p) = true := by simp
    rw [hdp]
    clear hb3 hbq hdp b0r b0f b0n b0c b0z b0l
    go_wp2_with fail
    refine (R2.out _ (HB2.out.stays HB3.out)).mono ?_
    rintro e x1 ⟨Q, cq, rfl, hq1, hb1⟩
    have HBx1 : Hid (Below W.heap.size W x1) := Lib.hid (HB3.out.trans (hb1.mono HB3.out.size))
    have HQ1 := Lib.hid hq1.now
    clear hb1 hq1
    by_cases he : eb = 0
    · have de : (eb == 0) = true := by simp [he]
      have HPB := Lib.hid (R3.out he)
      clear he
      go_wp2_with fail
      have hbq := (Below.refl x1.heap.size x1).alloc (Nat.le_refl _) (.cells (patA qb.from_ qb.to_ qb.old qb.new_ qb.size Q qb.ops.length cq) 53)
      refine (patPut_ok _ _ _ _ (HQ1.out.stays hbq) HPB.out.1).mono ?_
      rintro e x2 ⟨X2, cx2, rfl, ho2, hb2⟩
      have HBx2 : Hid (Below W.heap.size W x2) := Lib.hid ((HBx1.out.alloc HBx1.out.size _).trans (hb2.mono (by have := HBx1.out.size; simp; omega)))
      have hx2 := ho2.src.bts
      have hcx2 := ho2.le
      simp only [HPB.out.2] at hx2 hcx2 ⊢
      have HX2 := Lib.hid hx2
      clear hb2 ho2 hbq hx2
      go_wp2_with fail
      refine (eqB_calls rfl rfl hcx2 hcb HX2.out (HB2.out.stays HBx2.out) (decide_eq_true rfl)).mono ?_
      rintro e x3 ⟨rfl, rfl⟩
      go_wp2_with fail
      refine (I1.out _).mono ?_
      rintro e z1 ⟨rfl, rfl⟩
      go_wp2_with fail
      refine (I2.out _).mono ?_
      rintro e z2 ⟨rfl, rfl⟩
      go_wp2_with fail
      refine (M1.out _ (HO.out.stays HBx2.out) (HN.out.stays HBx2.out)).mono ?_
      rintro e y1 ⟨Y, cy, rfl, hy1, hb1⟩
      have HBy1 : Hid (Below W.heap.size W y1) := Lib.hid (HBx2.out.trans (hb1.mono HBx2.out.size))
      have HY1 := Lib.hid hy1.now
      clear hb1 hy1
      go_wp2_with fail
      refine (patched_calls _).mono ?_
      rintro e y2 ⟨rfl, hb2⟩
      obtain ⟨m0r, m0f, m0n, m0c, m0z, m0l⟩ := keep1 (g := y1.heap.size) (cs := patA m.from_ m.to_ m.old m.new_ m.size Y m.ops.length cy) hb2 (by first | (go_simp; done) | (go_simp; rfl)) (by go_simp) (by go_simp)
      have HBy2 : Hid (Below W.heap.size W y2) := Lib.hid ((HBy1.out.alloc HBy1.out.size _).trans (hb2.mono (by have := HBy1.out.size; simp; omega)))
      have HY2 := Lib.hid ((HY1.out.stays ((Below.refl _ _).alloc (Nat.le_refl _) _)).stays hb2)
      clear hb2
      go_wp2_with fail
      refine (M2.out _ _ _ HY2.out (HO.out.stays HBy2.out)).mono ?_
      rintro e y3 ⟨Z, cz, rfl, hz3, hcz, hb3⟩
      obtain ⟨n0r, n0f, n0n, n0c, n0z, n0l⟩ := keep1 (g := y1.heap.size) (cs := patA m.from_ m.to_ m.old m.new_ m.size Y m.ops.length cy) hb3 (by first | (go_simp; done) | (go_simp; rfl)) (by go_simp) (by go_simp)
      have HBy3 : Hid (Below W.heap.size W y3) := Lib.hid (HBy2.out.trans (hb3.mono HBy2.out.size))
      have HY3 := Lib.hid (HY2.out.stays hb3)
      have HZ3 := Lib.hid hz3
      clear hb3 hz3 m0r m0f m0n m0c m0z m0l
      go_wp2_with fail
      refine (patPut_ok _ _ _ _ HY3.out M3.out).mono ?_
      rintro e y4 ⟨X4, cx4, rfl, ho4, hb4⟩
      have HBy4 : Hid (Below W.heap.size W y4) := Lib.hid (HBy3.out.trans (hb4.mono HBy3.out.size))
      have HZ4 := Lib.hid (HZ3.out.stays hb4)
      clear hb4 ho4
      go_wp2_with fail
      refine (eqB_calls rfl rfl hcz hcn HZ4.out (HN.out.stays HBy4.out) (decide_eq_true rfl)).mono ?_
      rintro e y5 ⟨rfl, rfl⟩
      go_wp2_with fail
      go_ret
      exact ⟨rfl, HBy4.out⟩
    · have de : (eb == 0) = false := by simp [he]
      clear he
      have HBx2 : Hid (∀ o, Below W.heap.size W (x1.alloc o)) := Lib.hid (fun o => HBx1.out.alloc HBx1.out.size o)
      go_wp2_with fail
      refine (I1.out _).mono ?_
      rintro e z1 ⟨rfl, rfl⟩
      go_wp2_with fail
      refine (I2.out _).mono ?_
      rintro e z2 ⟨rfl, rfl⟩
      go_wp2_with fail
      refine (M1.out _ (HO.out.stays (HBx2.out _)) (HN.out.stays (HBx2.out _))).mono ?_
      rintro e y1 ⟨Y, cy, rfl, hy1, hb1⟩
      have HBy1 : Hid (Below W.heap.size W y1) := Lib.hid ((HBx2.out _).trans (hb1.mono (HBx2.out _).size))
      have HY1 := Lib.hid hy1.now
      clear hb1 hy1
      go_wp2_with fail
      refine (patched_calls _).mono ?_
      rintro e y2 ⟨rfl, hb2⟩
      obtain ⟨m0r, m0f, m0n, m0c, m0z, m0l⟩ := keep1 (g := y1.heap.size) (cs := patA m.from_ m.to_ m.old m.new_ m.size Y m.ops.length cy) hb2 (by first | (go_simp; done) | (go_simp; rfl)) (by go_simp) (by go_simp)
      have HBy2 : Hid (Below W.heap.size W y2) := Lib.hid ((HBy1.out.alloc HBy1.out.size _).trans (hb2.mono (by have := HBy1.out.size; simp; omega)))
      have HY2 := Lib.hid ((HY1.out.stays ((Below.refl _ _).alloc (Nat.le_refl _) _)).stays hb2)
      clear hb2
      go_wp2_with fail
      refine (M2.out _ _ _ HY2.out (HO.out.stays HBy2.out)).mono ?_
      rintro e y3 ⟨Z, cz, rfl, hz3, hcz, hb3⟩
      obtain ⟨n0r, n0f, n0n, n0c, n0z, n0l⟩ := keep1 (g := y1.heap.size) (cs := patA m.from_ m.to_ m.old m.new_ m.size Y m.ops.length cy) hb3 (by first | (go_simp; done) | (go_simp; rfl)) (by go_simp) (by go_simp)
      have HBy3 : Hid (Below W.heap.size W y3) := Lib.hid (HBy2.out.trans (hb3.mono HBy2.out.size))
      have HY3 := Lib.hid (HY2.out.stays hb3)
      have HZ3 := Lib.hid hz3
      clear hb3 hz3 m0r m0f m0n m0c m0z m0l
      go_wp2_with fail
      refine (patPut_ok _ _ _ _ HY3.out M3.out).mono ?_
      rintro e y4 ⟨X4, cx4, rfl, ho4, hb4⟩
      have HBy4 : Hid (Below W.heap.size W y4) := Lib.hid (HBy3.out.trans (hb4.mono HBy3.out.size))
      have HZ4 := Lib.hid (HZ3.out.stays hb4)
      clear hb4 ho4
      go_wp2_with fail
      refine (eqB_calls rfl rfl hcz hcn HZ4.out (HN.out.stays HBy4.out) (decide_eq_true rfl)).mono ?_
      rintro e y5 ⟨rfl, rfl⟩
      go_wp2_with fail
      go_ret
      exact ⟨rfl, HBy4.out⟩
  · have K1 := Lib.hid (fun w h => patPut_bad P cp p w h hck)
    have dq : (patCheck p == 0) = false := by simp [hck]
    generalize patCheck p = ck at *
    clear hck
    go_enter Try.func13, Try.ntmps13
    go_wp2_with fail
    refine (K1.out _ (HP.out.stays ((Below.refl _ _).alloc (Nat.le_refl _) _))).mono ?_
    rintro e w1 ⟨rfl, hb1⟩
    have HB1 : Hid (Below W.heap.size W w1) := Lib.hid (((Below.refl _ _).alloc (Nat.le_refl _) _).trans (hb1.mono (by simp)))
    clear hb1
    go_wp2_with fail
    refine (R2.out _ (HB2.out.stays HB1.out)).mono ?_
    rintro e x1 ⟨Q, cq, rfl, hq1, hb1⟩
    have HBx1 : Hid (Below W.heap.size W x1) := Lib.hid (HB1.out.trans (hb1.mono HB1.out.size))
    have HQ1 := Lib.hid hq1.now
    clear hb1 hq1
    by_cases he : eb = 0
    · have de : (eb == 0) = true := by simp [he]
      have HPB := Lib.hid (R3.out he)
      clear he
      go_wp2_with fail
      have hbq := (Below.refl x1.heap.size x1).alloc (Nat.le_refl _) (.cells (patA qb.from_ qb.to_ qb.old qb.new_ qb.size Q qb.ops.length cq) 53)
      refine (patPut_ok _ _ _ _ (HQ1.out.stays hbq) HPB.out.1).mono ?_
      rintro e x2 ⟨X2, cx2, rfl, ho2, hb2⟩
      have HBx2 : Hid (Below W.heap.size W x2) := Lib.hid ((HBx1.out.alloc HBx1.out.size _).trans (hb2.mono (by have := HBx1.out.size; simp; omega)))
      have hx2 := ho2.src.bts
      have hcx2 := ho2.le
      simp only [HPB.out.2] at hx2 hcx2 ⊢
      have HX2 := Lib.hid hx2
      clear hb2 ho2 hbq hx2
      go_wp2_with fail
      refine (eqB_calls rfl rfl hcx2 hcb HX2.out (HB2.out.stays HBx2.out) (decide_eq_true rfl)).mono ?_
      rintro e x3 ⟨rfl, rfl⟩
      go_wp2_with fail
      refine (I1.out _).mono ?_
      rintro e z1 ⟨rfl, rfl⟩
      go_wp2_with fail
      refine (I2.out _).mono ?_
      rintro e z2 ⟨rfl, rfl⟩
      go_wp2_with fail
      refine (M1.out _ (HO.out.stays HBx2.out) (HN.out.stays HBx2.out)).mono ?_
      rintro e y1 ⟨Y, cy, rfl, hy1, hb1⟩
      have HBy1 : Hid (Below W.heap.size W y1) := Lib.hid (HBx2.out.trans (hb1.mono HBx2.out.size))
      have HY1 := Lib.hid hy1.now
      clear hb1 hy1
      go_wp2_with fail
      refine (patched_calls _).mono ?_
      rintro e y2 ⟨rfl, hb2⟩
      obtain ⟨m0r, m0f, m0n, m0c, m0z, m0l⟩ := keep1 (g := y1.heap.size) (cs := patA m.from_ m.to_ m.old m.new_ m.size Y m.ops.length cy) hb2 (by first | (go_simp; done) | (go_simp; rfl)) (by go_simp) (by go_simp)
      have HBy2 : Hid (Below W.heap.size W y2) := Lib.hid ((HBy1.out.alloc HBy1.out.size _).trans (hb2.mono (by have := HBy1.out.size; simp; omega)))
      have HY2 := Lib.hid ((HY1.out.stays ((Below.refl _ _).alloc (Nat.le_refl _) _)).stays hb2)
      clear hb2
      go_wp2_with fail
      refine (M2.out _ _ _ HY2.out (HO.out.stays HBy2.out)).mono ?_
      rintro e y3 ⟨Z, cz, rfl, hz3, hcz, hb3⟩
      obtain ⟨n0r, n0f, n0n, n0c, n0z, n0l⟩ := keep1 (g := y1.heap.size) (cs := patA m.from_ m.to_ m.old m.new_ m.size Y m.ops.length cy) hb3 (by first | (go_simp; done) | (go_simp; rfl)) (by go_simp) (by go_simp)
      have HBy3 : Hid (Below W.heap.size W y3) := Lib.hid (HBy2.out.trans (hb3.mono HBy2.out.size))
      have HY3 := Lib.hid (HY2.out.stays hb3)
      have HZ3 := Lib.hid hz3
      clear hb3 hz3 m0r m0f m0n m0c m0z m0l
      go_wp2_with fail
      refine (patPut_ok _ _ _ _ HY3.out M3.out).mono ?_
      rintro e y4 ⟨X4, cx4, rfl, ho4, hb4⟩
      have HBy4 : Hid (Below W.heap.size W y4) := Lib.hid (HBy3.out.trans (hb4.mono HBy3.out.size))
      have HZ4 := Lib.hid (HZ3.out.stays hb4)
      clear hb4 ho4
      go_wp2_with fail
      refine (eqB_calls rfl rfl hcz hcn HZ4.out (HN.out.stays HBy4.out) (decide_eq_true rfl)).mono ?_
      rintro e y5 ⟨rfl, rfl⟩
      go_wp2_with fail
      go_ret
      exact ⟨rfl, HBy4.out⟩
    · have de : (eb == 0) = false := by simp [he]
      clear he
      have HBx2 : Hid (∀ o, Below W.heap.size W (x1.alloc o)) := Lib.hid (fun o => HBx1.out.alloc HBx1.out.size o)
      go_wp2_with fail
      refine (I1.out _).mono ?_
      rintro e z1 ⟨rfl, rfl⟩
      go_wp2_with fail
      refine (I2.out _).mono ?_
      rintro e z2 ⟨rfl, rfl⟩
      go_wp2_with fail
      refine (M1.out _ (HO.out.stays (HBx2.out _)) (HN.out.stays (HBx2.out _))).mono ?_
      rintro e y1 ⟨Y, cy, rfl, hy1, hb1⟩
      have HBy1 : Hid (Below W.heap.size W y1) := Lib.hid ((HBx2.out _).trans (hb1.mono (HBx2.out _).size))
      have HY1 := Lib.hid hy1.now
      clear hb1 hy1
      go_wp2_with fail
      refine (patched_calls _).mono ?_
      rintro e y2 ⟨rfl, hb2⟩
      obtain ⟨m0r, m0f, m0n, m0c, m0z, m0l⟩ := keep1 (g := y1.heap.size) (cs := patA m.from_ m.to_ m.old m.new_ m.size Y m.ops.length cy) hb2 (by first | (go_simp; done) | (go_simp; rfl)) (by go_simp) (by go_simp)
      have HBy2 : Hid (Below W.heap.size W y2) := Lib.hid ((HBy1.out.alloc HBy1.out.size _).trans (hb2.mono (by have := HBy1.out.size; simp; omega)))
      have HY2 := Lib.hid ((HY1.out.stays ((Below.refl _ _).alloc (Nat.le_refl _) _)).stays hb2)
      clear hb2
      go_wp2_with fail
      refine (M2.out _ _ _ HY2.out (HO.out.stays HBy2.out)).mono ?_
      rintro e y3 ⟨Z, cz, rfl, hz3, hcz, hb3⟩
      obtain ⟨n0r, n0f, n0n, n0c, n0z, n0l⟩ := keep1 (g := y1.heap.size) (cs := patA m.from_ m.to_ m.old m.new_ m.size Y m.ops.length cy) hb3 (by first | (go_simp; done) | (go_simp; rfl)) (by go_simp) (by go_simp)
      have HBy3 : Hid (Below W.heap.size W y3) := Lib.hid (HBy2.out.trans (hb3.mono HBy2.out.size))
      have HY3 := Lib.hid (HY2.out.stays hb3)
      have HZ3 := Lib.hid hz3
      clear hb3 hz3 m0r m0f m0n m0c m0z m0l
      go_wp2_with fail
      refine (patPut_ok _ _ _ _ HY3.out M3.out).mono ?_
      rintro e y4 ⟨X4, cx4, rfl, ho4, hb4⟩
      have HBy4 : Hid (Below W.heap.size W y4) := Lib.hid (HBy3.out.trans (hb4.mono HBy3.out.size))
      have HZ4 := Lib.hid (HZ3.out.stays hb4)
      clear hb4 ho4
      go_wp2_with fail
      refine (eqB_calls rfl rfl hcz hcn HZ4.out (HN.out.stays HBy4.out) (decide_eq_true rfl)).mono ?_
      rintro e y5 ⟨rfl, rfl⟩
      go_wp2_with fail
      go_ret
      exact ⟨rfl, HBy4.out⟩
end Go.Proofs.Ytefkfglkpebbmab
