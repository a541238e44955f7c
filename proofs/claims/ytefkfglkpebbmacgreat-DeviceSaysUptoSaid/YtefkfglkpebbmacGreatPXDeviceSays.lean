/- The walk of the law DeviceSays. Printed by gen_dsays.py. Condition: the library's variable holds some number. -/
import Derived.Test.YtefkfglkpebbmacGreatP24
set_option linter.unusedVariables false
set_option linter.unusedSimpArgs false
set_option maxRecDepth 100000
set_option maxHeartbeats 40000000
namespace Go.Proofs.YtefkfglkpebbmacGreat
open Go.RowKit
theorem x5 {p : Prop} (h : p := by
 rw [hyf] at K
 have K := hD K
 clear hyf he
 go_wp2_with fail
 refine (K.out _ (HIN.out.stays HB8.out)).mono ?_
 rintro en w9 ⟨Ly, rfl, hf, hb⟩
 obtain ⟨z0r, z0f, z0n, z0c, z0z, z0l⟩ := keep1 (g := gy) (cs := devA Dev.zero DLoc.zero) hb y0r (by go_simp) y0f
 have HY := hD (YAt.of hf hb y0l (by rw [z0r, devA_size]; decide) z0f)
 clear hb hf
 go_wp2_with fail
 go_meet
 case rel => exact ⟨rfl, HY.out⟩) : p := h
theorem x97 {p : Prop} (h : p := by
 have e6 := cO 6 (.pointer (some ⟨W.heap.size, 0, none⟩)) h; obtain ⟨r_, f_, n_, c_, z_, l_⟩ := kq h.bel RA FA; refine ch_pure ?_; go_simp) : p := h
theorem x132 {p : Prop} (h : p := by
 intro done cv a wq hn hw hcl h hJ
 have e4 := fO 4 (.slice A b.length ca) h
 exact mx_move (ch_ev e4)) : p := h
theorem x151 {p : Prop} (h : p := by
 have e11 := cO 11 (.pointer (some ⟨(W.heap.size + 2), 0, none⟩)) h; obtain ⟨r_, f_, n_, c_, z_, l_⟩ := kq h.bel RC FC; refine ch_pure ?_; go_simp) : p := h
theorem devActs_bad {d : Dev} (h : devCheck d ≠ 0) (x : Chk) {kd : Int} (n : Int) (hk : kd = 2 ∨ 5 <= kd ∧ kd <= 12) : devActs d x kd n = (Dev.zero, devCheck d) := by
 have hr : devReady d = devCheck d := by unfold devReady; rw [if_pos h]
 have hr2 : devReady d ≠ 0 := by omega
 unfold devActs devAct
 have e1 : devHear d x = (Dev.zero, devCheck d) := by unfold devHear; rw [if_pos hr2, hr]
 have e2 : devOpen d = (Dev.zero, devCheck d) := by unfold devOpen; rw [if_pos hr2, hr]
 have e3 : ∀ b, devWrite d b n = (Dev.zero, devCheck d) := fun b => by unfold devWrite; rw [if_pos hr2, hr]
 have e4 : ∀ b, devFinish d b = (Dev.zero, devCheck d) := fun b => by unfold devFinish; rw [if_pos hr2, hr]
 have e5 : devConfirm d = (Dev.zero, devCheck d) := by unfold devConfirm; rw [if_pos hr2, hr]
 have e6 : devCrash d = (Dev.zero, devCheck d) := by unfold devCrash; rw [if_pos hr2, hr]
 have e7 : devBoot d = (Dev.zero, devCheck d) := by unfold devBoot; rw [if_pos h]
 rw [e1, e2, e3, e3, e4, e4, e5, e6, e7]
 rcases (show kd = 2 ∨ kd = 5 ∨ kd = 6 ∨ kd = 7 ∨ kd = 8 ∨ kd = 9 ∨ kd = 10 ∨ kd = 11 ∨ kd = 12 by omega) with rfl | rfl | rfl | rfl | rfl | rfl | rfl | rfl | rfl <;> simp
def frJ (w0 : World) (nb : Dev) (d : Nat -> Bool) (cv : Nat -> Value) (w : World) : Prop :=
 (d 23 = false -> w = w0.drew) ∧ (d 23 = true -> ∃ L, cv 23 = .agg (devA nb L) ∧ DevIn w nb L) ∧ (d 24 = true -> cv 24 = .bool true) ∧ Below w0.heap.size w0 w
def YAt (w wx : World) (gy : Nat) (y : Dev) : Prop := ∃ Ly, rowOf wx gy = devA y Ly ∧ frOf wx gy = (0, 0) ∧ DevIn wx y Ly ∧ Below gy w wx ∧ ∀ k, k < w.heap.size -> k ≠ gy -> wx.heap[k]? = w.heap[k]?
theorem YAt.of {w w' : World} {gy : Nat} {y : Dev} {Ly : DLoc} (hf : Fresh w.heap.size w' (fun v => DevIn v y Ly)) (hb : Below w.heap.size w w') (hl : gy < w.heap.size) (hr : 0 < (rowOf w' gy).size) (h0 : frOf w' gy = (0, 0)) : YAt w (w'.setRow gy (devA y Ly)) gy y :=
 ⟨Ly, by rw [rowOf_setRow _ _ _ _ hr, if_pos rfl], by rw [frOf_setRow]; exact h0, (hf.row hl _).now, below_row (hb.mono (Nat.le_of_lt hl)) (Nat.le_refl _) _, fun k h1 h2 => (setRow_other _ _ _ _ h2).trans (hb.block k h1)⟩
theorem DeviceSays_walk (W : World) (v0 v1 v2 v3 v4 v5 : Value) (d : Dev) (c : Chk) (kz n : Int) (b : List UInt8) (g : Dev) (g0 : ArgDev W v0 d) (g1 : ArgChk W v1 c) (g2 : v2 = iv kz ∧ I64 kz) (g3 : v3 = iv n ∧ I64 n) (g4 : ArgBytes W v4 b) (g5 : ArgDev W v5 g) (hml : ML W) : Calls Tryz.prog 3 #[v0, v1, v2, v3, v4, v5] W (RetB W (.bool true)) := by
 obtain ⟨L, rfl, hin⟩ := g0
 obtain ⟨B, e, rfl, hck⟩ := g1
 obtain ⟨rfl, hz1, hz2⟩ := g2
 obtain ⟨rfl, hn⟩ := g3
 obtain ⟨A, ca, rfl, hca, hla, hA⟩ := g4
 obtain ⟨M, rfl, hgn⟩ := g5
 have HML := hD hml
 have HIN := hD hin
 have HCK := hD hck
 have HGN := hD hgn
 have HAB := hD hA
 have HN := hD hn
 have KNW := hD (fun w h => devNew_calls A ca b w hla h)
 have hxe : devNew b = if 64 < b.length then (Dev.zero, 1) else (newDev b, 0) := rfl
 obtain ⟨⟨x, xe⟩, hx⟩ : ∃ q, devNew b = q := ⟨_, rfl⟩
 rw [hx] at KNW hxe
 have HXE := hD hxe
 clear hin hck hgn hA hn hml hx hxe
 have HBA : Hid (Below W.heap.size W (((W.alloc (.cells (devA d L) 37)).alloc (.cells (chkA c.from_ c.to_ c.n c.of_ B c.data.length e) 39)).alloc (.cells (devA g M) 37))) := hD ((((Below.refl _ _).alloc (Nat.le_refl _) _).alloc (by simp) _).alloc (by simp; omega) _)
 go_enter Tryz.func3, Tryz.ntmps3
 go_wp2_with fail
 refine (KNW.out _ (HAB.out.stays HBA.out)).mono ?_
 rintro en w1 ⟨Lx, rfl, hf, hb⟩
 obtain ⟨a0r, a0f, a0n, a0c, a0z, a0l⟩ := keep1 (g := W.heap.size) (cs := devA d L) hb (by first | (go_simp; done) | (go_simp; rfl)) (by first | (go_simp; done) | simp [chkA]) (by go_simp)
 obtain ⟨b0r, b0f, b0n, b0c, b0z, b0l⟩ := keep1 (g := (W.heap.size + 1)) (cs := chkA c.from_ c.to_ c.n c.of_ B c.data.length e) hb (by first | (go_simp; done) | (go_simp; rfl)) (by first | (go_simp; done) | simp [chkA]) (by go_simp)
 obtain ⟨c0r, c0f, c0n, c0c, c0z, c0l⟩ := keep1 (g := (W.heap.size + 2)) (cs := devA g M) hb (by first | (go_simp; done) | (go_simp; rfl)) (by first | (go_simp; done) | simp [chkA]) (by go_simp)
 have HB1 : Hid (Below W.heap.size W w1) := hD (HBA.out.trans (hb.mono (by simp; omega)))
 have HX1 : Hid (DevIn w1 x Lx) := hD hf.now
 have hs1 : W.heap.size + 3 <= w1.heap.size := by have := hb.size; simp at this; omega
 clear hb hf KNW HBA
 have KCR := hD (fun w h => refDevCheck_calls d L w h)
 have KCD := hD (fun w h => devCheck_calls d L w h)
 obtain ⟨m, hm⟩ : ∃ m, devCheck d = m := ⟨_, rfl⟩
 rw [hm] at KCR KCD
 have HM := hD hm
 clear hm
 go_upto_region 2 with fail
 obtain ⟨w2, hw2⟩ : ∃ w2, w1.alloc (.cells (devA x Lx) 37) = w2 := ⟨_, rfl⟩
 have hb : Below w1.heap.size w1 w2 := by rw [← hw2]; exact (Below.refl _ _).alloc (Nat.le_refl _) _
 have x0 : rowOf w2 w1.heap.size = devA x Lx ∧ frOf w2 w1.heap.size = (0, 0) := by rw [← hw2]; exact ⟨by rw [rowOf_alloc, if_pos rfl], by rw [frOf_alloc, if_pos rfl]⟩
 obtain ⟨a0r, a0f, a0n, a0c, a0z, a0l⟩ := keep1 (g := W.heap.size) (cs := devA d L) hb a0r (by first | (go_simp; done) | simp [chkA]) a0f
 obtain ⟨b0r, b0f, b0n, b0c, b0z, b0l⟩ := keep1 (g := (W.heap.size + 1)) (cs := chkA c.from_ c.to_ c.n c.of_ B c.data.length e) hb b0r (by first | (go_simp; done) | simp [chkA]) b0f
 obtain ⟨c0r, c0f, c0n, c0c, c0z, c0l⟩ := keep1 (g := (W.heap.size + 2)) (cs := devA g M) hb c0r (by first | (go_simp; done) | simp [chkA]) c0f
 obtain ⟨x0r, x0f, x0n, x0c, x0z, x0l⟩ := keep1 (Below.refl w2.heap.size w2) x0.1 (by go_simp) x0.2
 have HB2 := bT HB1 hb
 have HX2 := hD (HX1.out.stays hb)
 rw [hw2]
 clear hw2 hb x0 HB1 HX1
 go_wp2_with fail
 refine (KCR.out _ (HIN.out.stays HB2.out)).mono ?_
 rintro en w3 ⟨rfl, hb⟩
 obtain ⟨a0r, a0f, a0n, a0c, a0z, a0l⟩ := keep1 (g := W.heap.size) (cs := devA d L) hb a0r (by first | (go_simp; done) | simp [chkA]) a0f
 obtain ⟨b0r, b0f, b0n, b0c, b0z, b0l⟩ := keep1 (g := (W.heap.size + 1)) (cs := chkA c.from_ c.to_ c.n c.of_ B c.data.length e) hb b0r (by first | (go_simp; done) | simp [chkA]) b0f
 obtain ⟨c0r, c0f, c0n, c0c, c0z, c0l⟩ := keep1 (g := (W.heap.size + 2)) (cs := devA g M) hb c0r (by first | (go_simp; done) | simp [chkA]) c0f
 obtain ⟨x0r, x0f, x0n, x0c, x0z, x0l⟩ := keep1 (g := w1.heap.size) (cs := devA x Lx) hb x0r (by first | (go_simp; done) | simp [chkA]) x0f
 have HB3 := bT HB2 hb
 have HX3 := hD (HX2.out.stays hb)
 clear hb HX2 HB2 KCR
 have KI := hD (fun wq (h : Below w3.heap.size w3 wq) => installed_calls wq (HML.out.stays (HB3.out.trans (h.mono HB3.out.size))))
 have KC := hD (fun wq (h : Below w3.heap.size w3 wq) => KCD.out wq (HIN.out.stays (HB3.out.trans (h.mono HB3.out.size))))
 have KS := hD (fun wq (h : Below w3.heap.size w3 wq) => devSame_calls d g L M wq (HIN.out.stays (HB3.out.trans (h.mono HB3.out.size))) (HGN.out.stays (HB3.out.trans (h.mono HB3.out.size))))
 have KR := hD (fun wq (h : Below w3.heap.size w3 wq) => refDevSame_calls d g L M wq (HIN.out.stays (HB3.out.trans (h.mono HB3.out.size))) (HGN.out.stays (HB3.out.trans (h.mono HB3.out.size))))
 generalize decide (d = g) = bs at *
 have hmm : (m != m) = false := by simp
 have hbb : (bs != bs) = false := by simp
 go_wp2_with fail
 have RA : Hid (rowOf w3.drew W.heap.size = devA d L) := hD (by rw [rowOf_drew]; exact a0r)
 have FA : Hid (frOf w3.drew W.heap.size = (0, 0)) := hD (by rw [frOf_drew]; exact a0f)
 have RC : Hid (rowOf w3.drew (W.heap.size + 2) = devA g M) := hD (by rw [rowOf_drew]; exact c0r)
 have FC : Hid (frOf w3.drew (W.heap.size + 2) = (0, 0)) := hD (by rw [frOf_drew]; exact c0f)
 refine wp_region_chain (by kernel_rfl) (some 27 :: some 28 :: some 29 :: some 30 :: some 31 :: some 32 :: some 33 :: some 34 :: some 35 :: some 36 :: some 37 :: some 38 :: some 39 :: some 40 :: some 41 :: some 42 :: some 43 :: []) (.bool true :: .bool false :: .bool false :: .agg (devA d L) :: iv m :: iv m :: .bool false :: .bool false :: .bool false :: .agg (devA d L) :: .agg (devA g M) :: .bool bs :: .agg (devA d L) :: .agg (devA g M) :: .bool bs :: .bool false :: .bool false :: []) 163 rfl rfl (by decide +kernel) (by decide +kernel) (by decide +kernel) rfl ?_ ?_
 ·refine ⟨.inl ⟨rfl, ?_⟩, .inl ⟨rfl, ?_⟩, .inl ⟨rfl, ?_⟩, .inl ⟨rfl, ?_⟩, .inl ⟨rfl, ?_⟩, .inl ⟨rfl, ?_⟩, .inl ⟨rfl, ?_⟩, .inl ⟨rfl, ?_⟩, .inl ⟨rfl, ?_⟩, .inl ⟨rfl, ?_⟩, .inl ⟨rfl, ?_⟩, .inl ⟨rfl, ?_⟩, .inl ⟨rfl, ?_⟩, .inl ⟨rfl, ?_⟩, .inl ⟨rfl, ?_⟩, .inl ⟨rfl, ?_⟩, .inl ⟨rfl, ?_⟩, trivial⟩
  all_goals intro done a wq hw h
  ·exact ch_call (by go_simp) (by go_simp) (KI.out _ ((Below.refl _ _).drew.trans h.bel))
  ·have e27 := cN 0 27 h hw; refine ch_pure ?_; go_simp
  ·have e28 := cN 1 28 h hw; exact ch_move (ch_ev e28)
  ·exact x97
  ·have e30 := cN 3 30 h hw; exact ch_call (by go_simp) (by go_simp) (KC.out _ ((Below.refl _ _).drew.trans h.bel))
  ·have e15 := cO 15 (iv m) h; exact ch_move (ch_ev e15)
  ·have e31 := cN 4 31 h hw; have e32 := cN 5 32 h hw; exact ch_neq_int (by kernel_rfl) (ch_ev e31) (ch_ev e32) (by simp)
  ·have e29 := cN 2 29 h hw; have e33 := cN 6 33 h hw; exact ch_pick_f e29 (ch_ev e33)
  ·have e34 := cN 7 34 h hw; exact ch_move (ch_ev e34)
  ·exact x97
  ·exact x151
  ·have e36 := cN 9 36 h hw; have e37 := cN 10 37 h hw; exact ch_call (by go_simp) (by go_simp) (KS.out _ ((Below.refl _ _).drew.trans h.bel))
  ·exact x97
  ·exact x151
  ·have e39 := cN 12 39 h hw; have e40 := cN 13 40 h hw; exact ch_call (by go_simp) (by go_simp) (KR.out _ ((Below.refl _ _).drew.trans h.bel))
  ·have e38 := cN 11 38 h hw; have e41 := cN 14 41 h hw; refine ch_pure ?_; go_simp
  ·have e35 := cN 8 35 h hw; have e42 := cN 15 42 h hw; exact ch_pick_f e35 (ch_ev e42)
 intro w4 hb
 simp only [putAll_some, putAll_none, putAll_nil, List.setIfInBounds_toArray, List.set_cons_zero, List.set_cons_succ]
 have hb : Below w3.heap.size w3 w4 := hb
 obtain ⟨a0r, a0f, a0n, a0c, a0z, a0l⟩ := keep1 (g := W.heap.size) (cs := devA d L) hb a0r (by first | (go_simp; done) | simp [chkA]) a0f
 obtain ⟨b0r, b0f, b0n, b0c, b0z, b0l⟩ := keep1 (g := (W.heap.size + 1)) (cs := chkA c.from_ c.to_ c.n c.of_ B c.data.length e) hb b0r (by first | (go_simp; done) | simp [chkA]) b0f
 obtain ⟨c0r, c0f, c0n, c0c, c0z, c0l⟩ := keep1 (g := (W.heap.size + 2)) (cs := devA g M) hb c0r (by first | (go_simp; done) | simp [chkA]) c0f
 obtain ⟨x0r, x0f, x0n, x0c, x0z, x0l⟩ := keep1 (g := w1.heap.size) (cs := devA x Lx) hb x0r (by first | (go_simp; done) | simp [chkA]) x0f
 have HB4 := bT HB3 hb
 have HX4 := hD (HX3.out.stays hb)
 clear hb HX3 HB3 KI KC KS KR hmm hbb RA FA RC FC KCD
 go_upto_region 5 with fail
 go_cut [72] (fun v wx => v = .bool false ∧ Hid (Below w4.heap.size w4 wx))
 case first =>
  clear a0r a0f a0n a0c a0z a0l b0r b0f b0n b0c b0z b0l c0r c0f c0n c0c c0z c0l hs1
  by_cases h64 : 64 < b.length
  ·have hxz := HXE.out.trans (if_pos h64)
   obtain ⟨rfl, rfl⟩ : x = Dev.zero ∧ xe = 1 := by injection hxz with h1 h2; exact ⟨h1, h2⟩
   have q1 : ((b.length : Int) <= 64) = False := by simp; omega
   have q2 : decide ((b.length : Int) <= 64) = false := decide_eq_false (by omega)
   have q3 : decide ((64 : Int) < (b.length : Int)) = true := decide_eq_true (by omega)
   have KS := hD (fun wq (h : Below w4.heap.size w4 wq) => refDevSame_calls Dev.zero Dev.zero Lx DLoc.zero wq (HX4.out.stays h) (DevIn.zero wq))
   rw [decide_eq_true rfl] at KS
   go_wp2_with fail
   have RX : Hid (rowOf w4.drew w1.heap.size = devA Dev.zero Lx) := hD (by rw [rowOf_drew]; exact x0r)
   have FX : Hid (frOf w4.drew w1.heap.size = (0, 0)) := hD (by rw [frOf_drew]; exact x0f)
   refine wp_region_chain (by kernel_rfl) (some 44 :: some 45 :: some 46 :: some 47 :: some 48 :: some 49 :: some 50 :: some 51 :: some 52 :: some 53 :: some 54 :: some 55 :: some 56 :: some 57 :: some 58 :: some 59 :: some 60 :: some 61 :: some 62 :: some 63 :: some 64 :: some 65 :: some 66 :: some 67 :: some 68 :: some 69 :: some 70 :: some 71 :: some 72 :: []) (.slice A b.length ca :: iv (b.length : Int) :: .bool true :: .bool true :: iv 1 :: .bool false :: .bool false :: .agg (devA Dev.zero Lx) :: .agg (devA Dev.zero DLoc.zero) :: .bool true :: .bool false :: .bool false :: .bool false :: .bool false :: .slice A b.length ca :: iv (b.length : Int) :: .bool false :: .bool false :: undef :: undef :: undef :: undef :: undef :: undef :: undef :: undef :: undef :: .bool false :: .bool false :: []) 163 rfl rfl (by decide +kernel) (by decide +kernel) (by decide +kernel) rfl ?_ ?_
   ·refine ⟨.inl ⟨rfl, ?_⟩, .inl ⟨rfl, ?_⟩, .inl ⟨rfl, ?_⟩, .inl ⟨rfl, ?_⟩, .inl ⟨rfl, ?_⟩, .inl ⟨rfl, ?_⟩, .inl ⟨rfl, ?_⟩, .inl ⟨rfl, ?_⟩, .inl ⟨rfl, ?_⟩, .inl ⟨rfl, ?_⟩, .inl ⟨rfl, ?_⟩, .inl ⟨rfl, ?_⟩, .inl ⟨rfl, ?_⟩, .inl ⟨rfl, ?_⟩, .inl ⟨rfl, ?_⟩, .inl ⟨rfl, ?_⟩, .inl ⟨rfl, ?_⟩, .inl ⟨rfl, ?_⟩, .inr ⟨rfl, rfl⟩, .inr ⟨rfl, rfl⟩, .inr ⟨rfl, rfl⟩, .inr ⟨rfl, rfl⟩, .inr ⟨rfl, rfl⟩, .inr ⟨rfl, rfl⟩, .inr ⟨rfl, rfl⟩, .inr ⟨rfl, rfl⟩, .inr ⟨rfl, rfl⟩, .inl ⟨rfl, ?_⟩, .inl ⟨rfl, ?_⟩, trivial⟩
    all_goals intro done a wq hw h
    ·have e4 := cO 4 (.slice A b.length ca) h; exact ch_move (ch_ev e4)
    ·have e44 := cN 0 44 h hw; refine ch_pure ?_; go_simp
    ·have e45 := cN 1 45 h hw; refine ch_pure ?_; go_simp
    ·have e46 := cN 2 46 h hw; exact ch_move (ch_ev e46)
    ·have e14 := cO 14 (iv 1) h; exact ch_move (ch_ev e14)
    ·have e48 := cN 4 48 h hw; exact ch_neq_int (by kernel_rfl) (ch_ev e48) rfl (by simp)
    ·have e49 := cN 5 49 h hw; exact ch_move (ch_ev e49)
    ·have e13 := cO 13 (.pointer (some ⟨w1.heap.size, 0, none⟩)) h; obtain ⟨r_, f_, n_, c_, z_, l_⟩ := kq h.bel RX FX; refine ch_pure ?_; go_simp
    ·refine ch_pure ?_; first | (go_simp; done) | (go_simp; rfl)
    ·have e51 := cN 7 51 h hw; have e52 := cN 8 52 h hw; exact ch_call (by go_simp) (by go_simp) (KS.out _ ((Below.refl _ _).drew.trans h.bel))
    ·have e53 := cN 9 53 h hw; refine ch_pure ?_; go_simp
    ·have e50 := cN 6 50 h hw; have e54 := cN 10 54 h hw; exact ch_pick_f e50 (ch_ev e54)
    ·have e47 := cN 3 47 h hw; have e55 := cN 11 55 h hw; exact ch_pick_t e47 (ch_ev e55)
    ·have e56 := cN 12 56 h hw; exact ch_move (ch_ev e56)
    ·have e4 := cO 4 (.slice A b.length ca) h; exact ch_move (ch_ev e4)
    ·have e58 := cN 14 58 h hw; refine ch_pure ?_; go_simp
    ·have e59 := cN 15 59 h hw; refine ch_pure ?_; go_simp
    ·have e60 := cN 16 60 h hw; exact ch_move (ch_ev e60)
    ·have e61 := cN 17 61 h hw; exact ch_pick_f e61 rfl
    ·have e57 := cN 13 57 h hw; have e71 := cN 27 71 h hw; exact ch_pick_f e57 (ch_ev e71)
   intro w5 hb
   simp only [putAll_some, putAll_none, putAll_nil, List.setIfInBounds_toArray, List.set_cons_zero, List.set_cons_succ]
   have HB5 : Hid (Below w4.heap.size w4 w5) := hD hb
   clear hb
   go_wp2_with fail
   go_meet
   case rel => exact ⟨rfl, HB5⟩
  have hxz := HXE.out.trans (if_neg h64)
  obtain ⟨rfl, rfl⟩ : x = newDev b ∧ xe = 0 := by injection hxz with h1 h2; exact ⟨h1, h2⟩
  have q2 : decide ((b.length : Int) <= 64) = true := decide_eq_true (by omega)
  have q3 : decide ((64 : Int) < (b.length : Int)) = false := decide_eq_false (by omega)
  have KF := hD (fun wq (h : Below w4.heap.size w4 wq) => refFresh_calls A ca b wq (by omega) (HAB.out.stays (HB4.out.trans (h.mono HB4.out.size))))
  have KS := hD (fun wq Ly (h : Below w4.heap.size w4 wq) (hy : DevIn wq (newDev b) Ly) => refDevSame_calls (newDev b) (newDev b) Lx Ly wq (HX4.out.stays h) hy)
  rw [decide_eq_true rfl] at KS
  generalize newDev b = nb at *
  clear h64 hxz
  go_wp2_with fail
  refine wp_region_freeG (by kernel_rfl) (some 44 :: some 45 :: some 46 :: some 47 :: some 48 :: some 49 :: some 50 :: some 51 :: some 52 :: some 53 :: some 54 :: some 55 :: some 56 :: some 57 :: some 58 :: some 59 :: some 60 :: some 61 :: some 62 :: some 63 :: some 64 :: some 65 :: some 66 :: some 67 :: some 68 :: some 69 :: some 70 :: some 71 :: some 72 :: []) (false :: false :: false :: false :: false :: false :: false :: false :: false :: false :: false :: false :: false :: false :: false :: false :: false :: false :: false :: false :: false :: false :: false :: true :: true :: false :: false :: false :: false :: []) (.slice A b.length ca :: iv (b.length : Int) :: .bool false :: .bool false :: undef :: undef :: undef :: undef :: undef :: undef :: undef :: undef :: .bool false :: .bool false :: .slice A b.length ca :: iv (b.length : Int) :: .bool true :: .bool true :: iv 0 :: .bool false :: .bool false :: .agg (devA nb Lx) :: .slice A b.length ca :: undef :: undef :: .bool false :: .bool false :: .bool false :: .bool false :: []) (frJ w4 nb) 163 rfl rfl (by decide +kernel) (by decide +kernel) (by decide +kernel) rfl rfl ⟨fun _ => rfl, fun h => absurd h (by decide), fun h => absurd h (by decide), (Below.refl _ _).drew⟩ ?_ ?_
  ·refine ⟨.inl ⟨rfl, ?_⟩, ?_⟩
   ·exact x132
   refine ⟨.inl ⟨rfl, ?_⟩, ?_⟩
   ·intro done cv a wq hn hw hcl h hJ
    have e44 := fN 0 44 h hw
    go_simp
   refine ⟨.inl ⟨rfl, ?_⟩, ?_⟩
   ·intro done cv a wq hn hw hcl h hJ
    have e45 := fN 1 45 h hw
    go_simp
   refine ⟨.inl ⟨rfl, ?_⟩, ?_⟩
   ·intro done cv a wq hn hw hcl h hJ
    have e46 := fN 2 46 h hw
    exact mx_move (ch_ev e46)
   refine ⟨.inr ⟨rfl, rfl, rfl⟩, ?_⟩
   refine ⟨.inr ⟨rfl, rfl, rfl⟩, ?_⟩
   refine ⟨.inr ⟨rfl, rfl, rfl⟩, ?_⟩
   refine ⟨.inr ⟨rfl, rfl, rfl⟩, ?_⟩
   refine ⟨.inr ⟨rfl, rfl, rfl⟩, ?_⟩
   refine ⟨.inr ⟨rfl, rfl, rfl⟩, ?_⟩
   refine ⟨.inr ⟨rfl, rfl, rfl⟩, ?_⟩
   refine ⟨.inr ⟨rfl, rfl, rfl⟩, ?_⟩
   refine ⟨.inl ⟨rfl, ?_⟩, ?_⟩
   ·intro done cv a wq hn hw hcl h hJ
    have e47 := fN 3 47 h hw
    exact mx_pick_f e47 rfl
   refine ⟨.inl ⟨rfl, ?_⟩, ?_⟩
   ·intro done cv a wq hn hw hcl h hJ
    have e56 := fN 12 56 h hw
    exact mx_move (ch_ev e56)
   refine ⟨.inl ⟨rfl, ?_⟩, ?_⟩
   ·exact x132
   refine ⟨.inl ⟨rfl, ?_⟩, ?_⟩
   ·intro done cv a wq hn hw hcl h hJ
    have e58 := fN 14 58 h hw
    go_simp
   refine ⟨.inl ⟨rfl, ?_⟩, ?_⟩
   ·intro done cv a wq hn hw hcl h hJ
    have e59 := fN 15 59 h hw
    go_simp
   refine ⟨.inl ⟨rfl, ?_⟩, ?_⟩
   ·intro done cv a wq hn hw hcl h hJ
    have e60 := fN 16 60 h hw
    exact mx_move (ch_ev e60)
   refine ⟨.inl ⟨rfl, ?_⟩, ?_⟩
   ·intro done cv a wq hn hw hcl h hJ
    have e14 := fO 14 (iv 0) h
    exact mx_move (ch_ev e14)
   refine ⟨.inl ⟨rfl, ?_⟩, ?_⟩
   ·intro done cv a wq hn hw hcl h hJ
    have e62 := fN 18 62 h hw
    go_simp
   refine ⟨.inl ⟨rfl, ?_⟩, ?_⟩
   ·intro done cv a wq hn hw hcl h hJ
    have e63 := fN 19 63 h hw
    exact mx_move (ch_ev e63)
   refine ⟨.inl ⟨rfl, ?_⟩, ?_⟩
   ·intro done cv a wq hn hw hcl h hJ
    have e13 := fO 13 (.pointer (some ⟨w1.heap.size, 0, none⟩)) h
    obtain ⟨r_, f_, n_, c_, z_, l_⟩ := keep1 hJ.2.2.2 x0r (by go_simp) x0f
    go_simp
   refine ⟨.inl ⟨rfl, ?_⟩, ?_⟩
   ·exact x132
   refine ⟨.inl ⟨rfl, ?_⟩, ?_⟩
   ·intro done cv a wq hn hw hcl h hJ
    have e66 := fN 22 66 h hw
    have n23 := hn
    have n24 := nW 24 23 hcl n23
    obtain rfl : wq = w4.drew := hJ.1 (by simp [maskB, n23])
    refine wp_call (vals := #[.slice A b.length ca]) (by rw [List.map_toArray, List.map_cons, List.map_nil, ch_ev e66]) (enters_of Tryz.func10 (by kernel_rfl) rfl _ _) (KF.out _ ((Below.refl _ _).drew)) ?_
    rintro e w' ⟨Ly, rfl, hy, hb⟩
    exact ⟨_, rfl, _, rfl, fun h => absurd h (by simp), fun _ => ⟨Ly, by simp, hy⟩, fun h => absurd h (by simp [maskB, n24]), (Below.refl _ _).drew.trans hb⟩
   refine ⟨.inl ⟨rfl, ?_⟩, ?_⟩
   ·intro done cv a wq hn hw hcl h hJ
    have e65 := fN 21 65 h hw
    have e67 := fr_cv (i := 23) (t := 67) h (hw 23 (by decide)) rfl rfl
    have n24 := hn
    have m23 := hw 23 (by decide)
    obtain ⟨Ly, y, hy⟩ := hJ.2.1 (by simp [maskB, m23])
    rw [y] at e67
    refine wp_call (vals := #[.agg (devA nb Lx), .agg (devA nb Ly)]) (by rw [List.map_toArray, List.map_cons, List.map_cons, List.map_nil, ch_ev e65, ch_ev e67]) (enters_of Tryz.func9 (by kernel_rfl) rfl _ _) (KS.out _ Ly hJ.2.2.2 hy) ?_
    rintro e w' ⟨rfl, hb⟩
    exact ⟨_, rfl, _, rfl, fun h => absurd h (by simp [maskB, m23]), fun _ => ⟨Ly, by simpa using y, hy.stays hb⟩, fun _ => by simp, hJ.2.2.2.trans (hb.mono hJ.2.2.2.size)⟩
   refine ⟨.inl ⟨rfl, ?_⟩, ?_⟩
   ·intro done cv a wq hn hw hcl h hJ
    have e68 := fr_cv (i := 24) (t := 68) h (hw 24 (by decide)) rfl rfl
    have m24 := hw 24 (by decide)
    rw [hJ.2.2.1 (by simp [maskB, m24])] at e68
    go_simp
   refine ⟨.inl ⟨rfl, ?_⟩, ?_⟩
   ·intro done cv a wq hn hw hcl h hJ
    have e64 := fN 20 64 h hw
    have e69 := fN 25 69 h hw
    exact mx_pick_f e64 (ch_ev e69)
   refine ⟨.inl ⟨rfl, ?_⟩, ?_⟩
   ·intro done cv a wq hn hw hcl h hJ
    have e61 := fN 17 61 h hw
    have e70 := fN 26 70 h hw
    exact mx_pick_t e61 (ch_ev e70)
   refine ⟨.inl ⟨rfl, ?_⟩, ?_⟩
   ·intro done cv a wq hn hw hcl h hJ
    have e57 := fN 13 57 h hw
    have e71 := fN 27 71 h hw
    exact mx_pick_f e57 (ch_ev e71)
   exact trivial
  intro dn cv w5 hall hJ
  simp only [freeAll, putAll_some, putAll_none, putAll_nil, List.getD_cons_zero, List.getD_cons_succ, Bool.false_eq_true, if_true, if_false, reduceIte, Nat.zero_add, Nat.reduceAdd, List.setIfInBounds_toArray, List.set_cons_zero, List.set_cons_succ]
  have HB5 : Hid (Below w4.heap.size w4 w5) := hD hJ.2.2.2
  clear hJ hall
  go_wp2_with fail
  go_meet
  case rel => exact ⟨rfl, HB5⟩
 case rest =>
 obtain ⟨rfl, hb⟩ := hcut
 obtain ⟨a0r, a0f, a0n, a0c, a0z, a0l⟩ := keep1 (g := W.heap.size) (cs := devA d L) hb.out a0r (by first | (go_simp; done) | simp [chkA]) a0f
 obtain ⟨b0r, b0f, b0n, b0c, b0z, b0l⟩ := keep1 (g := (W.heap.size + 1)) (cs := chkA c.from_ c.to_ c.n c.of_ B c.data.length e) hb.out b0r (by first | (go_simp; done) | simp [chkA]) b0f
 obtain ⟨c0r, c0f, c0n, c0c, c0z, c0l⟩ := keep1 (g := (W.heap.size + 2)) (cs := devA g M) hb.out c0r (by first | (go_simp; done) | simp [chkA]) c0f
 have HB5 := bT HB4 hb.out
 have hs5 : W.heap.size + 3 <= wc.heap.size := by have := hb.out.size; have := HB5.out.size; omega
 clear hb HX4 HB4 x0r x0f x0n x0c x0z x0l HXE
 have hk0 := Int.emod_nonneg kz (show (9 : Int) ≠ 0 by omega)
 have hk9 := Int.emod_lt_of_pos kz (show (0 : Int) < 9 by omega)
 have KAT := hD (fun w => at2_calls kz 9 w hz1 hz2 (by omega) (by omega))
 obtain ⟨k, hk⟩ : ∃ k : Nat, kz % 9 = (k : Int) := ⟨(kz % 9).toNat, by omega⟩
 rw [hk] at KAT
 have hk9 : k < 9 := by omega
 obtain ⟨KD, hKD⟩ : ∃ KD : Array Value, #[.int .i64 2, .int .i64 5, .int .i64 6, .int .i64 7, .int .i64 8, .int .i64 9, .int .i64 10, .int .i64 11, .int .i64 12] = KD := ⟨_, rfl⟩
 obtain ⟨kd, hkd, hkr⟩ : ∃ kd : Int, KD[k]? = some (iv kd) ∧ (kd = 2 ∨ 5 <= kd ∧ kd <= 12) := by
  rw [← hKD]
  match k, hk9 with
  | 0, _ => exact ⟨2, rfl, by omega⟩
  | 1, _ => exact ⟨5, rfl, by omega⟩
  | 2, _ => exact ⟨6, rfl, by omega⟩
  | 3, _ => exact ⟨7, rfl, by omega⟩
  | 4, _ => exact ⟨8, rfl, by omega⟩
  | 5, _ => exact ⟨9, rfl, by omega⟩
  | 6, _ => exact ⟨10, rfl, by omega⟩
  | 7, _ => exact ⟨11, rfl, by omega⟩
  | 8, _ => exact ⟨12, rfl, by omega⟩
 have HKD := hD hkd
 have HKR := hD hkr
 have HKE := hD hKD
 have hksz : KD.size = 9 := by rw [← hKD]; rfl
 clear hkd hkr hk hk0
 clear hKD
 go_wp2_with fail
 rw [HKE.out]
 obtain ⟨w6, hw6⟩ : ∃ w6, wc.alloc (.cells KD 3) = w6 := ⟨_, rfl⟩
 have hb : Below wc.heap.size wc w6 := by rw [← hw6]; exact (Below.refl _ _).alloc (Nat.le_refl _) _
 have k0 : rowOf w6 wc.heap.size = KD ∧ frOf w6 wc.heap.size = (0, 0) := by rw [← hw6]; exact ⟨by rw [rowOf_alloc, if_pos rfl], by rw [frOf_alloc, if_pos rfl]⟩
 obtain ⟨a0r, a0f, a0n, a0c, a0z, a0l⟩ := keep1 (g := W.heap.size) (cs := devA d L) hb a0r (by first | (go_simp; done) | simp [chkA]) a0f
 obtain ⟨b0r, b0f, b0n, b0c, b0z, b0l⟩ := keep1 (g := (W.heap.size + 1)) (cs := chkA c.from_ c.to_ c.n c.of_ B c.data.length e) hb b0r (by first | (go_simp; done) | simp [chkA]) b0f
 obtain ⟨c0r, c0f, c0n, c0c, c0z, c0l⟩ := keep1 (g := (W.heap.size + 2)) (cs := devA g M) hb c0r (by first | (go_simp; done) | simp [chkA]) c0f
 obtain ⟨k0r, k0f, k0n, k0c, k0z, k0l⟩ := keep1 (Below.refl w6.heap.size w6) k0.1 (by omega) k0.2
 have HB6 := bT HB5 hb
 have hs6 : wc.heap.size < w6.heap.size := k0l
 rw [hw6]
 clear hw6 hb k0 HB5
 refine (KAT.out _).mono ?_
 rintro en w7 ⟨rfl, rfl⟩
 have hp := k0c k
 rw [HKD.out] at hp
 have i1 : (0 : Int) <= (k : Int) := by omega
 have i2 : (k : Int) < 9 := by omega
 have i3 : ¬ (9 : Int) <= (k : Int) := by omega
 clear k0r k0c k0f KAT
 go_upto_region 9 with fail
 obtain ⟨w8, hw8⟩ : ∃ w8, w6.alloc (.cells (devA Dev.zero DLoc.zero) 37) = w8 := ⟨_, rfl⟩
 have hb : Below w6.heap.size w6 w8 := by rw [← hw8]; exact (Below.refl _ _).alloc (Nat.le_refl _) _
 have y0 : rowOf w8 w6.heap.size = devA Dev.zero DLoc.zero ∧ frOf w8 w6.heap.size = (0, 0) := by rw [← hw8]; exact ⟨by rw [rowOf_alloc, if_pos rfl], by rw [frOf_alloc, if_pos rfl]⟩
 obtain ⟨a0r, a0f, a0n, a0c, a0z, a0l⟩ := keep1 (g := W.heap.size) (cs := devA d L) hb a0r (by first | (go_simp; done) | simp [chkA]) a0f
 obtain ⟨b0r, b0f, b0n, b0c, b0z, b0l⟩ := keep1 (g := (W.heap.size + 1)) (cs := chkA c.from_ c.to_ c.n c.of_ B c.data.length e) hb b0r (by first | (go_simp; done) | simp [chkA]) b0f
 obtain ⟨c0r, c0f, c0n, c0c, c0z, c0l⟩ := keep1 (g := (W.heap.size + 2)) (cs := devA g M) hb c0r (by first | (go_simp; done) | simp [chkA]) c0f
 obtain ⟨y0r, y0f, y0n, y0c, y0z, y0l⟩ := keep1 (Below.refl w8.heap.size w8) y0.1 (by go_simp) y0.2
 have HB8 := bT HB6 hb
 rw [hw8]
 obtain ⟨gy, hgy⟩ : ∃ gy, w6.heap.size = gy := ⟨_, rfl⟩
 rw [hgy] at y0r y0f y0n y0c y0z y0l hs6 ⊢
 clear hw8 hb y0 HB6 hgy hp k0n k0z k0l
 obtain ⟨⟨y, f⟩, hyf⟩ : ∃ q, devActs d c kd n = q := ⟨_, rfl⟩
 have HYF := hD hyf
 clear hyf
 go_cut [17] (fun v wx => v = iv 0 ∧ w8 = wx)
 case first =>
  go_wp2_with fail
  go_meet
  case rel => exact ⟨rfl, rfl⟩
 case rest =>
 obtain ⟨rfl, rfl⟩ := hcut
 apply_assumption
 refine wp_seq_k (fun K9 hK9 => ?_)
 go_cut [17] (fun v wx => v = iv f ∧ YAt w8 wx gy y)
 case first =>
  rcases (show kd = 2 ∨ kd = 5 ∨ kd = 6 ∨ kd = 7 ∨ kd = 8 ∨ kd = 9 ∨ kd = 10 ∨ kd = 11 ∨ kd = 12 by have := HKR.out; omega) with rfl | rfl | rfl | rfl | rfl | rfl | rfl | rfl | rfl
  ·have he : devActs d c 2 n = devHear d c := by simp [devActs, devAct]
   have hyf := HYF.out
   rw [he] at hyf
   have K := fun w h h2 => devHear_calls d L c B e w h h2
   rw [hyf] at K
   have K := hD K
   clear hyf he
   go_wp2_with fail
   refine (K.out _ (HIN.out.stays HB8.out) (HCK.out.stays HB8.out)).mono ?_
   rintro en w9 ⟨Ly, rfl, hf, hb⟩
   obtain ⟨z0r, z0f, z0n, z0c, z0z, z0l⟩ := keep1 (g := gy) (cs := devA Dev.zero DLoc.zero) hb y0r (by go_simp) y0f
   have HY := hD (YAt.of hf hb y0l (by rw [z0r, devA_size]; decide) z0f)
   clear hb hf
   go_wp2_with fail
   go_meet
   case rel => exact ⟨rfl, HY.out⟩
  ·have he : devActs d c 5 n = devOpen d := by simp [devActs, devAct]
   have hyf := HYF.out
   rw [he] at hyf
   have K := fun w h => devOpen_calls d L w h
   exact x5
  ·have he : devActs d c 6 n = devWrite d false n := by simp [devActs, devAct]
   have hyf := HYF.out
   rw [he] at hyf
   have K := fun w h => devWrite_calls d L false n w h
   exact x5
  ·have he : devActs d c 7 n = devFinish d false := by simp [devActs, devAct]
   have hyf := HYF.out
   rw [he] at hyf
   have K := fun w h => devFinish_calls d L false w h
   exact x5
  ·have he : devActs d c 8 n = devConfirm d := by simp [devActs, devAct]
   have hyf := HYF.out
   rw [he] at hyf
   have K := fun w h => devConfirm_calls d L w h
   exact x5
  ·have he : devActs d c 9 n = devCrash d := by simp [devActs, devAct]
   have hyf := HYF.out
   rw [he] at hyf
   have K := fun w h => devCrash_calls d L w h
   exact x5
  ·have he : devActs d c 10 n = devBoot d := by simp [devActs, devAct]
   have hyf := HYF.out
   rw [he] at hyf
   have K := fun w h => devBoot_calls d L w h
   exact x5
  ·have he : devActs d c 11 n = devWrite d true n := by simp [devActs, devAct]
   have hyf := HYF.out
   rw [he] at hyf
   have K := fun w h => devWrite_calls d L true n w h
   exact x5
  have he : devActs d c 12 n = devFinish d true := by simp [devActs, devAct]
  have hyf := HYF.out
  rw [he] at hyf
  have K := fun w h => devFinish_calls d L true w h
  exact x5
 case rest =>
 obtain ⟨rfl, Ly, y1, y2, hyin, hby, hk9⟩ := hcut
 have HB9 : Hid (Below W.heap.size W wc) := hD (HB8.out.trans (hby.mono (by omega)))
 obtain ⟨a0r, a0f, a0n, a0c, a0z, a0l⟩ := keepH (hk9 _ (by omega) (by omega)) a0r (by go_simp) a0f
 obtain ⟨b0r, b0f, b0n, b0c, b0z, b0l⟩ := keepH (hk9 _ (by omega) (by omega)) b0r (by simp [chkA]) b0f
 obtain ⟨y0r, y0f, y0n, y0c, y0z, y0l⟩ := keep1 (Below.refl wc.heap.size wc) y1 (by go_simp) y2
 have HYI := hD hyin
 clear hby hk9 y1 y2 hyin c0r c0f c0n c0c c0z c0l HB8
 by_cases hz : m = 0
 case neg =>
  have he := devActs_bad (d := d) (by rw [HM.out]; exact hz) c n HKR.out
  rw [HM.out, HYF.out] at he
  obtain ⟨rfl, rfl⟩ : y = Dev.zero ∧ f = m := by injection he with h1 h2; exact ⟨h1, h2⟩
  have q : (f != 0) = true := by simp [hz]
  have KS := hD (fun wq (h : Below wc.heap.size wc wq) => refDevSame_calls Dev.zero Dev.zero Ly DLoc.zero wq (HYI.out.stays h) (DevIn.zero wq))
  rw [decide_eq_true rfl] at KS
  clear he hz HYF
  go_wp2_with fail
  refine (KS.out _ (by repeat (first | exact Below.refl _ _ | refine bA ?_ _))).mono ?_
  rintro en w10 ⟨rfl, hb⟩
  have HB10 : Hid (Below W.heap.size W w10) := hD (by
   refine Below.trans ?_ (hb.mono (by have := HB9.out.size; first | omega | (simp <;> omega)))
   have hs := HB9.out.size
   repeat (first | exact HB9.out | refine bA ?_ _))
  clear hb
  go_wp2_with fail
  go_ret
  refine ⟨rfl, ?_⟩
  have hs := HB10.out.size
  exact x0
 subst hz
 have hok := devCheck_ok.1 HM.out
 have KA := hD (fun wq (h : Below wc.heap.size wc wq) => acts_calls (fun k => k < wq.heap.size) d L kd n c B e wq HKR.out hok HN.out (On.of fun v hv => (HIN.out.stays (HB9.out.trans (h.mono HB9.out.size))).stays hv) (On.of fun v hv => (HCK.out.stays (HB9.out.trans (h.mono HB9.out.size))).stays hv))
 rw [HYF.out] at KA
 clear hok
 go_wp2_with fail
 refine (KA.out _ (by repeat (first | exact Below.refl _ _ | refine bA ?_ _))).mono ?_
 rintro en w10 ⟨L2, rfl, hon, hb⟩
 have hb2 : Below wc.heap.size wc w10 := Below.trans (by repeat (first | exact Below.refl _ _ | refine bA ?_ _)) (hb.mono (by first | omega | (simp <;> omega)))
 obtain ⟨y0r, y0f, y0n, y0c, y0z, y0l⟩ := keep1 (g := gy) (cs := devA y Ly) hb2 y0r (by go_simp) y0f
 have HB10 := bT HB9 hb2
 have H2 := hD hon.now
 have HYI := hD (HYI.out.stays hb2)
 clear hb hb2 hon KA HB9
 have KS := hD (fun wq (h : Below w10.heap.size w10 wq) => refDevSame_calls y y Ly L2 wq (HYI.out.stays h) (H2.out.stays h))
 rw [decide_eq_true rfl] at KS
 go_wp2_with fail
 refine (KS.out _ (by repeat (first | exact Below.refl _ _ | refine bA ?_ _))).mono ?_
 rintro en w11 ⟨rfl, hb⟩
 have HB11 : Hid (Below W.heap.size W w11) := hD (by
  refine Below.trans ?_ (hb.mono (by have := HB10.out.size; first | omega | (simp <;> omega)))
  have hs := HB10.out.size
  repeat (first | exact HB10.out | refine bA ?_ _))
 clear hb
 go_wp2_with fail
 go_ret
 refine ⟨rfl, ?_⟩
 have hs := HB11.out.size
 exact x0
end Go.Proofs.YtefkfglkpebbmacGreat
