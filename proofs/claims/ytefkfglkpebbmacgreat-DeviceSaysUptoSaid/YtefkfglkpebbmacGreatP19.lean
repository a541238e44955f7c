/- Walks of functions, and plain words. No conditions. -/
import Derived.Test.YtefkfglkpebbmacGreatP16
import Derived.Test.YtefkfglkpebbmacGreatP17
import Derived.Laws.EntriesVeiled
set_option linter.unusedVariables false
set_option linter.unusedSimpArgs false
set_option maxRecDepth 100000
set_option maxHeartbeats 40000000
namespace Go.Proofs.YtefkfglkpebbmacGreat
open Go.RowKit
variable {w : World}
theorem big_infs' (n : Nat) (h : 0 < n) : bigBuild Tryz.prog 26 n := by
 obtain ⟨i, hi, _⟩ := info_parts (P := Tryz.prog) (e := 26) (z := .agg (infsA Inf.zero Inf.zero)) (size := 6) (bytes := 48) (by kernel_rfl)
 exact ⟨i, hi, h⟩
theorem big_rec' (n : Nat) (h : 0 < n) : bigBuild Tryz.prog 28 n := by
 exact x149
theorem big_cops' (n : Nat) (h : 0 < n) : bigBuild Tryz.prog 31 n := by
 obtain ⟨i, hi, _⟩ := info_parts (P := Tryz.prog) (e := 31) (z := .agg (copsA Cop.zero Cop.zero)) (size := 24) (bytes := 192) (by kernel_rfl)
 exact ⟨i, hi, h⟩
@[go_sem] theorem big_infs1 : bigBuild Tryz.prog 26 1 := big_infs' 1 (by decide)
@[go_sem] theorem big_rec3 : bigBuild Tryz.prog 28 3 := big_rec' 3 (by decide)
@[go_sem] theorem big_rec4 : bigBuild Tryz.prog 28 4 := big_rec' 4 (by decide)
@[go_sem] theorem big_cops1 : bigBuild Tryz.prog 31 1 := big_cops' 1 (by decide)
@[go_sem] theorem big_cops2 : bigBuild Tryz.prog 31 2 := big_cops' 2 (by decide)
@[go_sem] theorem build_inf1 (a : Int) (w : World) : runBuild Tryz.prog 25 #[(0, .int .i64 a)] w = .ok (.agg (infA ⟨a, 0, 0⟩)) w := by kernel_rfl
@[go_sem] theorem build_infs1 (x : Inf) (w : World) : runBuild Tryz.prog 26 #[(0, .agg (infA x))] w = .ok (.agg (infsA x Inf.zero)) w := by kernel_rfl
@[go_sem] theorem build_infs2 (x y : Inf) (w : World) : runBuild Tryz.prog 26 #[(0, .agg (infA x)), (1, .agg (infA y))] w = .ok (.agg (infsA x y)) w := by kernel_rfl
@[go_sem] theorem build_rec3 (g f : Int) (x y : Inf) (w : World) : runBuild Tryz.prog 28 #[(0, .int .i64 g), (4, .int .i64 f), (5, .agg (infsA x y))] w = .ok (.agg (recA ⟨g, 0, false, 0, f, x, y⟩)) w := by kernel_rfl
@[go_sem] theorem build_rec4 (g k f : Int) (x y : Inf) (w : World) : runBuild Tryz.prog 28 #[(0, .int .i64 g), (1, .int .i64 k), (4, .int .i64 f), (5, .agg (infsA x y))] w = .ok (.agg (recA ⟨g, k, false, 0, f, x, y⟩)) w := by kernel_rfl
@[go_sem] theorem build_cops1 (c : Cop) (w : World) : runBuild Tryz.prog 31 #[(0, .agg (copA c))] w = .ok (.agg (copsA c Cop.zero)) w := by kernel_rfl
@[go_sem] theorem build_cops2 (c d : Cop) (w : World) : runBuild Tryz.prog 31 #[(0, .agg (copA c)), (1, .agg (copA d))] w = .ok (.agg (copsA c d)) w := by kernel_rfl
theorem confirmed_calls (r : Rec) (w : World) (ha : 0 <= r.active ∧ r.active <= 1) : Calls Tryz.prog 58 #[.agg (recA r)] w (RetB w (.agg (recA (recDone r)))) := by
 go_enter Tryz.func58, Tryz.ntmps58
 have hk : r.active = 0 ∨ r.active = 1 := by omega
 obtain ⟨ha1, ha2⟩ := ha
 rcases hk with hk | hk
 ·have HE := hD (show recDone r = (⟨r.gen, 1, false, 0, max r.floor r.b.ver, r.a, r.b⟩ : Rec) by unfold recDone Rec.at_; simp [hk])
  go_wp2_with fail
  go_region
  all_goals go_wp2_with fail
  all_goals (
   refine bodyPost_ret (results_c rfl rfl (cs := recA ⟨r.gen, 1, false, 0, max r.floor r.b.ver, r.a, r.b⟩) (by go_simp <;> (refine congrArg (fun z => recA ⟨_, _, _, _, z, _, _⟩) ?_; omega)) (by go_simp) (by go_simp)) rfl ⟨by rw [HE.out], ?_⟩
   exact x71)
 have HE := hD (show recDone r = (⟨r.gen, 0, false, 0, max r.floor r.a.ver, r.a, r.b⟩ : Rec) by unfold recDone Rec.at_; simp [hk])
 go_wp2_with fail
 go_region
 all_goals go_wp2_with fail
 all_goals (
  refine bodyPost_ret (results_c rfl rfl (cs := recA ⟨r.gen, 0, false, 0, max r.floor r.a.ver, r.a, r.b⟩) (by go_simp <;> (refine congrArg (fun z => recA ⟨_, _, _, _, z, _, _⟩) ?_; omega)) (by go_simp) (by go_simp)) rfl ⟨by rw [HE.out], ?_⟩
  exact x71)
theorem written_calls (c d : Cop) (r : Rec) (torn : Bool) (w : World) (h : copCheck c d = 0) : Calls Tryz.prog 53 #[.agg (copsA c d), .agg (recA r), .bool torn] w
  (RetB w (.tuple #[.agg (copsA (recWrite c d r torn).1.1 (recWrite c d r torn).1.2), iv (recWrite c d r torn).2])) := by
 have hrg := recCheck_range0 (recRead_ok h)
 have hk : (recRead c d).2 = 0 ∨ (recRead c d).2 = 1 := by unfold recRead; split <;> simp
 have hw : recWrite c d r torn = if recCheck { r with gen := (recRead c d).1.gen + 1 } = 0 then (recPut c d r torn, 0) else ((Cop.zero, Cop.zero), recCheck { r with gen := (recRead c d).1.gen + 1 }) := by unfold recWrite; rw [if_pos h]
 have hp : recPut c d r torn = if (recRead c d).2 = 0 then (c, if torn = true then Cop.zero else ⟨true, { r with gen := (recRead c d).1.gen + 1 }⟩) else (if torn = true then Cop.zero else ⟨true, { r with gen := (recRead c d).1.gen + 1 }⟩, d) := rfl
 have hread := newest_calls c d
 rw [refNewest_ok h] at hread
 generalize recRead c d = q at *
 obtain ⟨was, k⟩ := q
 simp only at hk hw hp hread hrg
 have HW := hD hw
 have HP := hD hp
 have HRd := hD hread
 have hg1 := hrg.1
 have hg2 := hrg.2.1
 clear hw hp hread hrg h
 go_enter Tryz.func53, Tryz.ntmps53
 go_wp2_with fail
 refine (HRd.out _).mono ?_
 rintro e w1 ⟨rfl, hb1⟩
 obtain ⟨r0, f0, n0, c0, z0, l0⟩ := keep1 (g := w.heap.size) (cs := copsA c d) hb1 (by go_simp) (by go_simp) (by go_simp)
 obtain ⟨r1, f1, n1, c1, z1, l1⟩ := keep1 (g := w.heap.size + 1) (cs := recA r) hb1 (by go_simp) (by go_simp) (by go_simp)
 obtain ⟨r2, f2, n2, c2, z2, l2⟩ := keep1 (g := w.heap.size + 1 + 1) (cs := copsA Cop.zero Cop.zero) hb1 (by go_simp) (by go_simp) (by go_simp)
 have HB := hD (((((Below.refl _ _).alloc (Nat.le_refl _) _).alloc (by simp) _).alloc (by simp; omega) _).trans (hb1.mono (B' := w.heap.size) (by simp; omega)))
 clear hb1
 go_wp2_with fail
 refine (refRecCheck_calls { r with gen := was.gen + 1 } _).mono ?_
 rintro e w2 ⟨rfl, hb2⟩
 obtain ⟨r5, f5, n5, c5, z5, l5⟩ := keep1 (g := w.heap.size) (cs := copsA c d) hb2 (by go_simp) (by go_simp) (by go_simp)
 obtain ⟨r6, f6, n6, c6, z6, l6⟩ := keep1 (g := w.heap.size + 1) (cs := recA { r with gen := was.gen + 1 }) hb2 (by go_simp) (by go_simp) (by go_simp)
 obtain ⟨r7, f7, n7, c7, z7, l7⟩ := keep1 (g := w.heap.size + 1 + 1) (cs := copsA Cop.zero Cop.zero) hb2 (by go_simp) (by go_simp) (by go_simp)
 have hs := HB.out.size
 have HB2 : Hid (Below w.heap.size w w2) := ((HB.out.setCell (p := ⟨w.heap.size + 1, 0, none⟩) (by simp) (.int .i64 (was.gen + 1))).alloc (by simp; omega) (.cells (recA was) 28)).trans (hb2.mono (by simp; omega))
 have hs2 := HB2.out.size
 clear hb2 r0 f0 n0 c0 z0 l0 r1 f1 n1 c1 z1 l1 r2 f2 n2 c2 z2 l2 hs
 by_cases hz : recCheck { r with gen := was.gen + 1 } = 0
 ·have hz' : (recCheck { r with gen := was.gen + 1 } != 0) = false := by simp [hz]
  have HE := hD (HW.out.trans (if_pos hz))
  clear hz HW
  rcases hk with rfl | rfl
  ·have HP2 := hD (HP.out.trans (if_pos rfl))
   cases torn
   ·go_wp2_with fail
    refine bodyPost_ret (rC (copsA c ⟨true, { r with gen := was.gen + 1 }⟩)) rfl ⟨by rw [HE.out, HP2.out]; rfl, ?_⟩
    exact x0
   go_wp2_with fail
   refine bodyPost_ret (rC (copsA c Cop.zero)) rfl ⟨by rw [HE.out, HP2.out]; rfl, ?_⟩
   exact x0
  have HP2 := hD (HP.out.trans (if_neg (by decide)))
  cases torn
  ·go_wp2_with fail
   refine bodyPost_ret (rC (copsA ⟨true, { r with gen := was.gen + 1 }⟩ d)) rfl ⟨by rw [HE.out, HP2.out]; rfl, ?_⟩
   exact x0
  go_wp2_with fail
  refine bodyPost_ret (rC (copsA Cop.zero d)) rfl ⟨by rw [HE.out, HP2.out]; rfl, ?_⟩
  exact x0
 have hz' : (recCheck { r with gen := was.gen + 1 } != 0) = true := by simp [hz]
 have HE := hD (HW.out.trans (if_neg hz))
 clear hz HW HP hk
 go_wp2_with fail
 refine bodyPost_ret (rC (copsA Cop.zero Cop.zero)) rfl ⟨by rw [HE.out]; rfl, ?_⟩
 exact x0
@[go_sem] theorem build_devF (a b : Option Addr) (c e : Nat) (x y : List UInt8) (p q : Cop) (w : World) : runBuild Tryz.prog 37 #[(2, .bool true), (0, .agg (slotsA a x.length c b y.length e)), (1, .agg (copsA p q))] w = .ok (.agg (devA ⟨x, y, p, q, true, 0, [], false, Pat.zero, 0⟩ ⟨a, c, b, e, none, 0, none, 0⟩)) w := by kernel_rfl
@[go_sem] theorem big_dev3F : bigBuild Tryz.prog 37 3 := big_dev' 3 (by decide)
def FdRet (w : World) (d : Dev) : Ending -> World -> Prop := fun en w' => ∃ L, en = .returned (.agg (devA d L)) ∧ DevIn w' d L ∧ Below w.heap.size w w'
theorem refFresh_calls (A : Option Addr) (c : Nat) (b : List UInt8) (w : World) (hl : b.length <= 64) (hB : Bts w A b) : Calls Tryz.prog 10 #[.slice A b.length c] w (FdRet w (newDev b)) := by
 have HBA := hD ((Below.refl w.heap.size w).alloc (Nat.le_refl _) (.cells (devA Dev.zero DLoc.zero) 37))
 have HB := hD hB
 have KR := hD (fun w h => filled_calls A c b w hl h)
 have KN := hD (fun w => filled_calls none 0 [] w (by simp) (bts_nil w none))
 have KS := hD (fun w h => refSumOf_calls A c b w (by omega) h)
 have HRL : Hid ((room b).length = 64 ∧ (room []).length = 64) := hD ⟨room_len hl, room_len (by simp)⟩
 obtain ⟨s, hs⟩ : ∃ s, sumOn 1 b = s := ⟨_, rfl⟩
 rw [hs] at KS
 obtain ⟨rb, hrb⟩ : ∃ rb, room b = rb := ⟨_, rfl⟩
 obtain ⟨rn, hrn⟩ : ∃ rn, room [] = rn := ⟨_, rfl⟩
 rw [hrb] at KR HRL
 rw [hrn] at KN HRL
 have hnd : newDev b = ⟨rb, rn, ⟨true, ⟨1, 0, false, 0, 1, ⟨1, b.length, s⟩, Inf.zero⟩⟩, Cop.zero, true, 0, [], false, Pat.zero, 0⟩ := by unfold newDev; rw [hrb, hrn, hs]
 rw [hnd]
 clear hnd hs hrb hrn hl hB
 go_enter Tryz.func10, Tryz.ntmps10
 go_wp2_with fail
 refine (KR.out _ (HB.out.stays HBA.out)).mono ?_
 rintro e w1 ⟨A1, c1, rfl, ho1, hb⟩
 obtain ⟨a0r, a0f, a0n, a0c, a0z, a0l⟩ := kp (w.heap.size) (devA Dev.zero DLoc.zero) hb
 have HB1 : Hid (Below w.heap.size w w1) := hD (HBA.out.trans (hb.mono (by simp)))
 have HO1 := hD ho1
 clear hb ho1
 go_wp2_with fail
 refine (KN.out _).mono ?_
 rintro e w2 ⟨A2, c2, rfl, ho2, hb⟩
 obtain ⟨a0r, a0f, a0n, a0c, a0z, a0l⟩ := kp (w.heap.size) (devA Dev.zero DLoc.zero) hb
 have HB2 := bT HB1 hb
 have HX : Hid (Bts w2 A1 rb ∧ rb.length <= c1 ∧ Bts w2 A2 rn ∧ rn.length <= c2) := hD ⟨HO1.out.src.bts.stays hb, HO1.out.le, ho2.src.bts, ho2.le⟩
 have HA1 : Hid (A1.map (·.block) ≠ some w.heap.size) := hD (fun h => by have := (HO1.out.block _ h).1; simp at this; omega)
 have HA2 : Hid (A2.map (·.block) ≠ some w.heap.size) := hD (fun h => by have := (ho2.block _ h).1; have := HB1.out.size; have := a0l; omega)
 clear hb ho2 HO1
 go_wp2_with fail
 refine (KS.out _ (HB.out.stays HB2.out)).mono ?_
 rintro e w3 ⟨rfl, rfl⟩
 go_wp2_with fail
 refine bodyPost_ret (results_c rfl rfl (cs := devA ⟨rb, rn, ⟨true, ⟨1, 0, false, 0, 1, ⟨1, b.length, s⟩, Inf.zero⟩⟩, Cop.zero, true, 0, [], false, Pat.zero, 0⟩ ⟨A1, c1, A2, c2, none, 0, none, 0⟩) (by go_simp; first | rfl | done) (by go_simp) (by go_simp)) rfl ⟨⟨A1, c1, A2, c2, none, 0, none, 0⟩, rfl, ?_, ?_⟩
 ·have hin : ∀ v, Bts v A1 rb -> Bts v A2 rn -> DevIn v ⟨rb, rn, ⟨true, ⟨1, 0, false, 0, 1, ⟨1, b.length, s⟩, Inf.zero⟩⟩, Cop.zero, true, 0, [], false, Pat.zero, 0⟩ ⟨A1, c1, A2, c2, none, 0, none, 0⟩ := fun v h1 h2 => ⟨HX.out.2.1, by show rb.length <= _; rw [HRL.out.1]; decide, h1, HX.out.2.2.2, by show rn.length <= _; rw [HRL.out.2]; decide, h2, Nat.le_refl _, Nat.zero_le _, Chs.nil _ _, pat_in_zero v, ⟨by show -9223372036854775808 <= (0:Int); omega, by show (0:Int) <= 9223372036854775807; omega⟩, ⟨by show -9223372036854775808 <= (0:Int); omega, by show (0:Int) <= 9223372036854775807; omega⟩⟩
  have hk : ∀ (cs : Array Value) l A, A.map (·.block) ≠ some w.heap.size -> Bts w2 A l -> Bts (w2.setRow w.heap.size cs) A l := fun cs l A hA h i hi => by
   obtain ⟨p, o, e1, h1, h2⟩ := h i hi
   subst e1
   refine ⟨p, o, rfl, by simpa [World.setRow] using h1, ?_⟩
   rw [← h2]
   exact World.cell?_of_block (setRow_other _ _ _ _ (fun e => hA (congrArg some e)))
  exact hin _ (hk _ _ _ HA1.out HX.out.1) (hk _ _ _ HA2.out HX.out.2.2.1)
 have hs := HB2.out.size
 exact x0
def On (S : Nat -> Prop) (w : World) (P : World -> Prop) : Prop := ∀ v : World, Below 0 w v -> (∀ k, S k -> k < w.heap.size -> v.heap[k]? = w.heap[k]?) -> P v
section
variable {S T : Nat -> Prop} {w w' : World} {P Q : World -> Prop}
theorem On.now (h : On S w P) : P w := h w (Below.refl _ _) fun _ _ _ => rfl
theorem On.below (h : On S w P) (hb : Below w.heap.size w w') : On S w' P := fun v h1 h2 => h v ((hb.mono (Nat.zero_le _)).trans h1) fun k hk hlt => (h2 k hk (Nat.lt_of_lt_of_le hlt hb.size)).trans (hb.block k hlt)
theorem On.at_ (h : On S w P) (hb : Below w.heap.size w w') : P w' := (h.below hb).now
theorem On.sub (h : On S w P) (hs : ∀ k, k < w.heap.size -> S k -> T k) : On T w P := fun v h1 h2 => h v h1 fun k hk hlt => h2 k (hs k hlt hk) hlt
theorem On.imp (h : On S w P) (hq : ∀ v, P v -> Q v) : On S w Q := fun v h1 h2 => hq v (h v h1 h2)
theorem On.and (h : On S w P) (g : On S w Q) : On S w (fun v => P v ∧ Q v) := fun v h1 h2 => ⟨h v h1 h2, g v h1 h2⟩
theorem below0_row (w : World) (g : Nat) (cs : Array Value) : Below 0 w (w.setRow g cs) := below_row (Below.refl _ _) (Nat.zero_le _) cs
theorem On.row (h : On S w P) {g : Nat} (hg : ¬ S g) (cs : Array Value) : On S (w.setRow g cs) P := fun v h1 h2 => h v ((below0_row w g cs).trans h1) fun k hk hlt =>
 (h2 k hk (by simpa [World.setRow] using hlt)).trans (setRow_other _ _ _ _ (fun e => hg (e ▸ hk)))
theorem On.cell (h : On S w P) {p : Addr} (hg : ¬ S p.block) (u : Value) : On S (w.setCell p u) P := fun v h1 h2 => h v (((Below.refl 0 w).setCell (Nat.zero_le _) u).trans h1) fun k hk hlt =>
 (h2 k hk (by simpa using hlt)).trans (Below.heap_setCell _ _ _ _ (fun e => hg (e ▸ hk)))
theorem On.of (hP : ∀ v, Below w.heap.size w v -> P v) : On (fun k => k < w.heap.size) w P := fun v h1 h2 => hP v ⟨h1.os, h1.tape, h1.output, h1.size, fun k hk => h2 k hk hk⟩
theorem On.fresh {base : Nat} (h : Fresh base w P) : On (fun k => base <= k) w P := fun v _ h2 => h v h2
theorem On.const (h : ∀ v, P v) : On S w P := fun v _ _ => h v
theorem cell_gone (w : World) (q j : Nat) (h : q < w.heap.size) : (w.setRow q #[]).cell? ⟨q, j, none⟩ = none ∨ ∀ i, w.cell? ⟨q, i, none⟩ = none := by
 cases ho : w.heap[q]? with
 | none => rw [Array.getElem?_eq_getElem h] at ho; cases ho
 | some o =>
  cases o with
  | cells cs t fr =>
   left
   rw [cell_of_row _ _ _ _ _ _ (setRow_heap w q cs #[] t fr ho)]; rfl
  | _ => right; intro i; unfold World.cell?; simp [ho]
theorem On.bts_in {B : Option Addr} {x : List UInt8} (h : On S w (fun v => Bts v B x)) (hx : x ≠ []) : ∀ k, B.map (·.block) = some k -> S k ∧ k < w.heap.size := by
 intro k hk
 obtain ⟨b, o, e1, hlt, hc⟩ := h.now 0 (List.length_pos_iff.2 hx)
 subst e1
 injection hk with hk
 have hk : b = k := hk
 subst hk
 refine ⟨Classical.byContradiction fun hn => ?_, hlt⟩
 have hv := (h.row hn #[]).now 0 (List.length_pos_iff.2 hx)
 obtain ⟨b', o', e2, _, hc2⟩ := hv
 injection e2 with e2
 injection e2 with e3 e4
 subst e3 e4
 rcases cell_gone w b (o + 0) hlt with h9 | h9
 ·rw [h9] at hc2; cases hc2
 rw [h9] at hc; cases hc
theorem On.chk_in {A : Option Addr} {l : List Chk} (h : On S w (fun v => Chs v A l)) {j b o : Nat} {D : Option Addr} {e : Nat} (hj : j < l.length) (hA : A = some ⟨b, o, none⟩) (hat : ChkAt w b (o + j * 5) l[j] D e) (hx : l[j].data ≠ []) (hin : ChkIn w l[j] D e) : ∀ k, D.map (·.block) = some k -> S k ∧ k < w.heap.size := by
 intro k hk
 obtain ⟨bb, oo, e1, hlt, hc⟩ := hin.data 0 (List.length_pos_iff.2 hx)
 subst e1
 injection hk with hk
 have hk : bb = k := hk
 subst hk
 refine ⟨Classical.byContradiction fun hn => ?_, hlt⟩
 obtain ⟨b', o', D', e', hA', hbl', hat', hin'⟩ := (h.row hn #[]).now.chk hj
 rw [hA] at hA'
 injection hA' with hA'
 injection hA' with h1 h2
 subst h1 h2
 obtain ⟨_, _, _, _, c4⟩ := hat
 obtain ⟨_, _, _, _, c4'⟩ := hat'
 by_cases hb : b = bb
 ·subst hb
  rcases cell_gone w b (o + j * 5 + 4) hlt with h9 | h9
  ·rw [h9] at c4'; cases c4'
  rw [h9] at c4; cases c4
 have hs : (w.setRow bb #[]).cell? ⟨b, o + j * 5 + 4, none⟩ = w.cell? ⟨b, o + j * 5 + 4, none⟩ := World.cell?_of_block (setRow_other _ _ _ _ hb)
 rw [hs, c4] at c4'
 injection c4' with c4'
 injection c4' with c5 _ _
 subst c5
 obtain ⟨b3, o3, e3, _, hc3⟩ := hin'.data 0 (List.length_pos_iff.2 hx)
 injection e3 with e3
 injection e3 with e4 e5
 subst e4 e5
 rcases cell_gone w bb (oo + 0) hlt with h9 | h9
 ·rw [h9] at hc3; cases hc3
 rw [h9] at hc; cases hc
end
theorem i64_0 : I64 0 := ⟨by decide, by decide⟩
def AcRet (S : Nat -> Prop) (w : World) (d : Dev) (n : Int) : Ending -> World -> Prop := fun en w' =>
 ∃ L, en = .returned (.tuple #[.agg (devA d L), iv n]) ∧ On (fun k => S k ∧ k < w.heap.size ∨ w.heap.size <= k) w' (fun v => DevIn v d L) ∧ Below w.heap.size w w'
theorem actsBad_calls (n : Int) (w : World) : Calls Tryz.prog 51 #[iv n] w (RetB w (.tuple #[.agg (devA Dev.zero DLoc.zero), iv n])) := by
 go_enter Tryz.func51, Tryz.ntmps51
 go_wp2_with fail
 refine bodyPost_ret (rC (devA Dev.zero DLoc.zero)) rfl ⟨rfl, ?_⟩
 exact x83
theorem actsDone_ok (d : Dev) (L : DLoc) (gb gd : Nat) (w : World) (hr : rowOf w gd = devA d L) (hf : frOf w gd = (0, 0)) : Calls Tryz.prog 54 #[iv 0, .pointer (some ⟨gb, 0, none⟩), .pointer (some ⟨gd, 0, none⟩)] w (RetB w (.tuple #[.agg (devA d L), iv 0])) := by
 obtain ⟨a0r, a0f, a0n, a0c, a0z, a0l⟩ := keep1 (Below.refl w.heap.size w) hr (by go_simp) hf
 go_enter Tryz.func54, Tryz.ntmps54
 go_wp2_with fail
 refine bodyPost_ret (rC (devA d L)) rfl ⟨rfl, ?_⟩
 exact x83
theorem actsDone_bad (n : Int) (gb gd : Nat) (w : World) (hn : n ≠ 0) (hr : rowOf w gb = #[.func (Fn.func 51) #[] #[]]) (hf : frOf w gb = (0, 0)) : Calls Tryz.prog 54 #[iv n, .pointer (some ⟨gb, 0, none⟩), .pointer (some ⟨gd, 0, none⟩)] w (RetB w (.tuple #[.agg (devA Dev.zero DLoc.zero), iv n])) := by
 obtain ⟨a0r, a0f, a0n, a0c, a0z, a0l⟩ := keep1 (Below.refl w.heap.size w) hr (by go_simp) hf
 have q : (n != 0) = true := by simp [hn]
 clear hn
 go_enter Tryz.func54, Tryz.ntmps54
 go_wp2_with fail
 refine (actsBad_calls n _).mono ?_
 rintro e w1 ⟨rfl, hb⟩
 obtain ⟨b0r, b0f, b0n, b0c, b0z, b0l⟩ := kp (w.heap.size) (devA Dev.zero DLoc.zero) hb
 have HB1 : Hid (Below w.heap.size w w1) := hD (((Below.refl _ _).alloc (Nat.le_refl _) _).trans (hb.mono (by simp)))
 clear hb
 go_wp2_with fail
 refine bodyPost_ret (rC (devA Dev.zero DLoc.zero)) rfl ⟨rfl, ?_⟩
 repeat (first | exact hA | refine bR ?_ _)
def WtRet (w : World) (gd : Nat) (d : Dev) (L : DLoc) (n : Int) : Ending -> World -> Prop := fun en w' =>
 ∃ w1 w2, en = .returned (iv n) ∧ Below w.heap.size w w1 ∧ w2 = (if n = 0 then w1.setRow gd (devA d L) else w1) ∧ Below w2.heap.size w2 w'
theorem keepH {w' : World} {g : Nat} {cs : Array Value} (h : w'.heap[g]? = w.heap[g]?) (hr : rowOf w g = cs) (hp : 0 < cs.size) (hf : frOf w g = (0, 0)) : rowOf w' g = cs ∧ frOf w' g = (0, 0) ∧ ¬ g = w'.heap.size ∧ (∀ j, w'.cell? ⟨g, j, none⟩ = cs[j]?) ∧ (∀ j, w'.frozen? ⟨g, j, none⟩ = false) ∧ g < w'.heap.size :=
 keep1 (Below.refl w'.heap.size w') (g := g) (cs := cs) (by unfold rowOf at *; rw [h]; exact hr) hp (by unfold frOf at *; rw [h]; exact hf)
theorem WtRet.row {w' : World} {gd : Nat} {d d2 : Dev} {L : DLoc} {n : Int} {e : Ending} (h : WtRet w gd d2 L n e w') (hr : rowOf w gd = devA d L) (hf : frOf w gd = (0, 0)) :
  e = .returned (iv n) ∧ (rowOf w' gd = devA (if n = 0 then d2 else d) L ∧ frOf w' gd = (0, 0)) ∧ Below gd w w' ∧ ∀ k, k < w.heap.size -> k ≠ gd -> w'.heap[k]? = w.heap[k]? := by
 obtain ⟨w1, w2, rfl, hb1, h2, hb2⟩ := h
 have hp : 0 < (rowOf w gd).size := by rw [hr, devA_size]; decide
 have hlt := row_lt hp
 have hw1 : w1.heap[gd]? = w.heap[gd]? := hb1.block gd hlt
 have r1 : rowOf w1 gd = devA d L ∧ frOf w1 gd = (0, 0) := by unfold rowOf frOf at *; rw [hw1]; exact ⟨hr, hf⟩
 have hp1 : 0 < (rowOf w1 gd).size := by rw [r1.1, devA_size]; decide
 have hl1 := hb1.size
 by_cases hn : n = 0
 ·rw [if_pos hn] at h2 ⊢
  have hz : w2.heap.size = w1.heap.size := by rw [h2]; simp
  have q2 : rowOf w2 gd = devA d2 L ∧ frOf w2 gd = (0, 0) := by rw [h2, rowOf_setRow _ _ _ _ hp1, if_pos rfl, frOf_setRow]; exact ⟨rfl, r1.2⟩
  have hw : w'.heap[gd]? = w2.heap[gd]? := hb2.block gd (by omega)
  refine ⟨rfl, by unfold rowOf frOf at *; rw [hw]; exact q2, ?_, fun k hk hne => ?_⟩
  ·refine ((hb1.mono (Nat.le_of_lt hlt)).trans ?_).trans (hb2.mono (by omega))
   rw [h2]; exact below_row (Below.refl _ _) (Nat.le_refl _) _
  refine (hb2.block k (by omega)).trans (Eq.trans ?_ (hb1.block k hk))
  rw [h2]; exact setRow_other _ _ _ _ hne
 rw [if_neg hn] at h2 ⊢
 subst h2
 have hw : w'.heap[gd]? = w2.heap[gd]? := hb2.block gd (by omega)
 exact ⟨rfl, by unfold rowOf frOf at *; rw [hw]; exact r1, (hb1.mono (Nat.le_of_lt hlt)).trans (hb2.mono (by omega)), fun k hk hne => (hb2.block k (by omega)).trans (hb1.block k hk)⟩
theorem actsWrite_calls (d : Dev) (L : DLoc) (r : Rec) (torn : Bool) (gd : Nat) (w : World) (hc : copCheck d.c0 d.c1 = 0) (hr : rowOf w gd = devA d L) (hf : frOf w gd = (0, 0)) : Calls Tryz.prog 52 #[.agg (recA r), .bool torn, .pointer (some ⟨gd, 0, none⟩)] w (WtRet w gd (d.write r torn) L (recWrite d.c0 d.c1 r torn).2) := by
 have K := hD (fun w => written_calls d.c0 d.c1 r torn w hc)
 obtain ⟨a0r, a0f, a0n, a0c, a0z, a0l⟩ := keep1 (Below.refl w.heap.size w) hr (by go_simp) hf
 have hp : 0 < (rowOf w gd).size := by rw [hr, devA_size]; decide
 have hlt := row_lt hp
 have HD : Hid (d.write r torn = { d with c0 := (recWrite d.c0 d.c1 r torn).1.1, c1 := (recWrite d.c0 d.c1 r torn).1.2 }) := hD rfl
 generalize d.write r torn = d2 at *
 obtain ⟨⟨⟨p1, p2⟩, e4⟩, hw⟩ : ∃ x, recWrite d.c0 d.c1 r torn = x := ⟨_, rfl⟩
 rw [hw] at K HD ⊢
 dsimp only at HD ⊢
 clear hw hr hf hp hc
 go_enter Tryz.func52, Tryz.ntmps52
 go_wp2_with fail
 refine (K.out _).mono ?_
 rintro e w1 ⟨rfl, hb⟩
 obtain ⟨b0r, b0f, b0n, b0c, b0z, b0l⟩ := kp gd (devA d L) hb
 obtain ⟨b1r, b1f, b1n, b1c, b1z, b1l⟩ := kp (w.heap.size) (recA r) hb
 have HB1 : Hid (Below w.heap.size w w1) := hD (((Below.refl _ _).alloc (Nat.le_refl _) _).trans (hb.mono (by simp)))
 clear hb
 by_cases c4 : e4 = 0
 ·subst c4
  go_wp2_with fail
  go_ret
  refine ⟨w1, _, rfl, HB1.out, rfl, ?_⟩
  rw [if_pos rfl, show devA d2 L = devA { d with c0 := p1, c1 := p2 } L from by rw [HD.out]]
  exact (Below.refl _ _).alloc (by simp) _
 have q : (e4 == 0) = false := by simp [c4]
 go_wp2_with fail
 go_ret
 refine ⟨w1, _, rfl, HB1.out, rfl, ?_⟩
 rw [if_neg c4]
 exact (Below.refl _ _).alloc (by simp) _
theorem acts_crash (d : Dev) (L : DLoc) (n f t m o : Int) (B : Option Addr) (bl bc : Nat) (w : World) (hu : d.up = true) : Calls Tryz.prog 19 #[.agg (devA d L), .agg #[iv 9, iv n], .agg (chkA f t m o B bl bc)] w (RetB w (.tuple #[.agg (devA d.down L.down), iv 0])) := by
 have K1 := hD (fun w => newest_calls d.c0 d.c1 w)
 generalize refNewest d.c0 d.c1 = q at *
 obtain ⟨r, k⟩ := q
 have K2 := hD (fun w => without_calls d L w)
 go_enter Tryz.func19, Tryz.ntmps19
 go_wp2_with fail
 refine (K1.out _).mono ?_
 rintro e w1 ⟨rfl, hb⟩
 obtain ⟨a0r, a0f, a0n, a0c, a0z, a0l⟩ := kp (w.heap.size) (devA d L) hb
 obtain ⟨a1r, a1f, a1n, a1c, a1z, a1l⟩ := kp (w.heap.size + 1) (#[iv 9, iv n]) hb
 obtain ⟨a3r, a3f, a3n, a3c, a3z, a3l⟩ := kp (w.heap.size + 1 + 1 + 1) (devA Dev.zero DLoc.zero) hb
 have HBA : Hid (Below w.heap.size w w1) := hD (((((((Below.refl w.heap.size w).alloc (Nat.le_refl _) (.cells (devA d L) 37)).alloc (by simp) (.cells #[iv 9, iv n] 55)).alloc (by simp; omega) (.cells (chkA f t m o B bl bc) 39)).alloc (by simp; omega) (.cells (devA Dev.zero DLoc.zero) 37)).alloc (by simp; omega) _).trans (hb.mono (by simp; omega)))
 clear hb
 go_wp2_with fail
 refine (K2.out _).mono ?_
 rintro e w2 ⟨rfl, hb⟩
 obtain ⟨a0r, a0f, a0n, a0c, a0z, a0l⟩ := kp (w.heap.size) (devA d L) hb
 obtain ⟨a3r, a3f, a3n, a3c, a3z, a3l⟩ := kp (w.heap.size + 1 + 1 + 1) (devA Dev.zero DLoc.zero) hb
 have HB2 : Hid (Below w.heap.size w w2) := hD ((HBA.out.alloc HBA.out.size _).trans (hb.mono (by have := HBA.out.size; simp; omega)))
 clear hb
 go_wp2_with fail
 refine bodyPost_ret (rC (devA d.down L.down)) rfl ⟨rfl, ?_⟩
 have hs := HB2.out.size
 exact x0
def ActRet (w : World) (d : Dev) (L : DLoc) (d2 : Dev) (n : Int) : Ending -> World -> Prop := fun en w' =>
 ∃ L2, en = .returned (.tuple #[.agg (devA d2 L2), iv n]) ∧ (∀ v, DevIn v d L -> DevIn v d2 L2) ∧ Below w.heap.size w w'
theorem DevIn.starts {d : Dev} {L : DLoc} (h : DevIn w d L) (p q : Cop) (k : Int) (hk : k = 0 ∨ k = 1) : DevIn w { d with c0 := p, c1 := q, up := true, running := k } L := ⟨h.k0, h.l0, h.b0, h.k1, h.l1, h.b1, h.kg, h.lg, h.got, h.job, ⟨by show -9223372036854775808 <= k; omega, by show k <= 9223372036854775807; omega⟩, h.id⟩
theorem acts_boot (d : Dev) (L : DLoc) (n f t m o : Int) (B : Option Addr) (bl bc : Nat) (w : World) (hok : DevOk d) (hu : d.up = false) : Calls Tryz.prog 19 #[.agg (devA d L), .agg #[iv 10, iv n], .agg (chkA f t m o B bl bc)] w (ActRet w d L (devBoot d).1 (devBoot d).2) := by
 have hrec := rec_ok hok
 have hdef : devBoot d = if (recStart d.rec_).2.1 ≠ d.rec_ then
    (if (recWrite d.c0 d.c1 (recStart d.rec_).2.1 false).2 ≠ 0 then (Dev.zero, (recWrite d.c0 d.c1 (recStart d.rec_).2.1 false).2)
    else ({ d.write (recStart d.rec_).2.1 false with up := true, running := (recStart d.rec_).1 }, 0))
   else ({ d with up := true, running := (recStart d.rec_).1 }, 0) := by unfold devBoot; rw [if_neg (by simpa using devCheck_ok.2 hok), if_neg (by rw [hu]; decide), if_neg (by rw [refStart_ok hrec]; simp)]
 have hsl : (recStart d.rec_).1 = 0 ∨ (recStart d.rec_).1 = 1 := by
  rw [start_of hrec]; exact (slot_floor hrec 0).1
 have K1 := hD (fun w => newest_calls d.c0 d.c1 w)
 rw [refNewest_ok hok.cops] at K1
 have hre : (recRead d.c0 d.c1).1 = d.rec_ := rfl
 have hrg := (recCheck_parts hrec).1
 unfold RangeOk at hrg
 have K2 := hD (fun w => started_calls d.rec_ w (by omega) (by omega))
 rw [hre] at K1
 rw [refStart_ok hrec] at hdef hsl
 obtain ⟨⟨k, nx⟩, hq⟩ : ∃ x, refStart d.rec_ = x := ⟨_, rfl⟩
 rw [hq] at hdef hsl K2
 dsimp only at hdef hsl K2
 have K3 := hD (fun gd w h1 h2 => actsWrite_calls d L nx false gd w hok.cops h1 h2)
 have HW : Hid (d.write nx false = { d with c0 := (recWrite d.c0 d.c1 nx false).1.1, c1 := (recWrite d.c0 d.c1 nx false).1.2 }) := hD rfl
 obtain ⟨⟨⟨p1, p2⟩, e4⟩, hw⟩ : ∃ x, recWrite d.c0 d.c1 nx false = x := ⟨_, rfl⟩
 rw [hw] at hdef K3 HW
 dsimp only at hdef K3 HW
 rw [HW.out] at hdef K3
 have HD := hD hdef
 have HSL := hD hsl
 obtain ⟨rk, hrk⟩ : ∃ rk, (recRead d.c0 d.c1).2 = rk := ⟨_, rfl⟩
 rw [hrk] at K1
 generalize devBoot d = res at *
 generalize d.rec_ = r at *
 clear hdef hrec hsl hok hq hw HW hre hrg hrk
 go_enter Tryz.func19, Tryz.ntmps19
 go_wp2_with fail
 refine (K1.out _).mono ?_
 rintro e w1 ⟨rfl, hb⟩
 obtain ⟨a0r, a0f, a0n, a0c, a0z, a0l⟩ := kp (w.heap.size) (devA d L) hb
 obtain ⟨a1r, a1f, a1n, a1c, a1z, a1l⟩ := kp (w.heap.size + 1) (#[iv 10, iv n]) hb
 obtain ⟨a3r, a3f, a3n, a3c, a3z, a3l⟩ := kp (w.heap.size + 1 + 1 + 1) (devA Dev.zero DLoc.zero) hb
 obtain ⟨a4r, a4f, a4n, a4c, a4z, a4l⟩ := kp (w.heap.size + 1 + 1 + 1 + 1) (#[.func (Fn.func 51) #[] #[]]) hb
 have HB1 : Hid (Below w.heap.size w w1) := hD (((((((Below.refl w.heap.size w).alloc (Nat.le_refl _) (.cells (devA d L) 37)).alloc (by simp) (.cells #[iv 10, iv n] 55)).alloc (by simp; omega) (.cells (chkA f t m o B bl bc) 39)).alloc (by simp; omega) (.cells (devA Dev.zero DLoc.zero) 37)).alloc (by simp; omega) _).trans (hb.mono (by simp; omega)))
 clear hb
 go_wp2_with fail
 refine (K2.out _).mono ?_
 rintro e w2 ⟨rfl, hb⟩
 obtain ⟨a0r, a0f, a0n, a0c, a0z, a0l⟩ := kp (w.heap.size) (devA d L) hb
 obtain ⟨a3r, a3f, a3n, a3c, a3z, a3l⟩ := kp (w.heap.size + 1 + 1 + 1) (devA Dev.zero DLoc.zero) hb
 obtain ⟨a4r, a4f, a4n, a4c, a4z, a4l⟩ := kp (w.heap.size + 1 + 1 + 1 + 1) (#[.func (Fn.func 51) #[] #[]]) hb
 obtain ⟨a5r, a5f, a5n, a5c, a5z, a5l⟩ := kp (w1.heap.size) (recA r) hb
 have HB2 : Hid (Below w.heap.size w w2) := hD ((HB1.out.alloc HB1.out.size _).trans (hb.mono (by have := HB1.out.size; simp; omega)))
 clear hb
 by_cases c4 : nx ≠ r
 ·have HD3 := hD (HD.out.trans (if_pos c4))
  have q4 : decide (nx = r) = false := decide_eq_false c4
  clear c4 HD
  go_wp2_with fail
  refine (K3.out _ _ (by go_simp) (by go_simp)).mono ?_
  rintro e w3 ⟨wa, wb, rfl, hba, hwb, hbb⟩
  obtain ⟨a3r, a3f, a3n, a3c, a3z, a3l⟩ := kp (w.heap.size + 1 + 1 + 1) (devA Dev.zero DLoc.zero) hba
  obtain ⟨a4r, a4f, a4n, a4c, a4z, a4l⟩ := kp (w.heap.size + 1 + 1 + 1 + 1) (#[.func (Fn.func 51) #[] #[]]) hba
  obtain ⟨a0r, a0f, a0n, a0c, a0z, a0l⟩ := kp (w.heap.size) (devA d L) hba
  have HBa : Hid (Below w.heap.size w wa) := hD (by
   refine Below.trans ?_ (hba.mono (by have := HB2.out.size; simp; omega))
   have hs := HB2.out.size
   exact x0)
  clear hba
  by_cases c5 : e4 ≠ 0
  ·rw [if_neg c5] at hwb
   subst hwb
   obtain ⟨b3r, b3f, b3n, b3c, b3z, b3l⟩ := kp (w.heap.size + 1 + 1 + 1) (devA Dev.zero DLoc.zero) hbb
   obtain ⟨b4r, b4f, b4n, b4c, b4z, b4l⟩ := kp (w.heap.size + 1 + 1 + 1 + 1) (#[.func (Fn.func 51) #[] #[]]) hbb
   obtain ⟨b0r, b0f, b0n, b0c, b0z, b0l⟩ := kp (w.heap.size) (devA d L) hbb
   have HB3 := bT HBa hbb
   have hz : res = (Dev.zero, e4) := HD3.out.trans (if_pos c5)
   subst hz
   have KD := hD (fun gb gd w h1 h2 => actsDone_bad e4 gb gd w c5 h1 h2)
   clear hbb c5
   go_wp2_with fail
   refine (KD.out _ _ _ (by go_simp) (by go_simp)).mono ?_
   rintro e w4 ⟨rfl, hb⟩
   obtain ⟨c3r, c3f, c3n, c3c, c3z, c3l⟩ := kp (w.heap.size + 1 + 1 + 1) (devA Dev.zero DLoc.zero) hb
   have HB4 : Hid (Below w.heap.size w w4) := hD (by
    refine Below.trans ?_ (hb.mono (by have := HB3.out.size; simp; omega))
    have hs := HB3.out.size
    exact x0)
   clear hb
   go_wp2_with fail
   refine bodyPost_ret (rC (devA Dev.zero DLoc.zero)) rfl ⟨DLoc.zero, rfl, fun v _ => DevIn.zero v, ?_⟩
   have hs := HB4.out.size
   exact x0
  have c5 := Decidable.not_not.1 c5
  subst c5
  rw [if_pos rfl] at hwb
  subst hwb
  obtain ⟨b3r, b3f, b3n, b3c, b3z, b3l⟩ := kp (w.heap.size + 1 + 1 + 1) (devA Dev.zero DLoc.zero) hbb
  obtain ⟨b0r, b0f, b0n, b0c, b0z, b0l⟩ := kp (w.heap.size) (devA { d with c0 := p1, c1 := p2 } L) hbb
  have HB3 : Hid (Below w.heap.size w w3) := hD ((below_row HBa.out (by omega) _).trans (hbb.mono (by have := HBa.out.size; simp; omega)))
  clear hbb
  have hz : res = ({ d with c0 := p1, c1 := p2, up := true, running := k }, 0) := HD3.out.trans (if_neg (by decide))
  clear hu
  go_wp2_with fail
  refine (actsDone_ok { d with c0 := p1, c1 := p2, up := true, running := k } L _ _ _ (by go_simp) (by go_simp)).mono ?_
  rintro e w4 ⟨rfl, hb⟩
  obtain ⟨c3r, c3f, c3n, c3c, c3z, c3l⟩ := kp (w.heap.size + 1 + 1 + 1) (devA Dev.zero DLoc.zero) hb
  have HB4 : Hid (Below w.heap.size w w4) := hD (by
   refine Below.trans ?_ (hb.mono (by have := HB3.out.size; simp; omega))
   have hs := HB3.out.size
   exact x0)
  clear hb
  go_wp2_with fail
  rw [hz]
  refine bodyPost_ret (rC (devA { d with c0 := p1, c1 := p2, up := true, running := k } L)) rfl ⟨L, rfl, fun v h => h.starts p1 p2 k HSL.out, ?_⟩
  have hs := HB4.out.size
  exact x0
 have HD3 := hD (HD.out.trans (if_neg c4))
 have q4 : decide (nx = r) = true := decide_eq_true (Decidable.not_not.1 c4)
 clear c4 HD hu
 go_wp2_with fail
 refine (actsDone_ok { d with up := true, running := k } L _ _ _ (by go_simp) (by go_simp)).mono ?_
 rintro e w3 ⟨rfl, hb⟩
 obtain ⟨a3r, a3f, a3n, a3c, a3z, a3l⟩ := kp (w.heap.size + 1 + 1 + 1) (devA Dev.zero DLoc.zero) hb
 have HB3 : Hid (Below w.heap.size w w3) := hD (by
  refine Below.trans ?_ (hb.mono (by have := HB2.out.size; simp; omega))
  have hs := HB2.out.size
  exact x0)
 clear hb
 go_wp2_with fail
 rw [HD3.out]
 refine bodyPost_ret (rC (devA { d with up := true, running := k } L)) rfl ⟨L, rfl, fun v h => h.starts d.c0 d.c1 k HSL.out, ?_⟩
 have hs := HB3.out.size
 exact x0
theorem acts_confirm (d : Dev) (L : DLoc) (n f t m o : Int) (B : Option Addr) (bl bc : Nat) (w : World) (hok : DevOk d) (hu : d.up = true) : Calls Tryz.prog 19 #[.agg (devA d L), .agg #[iv 8, iv n], .agg (chkA f t m o B bl bc)] w (ActRet w d L (devConfirm d).1 (devConfirm d).2) := by
 have hrec := rec_ok hok
 have hrd : devReady d = 0 := by unfold devReady; rw [if_neg (by simpa using devCheck_ok.2 hok), if_neg (by rw [hu]; decide)]
 have KN := hD (fun w => newest_calls d.c0 d.c1 w)
 rw [refNewest_ok hok.cops] at KN
 obtain ⟨rk, hrk⟩ : ∃ rk, (recRead d.c0 d.c1).2 = rk := ⟨_, rfl⟩
 have hre : (recRead d.c0 d.c1).1 = d.rec_ := rfl
 rw [hrk, hre] at KN
 clear hrk hre
 have hact := rec_active hrec
 have hrun := (hok.run hu).2
 have hdef : devConfirm d = if d.running = d.rec_.active then (Dev.zero, 5) else (if (recWrite d.c0 d.c1 (recDone d.rec_) false).2 ≠ 0 then (Dev.zero, (recWrite d.c0 d.c1 (recDone d.rec_) false).2) else (d.write (recDone d.rec_) false, 0)) := by
  unfold devConfirm
  rw [if_neg (by omega)]
  by_cases c : d.running = d.rec_.active
  ·rw [if_pos c, if_pos c]
  have hc : recConfirm d.rec_ = (recDone d.rec_, 0) := by unfold recConfirm; rw [if_pos hrec, if_pos (hrun.resolve_left c)]
  rw [if_neg c, if_neg c, hc]
  rfl
 have HD := hD hdef
 have HR := hD hrun
 have K3 := hD (fun w => confirmed_calls d.rec_ w (by omega))
 have K4 := hD (fun gd w h1 h2 => actsWrite_calls d L (recDone d.rec_) false gd w hok.cops h1 h2)
 generalize devConfirm d = res at *
 clear hrec hrd hok hact hrun hdef
 generalize d.rec_ = r at *
 go_enter Tryz.func19, Tryz.ntmps19
 go_wp2_with fail
 refine (KN.out _).mono ?_
 rintro e w1 ⟨rfl, hb⟩
 obtain ⟨a0r, a0f, a0n, a0c, a0z, a0l⟩ := kp (w.heap.size) (devA d L) hb
 obtain ⟨a1r, a1f, a1n, a1c, a1z, a1l⟩ := kp (w.heap.size + 1) (#[iv 8, iv n]) hb
 obtain ⟨a3r, a3f, a3n, a3c, a3z, a3l⟩ := kp (w.heap.size + 1 + 1 + 1) (devA Dev.zero DLoc.zero) hb
 obtain ⟨a4r, a4f, a4n, a4c, a4z, a4l⟩ := kp (w.heap.size + 1 + 1 + 1 + 1) (#[.func (Fn.func 51) #[] #[]]) hb
 have HB1 : Hid (Below w.heap.size w w1) := hD (((((((Below.refl w.heap.size w).alloc (Nat.le_refl _) (.cells (devA d L) 37)).alloc (by simp) (.cells #[iv 8, iv n] 55)).alloc (by simp; omega) (.cells (chkA f t m o B bl bc) 39)).alloc (by simp; omega) (.cells (devA Dev.zero DLoc.zero) 37)).alloc (by simp; omega) _).trans (hb.mono (by simp; omega)))
 clear hb
 by_cases c1 : d.running = r.active
 ·have hz := HD.out.trans (if_pos c1)
  subst hz
  have q : (d.running == r.active) = true := by simp [c1]
  clear c1 HD HR K3 K4 KN
  go_wp2_with fail
  refine (actsBad_calls 5 _).mono ?_
  rintro e wz ⟨rfl, hb⟩
  obtain ⟨z3r, z3f, z3n, z3c, z3z, z3l⟩ := kp (w.heap.size + 1 + 1 + 1) (devA Dev.zero DLoc.zero) hb
  have HBZ : Hid (Below w.heap.size w wz) := hD (by
   refine Below.trans ?_ (hb.mono (by have := HB1.out.size; simp; omega))
   have hs := HB1.out.size
   exact x0)
  clear hb
  go_wp2_with fail
  refine bodyPost_ret (rC (devA Dev.zero DLoc.zero)) rfl ⟨DLoc.zero, rfl, fun v _ => DevIn.zero v, ?_⟩
  have hs := HBZ.out.size
  exact x0
 have ht := HR.out.resolve_left c1
 have q : (d.running == r.active) = false := by simp [c1]
 have HD2 := hD (HD.out.trans (if_neg c1))
 clear c1 HD HR KN hu
 go_wp2_with fail
 refine (K3.out _).mono ?_
 rintro e w2 ⟨rfl, hb⟩
 obtain ⟨a0r, a0f, a0n, a0c, a0z, a0l⟩ := kp (w.heap.size) (devA d L) hb
 obtain ⟨a3r, a3f, a3n, a3c, a3z, a3l⟩ := kp (w.heap.size + 1 + 1 + 1) (devA Dev.zero DLoc.zero) hb
 obtain ⟨a4r, a4f, a4n, a4c, a4z, a4l⟩ := kp (w.heap.size + 1 + 1 + 1 + 1) (#[.func (Fn.func 51) #[] #[]]) hb
 have HB2 : Hid (Below w.heap.size w w2) := hD (by
  refine Below.trans ?_ (hb.mono (by have := HB1.out.size; simp; omega))
  have hs := HB1.out.size
  exact x0)
 clear hb
 go_wp2_with fail
 refine (K4.out _ _ (by go_simp) (by go_simp)).mono ?_
 rintro e w3 ⟨wa, wb, rfl, hba, hwb, hbb⟩
 obtain ⟨a3r, a3f, a3n, a3c, a3z, a3l⟩ := kp (w.heap.size + 1 + 1 + 1) (devA Dev.zero DLoc.zero) hba
 obtain ⟨a4r, a4f, a4n, a4c, a4z, a4l⟩ := kp (w.heap.size + 1 + 1 + 1 + 1) (#[.func (Fn.func 51) #[] #[]]) hba
 obtain ⟨a0r, a0f, a0n, a0c, a0z, a0l⟩ := kp (w.heap.size) (devA d L) hba
 have HBa : Hid (Below w.heap.size w wa) := hD (by
  refine Below.trans ?_ (hba.mono (by have := HB2.out.size; simp; omega))
  have hs := HB2.out.size
  exact x0)
 clear hba
 obtain ⟨e4, he4⟩ : ∃ e4, (recWrite d.c0 d.c1 (recDone r) false).2 = e4 := ⟨_, rfl⟩
 rw [he4] at hwb HD2 ⊢
 clear he4 K3 K4
 by_cases c5 : e4 ≠ 0
 ·rw [if_neg c5] at hwb
  subst hwb
  obtain ⟨b3r, b3f, b3n, b3c, b3z, b3l⟩ := kp (w.heap.size + 1 + 1 + 1) (devA Dev.zero DLoc.zero) hbb
  obtain ⟨b4r, b4f, b4n, b4c, b4z, b4l⟩ := kp (w.heap.size + 1 + 1 + 1 + 1) (#[.func (Fn.func 51) #[] #[]]) hbb
  obtain ⟨b0r, b0f, b0n, b0c, b0z, b0l⟩ := kp (w.heap.size) (devA d L) hbb
  have HB3 := bT HBa hbb
  have hz := HD2.out.trans (if_pos c5)
  subst hz
  have KD := hD (fun gb gd w h1 h2 => actsDone_bad e4 gb gd w c5 h1 h2)
  clear hbb c5
  go_wp2_with fail
  refine (KD.out _ _ _ (by go_simp) (by go_simp)).mono ?_
  rintro e w4 ⟨rfl, hb⟩
  obtain ⟨c3r, c3f, c3n, c3c, c3z, c3l⟩ := kp (w.heap.size + 1 + 1 + 1) (devA Dev.zero DLoc.zero) hb
  have HB4 : Hid (Below w.heap.size w w4) := hD (by
   refine Below.trans ?_ (hb.mono (by have := HB3.out.size; simp; omega))
   have hs := HB3.out.size
   exact x0)
  clear hb
  go_wp2_with fail
  refine bodyPost_ret (rC (devA Dev.zero DLoc.zero)) rfl ⟨DLoc.zero, rfl, fun v _ => DevIn.zero v, ?_⟩
  have hs := HB4.out.size
  exact x0
 have c5 := Decidable.not_not.1 c5
 subst c5
 rw [if_pos rfl] at hwb
 subst hwb
 have hz := HD2.out.trans (if_neg (by decide))
 subst hz
 have hin : ∀ v, DevIn v d L -> DevIn v (d.write (recDone r) false) L := fun v h => ⟨h.k0, h.l0, h.b0, h.k1, h.l1, h.b1, h.kg, h.lg, h.got, h.job, h.ir, h.id⟩
 have HIN := hD hin
 clear hin
 generalize d.write (recDone r) false = d2 at *
 obtain ⟨b3r, b3f, b3n, b3c, b3z, b3l⟩ := kp (w.heap.size + 1 + 1 + 1) (devA Dev.zero DLoc.zero) hbb
 obtain ⟨b0r, b0f, b0n, b0c, b0z, b0l⟩ := kp (w.heap.size) (devA d2 L) hbb
 have HB3 : Hid (Below w.heap.size w w3) := hD ((below_row HBa.out (by omega) _).trans (hbb.mono (by have := HBa.out.size; simp; omega)))
 clear hbb
 go_wp2_with fail
 refine (actsDone_ok d2 L _ _ _ (by go_simp) (by go_simp)).mono ?_
 rintro e w4 ⟨rfl, hb⟩
 obtain ⟨c3r, c3f, c3n, c3c, c3z, c3l⟩ := kp (w.heap.size + 1 + 1 + 1) (devA Dev.zero DLoc.zero) hb
 have HB4 : Hid (Below w.heap.size w w4) := hD (by
  refine Below.trans ?_ (hb.mono (by have := HB3.out.size; simp; omega))
  have hs := HB3.out.size
  exact x0)
 clear hb
 go_wp2_with fail
 refine bodyPost_ret (rC (devA d2 L)) rfl ⟨L, rfl, HIN.out, ?_⟩
 have hs := HB4.out.size
 exact x0
def idxR (p : Chk -> Bool) : List Chk -> Nat -> Int
 | [], _ => -1
 | x :: r, k => if p x = true then (k : Int) else idxR p r (k + 1)
theorem idxR_f {p : Chk -> Bool} {x : Chk} {r : List Chk} {k : Nat} (h : p x = false) : idxR p (x :: r) k = idxR p r (k + 1) := if_neg (by simp [h])
theorem idxR_t {p : Chk -> Bool} {x : Chk} {r : List Chk} {k : Nat} (h : p x = true) : idxR p (x :: r) k = (k : Int) := if_pos h
theorem idxR_spec (p : Chk -> Bool) : ∀ (l : List Chk) (k : Nat), (l.find? p = none ∧ idxR p l k = -1) ∨ ∃ j x, l[j]? = some x ∧ idxR p l k = ((k + j : Nat) : Int) ∧ l.find? p = some x
 | [], k => .inl ⟨rfl, rfl⟩
 | x :: r, k => by
  by_cases h : p x = true
  ·exact .inr ⟨0, x, rfl, by rw [idxR_t h]; simp, by simp [h]⟩
  have h := Bool.eq_false_iff.2 h
  rw [idxR_f h]
  rcases idxR_spec p r (k + 1) with ⟨h1, h2⟩ | ⟨j, y, h1, h2, h3⟩
  ·exact .inl ⟨by simp [h, h1], h2⟩
  exact .inr ⟨j + 1, y, by simpa using h1, by rw [h2]; congr 1; omega, by simp [h, h3]⟩
def isN (x : Chk) (n : Int) : Bool := x.n == n
theorem atN_isN (l : List Chk) (n : Int) : atN l n = l.find? (fun x => isN x n) := rfl
theorem raN_go (x : Chk) (n : Int) (B : Option Addr) (k g : Nat) (w : World) (hlt : g < w.heap.size) (hc : w.cell? ⟨g, 0, none⟩ = some (iv n)) (b0 : Bool) (hb0 : (x.n == n) = b0) :
  Calls Tryz.prog 90 #[.agg (chkA x.from_ x.to_ x.n x.of_ B x.data.length k), .pointer (some ⟨g, 0, none⟩)] w (RetB w (.bool (b0))) := by
 cases b0 <;> (
  go_enter Tryz.func90, Tryz.ntmps90
  go_wp2_with fail
  go_ret
  exact ⟨rfl, (Below.refl _ _).alloc (Nat.le_refl _) _⟩)
theorem raN_calls (x : Chk) (n : Int) (B : Option Addr) (k g : Nat) (w : World) (hlt : g < w.heap.size) (hc : w.cell? ⟨g, 0, none⟩ = some (iv n)) :
  Calls Tryz.prog 90 #[.agg (chkA x.from_ x.to_ x.n x.of_ B x.data.length k), .pointer (some ⟨g, 0, none⟩)] w (RetB w (.bool (isN x n))) := by
 refine (raN_go x n B k g w hlt hc _ rfl).mono fun _ _ h => ?_
 exact h
theorem raN_idx (A : Option Addr) (cc g : Nat) (l : List Chk) (n : Int) (w : World) (hl : l.length <= 1048576) (hs : Chs w A l) (hlt : g < w.heap.size) (hc : w.cell? ⟨g, 0, none⟩ = some (iv n)) :
  Calls Tryz.prog 89 #[.slice A l.length cc, .func (Fn.func 90) #[] #[.pointer (some ⟨g, 0, none⟩)]] w (RetB w (iv (idxR (fun x => isN x n) l 0))) := by
 have HS := hD hs
 have HCC : Hid (∀ (x : Chk) (B : Option Addr) (k : Nat) w', Below w.heap.size w w' -> Calls Tryz.prog 90 #[.agg (chkA x.from_ x.to_ x.n x.of_ B x.data.length k), .pointer (some ⟨g, 0, none⟩)] w' (RetB w' (.bool ((fun x => isN x n) x)))) := hD fun x B k w' hb => raN_calls x n B k g w' (by have := hb.size; omega) ((hb.cell (p := ⟨g, 0, none⟩) hlt).trans hc)
 clear hs hc
 generalize (fun x => isN x n) = p at *
 obtain ⟨r, hr⟩ : ∃ r, idxR p l 0 = r := ⟨_, rfl⟩
 rw [hr]
 have HR : Hid (idxR p l 0 = r) := hD hr
 clear hr
 go_enter Tryz.func89, Tryz.ntmps89
 go_wp2_with fail
 go_loopw [8] (fun i wr => ∃ k : Nat, k <= l.length ∧ i = .int .i64 k ∧ Hid (idxR p (l.drop k) k = r) ∧ Hid (Below w.heap.size w wr)) (fun i _ => l.length - (intOf i).toNat)
 case atStart => exact ⟨0, Nat.zero_le _, rfl, hD HR.out, hD (Below.refl _ _)⟩
 case round =>
  rename World => wr
  obtain ⟨k, hk, rfl, HE, HB⟩ := hrel
  have hsz := HB.out.size
  by_cases hlk : k < l.length
  ·obtain ⟨b, o, B, cx, rfl, hs1, p0, p1, p2, p3, p4, p5⟩ := (HS.out.stays HB.out).at_ hlk
   have hdr : l.drop k = l[k] :: l.drop (k + 1) := List.drop_eq_getElem_cons hlk
   rw [hdr] at HE
   clear p5 hdr
   generalize l[k] = x at *
   obtain ⟨q, hq⟩ : ∃ q, p x = q := ⟨_, rfl⟩
   have HX : Hid (p x = q) := hD hq
   have HC2 : Hid (∀ w', Below wr.heap.size wr w' -> Calls Tryz.prog 90 #[.agg (chkA x.from_ x.to_ x.n x.of_ B x.data.length cx), .pointer (some ⟨g, 0, none⟩)] w' (RetB w' (.bool q))) := hD fun w' hb => by
    have := HCC.out x B cx w' (HB.out.trans (hb.mono HB.out.size))
    rwa [hq] at this
   clear hq
   go_wp2_with fail
   refine (HC2.out _ ?_).mono ?_
   ·exact x66
   rintro e w2 ⟨rfl, hb2⟩
   have HB2 : Hid (Below w.heap.size w w2) := by
    refine hD (HB.out.trans (Below.trans ?_ (hb2.mono (by first | omega | (simp <;> omega)))))
    exact x66
   clear hb2
   cases q
   ·have HE2 : Hid (idxR p (l.drop (k + 1)) (k + 1) = r) := hD ((idxR_f HX.out).symm.trans HE.out)
    clear HE HX
    go_wp2_with fail
    go_roundw
    case rel => exact ⟨k + 1, by omega, by go_num, HE2, HB2⟩
    case measure => simp [intOf] <;> omega
   have HE2 : Hid ((k : Int) = r) := hD ((idxR_t HX.out).symm.trans HE.out)
   clear HE HX
   go_wp2_with fail
   go_ret
   exact ⟨by rw [← HE2.out]; rfl, HB2.out⟩
  have HE2 : Hid ((-1 : Int) = r) := hD (by
   rw [← HE.out, List.drop_of_length_le (by omega)]; rfl)
  clear HE
  go_wp2_with fail
  go_ret
  exact ⟨by rw [← HE2.out]; rfl, HB.out⟩
end Go.Proofs.YtefkfglkpebbmacGreat
