/- Walks of functions, and plain words. No conditions. -/
import Derived.Test.YtefkfglkpebbmadGreatP2
import Derived.Laws.OwnMore
set_option linter.unusedVariables false
set_option linter.unusedSimpArgs false
set_option maxRecDepth 100000
set_option maxHeartbeats 40000000
namespace Go.Proofs.YtefkfglkpebbmadGreat
open Go.RowKit
variable {w : World} {d : Dev} {r : Rec}
theorem acts_crash (d : Dev) (L : DLoc) (n f t m o : Int) (B : Option Addr) (bl bc : Nat) (w : World) (hu : d.up = true) : Calls Tryz.prog 10 #[.agg (devA d L), .agg #[iv 9, iv n], .agg (chkA f t m o B bl bc)] w (RetB w (.tuple #[.agg (devA d.down L.down), iv 0])) := by
 have K1 := hD (fun w => newest_calls d.c0 d.c1 w)
 generalize refNewest d.c0 d.c1 = q at *
 obtain ⟨r, k⟩ := q
 have K2 := hD (fun w => without_calls d L w)
 go_enter Tryz.func10, Tryz.ntmps10
 go_wp2_with fail
 refine (K1.out _).mono ?_
 rintro e w1 ⟨rfl, hb⟩
 obtain ⟨a0r, a0f, a0n, a0c, a0z, a0l⟩ := kp (w.heap.size) (devA d L) hb
 obtain ⟨a1r, a1f, a1n, a1c, a1z, a1l⟩ := kp (w.heap.size + 1) (#[iv 9, iv n]) hb
 obtain ⟨a3r, a3f, a3n, a3c, a3z, a3l⟩ := kp (w.heap.size + 1 + 1 + 1) (devA Dev.zero DLoc.zero) hb
 have HBA : Hid (Below w.heap.size w w1) := hD (((((((Below.refl w.heap.size w).alloc (Nat.le_refl _) (.cells (devA d L) 38)).alloc (by simp) (.cells #[iv 9, iv n] 54)).alloc (by simp; omega) (.cells (chkA f t m o B bl bc) 56)).alloc (by simp; omega) (.cells (devA Dev.zero DLoc.zero) 38)).alloc (by simp; omega) _).trans (hb.mono (by simp; omega)))
 clear hb
 go_wp2_with fail
 refine (K2.out _).mono ?_
 rintro e w2 ⟨rfl, hb⟩
 obtain ⟨a0r, a0f, a0n, a0c, a0z, a0l⟩ := kp (w.heap.size) (devA d L) hb
 obtain ⟨a3r, a3f, a3n, a3c, a3z, a3l⟩ := kp (w.heap.size + 1 + 1 + 1) (devA Dev.zero DLoc.zero) hb
 have HB2 : Hid (Below w.heap.size w w2) := hD ((HBA.out.alloc HBA.out.size _).trans (hb.mono (by have := HBA.out.size; simp; omega)))
 clear hb
 go_wp2_with fail
 refine bodyPost_ret (results_ct rfl rfl (cs := devA d.down L.down) (by go_simp) (by go_simp) (by go_simp)) rfl ⟨rfl, ?_⟩
 have hs := HB2.out.size
 repeat (first | exact HB2.out | refine bR ?_ _ | refine bC ?_ _ | refine bA ?_ _)
def ActRet (w : World) (d : Dev) (L : DLoc) (d2 : Dev) (n : Int) : Ending → World → Prop := fun en w' =>
 ∃ L2, en = .returned (.tuple #[.agg (devA d2 L2), iv n]) ∧ (∀ v, DevIn v d L → DevIn v d2 L2) ∧ Below w.heap.size w w'
theorem DevIn.starts {L : DLoc} (h : DevIn w d L) (p q : Cop) (k : Int) (hk : k = 0 ∨ k = 1) : DevIn w { d with c0 := p, c1 := q, up := true, running := k } L := ⟨h.k0, h.l0, h.b0, h.k1, h.l1, h.b1, h.kg, h.lg, h.got, h.job, ⟨by show -9223372036854775808 ≤ k; omega, by show k ≤ 9223372036854775807; omega⟩, h.id⟩
theorem acts_boot (d : Dev) (L : DLoc) (n f t m o : Int) (B : Option Addr) (bl bc : Nat) (w : World) (hok : DevOk d) (hu : d.up = false) : Calls Tryz.prog 10 #[.agg (devA d L), .agg #[iv 10, iv n], .agg (chkA f t m o B bl bc)] w (ActRet w d L (devBoot d).1 (devBoot d).2) := by
 have hrec := rec_ok hok
 have hdef : devBoot d = if (recStart d.rec_).2.1 ≠ d.rec_ then
    (if (recWrite d.c0 d.c1 (recStart d.rec_).2.1 false).2 ≠ 0 then (Dev.zero, (recWrite d.c0 d.c1 (recStart d.rec_).2.1 false).2)
    else ({ d.write (recStart d.rec_).2.1 false with up := true, running := (recStart d.rec_).1 }, 0))
   else ({ d with up := true, running := (recStart d.rec_).1 }, 0) := by unfold devBoot; rw [if_neg (by simpa using devCheck_ok.2 hok), if_neg (by rw [hu]; decide), if_neg (by rw [refStart_ok hrec]; simp)]
 have hsl : (recStart d.rec_).1 = 0 ∨ (recStart d.rec_).1 = 1 := by
  rw [start_of hrec]; exact (slot_floor hrec 0).1
 have K1 := hD (fun w => newest_calls d.c0 d.c1 w)
 rw [refNewest_ok hok.cops] at K1
 have hre : (recRead d.c0 d.c1).1 = d.rec_ := rfl
 have hrg := (recCheck_parts hrec).1
 unfold RangeOk at hrg
 have K2 := hD (fun w => started_calls d.rec_ w (by omega) (by omega))
 rw [hre] at K1
 rw [refStart_ok hrec] at hdef hsl
 obtain ⟨⟨k, nx⟩, hq⟩ : ∃ x, refStart d.rec_ = x := ⟨_, rfl⟩
 rw [hq] at hdef hsl K2
 dsimp only at hdef hsl K2
 have K3 := hD (fun gd w h1 h2 => actsWrite_calls d L nx false gd w hok.cops h1 h2)
 have HW : Hid (d.write nx false = { d with c0 := (recWrite d.c0 d.c1 nx false).1.1, c1 := (recWrite d.c0 d.c1 nx false).1.2 }) := hD rfl
 obtain ⟨⟨⟨p1, p2⟩, e4⟩, hw⟩ : ∃ x, recWrite d.c0 d.c1 nx false = x := ⟨_, rfl⟩
 rw [hw] at hdef K3 HW
 dsimp only at hdef K3 HW
 rw [HW.out] at hdef K3
 have HD := hD hdef
 have HSL := hD hsl
 obtain ⟨rk, hrk⟩ : ∃ rk, (recRead d.c0 d.c1).2 = rk := ⟨_, rfl⟩
 rw [hrk] at K1
 generalize devBoot d = res at *
 generalize d.rec_ = r at *
 clear hdef hrec hsl hok hq hw HW hre hrg hrk
 go_enter Tryz.func10, Tryz.ntmps10
 go_wp2_with fail
 refine (K1.out _).mono ?_
 rintro e w1 ⟨rfl, hb⟩
 obtain ⟨a0r, a0f, a0n, a0c, a0z, a0l⟩ := kp (w.heap.size) (devA d L) hb
 obtain ⟨a1r, a1f, a1n, a1c, a1z, a1l⟩ := kp (w.heap.size + 1) (#[iv 10, iv n]) hb
 obtain ⟨a3r, a3f, a3n, a3c, a3z, a3l⟩ := kp (w.heap.size + 1 + 1 + 1) (devA Dev.zero DLoc.zero) hb
 obtain ⟨a4r, a4f, a4n, a4c, a4z, a4l⟩ := kp (w.heap.size + 1 + 1 + 1 + 1) (#[.func (Fn.func 23) #[] #[]]) hb
 have HB1 : Hid (Below w.heap.size w w1) := hD (((((((Below.refl w.heap.size w).alloc (Nat.le_refl _) (.cells (devA d L) 38)).alloc (by simp) (.cells #[iv 10, iv n] 54)).alloc (by simp; omega) (.cells (chkA f t m o B bl bc) 56)).alloc (by simp; omega) (.cells (devA Dev.zero DLoc.zero) 38)).alloc (by simp; omega) _).trans (hb.mono (by simp; omega)))
 clear hb
 go_wp2_with fail
 refine (K2.out _).mono ?_
 rintro e w2 ⟨rfl, hb⟩
 obtain ⟨a0r, a0f, a0n, a0c, a0z, a0l⟩ := kp (w.heap.size) (devA d L) hb
 obtain ⟨a3r, a3f, a3n, a3c, a3z, a3l⟩ := kp (w.heap.size + 1 + 1 + 1) (devA Dev.zero DLoc.zero) hb
 obtain ⟨a4r, a4f, a4n, a4c, a4z, a4l⟩ := kp (w.heap.size + 1 + 1 + 1 + 1) (#[.func (Fn.func 23) #[] #[]]) hb
 obtain ⟨a5r, a5f, a5n, a5c, a5z, a5l⟩ := kp (w1.heap.size) (recA r) hb
 have HB2 : Hid (Below w.heap.size w w2) := hD ((HB1.out.alloc HB1.out.size _).trans (hb.mono (by have := HB1.out.size; simp; omega)))
 clear hb
 by_cases c4 : nx ≠ r
 ·have HD3 := hD (HD.out.trans (if_pos c4))
  have q4 : decide (nx = r) = false := decide_eq_false c4
  clear c4 HD
  go_wp2_with fail
  refine (K3.out _ _ (by go_simp) (by go_simp)).mono ?_
  rintro e w3 ⟨wa, wb, rfl, hba, hwb, hbb⟩
  obtain ⟨a3r, a3f, a3n, a3c, a3z, a3l⟩ := kp (w.heap.size + 1 + 1 + 1) (devA Dev.zero DLoc.zero) hba
  obtain ⟨a4r, a4f, a4n, a4c, a4z, a4l⟩ := kp (w.heap.size + 1 + 1 + 1 + 1) (#[.func (Fn.func 23) #[] #[]]) hba
  obtain ⟨a0r, a0f, a0n, a0c, a0z, a0l⟩ := kp (w.heap.size) (devA d L) hba
  have HBa : Hid (Below w.heap.size w wa) := hD (by
   refine Below.trans ?_ (hba.mono (by have := HB2.out.size; simp; omega))
   have hs := HB2.out.size
   repeat (first | exact HB2.out | refine bR ?_ _ | refine bC ?_ _ | refine bA ?_ _))
  clear hba
  by_cases c5 : e4 ≠ 0
  ·rw [if_neg c5] at hwb
   subst hwb
   obtain ⟨b3r, b3f, b3n, b3c, b3z, b3l⟩ := kp (w.heap.size + 1 + 1 + 1) (devA Dev.zero DLoc.zero) hbb
   obtain ⟨b4r, b4f, b4n, b4c, b4z, b4l⟩ := kp (w.heap.size + 1 + 1 + 1 + 1) (#[.func (Fn.func 23) #[] #[]]) hbb
   obtain ⟨b0r, b0f, b0n, b0c, b0z, b0l⟩ := kp (w.heap.size) (devA d L) hbb
   have HB3 : Hid (Below w.heap.size w w3) := hD (HBa.out.trans (hbb.mono HBa.out.size))
   have hz : res = (Dev.zero, e4) := HD3.out.trans (if_pos c5)
   subst hz
   have KD := hD (fun gb gd w h1 h2 => actsDone_bad e4 gb gd w c5 h1 h2)
   clear hbb c5
   go_wp2_with fail
   refine (KD.out _ _ _ (by go_simp) (by go_simp)).mono ?_
   rintro e w4 ⟨rfl, hb⟩
   obtain ⟨c3r, c3f, c3n, c3c, c3z, c3l⟩ := kp (w.heap.size + 1 + 1 + 1) (devA Dev.zero DLoc.zero) hb
   have HB4 : Hid (Below w.heap.size w w4) := hD (by
    refine Below.trans ?_ (hb.mono (by have := HB3.out.size; simp; omega))
    have hs := HB3.out.size
    repeat (first | exact HB3.out | refine bR ?_ _ | refine bC ?_ _ | refine bA ?_ _))
   clear hb
   go_wp2_with fail
   refine bodyPost_ret (results_ct rfl rfl (cs := devA Dev.zero DLoc.zero) (by go_simp) (by go_simp) (by go_simp)) rfl ⟨DLoc.zero, rfl, fun v _ => DevIn.zero v, ?_⟩
   have hs := HB4.out.size
   repeat (first | exact HB4.out | refine bR ?_ _ | refine bC ?_ _ | refine bA ?_ _)
  ·have c5 := Decidable.not_not.1 c5
   subst c5
   rw [if_pos rfl] at hwb
   subst hwb
   obtain ⟨b3r, b3f, b3n, b3c, b3z, b3l⟩ := kp (w.heap.size + 1 + 1 + 1) (devA Dev.zero DLoc.zero) hbb
   obtain ⟨b0r, b0f, b0n, b0c, b0z, b0l⟩ := kp (w.heap.size) (devA { d with c0 := p1, c1 := p2 } L) hbb
   have HB3 : Hid (Below w.heap.size w w3) := hD ((below_row HBa.out (by omega) _).trans (hbb.mono (by have := HBa.out.size; simp; omega)))
   clear hbb
   have hz : res = ({ d with c0 := p1, c1 := p2, up := true, running := k }, 0) := HD3.out.trans (if_neg (by decide))
   clear hu
   go_wp2_with fail
   refine (actsDone_ok { d with c0 := p1, c1 := p2, up := true, running := k } L _ _ _ (by go_simp) (by go_simp)).mono ?_
   rintro e w4 ⟨rfl, hb⟩
   obtain ⟨c3r, c3f, c3n, c3c, c3z, c3l⟩ := kp (w.heap.size + 1 + 1 + 1) (devA Dev.zero DLoc.zero) hb
   have HB4 : Hid (Below w.heap.size w w4) := hD (by
    refine Below.trans ?_ (hb.mono (by have := HB3.out.size; simp; omega))
    have hs := HB3.out.size
    repeat (first | exact HB3.out | refine bR ?_ _ | refine bC ?_ _ | refine bA ?_ _))
   clear hb
   go_wp2_with fail
   rw [hz]
   refine bodyPost_ret (results_ct rfl rfl (cs := devA { d with c0 := p1, c1 := p2, up := true, running := k } L) (by go_simp) (by go_simp) (by go_simp)) rfl ⟨L, rfl, fun v h => h.starts p1 p2 k HSL.out, ?_⟩
   have hs := HB4.out.size
   repeat (first | exact HB4.out | refine bR ?_ _ | refine bC ?_ _ | refine bA ?_ _)
 ·have HD3 := hD (HD.out.trans (if_neg c4))
  have q4 : decide (nx = r) = true := decide_eq_true (Decidable.not_not.1 c4)
  clear c4 HD hu
  go_wp2_with fail
  refine (actsDone_ok { d with up := true, running := k } L _ _ _ (by go_simp) (by go_simp)).mono ?_
  rintro e w3 ⟨rfl, hb⟩
  obtain ⟨a3r, a3f, a3n, a3c, a3z, a3l⟩ := kp (w.heap.size + 1 + 1 + 1) (devA Dev.zero DLoc.zero) hb
  have HB3 : Hid (Below w.heap.size w w3) := hD (by
   refine Below.trans ?_ (hb.mono (by have := HB2.out.size; simp; omega))
   have hs := HB2.out.size
   repeat (first | exact HB2.out | refine bR ?_ _ | refine bC ?_ _ | refine bA ?_ _))
  clear hb
  go_wp2_with fail
  rw [HD3.out]
  refine bodyPost_ret (results_ct rfl rfl (cs := devA { d with up := true, running := k } L) (by go_simp) (by go_simp) (by go_simp)) rfl ⟨L, rfl, fun v h => h.starts d.c0 d.c1 k HSL.out, ?_⟩
  have hs := HB3.out.size
  repeat (first | exact HB3.out | refine bR ?_ _ | refine bC ?_ _ | refine bA ?_ _)
structure WLoc where
 ar : Option Addr
 cr : Nat
 l : DLoc
 an : Option Addr
 cn : Nat
def WLoc.zero : WLoc := ⟨none, 0, DLoc.zero, none, 0⟩
def worA (x : Wor) (L : WLoc) : Array Value := #[.slice L.ar x.rel.length L.cr, .slice L.l.a0 x.d.s0.length L.l.c0, .slice L.l.a1 x.d.s1.length L.l.c1, .bool x.d.c0.ok, iv x.d.c0.r.gen, iv x.d.c0.r.active, .bool x.d.c0.r.trying, iv x.d.c0.r.tries, iv x.d.c0.r.floor, iv x.d.c0.r.a.ver, iv x.d.c0.r.a.size, iv x.d.c0.r.a.sum, iv x.d.c0.r.b.ver, iv x.d.c0.r.b.size, iv x.d.c0.r.b.sum, .bool x.d.c1.ok, iv x.d.c1.r.gen, iv x.d.c1.r.active, .bool x.d.c1.r.trying, iv x.d.c1.r.tries, iv x.d.c1.r.floor, iv x.d.c1.r.a.ver, iv x.d.c1.r.a.size, iv x.d.c1.r.a.sum, iv x.d.c1.r.b.ver, iv x.d.c1.r.b.size, iv x.d.c1.r.b.sum, .bool x.d.up, iv x.d.running, .slice L.l.ag x.d.got.length L.l.cg, .bool x.d.busy, iv x.d.job.from_, iv x.d.job.to_, iv x.d.job.old, iv x.d.job.new_, iv x.d.job.size, .slice L.l.aj x.d.job.ops.length L.l.cj, iv x.d.done, .slice L.an x.net.length L.cn]
@[go_sem] theorem worA_size (x : Wor) (L : WLoc) : (worA x L).size = 39 := by simp [worA]
@[go_sem] theorem worA_one (x : Wor) (L : WLoc) : allOne (worA x L) = true := by simp [worA, allOne, Value.oneCell']
@[go_sem] theorem worA_at0 (x : Wor) (L : WLoc) (h : 0 < (worA x L).size) : (worA x L)[0]'h = .slice L.ar x.rel.length L.cr := by simp [worA]
@[go_sem] theorem worA_at1 (x : Wor) (L : WLoc) (h : 1 < (worA x L).size) : (worA x L)[1]'h = .slice L.l.a0 x.d.s0.length L.l.c0 := by simp [worA]
@[go_sem] theorem worA_at2 (x : Wor) (L : WLoc) (h : 2 < (worA x L).size) : (worA x L)[2]'h = .slice L.l.a1 x.d.s1.length L.l.c1 := by simp [worA]
@[go_sem] theorem worA_at27 (x : Wor) (L : WLoc) (h : 27 < (worA x L).size) : (worA x L)[27]'h = .bool x.d.up := by simp [worA]
@[go_sem] theorem worA_at28 (x : Wor) (L : WLoc) (h : 28 < (worA x L).size) : (worA x L)[28]'h = iv x.d.running := by simp [worA]
@[go_sem] theorem worA_at38 (x : Wor) (L : WLoc) (h : 38 < (worA x L).size) : (worA x L)[38]'h = .slice L.an x.net.length L.cn := by simp [worA]
@[go_sem] theorem worA_all (x : Wor) (L : WLoc) : (worA x L).extract 0 39 = worA x L := by simp [worA]
@[go_sem] theorem worA_ex1_38 (x : Wor) (L : WLoc) : (worA x L).extract 1 38 = devA x.d L.l := by simp [worA, devA]
@[go_sem] theorem worA_ex3_27 (x : Wor) (L : WLoc) : (worA x L).extract 3 27 = copsA x.d.c0 x.d.c1 := by simp [worA, copsA]
@[go_sem] theorem worA_splice_dev (x : Wor) (L : WLoc) (d : Dev) (K : DLoc) : splice (worA x L) 1 (devA d K) = worA { x with d := d } { L with l := K } := by simp [splice, worA, devA]
@[go_sem] theorem aggSzWor : aggSz Tryz.prog 40 = 39 := by kernel_rfl
@[go_sem] theorem zero_wor : Value.agg #[.slice none 0 0, .slice none 0 0, .slice none 0 0, .bool false, .int .i64 0, .int .i64 0, .bool false, .int .i64 0, .int .i64 0, .int .i64 0, .int .i64 0, .int .i64 0, .int .i64 0, .int .i64 0, .int .i64 0, .bool false, .int .i64 0, .int .i64 0, .bool false, .int .i64 0, .int .i64 0, .int .i64 0, .int .i64 0, .int .i64 0, .int .i64 0, .int .i64 0, .int .i64 0, .bool false, .int .i64 0, .slice none 0 0, .bool false, .int .i64 0, .int .i64 0, .int .i64 0, .int .i64 0, .int .i64 0, .slice none 0 0, .int .i64 0, .slice none 0 0] = Value.agg (worA Wor.zero WLoc.zero) := by simp [worA, Wor.zero, WLoc.zero, Dev.zero, DLoc.zero, Cop.zero, Rec.zero, Inf.zero, Pat.zero]
structure WorIn (w : World) (x : Wor) (L : WLoc) : Prop where
 kr : x.rel.length ≤ L.cr
 lr : x.rel.length ≤ 1048576
 rel : Ims w L.ar x.rel
 dev : DevIn w x.d L.l
 kn : x.net.length ≤ L.cn
 ln : x.net.length ≤ 1048576
 net : Chs w L.an x.net
theorem WorIn.stays {w' : World} {x : Wor} {L : WLoc} (h : WorIn w x L) (hb : Below w.heap.size w w') : WorIn w' x L :=
 ⟨h.kr, h.lr, h.rel.stays hb, h.dev.stays hb, h.kn, h.ln, h.net.stays hb⟩
theorem WorIn.zero (w : World) : WorIn w Wor.zero WLoc.zero :=
 ⟨Nat.le_refl _, by simp [Wor.zero], fun i hi => absurd hi (by simp [Wor.zero]), DevIn.zero w, Nat.le_refl _, by simp [Wor.zero], Chs.nil _ _⟩
def FrIn (base m : Nat) (w : World) (P : World → Prop) : Prop := ∀ v : World, (∀ k, base ≤ k → k < m → v.heap[k]? = w.heap[k]?) → P v
section
variable {base m : Nat} {w v : World} {P Q : World → Prop}
theorem Fresh.frIn (h : Fresh base w P) : FrIn base w.heap.size w P := fun v hv => h v hv
theorem FrIn.of (h : FrIn base m w P) (hv : ∀ k, base ≤ k → k < m → v.heap[k]? = w.heap[k]?) : FrIn base m v P := fun u hu => h u fun k h1 h2 => (hu k h1 h2).trans (hv k h1 h2)
theorem FrIn.wider {b2 m2 : Nat} (h : FrIn base m w P) (hb : b2 ≤ base) (hm : m ≤ m2) : FrIn b2 m2 w P := fun v hv => h v fun k h1 h2 => hv k (by omega) (by omega)
theorem FrIn.now (h : FrIn base m w P) : P w := h w fun _ _ _ => rfl
end
structure WorAt (w : World) (base m top : Nat) (ds : List (Option Addr × Nat)) (x : Wor) (L : WLoc) : Prop where
 h1 : base ≤ m
 h2 : m ≤ top
 h3 : top ≤ w.heap.size
 rel : FrIn base m w (fun v => Ims v L.ar x.rel)
 dev : FrIn base m w (fun v => DevIn v x.d L.l)
 net : GRow kChk w m x.net ds L.an L.cn
 each : Each kChk x.net ds (fun k => m ≤ k ∧ k < top)
 blk : ∀ k, L.an.map (·.block) = some k → k < top
 bd : ∀ y ∈ x.net, ChkB y
 kr : x.rel.length ≤ L.cr
 lr : x.rel.length ≤ 1048576
 ln : x.net.length ≤ 1048576
theorem GRow.ex {α : Type} {K : Kd α} {v : World} {base c : Nat} {l : List α} {ds : List (Option Addr × Nat)} {A : Option Addr} (h : GRow K w base l ds A c) (hA : ∀ k, A.map (·.block) = some k → v.heap[k]? = w.heap[k]?) (hd : Each K l ds (fun k => v.heap[k]? = w.heap[k]?)) : GRow K v base l ds A c := by
 refine ⟨h.len, h.row.same hA, fun i o d h1 h2 => ⟨fun j hj => ?_, (h.data i o d h1 h2).2⟩, h.off⟩
 obtain ⟨b, o2, e1, hl2, hc⟩ := (h.data i o d h1 h2).1 j hj
 have hx : K.dat o ≠ [] := fun e => by rw [e] at hj; simp at hj
 have hb : v.heap[b]? = w.heap[b]? := hd i o d h1 h2 hx b (by rw [e1]; rfl)
 have hlt : b < v.heap.size := by
  rcases Nat.lt_or_ge b v.heap.size with h | h
  ·exact h
  ·rw [Array.getElem?_eq_none h, Array.getElem?_eq_getElem hl2] at hb; cases hb
 exact ⟨b, o2, e1, hlt, (World.cell?_of_block hb).trans hc⟩
section
variable {w v : World} {base m top : Nat} {ds : List (Option Addr × Nat)} {x : Wor} {L : WLoc}
theorem WorAt.netEx (h : WorAt w base m top ds x L) (hv : ∀ k, base ≤ k → k < top → v.heap[k]? = w.heap[k]?) : GRow kChk v m x.net ds L.an L.cn := by
 have h1 := h.h1
 exact h.net.ex (fun k e => hv k (by have := (h.net.row.block k e).1; omega) (h.blk k e)) (h.each.imp fun k hk => hv k (by omega) hk.2)
theorem WorAt.same (h : WorAt w base m top ds x L) (hv : ∀ k, base ≤ k → k < top → v.heap[k]? = w.heap[k]?) (hm : top ≤ v.heap.size) : WorAt v base m top ds x L := by
 have h2 := h.h2
 exact ⟨h.h1, h.h2, hm, h.rel.of fun k a b => hv k a (by omega), h.dev.of fun k a b => hv k a (by omega), h.netEx hv, h.each, h.blk, h.bd, h.kr, h.lr, h.ln⟩
theorem WorAt.wex (h : WorAt w base m top ds x L) (hv : ∀ k, base ≤ k → k < top → v.heap[k]? = w.heap[k]?) : WorIn v x L := by
 have h2 := h.h2
 exact ⟨h.kr, h.lr, h.rel v (fun k a b => hv k a (by omega)), h.dev v (fun k a b => hv k a (by omega)), h.net.row.le, h.ln, (h.netEx hv).src.chs h.bd⟩
end
def WcRet (w : World) (x : Wor) : Ending → World → Prop := fun en w' =>
 ∃ L m ds, en = .returned (.agg (worA x L)) ∧ WorAt w' (w.heap.size + 2) m w'.heap.size ds x L ∧ Below w.heap.size w w'
def WvRet (w : World) (x : Wor) (n : Int) : Ending → World → Prop := fun en w' =>
 ∃ L, en = .returned (.tuple #[.agg (worA x L), iv n]) ∧ Fresh w.heap.size w' (fun v => WorIn v x L) ∧ Below w.heap.size w w'
theorem big_wor' (n : Nat) (h : 0 < n) : bigBuild Tryz.prog 40 n := by
 obtain ⟨i, hi, _⟩ := info_parts (P := Tryz.prog) (e := 40) (z := .agg (worA Wor.zero WLoc.zero)) (size := 39) (bytes := 408) (by kernel_rfl)
 exact ⟨i, hi, h⟩
@[go_sem] theorem big_wor2 : bigBuild Tryz.prog 40 2 := big_wor' 2 (by decide)
@[go_sem] theorem big_wor3 : bigBuild Tryz.prog 40 3 := big_wor' 3 (by decide)
@[go_sem] theorem build_wor2 (a : Option Addr) (c : Nat) (l : List (List UInt8)) (d : Dev) (K : DLoc) (w : World) : runBuild Tryz.prog 40 #[(0, .slice a l.length c), (1, .agg (devA d K))] w = .ok (.agg (worA ⟨l, d, []⟩ ⟨a, c, K, none, 0⟩)) w := by kernel_rfl
@[go_sem] theorem build_wor3 (a : Option Addr) (c : Nat) (l : List (List UInt8)) (d : Dev) (K : DLoc) (b : Option Addr) (e : Nat) (t : List Chk) (w : World) : runBuild Tryz.prog 40 #[(0, .slice a l.length c), (1, .agg (devA d K)), (2, .slice b t.length e)] w = .ok (.agg (worA ⟨l, d, t⟩ ⟨a, c, K, b, e⟩)) w := by kernel_rfl
theorem relCheck_bad {l : List (List UInt8)} (h : l = [] ∨ 30 < l.length ∨ ∃ b ∈ l, 64 < b.length) : relCheck l = 1 := by unfold relCheck; rw [if_pos h]
theorem relCheck_fine {l : List (List UInt8)} (h : ¬ (l = [] ∨ 30 < l.length ∨ ∃ b ∈ l, 64 < b.length)) : relCheck l = 0 := by unfold relCheck; rw [if_neg h]
theorem releases_calls (A : Option Addr) (c : Nat) (l : List (List UInt8)) (w : World) (hc : l.length ≤ c) (hl : l.length ≤ 1048576) (hs : Ims w A l) :
  Calls Tryz.prog 35 #[.slice A l.length c] w (Ret w (iv (relCheck l))) := by
 by_cases h1 : l = []
 ·subst h1
  rw [relCheck_bad (.inl rfl)]
  go_enter Tryz.func35, Tryz.ntmps35
  go_wp2_with fail
  go_ret
  exact ⟨rfl, rfl⟩
 have hpos : 0 < l.length := List.length_pos_iff.2 h1
 by_cases h2 : 30 < l.length
 ·rw [relCheck_bad (.inr (.inl h2))]
  have q1 : ¬ ((l.length : Int) = 0) := by omega
  have q2 : (30 : Int) < (l.length : Int) := by omega
  have q3 : ((l.length : Int) == 0) = false := by simp; omega
  clear h1
  go_enter Tryz.func35, Tryz.ntmps35
  go_wp2_with fail
  go_ret
  exact ⟨rfl, rfl⟩
 obtain ⟨r, hr⟩ : ∃ r, relCheck l = r := ⟨_, rfl⟩
 rw [hr]
 have HR : Hid (r = if ∃ b ∈ l, 64 < b.length then 1 else 0) := hD (by
  rw [← hr]
  by_cases h3 : ∃ b ∈ l, 64 < b.length
  ·rw [relCheck_bad (.inr (.inr h3)), if_pos h3]
  ·rw [relCheck_fine (fun h => h.elim h1 (fun h => h.elim h2 h3)), if_neg h3])
 have HS := hD hs
 have q1 : ¬ ((l.length : Int) = 0) := by omega
 have q2 : ¬ (30 : Int) < (l.length : Int) := by omega
 have q3 : ((l.length : Int) == 0) = false := by simp; omega
 have hcap : (l.length : Int) ≤ (c : Int) := by omega
 clear hr hs h1 hpos
 go_enter Tryz.func35, Tryz.ntmps35
 go_wp2_with fail
 go_loopw [15] (fun i wr => ∃ k : Nat, k ≤ l.length ∧ i = .int .i64 k ∧ wr = w ∧ Hid (∀ b ∈ l.take k, b.length ≤ 64)) (fun i _ => l.length - (intOf i).toNat)
 case atStart => exact ⟨0, Nat.zero_le _, rfl, rfl, hD (by simp)⟩
 case round =>
  obtain ⟨k, hk, rfl, rfl, HB⟩ := hrel
  by_cases hlt : k < l.length
  ·obtain ⟨b, o, rfl, hb, cs, hcl, hcc, B, d, rfl, hd1, hd2, hd3⟩ := HS.out k hlt
   obtain ⟨x, hx⟩ : ∃ x, l[k] = x := ⟨_, rfl⟩
   have q0 : wr.cell? ⟨b, o + k, none⟩ = some (.slice B x.length d) := by have := hcc 0 (by simp); rw [hx] at this; simpa using this
   have hwk : IntKind.i64.wrap ((k : Int) + 1) = (k : Int) + 1 := IntWalk.i64_in _ (by omega)
   have HX := hD hx
   by_cases h64 : 64 < x.length
   ·have hz : r = 1 := by rw [HR.out, if_pos ⟨x, by rw [← HX.out]; exact List.getElem_mem hlt, h64⟩]
    subst hz
    have q : (64 : Int) < (x.length : Int) := by omega
    clear hcc hcl hd1 hd2 hd3 hx
    go_wp2_with fail
    go_ret
    exact ⟨rfl, rfl⟩
   ·have q : ¬ (64 : Int) < (x.length : Int) := by omega
    have HB2 : Hid (∀ b ∈ l.take (k + 1), b.length ≤ 64) := hD (fun y hy => by
     rw [List.take_succ_eq_append_getElem hlt, List.mem_append] at hy
     rcases hy with hy | hy
     ·exact HB.out y hy
     ·have e : y = l[k] := by simpa using hy
      rw [e, HX.out]; omega)
    clear hcc hcl hd1 hd2 hd3 hx
    go_wp2_with fail
    go_roundw
    case rel => exact ⟨k + 1, by omega, by go_num, by first | rfl | trivial, HB2⟩
    case measure => simp [intOf]; omega
  ·obtain rfl : k = l.length := by omega
   have hz : r = 0 := by
    rw [HR.out, if_neg]
    rintro ⟨b, hb, h⟩
    have := HB.out b (by rw [List.take_length]; exact hb)
    omega
   subst hz
   go_wp2_with fail
   go_ret
   exact ⟨rfl, rfl⟩
theorem devCheck_is_len (h : d.s0.length ≠ 64 ∨ d.s1.length ≠ 64) : devCheck d = 3 := by unfold devCheck; rw [if_pos h]
theorem devCheck_is_cop (h0 : d.s0.length = 64) (h1 : d.s1.length = 64) (hc : copCheck d.c0 d.c1 ≠ 0) : devCheck d = copCheck d.c0 d.c1 := by unfold devCheck; rw [if_neg (by omega), if_pos hc]
theorem devCheck_is_off (h0 : d.s0.length = 64) (h1 : d.s1.length = 64) (hc : copCheck d.c0 d.c1 = 0) (hu : d.up = false) : devCheck d = if d.running ≠ 0 ∨ d.got ≠ [] ∨ d.busy = true ∨ d.done ≠ 0 ∨ d.job ≠ Pat.zero then 3 else 0 := by unfold devCheck; rw [if_neg (by omega), if_neg (by omega), if_pos hu]
theorem devCheck_is_up (h0 : d.s0.length = 64) (h1 : d.s1.length = 64) (hc : copCheck d.c0 d.c1 = 0) (hu : d.up = true) : devCheck d = devUpCheck d (recRead d.c0 d.c1).1 := by unfold devCheck; rw [if_neg (by omega), if_neg (by omega), if_neg (by rw [hu]; simp)]; rfl
theorem patSameZ_calls (p : Pat) (B : Option Addr) (c : Nat) (w : World) (hp : PatIn w p B c) : Calls Tryz.prog 62 #[.agg (patA p.from_ p.to_ p.old p.new_ p.size B p.ops.length c), .agg (patA 0 0 0 0 0 none 0 0)] w (RetB w (.bool (decide (p = Pat.zero)))) :=
 patSameA_calls B none c 0 p.from_ p.to_ p.old p.new_ p.size 0 0 0 0 0 p.ops [] w hp.len (by simp) hp.ops (Sps.nil _ _)
theorem devCheck_len (d : Dev) (L : DLoc) (w : World) (h : d.s0.length ≠ 64 ∨ d.s1.length ≠ 64) : Calls Tryz.prog 36 #[.agg (devA d L)] w (RetB w (iv 3)) := by
 have i0 : ∀ w, (Instr.index 24 (.agg (slotsA L.a0 d.s0.length L.c0 L.a1 d.s1.length L.c1)) (.int .i64 0)).run Tryz.prog w = .ok (.slice L.a0 d.s0.length L.c0) w := fun _ => by kernel_rfl
 have i1 : ∀ w, (Instr.index 24 (.agg (slotsA L.a0 d.s0.length L.c0 L.a1 d.s1.length L.c1)) (.int .i64 1)).run Tryz.prog w = .ok (.slice L.a1 d.s1.length L.c1) w := fun _ => by kernel_rfl
 have HBA := Lib.hid ((Below.refl w.heap.size w).alloc (Nat.le_refl _) (.cells (devA d L) 38))
 go_enter Tryz.func36, Tryz.ntmps36
 go_wp2_with fail
 go_loopw [12] (fun i wr => ∃ k : Nat, k ≤ 2 ∧ i = .int .i64 k ∧ (0 < k → d.s0.length = 64) ∧ k < 2 ∧ wr = w.alloc (.cells (devA d L) 38)) (fun i _ => (2 - intOf i).toNat)
 case atStart => exact ⟨0, by omega, rfl, by omega, by omega, rfl⟩
 case round =>
  obtain ⟨k, hk, rfl, hz, hlt, rfl⟩ := hrel
  have HZ := Lib.hid hz
  have HH := Lib.hid h
  clear hz h
  rcases (show k = 0 ∨ k = 1 by omega) with rfl | rfl
  ·by_cases e : d.s0.length = 64
   ·have q : ((d.s0.length : Int) != 64) = false := by simp; omega
    have HE := Lib.hid e
    clear e
    go_wp2_with fail
    go_roundw
    case rel => exact ⟨1, by omega, rfl, fun _ => HE.out, by omega, by first | rfl | trivial⟩
    case measure => simp [intOf] <;> omega
   ·have q : ((d.s0.length : Int) != 64) = true := by simp; omega
    clear e
    go_wp2_with fail
    go_ret
    exact ⟨rfl, HBA.out⟩
  ·have q : ((d.s1.length : Int) != 64) = true := by have h1 := HZ.out (by omega); have h2 := HH.out; simp; omega
   go_wp2_with fail
   go_ret
   exact ⟨rfl, HBA.out⟩
theorem devCheck_cop (d : Dev) (L : DLoc) (w : World) (h0 : d.s0.length = 64) (h1 : d.s1.length = 64) (hc : copCheck d.c0 d.c1 ≠ 0) : Calls Tryz.prog 36 #[.agg (devA d L)] w (RetB w (iv (copCheck d.c0 d.c1))) := by
 have l0 : ((d.s0.length : Int) != 64) = false := by simp; omega
 have l1 : ((d.s1.length : Int) != 64) = false := by simp; omega
 have i0 : ∀ w, (Instr.index 24 (.agg (slotsA L.a0 d.s0.length L.c0 L.a1 d.s1.length L.c1)) (.int .i64 0)).run Tryz.prog w = .ok (.slice L.a0 d.s0.length L.c0) w := fun _ => by kernel_rfl
 have i1 : ∀ w, (Instr.index 24 (.agg (slotsA L.a0 d.s0.length L.c0 L.a1 d.s1.length L.c1)) (.int .i64 1)).run Tryz.prog w = .ok (.slice L.a1 d.s1.length L.c1) w := fun _ => by kernel_rfl
 have HBA := Lib.hid ((Below.refl w.heap.size w).alloc (Nat.le_refl _) (.cells (devA d L) 38))
 have KR := Lib.hid (fun w => read_bad d.c0 d.c1 w hc)
 have q : (copCheck d.c0 d.c1 != 0) = true := by simp [hc]
 generalize copCheck d.c0 d.c1 = n at *
 clear h0 h1 hc
 go_enter Tryz.func36, Tryz.ntmps36
 go_wp2_with fail
 go_loopw [12] (fun i wr => ∃ k : Nat, k ≤ 2 ∧ i = .int .i64 k ∧ wr = w.alloc (.cells (devA d L) 38)) (fun i _ => (2 - intOf i).toNat)
 case atStart => exact ⟨0, by omega, rfl, rfl⟩
 case round =>
  obtain ⟨k, hk, rfl, rfl⟩ := hrel
  by_cases hlt : k < 2
  ·rcases (show k = 0 ∨ k = 1 by omega) with rfl | rfl
   ·go_wp2_with fail
    go_roundw
    case rel => exact ⟨1, by omega, rfl, by first | rfl | trivial⟩
    case measure => simp [intOf] <;> omega
   ·go_wp2_with fail
    go_roundw
    case rel => exact ⟨2, by omega, rfl, by first | rfl | trivial⟩
    case measure => simp [intOf] <;> omega
  ·obtain rfl : k = 2 := by omega
   clear hk hlt i0 i1 l0 l1
   go_wp2_with fail
   refine (KR.out _).mono ?_
   rintro e w1 ⟨rfl, hb1⟩
   obtain ⟨a0r, a0f, a0n, a0c, a0z, a0l⟩ := keep1 (g := w.heap.size) (cs := devA d L) hb1 (by first | (go_simp; done) | (go_simp; rfl)) (by go_simp) (by go_simp)
   have HB1 := Lib.hid (HBA.out.trans (hb1.mono (by simp)))
   clear hb1
   go_wp2_with fail
   go_ret
   have hs := HB1.out.size
   refine ⟨rfl, ?_⟩
   repeat (first | exact HB1.out | refine below_row ?_ (by omega) _ | refine Below.setCell ?_ (by simp <;> omega) _ | refine Below.alloc ?_ (by first | omega | (simp <;> omega)) _)
theorem devCheck_off (d : Dev) (L : DLoc) (w : World) (h : DevIn w d L) (h0 : d.s0.length = 64) (h1 : d.s1.length = 64) (hc : copCheck d.c0 d.c1 = 0) (hu : d.up = false) : Calls Tryz.prog 36 #[.agg (devA d L)] w (RetB w (iv (devCheck d))) := by
 have E := Lib.hid (devCheck_is_off h0 h1 hc hu)
 obtain ⟨n, hn⟩ : ∃ n, devCheck d = n := ⟨_, rfl⟩
 rw [hn] at E
 rw [hn]
 have HJ := Lib.hid h.job
 clear hn h
 have l0 : ((d.s0.length : Int) != 64) = false := by simp; omega
 have l1 : ((d.s1.length : Int) != 64) = false := by simp; omega
 have i0 : ∀ w, (Instr.index 24 (.agg (slotsA L.a0 d.s0.length L.c0 L.a1 d.s1.length L.c1)) (.int .i64 0)).run Tryz.prog w = .ok (.slice L.a0 d.s0.length L.c0) w := fun _ => by kernel_rfl
 have i1 : ∀ w, (Instr.index 24 (.agg (slotsA L.a0 d.s0.length L.c0 L.a1 d.s1.length L.c1)) (.int .i64 1)).run Tryz.prog w = .ok (.slice L.a1 d.s1.length L.c1) w := fun _ => by kernel_rfl
 have HBA := Lib.hid ((Below.refl w.heap.size w).alloc (Nat.le_refl _) (.cells (devA d L) 38))
 have KR := Lib.hid (fun w => read_ok d.c0 d.c1 w hc)
 obtain ⟨r, hr⟩ : ∃ r, (recRead d.c0 d.c1).1 = r := ⟨_, rfl⟩
 obtain ⟨rk, hrk⟩ : ∃ rk, (recRead d.c0 d.c1).2 = rk := ⟨_, rfl⟩
 rw [hr, hrk] at KR
 clear hr
 clear h0 h1 hc hrk
 go_enter Tryz.func36, Tryz.ntmps36
 go_wp2_with fail
 go_loopw [12] (fun i wr => ∃ k : Nat, k ≤ 2 ∧ i = .int .i64 k ∧ wr = w.alloc (.cells (devA d L) 38)) (fun i _ => (2 - intOf i).toNat)
 case atStart => exact ⟨0, by omega, rfl, rfl⟩
 case round =>
  obtain ⟨k, hk, rfl, rfl⟩ := hrel
  by_cases hlt : k < 2
  ·rcases (show k = 0 ∨ k = 1 by omega) with rfl | rfl
   ·go_wp2_with fail
    go_roundw
    case rel => exact ⟨1, by omega, rfl, by first | rfl | trivial⟩
    case measure => simp [intOf] <;> omega
   ·go_wp2_with fail
    go_roundw
    case rel => exact ⟨2, by omega, rfl, by first | rfl | trivial⟩
    case measure => simp [intOf] <;> omega
  ·obtain rfl : k = 2 := by omega
   clear hk hlt i0 i1 l0 l1
   go_wp2_with fail
   refine (KR.out _).mono ?_
   rintro e w1 ⟨rfl, hb1⟩
   obtain ⟨a0r, a0f, a0n, a0c, a0z, a0l⟩ := keep1 (g := w.heap.size) (cs := devA d L) hb1 (by first | (go_simp; done) | (go_simp; rfl)) (by go_simp) (by go_simp)
   have HB1 := Lib.hid (HBA.out.trans (hb1.mono (by simp)))
   clear hb1
   by_cases c1 : d.running ≠ 0
   ·have hz : Hid (n = 3) := Lib.hid (E.out.trans (if_pos (.inl c1)))
    have q : (d.running != 0) = true := by simp [c1]
    clear c1
    go_wp2_with fail
    go_ret
    have hs := HB1.out.size
    refine ⟨ret_int hz.out.symm, ?_⟩
    repeat (first | exact HB1.out | refine below_row ?_ (by omega) _ | refine Below.setCell ?_ (by simp <;> omega) _ | refine Below.alloc ?_ (by first | omega | (simp <;> omega)) _)
   have q1 : (d.running != 0) = false := by simpa using c1
   by_cases c2 : d.got ≠ []
   ·have hz : Hid (n = 3) := Lib.hid (E.out.trans (if_pos (.inr (.inl c2))))
    have q : decide ((0 : Int) < (d.got.length : Int)) = true := decide_eq_true (by have := List.length_pos_iff.2 c2; omega)
    have q' : 0 < d.got.length := List.length_pos_iff.2 c2
    clear c1 c2
    go_wp2_with fail
    go_ret
    have hs := HB1.out.size
    refine ⟨ret_int hz.out.symm, ?_⟩
    repeat (first | exact HB1.out | refine below_row ?_ (by omega) _ | refine Below.setCell ?_ (by simp <;> omega) _ | refine Below.alloc ?_ (by first | omega | (simp <;> omega)) _)
   have q2 : ¬ 0 < d.got.length := by rw [List.length_pos_iff]; exact c2
   cases hbz : d.busy
   case true =>
    have hz : Hid (n = 3) := Lib.hid (E.out.trans (if_pos (.inr (.inr (.inl hbz)))))
    clear c1 c2
    go_wp2_with fail
    go_ret
    have hs := HB1.out.size
    refine ⟨ret_int hz.out.symm, ?_⟩
    repeat (first | exact HB1.out | refine below_row ?_ (by omega) _ | refine Below.setCell ?_ (by simp <;> omega) _ | refine Below.alloc ?_ (by first | omega | (simp <;> omega)) _)
   by_cases c4 : d.done ≠ 0
   ·have hz : Hid (n = 3) := Lib.hid (E.out.trans (if_pos (.inr (.inr (.inr (.inl c4))))))
    have q : (d.done != 0) = true := by simp [c4]
    clear c1 c2 c4
    go_wp2_with fail
    go_ret
    have hs := HB1.out.size
    refine ⟨ret_int hz.out.symm, ?_⟩
    repeat (first | exact HB1.out | refine below_row ?_ (by omega) _ | refine Below.setCell ?_ (by simp <;> omega) _ | refine Below.alloc ?_ (by first | omega | (simp <;> omega)) _)
   have q4 : (d.done != 0) = false := by simpa using c4
   have E2 : Hid (n = if d.job ≠ Pat.zero then 3 else 0) := Lib.hid (by
    rw [E.out]
    by_cases c5 : d.job ≠ Pat.zero
    ·rw [if_pos (.inr (.inr (.inr (.inr c5)))), if_pos c5]
    ·rw [if_neg (fun a => ?_), if_neg c5]
     rcases a with a | a | a | a | a
     ·exact c1 a
     ·exact c2 a
     ·rw [hbz] at a; cases a
     ·exact c4 a
     ·exact c5 a)
   clear c1 c2 c4
   go_wp2_with fail
   have hbx := (HB1.out.alloc HB1.out.size (.cells (recA r) 29))
   refine (patSameZ_calls d.job L.aj L.cj _ (HJ.out.stays hbx)).mono ?_
   rintro e w2 ⟨rfl, hb2⟩
   have HB2 := Lib.hid (hbx.trans (hb2.mono (by simp; have := HB1.out.size; omega)))
   clear hb2 hbx
   by_cases c5 : d.job = Pat.zero
   ·have hz : Hid (n = 0) := Lib.hid (E2.out.trans (if_neg (by simpa using c5)))
    have q5 : decide (d.job = Pat.zero) = true := decide_eq_true c5
    clear c5
    go_wp2_with fail
    go_ret
    have hs := HB2.out.size
    refine ⟨ret_int hz.out.symm, ?_⟩
    repeat (first | exact HB2.out | refine below_row ?_ (by omega) _ | refine Below.setCell ?_ (by simp <;> omega) _ | refine Below.alloc ?_ (by first | omega | (simp <;> omega)) _)
   ·have hz : Hid (n = 3) := Lib.hid (E2.out.trans (if_pos c5))
    have q5 : decide (d.job = Pat.zero) = false := decide_eq_false c5
    clear c5
    go_wp2_with fail
    go_ret
    have hs := HB2.out.size
    refine ⟨ret_int hz.out.symm, ?_⟩
    repeat (first | exact HB2.out | refine below_row ?_ (by omega) _ | refine Below.setCell ?_ (by simp <;> omega) _ | refine Below.alloc ?_ (by first | omega | (simp <;> omega)) _)
theorem devUp_range (h : d.running < 0 ∨ 1 < d.running ∨ (d.running ≠ r.active ∧ r.trying = false)) : devUpCheck d r = 2 := by unfold devUpCheck; rw [if_pos h]
theorem devUp_list (h : ¬ (d.running < 0 ∨ 1 < d.running ∨ (d.running ≠ r.active ∧ r.trying = false))) (g : chkList d.got ≠ 0) : devUpCheck d r = chkList d.got := by unfold devUpCheck; rw [if_neg h, if_pos g]
theorem devUp_idle (h : ¬ (d.running < 0 ∨ 1 < d.running ∨ (d.running ≠ r.active ∧ r.trying = false))) (g : chkList d.got = 0) (b : d.busy = false) : devUpCheck d r = if d.done ≠ 0 ∨ d.job ≠ Pat.zero then 3 else 0 := by unfold devUpCheck; rw [if_neg h, if_neg (by omega), if_pos b]
theorem devUp_busy (h : ¬ (d.running < 0 ∨ 1 < d.running ∨ (d.running ≠ r.active ∧ r.trying = false))) (g : chkList d.got = 0) (b : d.busy = true) : devUpCheck d r = devBusyCheck d r := by unfold devUpCheck; rw [if_neg h, if_neg (by omega), if_neg (by rw [b]; simp)]
theorem devCheck_range (d : Dev) (L : DLoc) (w : World) (h : DevIn w d L) (h0 : d.s0.length = 64) (h1 : d.s1.length = 64) (hc : copCheck d.c0 d.c1 = 0) (hu : d.up = true) (hx : d.running < 0 ∨ 1 < d.running ∨ (d.running ≠ (recRead d.c0 d.c1).1.active ∧ (recRead d.c0 d.c1).1.trying = false)) : Calls Tryz.prog 36 #[.agg (devA d L)] w (RetB w (iv (devCheck d))) := by
 have E := Lib.hid (devCheck_is_up h0 h1 hc hu)
 obtain ⟨n, hn⟩ : ∃ n, devCheck d = n := ⟨_, rfl⟩
 rw [hn] at E
 rw [hn]
 have HIN := Lib.hid h
 clear hn h
 have hz : Hid (n = 2) := Lib.hid (E.out.trans (devUp_range hx))
 have l0 : ((d.s0.length : Int) != 64) = false := by simp; omega
 have l1 : ((d.s1.length : Int) != 64) = false := by simp; omega
 have i0 : ∀ w, (Instr.index 24 (.agg (slotsA L.a0 d.s0.length L.c0 L.a1 d.s1.length L.c1)) (.int .i64 0)).run Tryz.prog w = .ok (.slice L.a0 d.s0.length L.c0) w := fun _ => by kernel_rfl
 have i1 : ∀ w, (Instr.index 24 (.agg (slotsA L.a0 d.s0.length L.c0 L.a1 d.s1.length L.c1)) (.int .i64 1)).run Tryz.prog w = .ok (.slice L.a1 d.s1.length L.c1) w := fun _ => by kernel_rfl
 have HBA := Lib.hid ((Below.refl w.heap.size w).alloc (Nat.le_refl _) (.cells (devA d L) 38))
 have KR := Lib.hid (fun w => read_ok d.c0 d.c1 w hc)
 obtain ⟨r, hr⟩ : ∃ r, (recRead d.c0 d.c1).1 = r := ⟨_, rfl⟩
 obtain ⟨rk, hrk⟩ : ∃ rk, (recRead d.c0 d.c1).2 = rk := ⟨_, rfl⟩
 rw [hr, hrk] at KR
 rw [hr] at hx E
 clear hr
 clear h0 h1 hc hrk
 go_enter Tryz.func36, Tryz.ntmps36
 go_wp2_with fail
 go_loopw [12] (fun i wr => ∃ k : Nat, k ≤ 2 ∧ i = .int .i64 k ∧ wr = w.alloc (.cells (devA d L) 38)) (fun i _ => (2 - intOf i).toNat)
 case atStart => exact ⟨0, by omega, rfl, rfl⟩
 case round =>
  obtain ⟨k, hk, rfl, rfl⟩ := hrel
  by_cases hlt : k < 2
  ·rcases (show k = 0 ∨ k = 1 by omega) with rfl | rfl
   ·go_wp2_with fail
    go_roundw
    case rel => exact ⟨1, by omega, rfl, by first | rfl | trivial⟩
    case measure => simp [intOf] <;> omega
   ·go_wp2_with fail
    go_roundw
    case rel => exact ⟨2, by omega, rfl, by first | rfl | trivial⟩
    case measure => simp [intOf] <;> omega
  ·obtain rfl : k = 2 := by omega
   clear hk hlt i0 i1 l0 l1
   go_wp2_with fail
   refine (KR.out _).mono ?_
   rintro e w1 ⟨rfl, hb1⟩
   obtain ⟨a0r, a0f, a0n, a0c, a0z, a0l⟩ := keep1 (g := w.heap.size) (cs := devA d L) hb1 (by first | (go_simp; done) | (go_simp; rfl)) (by go_simp) (by go_simp)
   have HB1 := Lib.hid (HBA.out.trans (hb1.mono (by simp)))
   clear hb1
   by_cases c1 : d.running < 0
   ·skip
    go_wp2_with fail
    go_ret
    have hs := HB1.out.size
    refine ⟨ret_int hz.out.symm, ?_⟩
    repeat (first | exact HB1.out | refine below_row ?_ (by omega) _ | refine Below.setCell ?_ (by simp <;> omega) _ | refine Below.alloc ?_ (by first | omega | (simp <;> omega)) _)
   by_cases c2 : 1 < d.running
   ·skip
    go_wp2_with fail
    go_ret
    have hs := HB1.out.size
    refine ⟨ret_int hz.out.symm, ?_⟩
    repeat (first | exact HB1.out | refine below_row ?_ (by omega) _ | refine Below.setCell ?_ (by simp <;> omega) _ | refine Below.alloc ?_ (by first | omega | (simp <;> omega)) _)
   obtain ⟨c3, c4⟩ := (hx.resolve_left c1).resolve_left c2
   have q3 : (d.running != r.active) = true := by simp [c3]
   clear hx c3
   go_wp2_with fail
   go_ret
   have hs := HB1.out.size
   refine ⟨ret_int hz.out.symm, ?_⟩
   repeat (first | exact HB1.out | refine below_row ?_ (by omega) _ | refine Below.setCell ?_ (by simp <;> omega) _ | refine Below.alloc ?_ (by first | omega | (simp <;> omega)) _)
theorem devCheck_idleEq_ : (∀ (d : Dev) (L : DLoc) (w : World) (h : DevIn w d L) (h0 : d.s0.length = 64) (h1 : d.s1.length = 64) (hc : copCheck d.c0 d.c1 = 0) (hu : d.up = true) (hx : d.running = (recRead d.c0 d.c1).1.active) (hg : chkList d.got = 0) (hbz : d.busy = false), Calls Tryz.prog 36 #[.agg (devA d L)] w (RetB w (iv (devCheck d)))) ∧ (∀ (d : Dev) (L : DLoc) (w : World) (h : DevIn w d L) (h0 : d.s0.length = 64) (h1 : d.s1.length = 64) (hc : copCheck d.c0 d.c1 = 0) (hu : d.up = true) (hx : d.running ≠ (recRead d.c0 d.c1).1.active) (ht : (recRead d.c0 d.c1).1.trying = true) (hv : d.running = 0 ∨ d.running = 1) (hg : chkList d.got = 0) (hbz : d.busy = false), Calls Tryz.prog 36 #[.agg (devA d L)] w (RetB w (iv (devCheck d)))) ∧ (∀ (d : Dev) (L : DLoc) (w : World) (h : DevIn w d L) (h0 : d.s0.length = 64) (h1 : d.s1.length = 64) (hc : copCheck d.c0 d.c1 = 0) (hu : d.up = true) (hx : d.running = (recRead d.c0 d.c1).1.active) (hg : chkList d.got ≠ 0), Calls Tryz.prog 36 #[.agg (devA d L)] w (RetB w (iv (devCheck d)))) ∧ (∀ (d : Dev) (L : DLoc) (w : World) (h : DevIn w d L) (h0 : d.s0.length = 64) (h1 : d.s1.length = 64) (hc : copCheck d.c0 d.c1 = 0) (hu : d.up = true) (hx : d.running ≠ (recRead d.c0 d.c1).1.active) (ht : (recRead d.c0 d.c1).1.trying = true) (hv : d.running = 0 ∨ d.running = 1) (hg : chkList d.got ≠ 0), Calls Tryz.prog 36 #[.agg (devA d L)] w (RetB w (iv (devCheck d)))) := by
 refine ⟨?_, ?_, ?_, ?_⟩
 case' refine_1 => have U01 : Hid True := Lib.hid trivial; have U02 : Hid True := Lib.hid trivial; have U03 : Hid True := Lib.hid trivial; intro d L w h h0 h1 hc hu hx hg hbz
 case' refine_2 => have U02 : Hid True := Lib.hid trivial; have U03 : Hid True := Lib.hid trivial; intro d L w h h0 h1 hc hu hx ht hv hg hbz
 case' refine_3 => have U03 : Hid True := Lib.hid trivial; intro d L w h h0 h1 hc hu hx hg
 case' refine_4 => intro d L w h h0 h1 hc hu hx ht hv hg
 all_goals
  have E := Lib.hid (devCheck_is_up h0 h1 hc hu)
  obtain ⟨n, hn⟩ : ∃ n, devCheck d = n := ⟨_, rfl⟩
  rw [hn] at E
  rw [hn]
  have HIN := Lib.hid h
  clear hn h
  have l0 : ((d.s0.length : Int) != 64) = false := by simp; omega
  have l1 : ((d.s1.length : Int) != 64) = false := by simp; omega
  have i0 : ∀ w, (Instr.index 24 (.agg (slotsA L.a0 d.s0.length L.c0 L.a1 d.s1.length L.c1)) (.int .i64 0)).run Tryz.prog w = .ok (.slice L.a0 d.s0.length L.c0) w := fun _ => by kernel_rfl
  have i1 : ∀ w, (Instr.index 24 (.agg (slotsA L.a0 d.s0.length L.c0 L.a1 d.s1.length L.c1)) (.int .i64 1)).run Tryz.prog w = .ok (.slice L.a1 d.s1.length L.c1) w := fun _ => by kernel_rfl
  have HBA := Lib.hid ((Below.refl w.heap.size w).alloc (Nat.le_refl _) (.cells (devA d L) 38))
  have KR := Lib.hid (fun w => read_ok d.c0 d.c1 w hc)
  obtain ⟨r, hr⟩ : ∃ r, (recRead d.c0 d.c1).1 = r := ⟨_, rfl⟩
  obtain ⟨rk, hrk⟩ : ∃ rk, (recRead d.c0 d.c1).2 = rk := ⟨_, rfl⟩
  rw [hr, hrk] at KR
  first
   |
    revert U03; intro U03
    first
     |
      revert U02; intro U02
      first
       |
        revert U01; intro U01
        rw [hr] at E hx
       | rw [hr] at E hx ht
     | rw [hr] at E hx
   | rw [hr] at E hx ht
  have hrec := recRead_ok hc
  rw [hr] at hrec
  have hact := rec_active hrec
  clear hr
  first
   |
    revert U03; intro U03
    first
     |
      revert U02; intro U02
      first
       |
        revert U01; intro U01
        have hng : ¬ (d.running < 0 ∨ 1 < d.running ∨ (d.running ≠ r.active ∧ r.trying = false)) := fun a => a.elim (fun a => by omega) (fun a => a.elim (fun a => by omega) (fun a => a.1 hx))
       | have hng : ¬ (d.running < 0 ∨ 1 < d.running ∨ (d.running ≠ r.active ∧ r.trying = false)) := fun a => a.elim (fun a => by omega) (fun a => a.elim (fun a => by omega) (fun a => by rw [ht] at a; exact absurd a.2 (by decide)))
     | have hng : ¬ (d.running < 0 ∨ 1 < d.running ∨ (d.running ≠ r.active ∧ r.trying = false)) := fun a => a.elim (fun a => by omega) (fun a => a.elim (fun a => by omega) (fun a => a.1 hx))
   | have hng : ¬ (d.running < 0 ∨ 1 < d.running ∨ (d.running ≠ r.active ∧ r.trying = false)) := fun a => a.elim (fun a => by omega) (fun a => a.elim (fun a => by omega) (fun a => by rw [ht] at a; exact absurd a.2 (by decide)))
  have z1 : ¬ d.running < 0 := by omega
  have z2 : ¬ (1 : Int) < d.running := by omega
  first
   |
    revert U03; intro U03
    first
     |
      revert U02; intro U02
      first
       |
        revert U01; intro U01
        have q3 : (d.running != r.active) = false := by simp [hx]
       | have q3 : (d.running != r.active) = true := by simp [hx]
     | have q3 : (d.running != r.active) = false := by simp [hx]
   | have q3 : (d.running != r.active) = true := by simp [hx]
  first
   |
    revert U03; intro U03
    first
     |
      revert U02; intro U02
      have HE2 : Hid (n = if d.done ≠ 0 ∨ d.job ≠ Pat.zero then 3 else 0) := Lib.hid (E.out.trans (devUp_idle hng hg hbz))
     | have hz : Hid (n = chkList d.got) := Lib.hid (E.out.trans (devUp_list hng hg))
   | have hz : Hid (n = chkList d.got) := Lib.hid (E.out.trans (devUp_list hng hg))
  first
   |
    revert U03; intro U03
    first
     |
      revert U02; intro U02
      first
       |
        revert U01; intro U01
        clear hx hact hng
       | clear hx hact hng hv
     | clear hx hact hng
   | clear hx hact hng hv
  have HLG := Lib.hid HIN.out.lg
  first
   |
    revert U03; intro U03
    first
     |
      revert U02; intro U02
      have HG := Lib.hid hg
     | have qg : (chkList d.got != 0) = true := by simp [hg]
   | have qg : (chkList d.got != 0) = true := by simp [hg]
  clear hg E
  clear h0 h1 hc hrk
  go_enter Tryz.func36, Tryz.ntmps36
  go_wp2_with fail
  go_loopw [12] (fun i wr => ∃ k : Nat, k ≤ 2 ∧ i = .int .i64 k ∧ wr = w.alloc (.cells (devA d L) 38)) (fun i _ => (2 - intOf i).toNat)
  case atStart => exact ⟨0, by omega, rfl, rfl⟩
  case round =>
   obtain ⟨k, hk, rfl, rfl⟩ := hrel
   by_cases hlt : k < 2
   ·rcases (show k = 0 ∨ k = 1 by omega) with rfl | rfl
    ·go_wp2_with fail
     go_roundw
     case rel => exact ⟨1, by omega, rfl, by first | rfl | trivial⟩
     case measure => simp [intOf] <;> omega
    ·go_wp2_with fail
     go_roundw
     case rel => exact ⟨2, by omega, rfl, by first | rfl | trivial⟩
     case measure => simp [intOf] <;> omega
   ·obtain rfl : k = 2 := by omega
    clear hk hlt i0 i1 l0 l1
    go_wp2_with fail
    refine (KR.out _).mono ?_
    rintro e w1 ⟨rfl, hb1⟩
    obtain ⟨a0r, a0f, a0n, a0c, a0z, a0l⟩ := keep1 (g := w.heap.size) (cs := devA d L) hb1 (by first | (go_simp; done) | (go_simp; rfl)) (by go_simp) (by go_simp)
    have HB1 := Lib.hid (HBA.out.trans (hb1.mono (by simp)))
    clear hb1
    go_wp2_with fail
    have hbx := HB1.out.alloc HB1.out.size (.cells (recA r) 29)
    refine (chkList_calls L.ag L.cg d.got _ HLG.out (HIN.out.got.stays hbx)).mono ?_
    rintro e w2 ⟨rfl, hb2⟩
    first
     |
      revert U03; intro U03
      first
       |
        revert U02; intro U02
        rw [HG.out]
       | skip
     | skip
    obtain ⟨a0r, a0f, a0n, a0c, a0z, a0l⟩ := keep1 (g := w.heap.size) (cs := devA d L) hb2 (by first | (go_simp; done) | (go_simp; rfl)) (by go_simp) (by go_simp)
    obtain ⟨a1r, a1f, a1n, a1c, a1z, a1l⟩ := keep1 (g := w1.heap.size) (cs := recA r) hb2 (by first | (go_simp; done) | (go_simp; rfl)) (by go_simp) (by go_simp)
    have HB2 := Lib.hid (hbx.trans (hb2.mono (by simp; have := HB1.out.size; omega)))
    first
     |
      revert U03; intro U03
      first
       |
        revert U02; intro U02
        clear hb2 hbx

        by_cases c4 : d.done ≠ 0
        ·have hz : Hid (n = 3) := Lib.hid (HE2.out.trans (if_pos (.inl c4)))
         have q : (d.done != 0) = true := by simp [c4]
         clear c4
         go_wp2_with fail
         go_ret
         have hs := HB2.out.size
         refine ⟨ret_int hz.out.symm, ?_⟩
         repeat (first | exact HB2.out | refine below_row ?_ (by omega) _ | refine Below.setCell ?_ (by simp <;> omega) _ | refine Below.alloc ?_ (by first | omega | (simp <;> omega)) _)
        have q4 : (d.done != 0) = false := by simpa using c4
        have E2 : Hid (n = if d.job ≠ Pat.zero then 3 else 0) := Lib.hid (by
         rw [HE2.out]
         by_cases c5 : d.job ≠ Pat.zero
         ·rw [if_pos (.inr c5), if_pos c5]
         ·rw [if_neg (fun a => ?_), if_neg c5]
          rcases a with a | a
          ·exact c4 a
          ·exact c5 a)
        clear c4
       | clear hb2 hbx
     | clear hb2 hbx
    go_wp2_with fail
    first
     |
      revert U03; intro U03
      first
       |
        revert U02; intro U02
        refine (patSameZ_calls d.job L.aj L.cj _ (HIN.out.job.stays HB2.out)).mono ?_
        rintro e w3 ⟨rfl, hb3⟩
        have HB3 := Lib.hid (HB2.out.trans (hb3.mono HB2.out.size))
        clear hb3
        by_cases c5 : d.job = Pat.zero
        ·have hz : Hid (n = 0) := Lib.hid (E2.out.trans (if_neg (by simpa using c5)))
         have q5 : decide (d.job = Pat.zero) = true := decide_eq_true c5
         clear c5
         go_wp2_with fail
         go_ret
         have hs := HB3.out.size
         refine ⟨ret_int hz.out.symm, ?_⟩
         repeat (first | exact HB3.out | refine below_row ?_ (by omega) _ | refine Below.setCell ?_ (by simp <;> omega) _ | refine Below.alloc ?_ (by first | omega | (simp <;> omega)) _)
        ·have hz : Hid (n = 3) := Lib.hid (E2.out.trans (if_pos c5))
         have q5 : decide (d.job = Pat.zero) = false := decide_eq_false c5
         clear c5
         go_wp2_with fail
         go_ret
         have hs := HB3.out.size
         refine ⟨ret_int hz.out.symm, ?_⟩
         repeat (first | exact HB3.out | refine below_row ?_ (by omega) _ | refine Below.setCell ?_ (by simp <;> omega) _ | refine Below.alloc ?_ (by first | omega | (simp <;> omega)) _)
       |
        go_ret
        have hs := HB2.out.size
        refine ⟨ret_int hz.out.symm, ?_⟩
        repeat (first | exact HB2.out | refine below_row ?_ (by omega) _ | refine Below.setCell ?_ (by simp <;> omega) _ | refine Below.alloc ?_ (by first | omega | (simp <;> omega)) _)
     |
      go_ret
      have hs := HB2.out.size
      refine ⟨ret_int hz.out.symm, ?_⟩
      repeat (first | exact HB2.out | refine below_row ?_ (by omega) _ | refine Below.setCell ?_ (by simp <;> omega) _ | refine Below.alloc ?_ (by first | omega | (simp <;> omega)) _)
def ImRet (w : World) (l : List UInt8) : Ending → World → Prop := fun en w' =>
 ∃ A c, en = .returned (.slice A l.length c) ∧ l.length ≤ c ∧ Bts w' A l ∧ Below w.heap.size w w'
theorem pre_slice {A : Option Addr} {n c : Nat} {z : Int} (y : Nat) (h1 : z = (y : Int)) (hc : n ≤ c) (hy : y ≤ n) (h0 : 0 < n) (hA : ∃ b o, A = some ⟨b, o, none⟩) (W : World) : (Instr.slice 23 (.slice A n c) none (some (.int .i64 z)) none).run Tryz.prog W = .ok (.slice A y c) W := by
 obtain ⟨b, o, rfl⟩ := hA
 subst h1
 have q1 : (y : Int) ≤ (c : Int) := by omega
 have q2 : ¬ c = 0 := by omega
 go_simp
theorem image_calls0 (d : Dev) (L : DLoc) (r : Rec) (w : World) (h : DevIn w d L) (hl : d.s0.length = 64) (h0 : 0 ≤ r.a.size) (h1 : r.a.size ≤ 64) :
  Calls Tryz.prog 65 #[.agg (devA d L), iv 0, .agg (recA r)] w (ImRet w (d.image 0 r)) := by
 obtain ⟨y, hy⟩ : ∃ y : Nat, r.a.size = (y : Int) := ⟨r.a.size.toNat, by omega⟩
 have himg : d.image 0 r = d.s0.take y := by
  unfold Dev.image Dev.slot Rec.at_
  rw [if_pos rfl, if_pos rfl, hy]
  rfl
 have hlen : (d.s0.take y).length = y := by rw [List.length_take]; omega
 obtain ⟨b, o, hA, -⟩ := h.b0 0 (by omega)
 have HSL : Hid (∀ W, (Instr.slice 23 (.slice L.a0 d.s0.length L.c0) none (some (iv r.a.size)) none).run Tryz.prog W = .ok (.slice L.a0 y L.c0) W) := hD (pre_slice y hy h.k0 (by omega) (by omega) ⟨b, o, hA⟩)
 have HB : Hid (Bts w L.a0 (d.s0.take y)) := hD (mid_take h.b0 y)
 have HC : Hid (y ≤ L.c0) := hD (by have := h.k0; omega)
 rw [himg]
 have HLEN := hD hlen
 clear h hl h0 h1 hy himg hA hlen
 go_enter Tryz.func65, Tryz.ntmps65
 go_wp2_with fail
 have RD : Hid (rowOf ((w.alloc (.cells (devA d L) 38)).alloc (.cells (recA r) 29)).drew w.heap.size = devA d L) := hD (by go_simp)
 have FD : Hid (frOf ((w.alloc (.cells (devA d L) 38)).alloc (.cells (recA r) 29)).drew w.heap.size = (0, 0)) := hD (by go_simp)
 have RR : Hid (rowOf ((w.alloc (.cells (devA d L) 38)).alloc (.cells (recA r) 29)).drew (w.heap.size + 1) = recA r) := hD (by go_simp)
 have FR : Hid (frOf ((w.alloc (.cells (devA d L) 38)).alloc (.cells (recA r) 29)).drew (w.heap.size + 1) = (0, 0)) := hD (by go_simp)
 have HBA : Hid (Below w.heap.size w ((w.alloc (.cells (devA d L) 38)).alloc (.cells (recA r) 29))) := hD (((Below.refl _ _).alloc (Nat.le_refl _) _).alloc (by simp) _)
 obtain ⟨g, hg⟩ : ∃ g, w.heap.size = g := ⟨_, rfl⟩
 have HG := hD hg
 rw [hg] at RD FD RR FR ⊢
 clear hg
 refine wp_region_chain (by kernel_rfl) (some 7 :: some 8 :: some 9 :: some 10 :: some 11 :: some 12 :: some 13 :: some 14 :: some 15 :: some 16 :: some 6 :: []) (iv 0 :: .pointer (some ⟨g, 0, none⟩) :: .pointer (some ⟨g, 0, none⟩) :: .slice L.a0 d.s0.length L.c0 :: iv 0 :: .pointer (some ⟨g + 1, 5, none⟩) :: .pointer (some ⟨g + 1, 5, none⟩) :: .pointer (some ⟨g + 1, 6, none⟩) :: iv r.a.size :: .slice L.a0 y L.c0 :: .slice L.a0 y L.c0 :: []) 17 rfl rfl (by decide +kernel) (by decide +kernel) (by decide +kernel) rfl ?_ ?_
 ·refine ⟨.inl ⟨rfl, fun done a wq hw h => ?_⟩, ?_⟩
  ·have e1 := cO 1 (iv 0) h; exact ch_move (ch_ev e1)
  refine ⟨.inl ⟨rfl, fun done a wq hw h => ?_⟩, ?_⟩
  ·have e3 := cO 3 (.pointer (some ⟨g, 0, none⟩)) h; refine ch_pure ?_; go_simp
  refine ⟨.inl ⟨rfl, fun done a wq hw h => ?_⟩, ?_⟩
  ·have e8 := cN 1 8 h hw; have e7 := cN 0 7 h hw; refine ch_pure ?_; go_simp
  refine ⟨.inl ⟨rfl, fun done a wq hw h => ?_⟩, ?_⟩
  ·have e9 := cN 2 9 h hw; obtain ⟨r_, f_, n_, c_, z_, l_⟩ := keep1 h.bel RD.out (by go_simp) FD.out; refine ch_pure ?_; go_simp
  refine ⟨.inl ⟨rfl, fun done a wq hw h => ?_⟩, ?_⟩
  ·have e1 := cO 1 (iv 0) h; exact ch_move (ch_ev e1)
  refine ⟨.inl ⟨rfl, fun done a wq hw h => ?_⟩, ?_⟩
  ·have e5 := cO 5 (.pointer (some ⟨g + 1, 0, none⟩)) h; refine ch_pure ?_; go_simp
  refine ⟨.inl ⟨rfl, fun done a wq hw h => ?_⟩, ?_⟩
  ·have e12 := cN 5 12 h hw; have e11 := cN 4 11 h hw; refine ch_pure ?_; go_simp
  refine ⟨.inl ⟨rfl, fun done a wq hw h => ?_⟩, ?_⟩
  ·have e13 := cN 6 13 h hw; refine ch_pure ?_; go_simp
  refine ⟨.inl ⟨rfl, fun done a wq hw h => ?_⟩, ?_⟩
  ·have e14 := cN 7 14 h hw; obtain ⟨r_, f_, n_, c_, z_, l_⟩ := keep1 h.bel RR.out (by go_simp) FR.out; refine ch_pure ?_; go_simp
  refine ⟨.inl ⟨rfl, fun done a wq hw h => ?_⟩, ?_⟩
  ·have e10 := cN 3 10 h hw; have e15 := cN 8 15 h hw; have hs := HSL.out; refine ch_pure ?_; go_simp
  refine ⟨.inl ⟨rfl, fun done a wq hw h => ?_⟩, ?_⟩
  ·have e16 := cN 9 16 h hw; exact ch_assign (ch_ev e16)
  exact trivial
 ·intro w5 hb
  simp only [putAll_some, putAll_none, putAll_nil, List.setIfInBounds_toArray, List.set_cons_zero, List.set_cons_succ]
  have HB5 : Hid (Below w.heap.size w w5) := hD (HBA.out.trans (hb.mono (by simp <;> omega)))
  go_wp2_with fail
  go_ret
  exact ⟨L.a0, L.c0, by rw [HLEN.out]; rfl, by rw [HLEN.out]; exact HC.out, HB.out.stays HB5.out, HB5.out⟩
theorem image_calls1 (d : Dev) (L : DLoc) (r : Rec) (w : World) (h : DevIn w d L) (hl : d.s1.length = 64) (h0 : 0 ≤ r.b.size) (h1 : r.b.size ≤ 64) :
  Calls Tryz.prog 65 #[.agg (devA d L), iv 1, .agg (recA r)] w (ImRet w (d.image 1 r)) := by
 obtain ⟨y, hy⟩ : ∃ y : Nat, r.b.size = (y : Int) := ⟨r.b.size.toNat, by omega⟩
 have himg : d.image 1 r = d.s1.take y := by
  unfold Dev.image Dev.slot Rec.at_
  rw [if_neg (by omega), if_neg (by omega), hy]
  rfl
 have hlen : (d.s1.take y).length = y := by rw [List.length_take]; omega
 obtain ⟨b, o, hA, -⟩ := h.b1 0 (by omega)
 have HSL : Hid (∀ W, (Instr.slice 23 (.slice L.a1 d.s1.length L.c1) none (some (iv r.b.size)) none).run Tryz.prog W = .ok (.slice L.a1 y L.c1) W) := hD (pre_slice y hy h.k1 (by omega) (by omega) ⟨b, o, hA⟩)
 have HB : Hid (Bts w L.a1 (d.s1.take y)) := hD (mid_take h.b1 y)
 have HC : Hid (y ≤ L.c1) := hD (by have := h.k1; omega)
 rw [himg]
 have HLEN := hD hlen
 clear h hl h0 h1 hy himg hA hlen
 go_enter Tryz.func65, Tryz.ntmps65
 go_wp2_with fail
 have RD : Hid (rowOf ((w.alloc (.cells (devA d L) 38)).alloc (.cells (recA r) 29)).drew w.heap.size = devA d L) := hD (by go_simp)
 have FD : Hid (frOf ((w.alloc (.cells (devA d L) 38)).alloc (.cells (recA r) 29)).drew w.heap.size = (0, 0)) := hD (by go_simp)
 have RR : Hid (rowOf ((w.alloc (.cells (devA d L) 38)).alloc (.cells (recA r) 29)).drew (w.heap.size + 1) = recA r) := hD (by go_simp)
 have FR : Hid (frOf ((w.alloc (.cells (devA d L) 38)).alloc (.cells (recA r) 29)).drew (w.heap.size + 1) = (0, 0)) := hD (by go_simp)
 have HBA : Hid (Below w.heap.size w ((w.alloc (.cells (devA d L) 38)).alloc (.cells (recA r) 29))) := hD (((Below.refl _ _).alloc (Nat.le_refl _) _).alloc (by simp) _)
 obtain ⟨g, hg⟩ : ∃ g, w.heap.size = g := ⟨_, rfl⟩
 have HG := hD hg
 rw [hg] at RD FD RR FR ⊢
 clear hg
 refine wp_region_chain (by kernel_rfl) (some 7 :: some 8 :: some 9 :: some 10 :: some 11 :: some 12 :: some 13 :: some 14 :: some 15 :: some 16 :: some 6 :: []) (iv 1 :: .pointer (some ⟨g, 0, none⟩) :: .pointer (some ⟨g, 1, none⟩) :: .slice L.a1 d.s1.length L.c1 :: iv 1 :: .pointer (some ⟨g + 1, 5, none⟩) :: .pointer (some ⟨g + 1, 8, none⟩) :: .pointer (some ⟨g + 1, 9, none⟩) :: iv r.b.size :: .slice L.a1 y L.c1 :: .slice L.a1 y L.c1 :: []) 17 rfl rfl (by decide +kernel) (by decide +kernel) (by decide +kernel) rfl ?_ ?_
 ·refine ⟨.inl ⟨rfl, fun done a wq hw h => ?_⟩, ?_⟩
  ·have e1 := cO 1 (iv 1) h; exact ch_move (ch_ev e1)
  refine ⟨.inl ⟨rfl, fun done a wq hw h => ?_⟩, ?_⟩
  ·have e3 := cO 3 (.pointer (some ⟨g, 0, none⟩)) h; refine ch_pure ?_; go_simp
  refine ⟨.inl ⟨rfl, fun done a wq hw h => ?_⟩, ?_⟩
  ·have e8 := cN 1 8 h hw; have e7 := cN 0 7 h hw; refine ch_pure ?_; go_simp
  refine ⟨.inl ⟨rfl, fun done a wq hw h => ?_⟩, ?_⟩
  ·have e9 := cN 2 9 h hw; obtain ⟨r_, f_, n_, c_, z_, l_⟩ := keep1 h.bel RD.out (by go_simp) FD.out; refine ch_pure ?_; go_simp
  refine ⟨.inl ⟨rfl, fun done a wq hw h => ?_⟩, ?_⟩
  ·have e1 := cO 1 (iv 1) h; exact ch_move (ch_ev e1)
  refine ⟨.inl ⟨rfl, fun done a wq hw h => ?_⟩, ?_⟩
  ·have e5 := cO 5 (.pointer (some ⟨g + 1, 0, none⟩)) h; refine ch_pure ?_; go_simp
  refine ⟨.inl ⟨rfl, fun done a wq hw h => ?_⟩, ?_⟩
  ·have e12 := cN 5 12 h hw; have e11 := cN 4 11 h hw; refine ch_pure ?_; go_simp
  refine ⟨.inl ⟨rfl, fun done a wq hw h => ?_⟩, ?_⟩
  ·have e13 := cN 6 13 h hw; refine ch_pure ?_; go_simp
  refine ⟨.inl ⟨rfl, fun done a wq hw h => ?_⟩, ?_⟩
  ·have e14 := cN 7 14 h hw; obtain ⟨r_, f_, n_, c_, z_, l_⟩ := keep1 h.bel RR.out (by go_simp) FR.out; refine ch_pure ?_; go_simp
  refine ⟨.inl ⟨rfl, fun done a wq hw h => ?_⟩, ?_⟩
  ·have e10 := cN 3 10 h hw; have e15 := cN 8 15 h hw; have hs := HSL.out; refine ch_pure ?_; go_simp
  refine ⟨.inl ⟨rfl, fun done a wq hw h => ?_⟩, ?_⟩
  ·have e16 := cN 9 16 h hw; exact ch_assign (ch_ev e16)
  exact trivial
 ·intro w5 hb
  simp only [putAll_some, putAll_none, putAll_nil, List.setIfInBounds_toArray, List.set_cons_zero, List.set_cons_succ]
  have HB5 : Hid (Below w.heap.size w w5) := hD (HBA.out.trans (hb.mono (by simp <;> omega)))
  go_wp2_with fail
  go_ret
  exact ⟨L.a1, L.c1, by rw [HLEN.out]; rfl, by rw [HLEN.out]; exact HC.out, HB.out.stays HB5.out, HB5.out⟩
theorem patDo_calls (B A : Option Addr) (d c : Nat) (p : Pat) (old : List UInt8) (w : World) (hc : old.length ≤ c) (ho : old.length ≤ 1048576) (hA : Bts w A old) (hp : PatIn w p B d) :
  Calls Tryz.prog 64 #[.agg (patA p.from_ p.to_ p.old p.new_ p.size B p.ops.length d), .slice A old.length c] w (ByRet2 w (patDo (sumOn 1) p old).1 (patDo (sumOn 1) p old).2) := by
 obtain ⟨f, t, o, n, sz, l⟩ := p
 obtain ⟨hcap, hlen, hops, -, -, -, -, -⟩ := hp
 dsimp only at *
 have hba := (Below.refl w.heap.size w).alloc (Nat.le_refl _) (.cells (patA f t o n sz B l.length d) 36)
 have K1 := Lib.hid (fun w h => patCheck_calls B d f t o n sz l w hlen h)
 have K2 := Lib.hid (fun w h => sumOf_calls A c old w (by omega) h)
 have HA := Lib.hid hA
 have HO := Lib.hid hops
 have HBA := Lib.hid hba
 clear hA hops hba
 obtain ⟨r, hr⟩ : ∃ r, patDo (sumOn 1) ⟨f, t, o, n, sz, l⟩ old = r := ⟨_, rfl⟩
 rw [hr]
 have HR := Lib.hid hr
 clear hr
 obtain ⟨ck, hck⟩ : ∃ ck, patCheck ⟨f, t, o, n, sz, l⟩ = ck := ⟨_, rfl⟩
 rw [hck] at K1
 have HCK := Lib.hid hck
 clear hck
 go_enter Tryz.func64, Tryz.ntmps64
 go_wp2_with fail
 refine (K1.out _ (HO.out.stays HBA.out)).mono ?_
 rintro e w1 ⟨rfl, hb1⟩
 obtain ⟨a0r, a0f, a0n, a0c, a0z, a0l⟩ := keep1 (g := w.heap.size) (cs := patA f t o n sz B l.length d) hb1 (by first | (go_simp; done) | (go_simp; rfl)) (by go_simp) (by go_simp)
 have HB1 := Lib.hid (HBA.out.trans (hb1.mono (by simp)))
 clear hb1
 by_cases h0 : ck ≠ 0
 ·have hz : r = ([], ck) := by rw [← HR.out]; unfold patDo; rw [HCK.out, if_pos h0]
  subst hz
  have q : (ck != 0) = true := by simp [h0]
  clear h0
  go_wp2_with fail
  go_ret2
  exact ⟨none, 0, rfl, Bts.nil _ _, Nat.le_refl _, HB1.out⟩
 have h0 := Decidable.not_not.1 h0
 subst h0
 by_cases h1 : 64 < old.length
 ·have hz : r = ([], 1) := by rw [← HR.out]; unfold patDo; rw [HCK.out, if_neg (by simp), if_pos h1]
  subst hz
  have q : (64 : Int) < (old.length : Int) := by omega
  go_wp2_with fail
  go_ret2
  exact ⟨none, 0, rfl, Bts.nil _ _, Nat.le_refl _, HB1.out⟩
 have q1 : ¬ (64 : Int) < (old.length : Int) := by omega
 obtain ⟨s, hs⟩ : ∃ s, sumOn 1 old = s := ⟨_, rfl⟩
 rw [hs] at K2
 have HS := Lib.hid hs
 clear hs
 have HK1 := Lib.hid (fun n => K2.out (w1.drewN n) ((HA.out.stays HB1.out).drewN n))
 by_cases h2 : s ≠ o
 ·have hz : r = ([], 6) := by rw [← HR.out]; unfold patDo; rw [HCK.out, if_neg (by simp), if_neg h1, HS.out, if_pos h2]
  subst hz
  have q : (s != o) = true := by simp [h2]
  clear h2
  go_wp2_with fail
  go_quiet ((go_at_call 73; with_reducible exact quietRet (HK1.out _)))
  go_wp2_with fail
  go_ret2
  exact ⟨none, 0, rfl, Bts.nil _ _, Nat.le_refl _, Below.drewN' HB1.out _⟩
 have h2 := Decidable.not_not.1 h2
 subst h2
 have q2 : (s != s) = false := by simp
 obtain ⟨y, e0, hy⟩ : ∃ y e0, axOf old l sz = (y, e0) := ⟨_, _, rfl⟩
 have K3 := Lib.hid (fun w h1 h2 => applyAny_calls A c old B d l sz w hc ho h1 hlen h2)
 rw [hy] at K3
 dsimp only at K3
 have HY := Lib.hid hy
 clear hy
 have HK3 := Lib.hid (fun n => K3.out (w1.drewN n) ((HA.out.stays HB1.out).drewN n) ((HO.out.stays HB1.out).stays (below_drewN _ _)))
 have hyl : y.length ≤ 1048576 := by
  have := HY.out
  unfold axOf at this
  by_cases h9 : deltaCheck l old.length sz ≠ 0
  ·rw [if_pos h9] at this; injection this with h; rw [← h]; simp
  ·rw [if_neg h9] at this
   injection this with h
   have hd := deltaCheck_ok.1 (Decidable.not_not.1 h9)
   have := applied_len (old := old) (l := l) (fun o ho => (hd.each o ho).2)
   have h7 := hd.sum; have h8 := hd.s1
   rw [← h]; omega
 go_wp2_with fail
 go_quiet ((go_at_call 73; with_reducible exact quietRet (HK1.out _)))
 go_wp2_with fail
 refine (HK3.out nq).mono ?_
 rintro e w2 ⟨A2, c2, rfl, hy2, hc2, hb2⟩
 obtain ⟨b0r, b0f, b0n, b0c, b0z, b0l⟩ := keep1 (g := w.heap.size) (cs := patA f t s n sz B l.length d) hb2 (by first | (go_simp; done) | (go_simp; rfl)) (by go_simp) (by go_simp)
 have HB2 : Hid (Below w.heap.size w w2) := Lib.hid ((Below.drewN' HB1.out nq).trans (hb2.mono (by have := HB1.out.size; simp; omega)))
 have HY2 := Lib.hid hy2
 clear hb2 hy2
 by_cases h3 : e0 ≠ 0
 ·have hz : r = ([], e0) := by
   rw [← HR.out]; unfold patDo
   have := HY.out
   unfold axOf at this
   rw [HCK.out, if_neg (by simp), if_neg h1, HS.out, if_neg (by simp)]
   by_cases h9 : deltaCheck l old.length sz ≠ 0
   ·rw [if_pos h9] at this ⊢; injection this with _ h; rw [h]
   ·rw [if_neg h9] at this; injection this with _ h; exact absurd h.symm h3
  subst hz
  have q : (e0 != 0) = true := by simp [h3]
  clear h3 HY
  go_wp2_with fail
  go_ret2
  exact ⟨none, 0, rfl, Bts.nil _ _, Nat.le_refl _, HB2.out⟩
 have h3 := Decidable.not_not.1 h3
 subst h3
 have hyy : deltaCheck l old.length sz = 0 ∧ y = applied old l := by
  have := HY.out
  unfold axOf at this
  by_cases h9 : deltaCheck l old.length sz ≠ 0
  ·rw [if_pos h9] at this; injection this with _ h; exact absurd h h9
  ·rw [if_neg h9] at this; injection this with h _; exact ⟨Decidable.not_not.1 h9, h.symm⟩
 have K4 := Lib.hid (fun m => sumOf_calls A2 c2 y (w2.drewN m) (by omega) (HY2.out.drewN m))
 have hrr : r = if sumOn 1 y ≠ n then ([], 6) else (y, 0) := by
  rw [← HR.out]; unfold patDo
  rw [HCK.out, if_neg (by simp), if_neg h1, HS.out, if_neg (by simp), hyy.1, if_neg (by simp), ← hyy.2]
 obtain ⟨s2, hs2⟩ : ∃ s2, sumOn 1 y = s2 := ⟨_, rfl⟩
 rw [hs2] at K4 hrr
 have HRR := Lib.hid hrr
 clear hrr hs2 hyy HY
 by_cases h4 : s2 ≠ n
 ·have hz : r = ([], 6) := by rw [HRR.out, if_pos h4]
  subst hz
  have q : (s2 != n) = true := by simp [h4]
  clear h4
  go_wp2_with fail
  go_quiet ((go_at_call 73; with_reducible exact quietRet (K4.out _)))
  go_wp2_with fail
  go_ret2
  exact ⟨none, 0, rfl, Bts.nil _ _, Nat.le_refl _, Below.drewN' HB2.out _⟩
 ·have h4 := Decidable.not_not.1 h4
  subst h4
  have hz : r = (y, 0) := by rw [HRR.out, if_neg (by simp)]
  subst hz
  have q : (s2 != s2) = false := by simp
  go_wp2_with fail
  go_quiet ((go_at_call 73; with_reducible exact quietRet (K4.out _)))
  go_wp2_with fail
  go_ret2
  exact ⟨A2, c2, rfl, HY2.out.drewN _, hc2, Below.drewN' HB2.out _⟩
def imJ (w0 : World) (ci cd cm e0 e1 a0 a1 : Nat) (img b : List UInt8) (n : Int) (dn : Nat → Bool) (cv : Nat → Value) (w : World) : Prop :=
 if dn cd = true then ∃ A2 c2, cv cd = .tuple #[.slice A2 b.length c2, iv n] ∧ Bts w A2 b ∧ b.length ≤ c2 ∧ Below w0.heap.size w0 w ∧
  (dn cm = true → cv cm = .tuple #[.slice A2 b.length c2, iv n]) ∧ (dn e0 = true → cv e0 = .slice A2 b.length c2) ∧ (dn e1 = true → cv e1 = iv n) ∧ (dn a0 = true → cv a0 = .slice A2 b.length c2) ∧ (dn a1 = true → cv a1 = iv n)
 else if dn ci = true then ∃ A1 c1, cv ci = .slice A1 img.length c1 ∧ img.length ≤ c1 ∧ Bts w A1 img ∧ Below w0.heap.size w0 w
 else w = w0.drew
section
variable {w0 w : World} {ci cd cm e0 e1 a0 a1 : Nat} {img b : List UInt8} {n : Int} {dn : Nat → Bool} {cv : Nat → Value}
theorem imJ_bel (h : imJ w0 ci cd cm e0 e1 a0 a1 img b n dn cv w) : Below w0.heap.size w0 w := by
 unfold imJ at h
 split at h
 ·obtain ⟨_, _, _, _, _, h, _⟩ := h; exact h
 ·split at h
  ·obtain ⟨_, _, _, _, _, h⟩ := h; exact h
  ·subst h; exact (Below.refl _ _).drew
theorem imJ_0 (h1 : dn ci = false) (h2 : dn cd = false) (h : imJ w0 ci cd cm e0 e1 a0 a1 img b n dn cv w) : w = w0.drew := by
 unfold imJ at h
 rw [if_neg (by simp [h2]), if_neg (by simp [h1])] at h
 exact h
theorem imJ_1 (h1 : dn ci = true) (h2 : dn cd = false) (h : imJ w0 ci cd cm e0 e1 a0 a1 img b n dn cv w) : ∃ A1 c1, cv ci = .slice A1 img.length c1 ∧ img.length ≤ c1 ∧ Bts w A1 img ∧ Below w0.heap.size w0 w := by
 unfold imJ at h
 rw [if_neg (by simp [h2]), if_pos h1] at h
 exact h
theorem imJ_2 (h2 : dn cd = true) (h : imJ w0 ci cd cm e0 e1 a0 a1 img b n dn cv w) : ∃ A2 c2, cv cd = .tuple #[.slice A2 b.length c2, iv n] ∧ Bts w A2 b ∧ b.length ≤ c2 ∧ Below w0.heap.size w0 w ∧
  (dn cm = true → cv cm = .tuple #[.slice A2 b.length c2, iv n]) ∧ (dn e0 = true → cv e0 = .slice A2 b.length c2) ∧ (dn e1 = true → cv e1 = iv n) ∧ (dn a0 = true → cv a0 = .slice A2 b.length c2) ∧ (dn a1 = true → cv a1 = iv n) := by
 unfold imJ at h
 rw [if_pos h2] at h
 exact h
theorem imJ_i (hne : cd ≠ ci) (h2 : dn cd = false) {A1 : Option Addr} {c1 : Nat} (h3 : img.length ≤ c1) (h4 : Bts w A1 img) (h5 : Below w0.heap.size w0 w) :
  imJ w0 ci cd cm e0 e1 a0 a1 img b n (fun j => if j = ci then true else dn j) (fun j => if j = ci then .slice A1 img.length c1 else cv j) w := by
 unfold imJ
 rw [if_neg (by simp [hne, h2]), if_pos (by simp)]
 exact ⟨A1, c1, by simp, h3, h4, h5⟩
theorem imJ_d (h1 : dn cm = false) (h2 : dn e0 = false) (h3 : dn e1 = false) (h4 : dn a0 = false) (h5 : dn a1 = false) (n1 : cm ≠ cd) (n2 : e0 ≠ cd) (n3 : e1 ≠ cd) (n4 : a0 ≠ cd) (n5 : a1 ≠ cd) {A2 : Option Addr} {c2 : Nat} (g1 : Bts w A2 b) (g2 : b.length ≤ c2) (g3 : Below w0.heap.size w0 w) :
  imJ w0 ci cd cm e0 e1 a0 a1 img b n (fun j => if j = cd then true else dn j) (fun j => if j = cd then .tuple #[.slice A2 b.length c2, iv n] else cv j) w := by
 unfold imJ
 rw [if_pos (by simp)]
 exact ⟨A2, c2, by simp, g1, g2, g3, by simp [n1, h1], by simp [n2, h2], by simp [n3, h3], by simp [n4, h4], by simp [n5, h5]⟩
theorem imJ_k {k : Nat} {v : Value} (hd : dn cd = true) (hne : cd ≠ k) (h : imJ w0 ci cd cm e0 e1 a0 a1 img b n dn cv w)
  (hv : ∀ A2 c2, (dn cm = true → cv cm = .tuple #[.slice A2 b.length c2, iv n]) → (dn e0 = true → cv e0 = .slice A2 b.length c2) → (dn e1 = true → cv e1 = iv n) → cv cd = .tuple #[.slice A2 b.length c2, iv n] → (cm = k → v = .tuple #[.slice A2 b.length c2, iv n]) ∧ (e0 = k → v = .slice A2 b.length c2) ∧ (e1 = k → v = iv n) ∧ (a0 = k → v = .slice A2 b.length c2) ∧ (a1 = k → v = iv n)) :
  imJ w0 ci cd cm e0 e1 a0 a1 img b n (fun j => if j = k then true else dn j) (fun j => if j = k then v else cv j) w := by
 obtain ⟨A2, c2, g1, g2, g3, g4, g5, g6, g7, g8, g9⟩ := imJ_2 hd h
 obtain ⟨v1, v2, v3, v4, v5⟩ := hv A2 c2 g5 g6 g7 g1
 unfold imJ
 rw [if_pos (by simp [hd])]
 have key : ∀ (q : Nat) (x : Value), (dn q = true → cv q = x) → (q = k → v = x) → ((if q = k then true else dn q) = true → (if q = k then v else cv q) = x) := by
  intro q x h1 h2 h3
  by_cases e : q = k
  ·rw [if_pos e]; exact h2 e
  ·rw [if_neg e] at h3 ⊢; exact h1 h3
 refine ⟨A2, c2, by simp only [hne, if_false]; exact g1, g2, g3, g4, key _ _ g5 v1, key _ _ g6 v2, key _ _ g7 v3, key _ _ g8 v4, key _ _ g9 v5⟩
end
theorem bts_zeros {g n : Nat} {t : TypeId} {fr : Nat × Nat} (h : w.heap[g]? = some (.cells (Array.replicate n (.int .u8 0)) t fr)) : Bts w (some ⟨g, 0, none⟩) (List.replicate n 0) := by
 intro j hj
 refine ⟨g, 0, rfl, blk_lt h, ?_⟩
 rw [cell_of_row _ _ _ _ _ _ h]
 have hj' : j < n := by simpa using hj
 simp [hj', bv]
theorem made_zeros (n : Nat) : madeCells #[Value.int .u8 0] n = Array.replicate n (.int .u8 0) := by
 apply Array.ext'
 rw [toList_madeCells_one]
 simp
theorem room_calls (A : Option Addr) (c : Nat) (b : List UInt8) (w : World) (hb : b.length ≤ 64) (hB : Bts w A b) :
  Calls Tryz.prog 67 #[.slice A b.length c] w (BtRet w (room b)) := by
 obtain ⟨m, hm⟩ : ∃ m : Nat, 64 - b.length = m := ⟨_, rfl⟩
 have hm2 : (64 : Int) - (b.length : Int) = (m : Int) := by omega
 have hwr : IntKind.i64.wrap ((64 : Int) - (b.length : Int)) = (m : Int) := by rw [hm2]; exact IntWalk.i64_in _ (by omega)
 have hmk : ∀ w : World, (Instr.makeSlice 23 (.int .i64 (m : Int)) (.int .i64 (m : Int))).run Tryz.prog w = .ok (.slice (some ⟨w.heap.size, 0, none⟩) m m) (w.alloc (.cells (Array.replicate m (.int .u8 0)) 5)) := fun w => by
  have := run_make_row' (P := Tryz.prog) 23 5 (.int .u8 0) 1 Tryz.underlying23 (by kernel_rfl) rfl .i64 .i64 m (by omega) (by omega) w
  rw [made_zeros] at this
  exact this
 have HM : Hid (room b = b ++ List.replicate m 0) := Lib.hid (by unfold room; rw [hm])
 have HMB : Hid (b.length + m ≤ 64) := Lib.hid (by omega)
 have hba := ((Below.refl w.heap.size w).alloc (Nat.le_refl _) (.cells (Array.replicate m (.int .u8 0)) 5)).alloc (by simp) (.cells #[.slice A b.length c, .slice (some ⟨w.heap.size, 0, none⟩) m m] 23)
 have K := Lib.hid (concat2_calls (w := (w.alloc (.cells (Array.replicate m (.int .u8 0)) 5)).alloc (.cells #[.slice A b.length c, .slice (some ⟨w.heap.size, 0, none⟩) m m] 23)) (g := w.heap.size + 1) (A := A) (B := some ⟨w.heap.size, 0, none⟩) (a := b) (b := List.replicate m 0) (c := c) (d := m)
  (t := 23) (fr := (0, 0)) (by rw [List.length_replicate]; exact blk_top (by simp)) (by rw [List.length_replicate]; omega) (hB.stays hba) ((bts_zeros (n := m) (w := w.alloc (.cells (Array.replicate m (.int .u8 0)) 5)) (blk_top rfl)).stays ((Below.refl _ _).alloc (Nat.le_refl _) _)))
 have HBA := Lib.hid hba
 rw [HM.out]
 clear hm hm2 hb hB hba
 go_enter Tryz.func67, Tryz.ntmps67
 go_wp2_with fail
 refine K.out.mono ?_
 rintro e w1 ⟨A1, c1, rfl, hown, hb1⟩
 have HO := Lib.hid hown
 have HB1 := Lib.hid (HBA.out.trans (hb1.mono (by simp; omega)))
 clear hown hb1
 go_wp2_with fail
 go_ret
 exact ⟨A1, c1, by simp, HO.out.mono (by simp; omega), HB1.out⟩
section
open Go.RowKit
end
theorem wp_val {P : Program} {o : Oper} {a : Act} {K : Act → World → Prop} {Q : Exit → Act → World → Prop} {v : Value} (e : (execOp a.eval o).run P w = .ok (.value v) w) (h : K (a.put o.dst v) w) : Oper.wp P o a w K Q := by
 unfold Oper.wp
 rw [e]
 exact h
end Go.Proofs.YtefkfglkpebbmadGreat
