/- Walks of functions, and plain words. No conditions. -/
import Derived.Test.YtefkfglkpebbmacGreatPE2
import Derived.Test.YtefkfglkpebbmacGreatPA
import Derived.Laws.StructEq
import Derived.Deep.LoopGhost
import Derived.Deep.DeepCutAuto
set_option linter.unusedVariables false
set_option linter.unusedSimpArgs false
set_option maxRecDepth 100000
set_option maxHeartbeats 40000000
namespace Go.Proofs.YtefkfglkpebbmacGreat
open Go.RowKit
variable {w : World} {d : Dev} {k n a : Nat} {A : Option Addr} {l : List UInt8}
def infA (x : Inf) : Array Value := #[iv x.ver, iv x.size, iv x.sum]
@[go_sem] theorem infA_size (x : Inf) : (infA x).size = 3 := by simp [infA]
@[go_sem] theorem infA_one (x : Inf) : allOne (infA x) = true := by simp [infA, allOne, Value.oneCell']
@[go_sem] theorem infA_at0 (x : Inf) (h : 0 < (infA x).size) : (infA x)[0]'h = iv x.ver := by simp [infA]
@[go_sem] theorem infA_at1 (x : Inf) (h : 1 < (infA x).size) : (infA x)[1]'h = iv x.size := by simp [infA]
@[go_sem] theorem infA_at2 (x : Inf) (h : 2 < (infA x).size) : (infA x)[2]'h = iv x.sum := by simp [infA]
def recA (r : Rec) : Array Value := #[iv r.gen, iv r.active, .bool r.trying, iv r.tries, iv r.floor, iv r.a.ver, iv r.a.size, iv r.a.sum, iv r.b.ver, iv r.b.size, iv r.b.sum]
@[go_sem] theorem recA_size (r : Rec) : (recA r).size = 11 := by simp [recA]
@[go_sem] theorem recA_one (r : Rec) : allOne (recA r) = true := by simp [recA, allOne, Value.oneCell']
@[go_sem] theorem recA_at0 (r : Rec) (h : 0 < (recA r).size) : (recA r)[0]'h = iv r.gen := by simp [recA]
@[go_sem] theorem recA_at1 (r : Rec) (h : 1 < (recA r).size) : (recA r)[1]'h = iv r.active := by simp [recA]
@[go_sem] theorem recA_at2 (r : Rec) (h : 2 < (recA r).size) : (recA r)[2]'h = .bool r.trying := by simp [recA]
@[go_sem] theorem recA_at3 (r : Rec) (h : 3 < (recA r).size) : (recA r)[3]'h = iv r.tries := by simp [recA]
@[go_sem] theorem recA_at4 (r : Rec) (h : 4 < (recA r).size) : (recA r)[4]'h = iv r.floor := by simp [recA]
@[go_sem] theorem recA_at5 (r : Rec) (h : 5 < (recA r).size) : (recA r)[5]'h = iv r.a.ver := by simp [recA]
@[go_sem] theorem recA_at8 (r : Rec) (h : 8 < (recA r).size) : (recA r)[8]'h = iv r.b.ver := by simp [recA]
@[go_sem] theorem recA_all (r : Rec) : (recA r).extract 0 11 = recA r := by simp [recA]
def copA (c : Cop) : Array Value := #[.bool c.ok, iv c.r.gen, iv c.r.active, .bool c.r.trying, iv c.r.tries, iv c.r.floor, iv c.r.a.ver, iv c.r.a.size, iv c.r.a.sum, iv c.r.b.ver, iv c.r.b.size, iv c.r.b.sum]
@[go_sem] theorem copA_size (c : Cop) : (copA c).size = 12 := by simp [copA]
@[go_sem] theorem copA_one (c : Cop) : allOne (copA c) = true := by simp [copA, allOne, Value.oneCell']
@[go_sem] theorem copA_at0 (c : Cop) (h : 0 < (copA c).size) : (copA c)[0]'h = .bool c.ok := by simp [copA]
@[go_sem] theorem copA_all (c : Cop) : (copA c).extract 0 12 = copA c := by simp [copA]
def copsA (c d : Cop) : Array Value := #[.bool c.ok, iv c.r.gen, iv c.r.active, .bool c.r.trying, iv c.r.tries, iv c.r.floor, iv c.r.a.ver, iv c.r.a.size, iv c.r.a.sum, iv c.r.b.ver, iv c.r.b.size, iv c.r.b.sum, .bool d.ok, iv d.r.gen, iv d.r.active, .bool d.r.trying, iv d.r.tries, iv d.r.floor, iv d.r.a.ver, iv d.r.a.size, iv d.r.a.sum, iv d.r.b.ver, iv d.r.b.size, iv d.r.b.sum]
@[go_sem] theorem copsA_size (c d : Cop) : (copsA c d).size = 24 := by simp [copsA]
@[go_sem] theorem copsA_one (c d : Cop) : allOne (copsA c d) = true := by simp [copsA, allOne, Value.oneCell']
@[go_sem] theorem copsA_get0 (c d : Cop) : (copsA c d)[0]? = some (.bool c.ok) := by simp [copsA]
@[go_sem] theorem copsA_get12 (c d : Cop) : (copsA c d)[12]? = some (.bool d.ok) := by simp [copsA]
@[go_sem] theorem copsA_at0 (c d : Cop) (h : 0 < (copsA c d).size) : (copsA c d)[0]'h = .bool c.ok := by simp [copsA]
@[go_sem] theorem copsA_at1 (c d : Cop) (h : 1 < (copsA c d).size) : (copsA c d)[1]'h = iv c.r.gen := by simp [copsA]
@[go_sem] theorem copsA_at12 (c d : Cop) (h : 12 < (copsA c d).size) : (copsA c d)[12]'h = .bool d.ok := by simp [copsA]
@[go_sem] theorem copsA_at13 (c d : Cop) (h : 13 < (copsA c d).size) : (copsA c d)[13]'h = iv d.r.gen := by simp [copsA]
@[go_sem] theorem copsA_all (c d : Cop) : (copsA c d).extract 0 24 = copsA c d := by simp [copsA]
@[go_sem] theorem copA_ex1_12 (c : Cop) : (copA c).extract 1 12 = recA c.r := by simp [copA, recA]
@[go_sem] theorem copsA_ex0_12 (c d : Cop) : (copsA c d).extract 0 12 = copA c := by simp [copsA, copA]
@[go_sem] theorem copsA_ex12_24 (c d : Cop) : (copsA c d).extract 12 24 = copA d := by simp [copsA, copA]
@[go_sem] theorem copsA_ex1_12 (c d : Cop) : (copsA c d).extract 1 12 = recA c.r := by simp [copsA, recA]
@[go_sem] theorem copsA_ex13_24 (c d : Cop) : (copsA c d).extract 13 24 = recA d.r := by simp [copsA, recA]
@[go_sem] theorem recA_set_gen (r : Rec) (v : Int) : (recA r).setIfInBounds 0 (.int .i64 v) = recA { r with gen := v } := by simp [recA]
@[go_sem] theorem recA_set_active (r : Rec) (v : Int) : (recA r).setIfInBounds 1 (.int .i64 v) = recA { r with active := v } := by simp [recA]
@[go_sem] theorem recA_set_trying (r : Rec) (v : Bool) : (recA r).setIfInBounds 2 (.bool v) = recA { r with trying := v } := by simp [recA]
@[go_sem] theorem recA_set_tries (r : Rec) (v : Int) : (recA r).setIfInBounds 3 (.int .i64 v) = recA { r with tries := v } := by simp [recA]
@[go_sem] theorem recA_set_floor (r : Rec) (v : Int) : (recA r).setIfInBounds 4 (.int .i64 v) = recA { r with floor := v } := by simp [recA]
@[go_sem] theorem recA_splice_a (r : Rec) (x : Inf) : splice (recA r) 5 (infA x) = recA { r with a := x } := by simp [splice, recA, infA]
@[go_sem] theorem recA_splice_b (r : Rec) (x : Inf) : splice (recA r) 8 (infA x) = recA { r with b := x } := by simp [splice, recA, infA]
@[go_sem] theorem copsA_splice_0 (c d e : Cop) : splice (copsA c d) 0 (copA e) = copsA e d := by simp [splice, copsA, copA]
@[go_sem] theorem copsA_splice_1 (c d e : Cop) : splice (copsA c d) 12 (copA e) = copsA c e := by simp [splice, copsA, copA]
@[go_sem] theorem aggSzInf : aggSz Tryz.prog 25 = 3 := by kernel_rfl
@[go_sem] theorem aggSzRec : aggSz Tryz.prog 28 = 11 := by kernel_rfl
@[go_sem] theorem aggSzCop : aggSz Tryz.prog 30 = 12 := by kernel_rfl
@[go_sem] theorem aggSzCops : aggSz Tryz.prog 31 = 24 := by kernel_rfl
@[go_sem] theorem aggSzInfs : aggSz Tryz.prog 26 = 6 := by kernel_rfl
@[go_sem] theorem zero_rec : Value.agg #[.int .i64 0, .int .i64 0, .bool false, .int .i64 0, .int .i64 0, .int .i64 0, .int .i64 0, .int .i64 0, .int .i64 0, .int .i64 0, .int .i64 0] = Value.agg (recA Rec.zero) := by simp [recA, Rec.zero, Inf.zero]
@[go_sem] theorem zero_cop : Value.agg #[.bool false, .int .i64 0, .int .i64 0, .bool false, .int .i64 0, .int .i64 0, .int .i64 0, .int .i64 0, .int .i64 0, .int .i64 0, .int .i64 0, .int .i64 0] = Value.agg (copA Cop.zero) := by simp [copA, Cop.zero, Rec.zero, Inf.zero]
@[go_sem] theorem zero_cops : Value.agg #[.bool false, .int .i64 0, .int .i64 0, .bool false, .int .i64 0, .int .i64 0, .int .i64 0, .int .i64 0, .int .i64 0, .int .i64 0, .int .i64 0, .int .i64 0, .bool false, .int .i64 0, .int .i64 0, .bool false, .int .i64 0, .int .i64 0, .int .i64 0, .int .i64 0, .int .i64 0, .int .i64 0, .int .i64 0, .int .i64 0] = Value.agg (copsA Cop.zero Cop.zero) := by simp [copsA, Cop.zero, Rec.zero, Inf.zero]
@[go_sem] theorem zero_inf : Value.agg #[.int .i64 0, .int .i64 0, .int .i64 0] = Value.agg (infA Inf.zero) := by simp [infA, Inf.zero]
def patA (f t o n s : Int) (A : Option Addr) (k c : Nat) : Array Value := #[iv f, iv t, iv o, iv n, iv s, .slice A k c]
@[go_sem] theorem patA_size (f t o n s : Int) (A : Option Addr) (k c : Nat) : (patA f t o n s A k c).size = 6 := by simp [patA]
@[go_sem] theorem patA_one (f t o n s : Int) (A : Option Addr) (k c : Nat) : allOne (patA f t o n s A k c) = true := by simp [patA, allOne, Value.oneCell']
@[go_sem] theorem patA_at0 (f t o n s : Int) (A : Option Addr) (k c : Nat) (h : 0 < (patA f t o n s A k c).size) : (patA f t o n s A k c)[0]'h = iv f := by simp [patA]
@[go_sem] theorem patA_at1 (f t o n s : Int) (A : Option Addr) (k c : Nat) (h : 1 < (patA f t o n s A k c).size) : (patA f t o n s A k c)[1]'h = iv t := by simp [patA]
@[go_sem] theorem patA_at2 (f t o n s : Int) (A : Option Addr) (k c : Nat) (h : 2 < (patA f t o n s A k c).size) : (patA f t o n s A k c)[2]'h = iv o := by simp [patA]
@[go_sem] theorem patA_at3 (f t o n s : Int) (A : Option Addr) (k c : Nat) (h : 3 < (patA f t o n s A k c).size) : (patA f t o n s A k c)[3]'h = iv n := by simp [patA]
@[go_sem] theorem patA_at4 (f t o n s : Int) (A : Option Addr) (k c : Nat) (h : 4 < (patA f t o n s A k c).size) : (patA f t o n s A k c)[4]'h = iv s := by simp [patA]
@[go_sem] theorem patA_at5 (f t o n s : Int) (A : Option Addr) (k c : Nat) (h : 5 < (patA f t o n s A k c).size) : (patA f t o n s A k c)[5]'h = .slice A k c := by simp [patA]
@[go_sem] theorem patA_all (f t o n s : Int) (A : Option Addr) (k c : Nat) : (patA f t o n s A k c).extract 0 6 = patA f t o n s A k c := by simp [patA]
@[go_sem] theorem pat_lit (f t o n s : Int) (A : Option Addr) (k c : Nat) : Value.agg #[.int .i64 f, .int .i64 t, .int .i64 o, .int .i64 n, .int .i64 s, .slice A k c] = Value.agg (patA f t o n s A k c) := by simp [patA]
@[go_sem] theorem patA_set5 (f t o n s : Int) (A : Option Addr) (k c : Nat) (B : Option Addr) (m d : Nat) : (patA f t o n s A k c).setIfInBounds 5 (.slice B m d) = patA f t o n s B m d := by simp [patA]
@[go_sem] theorem aggSzPat : aggSz Tryz.prog 35 = 6 := by kernel_rfl
@[go_sem] theorem patA_set0 (f t o n s : Int) (A : Option Addr) (k c : Nat) (x : Int) : (patA f t o n s A k c).setIfInBounds 0 (.int .i64 x) = patA x t o n s A k c := by simp [patA]
@[go_sem] theorem patA_set1 (f t o n s : Int) (A : Option Addr) (k c : Nat) (x : Int) : (patA f t o n s A k c).setIfInBounds 1 (.int .i64 x) = patA f x o n s A k c := by simp [patA]
@[go_sem] theorem patA_set2 (f t o n s : Int) (A : Option Addr) (k c : Nat) (x : Int) : (patA f t o n s A k c).setIfInBounds 2 (.int .i64 x) = patA f t x n s A k c := by simp [patA]
@[go_sem] theorem patA_set3 (f t o n s : Int) (A : Option Addr) (k c : Nat) (x : Int) : (patA f t o n s A k c).setIfInBounds 3 (.int .i64 x) = patA f t o x s A k c := by simp [patA]
@[go_sem] theorem patA_set4 (f t o n s : Int) (A : Option Addr) (k c : Nat) (x : Int) : (patA f t o n s A k c).setIfInBounds 4 (.int .i64 x) = patA f t o n x A k c := by simp [patA]
structure DLoc where
 a0 : Option Addr
 c0 : Nat
 a1 : Option Addr
 c1 : Nat
 ag : Option Addr
 cg : Nat
 aj : Option Addr
 cj : Nat
def DLoc.zero : DLoc := ⟨none, 0, none, 0, none, 0, none, 0⟩
def slotsA (a : Option Addr) (k c : Nat) (b : Option Addr) (m e : Nat) : Array Value := #[.slice a k c, .slice b m e]
@[go_sem] theorem slotsA_size (a : Option Addr) (k c : Nat) (b : Option Addr) (m e : Nat) : (slotsA a k c b m e).size = 2 := by simp [slotsA]
@[go_sem] theorem slotsA_one (a : Option Addr) (k c : Nat) (b : Option Addr) (m e : Nat) : allOne (slotsA a k c b m e) = true := by simp [slotsA, allOne, Value.oneCell']
def devA (d : Dev) (L : DLoc) : Array Value := #[.slice L.a0 d.s0.length L.c0, .slice L.a1 d.s1.length L.c1, .bool d.c0.ok, iv d.c0.r.gen, iv d.c0.r.active, .bool d.c0.r.trying, iv d.c0.r.tries, iv d.c0.r.floor, iv d.c0.r.a.ver, iv d.c0.r.a.size, iv d.c0.r.a.sum, iv d.c0.r.b.ver, iv d.c0.r.b.size, iv d.c0.r.b.sum, .bool d.c1.ok, iv d.c1.r.gen, iv d.c1.r.active, .bool d.c1.r.trying, iv d.c1.r.tries, iv d.c1.r.floor, iv d.c1.r.a.ver, iv d.c1.r.a.size, iv d.c1.r.a.sum, iv d.c1.r.b.ver, iv d.c1.r.b.size, iv d.c1.r.b.sum, .bool d.up, iv d.running, .slice L.ag d.got.length L.cg, .bool d.busy, iv d.job.from_, iv d.job.to_, iv d.job.old, iv d.job.new_, iv d.job.size, .slice L.aj d.job.ops.length L.cj, iv d.done]
@[go_sem] theorem devA_size (d : Dev) (L : DLoc) : (devA d L).size = 37 := by simp [devA]
@[go_sem] theorem devA_one (d : Dev) (L : DLoc) : allOne (devA d L) = true := by simp [devA, allOne, Value.oneCell']
@[go_sem] theorem devA_at0 (d : Dev) (L : DLoc) (h : 0 < (devA d L).size) : (devA d L)[0]'h = .slice L.a0 d.s0.length L.c0 := by simp [devA]
@[go_sem] theorem devA_at1 (d : Dev) (L : DLoc) (h : 1 < (devA d L).size) : (devA d L)[1]'h = .slice L.a1 d.s1.length L.c1 := by simp [devA]
@[go_sem] theorem devA_at26 (d : Dev) (L : DLoc) (h : 26 < (devA d L).size) : (devA d L)[26]'h = .bool d.up := by simp [devA]
@[go_sem] theorem devA_at27 (d : Dev) (L : DLoc) (h : 27 < (devA d L).size) : (devA d L)[27]'h = iv d.running := by simp [devA]
@[go_sem] theorem devA_at28 (d : Dev) (L : DLoc) (h : 28 < (devA d L).size) : (devA d L)[28]'h = .slice L.ag d.got.length L.cg := by simp [devA]
@[go_sem] theorem devA_at29 (d : Dev) (L : DLoc) (h : 29 < (devA d L).size) : (devA d L)[29]'h = .bool d.busy := by simp [devA]
@[go_sem] theorem devA_at30 (d : Dev) (L : DLoc) (h : 30 < (devA d L).size) : (devA d L)[30]'h = iv d.job.from_ := by simp [devA]
@[go_sem] theorem devA_at31 (d : Dev) (L : DLoc) (h : 31 < (devA d L).size) : (devA d L)[31]'h = iv d.job.to_ := by simp [devA]
@[go_sem] theorem devA_at33 (d : Dev) (L : DLoc) (h : 33 < (devA d L).size) : (devA d L)[33]'h = iv d.job.new_ := by simp [devA]
@[go_sem] theorem devA_at34 (d : Dev) (L : DLoc) (h : 34 < (devA d L).size) : (devA d L)[34]'h = iv d.job.size := by simp [devA]
@[go_sem] theorem devA_at36 (d : Dev) (L : DLoc) (h : 36 < (devA d L).size) : (devA d L)[36]'h = iv d.done := by simp [devA]
@[go_sem] theorem devA_all (d : Dev) (L : DLoc) : (devA d L).extract 0 37 = devA d L := by simp [devA]
@[go_sem] theorem devA_ex0_2 (d : Dev) (L : DLoc) : (devA d L).extract 0 2 = slotsA L.a0 d.s0.length L.c0 L.a1 d.s1.length L.c1 := by simp [devA, slotsA]
@[go_sem] theorem devA_ex2_26 (d : Dev) (L : DLoc) : (devA d L).extract 2 26 = copsA d.c0 d.c1 := by simp [devA, copsA]
@[go_sem] theorem devA_ex30_36 (d : Dev) (L : DLoc) : (devA d L).extract 30 36 = patA d.job.from_ d.job.to_ d.job.old d.job.new_ d.job.size L.aj d.job.ops.length L.cj := by simp [devA, patA]
@[go_sem] theorem devA_set_up (d : Dev) (L : DLoc) (v : Bool) : (devA d L).setIfInBounds 26 (.bool v) = devA { d with up := v } L := by simp [devA]
@[go_sem] theorem devA_set_running (d : Dev) (L : DLoc) (v : Int) : (devA d L).setIfInBounds 27 (.int .i64 v) = devA { d with running := v } L := by simp [devA]
@[go_sem] theorem devA_set_got (d : Dev) (L : DLoc) (l : List Chk) (A : Option Addr) (c : Nat) : (devA d L).setIfInBounds 28 (.slice A l.length c) = devA { d with got := l } { L with ag := A, cg := c } := by simp [devA]
@[go_sem] theorem devA_set_got0 (d : Dev) (L : DLoc) (A : Option Addr) (c : Nat) : (devA d L).setIfInBounds 28 (.slice A 0 c) = devA { d with got := [] } { L with ag := A, cg := c } := by simp [devA]
@[go_sem] theorem devA_set_busy (d : Dev) (L : DLoc) (v : Bool) : (devA d L).setIfInBounds 29 (.bool v) = devA { d with busy := v } L := by simp [devA]
@[go_sem] theorem devA_set_done (d : Dev) (L : DLoc) (v : Int) : (devA d L).setIfInBounds 36 (.int .i64 v) = devA { d with done := v } L := by simp [devA]
@[go_sem] theorem devA_splice_slots (d : Dev) (L : DLoc) (a b : Option Addr) (c e : Nat) (x y : List UInt8) : splice (devA d L) 0 (slotsA a x.length c b y.length e) = devA { d with s0 := x, s1 := y } { L with a0 := a, c0 := c, a1 := b, c1 := e } := by simp [splice, devA, slotsA]
@[go_sem] theorem devA_splice_cops (d : Dev) (L : DLoc) (p q : Cop) : splice (devA d L) 2 (copsA p q) = devA { d with c0 := p, c1 := q } L := by simp [splice, devA, copsA]
@[go_sem] theorem devA_splice_cop0 (d : Dev) (L : DLoc) (p : Cop) : splice (devA d L) 2 (copA p) = devA { d with c0 := p } L := by simp [splice, devA, copA]
@[go_sem] theorem devA_splice_job (d : Dev) (L : DLoc) (f t o n s : Int) (l : List Stp) (A : Option Addr) (c : Nat) : splice (devA d L) 30 (patA f t o n s A l.length c) = devA { d with job := ⟨f, t, o, n, s, l⟩ } { L with aj := A, cj := c } := by simp [splice, devA, patA]
@[go_sem] theorem devA_splice_job0 (d : Dev) (L : DLoc) (A : Option Addr) (c : Nat) : splice (devA d L) 30 (patA 0 0 0 0 0 A 0 c) = devA { d with job := Pat.zero } { L with aj := A, cj := c } := by simp [splice, devA, patA, Pat.zero]
@[go_sem] theorem aggSzDev : aggSz Tryz.prog 37 = 37 := by kernel_rfl
@[go_sem] theorem aggSzSlots : aggSz Tryz.prog 23 = 2 := by kernel_rfl
@[go_sem] theorem zero_dev : Value.agg #[.slice none 0 0, .slice none 0 0, .bool false, .int .i64 0, .int .i64 0, .bool false, .int .i64 0, .int .i64 0, .int .i64 0, .int .i64 0, .int .i64 0, .int .i64 0, .int .i64 0, .int .i64 0, .bool false, .int .i64 0, .int .i64 0, .bool false, .int .i64 0, .int .i64 0, .int .i64 0, .int .i64 0, .int .i64 0, .int .i64 0, .int .i64 0, .int .i64 0, .bool false, .int .i64 0, .slice none 0 0, .bool false, .int .i64 0, .int .i64 0, .int .i64 0, .int .i64 0, .int .i64 0, .slice none 0 0, .int .i64 0] = Value.agg (devA Dev.zero DLoc.zero) := by simp [devA, Dev.zero, DLoc.zero, Cop.zero, Rec.zero, Inf.zero, Pat.zero]
@[go_sem] theorem slots_lit (a : Option Addr) (k c : Nat) (b : Option Addr) (m e : Nat) : Value.agg #[.slice a k c, .slice b m e] = Value.agg (slotsA a k c b m e) := by simp [slotsA]
@[go_sem] theorem slotsA_set0 (a : Option Addr) (k c : Nat) (b : Option Addr) (m e : Nat) (x : Option Addr) (y z : Nat) : (slotsA a k c b m e).setIfInBounds 0 (.slice x y z) = slotsA x y z b m e := by simp [slotsA]
@[go_sem] theorem slotsA_set1 (a : Option Addr) (k c : Nat) (b : Option Addr) (m e : Nat) (x : Option Addr) (y z : Nat) : (slotsA a k c b m e).setIfInBounds 1 (.slice x y z) = slotsA a k c x y z := by simp [slotsA]
@[go_sem] theorem slotsA_ne (a : Option Addr) (k c : Nat) (b : Option Addr) (m e : Nat) : (slotsA a k c b m e = #[]) = False := by simp [slotsA]
structure DevIn (w : World) (d : Dev) (L : DLoc) : Prop where
 k0 : d.s0.length <= L.c0
 l0 : d.s0.length <= 1048576
 b0 : Bts w L.a0 d.s0
 k1 : d.s1.length <= L.c1
 l1 : d.s1.length <= 1048576
 b1 : Bts w L.a1 d.s1
 kg : d.got.length <= L.cg
 lg : d.got.length <= 1048576
 got : Chs w L.ag d.got
 job : PatIn w d.job L.aj L.cj
 ir : I64 d.running
 id : I64 d.done
theorem DevIn.stays {w' : World} {L : DLoc} (h : DevIn w d L) (hb : Below w.heap.size w w') : DevIn w' d L :=
 ⟨h.k0, h.l0, h.b0.stays hb, h.k1, h.l1, h.b1.stays hb, h.kg, h.lg, h.got.stays hb, h.job.stays hb, h.ir, h.id⟩
theorem pat_in_zero (w : World) : PatIn w Pat.zero none 0 := ⟨Nat.le_refl _, by simp [Pat.zero], fun i hi => absurd hi (by simp [Pat.zero]), ⟨by decide, by decide⟩, ⟨by decide, by decide⟩, ⟨by decide, by decide⟩, ⟨by decide, by decide⟩, ⟨by decide, by decide⟩⟩
theorem bts_nil (w : World) (A : Option Addr) : Bts w A [] := fun i hi => absurd hi (by simp)
theorem DevIn.zero (w : World) : DevIn w Dev.zero DLoc.zero :=
 ⟨Nat.le_refl _, by simp [Dev.zero], bts_nil _ _, Nat.le_refl _, by simp [Dev.zero], bts_nil _ _, Nat.le_refl _, by simp [Dev.zero], Chs.nil _ _, pat_in_zero w, ⟨by decide, by decide⟩, ⟨by decide, by decide⟩⟩
theorem x54 {p : Prop} (h : p := by
 obtain ⟨_, g1, g2⟩ := hJ
 have HF3 := hD g1
 have HB3 : Hid (Below g w w3) := hD (HB.out.trans g2)
 clear g1 g2
 simp only [freeAll, putAll_some, putAll_none, putAll_nil, List.getD_cons_zero, List.getD_cons_succ, Bool.false_eq_true, if_true, if_false, reduceIte, Nat.zero_add, Nat.reduceAdd, List.setIfInBounds_toArray, List.set_cons_zero, List.set_cons_succ]
 go_wp2_with fail
 go_roundw
 case rel => exact ⟨k + m, rfl, by omega, hm1.2, HF3, HB3⟩
 case measure => simp [intOf]; omega) : p := h
theorem x118 {p : Prop} (h : p := by
 have e2 : (⟨g, 0, none⟩ : Addr).add j = ⟨g, j, none⟩ := by unfold Addr.add; split <;> simp_all
 rw [e2, List.getElem_replicate]
 refine (cell_of_row _ _ _ _ _ _ HF.out).trans ?_
 rw [List.getElem?_toArray, e1]) : p := h
theorem x220 {p : Prop} (h : p := by
 have e7 := fO 7 (.slice (some ⟨g, 0, none⟩) n n) h
 exact mx_move (ch_ev e7)) : p := h
theorem x227 {p : Prop} (h : p := by
 have hnk := HNK.out
 have hkn := HKN.out
 have hmn := HMK.out
 go_simp) : p := h
def filled (x : UInt8) (k n : Nat) : List Value := List.replicate k (bv x) ++ List.replicate (n - k) (.int .u8 0)
theorem filled_len (x : UInt8) (h : k <= n) : (filled x k n).length = n := by unfold filled; simp; omega
theorem filled_more (x : UInt8) {m : Nat} (h : k + m <= n) : Go.splice (filled x k n) k (List.replicate m (bv x)) = filled x (k + m) n := by
 unfold filled Go.splice
 rw [List.take_append_of_le_length (by simp), List.length_replicate, List.drop_append, List.length_replicate, List.take_of_length_le (by simp), List.drop_eq_nil_of_le (by simp), List.nil_append, ← List.append_assoc, List.replicate_append_replicate, List.drop_replicate]
 congr 2; omega
theorem filled_all (x : UInt8) (n : Nat) : filled x n n = List.replicate n (bv x) := by unfold filled; simp
theorem filled_at (x : UInt8) {j : Nat} (h : j < k) : (filled x k n)[j]? = some (bv x) := by
 unfold filled; rw [List.getElem?_append_left (by simpa using h), List.getElem?_replicate]; simp [h]
theorem wp_copy {P : Program} {o : Oper} {a : Act} {K : Act -> World -> Prop} {Q : Exit -> Act -> World -> Prop} (hgd : o.guard = none) (d s : Operand) (dT sT : TypeId)
  (ho : o.op = .call { callee := .builtin .copy, args := #[d, s], argTypes := #[dT, sT] }) (elem : TypeId) (hu : P.underlying dT = some (.slice elem)) (hsz : (P.info? elem).map (·.size) = some 1)
  (dp sp : Option Addr) (dLen dCap sLen sCap : Nat) (hd : a.eval d = .slice dp dLen dCap) (hs : a.eval s = .slice sp sLen sCap)
  (g off : Nat) (cur : List Value) (t : TypeId) (hg : w.heap[g]? = some (.cells cur.toArray t (0, 0))) (cs : List Value) (hn : cs.length = Nat.min sLen dLen)
  (hpos : 0 < cs.length -> dp = some ⟨g, off, none⟩ ∧ ∃ ad, sp = some ad ∧ ∀ j v, cs[j]? = some v -> w.cell? (ad.add j) = some v)
  (hfit : off + cs.length <= cur.length) (h1 : ∀ v ∈ cs, v.oneCell' = true) (B : Nat) (w0 : World) (hb : RowKit.Below B w0 w) (hBg : B <= g)
  (h : ∀ w', w'.heap[g]? = some (.cells (Go.splice cur off cs).toArray t (0, 0)) -> RowKit.Below B w0 w' -> K (a.put o.dst (goInt cs.length)) w') :
  Oper.wp P o a w K Q := by
 have h2 := step_copy_splice (P := P) (ops := #[]) (E := True) (K := K) (Q := Q) hgd d s dT sT ho elem hu hsz dp sp dLen dCap sLen sCap hd hs g off cur t hg cs hn hpos hfit h1 B w0 hb hBg (fun w' hg hb => h w' hg.out hb)
 rwa [if_pos (by simp [Region.wanted, hgd])] at h2
def rpJ (wo : World) (g : Nat) (x : UInt8) (k m n : Nat) (done : Nat -> Bool) (cv : Nat -> Value) (w : World) : Prop :=
 if done 7 = true then cv 7 = .int .i64 (m : Int) ∧ w.heap[g]? = some (.cells (filled x (k + m) n).toArray 5 (0, 0)) ∧ Below g wo w else w = wo.drew
theorem own_filled {base g : Nat} {x : UInt8} (h : w.heap[g]? = some (.cells (filled x n n).toArray 5 (0, 0))) (hb : base <= g) (hn : n <= 1048576) : Own w base 5 1 (some ⟨g, 0, none⟩) n n ((List.replicate n x).map bv) :=
 ⟨by simp, Or.inr ⟨g, n, _, rfl, hb, h, Nat.le_refl _, by unfold maxLen; omega, by rw [filled_all]; simp, by rw [filled_all]; simp⟩⟩
theorem made_filled (x : UInt8) (n : Nat) : madeCells #[Value.int .u8 0] n = (filled x 0 n).toArray := by
 unfold filled
 apply Array.ext'
 simp [madeCells]
 apply List.ext_getElem?
 intro i
 simp only [Nat.mod_one, List.getElem?_map]
 by_cases h : i < n <;> simp [h]
theorem repeat_calls (A : Option Addr) (c : Nat) (x : UInt8) (n : Nat) (w : World) (hn : 1 <= n) (hn2 : n <= 1000) (hA : Bts w A [x]) :
  Calls Tryz.prog 106 #[.slice A 1 c, iv n] w (BtRet w (List.replicate n x)) := by
 obtain ⟨a, o, rfl, hlt, hc⟩ := hA 0 (by simp)
 simp only [Nat.add_zero, List.getElem_cons_zero] at hc
 have HC := hD hc
 clear hA hc
 have d1 : ¬ (n : Int) < 0 := by omega
 have u1 : IntKind.u64.wrap (n : Int) = (n : Int) := by rw [IntKind.wrap_u64]; omega
 have i1 : IntKind.i64.wrap (n : Int) = (n : Int) := IntWalk.i64_in _ (by omega)
 have hmk : ∀ w : World, (Instr.makeSlice 22 (.int .i64 (n : Int)) (.int .i64 (n : Int))).run Tryz.prog w = .ok (.slice (some ⟨w.heap.size, 0, none⟩) n n) (w.alloc (.cells (filled x 0 n).toArray 5)) := fun w => by
  have := run_make_row' (P := Tryz.prog) 22 5 (.int .u8 0) 1 Tryz.underlying22 (by kernel_rfl) rfl .i64 .i64 n (by omega) (by omega) w
  rw [made_filled x] at this
  exact this
 go_enter Tryz.func106, Tryz.ntmps106
 go_wp2_with fail
 refine (mul1_calls n w (by omega)).mono ?_
 rintro e w1 ⟨rfl, rfl⟩
 have d2 : decide ((9223372036854775807 : Int) < (n : Int)) = false := by simp; omega
 have hb0 : Below w.heap.size w (w.alloc (.cells (filled x 0 n).toArray 5)) := (Below.refl _ _).alloc (Nat.le_refl _) _
 have hg0 : (w.alloc (.cells (filled x 0 n).toArray 5)).heap[w.heap.size]? = some (.cells (filled x 0 n).toArray 5 (0, 0)) := blk_top rfl
 have hca := (hb0.cell (p := ⟨a, o, none⟩) hlt).trans HC.out
 have hcp : (Builtin.copy_ #[22, 22] 3 #[.slice (some ⟨w.heap.size, 0, none⟩) n n, .slice (some ⟨a, o, none⟩) 1 c]).run Tryz.prog (w.alloc (.cells (filled x 0 n).toArray 5)) = .ok (.int .i64 1) (w.alloc (.cells (filled x 1 n).toArray 5)) := by
  have := run_copy_row (P := Tryz.prog) (w.alloc (.cells (filled x 0 n).toArray 5)) 22 22 3 5 w.heap.size 0 n n ⟨a, o, none⟩ 1 c (filled x 0 n).toArray 5 [bv x] Tryz.underlying22 (by kernel_rfl) hg0 (by simp [Nat.min_def]; omega)
   (fun j v hv => by
     obtain ⟨hj, rfl⟩ := List.getElem?_eq_some_iff.1 hv
     have e0 : j = 0 := by simp at hj; omega
     subst e0
     simpa [Addr.add] using hca) (by rw [List.size_toArray, filled_len x (Nat.zero_le _)]; simp; omega) (by simp [Value.oneCell'])
  rw [this, setRow_alloc, if_pos rfl]
  have e := filled_more x (k := 0) (m := 1) (n := n) (by omega)
  unfold Go.splice at e
  simp only [Nat.zero_add] at e ⊢
  rw [show (List.replicate 1 (bv x)) = [bv x] from rfl] at e
  rw [List.append_assoc, e]
  rfl
 have hf2 : Hid ((w.alloc (.cells (filled x 1 n).toArray 5)).heap[w.heap.size]? = some (.cells (filled x 1 n).toArray 5 (0, 0))) := hD (blk_top rfl)
 have HB2 : Hid (Below w.heap.size w (w.alloc (.cells (filled x 1 n).toArray 5))) := hD ((Below.refl _ _).alloc (Nat.le_refl _) _)
 clear hg0 hb0 hca
 go_wp2_with fail
 clear hcp hmk
 generalize w.alloc (.cells (filled x 1 n).toArray 5) = w2 at *
 generalize hgg : w.heap.size = g at *
 go_loopw [8] (fun y wr => ∃ (k : Nat), y = .int .i64 (k : Int) ∧ 1 <= k ∧ k <= n ∧ Hid (wr.heap[g]? = some (.cells (filled x k n).toArray 5 (0, 0))) ∧ Hid (Below g w wr)) (fun y _ => n - (intOf y).toNat)
 case atStart => exact ⟨1, rfl, by omega, hn, hf2, HB2⟩
 case round =>
  rename World => wo
  obtain ⟨k, rfl, hk1, hkn, HF, HB⟩ := hrel
  by_cases hlt : k < n
  ·obtain ⟨m, hm⟩ : ∃ m, m = Nat.min k (n - k) := ⟨_, rfl⟩
   have hm1 : 1 <= m ∧ k + m <= n := by rw [hm]; simp only [Nat.min_def]; split <;> omega
   have HM := hD hm
   have HMK : Hid ((k : Int) <= (n : Int)) := hD (by omega)
   have HMK2 : Hid (m <= k) := hD (by rw [hm]; exact Nat.min_le_left _ _)
   have HMN := hD hm1.2
   have HK := hD hkn
   have HNK : Hid (¬ n = k) := hD (by omega)
   have HKN : Hid ((k : Int) <= (n : Int)) := hD (by omega)
   have HI : Hid (IntKind.i64.wrap ((k : Int) + (m : Int)) = (k : Int) + (m : Int)) := hD (IntWalk.i64_in _ (by omega))
   have dk : decide ((k : Int) < (n : Int)) = true := by simp; omega
   clear hm hf2 HB2
   go_wp2_with fail
   refine wp_region_free (by kernel_rfl) (some 38 :: some 39 :: some 40 :: some 41 :: some 42 :: some 43 :: some 44 :: some 45 :: some 46 :: some 8 :: []) (false :: false :: false :: false :: false :: false :: false :: true :: false :: false :: []) (.int .i64 ((k : Nat) : Int) :: .slice (some ⟨g, 0, none⟩) n n :: .int .i64 ((k : Nat) : Int) :: .slice (some ⟨g, (k : Nat), none⟩) (n - k) (n - k) :: .slice (some ⟨g, 0, none⟩) n n :: .int .i64 ((k : Nat) : Int) :: .slice (some ⟨g, 0, none⟩) k n :: undef :: .int .i64 ((k + m : Nat) : Int) :: .int .i64 ((k + m : Nat) : Int) :: []) (rpJ wo g x k m n) 48 rfl rfl (by decide +kernel) (by decide +kernel) (by decide +kernel) rfl rfl (by rw [rpJ, if_neg (by simp)]) ?_ ?_
   ·refine ⟨?_, ?_, ?_, ?_, ?_, ?_, ?_, ?_, ?_, ?_, trivial⟩
    all_goals intro done cv a wq hn hw hcl h hJ
    ·have e8 := fr_un (t := 8) (i := 0) (i0 := 9) (v := .int .i64 ((k : Nat) : Int)) h hcl hn rfl (by decide) (by decide) rfl
     exact mx_move (ch_ev e8)
    ·exact x220
    ·have e8 := fr_un (t := 8) (i := 2) (i0 := 9) (v := .int .i64 ((k : Nat) : Int)) h hcl hn rfl (by decide) (by decide) rfl
     exact mx_move (ch_ev e8)
    ·have e39 := fN 1 39 h hw; have e40 := fN 2 40 h hw
     have hnk := HNK.out
     have hkn := HKN.out
     go_simp
    ·exact x220
    ·have e8 := fr_un (t := 8) (i := 5) (i0 := 9) (v := .int .i64 ((k : Nat) : Int)) h hcl hn rfl (by decide) (by decide) rfl
     exact mx_move (ch_ev e8)
    ·have e42 := fN 4 42 h hw; have e43 := fN 5 43 h hw
     exact x227
    ·have e41 := fN 3 41 h hw; have e44 := fN 6 44 h hw
     have hd : ¬ maskB [false, false, false, false, false, false, false, true, false, false] done 7 = true := by unfold maskB; rw [hn]; simp
     rw [rpJ, if_neg hd] at hJ
     obtain rfl : wq = wo.drew := hJ
     refine wp_copy rfl (.tmp 41) (.tmp 44) 22 22 rfl 5 Tryz.underlying22 (by kernel_rfl) _ _ _ _ _ _ (ch_ev e41) (ch_ev e44) g k (filled x k n) 5 HF.out (List.replicate m (bv x)) (by rw [List.length_replicate]; exact HM.out) (fun _ => ⟨rfl, _, rfl, fun j v hv => ?_⟩) (by rw [filled_len x HK.out, List.length_replicate]; exact HMN.out) (fun v hv => by rw [List.eq_of_mem_replicate hv]; rfl) g wo ((Below.refl _ _).drew) (Nat.le_refl _) ?_
     ·obtain ⟨hj, rfl⟩ := List.getElem?_eq_some_iff.1 hv
      rw [List.length_replicate] at hj
      have e1 := filled_at x (n := n) (show j < k by have := HMK2.out; omega)
      exact x118
     intro w' hg' hb'
     rw [filled_more x HMN.out] at hg'
     exact ⟨_, rfl, by rw [rpJ, if_pos (by simp)]; exact ⟨by simp [goInt], hg', hb'⟩⟩
    ·have e38 := fN 0 38 h hw; have e45 := fr_cv (i := 7) (t := 45) h (hw 7 (by decide)) rfl rfl
     have hd : maskB [false, false, false, false, false, false, false, true, false, false] done 7 = true := by unfold maskB; rw [hw 7 (by decide)]; rfl
     rw [rpJ, if_pos hd] at hJ
     rw [hJ.1] at e45
     have hi := HI.out
     go_simp
    ·have e46 := fN 8 46 h hw
     exact mx_assign (ch_ev e46)
   intro d cv w3 hall hJ
   rw [rpJ, if_pos (hall 7 rfl (by decide))] at hJ
   exact x54
  obtain rfl : k = n := by omega
  have dk : decide ((k : Int) < (k : Int)) = false := by simp
  go_wp2_with fail
  go_ret
  have := HF.out
  refine ⟨some ⟨g, 0, none⟩, k, by simp, ?_, hgg ▸ HB.out⟩
  have ho := own_filled HF.out (base := g) (Nat.le_refl _) (by omega)
  rw [hgg]
  simpa using ho
theorem x58 {p : Prop} (h : p := by
 go_wp2_with fail
 go_ret2
 exact ⟨none, 0, by rw [← HZ.out]; rfl, by rw [← HZ.out]; exact Own.nil_ _ _ _ _, HBE.out ▸ HB.out⟩) : p := h
theorem x126 {p : Prop} (h : p := by
 exact ⟨B, d, by rw [← HZ.out]; rfl, by rw [← HZ.out]; exact HBE.out ▸ HO.out, HBE.out ▸ HB.out⟩) : p := h
theorem mid_drop (h : Bts w A l) (c k : Nat) (hc : l.length <= c) : Bts w (if c = k then A else Option.map (fun x => x.add k) A) (l.drop k) := by
 by_cases e : k < l.length
 ·obtain ⟨b, o, rfl, hlt, _⟩ := h 0 (by omega)
  rw [if_neg (by omega)]
  have e2 : Option.map (fun x : Addr => x.add k) (some ⟨b, o, none⟩) = some ⟨b, o + k, none⟩ := by simp [Addr.add]
  rw [e2]
  intro i hi
  rw [List.length_drop] at hi
  obtain ⟨b', o', e3, h1, h2⟩ := h (k + i) (by omega)
  injection e3 with e3
  injection e3 with e4 e5
  subst e4 e5
  exact ⟨b, o + k, rfl, h1, by rw [Nat.add_assoc, h2]; simp⟩
 rw [List.drop_eq_nil_of_le (by omega)]; exact Bts.nil _ _
theorem mid_at {ab ao : Nat} (h : Bts w (some ⟨ab, ao, none⟩) l) (k : Nat) : Bts w (some ⟨ab, ao + k, none⟩) (l.drop k) := by
 intro i hi
 rw [List.length_drop] at hi
 obtain ⟨b', o', e3, h1, h2⟩ := h (k + i) (by omega)
 injection e3 with e3
 injection e3 with e4 e5
 subst e4 e5
 exact ⟨ab, ao + k, rfl, h1, by rw [Nat.add_assoc, h2]; simp⟩
theorem mid_take (h : Bts w A l) (k : Nat) : Bts w A (l.take k) := by
 intro i hi
 rw [List.length_take] at hi
 obtain ⟨b, o, rfl, h1, h2⟩ := h i (by omega)
 exact ⟨b, o, rfl, h1, by simpa using h2⟩
def UnRet (w : World) (r : List UInt8 × Int) : Ending -> World -> Prop := fun en w' =>
 ∃ A c, en = .returned (.tuple #[.slice A r.1.length c, iv r.2]) ∧ Own w' w.heap.size 5 1 A r.1.length c (r.1.map bv) ∧ Below w.heap.size w w'
theorem and127 (x : UInt8) : bits .and .u8 (x.toNat : Int) 127 = ((x.toNat % 128 : Nat) : Int) := by
 have key : ∀ n : Fin 256, bits .and .u8 (n.val : Int) 127 = ((n.val % 128 : Nat) : Int) := by decide +kernel
 exact key ⟨x.toNat, x.toNat_lt⟩
theorem unpack_calls (Ab : Option Addr) (cb : Nat) (b : List UInt8) (most : Int) (w : World) (hc : b.length <= cb) (hl : b.length <= 4194304) (hm : I64 most) (hB : Bts w Ab b) :
  Calls Tryz.prog 85 #[.slice Ab b.length cb, iv most] w (UnRet w (unpacked b most)) := by
 obtain ⟨hm1, hm2⟩ := hm
 have HB0 := hD hB
 have HBB : Hid (Below w.heap.size w w) := hD (Below.refl _ _)
 have HO0 : Hid (Own w w.heap.size 5 1 none 0 0 (([] : List UInt8).map bv)) := hD (Own.nil_ _ _ _ _)
 clear hB
 go_enter Tryz.func85, Tryz.ntmps85
 go_wp2_with fail
 generalize hbase : w.heap.size = base at *
 have HBE := hD hbase
 clear hbase
 go_loopg [0, 6] b.length (fun g y o wr => ∃ (l out : List UInt8) (A B : Option Addr) (c d : Nat), y = .slice A l.length c ∧ o = .slice B out.length d ∧ l.length <= c ∧ l.length <= g ∧ Hid (unpackAt most l out = unpacked b most) ∧ ((out.length : Int) <= most ∨ out = []) ∧ out.length + 127 * l.length <= 127 * b.length ∧ Hid (Bts w A l) ∧ Hid (Own wr base 5 1 B out.length d (out.map bv)) ∧ Hid (Below base w wr))
 case atStart => exact ⟨b, [], Ab, none, cb, 0, rfl, rfl, hc, Nat.le_refl _, hD rfl, .inr rfl, by simp, HB0, HO0, HBB⟩
 case round =>
  clear HB0 HO0 HBB
  rename World => wo
  obtain ⟨l, out, A, B, c, d, rfl, rfl, hlc, hlg, HE, hom, hob, HBt, HO, HB⟩ := hrel
  rcases l with _ | ⟨x, r⟩
  ·have hz : (out, (0 : Int)) = unpacked b most := by rw [← HE.out, unpackAt_nil]
   have HZ := hD hz
   simp only [List.length_nil, Int.ofNat_eq_natCast, Int.natCast_zero] at *
   clear hz
   go_wp2_with fail
   go_ret2
   exact x126
  simp only [List.length_cons] at *
  have HBW : Hid (∀ w1, Below base w w1 -> Bts w1 A (x :: r)) := hD (fun w1 h => HBt.out.stays (HBE.out ▸ h))
  obtain ⟨ab, ao, rfl, hab, hx⟩ := HBW.out wo HB.out 0 (by simp)
  simp only [Nat.add_zero, List.getElem_cons_zero] at hx
  have hxl := x.toNat_lt
  obtain ⟨n, hn⟩ : ∃ n, n = x.toNat % 128 := ⟨_, rfl⟩
  have hand : bits .and .u8 (x.toNat : Int) 127 = (n : Int) := by rw [and127, hn]
  have hn1 : n < 128 := by omega
  have HN := hD hn
  clear hn
  have dl : decide ((0 : Int) < ((r.length + 1 : Nat) : Int)) = true := by simp <;> omega
  have hw1 : IntKind.i64.wrap (most - (out.length : Int)) = most - (out.length : Int) := IntWalk.i64_in _ (by have : (out.length : Int) <= most ∨ (out.length : Int) = 0 := (hom.imp id (fun h => by rw [h]; rfl)); omega)
  have hw2 : IntKind.i64.wrap (1 + (n : Int)) = 1 + (n : Int) := IntWalk.i64_in _ (by omega)
  have HOM := hD hom
  clear hom
  by_cases n0 : n = 0
  ·subst n0
   have hz : (([] : List UInt8), (3 : Int)) = unpacked b most := by rw [← HE.out, unpackAt_zero HN.out.symm]
   have HZ := hD hz
   clear hz HE
   exact x58
  have dn : ((n : Int) == 0) = false := by simp <;> omega
  have hn0 : x.toNat % 128 ≠ 0 := by rw [← HN.out]; exact n0
  by_cases h8 : 128 <= x.toNat
  ·have hu := unpackAt_run (most := most) (r := r) (out := out) hn0 h8
   rw [HE.out, ← HN.out] at hu
   have d8 : decide ((128 : Int) <= (x.toNat : Int)) = true := by simp <;> omega
   rcases r with _ | ⟨y, r⟩
   ·have hz : (([] : List UInt8), (7 : Int)) = unpacked b most := by rw [hu, if_pos (by simp)]
    simp only [List.length_nil, Nat.zero_add, Int.natCast_one] at *
    clear hu
    have HZ := hD hz
    clear hz HE
    exact x58
   simp only [List.length_cons] at *
   have d2 : decide ((((r.length + 1 + 1 : Nat)) : Int) < 2) = false := by simp <;> omega
   rw [if_neg (by omega)] at hu
   by_cases hgt : most - (out.length : Int) < (n : Int)
   ·have dg : decide (most - (out.length : Int) < (n : Int)) = true := by simp <;> omega
    have hz : (([] : List UInt8), (1 : Int)) = unpacked b most := by rw [hu, if_pos hgt]
    clear hu
    have HZ := hD hz
    clear hz HE
    exact x58
   have dg : decide (most - (out.length : Int) < (n : Int)) = false := by simp <;> omega
   rw [if_neg hgt, List.drop_succ_cons, List.drop_zero, List.headD_cons] at hu
   have HU := hD hu
   have HY : Hid (Bts wo (some ⟨ab, ao + 1, none⟩) [y]) := hD (fun i hi => by
    have e0 : i = 0 := by simp at hi; omega
    subst e0
    obtain ⟨b', o', e3, h1, h2⟩ := HBW.out wo HB.out 1 (by simp)
    injection e3 with e3
    injection e3 with e4 e5
    subst e4 e5
    exact ⟨ab, ao + 1, rfl, h1, by simpa using h2⟩)
   have HG : Hid (¬ most - (out.length : Int) < (n : Int)) := hD hgt
   have hcc : ¬ c = 1 := by omega
   have j1 : (2 : Int) <= (c : Int) := by omega
   have hob1 : out.length + n <= 1073741824 := by omega
   clear hu hgt
   go_wp2_with fail
   refine (repeat_calls (some ⟨ab, ao + 1, none⟩) (c - 1) y n wo (by omega) (by omega) HY.out).mono ?_
   rintro e w1 ⟨A1, c1, rfl, ho1, hb1⟩
   rw [List.length_replicate] at ho1
   have hle : base <= w1.heap.size := Nat.le_trans (Nat.le_trans (Nat.le_of_eq HBE.out.symm) HB.out.size) hb1.size
   have hs1 := ho1.src
   have ho2 := HO.out.below hb1
   have hls : ((List.replicate n y).map bv).length = n * 1 := by simp
   have HB1 : Hid (Below base w w1) := hD (HB.out.trans (hb1.mono (Nat.le_trans (Nat.le_of_eq HBE.out.symm) HB.out.size)))
   simp only [List.length_replicate]
   go_wp2_with (at_builtin; go_must (refine wpList_app w1 rfl _ _ 22 rfl elBytes base B out.length d (out.map bv) rfl ho2 A1 n c1 ((List.replicate n y).map bv) rfl hs1 hls (bv_one _) hob1 hle ?_; intro A' c' w2 hown hgr hbel hor))
   all_goals (
    have HO2 := hD hown
    have HB2 : Hid (Below base w w2) := hD (HB1.out.trans hbel)
    have HM2 : Hid (((out ++ List.replicate n y).length : Int) <= most ∨ out ++ List.replicate n y = []) := hD (.inl (by have := HG.out; simp; omega))
    clear hown hgr hbel hor hs1 ho2 ho1 hb1 hls hle hob1
    go_roundg r.length
    case rel => first
     | exact ⟨r, out ++ List.replicate n y, some ⟨ab, ao + 2, none⟩, A', c - 2, c', rfl, by simp, by omega, by omega, hD HU.out.symm, HM2.out, by simp; omega, hD (mid_at HBt.out 2), hD (by simpa using HO2.out), HB2⟩
     | exact ⟨r, out ++ List.replicate n y, some ⟨ab, ao, none⟩, A', 0, c', rfl, by simp, by omega, by omega, hD HU.out.symm, HM2.out, by simp; omega, hD (by rw [List.eq_nil_of_length_eq_zero (by omega : r.length = 0)]; exact Bts.nil _ _), hD (by simpa using HO2.out), HB2⟩
    case measure => omega)
  have hu := unpackAt_plain (most := most) (r := r) (out := out) hn0 h8
  rw [HE.out, ← HN.out] at hu
  have d8 : decide ((128 : Int) <= (x.toNat : Int)) = false := by simp <;> omega
  by_cases h7 : r.length < n
  ·have hz : (([] : List UInt8), (7 : Int)) = unpacked b most := by rw [hu, if_pos h7]
   have d2 : decide (((r.length + 1 : Nat) : Int) < 1 + (n : Int)) = true := by simp <;> omega
   clear hu
   have HZ := hD hz
   clear hz HE
   exact x58
  have d2 : decide (((r.length + 1 : Nat) : Int) < 1 + (n : Int)) = false := by simp <;> omega
  rw [if_neg h7] at hu
  by_cases hgt : most - (out.length : Int) < (n : Int)
  ·have dg : decide (most - (out.length : Int) < (n : Int)) = true := by simp <;> omega
   have hz : (([] : List UInt8), (1 : Int)) = unpacked b most := by rw [hu, if_pos hgt]
   have HZ := hD hz
   clear hu hz HE
   exact x58
  have dg : decide (most - (out.length : Int) < (n : Int)) = false := by simp <;> omega
  rw [if_neg hgt] at hu
  have HU := hD hu
  have HG : Hid (¬ most - (out.length : Int) < (n : Int)) := hD hgt
  have hcc : ¬ c = 1 := by omega
  have j1 : (1 : Int) + (n : Int) <= (c : Int) := by omega
  have j2 : (1 : Int) <= 1 + (n : Int) := by omega
  have hob1 : out.length + (1 + n - 1) <= 1073741824 := by omega
  have hs1 : Src wo (some ⟨ab, ao + 1, none⟩) ((r.take n).map bv) := (mid_take (mid_at (HBW.out wo HB.out) 1) n).src
  have hls : ((r.take n).map bv).length = (1 + n - 1) * 1 := by simp; omega
  have hle : base <= wo.heap.size := Nat.le_trans (Nat.le_of_eq HBE.out.symm) HB.out.size
  have ho2 := HO.out
  clear hu hgt
  go_wp2_with (at_builtin; go_must (refine wpList_app wo rfl _ _ 22 rfl elBytes base B out.length d (out.map bv) rfl ho2 (some ⟨ab, ao + 1, none⟩) (1 + n - 1) (c - 1) ((r.take n).map bv) rfl hs1 hls (bv_one _) hob1 hle ?_; intro A' c' w2 hown hgr hbel hor))
  all_goals (
   have e1n : out.length + n = (out ++ r.take n).length := by simp; omega
   rw [show out.length + (1 + n - 1) = (out ++ r.take n).length by simp; omega] at hown
   have HO2 := hD hown
   have HB2 : Hid (Below base w w2) := hD (HB.out.trans hbel)
   have HM2 : Hid (((out ++ r.take n).length : Int) <= most ∨ out ++ r.take n = []) := hD (.inl (by have := HG.out; simp; omega))
   have HE1 : Hid (r.length + 1 - (1 + n) = (r.drop n).length) := hD (by simp; omega)
   have HE0 : Hid (out.length + n = (out ++ r.take n).length) := hD e1n
   clear hown hgr hbel hor hs1 ho2 hls hle hob1 e1n
   go_roundg r.length
   case rel => first
    | (have h9 : ¬ c = 1 + n := by assumption
       exact ⟨r.drop n, out ++ r.take n, some ⟨ab, ao + (1 + n), none⟩, A', c - (1 + n), c', by rw [HE1.out], by rw [HE0.out], by simp; omega, by simp, hD HU.out.symm, HM2.out, by simp; omega, hD (by have := mid_at HBt.out (1 + n); rwa [show (x :: r).drop (1 + n) = r.drop n by rw [Nat.add_comm, List.drop_succ_cons]] at this), hD (by simpa using HO2.out), HB2⟩)
    | exact ⟨r.drop n, out ++ r.take n, some ⟨ab, ao, none⟩, A', 0, c', by rw [HE1.out], by rw [HE0.out], by simp; omega, by simp, hD HU.out.symm, HM2.out, by simp; omega, hD (by rw [List.eq_nil_of_length_eq_zero (show (r.drop n).length = 0 by simp; omega)]; exact Bts.nil _ _), hD (by simpa using HO2.out), HB2⟩
   case measure => omega)
theorem recA_ver (r : Rec) (ha : a <= 1) : (recA r)[5 + a * 3]? = some (iv (r.at_ (a : Int)).ver) := by
 match a, ha with
 | 0, _ => simp [recA, Rec.at_]
 | 1, _ => simp [recA, Rec.at_]
theorem recA_size_ (r : Rec) (ha : a <= 1) : (recA r)[5 + a * 3 + 1]? = some (iv (r.at_ (a : Int)).size) := by
 match a, ha with
 | 0, _ => simp [recA, Rec.at_]
 | 1, _ => simp [recA, Rec.at_]
theorem devSlotA {L : DLoc} (h : DevIn w d L) (ha : a <= 1) : ∃ A c, (devA d L)[a]? = some (.slice A (d.slot (a : Int)).length c) ∧ (d.slot (a : Int)).length <= c ∧ Bts w A (d.slot (a : Int)) := by
 match a, ha with
 | 0, _ => exact ⟨L.a0, L.c0, rfl, h.k0, h.b0⟩
 | 1, _ => exact ⟨L.a1, L.c1, rfl, h.k1, h.b1⟩
theorem slot_len (h0 : d.s0.length = 64) (h1 : d.s1.length = 64) (k : Int) : (d.slot k).length = 64 := by unfold Dev.slot; split <;> assumption
theorem at_sizes {r : Rec} (h : recCheck r = 0) (k : Int) : 0 <= (r.at_ k).size ∧ (r.at_ k).size <= 64 ∧ 0 <= (r.at_ k).ver := by
 obtain ⟨_, h2, h3, _⟩ := recCheck_parts h
 have key : ∀ x : Inf, infCheck x = 0 -> 0 <= x.size ∧ x.size <= 64 ∧ 0 <= x.ver := fun x hx => by
  unfold infCheck at hx
  by_cases hh : InfRange x
  ·unfold InfRange at hh; omega
  rw [if_neg hh] at hx; exact absurd hx (by decide)
 unfold Rec.at_
 split
 ·exact key _ h2
 exact key _ h3
theorem x192 {p : Prop} (h : p := by
 exact ⟨A, c, by rw [HLEN.out]; rfl, by rw [HLEN.out]; exact hyc, HB.out.stays HBE.out, HBE.out⟩) : p := h
def ImRet (w : World) (l : List UInt8) : Ending -> World -> Prop := fun en w' =>
 ∃ A c, en = .returned (.slice A l.length c) ∧ l.length <= c ∧ Bts w' A l ∧ Below w.heap.size w w'
theorem pre_slice {c : Nat} {z : Int} (y : Nat) (h1 : z = (y : Int)) (hc : n <= c) (hy : y <= n) (h0 : 0 < n) (hA : ∃ b o, A = some ⟨b, o, none⟩) (W : World) : (Instr.slice 22 (.slice A n c) none (some (.int .i64 z)) none).run Tryz.prog W = .ok (.slice A y c) W := by
 obtain ⟨b, o, rfl⟩ := hA
 subst h1
 have q1 : (y : Int) <= (c : Int) := by omega
 have q2 : ¬ c = 0 := by omega
 go_simp
theorem image_calls (d : Dev) (L : DLoc) (k : Int) (r : Rec) (w : World) (hk : k = 0 ∨ k = 1) (h : DevIn w d L) (hl : (d.slot k).length = 64) (h0 : 0 <= (r.at_ k).size) (h1 : (r.at_ k).size <= 64) :
  Calls Tryz.prog 38 #[.agg (devA d L), iv k, .agg (recA r)] w (ImRet w (d.image k r)) := by
 obtain ⟨a, rfl, ha1⟩ : ∃ a : Nat, k = (a : Int) ∧ a <= 1 := ⟨k.toNat, by omega, by omega⟩
 obtain ⟨y, hy⟩ : ∃ y : Nat, (r.at_ (a : Int)).size = (y : Int) := ⟨(r.at_ (a : Int)).size.toNat, by omega⟩
 have himg : d.image (a : Int) r = (d.slot (a : Int)).take y := by unfold Dev.image; rw [hy]; rfl
 have hlen : ((d.slot (a : Int)).take y).length = y := by rw [List.length_take]; omega
 rw [himg]
 obtain ⟨A, c, p1, p2, p3⟩ := devSlotA h ha1
 rw [hl] at p1 p2
 obtain ⟨b, o, hA, -⟩ := p3 0 (by omega)
 have HSL := hD (pre_slice (A := A) (n := 64) (c := c) y rfl p2 (by omega) (by decide) ⟨b, o, hA⟩)
 have HB := hD (mid_take p3 y)
 have HLEN := hD hlen
 have hyc : y <= c := by omega
 have pv := recA_size_ r ha1
 rw [hy] at pv
 have HBA : Hid (Below w.heap.size w ((w.alloc (.cells (devA d L) 37)).alloc (.cells (recA r) 28))) := hD (((Below.refl _ _).alloc (Nat.le_refl _) _).alloc (by simp) _)
 have HP1 := hD p1
 have HPV := hD pv
 clear h hy himg hlen p1 p3 hA pv h0 h1 hl hk
 go_enter Tryz.func38, Tryz.ntmps38
 go_wp2_with fail
 have r1 : rowOf ((w.alloc (.cells (devA d L) 37)).alloc (.cells (recA r) 28)) w.heap.size = devA d L ∧ frOf ((w.alloc (.cells (devA d L) 37)).alloc (.cells (recA r) 28)) w.heap.size = (0, 0) := by go_simp
 have r2 : rowOf ((w.alloc (.cells (devA d L) 37)).alloc (.cells (recA r) 28)) (w.heap.size + 1) = recA r ∧ frOf ((w.alloc (.cells (devA d L) 37)).alloc (.cells (recA r) 28)) (w.heap.size + 1) = (0, 0) := by go_simp
 obtain ⟨w2, hw2⟩ : ∃ w2, ((w.alloc (.cells (devA d L) 37)).alloc (.cells (recA r) 28)) = w2 := ⟨_, rfl⟩
 rw [hw2] at HBA r1 r2 ⊢
 obtain ⟨a0r, a0f, a0n, a0c, a0z, a0l⟩ := keep1 (Below.refl w2.heap.size w2) r1.1 (by go_simp) r1.2
 obtain ⟨r0r, r0f, r0n, r0c, r0z, r0l⟩ := keep1 (Below.refl w2.heap.size w2) r2.1 (by simp [recA]) r2.2
 clear hw2 r1 r2
 have p1 := HP1.out
 have pv := HPV.out
 have k1 : (0 : Int) <= (a : Int) := by omega
 have k2 : (a : Int) < 2 := by omega
 have k3 : ¬ (2 : Int) <= (a : Int) := by omega
 have hsl := HSL.out
 go_quiet (fail)
 go_wp2_with fail
 go_ret
 have HBE : Hid (Below w.heap.size w (w2.drewN nq)) := hD (Below.drewN' HBA.out nq)
 exact x192
def PaRet (w : World) (p : Pat) (n : Int) : Ending -> World -> Prop := fun en w' =>
 ∃ A c, en = .returned (.tuple #[.agg (patA p.from_ p.to_ p.old p.new_ p.size A p.ops.length c), iv n]) ∧ Fresh w.heap.size w' (fun v => PatIn v p A c) ∧ Below w.heap.size w w'
theorem patIn_zero (w : World) : PatIn w Pat.zero none 0 := ⟨Nat.le_refl _, by simp [Pat.zero], Sps.nil _ _, ⟨by decide, by decide⟩, ⟨by decide, by decide⟩, ⟨by decide, by decide⟩, ⟨by decide, by decide⟩, ⟨by decide, by decide⟩⟩
theorem patCheck_calls (A : Option Addr) (c : Nat) (f t o n sz : Int) (l : List Stp) (w : World) (hl : l.length <= 1048576) (hs : Sps w A l) :
  Calls Tryz.prog 76 #[.agg (patA f t o n sz A l.length c)] w (RetB w (iv (patCheck ⟨f, t, o, n, sz, l⟩))) := patCheckA_calls A c f t o n sz l w hl hs
theorem x73 {p : Prop} (h : p := by
 have := HY.out
 unfold axOf at this
 by_cases h9 : deltaCheck l old.length sz ≠ 0
 ·rw [if_pos h9] at this; injection this with h; rw [← h]; simp
 rw [if_neg h9] at this
 injection this with h
 have hd := deltaCheck_ok.1 (Decidable.not_not.1 h9)
 have := applied_len (old := old) (l := l) (fun o ho => (hd.each o ho).2)
 have h7 := hd.sum; have h8 := hd.s1
 rw [← h]; omega) : p := h
theorem x85 {p : Prop} (h : p := by
 rw [← HR.out]; unfold patDo
 have := HY.out
 unfold axOf at this
 rw [HCK.out, if_neg (by simp), if_neg h1, HS.out, if_neg (by simp)]
 by_cases h9 : deltaCheck l old.length sz ≠ 0
 ·rw [if_pos h9] at this ⊢; injection this with _ h; rw [h]
 rw [if_neg h9] at this; injection this with _ h; exact absurd h.symm h3) : p := h
theorem x103 {p : Prop} (h : p := by
 have hz : r = ([], 1) := by rw [← HR.out]; unfold patDo; rw [HCK.out, if_neg (by simp), if_pos h1]
 subst hz
 have q : (64 : Int) < (old.length : Int) := by omega
 go_wp2_with fail
 go_ret2
 exact ⟨none, 0, rfl, Bts.nil _ _, Nat.le_refl _, HB1.out⟩) : p := h
theorem x105 {p : Prop} (h : p := by
 have := HY.out
 unfold axOf at this
 by_cases h9 : deltaCheck l old.length sz ≠ 0
 ·rw [if_pos h9] at this; injection this with _ h; exact absurd h h9
 rw [if_neg h9] at this; injection this with h _; exact ⟨Decidable.not_not.1 h9, h.symm⟩) : p := h
theorem x110 {p : Prop} (h : p := by
 have hz : r = ([], ck) := by rw [← HR.out]; unfold patDo; rw [HCK.out, if_pos h0]
 subst hz
 have q : (ck != 0) = true := by simp [h0]
 clear h0
 go_wp2_with fail
 go_ret2
 exact ⟨none, 0, rfl, Bts.nil _ _, Nat.le_refl _, HB1.out⟩) : p := h
theorem x129 {p : Prop} (h : p := by
 go_wp2_with fail
 go_ret2
 exact ⟨none, 0, rfl, Bts.nil _ _, Nat.le_refl _, Below.drewN' HB2.out _⟩) : p := h
theorem x167 {p : Prop} (h : p := by
 rw [← HR.out]; unfold patDo
 rw [HCK.out, if_neg (by simp), if_neg h1, HS.out, if_neg (by simp), hyy.1, if_neg (by simp), ← hyy.2]) : p := h
theorem x188 {p : Prop} (h : p := by
 go_wp2_with fail
 go_ret2
 exact ⟨none, 0, rfl, Bts.nil _ _, Nat.le_refl _, Below.drewN' HB1.out _⟩) : p := h
theorem x203 {p : Prop} (h : p := by
 go_wp2_with fail
 go_ret2
 exact ⟨A2, c2, rfl, HY2.out.drewN _, hc2, Below.drewN' HB2.out _⟩) : p := h
theorem patDo_calls (B A : Option Addr) (d c : Nat) (p : Pat) (old : List UInt8) (w : World) (hc : old.length <= c) (ho : old.length <= 1048576) (hA : Bts w A old) (hp : PatIn w p B d) :
  Calls Tryz.prog 37 #[.agg (patA p.from_ p.to_ p.old p.new_ p.size B p.ops.length d), .slice A old.length c] w (ByRet2 w (patDo (sumOn 1) p old).1 (patDo (sumOn 1) p old).2) := by
 obtain ⟨f, t, o, n, sz, l⟩ := p
 obtain ⟨hcap, hlen, hops, -, -, -, -, -⟩ := hp
 dsimp only at *
 have hba := (Below.refl w.heap.size w).alloc (Nat.le_refl _) (.cells (patA f t o n sz B l.length d) 35)
 have K1 := hD (fun w h => patCheck_calls B d f t o n sz l w hlen h)
 have K2 := hD (fun w h => sumOf_calls A c old w (by omega) h)
 have HA := hD hA
 have HO := hD hops
 have HBA := hD hba
 clear hA hops hba
 obtain ⟨r, hr⟩ : ∃ r, patDo (sumOn 1) ⟨f, t, o, n, sz, l⟩ old = r := ⟨_, rfl⟩
 rw [hr]
 have HR := hD hr
 clear hr
 obtain ⟨ck, hck⟩ : ∃ ck, patCheck ⟨f, t, o, n, sz, l⟩ = ck := ⟨_, rfl⟩
 rw [hck] at K1
 have HCK := hD hck
 clear hck
 go_enter Tryz.func37, Tryz.ntmps37
 go_wp2_with fail
 refine (K1.out _ (HO.out.stays HBA.out)).mono ?_
 rintro e w1 ⟨rfl, hb1⟩
 obtain ⟨a0r, a0f, a0n, a0c, a0z, a0l⟩ := kp (w.heap.size) (patA f t o n sz B l.length d) hb1
 have HB1 := hD (HBA.out.trans (hb1.mono (by simp)))
 clear hb1
 by_cases h0 : ck ≠ 0
 ·exact x110
 have h0 := Decidable.not_not.1 h0
 subst h0
 by_cases h1 : 64 < old.length
 ·exact x103
 have q1 : ¬ (64 : Int) < (old.length : Int) := by omega
 obtain ⟨s, hs⟩ : ∃ s, sumOn 1 old = s := ⟨_, rfl⟩
 rw [hs] at K2
 have HS := hD hs
 clear hs
 have HK1 := hD (fun n => K2.out (w1.drewN n) ((HA.out.stays HB1.out).drewN n))
 by_cases h2 : s ≠ o
 ·have hz : r = ([], 6) := by rw [← HR.out]; unfold patDo; rw [HCK.out, if_neg (by simp), if_neg h1, HS.out, if_pos h2]
  subst hz
  have q : (s != o) = true := by simp [h2]
  clear h2
  go_wp2_with fail
  go_quiet ((go_at_call 20; with_reducible exact quietRet (HK1.out _)))
  exact x188
 have h2 := Decidable.not_not.1 h2
 subst h2
 have q2 : (s != s) = false := by simp
 obtain ⟨y, e0, hy⟩ : ∃ y e0, axOf old l sz = (y, e0) := ⟨_, _, rfl⟩
 have K3 := hD (fun w h1 h2 => applyAny_calls A c old B d l sz w hc ho h1 hlen h2)
 rw [hy] at K3
 dsimp only at K3
 have HY := hD hy
 clear hy
 have HK3 := hD (fun n => K3.out (w1.drewN n) ((HA.out.stays HB1.out).drewN n) ((HO.out.stays HB1.out).stays (below_drewN _ _)))
 have hyl : y.length <= 1048576 := by
  exact x73
 go_wp2_with fail
 go_quiet ((go_at_call 20; with_reducible exact quietRet (HK1.out _)))
 go_wp2_with fail
 refine (HK3.out nq).mono ?_
 rintro e w2 ⟨A2, c2, rfl, hy2, hc2, hb2⟩
 obtain ⟨b0r, b0f, b0n, b0c, b0z, b0l⟩ := kp (w.heap.size) (patA f t s n sz B l.length d) hb2
 have HB2 : Hid (Below w.heap.size w w2) := hD ((Below.drewN' HB1.out nq).trans (hb2.mono (by have := HB1.out.size; simp; omega)))
 have HY2 := hD hy2
 clear hb2 hy2
 by_cases h3 : e0 ≠ 0
 ·have hz : r = ([], e0) := by
   exact x85
  subst hz
  have q : (e0 != 0) = true := by simp [h3]
  clear h3 HY
  go_wp2_with fail
  go_ret2
  exact ⟨none, 0, rfl, Bts.nil _ _, Nat.le_refl _, HB2.out⟩
 have h3 := Decidable.not_not.1 h3
 subst h3
 have hyy : deltaCheck l old.length sz = 0 ∧ y = applied old l := by
  exact x105
 have K4 := hD (fun m => sumOf_calls A2 c2 y (w2.drewN m) (by omega) (HY2.out.drewN m))
 have hrr : r = if sumOn 1 y ≠ n then ([], 6) else (y, 0) := by
  exact x167
 obtain ⟨s2, hs2⟩ : ∃ s2, sumOn 1 y = s2 := ⟨_, rfl⟩
 rw [hs2] at K4 hrr
 have HRR := hD hrr
 clear hrr hs2 hyy HY
 by_cases h4 : s2 ≠ n
 ·have hz : r = ([], 6) := by rw [HRR.out, if_pos h4]
  subst hz
  have q : (s2 != n) = true := by simp [h4]
  clear h4
  go_wp2_with fail
  go_quiet ((go_at_call 20; with_reducible exact quietRet (K4.out _)))
  exact x129
 have h4 := Decidable.not_not.1 h4
 subst h4
 have hz : r = (y, 0) := by rw [HRR.out, if_neg (by simp)]
 subst hz
 have q : (s2 != s2) = false := by simp
 go_wp2_with fail
 go_quiet ((go_at_call 20; with_reducible exact quietRet (K4.out _)))
 exact x203
end Go.Proofs.YtefkfglkpebbmacGreat
