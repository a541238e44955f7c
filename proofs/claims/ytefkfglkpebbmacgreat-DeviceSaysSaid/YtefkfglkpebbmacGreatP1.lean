/- Walks of functions, and plain words. No conditions. -/
import Derived.Test.YtefkfglkpebbmacGreatPE2
import Derived.Test.YtefkfglkpebbmacGreatPA
import Derived.Laws.StructEq
import Derived.Deep.LoopGhost
import Derived.Deep.DeepCutAuto
set_option linter.unusedVariables false
set_option linter.unusedSimpArgs false
set_option maxRecDepth 100000
set_option maxHeartbeats 40000000
namespace Go.Proofs.YtefkfglkpebbmacGreat
open Go.RowKit
variable {Y:Prop}
variable {w w':World} {d:Dev} {k n base a:Nat} {A:OA} {l:LU}
def infA(x:Inf):Array Value:=#[iv x.ver,iv x.size,iv x.sum]
@[go_sem] theorem infA_size(x:Inf):(infA x).size=3:=by simp[infA]
@[go_sem] theorem infA_one(x:Inf):allOne (infA x)=true:=by simp[infA,allOne,Value.oneCell']
@[go_sem] theorem infA_at0(x:Inf)(h:0<(infA x).size):(infA x)[0]'h=iv x.ver:=by simp[infA]
@[go_sem] theorem infA_at1(x:Inf)(h:1<(infA x).size):(infA x)[1]'h=iv x.size:=by simp[infA]
@[go_sem] theorem infA_at2(x:Inf)(h:2<(infA x).size):(infA x)[2]'h=iv x.sum:=by simp[infA]
def recA(r:Rec):Array Value:=#[iv r.gen,iv r.active,.bool r.trying,iv r.tries,iv r.floor,iv r.a.ver,iv r.a.size,iv r.a.sum,iv r.b.ver,iv r.b.size,iv r.b.sum]
@[go_sem] theorem recA_size(r:Rec):(recA r).size=11:=by simp[recA]
@[go_sem] theorem recA_one(r:Rec):allOne (recA r)=true:=by simp[recA,allOne,Value.oneCell']
@[go_sem] theorem recA_at0(r:Rec)(h:0<(recA r).size):(recA r)[0]'h=iv r.gen:=by simp[recA]
@[go_sem] theorem recA_at1(r:Rec)(h:1<(recA r).size):(recA r)[1]'h=iv r.active:=by simp[recA]
@[go_sem] theorem recA_at2(r:Rec)(h:2<(recA r).size):(recA r)[2]'h=.bool r.trying:=by simp[recA]
@[go_sem] theorem recA_at3(r:Rec)(h:3<(recA r).size):(recA r)[3]'h=iv r.tries:=by simp[recA]
@[go_sem] theorem recA_at4(r:Rec)(h:4<(recA r).size):(recA r)[4]'h=iv r.floor:=by simp[recA]
@[go_sem] theorem recA_at5(r:Rec)(h:5<(recA r).size):(recA r)[5]'h=iv r.a.ver:=by simp[recA]
@[go_sem] theorem recA_at8(r:Rec)(h:8<(recA r).size):(recA r)[8]'h=iv r.b.ver:=by simp[recA]
@[go_sem] theorem recA_all(r:Rec):(recA r).extract 0 11=recA r:=by simp[recA]
def copA(c:Cop):Array Value:=#[.bool c.ok,iv c.r.gen,iv c.r.active,.bool c.r.trying,iv c.r.tries,iv c.r.floor,iv c.r.a.ver,iv c.r.a.size,iv c.r.a.sum,iv c.r.b.ver,iv c.r.b.size,iv c.r.b.sum]
@[go_sem] theorem copA_size(c:Cop):(copA c).size=12:=by simp[copA]
@[go_sem] theorem copA_one(c:Cop):allOne (copA c)=true:=by simp[copA,allOne,Value.oneCell']
@[go_sem] theorem copA_at0(c:Cop)(h:0<(copA c).size):(copA c)[0]'h=.bool c.ok:=by simp[copA]
@[go_sem] theorem copA_all(c:Cop):(copA c).extract 0 12=copA c:=by simp[copA]
def copsA(c d:Cop):Array Value:=#[.bool c.ok,iv c.r.gen,iv c.r.active,.bool c.r.trying,iv c.r.tries,iv c.r.floor,iv c.r.a.ver,iv c.r.a.size,iv c.r.a.sum,iv c.r.b.ver,iv c.r.b.size,iv c.r.b.sum,.bool d.ok,iv d.r.gen,iv d.r.active,.bool d.r.trying,iv d.r.tries,iv d.r.floor,iv d.r.a.ver,iv d.r.a.size,iv d.r.a.sum,iv d.r.b.ver,iv d.r.b.size,iv d.r.b.sum]
@[go_sem] theorem copsA_size(c d:Cop):(copsA c d).size=24:=by simp[copsA]
@[go_sem] theorem copsA_one(c d:Cop):allOne (copsA c d)=true:=by simp[copsA,allOne,Value.oneCell']
@[go_sem] theorem copsA_get0(c d:Cop):(copsA c d)[0]?=some (.bool c.ok):=by simp[copsA]
@[go_sem] theorem copsA_get12(c d:Cop):(copsA c d)[12]?=some (.bool d.ok):=by simp[copsA]
@[go_sem] theorem copsA_at0(c d:Cop)(h:0<(copsA c d).size):(copsA c d)[0]'h=.bool c.ok:=by simp[copsA]
@[go_sem] theorem copsA_at1(c d:Cop)(h:1<(copsA c d).size):(copsA c d)[1]'h=iv c.r.gen:=by simp[copsA]
@[go_sem] theorem copsA_at12(c d:Cop)(h:12<(copsA c d).size):(copsA c d)[12]'h=.bool d.ok:=by simp[copsA]
@[go_sem] theorem copsA_at13(c d:Cop)(h:13<(copsA c d).size):(copsA c d)[13]'h=iv d.r.gen:=by simp[copsA]
@[go_sem] theorem copsA_all(c d:Cop):(copsA c d).extract 0 24=copsA c d:=by simp[copsA]
@[go_sem] theorem copA_ex1_12(c:Cop):(copA c).extract 1 12=recA c.r:=by simp[copA,recA]
@[go_sem] theorem copsA_ex0_12(c d:Cop):(copsA c d).extract 0 12=copA c:=by simp[copsA,copA]
@[go_sem] theorem copsA_ex12_24(c d:Cop):(copsA c d).extract 12 24=copA d:=by simp[copsA,copA]
@[go_sem] theorem copsA_ex1_12(c d:Cop):(copsA c d).extract 1 12=recA c.r:=by simp[copsA,recA]
@[go_sem] theorem copsA_ex13_24(c d:Cop):(copsA c d).extract 13 24=recA d.r:=by simp[copsA,recA]
@[go_sem] theorem recA_set_gen(r:Rec)(v:Int):(recA r).setIfInBounds 0 (iv v)=recA {r with gen:=v}:=by simp[recA]
@[go_sem] theorem recA_set_active(r:Rec)(v:Int):(recA r).setIfInBounds 1 (iv v)=recA {r with active:=v}:=by simp[recA]
@[go_sem] theorem recA_set_trying(r:Rec)(v:Bool):(recA r).setIfInBounds 2 (.bool v)=recA {r with trying:=v}:=by simp[recA]
@[go_sem] theorem recA_set_tries(r:Rec)(v:Int):(recA r).setIfInBounds 3 (iv v)=recA {r with tries:=v}:=by simp[recA]
@[go_sem] theorem recA_set_floor(r:Rec)(v:Int):(recA r).setIfInBounds 4 (iv v)=recA {r with floor:=v}:=by simp[recA]
@[go_sem] theorem recA_splice_a(r:Rec)(x:Inf):splice (recA r) 5 (infA x)=recA {r with a:=x}:=by simp[splice,recA,infA]
@[go_sem] theorem recA_splice_b(r:Rec)(x:Inf):splice (recA r) 8 (infA x)=recA {r with b:=x}:=by simp[splice,recA,infA]
@[go_sem] theorem copsA_splice_0(c d e:Cop):splice (copsA c d) 0 (copA e)=copsA e d:=by simp[splice,copsA,copA]
@[go_sem] theorem copsA_splice_1(c d e:Cop):splice (copsA c d) 12 (copA e)=copsA c e:=by simp[splice,copsA,copA]
@[go_sem] theorem aggSzInf:aggSz Tryz.prog 25=3:=by kernel_rfl
@[go_sem] theorem aggSzRec:aggSz Tryz.prog 28=11:=by kernel_rfl
@[go_sem] theorem aggSzCop:aggSz Tryz.prog 30=12:=by kernel_rfl
@[go_sem] theorem aggSzCops:aggSz Tryz.prog 31=24:=by kernel_rfl
@[go_sem] theorem aggSzInfs:aggSz Tryz.prog 26=6:=by kernel_rfl
@[go_sem] theorem zero_rec:Value.agg #[iv 0,iv 0,.bool false,iv 0,iv 0,iv 0,iv 0,iv 0,iv 0,iv 0,iv 0]=Value.agg (recA Rec.zero):=by simp[recA,Rec.zero,Inf.zero]
@[go_sem] theorem zero_cop:Value.agg #[.bool false,iv 0,iv 0,.bool false,iv 0,iv 0,iv 0,iv 0,iv 0,iv 0,iv 0,iv 0]=Value.agg (copA Cop.zero):=by simp[copA,Cop.zero,Rec.zero,Inf.zero]
@[go_sem] theorem zero_cops:Value.agg #[.bool false,iv 0,iv 0,.bool false,iv 0,iv 0,iv 0,iv 0,iv 0,iv 0,iv 0,iv 0,.bool false,iv 0,iv 0,.bool false,iv 0,iv 0,iv 0,iv 0,iv 0,iv 0,iv 0,iv 0]=Value.agg (copsA Cop.zero Cop.zero):=by simp[copsA,Cop.zero,Rec.zero,Inf.zero]
@[go_sem] theorem zero_inf:Value.agg #[iv 0,iv 0,iv 0]=Value.agg (infA Inf.zero):=by simp[infA,Inf.zero]
def patA(f t o n s:Int)(A:OA)(k c:Nat):Array Value:=#[iv f,iv t,iv o,iv n,iv s,.slice A k c]
@[go_sem] theorem patA_size(f t o n s:Int)(A:OA)(k c:Nat):(patA f t o n s A k c).size=6:=by simp[patA]
@[go_sem] theorem patA_one(f t o n s:Int)(A:OA)(k c:Nat):allOne (patA f t o n s A k c)=true:=by simp[patA,allOne,Value.oneCell']
@[go_sem] theorem patA_at0(f t o n s:Int)(A:OA)(k c:Nat)(h:0<(patA f t o n s A k c).size):(patA f t o n s A k c)[0]'h=iv f:=by simp[patA]
@[go_sem] theorem patA_at1(f t o n s:Int)(A:OA)(k c:Nat)(h:1<(patA f t o n s A k c).size):(patA f t o n s A k c)[1]'h=iv t:=by simp[patA]
@[go_sem] theorem patA_at2(f t o n s:Int)(A:OA)(k c:Nat)(h:2<(patA f t o n s A k c).size):(patA f t o n s A k c)[2]'h=iv o:=by simp[patA]
@[go_sem] theorem patA_at3(f t o n s:Int)(A:OA)(k c:Nat)(h:3<(patA f t o n s A k c).size):(patA f t o n s A k c)[3]'h=iv n:=by simp[patA]
@[go_sem] theorem patA_at4(f t o n s:Int)(A:OA)(k c:Nat)(h:4<(patA f t o n s A k c).size):(patA f t o n s A k c)[4]'h=iv s:=by simp[patA]
@[go_sem] theorem patA_at5(f t o n s:Int)(A:OA)(k c:Nat)(h:5<(patA f t o n s A k c).size):(patA f t o n s A k c)[5]'h=.slice A k c:=by simp[patA]
@[go_sem] theorem patA_all(f t o n s:Int)(A:OA)(k c:Nat):(patA f t o n s A k c).extract 0 6=patA f t o n s A k c:=by simp[patA]
@[go_sem] theorem pat_lit(f t o n s:Int)(A:OA)(k c:Nat):Value.agg #[iv f,iv t,iv o,iv n,iv s,.slice A k c]=Value.agg (patA f t o n s A k c):=by simp[patA]
@[go_sem] theorem patA_set5(f t o n s:Int)(A:OA)(k c:Nat)(B:OA)(m d:Nat):(patA f t o n s A k c).setIfInBounds 5 (.slice B m d)=patA f t o n s B m d:=by simp[patA]
@[go_sem] theorem aggSzPat:aggSz Tryz.prog 35=6:=by kernel_rfl
@[go_sem] theorem patA_set0(f t o n s:Int)(A:OA)(k c:Nat)(x:Int):(patA f t o n s A k c).setIfInBounds 0 (iv x)=patA x t o n s A k c:=by simp[patA]
@[go_sem] theorem patA_set1(f t o n s:Int)(A:OA)(k c:Nat)(x:Int):(patA f t o n s A k c).setIfInBounds 1 (iv x)=patA f x o n s A k c:=by simp[patA]
@[go_sem] theorem patA_set2(f t o n s:Int)(A:OA)(k c:Nat)(x:Int):(patA f t o n s A k c).setIfInBounds 2 (iv x)=patA f t x n s A k c:=by simp[patA]
@[go_sem] theorem patA_set3(f t o n s:Int)(A:OA)(k c:Nat)(x:Int):(patA f t o n s A k c).setIfInBounds 3 (iv x)=patA f t o x s A k c:=by simp[patA]
@[go_sem] theorem patA_set4(f t o n s:Int)(A:OA)(k c:Nat)(x:Int):(patA f t o n s A k c).setIfInBounds 4 (iv x)=patA f t o n x A k c:=by simp[patA]
structure DLoc where
 a0:Option Addr
 c0:Nat
 a1:Option Addr
 c1:Nat
 ag:Option Addr
 cg:Nat
 aj:Option Addr
 cj:Nat
def DLoc.zero:DLoc:=⟨none,0,none,0,none,0,none,0⟩
def slotsA(a:OA)(k c:Nat)(b:OA)(m e:Nat):Array Value:=#[.slice a k c,.slice b m e]
@[go_sem] theorem slotsA_size(a:OA)(k c:Nat)(b:OA)(m e:Nat):(slotsA a k c b m e).size=2:=by simp[slotsA]
@[go_sem] theorem slotsA_one(a:OA)(k c:Nat)(b:OA)(m e:Nat):allOne (slotsA a k c b m e)=true:=by simp[slotsA,allOne,Value.oneCell']
def devA(d:Dev)(L:DLoc):Array Value:=#[.slice L.a0 d.s0.length L.c0,.slice L.a1 d.s1.length L.c1,.bool d.c0.ok,iv d.c0.r.gen,iv d.c0.r.active,.bool d.c0.r.trying,iv d.c0.r.tries,iv d.c0.r.floor,iv d.c0.r.a.ver,iv d.c0.r.a.size,iv d.c0.r.a.sum,iv d.c0.r.b.ver,iv d.c0.r.b.size,iv d.c0.r.b.sum,.bool d.c1.ok,iv d.c1.r.gen,iv d.c1.r.active,.bool d.c1.r.trying,iv d.c1.r.tries,iv d.c1.r.floor,iv d.c1.r.a.ver,iv d.c1.r.a.size,iv d.c1.r.a.sum,iv d.c1.r.b.ver,iv d.c1.r.b.size,iv d.c1.r.b.sum,.bool d.up,iv d.running,.slice L.ag d.got.length L.cg,.bool d.busy,iv d.job.from_,iv d.job.to_,iv d.job.old,iv d.job.new_,iv d.job.size,.slice L.aj d.job.ops.length L.cj,iv d.done]
@[go_sem] theorem devA_size(d:Dev)(L:DLoc):(devA d L).size=37:=by simp[devA]
@[go_sem] theorem devA_one(d:Dev)(L:DLoc):allOne (devA d L)=true:=by simp[devA,allOne,Value.oneCell']
@[go_sem] theorem devA_at0(d:Dev)(L:DLoc)(h:0<(devA d L).size):(devA d L)[0]'h=.slice L.a0 d.s0.length L.c0:=by simp[devA]
@[go_sem] theorem devA_at1(d:Dev)(L:DLoc)(h:1<(devA d L).size):(devA d L)[1]'h=.slice L.a1 d.s1.length L.c1:=by simp[devA]
@[go_sem] theorem devA_at26(d:Dev)(L:DLoc)(h:26<(devA d L).size):(devA d L)[26]'h=.bool d.up:=by simp[devA]
@[go_sem] theorem devA_at27(d:Dev)(L:DLoc)(h:27<(devA d L).size):(devA d L)[27]'h=iv d.running:=by simp[devA]
@[go_sem] theorem devA_at28(d:Dev)(L:DLoc)(h:28<(devA d L).size):(devA d L)[28]'h=.slice L.ag d.got.length L.cg:=by simp[devA]
@[go_sem] theorem devA_at29(d:Dev)(L:DLoc)(h:29<(devA d L).size):(devA d L)[29]'h=.bool d.busy:=by simp[devA]
@[go_sem] theorem devA_at30(d:Dev)(L:DLoc)(h:30<(devA d L).size):(devA d L)[30]'h=iv d.job.from_:=by simp[devA]
@[go_sem] theorem devA_at31(d:Dev)(L:DLoc)(h:31<(devA d L).size):(devA d L)[31]'h=iv d.job.to_:=by simp[devA]
@[go_sem] theorem devA_at33(d:Dev)(L:DLoc)(h:33<(devA d L).size):(devA d L)[33]'h=iv d.job.new_:=by simp[devA]
@[go_sem] theorem devA_at34(d:Dev)(L:DLoc)(h:34<(devA d L).size):(devA d L)[34]'h=iv d.job.size:=by simp[devA]
@[go_sem] theorem devA_at36(d:Dev)(L:DLoc)(h:36<(devA d L).size):(devA d L)[36]'h=iv d.done:=by simp[devA]
@[go_sem] theorem devA_all(d:Dev)(L:DLoc):(devA d L).extract 0 37=devA d L:=by simp[devA]
@[go_sem] theorem devA_ex0_2(d:Dev)(L:DLoc):(devA d L).extract 0 2=slotsA L.a0 d.s0.length L.c0 L.a1 d.s1.length L.c1:=by simp[devA,slotsA]
@[go_sem] theorem devA_ex2_26(d:Dev)(L:DLoc):(devA d L).extract 2 26=copsA d.c0 d.c1:=by simp[devA,copsA]
@[go_sem] theorem devA_ex30_36(d:Dev)(L:DLoc):(devA d L).extract 30 36=patA d.job.from_ d.job.to_ d.job.old d.job.new_ d.job.size L.aj d.job.ops.length L.cj:=by simp[devA,patA]
@[go_sem] theorem devA_set_up(d:Dev)(L:DLoc)(v:Bool):(devA d L).setIfInBounds 26 (.bool v)=devA {d with up:=v} L:=by simp[devA]
@[go_sem] theorem devA_set_running(d:Dev)(L:DLoc)(v:Int):(devA d L).setIfInBounds 27 (iv v)=devA {d with running:=v} L:=by simp[devA]
@[go_sem] theorem devA_set_got(d:Dev)(L:DLoc)(l:List Chk)(A:OA)(c:Nat):(devA d L).setIfInBounds 28 (.slice A l.length c)=devA {d with got:=l} {L with ag:=A,cg:=c}:=by simp[devA]
@[go_sem] theorem devA_set_got0(d:Dev)(L:DLoc)(A:OA)(c:Nat):(devA d L).setIfInBounds 28 (.slice A 0 c)=devA {d with got:=[]} {L with ag:=A,cg:=c}:=by simp[devA]
@[go_sem] theorem devA_set_busy(d:Dev)(L:DLoc)(v:Bool):(devA d L).setIfInBounds 29 (.bool v)=devA {d with busy:=v} L:=by simp[devA]
@[go_sem] theorem devA_set_done(d:Dev)(L:DLoc)(v:Int):(devA d L).setIfInBounds 36 (iv v)=devA {d with done:=v} L:=by simp[devA]
@[go_sem] theorem devA_splice_slots(d:Dev)(L:DLoc)(a b:OA)(c e:Nat)(x y:LU):splice (devA d L) 0 (slotsA a x.length c b y.length e)=devA {d with s0:=x,s1:=y} {L with a0:=a,c0:=c,a1:=b,c1:=e}:=by simp[splice,devA,slotsA]
@[go_sem] theorem devA_splice_cops(d:Dev)(L:DLoc)(p q:Cop):splice (devA d L) 2 (copsA p q)=devA {d with c0:=p,c1:=q} L:=by simp[splice,devA,copsA]
@[go_sem] theorem devA_splice_cop0(d:Dev)(L:DLoc)(p:Cop):splice (devA d L) 2 (copA p)=devA {d with c0:=p} L:=by simp[splice,devA,copA]
@[go_sem] theorem devA_splice_job(d:Dev)(L:DLoc)(f t o n s:Int)(l:List Stp)(A:OA)(c:Nat):splice (devA d L) 30 (patA f t o n s A l.length c)=devA {d with job:=⟨f,t,o,n,s,l⟩} {L with aj:=A,cj:=c}:=by simp[splice,devA,patA]
@[go_sem] theorem devA_splice_job0(d:Dev)(L:DLoc)(A:OA)(c:Nat):splice (devA d L) 30 (patA 0 0 0 0 0 A 0 c)=devA {d with job:=Pat.zero} {L with aj:=A,cj:=c}:=by simp[splice,devA,patA,Pat.zero]
@[go_sem] theorem aggSzDev:aggSz Tryz.prog 37=37:=by kernel_rfl
@[go_sem] theorem aggSzSlots:aggSz Tryz.prog 23=2:=by kernel_rfl
@[go_sem] theorem zero_dev:Value.agg #[.slice none 0 0,.slice none 0 0,.bool false,iv 0,iv 0,.bool false,iv 0,iv 0,iv 0,iv 0,iv 0,iv 0,iv 0,iv 0,.bool false,iv 0,iv 0,.bool false,iv 0,iv 0,iv 0,iv 0,iv 0,iv 0,iv 0,iv 0,.bool false,iv 0,.slice none 0 0,.bool false,iv 0,iv 0,iv 0,iv 0,iv 0,.slice none 0 0,iv 0]=Value.agg (devA Dev.zero DLoc.zero):=by simp[devA,Dev.zero,DLoc.zero,Cop.zero,Rec.zero,Inf.zero,Pat.zero]
@[go_sem] theorem slots_lit(a:OA)(k c:Nat)(b:OA)(m e:Nat):Value.agg #[.slice a k c,.slice b m e]=Value.agg (slotsA a k c b m e):=by simp[slotsA]
@[go_sem] theorem slotsA_set0(a:OA)(k c:Nat)(b:OA)(m e:Nat)(x:OA)(y z:Nat):(slotsA a k c b m e).setIfInBounds 0 (.slice x y z)=slotsA x y z b m e:=by simp[slotsA]
@[go_sem] theorem slotsA_set1(a:OA)(k c:Nat)(b:OA)(m e:Nat)(x:OA)(y z:Nat):(slotsA a k c b m e).setIfInBounds 1 (.slice x y z)=slotsA a k c x y z:=by simp[slotsA]
@[go_sem] theorem slotsA_ne(a:OA)(k c:Nat)(b:OA)(m e:Nat):(slotsA a k c b m e=#[])=False:=by simp[slotsA]
structure DevIn(w:World)(d:Dev)(L:DLoc):Prop where
 k0:d.s0.length<=L.c0
 l0:d.s0.length<=140737488351232
 b0:Bts w L.a0 d.s0
 k1:d.s1.length<=L.c1
 l1:d.s1.length<=140737488351232
 b1:Bts w L.a1 d.s1
 kg:d.got.length<=L.cg
 lg:d.got.length<=2513169434843
 got:Chs w L.ag d.got
 job:PatIn w d.job L.aj L.cj
 ir:I64 d.running
 id:I64 d.done
theorem DevIn.stays{L:DLoc}(h:DevIn w d L)(hb:Below w.heap.size w w'):DevIn w' d L:=
 ⟨h.k0,h.l0,h.b0.stays hb,h.k1,h.l1,h.b1.stays hb,h.kg,h.lg,h.got.stays hb,h.job.stays hb,h.ir,h.id⟩
theorem pat_in_zero(w:World):PatIn w Pat.zero none 0:=⟨nl,by simp[Pat.zero],fun i hi=>absurd hi (by simp[Pat.zero]),⟨by decide,by decide⟩,⟨by decide,by decide⟩,⟨by decide,by decide⟩,⟨by decide,by decide⟩,⟨by decide,by decide⟩⟩
theorem bts_nil(w:World)(A:OA):Bts w A []:=fun i hi=>absurd hi (by simp)
theorem DevIn.zero(w:World):DevIn w Dev.zero DLoc.zero:=
 ⟨nl,by simp[Dev.zero],bts_nil _ _,nl,by simp[Dev.zero],bts_nil _ _,nl,by simp[Dev.zero],Chs.nil _ _,pat_in_zero w,⟨by decide,by decide⟩,⟨by decide,by decide⟩⟩
theorem x0b0(h:Y:=by
 have e1:=fO 7 (.slice (some ⟨g,0,none⟩) n n) h;exact mx_move (ch_ev e1)):Y:=h
theorem x0wu(h:Y:=by
 have e2:(⟨g,0,none⟩:Addr).add j=⟨g,j,none⟩:=by unfold Addr.add;split<;>simp_all
 rw[e2,List.getElem_replicate];refine(cell_of_row _ _ _ _ _ _ HF.out).trans ?_;rw[List.getElem?_toArray,e1]):Y:=h
theorem x2m3(h:Y:=by
 have hnk:=HNK.out;have hkn:=HKN.out;have hmn:=HMK.out;go_simp):Y:=h
theorem x6lk(h:Y:=by
 obtain⟨_,g1,g2⟩:=hJ;have HF1:=qH g1;have HB1:Hid (Below g w w1):=qH (HB.out.trans g2);clear g1 g2;simp only[freeAll,putAll_some,putAll_none,putAll_nil,List.getD_cons_zero,List.getD_cons_succ,Bool.false_eq_true,if_true,if_false,reduceIte,Nat.zero_add,Nat.reduceAdd,List.setIfInBounds_toArray,List.set_cons_zero,List.set_cons_succ];go_wp2_with fail;go_roundw
 case rel=>exact⟨k+m,rfl,by omega,hm1.2,HF1,HB1⟩
 case measure=>simp[intOf];omega):Y:=h
def filled(x:UInt8)(k n:Nat):List Value:=List.replicate k (bv x)++List.replicate (n-k) (.int .u8 0)
theorem filled_len(x:UInt8)(h:k<=n):(filled x k n).length=n:=by unfold filled;simp;omega
theorem filled_more(x:UInt8){m:Nat}(h:k+m<=n):Go.splice (filled x k n) k (List.replicate m (bv x))=filled x (k+m) n:=by
 unfold filled Go.splice;rw[List.take_append_of_le_length (by simp),List.length_replicate,List.drop_append,List.length_replicate,List.take_of_length_le (by simp),List.drop_eq_nil_of_le (by simp),List.nil_append,<-List.append_assoc,List.replicate_append_replicate,List.drop_replicate];congr 2;omega
theorem filled_all(x:UInt8)(n:Nat):filled x n n=List.replicate n (bv x):=by unfold filled;simp
theorem filled_at(x:UInt8){j:Nat}(h:j<k):(filled x k n)[j]?=some (bv x):=by
 unfold filled;rw[List.getElem?_append_left (by simpa using h),List.getElem?_replicate];simp[h]
theorem wp_copy{P:Program}{o:Oper}{a:Act}{K:Act->World->Prop}{Q:Exit->Act->World->Prop}(hgd:o.guard=none)(d s:Operand)(dT sT:TypeId)
  (ho:o.op=.call {callee:=.builtin .copy,args:=#[d,s],argTypes:=#[dT,sT]}) (elem:TypeId) (hu:P.underlying dT=some (.slice elem)) (hsz:(P.info? elem).map (·.size)=some 1)
  (dp sp:OA) (dLen dCap sLen sCap:Nat) (hd:a.eval d=.slice dp dLen dCap) (hs:a.eval s=.slice sp sLen sCap)
  (g off:Nat) (cur:List Value) (t:TypeId) (hg:w.heap[g]?=some (.cells cur.toArray t (0,0))) (cs:List Value) (hn:cs.length=Nat.min sLen dLen)
  (hpos:0<cs.length->dp=some ⟨g,off,none⟩∧∃ad,sp=some ad∧∀j v,cs[j]?=some v->w.cell? (ad.add j)=some v)
  (hfit:off+cs.length<=cur.length) (h1:∀v∈cs,v.oneCell'=true) (B:Nat) (w0:World) (hb:RowKit.Below B w0 w) (hBg:B<=g)
  (h:∀w',w'.heap[g]?=some (.cells (Go.splice cur off cs).toArray t (0,0))->RowKit.Below B w0 w'->K (a.put o.dst (goInt cs.length)) w'):
  Oper.wp P o a w K Q:=by
 have h1:=step_copy_splice (P:=P) (ops:=#[]) (E:=True) (K:=K) (Q:=Q) hgd d s dT sT ho elem hu hsz dp sp dLen dCap sLen sCap hd hs g off cur t hg cs hn hpos hfit h1 B w0 hb hBg (fun w' hg hb=>h w' hg.out hb);rwa [if_pos (by simp[Region.wanted,hgd])]at h1
def rpJ(wo:World)(g:Nat)(x:UInt8)(k m n:Nat)(done:Nat->Bool)(cv:Nat->Value)(w:World):Prop:=
 if done 7=true then cv 7=iv (m:Int)∧w.heap[g]?=some (.cells (filled x (k+m) n).toArray 5 (0,0))∧Below g wo w else w=wo.drew
theorem own_filled{g:Nat}{x:UInt8}(h:w.heap[g]?=some (.cells (filled x n n).toArray 5 (0,0)))(hb:base<=g)(hn:n<=140737488351232):Own w base 5 1 (some ⟨g,0,none⟩) n n ((List.replicate n x).map bv):=
 ⟨by simp,Or.inr ⟨g,n,_,rfl,hb,h,nl,by unfold maxLen;omega,by rw[filled_all];simp,by rw[filled_all];simp⟩⟩
theorem made_filled(x:UInt8)(n:Nat):madeCells #[Value.int .u8 0] n=(filled x 0 n).toArray:=by
 unfold filled
 apply Array.ext'
 simp[madeCells]
 apply List.ext_getElem?
 intro i;simp only[Nat.mod_one,List.getElem?_map];by_cases h:i<n<;>simp[h]
theorem repeat_calls(A:OA)(c:Nat)(x:UInt8)(n:Nat)(w:World)(hn:1<=n)(hn2:n<=1000)(hA:Bts w A [x]):
  Calls Tryz.prog 106 #[.slice A 1 c,iv n] w (BtRet w (List.replicate n x)):=by
 obtain⟨a,o,rfl,hlt,hc⟩:=hA 0 (by simp);simp only[Nat.add_zero,List.getElem_cons_zero]at hc;have HC:=qH hc;clear hA hc;have d1:¬(n:Int)<0:=by omega
 have u1:IntKind.u64.wrap (n:Int)=(n:Int):=by rw[IntKind.wrap_u64];omega
 have i1:IntKind.i64.wrap (n:Int)=(n:Int):=IntWalk.i64_in _ (by omega);have hmk:∀w:World,(Instr.makeSlice 22 (iv (n:Int)) (iv (n:Int))).run Tryz.prog w=.ok (.slice (some ⟨w.heap.size,0,none⟩) n n) (w.alloc (.cells (filled x 0 n).toArray 5)):=fun w=>by
  have:=run_make_row' (P:=Tryz.prog) 22 5 (.int .u8 0) 1 Tryz.underlying22 (by kernel_rfl) rfl .i64 .i64 n (by omega) (by omega) w;rw[made_filled x]at this;exact this
 go_enter Tryz.func106,Tryz.ntmps106;go_wp2_with fail;refine(mul1_calls n w (by omega)).mono ?_;rintro e w1 ⟨rfl,rfl⟩;have d1:decide ((9223372036854775807:Int)<(n:Int))=false:=by simp;omega
 have hb1:Below w.heap.size w (w.alloc (.cells (filled x 0 n).toArray 5)):=bL _;have hg1:(w.alloc (.cells (filled x 0 n).toArray 5)).heap[w.heap.size]?=some (.cells (filled x 0 n).toArray 5 (0,0)):=blk_top rfl;have hca:=(hb1.cell (p:=⟨a,o,none⟩) hlt).trans HC.out;have hcp:(Builtin.copy_ #[22,22] 3 #[.slice (some ⟨w.heap.size,0,none⟩) n n,.slice (some ⟨a,o,none⟩) 1 c]).run Tryz.prog (w.alloc (.cells (filled x 0 n).toArray 5))=.ok (iv 1) (w.alloc (.cells (filled x 1 n).toArray 5)):=by
  have:=run_copy_row (P:=Tryz.prog) (w.alloc (.cells (filled x 0 n).toArray 5)) 22 22 3 5 w.heap.size 0 n n ⟨a,o,none⟩ 1 c (filled x 0 n).toArray 5 [bv x] Tryz.underlying22 (by kernel_rfl) hg1 (by simp[Nat.min_def];omega)
   (fun j v hv=>by
     obtain⟨hj,rfl⟩:=List.getElem?_eq_some_iff.1 hv;have e1:j=0:=by simp at hj;omega
     subst e1;simpa[Addr.add]using hca) (by rw[List.size_toArray,filled_len x (Nat.zero_le _)];simp;omega) (by simp[Value.oneCell'])
  rw[this,setRow_alloc,if_pos rfl];have e:=filled_more x (k:=0) (m:=1) (n:=n) (by omega);unfold Go.splice at e;simp only[Nat.zero_add]at e⊢;rw[show (List.replicate 1 (bv x))=[bv x] from rfl]at e;rw[List.append_assoc,e];rfl
 have hf1:Hid ((w.alloc (.cells (filled x 1 n).toArray 5)).heap[w.heap.size]?=some (.cells (filled x 1 n).toArray 5 (0,0))):=qH (blk_top rfl);have HB1:Hid (Below w.heap.size w (w.alloc (.cells (filled x 1 n).toArray 5))):=qH (bL _);clear hg1 hb1 hca;go_wp2_with fail;clear hcp hmk;generalize w.alloc (.cells (filled x 1 n).toArray 5)=w2 at *
 generalize hgg:w.heap.size=g at *
 go_loopw [8] (fun y wr=>∃(k:Nat),y=iv (k:Int)∧1<=k∧k<=n∧Hid (wr.heap[g]?=some (.cells (filled x k n).toArray 5 (0,0)))∧Hid (Below g w wr)) (fun y _=>n-(intOf y).toNat)
 case atStart=>exact⟨1,rfl,by omega,hn,hf1,HB1⟩
 case round=>
  rename World=>wo;obtain⟨k,rfl,hk1,hkn,HF,HB⟩:=hrel;by_cases hlt:k<n
  ·obtain⟨m,hm⟩:∃m,m=Nat.min k (n-k):=⟨_,rfl⟩;have hm1:1<=m∧k+m<=n:=by rw[hm];simp only[Nat.min_def];split<;>omega
   have HM:=qH hm;have HMK:Hid ((k:Int)<=(n:Int)):=qH (by omega);have HMK1:Hid (m<=k):=qH (by rw[hm];exact Nat.min_le_left _ _);have HMN:=qH hm1.2;have HK:=qH hkn;have HNK:Hid (¬n=k):=qH (by omega);have HKN:Hid ((k:Int)<=(n:Int)):=qH (by omega);have HI:Hid (IntKind.i64.wrap ((k:Int)+(m:Int))=(k:Int)+(m:Int)):=qH (IntWalk.i64_in _ (by omega));have dk:decide ((k:Int)<(n:Int))=true:=by simp;omega
   clear hm hf1 HB1;go_wp2_with fail;refine wp_region_free (by kernel_rfl) (some 38::some 39::some 40::some 41::some 42::some 43::some 44::some 45::some 46::some 8::[]) (false::false::false::false::false::false::false::true::false::false::[]) (iv ((k:Nat):Int)::.slice (some ⟨g,0,none⟩) n n::iv ((k:Nat):Int)::.slice (some ⟨g,(k:Nat),none⟩) (n-k) (n-k)::.slice (some ⟨g,0,none⟩) n n::iv ((k:Nat):Int)::.slice (some ⟨g,0,none⟩) k n::undef::iv ((k+m:Nat):Int)::iv ((k+m:Nat):Int)::[]) (rpJ wo g x k m n) 48 rfl rfl (by decide+kernel) (by decide+kernel) (by decide+kernel) rfl rfl (by rw[rpJ,if_neg (by simp)]) ?_ ?_
   ·refine⟨?_,?_,?_,?_,?_,?_,?_,?_,?_,?_,trivial⟩;all_goals intro done cv a wq hn hw hcl h hJ
    ·have e1:=fr_un (t:=8) (i:=0) (i0:=9) (v:=iv ((k:Nat):Int)) h hcl hn rfl (by decide) (by decide) rfl;exact mx_move (ch_ev e1)
    ·exact x0b0
    ·have e1:=fr_un (t:=8) (i:=2) (i0:=9) (v:=iv ((k:Nat):Int)) h hcl hn rfl (by decide) (by decide) rfl;exact mx_move (ch_ev e1)
    ·have e1:=fN 1 39 h hw;have e40:=fN 2 40 h hw;have hnk:=HNK.out;have hkn:=HKN.out;go_simp
    ·exact x0b0
    ·have e1:=fr_un (t:=8) (i:=5) (i0:=9) (v:=iv ((k:Nat):Int)) h hcl hn rfl (by decide) (by decide) rfl;exact mx_move (ch_ev e1)
    ·have e1:=fN 4 42 h hw;have e43:=fN 5 43 h hw;exact x2m3
    ·have e3:=fN 3 41 h hw;have e44:=fN 6 44 h hw;have hd:¬maskB [false,false,false,false,false,false,false,true,false,false] done 7=true:=by unfold maskB;rw[hn];simp
     rw[rpJ,if_neg hd]at hJ;obtain rfl:wq=wo.drew:=hJ;refine wp_copy rfl (.tmp 41) (.tmp 44) 22 22 rfl 5 Tryz.underlying22 (by kernel_rfl) _ _ _ _ _ _ (ch_ev e3) (ch_ev e44) g k (filled x k n) 5 HF.out (List.replicate m (bv x)) (by rw[List.length_replicate];exact HM.out) (fun _=>⟨rfl,_,rfl,fun j v hv=>?_⟩) (by rw[filled_len x HK.out,List.length_replicate];exact HMN.out) (fun v hv=>by rw[List.eq_of_mem_replicate hv];rfl) g wo ((Below.refl _ _).drew) nl ?_
     ·obtain⟨hj,rfl⟩:=List.getElem?_eq_some_iff.1 hv;rw[List.length_replicate]at hj;have e1:=filled_at x (n:=n) (show j<k by have:=HMK1.out;omega);exact x0wu
     intro w' hg' hb';rw[filled_more x HMN.out]at hg';exact⟨_,rfl,by rw[rpJ,if_pos (by simp)];exact⟨by simp[goInt],hg',hb'⟩⟩
    ·have e1:=fN 0 38 h hw;have e45:=fr_cv (i:=7) (t:=45) h (hw 7 (by decide)) rfl rfl;have hd:maskB [false,false,false,false,false,false,false,true,false,false] done 7=true:=by unfold maskB;rw[hw 7 (by decide)];rfl
     rw[rpJ,if_pos hd]at hJ;rw[hJ.1]at e45;have hi:=HI.out;go_simp
    ·have e1:=fN 8 46 h hw;exact mx_assign (ch_ev e1)
   intro d cv w1 hall hJ;rw[rpJ,if_pos (hall 7 rfl (by decide))]at hJ;exact x6lk
  obtain rfl:k=n:=by omega
  have dk:decide ((k:Int)<(k:Int))=false:=by simp
  go_wp2_with fail;go_ret;have:=HF.out;refine⟨some ⟨g,0,none⟩,k,by simp,?_,hgg▸HB.out⟩;have ho:=own_filled HF.out (base:=g) nl (by omega);rw[hgg];simpa using ho
theorem x433(h:Y:=by
 exact⟨B,d,by rw[<-HZ.out];rfl,by rw[<-HZ.out];exact HBE.out▸HO.out,HBE.out▸HB.out⟩):Y:=h
theorem x7zz(h:Y:=by
 go_wp2_with fail;go_ret2;exact⟨none,0,by rw[<-HZ.out];rfl,by rw[<-HZ.out];exact Own.nil_ _ _ _ _,HBE.out▸HB.out⟩):Y:=h
theorem mid_drop(h:Bts w A l)(c k:Nat)(hc:l.length<=c):Bts w (if c=k then A else Option.map (fun x=>x.add k) A) (l.drop k):=by
 by_cases e:k<l.length
 ·obtain⟨b,o,rfl,hlt,_⟩:=h 0 (by omega);rw[if_neg (by omega)];have e1:Option.map (fun x:Addr=>x.add k) (some ⟨b,o,none⟩)=some ⟨b,o+k,none⟩:=by simp[Addr.add]
  rw[e1];intro i hi;rw[List.length_drop]at hi;obtain⟨b',o',e1,h1,h2⟩:=h (k+i) (by omega);injection e1 with e1;injection e1 with e4 e5;subst e4 e5;exact⟨b,o+k,rfl,h1,by rw[Nat.add_assoc,h2];simp⟩
 rw[List.drop_eq_nil_of_le (by omega)];exact Bts.nil _ _
theorem mid_at{ab ao:Nat}(h:Bts w (some ⟨ab,ao,none⟩) l)(k:Nat):Bts w (some ⟨ab,ao+k,none⟩) (l.drop k):=by
 intro i hi;rw[List.length_drop]at hi;obtain⟨b',o',e1,h1,h2⟩:=h (k+i) (by omega);injection e1 with e1;injection e1 with e4 e5;subst e4 e5;exact⟨ab,ao+k,rfl,h1,by rw[Nat.add_assoc,h2];simp⟩
theorem mid_take(h:Bts w A l)(k:Nat):Bts w A (l.take k):=by
 intro i hi;rw[List.length_take]at hi;obtain⟨b,o,rfl,h1,h2⟩:=h i (by omega);exact⟨b,o,rfl,h1,by simpa using h2⟩
def UnRet(w:World)(r:List UInt8×Int):Ending->World->Prop:=fun en w'=>
 ∃A c,en=.returned (.tuple #[.slice A r.1.length c,iv r.2])∧Own w' w.heap.size 5 1 A r.1.length c (r.1.map bv)∧Below w.heap.size w w'
theorem and127(x:UInt8):bits .and .u8 (x.toNat:Int) 127=((x.toNat%128:Nat):Int):=by
 have key:∀n:Fin 256,bits .and .u8 (n.val:Int) 127=((n.val%128:Nat):Int):=by decide+kernel
 exact key ⟨x.toNat,x.toNat_lt⟩
theorem unpack_calls(Ab:OA)(cb:Nat)(b:LU)(most:Int)(w:World)(hc:b.length<=cb)(hl:b.length<=4194304)(hm:I64 most)(hB:Bts w Ab b):
  Calls Tryz.prog 85 #[.slice Ab b.length cb,iv most] w (UnRet w (unpacked b most)):=by
 obtain⟨hm1,hm2⟩:=hm;have HB3:=qH hB;have HBB:Hid (Below w.heap.size w w):=qH (Below.refl _ _);have HO1:Hid (Own w w.heap.size 5 1 none 0 0 (([]:List UInt8).map bv)):=qH (Own.nil_ _ _ _ _);clear hB;go_enter Tryz.func85,Tryz.ntmps85;go_wp2_with fail;generalize hbase:w.heap.size=base at *
 have HBE:=qH hbase;clear hbase
 go_loopg [0,6] b.length (fun g y o wr=>∃(l out:LU) (A B:OA) (c d:Nat),y=.slice A l.length c∧o=.slice B out.length d∧l.length<=c∧l.length<=g∧Hid (unpackAt most l out=unpacked b most)∧((out.length:Int)<=most∨out=[])∧out.length+127*l.length<=127*b.length∧Hid (Bts w A l)∧Hid (Own wr base 5 1 B out.length d (out.map bv))∧Hid (Below base w wr))
 case atStart=>exact⟨b,[],Ab,none,cb,0,rfl,rfl,hc,nl,qH rfl,.inr rfl,by simp,HB3,HO1,HBB⟩
 case round=>
  clear HB3 HO1 HBB;rename World=>wo;obtain⟨l,out,A,B,c,d,rfl,rfl,hlc,hlg,HE,hom,hob,HBt,HO,HB⟩:=hrel;rcases l with _|⟨x,r⟩
  ·have hz:(out,(0:Int))=unpacked b most:=by rw[<-HE.out,unpackAt_nil]
   have HZ:=qH hz;simp only[List.length_nil,Int.ofNat_eq_natCast,Int.natCast_zero]at *
   clear hz;go_wp2_with fail;go_ret2;exact x433
  simp only[List.length_cons]at *
  have HBW:Hid (∀w1,Below base w w1->Bts w1 A (x::r)):=qH (fun w1 h=>HBt.out.stays (HBE.out▸h));obtain⟨ab,ao,rfl,hab,hx⟩:=HBW.out wo HB.out 0 (by simp);simp only[Nat.add_zero,List.getElem_cons_zero]at hx;have hxl:=x.toNat_lt;obtain⟨n,hn⟩:∃n,n=x.toNat%128:=⟨_,rfl⟩;have hand:bits .and .u8 (x.toNat:Int) 127=(n:Int):=by rw[and127,hn]
  have hn1:n<128:=by omega
  have HN:=qH hn;clear hn;have dl:decide ((0:Int)<((r.length+1:Nat):Int))=true:=by simp<;>omega
  have hw1:IntKind.i64.wrap (most-(out.length:Int))=most-(out.length:Int):=IntWalk.i64_in _ (by have:(out.length:Int)<=most∨(out.length:Int)=0:=(hom.imp id (fun h=>by rw[h];rfl));omega);have hw1:IntKind.i64.wrap (1+(n:Int))=1+(n:Int):=IntWalk.i64_in _ (by omega);have HOM:=qH hom;clear hom;by_cases n1:n=0
  ·subst n1;have hz:(([]:List UInt8),(3:Int))=unpacked b most:=by rw[<-HE.out,unpackAt_zero HN.out.symm]
   have HZ:=qH hz;clear hz HE;exact x7zz
  have dn:((n:Int)==0)=false:=by simp<;>omega
  have hn1:x.toNat%128≠0:=by rw[<-HN.out];exact n1
  by_cases h3:128<=x.toNat
  ·have hu:=unpackAt_run (most:=most) (r:=r) (out:=out) hn1 h3;rw[HE.out,<-HN.out]at hu;have d8:decide ((128:Int)<=(x.toNat:Int))=true:=by simp<;>omega
   rcases r with _|⟨y,r⟩
   ·have hz:(([]:List UInt8),(7:Int))=unpacked b most:=by rw[hu,if_pos (by simp)]
    simp only[List.length_nil,Nat.zero_add,Int.natCast_one]at *
    clear hu;have HZ:=qH hz;clear hz HE;exact x7zz
   simp only[List.length_cons]at *
   have d2:decide ((((r.length+1+1:Nat)):Int)<2)=false:=by simp<;>omega
   rw[if_neg (by omega)]at hu;by_cases hgt:most-(out.length:Int)<(n:Int)
   ·have dg:decide (most-(out.length:Int)<(n:Int))=true:=by simp<;>omega
    have hz:(([]:List UInt8),(1:Int))=unpacked b most:=by rw[hu,if_pos hgt]
    clear hu;have HZ:=qH hz;clear hz HE;exact x7zz
   have dg:decide (most-(out.length:Int)<(n:Int))=false:=by simp<;>omega
   rw[if_neg hgt,List.drop_succ_cons,List.drop_zero,List.headD_cons]at hu;have HU:=qH hu;have HY:Hid (Bts wo (some ⟨ab,ao+1,none⟩) [y]):=qH (fun i hi=>by
    have e1:i=0:=by simp at hi;omega
    subst e1;obtain⟨b',o',e1,h1,h2⟩:=HBW.out wo HB.out 1 (by simp);injection e1 with e1;injection e1 with e4 e5;subst e4 e5;exact⟨ab,ao+1,rfl,h1,by simpa using h2⟩)
   have HG:Hid (¬most-(out.length:Int)<(n:Int)):=qH hgt;have hcc:¬c=1:=by omega
   have j1:(2:Int)<=(c:Int):=by omega
   have hob1:out.length+n<=137438953472:=by omega
   clear hu hgt;go_wp2_with fail;refine(repeat_calls (some ⟨ab,ao+1,none⟩) (c-1) y n wo (by omega) (by omega) HY.out).mono ?_;rintro e w1 ⟨A1,c1,rfl,ho1,hb1⟩;rw[List.length_replicate]at ho1;have hle:base<=w1.heap.size:=Nat.le_trans (Nat.le_trans (Nat.le_of_eq HBE.out.symm) HB.out.size) hb1.size;have hs1:=ho1.src;have ho2:=HO.out.below hb1;have hls:((List.replicate n y).map bv).length=n*1:=by simp
   have HB1:Hid (Below base w w1):=qH (HB.out.trans (hb1.mono (Nat.le_trans (Nat.le_of_eq HBE.out.symm) HB.out.size)));simp only[List.length_replicate];go_wp2_with (at_builtin;go_must (refine wpList_app w1 rfl _ _ 22 rfl elBytes base B out.length d (out.map bv) rfl ho2 A1 n c1 ((List.replicate n y).map bv) rfl hs1 hls (bv_one _) hob1 hle ?_;intro A' c' w2 hown hgr hbel hor));all_goals (
    have HO1:=qH hown;have HB1:Hid (Below base w w2):=qH (HB1.out.trans hbel);have HM1:Hid (((out++List.replicate n y).length:Int)<=most∨out++List.replicate n y=[]):=qH (.inl (by have:=HG.out;simp;omega));clear hown hgr hbel hor hs1 ho2 ho1 hb1 hls hle hob1
    go_roundg r.length
    case rel=>first
     |exact⟨r,out++List.replicate n y,some ⟨ab,ao+2,none⟩,A',c-2,c',rfl,by simp,by omega,by omega,qH HU.out.symm,HM1.out,by simp;omega,qH (mid_at HBt.out 2),qH (by simpa using HO1.out),HB1⟩
     |exact⟨r,out++List.replicate n y,some ⟨ab,ao,none⟩,A',0,c',rfl,by simp,by omega,by omega,qH HU.out.symm,HM1.out,by simp;omega,qH (by rw[List.eq_nil_of_length_eq_zero (by omega:r.length=0)];exact Bts.nil _ _),qH (by simpa using HO1.out),HB1⟩
    case measure=>omega)
  have hu:=unpackAt_plain (most:=most) (r:=r) (out:=out) hn1 h3;rw[HE.out,<-HN.out]at hu;have d8:decide ((128:Int)<=(x.toNat:Int))=false:=by simp<;>omega
  by_cases h1:r.length<n
  ·have hz:(([]:List UInt8),(7:Int))=unpacked b most:=by rw[hu,if_pos h1]
   have d2:decide (((r.length+1:Nat):Int)<1+(n:Int))=true:=by simp<;>omega
   clear hu;have HZ:=qH hz;clear hz HE;exact x7zz
  have d2:decide (((r.length+1:Nat):Int)<1+(n:Int))=false:=by simp<;>omega
  rw[if_neg h1]at hu;by_cases hgt:most-(out.length:Int)<(n:Int)
  ·have dg:decide (most-(out.length:Int)<(n:Int))=true:=by simp<;>omega
   have hz:(([]:List UInt8),(1:Int))=unpacked b most:=by rw[hu,if_pos hgt]
   have HZ:=qH hz;clear hu hz HE;exact x7zz
  have dg:decide (most-(out.length:Int)<(n:Int))=false:=by simp<;>omega
  rw[if_neg hgt]at hu;have HU:=qH hu;have HG:Hid (¬most-(out.length:Int)<(n:Int)):=qH hgt;have hcc:¬c=1:=by omega
  have j1:(1:Int)+(n:Int)<=(c:Int):=by omega
  have j1:(1:Int)<=1+(n:Int):=by omega
  have hob1:out.length+(1+n-1)<=137438953472:=by omega
  have hs1:Src wo (some ⟨ab,ao+1,none⟩) ((r.take n).map bv):=(mid_take (mid_at (HBW.out wo HB.out) 1) n).src;have hls:((r.take n).map bv).length=(1+n-1)*1:=by simp;omega
  have hle:base<=wo.heap.size:=Nat.le_trans (Nat.le_of_eq HBE.out.symm) HB.out.size;have ho1:=HO.out;clear hu hgt;go_wp2_with (at_builtin;go_must (refine wpList_app wo rfl _ _ 22 rfl elBytes base B out.length d (out.map bv) rfl ho1 (some ⟨ab,ao+1,none⟩) (1+n-1) (c-1) ((r.take n).map bv) rfl hs1 hls (bv_one _) hob1 hle ?_;intro A' c' w2 hown hgr hbel hor));all_goals (
   have e1n:out.length+n=(out++r.take n).length:=by simp;omega
   rw[show out.length+(1+n-1)=(out++r.take n).length by simp;omega]at hown;have HO1:=qH hown;have HB1:Hid (Below base w w2):=qH (HB.out.trans hbel);have HM1:Hid (((out++r.take n).length:Int)<=most∨out++r.take n=[]):=qH (.inl (by have:=HG.out;simp;omega));have HE1:Hid (r.length+1-(1+n)=(r.drop n).length):=qH (by simp;omega);have HE2:Hid (out.length+n=(out++r.take n).length):=qH e1n;clear hown hgr hbel hor hs1 ho1 hls hle hob1 e1n
   go_roundg r.length
   case rel=>first
    |(have h9:¬c=1+n:=by assumption
      exact⟨r.drop n,out++r.take n,some ⟨ab,ao+(1+n),none⟩,A',c-(1+n),c',by rw[HE1.out],by rw[HE2.out],by simp;omega,by simp,qH HU.out.symm,HM1.out,by simp;omega,qH (by have:=mid_at HBt.out (1+n);rwa [show (x::r).drop (1+n)=r.drop n by rw[Nat.add_comm,List.drop_succ_cons]]at this),qH (by simpa using HO1.out),HB1⟩)
    |exact⟨r.drop n,out++r.take n,some ⟨ab,ao,none⟩,A',0,c',by rw[HE1.out],by rw[HE2.out],by simp;omega,by simp,qH HU.out.symm,HM1.out,by simp;omega,qH (by rw[List.eq_nil_of_length_eq_zero (show (r.drop n).length=0 by simp;omega)];exact Bts.nil _ _),qH (by simpa using HO1.out),HB1⟩
   case measure=>omega)
theorem recA_ver(r:Rec)(ha:a<=1):(recA r)[5+a*3]?=some (iv (r.at_ (a:Int)).ver):=by
 match a,ha with
 |0,_=>simp[recA,Rec.at_]
 |1,_=>simp[recA,Rec.at_]
theorem recA_size_(r:Rec)(ha:a<=1):(recA r)[5+a*3+1]?=some (iv (r.at_ (a:Int)).size):=by
 match a,ha with
 |0,_=>simp[recA,Rec.at_]
 |1,_=>simp[recA,Rec.at_]
theorem devSlotA{L:DLoc}(h:DevIn w d L)(ha:a<=1):∃A c,(devA d L)[a]?=some (.slice A (d.slot (a:Int)).length c)∧(d.slot (a:Int)).length<=c∧Bts w A (d.slot (a:Int)):=by
 match a,ha with
 |0,_=>exact⟨L.a0,L.c0,rfl,h.k0,h.b0⟩
 |1,_=>exact⟨L.a1,L.c1,rfl,h.k1,h.b1⟩
theorem slot_len(h0:d.s0.length=64)(h1:d.s1.length=64)(k:Int):(d.slot k).length=64:=by unfold Dev.slot;split<;>assumption
theorem at_sizes{r:Rec}(h:recCheck r=0)(k:Int):0<=(r.at_ k).size∧(r.at_ k).size<=64∧0<=(r.at_ k).ver:=by
 obtain⟨_,h1,h3,_⟩:=recCheck_parts h;have key:∀x:Inf,infCheck x=0->0<=x.size∧x.size<=64∧0<=x.ver:=fun x hx=>by
  unfold infCheck at hx;by_cases hh:InfRange x
  ·unfold InfRange at hh;omega
  rw[if_neg hh]at hx;exact absurd hx (by decide)
 unfold Rec.at_;split
 ·exact key _ h1
 exact key _ h3
theorem x7za(h:Y:=by
 exact⟨A,c,by rw[HLEN.out];rfl,by rw[HLEN.out];exact hyc,HB.out.stays HBE.out,HBE.out⟩):Y:=h
def ImRet(w:World)(l:LU):Ending->World->Prop:=fun en w'=>
 ∃A c,en=.returned (.slice A l.length c)∧l.length<=c∧Bts w' A l∧Below w.heap.size w w'
theorem pre_slice{c:Nat}{z:Int}(y:Nat)(h1:z=(y:Int))(hc:n<=c)(hy:y<=n)(h0:0<n)(hA:∃b o,A=some ⟨b,o,none⟩)(W:World):(Instr.slice 22 (.slice A n c) none (some (iv z)) none).run Tryz.prog W=.ok (.slice A y c) W:=by
 obtain⟨b,o,rfl⟩:=hA;subst h1;have q1:(y:Int)<=(c:Int):=by omega
 have q1:¬c=0:=by omega
 go_simp
theorem image_calls(d:Dev)(L:DLoc)(k:Int)(r:Rec)(w:World)(hk:k=0∨k=1)(h:DevIn w d L)(hl:(d.slot k).length=64)(h0:0<=(r.at_ k).size)(h1:(r.at_ k).size<=64):
  Calls Tryz.prog 38 #[.agg (devA d L),iv k,.agg (recA r)] w (ImRet w (d.image k r)):=by
 obtain⟨a,rfl,ha1⟩:∃a:Nat,k=(a:Int)∧a<=1:=⟨k.toNat,by omega,by omega⟩;obtain⟨y,hy⟩:∃y:Nat,(r.at_ (a:Int)).size=(y:Int):=⟨(r.at_ (a:Int)).size.toNat,by omega⟩;have himg:d.image (a:Int) r=(d.slot (a:Int)).take y:=by unfold Dev.image;rw[hy];rfl
 have hlen:((d.slot (a:Int)).take y).length=y:=by rw[List.length_take];omega
 rw[himg];obtain⟨A,c,p1,p2,p3⟩:=devSlotA h ha1;rw[hl]at p1 p2;obtain⟨b,o,hA,-⟩:=p3 0 (by omega);have HSL:=qH (pre_slice (A:=A) (n:=64) (c:=c) y rfl p2 (by omega) (by decide) ⟨b,o,hA⟩);have HB:=qH (mid_take p3 y);have HLEN:=qH hlen;have hyc:y<=c:=by omega
 have pv:=recA_size_ r ha1;rw[hy]at pv;have HBA:Hid (Below w.heap.size w ((w.alloc (.cells (devA d L) 37)).alloc (.cells (recA r) 28))):=qH ((bL _).alloc (by simp) _);have HP1:=qH p1;have HPV:=qH pv;clear h hy himg hlen p1 p3 hA pv h0 h1 hl hk;go_enter Tryz.func38,Tryz.ntmps38;go_wp2_with fail;have r1:rowOf ((w.alloc (.cells (devA d L) 37)).alloc (.cells (recA r) 28)) w.heap.size=devA d L∧frOf ((w.alloc (.cells (devA d L) 37)).alloc (.cells (recA r) 28)) w.heap.size=(0,0):=by go_simp
 have r2:rowOf ((w.alloc (.cells (devA d L) 37)).alloc (.cells (recA r) 28)) (w.heap.size+1)=recA r∧frOf ((w.alloc (.cells (devA d L) 37)).alloc (.cells (recA r) 28)) (w.heap.size+1)=(0,0):=by go_simp
 obtain⟨w1,hw1⟩:=eX (((w.alloc (.cells (devA d L) 37)).alloc (.cells (recA r) 28)));rw[hw1]at HBA r1 r2⊢;have a1:=keep1 (bW w1) r1.1 (by go_simp) r1.2;have r3:=keep1 (bW w1) r2.1 (by simp[recA]) r2.2;clear hw1 r1 r2;have p1:=HP1.out;have pv:=HPV.out;have k1:(0:Int)<=(a:Int):=by omega
 have k1:(a:Int)<2:=by omega
 have k1:¬(2:Int)<=(a:Int):=by omega
 have hsl:=HSL.out;go_quiet (fail)
 go_wp2_with fail;go_ret;have HBE:Hid (Below w.heap.size w (w1.drewN nq)):=qH (Below.drewN' HBA.out nq);exact x7za
def PaRet(w:World)(p:Pat)(n:Int):Ending->World->Prop:=fun en w'=>
 ∃A c,en=.returned (.tuple #[.agg (patA p.from_ p.to_ p.old p.new_ p.size A p.ops.length c),iv n])∧Fresh w.heap.size w' (fun v=>PatIn v p A c)∧Below w.heap.size w w'
theorem patIn_zero(w:World):PatIn w Pat.zero none 0:=⟨nl,by simp[Pat.zero],Sps.nil _ _,⟨by decide,by decide⟩,⟨by decide,by decide⟩,⟨by decide,by decide⟩,⟨by decide,by decide⟩,⟨by decide,by decide⟩⟩
theorem patCheck_calls(A:OA)(c:Nat)(f t o n sz:Int)(l:List Stp)(w:World)(hl:l.length<=3518437208780)(hs:Sps w A l):
  Calls Tryz.prog 76 #[.agg (patA f t o n sz A l.length c)] w (RetB w (iv (patCheck ⟨f,t,o,n,sz,l⟩))):=patCheckA_calls A c f t o n sz l w hl hs
theorem x2fq(h:Y:=by
 have:=HY.out;unfold axOf at this;by_cases h3:deltaCheck l old.length sz≠0
 ·rw[if_pos h3]at this;injection this with h;rw[<-h];simp
 rw[if_neg h3]at this;injection this with h;have hd:=deltaCheck_ok.1 (Decidable.not_not.1 h3);have:=applied_len (old:=old) (l:=l) (fun o ho=>(hd.each o ho).2);have h4:=hd.sum;have h8:=hd.s1;rw[<-h];omega):Y:=h
theorem x39d(h:Y:=by
 have hz:r=([],1):=by rw[<-HR.out];unfold patDo;rw[HCK.out,if_neg (by simp),if_pos h1]
 subst hz;have q:(64:Int)<(old.length:Int):=by omega
 go_wp2_with fail;go_ret2;exact⟨none,0,rfl,Bts.nil _ _,nl,HB1.out⟩):Y:=h
theorem x3m9(h:Y:=by
 rw[<-HR.out];unfold patDo;have:=HY.out;unfold axOf at this;rw[HCK.out,if_neg (by simp),if_neg h1,HS.out,if_neg (by simp)];by_cases h4:deltaCheck l old.length sz≠0
 ·rw[if_pos h4]at this⊢;injection this with _ h;rw[h]
 rw[if_neg h4]at this;injection this with _ h;exact absurd h.symm h3):Y:=h
theorem x3yb(h:Y:=by
 go_wp2_with fail;go_ret2;exact⟨none,0,rfl,Bts.nil _ _,nl,Below.drewN' HB2.out _⟩):Y:=h
theorem x6jp(h:Y:=by
 go_wp2_with fail;go_ret2;exact⟨A1,c1,rfl,HY1.out.drewN _,hc1,Below.drewN' HB2.out _⟩):Y:=h
theorem x7k2(h:Y:=by
 go_wp2_with fail;go_ret2;exact⟨none,0,rfl,Bts.nil _ _,nl,Below.drewN' HB1.out _⟩):Y:=h
theorem x7ua(h:Y:=by
 have hz:r=([],ck):=by rw[<-HR.out];unfold patDo;rw[HCK.out,if_pos h5]
 subst hz;have q:(ck !=0)=true:=by simp[h5]
 clear h5;go_wp2_with fail;go_ret2;exact⟨none,0,rfl,Bts.nil _ _,nl,HB1.out⟩):Y:=h
theorem x93b(h:Y:=by
 rw[<-HR.out];unfold patDo;rw[HCK.out,if_neg (by simp),if_neg h1,HS.out,if_neg (by simp),hyy.1,if_neg (by simp),<-hyy.2]):Y:=h
theorem x9b4(h:Y:=by
 have:=HY.out;unfold axOf at this;by_cases h4:deltaCheck l old.length sz≠0
 ·rw[if_pos h4]at this;injection this with _ h;exact absurd h h4
 rw[if_neg h4]at this;injection this with h _;exact⟨Decidable.not_not.1 h4,h.symm⟩):Y:=h
theorem patDo_calls(B A:OA)(d c:Nat)(p:Pat)(old:LU)(w:World)(hc:old.length<=c)(ho:old.length<=140737488351232)(hA:Bts w A old)(hp:PatIn w p B d):
  Calls Tryz.prog 37 #[.agg (patA p.from_ p.to_ p.old p.new_ p.size B p.ops.length d),.slice A old.length c] w (ByRet2 w (patDo (sumOn 1) p old).1 (patDo (sumOn 1) p old).2):=by
 obtain⟨f,t,o,n,sz,l⟩:=p;obtain⟨hcap,hlen,hops,-,-,-,-,-⟩:=hp;dsimp only at *
 have hba:=(bW w).alloc nl (.cells (patA f t o n sz B l.length d) 35);have K1:=qH (fun w h=>patCheck_calls B d f t o n sz l w hlen h);have K2:=qH (fun w h=>sumOf_calls A c old w (by omega) h);have HA:=qH hA;have HO:=qH hops;have HBA:=qH hba;clear hA hops hba;obtain⟨r,hr⟩:=eX (patDo (sumOn 1) ⟨f,t,o,n,sz,l⟩ old);rw[hr];have HR:=qH hr;clear hr;obtain⟨ck,hck⟩:=eX (patCheck ⟨f,t,o,n,sz,l⟩);rw[hck]at K1;have HCK:=qH hck;clear hck;go_enter Tryz.func37,Tryz.ntmps37;go_wp2_with fail;refine(K1.out _ (HO.out.stays HBA.out)).mono ?_;rintro e w1 ⟨rfl,hb1⟩;have a1:=kp (w.heap.size) (patA f t o n sz B l.length d) hb1;have HB1:=bT HBA hb1;clear hb1;by_cases h5:ck≠0
 ·exact x7ua
 have h5:=Decidable.not_not.1 h5;subst h5;by_cases h1:64<old.length
 ·exact x39d
 have q1:¬(64:Int)<(old.length:Int):=by omega
 obtain⟨s,hs⟩:=eX (sumOn 1 old);rw[hs]at K2;have HS:=qH hs;clear hs;have HK1:=qH (fun n=>K2.out (w1.drewN n) ((HA.out.stays HB1.out).drewN n));by_cases h2:s≠o
 ·have hz:r=([],6):=by rw[<-HR.out];unfold patDo;rw[HCK.out,if_neg (by simp),if_neg h1,HS.out,if_pos h2]
  subst hz;have q:(s !=o)=true:=by simp[h2]
  clear h2;go_wp2_with fail;go_quiet ((go_at_call 20;with_reducible exact quietRet (HK1.out _)))
  exact x7k2
 have h2:=Decidable.not_not.1 h2;subst h2;have q2:(s !=s)=false:=by simp
 obtain⟨y,e1,hy⟩:∃y e0,axOf old l sz=(y,e0):=⟨_,_,rfl⟩;have K3:=qH (fun w h1 h2=>applyAny_calls A c old B d l sz w hc ho h1 hlen h2);rw[hy]at K3;dsimp only at K3;have HY:=qH hy;clear hy;have HK2:=qH (fun n=>K3.out (w1.drewN n) ((HA.out.stays HB1.out).drewN n) ((HO.out.stays HB1.out).stays (below_drewN _ _)));have hyl:y.length<=140737488351232:=by
  exact x2fq
 go_wp2_with fail;go_quiet ((go_at_call 20;with_reducible exact quietRet (HK1.out _)))
 go_wp2_with fail;refine(HK2.out nq).mono ?_;rintro e w2 ⟨A1,c1,rfl,hy1,hc1,hb1⟩;have b1:=kp (w.heap.size) (patA f t s n sz B l.length d) hb1;have HB2:Hid (Below w.heap.size w w2):=qH ((Below.drewN' HB1.out nq).trans (hb1.mono (by have:=HB1.out.size;simp;omega)));have HY1:=qH hy1;clear hb1 hy1;by_cases h3:e1≠0
 ·have hz:r=([],e1):=by
   exact x3m9
  subst hz;have q:(e1 !=0)=true:=by simp[h3]
  clear h3 HY;go_wp2_with fail;go_ret2;exact⟨none,0,rfl,Bts.nil _ _,nl,HB2.out⟩
 have h3:=Decidable.not_not.1 h3;subst h3;have hyy:deltaCheck l old.length sz=0∧y=applied old l:=by
  exact x9b4
 have K4:=qH (fun m=>sumOf_calls A1 c1 y (w2.drewN m) (by omega) (HY1.out.drewN m));have hrr:r=if sumOn 1 y≠n then ([],6)else (y,0):=by
  exact x93b
 obtain⟨s1,hs1⟩:=eX (sumOn 1 y);rw[hs1]at K4 hrr;have HRR:=qH hrr;clear hrr hs1 hyy HY;by_cases h4:s1≠n
 ·have hz:r=([],6):=by rw[HRR.out,if_pos h4]
  subst hz;have q:(s1 !=n)=true:=by simp[h4]
  clear h4;go_wp2_with fail;go_quiet ((go_at_call 20;with_reducible exact quietRet (K4.out _)))
  exact x3yb
 have h4:=Decidable.not_not.1 h4;subst h4;have hz:r=(y,0):=by rw[HRR.out,if_neg (by simp)]
 subst hz;have q:(s1 !=s1)=false:=by simp
 go_wp2_with fail;go_quiet ((go_at_call 20;with_reducible exact quietRet (K4.out _)))
 exact x6jp
theorem x3dq(h:Y:=by
 go_wp2_with fail;go_meet
 case rel=>exact⟨rfl,rfl⟩):Y:=h
section
variable {w0 w:World} {ci cd cm e0 e1 a0 a1:Nat} {img b:LU} {n:Int} {dn:Nat->Bool} {cv:Nat->Value}
end
theorem grown_of(hb:Below base w w')(hk:∀k,k<w.heap.size->A.map (·.block)≠some k->w'.heap[k]?=w.heap[k]?):w.grownBy w' (A.map (·.block)):=
 ⟨hb.os,hb.tape,hb.output,hb.size,fun k h1 h2=>hk k h1 (fun e=>h2 e.symm)⟩
theorem CRow.push2{B:Nat}{l:List Stp}{ds:List (Option Addr×Nat)}{A':OA}{c c':Nat}{o:Stp}{d:Option Addr×Nat}(h:CRow w base l ds A c)
  (h1:Own w' base 121 3 A' (l.length+1) c' (opCells l ds++opCell o d)) (hb:Below B w w') (hk:∀k,k<w.heap.size->A.map (·.block)≠some k->w'.heap[k]?=w.heap[k]?) (h3:A'.map (·.block)=A.map (·.block)∨∀k,A'.map (·.block)=some k->w.heap.size<=k)
  (hd:Bts w d.1 o.data) (hd2:o.data.length<=d.2) (hd3:∀k,d.1.map (·.block)=some k->A.map (·.block)≠some k∧k<w.heap.size):
  CRow w' base (l++[o]) (ds++[d]) A' c':=by
 have h2:=grown_of hb hk;have hlen:=h.len;refine⟨by simp[hlen],?_,?_,?_⟩
 ·rw[opCells_snoc _ _ _ _ hlen,List.length_append];exact h1
 ·exact x5hd
 intro i d' hd' k hk;have key:A.map (·.block)≠some k∧k<w.heap.size:=by
  exact x2jf
 refine⟨?_,Nat.lt_of_lt_of_le key.2 h2.size⟩;rcases h3 with h3|h3
 ·rw[h3];exact key.1
 intro e;have:=h3 k e;omega
end Go.Proofs.YtefkfglkpebbmacGreat
