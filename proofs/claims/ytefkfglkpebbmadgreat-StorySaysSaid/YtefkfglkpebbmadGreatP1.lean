/- Walks of functions, and plain words. No conditions. -/
import Derived.Test.YtefkfglkpebbmadGreatPE1
import Derived.Test.YtefkfglkpebbmadGreatPA
import Derived.ChangeKeysEq
import Derived.BigRegion
set_option linter.unusedVariables false
set_option linter.unusedSimpArgs false
set_option maxRecDepth 100000
set_option maxHeartbeats 40000000
namespace Go.Proofs.YtefkfglkpebbmadGreat
open Go.RowKit
variable {Y:Prop}
variable {w w':World} {A B:OA} {g:Nat} {l:List (List UInt8)} {ds:List (Option Addr×Nat)}
def infA(x:Inf):Array Value:=#[iv x.ver,iv x.size,iv x.sum]
@[go_sem] theorem infA_size(x:Inf):(infA x).size=3:=by simp[infA]
@[go_sem] theorem infA_one(x:Inf):allOne (infA x)=true:=by simp[infA,allOne,Value.oneCell']
@[go_sem] theorem infA_at0(x:Inf)(h:0<(infA x).size):(infA x)[0]'h=iv x.ver:=by simp[infA]
@[go_sem] theorem infA_at1(x:Inf)(h:1<(infA x).size):(infA x)[1]'h=iv x.size:=by simp[infA]
@[go_sem] theorem infA_at2(x:Inf)(h:2<(infA x).size):(infA x)[2]'h=iv x.sum:=by simp[infA]
def recA(r:Rec):Array Value:=#[iv r.gen,iv r.active,.bool r.trying,iv r.tries,iv r.floor,iv r.a.ver,iv r.a.size,iv r.a.sum,iv r.b.ver,iv r.b.size,iv r.b.sum]
@[go_sem] theorem recA_size(r:Rec):(recA r).size=11:=by simp[recA]
@[go_sem] theorem recA_one(r:Rec):allOne (recA r)=true:=by simp[recA,allOne,Value.oneCell']
@[go_sem] theorem recA_at0(r:Rec)(h:0<(recA r).size):(recA r)[0]'h=iv r.gen:=by simp[recA]
@[go_sem] theorem recA_at1(r:Rec)(h:1<(recA r).size):(recA r)[1]'h=iv r.active:=by simp[recA]
@[go_sem] theorem recA_at2(r:Rec)(h:2<(recA r).size):(recA r)[2]'h=.bool r.trying:=by simp[recA]
@[go_sem] theorem recA_at3(r:Rec)(h:3<(recA r).size):(recA r)[3]'h=iv r.tries:=by simp[recA]
@[go_sem] theorem recA_at4(r:Rec)(h:4<(recA r).size):(recA r)[4]'h=iv r.floor:=by simp[recA]
@[go_sem] theorem recA_at5(r:Rec)(h:5<(recA r).size):(recA r)[5]'h=iv r.a.ver:=by simp[recA]
@[go_sem] theorem recA_at8(r:Rec)(h:8<(recA r).size):(recA r)[8]'h=iv r.b.ver:=by simp[recA]
@[go_sem] theorem recA_all(r:Rec):(recA r).extract 0 11=recA r:=by simp[recA]
def copA(c:Cop):Array Value:=#[.bool c.ok,iv c.r.gen,iv c.r.active,.bool c.r.trying,iv c.r.tries,iv c.r.floor,iv c.r.a.ver,iv c.r.a.size,iv c.r.a.sum,iv c.r.b.ver,iv c.r.b.size,iv c.r.b.sum]
@[go_sem] theorem copA_size(c:Cop):(copA c).size=12:=by simp[copA]
@[go_sem] theorem copA_one(c:Cop):allOne (copA c)=true:=by simp[copA,allOne,Value.oneCell']
@[go_sem] theorem copA_at0(c:Cop)(h:0<(copA c).size):(copA c)[0]'h=.bool c.ok:=by simp[copA]
@[go_sem] theorem copA_all(c:Cop):(copA c).extract 0 12=copA c:=by simp[copA]
def copsA(c d:Cop):Array Value:=#[.bool c.ok,iv c.r.gen,iv c.r.active,.bool c.r.trying,iv c.r.tries,iv c.r.floor,iv c.r.a.ver,iv c.r.a.size,iv c.r.a.sum,iv c.r.b.ver,iv c.r.b.size,iv c.r.b.sum,.bool d.ok,iv d.r.gen,iv d.r.active,.bool d.r.trying,iv d.r.tries,iv d.r.floor,iv d.r.a.ver,iv d.r.a.size,iv d.r.a.sum,iv d.r.b.ver,iv d.r.b.size,iv d.r.b.sum]
@[go_sem] theorem copsA_size(c d:Cop):(copsA c d).size=24:=by simp[copsA]
@[go_sem] theorem copsA_one(c d:Cop):allOne (copsA c d)=true:=by simp[copsA,allOne,Value.oneCell']
@[go_sem] theorem copsA_get0(c d:Cop):(copsA c d)[0]?=some (.bool c.ok):=by simp[copsA]
@[go_sem] theorem copsA_get12(c d:Cop):(copsA c d)[12]?=some (.bool d.ok):=by simp[copsA]
@[go_sem] theorem copsA_at0(c d:Cop)(h:0<(copsA c d).size):(copsA c d)[0]'h=.bool c.ok:=by simp[copsA]
@[go_sem] theorem copsA_at1(c d:Cop)(h:1<(copsA c d).size):(copsA c d)[1]'h=iv c.r.gen:=by simp[copsA]
@[go_sem] theorem copsA_at12(c d:Cop)(h:12<(copsA c d).size):(copsA c d)[12]'h=.bool d.ok:=by simp[copsA]
@[go_sem] theorem copsA_at13(c d:Cop)(h:13<(copsA c d).size):(copsA c d)[13]'h=iv d.r.gen:=by simp[copsA]
@[go_sem] theorem copsA_all(c d:Cop):(copsA c d).extract 0 24=copsA c d:=by simp[copsA]
@[go_sem] theorem recA_ex5_8(r:Rec):(recA r).extract 5 8=infA r.a:=by simp[recA,infA]
@[go_sem] theorem recA_ex8_11(r:Rec):(recA r).extract 8 11=infA r.b:=by simp[recA,infA]
@[go_sem] theorem copA_ex1_12(c:Cop):(copA c).extract 1 12=recA c.r:=by simp[copA,recA]
@[go_sem] theorem copsA_ex0_12(c d:Cop):(copsA c d).extract 0 12=copA c:=by simp[copsA,copA]
@[go_sem] theorem copsA_ex12_24(c d:Cop):(copsA c d).extract 12 24=copA d:=by simp[copsA,copA]
@[go_sem] theorem copsA_ex1_12(c d:Cop):(copsA c d).extract 1 12=recA c.r:=by simp[copsA,recA]
@[go_sem] theorem copsA_ex13_24(c d:Cop):(copsA c d).extract 13 24=recA d.r:=by simp[copsA,recA]
@[go_sem] theorem recA_set_gen(r:Rec)(v:Int):(recA r).setIfInBounds 0 (iv v)=recA {r with gen:=v}:=by simp[recA]
@[go_sem] theorem recA_set_trying(r:Rec)(v:Bool):(recA r).setIfInBounds 2 (.bool v)=recA {r with trying:=v}:=by simp[recA]
@[go_sem] theorem recA_set_tries(r:Rec)(v:Int):(recA r).setIfInBounds 3 (iv v)=recA {r with tries:=v}:=by simp[recA]
@[go_sem] theorem recA_splice_a(r:Rec)(x:Inf):splice (recA r) 5 (infA x)=recA {r with a:=x}:=by simp[splice,recA,infA]
@[go_sem] theorem copsA_splice_0(c d e:Cop):splice (copsA c d) 0 (copA e)=copsA e d:=by simp[splice,copsA,copA]
@[go_sem] theorem copsA_splice_1(c d e:Cop):splice (copsA c d) 12 (copA e)=copsA c e:=by simp[splice,copsA,copA]
@[go_sem] theorem aggSzInf:aggSz Tryz.prog 26=3:=by kernel_rfl
@[go_sem] theorem aggSzRec:aggSz Tryz.prog 29=11:=by kernel_rfl
@[go_sem] theorem aggSzCop:aggSz Tryz.prog 31=12:=by kernel_rfl
@[go_sem] theorem aggSzCops:aggSz Tryz.prog 32=24:=by kernel_rfl
@[go_sem] theorem aggSzInfs:aggSz Tryz.prog 27=6:=by kernel_rfl
@[go_sem] theorem zero_rec:Value.agg #[iv 0,iv 0,.bool false,iv 0,iv 0,iv 0,iv 0,iv 0,iv 0,iv 0,iv 0]=Value.agg (recA Rec.zero):=by simp[recA,Rec.zero,Inf.zero]
@[go_sem] theorem zero_cop:Value.agg #[.bool false,iv 0,iv 0,.bool false,iv 0,iv 0,iv 0,iv 0,iv 0,iv 0,iv 0,iv 0]=Value.agg (copA Cop.zero):=by simp[copA,Cop.zero,Rec.zero,Inf.zero]
@[go_sem] theorem zero_cops:Value.agg #[.bool false,iv 0,iv 0,.bool false,iv 0,iv 0,iv 0,iv 0,iv 0,iv 0,iv 0,iv 0,.bool false,iv 0,iv 0,.bool false,iv 0,iv 0,iv 0,iv 0,iv 0,iv 0,iv 0,iv 0]=Value.agg (copsA Cop.zero Cop.zero):=by simp[copsA,Cop.zero,Rec.zero,Inf.zero]
@[go_sem] theorem zero_inf:Value.agg #[iv 0,iv 0,iv 0]=Value.agg (infA Inf.zero):=by simp[infA,Inf.zero]
def patA(f t o n s:Int)(A:OA)(k c:Nat):Array Value:=#[iv f,iv t,iv o,iv n,iv s,.slice A k c]
@[go_sem] theorem patA_size(f t o n s:Int)(A:OA)(k c:Nat):(patA f t o n s A k c).size=6:=by simp[patA]
@[go_sem] theorem patA_one(f t o n s:Int)(A:OA)(k c:Nat):allOne (patA f t o n s A k c)=true:=by simp[patA,allOne,Value.oneCell']
@[go_sem] theorem patA_at2(f t o n s:Int)(A:OA)(k c:Nat)(h:2<(patA f t o n s A k c).size):(patA f t o n s A k c)[2]'h=iv o:=by simp[patA]
@[go_sem] theorem patA_at3(f t o n s:Int)(A:OA)(k c:Nat)(h:3<(patA f t o n s A k c).size):(patA f t o n s A k c)[3]'h=iv n:=by simp[patA]
@[go_sem] theorem patA_at4(f t o n s:Int)(A:OA)(k c:Nat)(h:4<(patA f t o n s A k c).size):(patA f t o n s A k c)[4]'h=iv s:=by simp[patA]
@[go_sem] theorem patA_at5(f t o n s:Int)(A:OA)(k c:Nat)(h:5<(patA f t o n s A k c).size):(patA f t o n s A k c)[5]'h=.slice A k c:=by simp[patA]
@[go_sem] theorem patA_all(f t o n s:Int)(A:OA)(k c:Nat):(patA f t o n s A k c).extract 0 6=patA f t o n s A k c:=by simp[patA]
@[go_sem] theorem pat_lit(f t o n s:Int)(A:OA)(k c:Nat):Value.agg #[iv f,iv t,iv o,iv n,iv s,.slice A k c]=Value.agg (patA f t o n s A k c):=by simp[patA]
@[go_sem] theorem patA_set5(f t o n s:Int)(A:OA)(k c:Nat)(B:OA)(m d:Nat):(patA f t o n s A k c).setIfInBounds 5 (.slice B m d)=patA f t o n s B m d:=by simp[patA]
@[go_sem] theorem aggSzPat:aggSz Tryz.prog 36=6:=by kernel_rfl
structure DLoc where
 a0:Option Addr
 c0:Nat
 a1:Option Addr
 c1:Nat
 ag:Option Addr
 cg:Nat
 aj:Option Addr
 cj:Nat
def DLoc.zero:DLoc:=⟨none,0,none,0,none,0,none,0⟩
def slotsA(a:OA)(k c:Nat)(b:OA)(m e:Nat):Array Value:=#[.slice a k c,.slice b m e]
@[go_sem] theorem slotsA_size(a:OA)(k c:Nat)(b:OA)(m e:Nat):(slotsA a k c b m e).size=2:=by simp[slotsA]
@[go_sem] theorem slotsA_one(a:OA)(k c:Nat)(b:OA)(m e:Nat):allOne (slotsA a k c b m e)=true:=by simp[slotsA,allOne,Value.oneCell']
def devA(d:Dev)(L:DLoc):Array Value:=#[.slice L.a0 d.s0.length L.c0,.slice L.a1 d.s1.length L.c1,.bool d.c0.ok,iv d.c0.r.gen,iv d.c0.r.active,.bool d.c0.r.trying,iv d.c0.r.tries,iv d.c0.r.floor,iv d.c0.r.a.ver,iv d.c0.r.a.size,iv d.c0.r.a.sum,iv d.c0.r.b.ver,iv d.c0.r.b.size,iv d.c0.r.b.sum,.bool d.c1.ok,iv d.c1.r.gen,iv d.c1.r.active,.bool d.c1.r.trying,iv d.c1.r.tries,iv d.c1.r.floor,iv d.c1.r.a.ver,iv d.c1.r.a.size,iv d.c1.r.a.sum,iv d.c1.r.b.ver,iv d.c1.r.b.size,iv d.c1.r.b.sum,.bool d.up,iv d.running,.slice L.ag d.got.length L.cg,.bool d.busy,iv d.job.from_,iv d.job.to_,iv d.job.old,iv d.job.new_,iv d.job.size,.slice L.aj d.job.ops.length L.cj,iv d.done]
@[go_sem] theorem devA_size(d:Dev)(L:DLoc):(devA d L).size=37:=by simp[devA]
@[go_sem] theorem devA_one(d:Dev)(L:DLoc):allOne (devA d L)=true:=by simp[devA,allOne,Value.oneCell']
@[go_sem] theorem devA_at0(d:Dev)(L:DLoc)(h:0<(devA d L).size):(devA d L)[0]'h=.slice L.a0 d.s0.length L.c0:=by simp[devA]
@[go_sem] theorem devA_at1(d:Dev)(L:DLoc)(h:1<(devA d L).size):(devA d L)[1]'h=.slice L.a1 d.s1.length L.c1:=by simp[devA]
@[go_sem] theorem devA_at26(d:Dev)(L:DLoc)(h:26<(devA d L).size):(devA d L)[26]'h=.bool d.up:=by simp[devA]
@[go_sem] theorem devA_at27(d:Dev)(L:DLoc)(h:27<(devA d L).size):(devA d L)[27]'h=iv d.running:=by simp[devA]
@[go_sem] theorem devA_at28(d:Dev)(L:DLoc)(h:28<(devA d L).size):(devA d L)[28]'h=.slice L.ag d.got.length L.cg:=by simp[devA]
@[go_sem] theorem devA_at29(d:Dev)(L:DLoc)(h:29<(devA d L).size):(devA d L)[29]'h=.bool d.busy:=by simp[devA]
@[go_sem] theorem devA_at30(d:Dev)(L:DLoc)(h:30<(devA d L).size):(devA d L)[30]'h=iv d.job.from_:=by simp[devA]
@[go_sem] theorem devA_at31(d:Dev)(L:DLoc)(h:31<(devA d L).size):(devA d L)[31]'h=iv d.job.to_:=by simp[devA]
@[go_sem] theorem devA_at34(d:Dev)(L:DLoc)(h:34<(devA d L).size):(devA d L)[34]'h=iv d.job.size:=by simp[devA]
@[go_sem] theorem devA_at36(d:Dev)(L:DLoc)(h:36<(devA d L).size):(devA d L)[36]'h=iv d.done:=by simp[devA]
@[go_sem] theorem devA_all(d:Dev)(L:DLoc):(devA d L).extract 0 37=devA d L:=by simp[devA]
@[go_sem] theorem devA_ex0_2(d:Dev)(L:DLoc):(devA d L).extract 0 2=slotsA L.a0 d.s0.length L.c0 L.a1 d.s1.length L.c1:=by simp[devA,slotsA]
@[go_sem] theorem devA_ex2_26(d:Dev)(L:DLoc):(devA d L).extract 2 26=copsA d.c0 d.c1:=by simp[devA,copsA]
@[go_sem] theorem devA_ex30_36(d:Dev)(L:DLoc):(devA d L).extract 30 36=patA d.job.from_ d.job.to_ d.job.old d.job.new_ d.job.size L.aj d.job.ops.length L.cj:=by simp[devA,patA]
@[go_sem] theorem devA_set_up(d:Dev)(L:DLoc)(v:Bool):(devA d L).setIfInBounds 26 (.bool v)=devA {d with up:=v} L:=by simp[devA]
@[go_sem] theorem devA_set_running(d:Dev)(L:DLoc)(v:Int):(devA d L).setIfInBounds 27 (iv v)=devA {d with running:=v} L:=by simp[devA]
@[go_sem] theorem devA_set_got(d:Dev)(L:DLoc)(l:List Chk)(A:OA)(c:Nat):(devA d L).setIfInBounds 28 (.slice A l.length c)=devA {d with got:=l} {L with ag:=A,cg:=c}:=by simp[devA]
@[go_sem] theorem devA_splice_slots(d:Dev)(L:DLoc)(a b:OA)(c e:Nat)(x y:LU):splice (devA d L) 0 (slotsA a x.length c b y.length e)=devA {d with s0:=x,s1:=y} {L with a0:=a,c0:=c,a1:=b,c1:=e}:=by simp[splice,devA,slotsA]
@[go_sem] theorem devA_splice_cops(d:Dev)(L:DLoc)(p q:Cop):splice (devA d L) 2 (copsA p q)=devA {d with c0:=p,c1:=q} L:=by simp[splice,devA,copsA]
@[go_sem] theorem devA_splice_cop0(d:Dev)(L:DLoc)(p:Cop):splice (devA d L) 2 (copA p)=devA {d with c0:=p} L:=by simp[splice,devA,copA]
@[go_sem] theorem devA_splice_job(d:Dev)(L:DLoc)(f t o n s:Int)(l:List Stp)(A:OA)(c:Nat):splice (devA d L) 30 (patA f t o n s A l.length c)=devA {d with job:=⟨f,t,o,n,s,l⟩} {L with aj:=A,cj:=c}:=by simp[splice,devA,patA]
@[go_sem] theorem aggSzDev:aggSz Tryz.prog 38=37:=by kernel_rfl
@[go_sem] theorem aggSzSlots:aggSz Tryz.prog 24=2:=by kernel_rfl
@[go_sem] theorem zero_dev:Value.agg #[.slice none 0 0,.slice none 0 0,.bool false,iv 0,iv 0,.bool false,iv 0,iv 0,iv 0,iv 0,iv 0,iv 0,iv 0,iv 0,.bool false,iv 0,iv 0,.bool false,iv 0,iv 0,iv 0,iv 0,iv 0,iv 0,iv 0,iv 0,.bool false,iv 0,.slice none 0 0,.bool false,iv 0,iv 0,iv 0,iv 0,iv 0,.slice none 0 0,iv 0]=Value.agg (devA Dev.zero DLoc.zero):=by simp[devA,Dev.zero,DLoc.zero,Cop.zero,Rec.zero,Inf.zero,Pat.zero]
@[go_sem] theorem slots_lit(a:OA)(k c:Nat)(b:OA)(m e:Nat):Value.agg #[.slice a k c,.slice b m e]=Value.agg (slotsA a k c b m e):=by simp[slotsA]
@[go_sem] theorem slotsA_set0(a:OA)(k c:Nat)(b:OA)(m e:Nat)(x:OA)(y z:Nat):(slotsA a k c b m e).setIfInBounds 0 (.slice x y z)=slotsA x y z b m e:=by simp[slotsA]
@[go_sem] theorem slotsA_set1(a:OA)(k c:Nat)(b:OA)(m e:Nat)(x:OA)(y z:Nat):(slotsA a k c b m e).setIfInBounds 1 (.slice x y z)=slotsA a k c x y z:=by simp[slotsA]
@[go_sem] theorem slotsA_ne(a:OA)(k c:Nat)(b:OA)(m e:Nat):(slotsA a k c b m e=#[])=False:=by simp[slotsA]
structure DevIn(w:World)(d:Dev)(L:DLoc):Prop where
 k0:d.s0.length<=L.c0
 l0:d.s0.length<=140737488351232
 b0:Bts w L.a0 d.s0
 k1:d.s1.length<=L.c1
 l1:d.s1.length<=140737488351232
 b1:Bts w L.a1 d.s1
 kg:d.got.length<=L.cg
 lg:d.got.length<=2513169434843
 got:Chs w L.ag d.got
 job:PatIn w d.job L.aj L.cj
 ir:I64 d.running
 id:I64 d.done
theorem DevIn.stays{d:Dev}{L:DLoc}(h:DevIn w d L)(hb:Below w.heap.size w w'):DevIn w' d L:=
 ⟨h.k0,h.l0,h.b0.stays hb,h.k1,h.l1,h.b1.stays hb,h.kg,h.lg,h.got.stays hb,h.job.stays hb,h.ir,h.id⟩
theorem pat_in_zero(w:World):PatIn w Pat.zero none 0:=⟨nl,by simp[Pat.zero],fun i hi=>absurd hi (by simp[Pat.zero]),⟨by decide,by decide⟩,⟨by decide,by decide⟩,⟨by decide,by decide⟩,⟨by decide,by decide⟩,⟨by decide,by decide⟩⟩
theorem bts_nil(w:World)(A:OA):Bts w A []:=fun i hi=>absurd hi (by simp)
theorem DevIn.zero(w:World):DevIn w Dev.zero DLoc.zero:=
 ⟨nl,by simp[Dev.zero],bts_nil _ _,nl,by simp[Dev.zero],bts_nil _ _,nl,by simp[Dev.zero],Chs.nil _ _,pat_in_zero w,⟨by decide,by decide⟩,⟨by decide,by decide⟩⟩
theorem patCheck_calls(A:OA)(c:Nat)(f t o n sz:Int)(l:List Stp)(w:World)(hl:l.length<=3518437208780)(hs:Sps w A l):
  Calls Tryz.prog 88 #[.agg (patA f t o n sz A l.length c)] w (RetB w (iv (patCheck ⟨f,t,o,n,sz,l⟩))):=patCheckA_calls A c f t o n sz l w hl hs
def filled(x:UInt8)(k n:Nat):List Value:=List.replicate k (bv x)++List.replicate (n-k) (.int .u8 0)
theorem mid_take{l:LU}(h:Bts w A l)(k:Nat):Bts w A (l.take k):=by
 intro i hi;rw[List.length_take]at hi;obtain⟨b,o,rfl,h1,h2⟩:=h i (by omega);exact⟨b,o,rfl,h1,by simpa using h2⟩
section
open Go.RowKit
end
theorem x1s0(h:Y:=by
 have e:=hv k h1 h2;rcases Nat.lt_or_ge k v.heap.size with h|h
 ·exact h
 rw[Array.getElem?_eq_none h,Array.getElem?_eq_getElem h2]at e;cases e):Y:=h
structure Kd(α:Type) where
 ty:TypeId
 size:Nat
 slot:Nat
 cell:α->Option Addr×Nat->List Value
 dat:α->List UInt8
 len:∀x e,(cell x e).length=size
 lt:slot<size
 set:∀x e e',(cell x e).set slot (.slice e'.1 (dat x).length e'.2)=cell x e'
 get:∀x e,(cell x e)[slot]?=some (.slice e.1 (dat x).length e.2)
 one:∀x e,∀u∈cell x e,u.oneCell'=true
section
variable {α:Type} (K:Kd α)
def Kd.cells:List α->List (Option Addr×Nat)->List Value
 |o::l,d::ds=>K.cell o d++Kd.cells l ds
 |_,_=>[]
variable {K}
theorem cells_len:∀(l:List α) (ds:List (Option Addr×Nat)),ds.length=l.length->(K.cells l ds).length=l.length*K.size
 |[],[],_=>by simp[Kd.cells]
 |[],_::_,h=>by simp at h
 |_::_,[],h=>by simp at h
 |o::l,d::ds,h=>by
  have:=cells_len l ds (by simpa using h);rw[Kd.cells,List.length_append,K.len,this,List.length_cons,Nat.succ_mul];omega
theorem cells_oneCell:∀(l:List α) (ds:List (Option Addr×Nat)),∀u∈K.cells l ds,u.oneCell'=true
 |[],_,u,h=>by simp[Kd.cells]at h
 |_::_,[],u,h=>by simp[Kd.cells]at h
 |o::l,d::ds,u,h=>by
  rw[Kd.cells]at h;rcases List.mem_append.1 h with h|h
  ·exact K.one o d u h
  exact cells_oneCell l ds u h
theorem cells_at:∀(l:List α) (ds:List (Option Addr×Nat)),ds.length=l.length->∀(i j:Nat) (o:α) (d:Option Addr×Nat),l[i]?=some o->ds[i]?=some d->j<K.size->(K.cells l ds)[i*K.size+j]?=(K.cell o d)[j]?
 |[],[],_,i,j,o,d,h,_,_=>by simp at h
 |[],_::_,h,_,_,_,_,_,_,_=>by simp at h
 |_::_,[],h,_,_,_,_,_,_,_=>by simp at h
 |x::l,y::ds,h,i,j,o,d,hi,hd,hj=>by
  match i with
  |0=>
   have e1:x=o:=by simpa using hi
   have e2:y=d:=by simpa using hd
   subst e1 e2;rw[Kd.cells,Nat.zero_mul,Nat.zero_add,List.getElem?_append_left (by rw[K.len];exact hj)]
  |i+1=>
   have:=cells_at l ds (by simpa using h) i j o d (by simpa using hi) (by simpa using hd) hj;rw[Kd.cells,List.getElem?_append_right (by rw[K.len,Nat.succ_mul];omega),<-this,K.len];congr 1;rw[Nat.succ_mul];omega
theorem cells_set:∀(l:List α) (ds:List (Option Addr×Nat)),ds.length=l.length->∀(i:Nat) (o:α) (e:Option Addr×Nat),l[i]?=some o->(K.cells l ds).set (i*K.size+K.slot) (.slice e.1 (K.dat o).length e.2)=K.cells l (ds.set i e)
 |[],_,_,i,o,e,h=>by simp at h
 |_::_,[],h,_,_,_,_=>by simp at h
 |x::l,y::ds,h,i,o,e,hi=>by
  have hlt:=K.lt
  match i with
  |0=>
   have e1:x=o:=by simpa using hi
   subst e1;rw[Kd.cells,Nat.zero_mul,Nat.zero_add,List.set_append_left _ _ (by rw[K.len];exact hlt),K.set,List.set_cons_zero,Kd.cells]
  |i+1=>
   have:=cells_set l ds (by simpa using h) i o e (by simpa using hi);rw[Kd.cells,List.set_append_right _ _ (by rw[K.len,Nat.succ_mul];omega),K.len,List.set_cons_succ,Kd.cells,<-this];congr 2;rw[Nat.succ_mul];omega
end
structure GSrc{α:Type}(K:Kd α)(w:World)(A:OA)(l:List α)(ds:List (Option Addr×Nat)):Prop where
 len:ds.length=l.length
 row:Src w A (K.cells l ds)
 data:∀(i:Nat) (o:α) (d:Option Addr×Nat),l[i]?=some o->ds[i]?=some d->Bts w d.1 (K.dat o)∧(K.dat o).length<=d.2
def Each{α:Type}(K:Kd α)(l:List α)(ds:List (Option Addr×Nat))(P:Nat->Prop):Prop:=
 ∀(i:Nat) (o:α) (d:Option Addr×Nat),l[i]?=some o->ds[i]?=some d->K.dat o≠[]->∀k,d.1.map (·.block)=some k->P k
structure GRow{α:Type}(K:Kd α)(w:World)(base:Nat)(l:List α)(ds:List (Option Addr×Nat))(A:OA)(c:Nat):Prop where
 len:ds.length=l.length
 row:Own w base K.ty K.size A l.length c (K.cells l ds)
 data:∀(i:Nat) (o:α) (d:Option Addr×Nat),l[i]?=some o->ds[i]?=some d->Bts w d.1 (K.dat o)∧(K.dat o).length<=d.2
 off:Each K l ds (fun k=>A.map (·.block)≠some k)
theorem bts_keep{x:LU}(h:Bts w B x)(hs:w.heap.size<=w'.heap.size)(hk:x≠[]->∀k,k<w.heap.size->B.map (·.block)=some k->w'.heap[k]?=w.heap[k]?):Bts w' B x:=by
 intro j hj;obtain⟨b,o1,e1,hlt,hc⟩:=h j hj;have e:=hk (fun e=>by rw[e]at hj;simp at hj) b hlt (by rw[e1];rfl);exact⟨b,o1,e1,Nat.lt_of_lt_of_le hlt hs,(World.cell?_of_block e).trans hc⟩
theorem bts_block{x:LU}(h:Bts w B x)(hx:x≠[]):∀k,B.map (·.block)=some k->k<w.heap.size:=by
 obtain⟨b,o1,e1,hlt,hc⟩:=h 0 (List.length_pos_iff.2 hx);intro k hk;rw[e1]at hk;have e:b=k:=by simpa using hk
 omega
section
variable {α:Type} {K:Kd α} {w w':World} {base:Nat} {l:List α} {ds:List (Option Addr×Nat)} {A:OA} {c:Nat} {P Q:Nat->Prop}
theorem Each.imp(h:Each K l ds P)(hq:∀k,P k->Q k):Each K l ds Q:=fun i o d e1 e2 hx k hk=>hq k (h i o d e1 e2 hx k hk)
theorem GSrc.each(h:GSrc K w A l ds):Each K l ds (fun k=>k<w.heap.size):=fun i o d e1 e2 hx=>bts_block (h.data i o d e1 e2).1 hx
theorem GRow.src(h:GRow K w base l ds A c):GSrc K w A l ds:=⟨h.len,h.row.src,h.data⟩
theorem GSrc.stays(h:GSrc K w A l ds)(hb:Below w.heap.size w w'):GSrc K w' A l ds:=
 ⟨h.len,h.row.stays hb,fun i o d h1 h2=>⟨(h.data i o d h1 h2).1.stays hb,(h.data i o d h1 h2).2⟩⟩
theorem GRow.below(h:GRow K w base l ds A c)(hb:Below w.heap.size w w'):GRow K w' base l ds A c:=
 ⟨h.len,h.row.below hb,fun i o d h1 h2=>⟨(h.data i o d h1 h2).1.stays hb,(h.data i o d h1 h2).2⟩,h.off⟩
theorem GRow.setData{i:Nat}{o:α}{e:Option Addr×Nat}(h:GRow K w base l ds (some ⟨g,0,none⟩) c)(hi:l[i]?=some o)(hd:Bts w e.1 (K.dat o))(hd2:(K.dat o).length<=e.2)(hd3:K.dat o≠[]->∀k,e.1.map (·.block)=some k->g≠k):
  GRow K (w.setCell ⟨g,i*K.size+K.slot,none⟩ (.slice e.1 (K.dat o).length e.2)) base l (ds.set i e) (some ⟨g,0,none⟩) c:=by
 have hr:=h.row.stored (i*K.size+K.slot) (.slice e.1 (K.dat o).length e.2);rw[cells_set l ds h.len i o e hi]at hr;refine⟨by rw[List.length_set];exact h.len,hr,fun j o' d' e1 e2=>?_,fun j o' d' e1 e2 hx k hk=>?_⟩
 ·rw[List.getElem?_set]at e2;by_cases hji:i=j
  ·subst hji;rw[hi]at e1;injection e1 with e1;subst e1;by_cases hl:i<ds.length
   ·rw[if_pos rfl,if_pos hl]at e2;injection e2 with e2;subst e2;exact⟨bts_keep hd (by simp) fun hx k _ hk=>Below.heap_setCell _ _ _ _ (fun e3=>hd3 hx k hk e3.symm),hd2⟩
   rw[if_pos rfl,if_neg hl]at e2;cases e2
  rw[if_neg hji]at e2;obtain⟨k1,k2⟩:=h.data j o' d' e1 e2;exact⟨bts_keep k1 (by simp) fun hx k _ hk=>Below.heap_setCell _ _ _ _ (fun e3=>h.off j o' d' e1 e2 hx k hk (by rw[show k=g from e3];rfl)),k2⟩
 rw[List.getElem?_set]at e2;by_cases hji:i=j
 ·by_cases hl:i<ds.length
  ·rw[if_pos hji,if_pos hl]at e2;injection e2 with e2;subst e2 hji;rw[hi]at e1;injection e1 with e1;subst e1;exact fun e3=>hd3 hx k hk (by injection e3)
  ·rw[if_pos hji,if_neg hl]at e2;cases e2
 rw[if_neg hji]at e2;exact h.off j o' d' e1 e2 hx k hk
theorem GRow.fresh(h:GRow K w base l ds A c)(hn:Each K l ds (fun k=>base<=k)):Fresh base w (fun v=>GRow K v base l ds A c):=by
 intro v hv;have hlt:∀k,base<=k->k<w.heap.size->k<v.heap.size:=fun k h1 h2=>by
  exact x1s0
 refine⟨h.len,own_fresh h.row hv,fun i o d h1 h2=>⟨fun j hj=>?_,(h.data i o d h1 h2).2⟩,h.off⟩;obtain⟨b,o1,e1,hl1,hc⟩:=(h.data i o d h1 h2).1 j hj;have hx:K.dat o≠[]:=fun e=>by rw[e]at hj;simp at hj
 have hbb:=hn i o d h1 h2 hx b (by rw[e1];rfl);exact⟨b,o1,e1,hlt b hbb hl1,(World.cell?_of_block (hv b hbb hl1)).trans hc⟩
end
def kOp:Kd Stp where
 ty:=122
 size:=3
 slot:=2
 cell:=fun o e=>[iv o.at_,iv o.len,.slice e.1 o.data.length e.2]
 dat:=Stp.data
 len:=fun _ _=>rfl
 lt:=by decide
 set:=fun _ _ _=>rfl
 get:=fun _ _=>rfl
 one:=fun x e u hu=>by simp at hu;rcases hu with rfl|rfl|rfl<;>rfl
def kChk:Kd Chk where
 ty:=56
 size:=5
 slot:=4
 cell:=fun x e=>chkC x e.1 e.2
 dat:=Chk.data
 len:=fun _ _=>rfl
 lt:=by decide
 set:=fun _ _ _=>rfl
 get:=fun _ _=>rfl
 one:=fun x e u hu=>by simp at hu;rcases hu with rfl|rfl|rfl|rfl|rfl<;>rfl
def kImg:Kd (List UInt8) where
 ty:=23
 size:=1
 slot:=0
 cell:=fun x e=>[.slice e.1 x.length e.2]
 dat:=fun x=>x
 len:=fun _ _=>rfl
 lt:=by decide
 set:=fun _ _ _=>rfl
 get:=fun _ _=>rfl
 one:=fun x e u hu=>by simp at hu;subst hu;rfl
def rImg:CR (List UInt8):=fun w cs x=>∃B c,cs=[.slice B x.length c]∧x.length<=c∧x.length<=140737488351232∧Bts w B x
theorem stays_img:Stays rImg:=by
 rintro w w' cs x ⟨B,c,rfl,h1,h2,h3⟩ hb;exact⟨B,c,rfl,h1,h2,h3.stays hb⟩
abbrev Ims (w:World) (A:OA) (l:List (List UInt8)):Prop:=Elems 1 rImg w A l
theorem Ims.stays(h:Ims w A l)(hb:Below w.heap.size w w'):Ims w' A l:=Elems.stays stays_img h hb
section
variable {α:Type} {K:Kd α} {w:World} {A:OA} {l:List α} {ds:List (Option Addr×Nat)} {R:CR α}
theorem gsrc_of(hR:∀cs x,R w cs x->∃e:Option Addr×Nat,cs=K.cell x e∧Bts w e.1 (K.dat x)∧(K.dat x).length<=e.2)(h:Elems K.size R w A l):∃ds,GSrc K w A l ds:=by
 have each:∀i:Fin l.length,∃e:Option Addr×Nat,∃b o,A=some ⟨b,o,none⟩∧b<w.heap.size∧(∀j,(hj:j<(K.cell l[i.1] e).length)->w.cell? ⟨b,o+i.1*K.size+j,none⟩=some (K.cell l[i.1] e)[j])∧Bts w e.1 (K.dat l[i.1])∧(K.dat l[i.1]).length<=e.2:=by
  intro i;obtain⟨b,o,h1,h2,cs,h3,h4,h5⟩:=h i.1 i.2;obtain⟨e,rfl,h3,h5⟩:=hR _ _ h5;exact⟨e,b,o,h1,h2,h4,h3,h5⟩
 let f:Fin l.length->Option Addr×Nat:=fun i=>Classical.choose (each i)
 have hf:∀i:Fin l.length,∃b o,A=some ⟨b,o,none⟩∧b<w.heap.size∧(∀j,(hj:j<(K.cell l[i.1] (f i)).length)->w.cell? ⟨b,o+i.1*K.size+j,none⟩=some (K.cell l[i.1] (f i))[j])∧Bts w (f i).1 (K.dat l[i.1])∧(K.dat l[i.1]).length<=(f i).2:=fun i=>Classical.choose_spec (each i);have hl:(List.ofFn f).length=l.length:=by simp
 refine⟨List.ofFn f,hl,fun p hp=>?_,fun i o d h1 h2=>?_⟩
 ·rw[cells_len _ _ hl]at hp;have hs:0<K.size:=by have:=K.lt;omega
  have hi:p / K.size<l.length:=Nat.div_lt_of_lt_mul (by rw[Nat.mul_comm];exact hp);have hj:p%K.size<K.size:=Nat.mod_lt _ hs;have hpe:p / K.size*K.size+p%K.size=p:=by rw[Nat.mul_comm];exact Nat.div_add_mod _ _
  obtain⟨b,o,hA,hb,hc,_⟩:=hf ⟨p / K.size,hi⟩;refine⟨b,o,hA,hb,?_⟩;have e1:=cells_at (K:=K) l (List.ofFn f) hl (p / K.size) (p%K.size) l[p / K.size] (f ⟨p / K.size,hi⟩) (List.getElem?_eq_getElem hi) (by simp[hi]) hj;rw[hpe]at e1;have e2:=hc (p%K.size) (by rw[K.len];exact hj);dsimp only at e2;rw[show o+p / K.size*K.size+p%K.size=o+p by omega]at e2;rw[e2,<-List.getElem?_eq_getElem,<-e1,List.getElem?_eq_getElem (by rw[cells_len _ _ hl];exact hp)]
 have hi:=(List.getElem?_eq_some_iff.1 h1).1;obtain⟨_,_,_,_,_,h3,h4⟩:=hf ⟨i,hi⟩;have e1:l[i]=o:=by rw[List.getElem?_eq_getElem hi]at h1;injection h1
 have e2:f ⟨i,hi⟩=d:=by simpa[hi]using h2
 dsimp only at h3 h4;rw[e1,e2]at h3 h4;exact⟨h3,h4⟩
theorem elems_of(h:GSrc K w A l ds)(hR:∀x∈l,∀e:Option Addr×Nat,Bts w e.1 (K.dat x)->(K.dat x).length<=e.2->R w (K.cell x e) x):Elems K.size R w A l:=by
 intro i hi;have hs:0<K.size:=by have:=K.lt;omega
 have hd:i<ds.length:=by rw[h.len];exact hi
 have hl:l[i]?=some l[i]:=List.getElem?_eq_getElem hi;have hds:ds[i]?=some ds[i]:=List.getElem?_eq_getElem hd;have hcl:=cells_len (K:=K) l ds h.len;have hib:i*K.size+K.size<=l.length*K.size:=by rw[<-Nat.succ_mul];exact Nat.mul_le_mul_right _ hi
 obtain⟨b,o,hA,hlt,_⟩:=h.row (i*K.size) (by omega);obtain⟨hd1,hd2⟩:=h.data i _ _ hl hds;refine⟨b,o,hA,hlt,K.cell l[i] ds[i],K.len _ _,fun j hj=>?_,hR _ (List.getElem_mem hi) _ hd1 hd2⟩;rw[K.len]at hj;obtain⟨b',o',e,_,hc⟩:=h.row (i*K.size+j) (by omega);rw[hA]at e;injection e with e;injection e with e1 e2;subst e1 e2;have:=cells_at (K:=K) l ds h.len i j _ _ hl hds hj;rw[List.getElem?_eq_getElem (by omega),List.getElem?_eq_getElem (by rw[K.len];exact hj)]at this;rw[show o+i*K.size+j=o+(i*K.size+j) by omega,hc];exact this
end
theorem Sps.gsrc{l:List Stp}(h:Sps w A l):∃ds,GSrc kOp w A l ds:=
 gsrc_of (K:=kOp) (R:=rOp) (fun cs x ⟨B,c,h1,h2,_,h4,_⟩=>⟨(B,c),h1,h4,h2⟩) h
theorem GSrc.sps{l:List Stp}(h:GSrc kOp w A l ds)(hb:∀o∈l,I64 o.at_∧I64 o.len∧o.data.length<=140737488351232):Sps w A l:=
 elems_of (K:=kOp) (R:=rOp) h fun x hx e h1 h2=>⟨e.1,e.2,rfl,h2,(hb x hx).2.2,h1,(hb x hx).1,(hb x hx).2.1⟩
def ChkB(x:Chk):Prop:=x.data.length<=140737488351232∧I64 x.from_∧I64 x.to_∧I64 x.n∧I64 x.of_
theorem Chs.gsrc{l:List Chk}(h:Chs w A l):∃ds,GSrc kChk w A l ds:=
 gsrc_of (K:=kChk) (R:=rChk) (fun cs x ⟨B,c,h1,h2⟩=>⟨(B,c),h1,h2.data,h2.cap⟩) h
theorem GSrc.chs{l:List Chk}(h:GSrc kChk w A l ds)(hb:∀x∈l,ChkB x):Chs w A l:=
 elems_of (K:=kChk) (R:=rChk) h fun x hx e h1 h2=>⟨e.1,e.2,rfl,h2,(hb x hx).1,h1,(hb x hx).2.1,(hb x hx).2.2.1,(hb x hx).2.2.2.1,(hb x hx).2.2.2.2⟩
theorem Chs.bound{l:List Chk}(h:Chs w A l):∀x∈l,ChkB x:=by
 intro x hx;obtain⟨i,hi,rfl⟩:=List.mem_iff_getElem.1 hx;obtain⟨b,o,_,_,cs,_,_,B,c,_,h1⟩:=h i hi;exact⟨h1.len,h1.i0,h1.i1,h1.i2,h1.i3⟩
theorem Sps.bound{l:List Stp}(h:Sps w A l):∀o∈l,I64 o.at_∧I64 o.len∧o.data.length<=140737488351232:=by
 intro x hx;obtain⟨i,hi,rfl⟩:=List.mem_iff_getElem.1 hx;obtain⟨b,o,_,_,cs,_,_,B,c,_,h1,h2,h3,h4,h5⟩:=h i hi;exact⟨h4,h5,h2⟩
theorem Ims.gsrc(h:Ims w A l):∃ds,GSrc kImg w A l ds:=
 gsrc_of (K:=kImg) (R:=rImg) (fun cs x ⟨B,c,h1,h2,h3,h4⟩=>⟨(B,c),h1,h4,h2⟩) h
theorem GSrc.ims(h:GSrc kImg w A l ds)(hb:∀x∈l,x.length<=140737488351232):Ims w A l:=
 elems_of (K:=kImg) (R:=rImg) h fun x hx e h1 h2=>⟨e.1,e.2,rfl,h2,hb x hx,h1⟩
theorem Ims.bound(h:Ims w A l):∀x∈l,x.length<=140737488351232:=by
 intro x hx;obtain⟨i,hi,rfl⟩:=List.mem_iff_getElem.1 hx;obtain⟨b,o,_,_,cs,_,_,B,c,_,h1,h2,h3⟩:=h i hi;exact h2
theorem fresh_lt{base k:Nat}{v:World}(hv:∀k,base<=k->k<w.heap.size->v.heap[k]?=w.heap[k]?)(h1:base<=k)(h2:k<w.heap.size):k<v.heap.size:=by
 exact x1s0
theorem Fresh.fresh{base:Nat}{v:World}{P:World->Prop}(h:Fresh base w P)(hv:∀k,base<=k->k<w.heap.size->v.heap[k]?=w.heap[k]?):Fresh base v P:=
 fun u hu=>h u fun k h1 h2=>(hu k h1 (fresh_lt hv h1 h2)).trans (hv k h1 h2)
structure DevOwn(w:World)(base m1 m2:Nat)(d:Dev)(L:DLoc):Prop where
 h1:base<=m1
 h2:m1<=m2
 o0:Own w base 5 1 L.a0 d.s0.length L.c0 (d.s0.map bv)
 b0:∀k,L.a0.map (·.block)=some k->k<m1
 o1:Own w m1 5 1 L.a1 d.s1.length L.c1 (d.s1.map bv)
 b1:∀k,L.a1.map (·.block)=some k->k<m2
 got:Fresh m2 w (fun v=>Chs v L.ag d.got)
 job:Fresh m2 w (fun v=>PatIn v d.job L.aj L.cj)
 l0:d.s0.length<=140737488351232
 l1:d.s1.length<=140737488351232
 kg:d.got.length<=L.cg
 lg:d.got.length<=2513169434843
 ir:I64 d.running
 id:I64 d.done
def DvOwn(w:World)(base:Nat)(d:Dev)(L:DLoc):Prop:=∃m1 m2,DevOwn w base m1 m2 d L
section
variable {w v:World} {base m1 m2:Nat} {d:Dev} {L:DLoc}
theorem DevOwn.same(h:DevOwn w base m1 m2 d L)(hv:∀k,base<=k->k<w.heap.size->v.heap[k]?=w.heap[k]?):DevOwn v base m1 m2 d L:=
 ⟨h.h1,h.h2,own_fresh h.o0 hv,h.b0,own_fresh h.o1 (fun k h1=>hv k (Nat.le_trans h.h1 h1)),h.b1,
   h.got.fresh (fun k h1=>hv k (by have:=h.h1;have:=h.h2;omega)),h.job.fresh (fun k h1=>hv k (by have:=h.h1;have:=h.h2;omega)),h.l0,h.l1,h.kg,h.lg,h.ir,h.id⟩
theorem DvOwn.fresh(h:DvOwn w base d L):Fresh base w (fun v=>DvOwn v base d L):=by
 obtain⟨m1,m2,h⟩:=h;exact fun v hv=>⟨m1,m2,h.same hv⟩
theorem DvOwn.mono{base':Nat}(h:DvOwn w base d L)(hb:base'<=base):DvOwn w base' d L:=by
 obtain⟨m1,m2,h⟩:=h;exact⟨m1,m2,Nat.le_trans hb h.h1,h.h2,h.o0.mono hb,h.b0,h.o1,h.b1,h.got,h.job,h.l0,h.l1,h.kg,h.lg,h.ir,h.id⟩
theorem DevOwn.devIn(h:DevOwn w base m1 m2 d L):DevIn w d L:=
 ⟨h.o0.le,h.l0,h.o0.src.bts,h.o1.le,h.l1,h.o1.src.bts,h.kg,h.lg,h.got.now,h.job.now,h.ir,h.id⟩
theorem DvOwn.devIn(h:DvOwn w base d L):DevIn w d L:=by
 obtain⟨m1,m2,h⟩:=h;exact h.devIn
end
def DcRet(w:World)(d:Dev):Ending->World->Prop:=fun en w'=>
 ∃L,en=.returned (.agg (devA d L))∧Fresh w.heap.size w' (fun v=>DvOwn v w.heap.size d L)∧Below w.heap.size w w'
def DvRet(w:World)(d:Dev)(n:Int):Ending->World->Prop:=fun en w'=>
 ∃L,en=.returned (.tuple #[.agg (devA d L),iv n])∧Fresh w.heap.size w' (fun v=>DevIn v d L)∧Below w.heap.size w w'
theorem wp_srow{P:Program}{a:Act}{K:Act->World->Prop}{Q:Exit->Act->World->Prop}{ty t:TypeId}{p:String}{af:Array Edge}{gd:Option (Nat×Bool)}{x y:Tmp}{j:Nat}{cs new:Array Value}(hx:a.tmps[x]?=some (.pointer (some ⟨g,j,none⟩)))(hy:a.tmps[y]?=some (.agg new))
  (h1:aggSz P ty=new.size) (h0:0<new.size) (hr:rowOf w g=cs) (h2:j+new.size<=cs.size) (hf:frOf w g=(0,0)) (hc:allOne new=true) (h:K a (w.setRow g (splice cs j new))):
  Oper.wp P ⟨none,.store ty (.tmp x) (.tmp y),t,p,af,gd⟩ a w K Q:=by
 have e1:a.eval (.tmp x)=.pointer (some ⟨g,j,none⟩):=by simp[Act.eval,hx]
 have e2:a.eval (.tmp y)=.agg new:=by simp[Act.eval,hy]
 have e:=exec_store_row (P:=P) (w:=w) (ev:=a.eval) (d:=none) (ty:=ty) (t:=t) (x:=.tmp x) (y:=.tmp y) (p:=p) (e:=af) (gd:=gd) (by omega) (by rw[e1];rfl) (by rw[e2];rfl) (by rw[e2,h1];rfl) (by rw[e1,e2];show j+new.size<=(rowOf w g).size;rw[hr];exact h2) (by rw[e1];exact hf) (by rw[e2];exact hc);unfold Oper.wp;rw[e,e1,e2]
 show K a (w.setRow g (splice (rowOf w g) j new));rw[hr];exact h
theorem wp_ssc{a:Act}{K:Act->World->Prop}{Q:Exit->Act->World->Prop}{t:TypeId}{p:String}{af:Array Edge}{gd:Option (Nat×Bool)}{x y:Tmp}{j:Nat}{n c:Nat}{cs:Array Value}(hx:a.tmps[x]?=some (.pointer (some ⟨g,j,none⟩)))(hy:a.tmps[y]?=some (.slice B n c))
  (hr:rowOf w g=cs) (hj:j<cs.size) (hf:frOf w g=(0,0)) (h:K a (w.setRow g (cs.setIfInBounds j (.slice B n c)))):
  Oper.wp Tryz.prog ⟨none,.store 33 (.tmp x) (.tmp y),t,p,af,gd⟩ a w K Q:=by
 have e1:a.eval (.tmp x)=.pointer (some ⟨g,j,none⟩):=by simp[Act.eval,hx]
 have e2:a.eval (.tmp y)=.slice B n c:=by simp[Act.eval,hy]
 obtain⟨t1,hb⟩:=row_blk (w:=w) (g:=g) (by rw[hr];omega);rw[hr,hf]at hb;have hc:w.cell? ⟨g,j,none⟩=some cs[j]:=by rw[cell_of_row _ _ _ _ _ _ hb];simp[hj]
 have hz:w.frozen? ⟨g,j,none⟩=false:=frozen_of_row _ _ _ _ _ hb;have hs:=setCell_eq_setRow w g j cs t1 (0,0) (.slice B n c) hb;unfold Oper.wp execOp;simp only[e1,e2];go_simp
 first|exact h|(rw[hs];exact h)
theorem x5ym(h:Y:=by
 go_wp2_with fail;refine bodyPost_ret (results_c rfl rfl (cs:=devA d.down L.down) (by go_simp;first|rfl|done) (by go_simp) (by go_simp)) rfl ⟨rfl,?_⟩;repeat (first|exact Below.refl _ _|refine bR ?_ _|refine bA ?_ _)):Y:=h
def Kp(base:Nat)(w1 w:World):Prop:=∀k,base<=k->k<w1.heap.size->w.heap[k]?=w1.heap[k]?
section
variable {base g:Nat} {w1 w w':World}
theorem Kp.refl(base:Nat)(w1:World):Kp base w1 w1:=fun _ _ _=>rfl
theorem Kp.row(h:Kp base w1 w)(hg:g<base∨w1.heap.size<=g)(cs:Array Value):Kp base w1 (w.setRow g cs):=fun k h1 h2=>(setRow_other w g k cs (by omega)).trans (h k h1 h2)
theorem Kp.cell(h:Kp base w1 w){p:Addr}(hg:p.block<base∨w1.heap.size<=p.block)(u:Value):Kp base w1 (w.setCell p u):=fun k h1 h2=>(Below.heap_setCell _ _ _ _ (by omega)).trans (h k h1 h2)
theorem Kp.below(h:Kp base w1 w)(hs:w1.heap.size<=w.heap.size)(hb:Below w.heap.size w w'):Kp base w1 w':=fun k h1 h2=>(hb.block k (by omega)).trans (h k h1 h2)
theorem Kp.alloc(h:Kp base w1 w)(hs:w1.heap.size<=w.heap.size)(o:Obj):Kp base w1 (w.alloc o):=h.below hs (bL o)
theorem Fresh.kp{P:World->Prop}{B:Nat}(h:Fresh base w1 P)(hk:Kp base w1 w)(hB:B<=base)(hs:w1.heap.size<=w.heap.size):Fresh B w P:=fun v hv=>h v fun k h1 h2=>(hv k (by omega) (by omega)).trans (hk k h1 h2)
end
@[go_sem] theorem setRow_setCell(w:World)(g j:Nat)(cs:Array Value)(v:Value):(w.setRow g cs).setCell ⟨g,j,none⟩ v=w.setRow g (cs.setIfInBounds j v):=by
 unfold World.setRow World.setCell;congr 1
 apply Array.ext_getElem?
 intro i;simp only[Array.getElem?_modify];by_cases e:g=i
 ·subst e;simp only[if_true]
  cases w.heap[g]? with
  |none=>rfl
  |some o=>cases o<;>rfl
 simp[e]
def DLoc.down(L:DLoc):DLoc:=⟨L.a0,L.c0,L.a1,L.c1,none,0,none,0⟩
theorem big_dev'(n:Nat)(h:0<n):bigBuild Tryz.prog 38 n:=by
 obtain⟨i,hi,_⟩:=info_parts (P:=Tryz.prog) (e:=38) (z:=.agg (devA Dev.zero DLoc.zero)) (size:=37) (bytes:=360) (by kernel_rfl);exact⟨i,hi,h⟩
@[go_sem] theorem big_dev2:bigBuild Tryz.prog 38 2:=big_dev' 2 (by decide)
@[go_sem] theorem build_dev2(a b:OA)(c e:Nat)(x y:LU)(p q:Cop)(w:World):runBuild Tryz.prog 38 #[(0,.agg (slotsA a x.length c b y.length e)),(1,.agg (copsA p q))] w=.ok (.agg (devA ⟨x,y,p,q,false,0,[],false,Pat.zero,0⟩ ⟨a,c,b,e,none,0,none,0⟩)) w:=by kernel_rfl
theorem DevIn.down{d:Dev}{L:DLoc}(h:DevIn w d L):DevIn w d.down L.down:=
 ⟨h.k0,h.l0,h.b0,h.k1,h.l1,h.b1,nl,Nat.zero_le _,Chs.nil _ _,pat_in_zero w,⟨by show -9223372036854775808<=(0:Int);omega,by show (0:Int)<=9223372036854775807;omega⟩,⟨by show -9223372036854775808<=(0:Int);omega,by show (0:Int)<=9223372036854775807;omega⟩⟩
theorem down_calls(d:Dev)(L:DLoc)(w:World):Calls Tryz.prog 40 #[.agg (devA d L)] w (RetB w (.agg (devA d.down L.down))):=by
 go_enter Tryz.func40,Tryz.ntmps40;exact x5ym
theorem without_calls(d:Dev)(L:DLoc)(w:World):Calls Tryz.prog 32 #[.agg (devA d L)] w (RetB w (.agg (devA d.down L.down))):=by
 go_enter Tryz.func32,Tryz.ntmps32;exact x5ym
theorem eqIn_inf(d:Nat)(x y z x' y' z':Int)(w:World):(Op.equalIn (d+2) 26 (.agg #[iv x,iv y,iv z]) (.agg #[iv x',iv y',iv z'])).run Tryz.prog w=.ok (decide (x=x'∧y=y'∧z=z')) w:=by
 go_simp;split
 ·split
  ·split<;>simp_all
  ·simp_all
 simp_all
theorem cellsOfInf:Tryz.prog.cellsOf 26=3:=by kernel_rfl
theorem cellsOfCop:Tryz.prog.cellsOf 31=12:=by kernel_rfl
theorem run_eqItems2{P:Program}{d n:Nat}{e:TypeId}{xs ys:Array Value}{a b a' b':Value}{r r':Bool}
  (p1:(part e xs 0).run P w=.ok a w) (p2:(part e ys 0).run P w=.ok a' w) (p3:(part e xs n).run P w=.ok b w) (p4:(part e ys n).run P w=.ok b' w)
  (h1:(Op.equalIn d e a a').run P w=.ok r w) (h2:(Op.equalIn d e b b').run P w=.ok r' w):(Op.eqItems d e n xs ys (List.range 2)).run P w=.ok (r&&r') w:=by
 rw[show List.range 2=[0,1] from rfl];simp only[Op.eqItems,Sem.run_bind,Nat.zero_mul,Nat.one_mul,p1,p2,Result.andThen_ok,h1]
 cases r
 ·simp
 simp only[Bool.not_true,Bool.false_eq_true,if_false,Sem.run_bind,p3,p4,h2,Result.andThen_ok,Bool.true_and]
 cases r'<;>simp
theorem eqIn_infs(d:Nat)(x y z x' y' z' u v t u' v' t':Int)(w:World):(Op.equalIn (d+3) 27 (.agg #[iv x,iv y,iv z,iv u,iv v,iv t]) (.agg #[iv x',iv y',iv z',iv u',iv v',iv t'])).run Tryz.prog w=
  .ok (decide (x=x'∧y=y'∧z=z')&&decide (u=u'∧v=v'∧t=t')) w:=by
 obtain⟨i,hi,hz,hs,hb⟩:=info_parts (P:=Tryz.prog) (e:=26) (z:=.agg #[iv 0,iv 0,iv 0]) (size:=3) (bytes:=24) (by kernel_rfl);rw[run_equalIn_array (P:=Tryz.prog) (w:=w) (d+2) _ _ Tryz.underlying27 hi,cellsOfInf];exact run_eqItems2 (by kernel_rfl) (by kernel_rfl) (by kernel_rfl) (by kernel_rfl) (eqIn_inf d x y z x' y' z' w) (eqIn_inf d u v t u' v' t' w)
theorem rec_dec(r s:Rec):decide (r=s)=(decide (r.gen=s.gen)&&(decide (r.active=s.active)&&(decide (r.trying=s.trying)&&(decide (r.tries=s.tries)&&(decide (r.floor=s.floor)&&(decide (r.a.ver=s.a.ver∧r.a.size=s.a.size∧r.a.sum=s.a.sum)&&decide (r.b.ver=s.b.ver∧r.b.size=s.b.size∧r.b.sum=s.b.sum))))))):=by
 obtain⟨g,a,t,n,f,⟨x,y,z⟩,⟨u,v,w⟩⟩:=r;obtain⟨g',a',t',n',f',⟨x',y',z'⟩,⟨u',v',w'⟩⟩:=s;rw[Bool.eq_iff_iff];simp
theorem eqIn_rec(d:Nat)(r s:Rec)(w:World):(Op.equalIn (d+4) 29 (.agg (recA r)) (.agg (recA s))).run Tryz.prog w=.ok (decide (r=s)) w:=by
 have e:=fun w=>eqIn_infs d r.a.ver r.a.size r.a.sum s.a.ver s.a.size s.a.sum r.b.ver r.b.size r.b.sum s.b.ver s.b.size s.b.sum w;rw[rec_dec];generalize decide (r.a.ver=s.a.ver∧r.a.size=s.a.size∧r.a.sum=s.a.sum)=B1 at e⊢;generalize decide (r.b.ver=s.b.ver∧r.b.size=s.b.size∧r.b.sum=s.b.sum)=B2 at e⊢;unfold recA;go_simp;by_cases h1:r.gen=s.gen
 ·by_cases h2:r.active=s.active
  ·by_cases h3:r.trying=s.trying
   ·by_cases h4:r.tries=s.tries
    ·by_cases h5:r.floor=s.floor
     ·cases B1<;>cases B2<;>simp[h1,h2,h3,h4,h5]
     ·simp[h1,h2,h3,h4,h5]
    ·simp[h1,h2,h3,h4]
   ·simp[h1,h2,h3]
  ·simp[h1,h2]
 simp[h1]
theorem guard_rec:Tryz.prog.eqGuardType Tryz.prog.depth 29=false:=by kernel_rfl
theorem eql_rec(r s:Rec)(w:World):(binOp .eql 29 (.agg (recA r)) (.agg (recA s))).run Tryz.prog w=.ok (.bool (decide (r=s))) w:=by
 rw[run_eql_struct,eqIn_rec 9996];rfl
theorem neq_rec(r s:Rec)(w:World):(binOp .neq 29 (.agg (recA r)) (.agg (recA s))).run Tryz.prog w=.ok (.bool (!decide (r=s))) w:=by
 rw[run_neq_struct,eqIn_rec 9996];rfl
theorem neq_rec0(r:Rec)(w:World):(binOp .neq 29 (.agg (recA r)) (.agg #[iv 0,iv 0,.bool false,iv 0,iv 0,iv 0,iv 0,iv 0,iv 0,iv 0,iv 0])).run Tryz.prog w=.ok (.bool (!decide (r=Rec.zero))) w:=neq_rec r Rec.zero w
theorem eql_rec0(r:Rec)(w:World):(binOp .eql 29 (.agg (recA r)) (.agg #[iv 0,iv 0,.bool false,iv 0,iv 0,iv 0,iv 0,iv 0,iv 0,iv 0,iv 0])).run Tryz.prog w=.ok (.bool (decide (r=Rec.zero))) w:=eql_rec r Rec.zero w
theorem cop_dec(c d:Cop):decide (c=d)=(decide (c.ok=d.ok)&&decide (c.r=d.r)):=by
 obtain⟨o,r⟩:=c;obtain⟨o',r'⟩:=d;rw[Bool.eq_iff_iff];simp
theorem eqIn_cop(d:Nat)(a b:Cop)(w:World):(Op.equalIn (d+5) 31 (.agg (copA a)) (.agg (copA b))).run Tryz.prog w=.ok (decide (a=b)) w:=by
 have e:∀w,(Op.equalIn (d+4) 29 (.agg #[iv a.r.gen,iv a.r.active,.bool a.r.trying,iv a.r.tries,iv a.r.floor,iv a.r.a.ver,iv a.r.a.size,iv a.r.a.sum,iv a.r.b.ver,iv a.r.b.size,iv a.r.b.sum])
  (.agg #[iv b.r.gen,iv b.r.active,.bool b.r.trying,iv b.r.tries,iv b.r.floor,iv b.r.a.ver,iv b.r.a.size,iv b.r.a.sum,iv b.r.b.ver,iv b.r.b.size,iv b.r.b.sum])).run Tryz.prog w=.ok (decide (a.r=b.r)) w:=fun w=>eqIn_rec d a.r b.r w
 rw[cop_dec];generalize decide (a.r=b.r)=B1 at e⊢;unfold copA;go_simp;by_cases h1:a.ok=b.ok<;>cases B1<;>simp[h1]
theorem eql_cop(r s:Cop)(w:World):(binOp .eql 31 (.agg (copA r)) (.agg (copA s))).run Tryz.prog w=.ok (.bool (decide (r=s))) w:=by
 rw[run_eql_struct,eqIn_cop 9995];rfl
theorem eqIn_cops(d:Nat)(a b x y:Cop)(w:World):(Op.equalIn (d+6) 32 (.agg (copsA a b)) (.agg (copsA x y))).run Tryz.prog w=.ok (decide (a=x)&&decide (b=y)) w:=by
 obtain⟨i,hi,hz,hs,hb⟩:=info_parts (P:=Tryz.prog) (e:=31) (z:=.agg (copA Cop.zero)) (size:=12) (bytes:=96) (by kernel_rfl);rw[run_equalIn_array (P:=Tryz.prog) (w:=w) (d+5) _ _ Tryz.underlying32 hi,cellsOfCop];exact run_eqItems2 (by kernel_rfl) (by kernel_rfl) (by kernel_rfl) (by kernel_rfl) (eqIn_cop d a x w) (eqIn_cop d b y w)
theorem eql_cops(a b x y:Cop)(w:World):(binOp .eql 32 (.agg (copsA a b)) (.agg (copsA x y))).run Tryz.prog w=.ok (.bool (decide (a=x)&&decide (b=y))) w:=by
 rw[run_eql_struct,eqIn_cops 9994];rfl
theorem neq_cops(a b x y:Cop)(w:World):(binOp .neq 32 (.agg (copsA a b)) (.agg (copsA x y))).run Tryz.prog w=.ok (.bool (!(decide (a=x)&&decide (b=y)))) w:=by
 rw[run_neq_struct,eqIn_cops 9994];rfl
theorem guard_cop:Tryz.prog.eqGuardType Tryz.prog.depth 31=false:=by kernel_rfl
theorem guard_cops:Tryz.prog.eqGuardType Tryz.prog.depth 32=false:=by kernel_rfl
theorem big_cop:bigBuild Tryz.prog 31 2:=by
 obtain⟨i,hi,_⟩:=info_parts (P:=Tryz.prog) (e:=31) (z:=.agg (copA Cop.zero)) (size:=12) (bytes:=96) (by kernel_rfl);exact⟨i,hi,by omega⟩
theorem big_inf:bigBuild Tryz.prog 26 3:=by
 obtain⟨i,hi,_⟩:=info_parts (P:=Tryz.prog) (e:=26) (z:=.agg (infA Inf.zero)) (size:=3) (bytes:=24) (by kernel_rfl);exact⟨i,hi,by omega⟩
theorem build_cop(b:Bool)(r:Rec)(w:World):runBuild Tryz.prog 31 #[(0,.bool b),(1,.agg (recA r))] w=.ok (.agg (copA ⟨b,r⟩)) w:=by kernel_rfl
theorem build_inf(a b c:Int)(w:World):runBuild Tryz.prog 26 #[(0,iv a),(1,iv b),(2,iv c)] w=.ok (.agg (infA ⟨a,b,c⟩)) w:=by kernel_rfl
attribute [go_sem] build_cop build_inf big_cop big_inf
attribute [go_sem] guard_rec guard_cop guard_cops
attribute [go_sem ↓] eql_cops neq_cops eql_rec neq_rec neq_rec0 eql_rec0 eql_cop
theorem x27r(h:Y:=by
 clear hz;go_wp2_with fail;go_ret;exact⟨ret_int HO.out.symm,hB.alloc hB.size _⟩):Y:=h
theorem x6lz(h:Y:=by
 go_wp2_with fail;go_ret;exact⟨ret_int HE.out.symm,hB⟩):Y:=h
theorem x7h7(h:Y:=by
 clear hz hrow1 hb1;go_wp2_with fail;go_ret;exact⟨ret_int HO.out.symm,hB1⟩):Y:=h
theorem recCheckA_calls(r:Rec)(w:World):Calls Tryz.prog 68 #[.agg (recA r)] w (RetB w (iv (recCheck r))):=
 recCheck_calls r.gen r.active r.trying r.tries r.floor r.a.ver r.a.size r.a.sum r.b.ver r.b.size r.b.sum w
theorem copies_calls(c d:Cop)(w:World):Calls Tryz.prog 38 #[.agg (copsA c d)] w (RetB w (iv (copCheck c d))):=by
 have i2:∀w,(Instr.index 32 (.agg (copsA c d)) (iv 0)).run Tryz.prog w=.ok (.agg (copA c)) w:=fun _=>by kernel_rfl
 have i1:∀w,(Instr.index 32 (.agg (copsA c d)) (iv 1)).run Tryz.prog w=.ok (.agg (copA d)) w:=fun _=>by kernel_rfl
 go_enter Tryz.func38,Tryz.ntmps38;go_wp2_with fail;go_loopw [7] (fun i wr=>∃k:Nat,k<=2∧i=iv k∧Below w.heap.size w wr∧rowOf wr w.heap.size=copsA c d∧(0<k->copOne c=0)∧(1<k->copOne d=0)) (fun i _=>(2-intOf i).toNat)
 case atStart=>exact⟨0,by omega,rfl,bL _,by rw[rowOf_alloc,if_pos rfl],by omega,by omega⟩
 case round=>
  obtain⟨k,hk,rfl,hB,hrow,ha,hb⟩:=hrel;have HR:=qH hrow;clear hrow;by_cases hlt:k<2
  ·rcases (show k=0∨k=1 by omega)with rfl|rfl
   ·clear ha hb
    cases hok:c.ok
    ·by_cases hz:c.r=Rec.zero
     ·have HO:=qH (copOne_lost0 hok hz);have hd:decide (c.r=Rec.zero)=true:=decide_eq_true hz;have HK:=qH hok;have hok':(c.ok==true)=false:=by simp[hok]
      clear hz;go_wp2_with fail;go_roundw
      case rel=>exact⟨1,by omega,rfl,hB.alloc hB.size _,by rw[rowOf_alloc,if_neg (by have:=row_lt (w:=wr) (g:=w.heap.size) (by rw[HR.out];simp[copsA]);omega),HR.out],fun _=>HO.out,by omega⟩
      case measure=>simp[intOf]<;>omega
     ·have HO:=qH (copCheck_1 (d:=d) (copOne_lost3 hok hz) (by omega));have hd:decide (c.r=Rec.zero)=false:=decide_eq_false hz;exact x27r
    have HO1:=qH (copOne_ok hok);go_wp2_with fail;refine(recCheckA_calls c.r _).mono ?_;rintro e w1 ⟨rfl,hb1⟩;have hB1:=(hB.alloc hB.size (.cells (copA c) 31)).trans (hb1.mono (by simp;exact Nat.le_succ_of_le hB.size));have hrow1:rowOf w1 w.heap.size=copsA c d:=by rw[rowOf_below (by simp;have:=row_lt (w:=wr) (g:=w.heap.size) (by rw[HR.out];simp[copsA]);omega) hb1,rowOf_alloc,if_neg (by have:=row_lt (w:=wr) (g:=w.heap.size) (by rw[HR.out];simp[copsA]);omega),HR.out]
    by_cases hz:recCheck c.r=0
    ·have HO:=qH (HO1.out.trans hz);have hz':(recCheck c.r !=0)=false:=by simp[hz]
     have HW:=qH hrow1;clear hz hrow1 hb1;go_wp2_with fail;go_roundw
     case rel=>exact⟨1,by omega,rfl,hB1,HW.out,fun _=>HO.out,by omega⟩
     case measure=>simp[intOf]<;>omega
    have HO:=qH (copCheck_1 (d:=d) HO1.out hz);have hz':(recCheck c.r !=0)=true:=by simp[hz]
    exact x7h7
   ·have HA:=qH (ha (by omega));clear ha hb
    cases hok:d.ok
    ·by_cases hz:d.r=Rec.zero
     ·have HO:=qH (copOne_lost0 hok hz);have hd:decide (d.r=Rec.zero)=true:=decide_eq_true hz;have HK:=qH hok;have hok':(d.ok==true)=false:=by simp[hok]
      clear hz;go_wp2_with fail;go_roundw
      case rel=>exact⟨2,by omega,rfl,hB.alloc hB.size _,by rw[rowOf_alloc,if_neg (by have:=row_lt (w:=wr) (g:=w.heap.size) (by rw[HR.out];simp[copsA]);omega),HR.out],fun _=>HA.out,fun _=>HO.out⟩
      case measure=>simp[intOf]<;>omega
     ·have HO:=qH (copCheck_2 HA.out (copOne_lost3 hok hz) (by omega));have hd:decide (d.r=Rec.zero)=false:=decide_eq_false hz;exact x27r
    have HO1:=qH (copOne_ok hok);go_wp2_with fail;refine(recCheckA_calls d.r _).mono ?_;rintro e w1 ⟨rfl,hb1⟩;have hB1:=(hB.alloc hB.size (.cells (copA d) 31)).trans (hb1.mono (by simp;exact Nat.le_succ_of_le hB.size));have hrow1:rowOf w1 w.heap.size=copsA c d:=by rw[rowOf_below (by simp;have:=row_lt (w:=wr) (g:=w.heap.size) (by rw[HR.out];simp[copsA]);omega) hb1,rowOf_alloc,if_neg (by have:=row_lt (w:=wr) (g:=w.heap.size) (by rw[HR.out];simp[copsA]);omega),HR.out]
    by_cases hz:recCheck d.r=0
    ·have HO:=qH (HO1.out.trans hz);have hz':(recCheck d.r !=0)=false:=by simp[hz]
     have HW:=qH hrow1;clear hz hrow1 hb1;go_wp2_with fail;go_roundw
     case rel=>exact⟨2,by omega,rfl,hB1,HW.out,fun _=>HA.out,fun _=>HO.out⟩
     case measure=>simp[intOf]<;>omega
    have HO:=qH (copCheck_2 HA.out HO1.out hz);have hz':(recCheck d.r !=0)=true:=by simp[hz]
    exact x7h7
  obtain rfl:k=2:=by omega
  have hp:0<(rowOf wr w.heap.size).size:=by rw[HR.out];simp[copsA]
  have c1:=cell_row hp 0;have c2:=cell_row hp 12;rw[HR.out]at c1 c2;rw[copsA_get0]at c1;rw[copsA_get12]at c2;have HF:=qH (copCheck_3 (ha (by omega)) (hb (by omega)));clear ha hb hp
  cases hc:c.ok
  ·cases hd:d.ok
   ·have HE:Hid (copCheck c d=7):=by rw[hc,hd]at HF;exact HF
    exact x6lz
   ·have HE:Hid (copCheck c d=0):=by rw[hc,hd]at HF;exact HF
    exact x6lz
  have HE:Hid (copCheck c d=0):=by rw[hc]at HF;exact HF
  exact x6lz
theorem x08y(h:Y:=by
 have HE:=qH hE;clear hE;go_wp2_with fail;refine bodyPost_ret (results_ctt rfl rfl (cs:=recA d.r) (by go_simp) (by go_simp) (by go_simp)) rfl ⟨by rw[HE.out];rfl,?_⟩;exact below_row HB.out (Nat.le_succ _) _):Y:=h
theorem x0ap(h:Y:=by
 repeat (first|exact hA|refine bR ?_ _|refine bC ?_ _|refine bA ?_ _)):Y:=h
theorem x1qb(h:Y:=by
 have HE:=qH hE;clear hE;go_wp2_with fail;refine bodyPost_ret (results_ctt rfl rfl (cs:=recA c.r) (by go_simp) (by go_simp) (by go_simp)) rfl ⟨by rw[HE.out];rfl,?_⟩;exact below_row HB.out (Nat.le_succ _) _):Y:=h
theorem read_bad(c d:Cop)(w:World)(h:copCheck c d≠0):Calls Tryz.prog 12 #[.agg (copsA c d)] w (RetB w (.tuple #[.agg (recA Rec.zero),iv 0,iv (copCheck c d)])):=by
 have hb:(copCheck c d !=0)=true:=by simp[h]
 clear h;go_enter Tryz.func12,Tryz.ntmps12;go_wp2_with fail;refine(copies_calls c d _).mono ?_;rintro e w1 ⟨rfl,hb1⟩;obtain⟨kr,kf,kn,kc,kz⟩:=keepB hb1 (n:=w.heap.size+1+1) (by simp);have HB:=qH (((bL _).alloc (by simp) _).trans (hb1.mono (B':=w.heap.size) (by simp;omega)));clear hb1;go_wp2_with fail;refine bodyPost_ret (results_ctt rfl rfl (cs:=recA Rec.zero) (by go_simp) (by go_simp) (by go_simp)) rfl ⟨rfl,below_row HB.out (by omega) _⟩
theorem read_ok(c d:Cop)(w:World)(h:copCheck c d=0):Calls Tryz.prog 12 #[.agg (copsA c d)] w (RetB w (.tuple #[.agg (recA (recRead c d).1),iv (recRead c d).2,iv 0])):=by
 have hb:(copCheck c d !=0)=false:=by simp[h]
 clear h;go_enter Tryz.func12,Tryz.ntmps12;go_wp2_with fail;refine(copies_calls c d _).mono ?_;rintro e w1 ⟨rfl,hb1⟩;obtain⟨kr,kf,kn,kc,kz⟩:=keepB hb1 (n:=w.heap.size+1+1) (by simp);have HB:=qH (((bL _).alloc (by simp) _).trans (hb1.mono (B':=w.heap.size) (by simp;omega)));clear hb1
 cases hc:c.ok
 ·have hE:recRead c d=(d.r,1):=by unfold recRead newer;rw[hc];rfl
  exact x08y
 cases hd:d.ok
 ·have hE:recRead c d=(c.r,0):=by unfold recRead newer;rw[hc,hd];rfl
  exact x1qb
 by_cases hg:c.r.gen<d.r.gen
 ·have hE:recRead c d=(d.r,1):=by unfold recRead newer;rw[hc,hd,decide_eq_true hg];rfl
  exact x08y
 have hE:recRead c d=(c.r,0):=by unfold recRead newer;rw[hc,hd,decide_eq_false hg];rfl
 exact x1qb
attribute [go_sem] setRow_setRow
theorem write_bad(c d:Cop)(r:Rec)(torn:Bool)(w:World)(h:copCheck c d≠0):Calls Tryz.prog 43 #[.agg (copsA c d),.agg (recA r),.bool torn] w (RetB w (.tuple #[.agg (copsA Cop.zero Cop.zero),iv (copCheck c d)])):=by
 have hb:(copCheck c d !=0)=true:=by simp[h]
 go_enter Tryz.func43,Tryz.ntmps43;go_wp2_with fail;refine(read_bad c d _ h).mono ?_;rintro e w1 ⟨rfl,hb1⟩;have r4:=keep1 (g:=w.heap.size) (cs:=copsA c d) hb1 (by go_simp) (by go_simp) (by go_simp);have r1:=keep1 (g:=w.heap.size+1) (cs:=recA r) hb1 (by go_simp) (by go_simp) (by go_simp);have r1:=keep1 (g:=w.heap.size+1+1) (cs:=copsA Cop.zero Cop.zero) hb1 (by go_simp) (by go_simp) (by go_simp);have r1:=keep1 (g:=w.heap.size+1+1+1) (cs:=copsA Cop.zero Cop.zero) hb1 (by go_simp) (by go_simp) (by go_simp);have HB:=qH (((((bL _).alloc (by simp) _).alloc (by simp;omega) _).alloc (by simp;omega) _).trans (hb1.mono (B':=w.heap.size) (by simp;omega)));clear hb1 h;go_wp2_with fail;refine bodyPost_ret (rC (copsA Cop.zero Cop.zero)) rfl ⟨rfl,bZ HB⟩
theorem write_ok(c d:Cop)(r:Rec)(torn:Bool)(w:World)(h:copCheck c d=0):Calls Tryz.prog 43 #[.agg (copsA c d),.agg (recA r),.bool torn] w
  (RetB w (.tuple #[.agg (copsA (recWrite c d r torn).1.1 (recWrite c d r torn).1.2),iv (recWrite c d r torn).2])):=by
 have hrg:=recCheck_range0 (recRead_ok h);have hk:(recRead c d).2=0∨(recRead c d).2=1:=by unfold recRead;split<;>simp
 have hw:recWrite c d r torn=if recCheck {r with gen:=(recRead c d).1.gen+1}=0 then (recPut c d r torn,0)else ((Cop.zero,Cop.zero),recCheck {r with gen:=(recRead c d).1.gen+1}):=by unfold recWrite;rw[if_pos h]
 have hp:recPut c d r torn=if (recRead c d).2=0 then (c,if torn=true then Cop.zero else ⟨true,{r with gen:=(recRead c d).1.gen+1}⟩)else (if torn=true then Cop.zero else ⟨true,{r with gen:=(recRead c d).1.gen+1}⟩,d):=rfl
 have hread:=read_ok c d;have hread:=fun w=>hread w h;generalize recRead c d=q at *
 obtain⟨was,k⟩:=q;simp only at hk hw hp hread hrg;have HW:=qH hw;have HP:=qH hp;have HRd:=qH hread;have hg1:=hrg.1;have hg1:=hrg.2.1;clear hw hp hread hrg h;go_enter Tryz.func43,Tryz.ntmps43;go_wp2_with fail;refine(HRd.out _).mono ?_;rintro e w1 ⟨rfl,hb1⟩;have r4:=keep1 (g:=w.heap.size) (cs:=copsA c d) hb1 (by go_simp) (by go_simp) (by go_simp);have r1:=keep1 (g:=w.heap.size+1) (cs:=recA r) hb1 (by go_simp) (by go_simp) (by go_simp);have r2:=keep1 (g:=w.heap.size+1+1) (cs:=copsA Cop.zero Cop.zero) hb1 (by go_simp) (by go_simp) (by go_simp);have r3:=keep1 (g:=w.heap.size+1+1+1) (cs:=copsA Cop.zero Cop.zero) hb1 (by go_simp) (by go_simp) (by go_simp);have HB:=qH (((((bL _).alloc (by simp) _).alloc (by simp;omega) _).alloc (by simp;omega) _).trans (hb1.mono (B':=w.heap.size) (by simp;omega)));clear hb1;go_wp2_with fail;refine(recCheckA_calls {r with gen:=was.gen+1} _).mono ?_;rintro e w1 ⟨rfl,hb1⟩;have r5:=keep1 (g:=w.heap.size) (cs:=copsA c d) hb1 (by go_simp) (by go_simp) (by go_simp);have r5:=keep1 (g:=w.heap.size+1) (cs:=recA {r with gen:=was.gen+1}) hb1 (by go_simp) (by go_simp) (by go_simp);have r5:=keep1 (g:=w.heap.size+1+1) (cs:=copsA Cop.zero Cop.zero) hb1 (by go_simp) (by go_simp) (by go_simp);have r5:=keep1 (g:=w.heap.size+1+1+1) (cs:=copsA Cop.zero Cop.zero) hb1 (by go_simp) (by go_simp) (by go_simp);have hs:=HB.out.size;have HB1:Hid (Below w.heap.size w w1):=((HB.out.setCell (p:=⟨w.heap.size+1,0,none⟩) (by simp) (iv (was.gen+1))).alloc (by simp;omega) (.cells (recA was) 29)).trans (hb1.mono (by simp;omega));have hs1:=HB1.out.size;clear hb1 r4 r1 r2 r3 hs;by_cases hz:recCheck {r with gen:=was.gen+1}=0
 ·have hz':(recCheck {r with gen:=was.gen+1} !=0)=false:=by simp[hz]
  have HE:=qH (HW.out.trans (if_pos hz));clear hz HW;rcases hk with rfl|rfl
  ·have HP1:=qH (HP.out.trans (if_pos rfl))
   cases torn
   ·go_wp2_with fail;refine bodyPost_ret (results_ct rfl rfl (cs:=copsA c ⟨true,{r with gen:=was.gen+1}⟩) (by go_simp) (by go_simp) (by first|(go_simp;done)|(go_simp;kernel_rfl))) rfl ⟨by rw[HE.out,HP1.out];rfl,?_⟩;exact x0ap
   go_wp2_with fail;refine bodyPost_ret (results_ct rfl rfl (cs:=copsA c Cop.zero) (by go_simp) (by go_simp) (by first|(go_simp;done)|(go_simp;kernel_rfl))) rfl ⟨by rw[HE.out,HP1.out];rfl,?_⟩;exact x0ap
  have HP1:=qH (HP.out.trans (if_neg (by decide)))
  cases torn
  ·go_wp2_with fail;refine bodyPost_ret (results_ct rfl rfl (cs:=copsA ⟨true,{r with gen:=was.gen+1}⟩ d) (by go_simp) (by go_simp) (by first|(go_simp;done)|(go_simp;kernel_rfl))) rfl ⟨by rw[HE.out,HP1.out];rfl,?_⟩;exact x0ap
  go_wp2_with fail;refine bodyPost_ret (results_ct rfl rfl (cs:=copsA Cop.zero d) (by go_simp) (by go_simp) (by first|(go_simp;done)|(go_simp;kernel_rfl))) rfl ⟨by rw[HE.out,HP1.out];rfl,?_⟩;exact x0ap
 have hz':(recCheck {r with gen:=was.gen+1} !=0)=true:=by simp[hz]
 have HE:=qH (HW.out.trans (if_neg hz));clear hz HW HP hk;go_wp2_with fail;refine bodyPost_ret (results_ct rfl rfl (cs:=copsA Cop.zero Cop.zero) (by go_simp) (by go_simp) (by first|(go_simp;done)|(go_simp;kernel_rfl))) rfl ⟨by rw[HE.out];rfl,?_⟩;exact x0ap
theorem write_calls(c d:Cop)(r:Rec)(torn:Bool)(w:World):Calls Tryz.prog 43 #[.agg (copsA c d),.agg (recA r),.bool torn] w
  (RetB w (.tuple #[.agg (copsA (recWrite c d r torn).1.1 (recWrite c d r torn).1.2),iv (recWrite c d r torn).2])):=by
 by_cases h:copCheck c d=0
 ·exact write_ok c d r torn w h
 have e:recWrite c d r torn=((Cop.zero,Cop.zero),copCheck c d):=by unfold recWrite;rw[if_neg h]
 rw[e];exact write_bad c d r torn w h
theorem x4b3(h:Y:=by
 repeat (first|exact hA|refine bR ?_ _|refine bC ?_ _|refine bA ?_ _|refine Below.drew ?_)):Y:=h
theorem start_calls(r:Rec)(w:World):Calls Tryz.prog 42 #[.agg (recA r)] w (RetB w (.tuple #[iv (recStart r).1,.agg (recA (recStart r).2.1),iv (recStart r).2.2])):=by
 go_enter Tryz.func42,Tryz.ntmps42;go_wp2_with fail;refine(recCheckA_calls r _).mono ?_;rintro e w1 ⟨rfl,hb1⟩;have r2:=keep1 (g:=w.heap.size) (cs:=recA r) hb1 (by go_simp) (by go_simp) (by go_simp);have r1:=keep1 (g:=w.heap.size+1) (cs:=recA Rec.zero) hb1 (by go_simp) (by go_simp) (by go_simp);have HB:=qH (((bL _).alloc (by simp) _).trans (hb1.mono (B':=w.heap.size) (by simp;omega)));have hs:=HB.out.size;clear hb1;by_cases hz:recCheck r=0
 ·have hz':(recCheck r !=0)=false:=by simp[hz]
  have hrg:=recCheck_range0 hz;have hg1:=hrg.2.2.1;have hg1:=hrg.2.2.2.1;have hg1:=hrg.2.2.2.2.1;have hg1:=hrg.2.2.2.2.2.1
  cases ht:r.trying
  ·have hE:recStart r=(r.active,r,0):=by unfold recStart;rw[if_pos hz,if_neg (by simp[ht])]
   have HE:=qH hE;clear hE hrg hz;go_wp2_with fail;go_region
   all_goals (
    go_wp2_with fail;refine bodyPost_ret (results_tct rfl rfl (cs:=recA r) (by go_simp) (by go_simp) (by go_simp)) rfl ⟨by rw[HE.out];rfl,?_⟩;exact x4b3)
  by_cases h1:r.tries=0
  ·have hE:recStart r=(r.active,{r with trying:=false},0):=by unfold recStart;rw[if_pos hz,if_pos ht,if_pos h1]
   have h0':(r.tries==0)=true:=by simp[h1]
   have HE:=qH hE;clear hE hrg hz h1;go_wp2_with fail;go_region
   all_goals (
    go_wp2_with fail;refine bodyPost_ret (results_tct rfl rfl (cs:=recA {r with trying:=false}) (by go_simp) (by go_simp) (by go_simp)) rfl ⟨by rw[HE.out];rfl,?_⟩;exact x4b3)
  have hE:recStart r=(1-r.active,{r with tries:=r.tries-1},0):=by unfold recStart;rw[if_pos hz,if_pos ht,if_neg h1]
  have h0':(r.tries==0)=false:=by simp[h1]
  have HE:=qH hE;clear hE hrg hz h1;go_wp2_with fail;go_region
  all_goals (
   go_wp2_with fail;refine bodyPost_ret (results_tct rfl rfl (cs:=recA {r with tries:=r.tries-1}) (by go_simp) (by go_simp) (by go_simp)) rfl ⟨by rw[HE.out];rfl,?_⟩;exact x4b3)
 have hz':(recCheck r !=0)=true:=by simp[hz]
 have hE:recStart r=(0,Rec.zero,recCheck r):=by unfold recStart;rw[if_neg hz]
 have HE:=qH hE;clear hE hz;go_wp2_with fail;all_goals (
  go_wp2_with fail;refine bodyPost_ret (results_tct rfl rfl (cs:=recA Rec.zero) (by go_simp) (by go_simp) (by go_simp)) rfl ⟨by rw[HE.out];rfl,?_⟩;exact x4b3)
section
open Go.RowKit
end
end Go.Proofs.YtefkfglkpebbmadGreat
