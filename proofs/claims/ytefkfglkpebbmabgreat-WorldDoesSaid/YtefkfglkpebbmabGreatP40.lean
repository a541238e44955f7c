/- Walks. No conditions. -/
import Derived.Test.YtefkfglkpebbmabGreatPE3
import Derived.Test.YtefkfglkpebbmabGreatP10
set_option linter.all false
set_option maxRecDepth 100000
set_option maxHeartbeats 0
namespace Go.Proofs.YtefkfglkpebbmabGreat
open Go.RowKit
variable {Y:Prop}
variable {w:World} {x:Wor} {d:Dev} {r:Rec}
structure WLoc where
 ar:Option Addr
 cr:Nat
 l:DLoc
 an:Option Addr
 cn:Nat
def WLoc.zero:WLoc:=⟨none,0,DLoc.zero,none,0⟩
def worA(x:Wor)(L:WLoc):Array Value:=#[.slice L.ar x.rel.length L.cr,.slice L.l.a0 x.d.s0.length L.l.c0,.slice L.l.a1 x.d.s1.length L.l.c1,.bool x.d.c0.ok,iv x.d.c0.r.gen,iv x.d.c0.r.active,.bool x.d.c0.r.trying,iv x.d.c0.r.tries,iv x.d.c0.r.floor,iv x.d.c0.r.a.ver,iv x.d.c0.r.a.size,iv x.d.c0.r.a.sum,iv x.d.c0.r.b.ver,iv x.d.c0.r.b.size,iv x.d.c0.r.b.sum,.bool x.d.c1.ok,iv x.d.c1.r.gen,iv x.d.c1.r.active,.bool x.d.c1.r.trying,iv x.d.c1.r.tries,iv x.d.c1.r.floor,iv x.d.c1.r.a.ver,iv x.d.c1.r.a.size,iv x.d.c1.r.a.sum,iv x.d.c1.r.b.ver,iv x.d.c1.r.b.size,iv x.d.c1.r.b.sum,.bool x.d.up,iv x.d.running,.slice L.l.ag x.d.got.length L.l.cg,.bool x.d.busy,iv x.d.job.from_,iv x.d.job.to_,iv x.d.job.old,iv x.d.job.new_,iv x.d.job.size,.slice L.l.aj x.d.job.ops.length L.l.cj,iv x.d.done,.slice L.an x.net.length L.cn]
@[go_sem] theorem worA_size(x:Wor)(L:WLoc):(worA x L).size=39:=by simp[worA]
@[go_sem] theorem worA_one(x:Wor)(L:WLoc):allOne (worA x L)=true:=by simp[worA,allOne,Value.oneCell']
@[go_sem] theorem worA_at0(x:Wor)(L:WLoc)(h:0<(worA x L).size):(worA x L)[0]'h=.slice L.ar x.rel.length L.cr:=by simp[worA]
@[go_sem] theorem worA_at2(x:Wor)(L:WLoc)(h:2<(worA x L).size):(worA x L)[2]'h=.slice L.l.a1 x.d.s1.length L.l.c1:=by simp[worA]
@[go_sem] theorem worA_at28(x:Wor)(L:WLoc)(h:28<(worA x L).size):(worA x L)[28]'h=iv x.d.running:=by simp[worA]
@[go_sem] theorem worA_at38(x:Wor)(L:WLoc)(h:38<(worA x L).size):(worA x L)[38]'h=.slice L.an x.net.length L.cn:=by simp[worA]
@[go_sem] theorem worA_all(x:Wor)(L:WLoc):(worA x L).extract 0 39=worA x L:=by simp[worA]
@[go_sem] theorem worA_ex1_38(x:Wor)(L:WLoc):(worA x L).extract 1 38=devA x.d L.l:=by simp[worA,devA]
@[go_sem] theorem worA_ex3_27(x:Wor)(L:WLoc):(worA x L).extract 3 27=copsA x.d.c0 x.d.c1:=by simp[worA,copsA]
@[go_sem] theorem worA_set_net(x:Wor)(L:WLoc)(l:List Chk)(A:OA)(c:Nat):(worA x L).setIfInBounds 38 (.slice A l.length c)=worA {x with net:=l} {L with an:=A,cn:=c}:=by simp[worA]
@[go_sem] theorem worA_splice_dev(x:Wor)(L:WLoc)(d:Dev)(K:DLoc):splice (worA x L) 1 (devA d K)=worA {x with d:=d} {L with l:=K}:=by simp[splice,worA,devA]
@[go_sem] theorem aggSzWor:aggSz Tryz.prog 40=39:=by kernel_rfl
@[go_sem] theorem zero_wor:Value.agg #[.slice none 0 0,.slice none 0 0,.slice none 0 0,.bool false,iv 0,iv 0,.bool false,iv 0,iv 0,iv 0,iv 0,iv 0,iv 0,iv 0,iv 0,.bool false,iv 0,iv 0,.bool false,iv 0,iv 0,iv 0,iv 0,iv 0,iv 0,iv 0,iv 0,.bool false,iv 0,.slice none 0 0,.bool false,iv 0,iv 0,iv 0,iv 0,iv 0,.slice none 0 0,iv 0,.slice none 0 0]=Value.agg (worA Wor.zero WLoc.zero):=by simp[worA,Wor.zero,WLoc.zero,Dev.zero,DLoc.zero,Cop.zero,Rec.zero,Inf.zero,Pat.zero]
structure WorIn(w:World)(x:Wor)(L:WLoc):Prop where
 kr:x.rel.length<=L.cr
 lr:x.rel.length<=5864062014634
 rel:Ims w L.ar x.rel
 dev:DevIn w x.d L.l
 kn:x.net.length<=L.cn
 ln:x.net.length<=2513169434843
 net:Chs w L.an x.net
theorem WorIn.stays{w':World}{L:WLoc}(h:WorIn w x L)(hb:Below w.heap.size w w'):WorIn w' x L:=
 ⟨h.kr,h.lr,h.rel.stays hb,h.dev.stays hb,h.kn,h.ln,h.net.stays hb⟩
theorem WorIn.zero(w:World):WorIn w Wor.zero WLoc.zero:=
 ⟨nl,by simp[Wor.zero],fun i hi=>absurd hi (by simp[Wor.zero]),DevIn.zero w,nl,by simp[Wor.zero],Chs.nil _ _⟩
def FrIn(base m:Nat)(w:World)(P:World->Prop):Prop:=∀v:World,(∀k,base<=k->k<m->v.heap[k]?=w.heap[k]?)->P v
section
variable {base m:Nat} {w v:World} {P Q:World->Prop}
theorem Fresh.frIn(h:Fresh base w P):FrIn base w.heap.size w P:=fun v hv=>h v hv
theorem FrIn.of(h:FrIn base m w P)(hv:∀k,base<=k->k<m->v.heap[k]?=w.heap[k]?):FrIn base m v P:=fun u hu=>h u fun k h1 h2=>(hu k h1 h2).trans (hv k h1 h2)
theorem FrIn.wider{b2 m2:Nat}(h:FrIn base m w P)(hb:b2<=base)(hm:m<=m2):FrIn b2 m2 w P:=fun v hv=>h v fun k h1 h2=>hv k (by omega) (by omega)
theorem FrIn.now(h:FrIn base m w P):P w:=h w fun _ _ _=>rfl
end
structure WorAt(w:World)(base m top:Nat)(ds:List (Option Addr×Nat))(x:Wor)(L:WLoc):Prop where
 h1:base<=m
 h2:m<=top
 h3:top<=w.heap.size
 rel:FrIn base m w (fun v=>Ims v L.ar x.rel)
 dev:FrIn base m w (fun v=>DevIn v x.d L.l)
 net:GRow kChk w m x.net ds L.an L.cn
 each:Each kChk x.net ds (fun k=>m<=k∧k<top)
 blk:∀k,L.an.map (·.block)=some k->k<top
 bd:∀y∈x.net,ChkB y
 kr:x.rel.length<=L.cr
 lr:x.rel.length<=5864062014634
 ln:x.net.length<=2513169434843
theorem GRow.ex{α:Type}{K:Kd α}{v:World}{base c:Nat}{l:List α}{ds:List (Option Addr×Nat)}{A:OA}(h:GRow K w base l ds A c)(hA:∀k,A.map (·.block)=some k->v.heap[k]?=w.heap[k]?)(hd:Each K l ds (fun k=>v.heap[k]?=w.heap[k]?)):GRow K v base l ds A c:=by
 refine⟨h.len,h.row.same hA,fun i o d h1 h2=>⟨fun j hj=>?_,(h.data i o d h1 h2).2⟩,h.off⟩;obtain⟨b,o1,e1,hl1,hc⟩:=(h.data i o d h1 h2).1 j hj;have hx:K.dat o≠[]:=fun e=>by rw[e]at hj;simp at hj
 have hb:v.heap[b]?=w.heap[b]?:=hd i o d h1 h2 hx b (by rw[e1];rfl);have hlt:b<v.heap.size:=by
  rcases Nat.lt_or_ge b v.heap.size with h|h
  ·exact h
  rw[Array.getElem?_eq_none h,Array.getElem?_eq_getElem hl1]at hb;cases hb
 exact⟨b,o1,e1,hlt,(World.cell?_of_block hb).trans hc⟩
section
variable {w v:World} {base m top:Nat} {ds:List (Option Addr×Nat)} {x:Wor} {L:WLoc}
theorem WorAt.netEx(h:WorAt w base m top ds x L)(hv:∀k,base<=k->k<top->v.heap[k]?=w.heap[k]?):GRow kChk v m x.net ds L.an L.cn:=by
 have h1:=h.h1;exact h.net.ex (fun k e=>hv k (by have:=(h.net.row.block k e).1;omega) (h.blk k e)) (h.each.imp fun k hk=>hv k (by omega) hk.2)
theorem WorAt.same(h:WorAt w base m top ds x L)(hv:∀k,base<=k->k<top->v.heap[k]?=w.heap[k]?)(hm:top<=v.heap.size):WorAt v base m top ds x L:=by
 have h2:=h.h2;exact⟨h.h1,h.h2,hm,h.rel.of fun k a b=>hv k a (by omega),h.dev.of fun k a b=>hv k a (by omega),h.netEx hv,h.each,h.blk,h.bd,h.kr,h.lr,h.ln⟩
theorem WorAt.wex(h:WorAt w base m top ds x L)(hv:∀k,base<=k->k<top->v.heap[k]?=w.heap[k]?):WorIn v x L:=by
 have h1:=h.h2;exact⟨h.kr,h.lr,h.rel v (fun k a b=>hv k a (by omega)),h.dev v (fun k a b=>hv k a (by omega)),h.net.row.le,h.ln,(h.netEx hv).src.chs h.bd⟩
end
def WcRet(w:World)(x:Wor):Ending->World->Prop:=fun en w'=>
 ∃L m ds,en=.returned (.agg (worA x L))∧WorAt w' (w.heap.size+2) m w'.heap.size ds x L∧Below w.heap.size w w'
def WvRet(w:World)(x:Wor)(n:Int):Ending->World->Prop:=fun en w'=>
 ∃L,en=.returned (.tuple #[.agg (worA x L),iv n])∧Fresh w.heap.size w' (fun v=>WorIn v x L)∧Below w.heap.size w w'
theorem big_wor'(n:Nat)(h:0<n):bigBuild Tryz.prog 40 n:=by
 obtain⟨i,hi,_⟩:=info_parts (P:=Tryz.prog) (e:=40) (z:=.agg (worA Wor.zero WLoc.zero)) (size:=39) (bytes:=408) (by kernel_rfl);exact⟨i,hi,h⟩
@[go_sem] theorem big_wor2:bigBuild Tryz.prog 40 2:=big_wor' 2 (by decide)
@[go_sem] theorem big_wor3:bigBuild Tryz.prog 40 3:=big_wor' 3 (by decide)
@[go_sem] theorem build_wor2(a:OA)(c:Nat)(l:List (List UInt8))(d:Dev)(K:DLoc)(w:World):runBuild Tryz.prog 40 #[(0,.slice a l.length c),(1,.agg (devA d K))] w=.ok (.agg (worA ⟨l,d,[]⟩ ⟨a,c,K,none,0⟩)) w:=by kernel_rfl
@[go_sem] theorem build_wor3(a:OA)(c:Nat)(l:List (List UInt8))(d:Dev)(K:DLoc)(b:OA)(e:Nat)(t:List Chk)(w:World):runBuild Tryz.prog 40 #[(0,.slice a l.length c),(1,.agg (devA d K)),(2,.slice b t.length e)] w=.ok (.agg (worA ⟨l,d,t⟩ ⟨a,c,K,b,e⟩)) w:=by kernel_rfl
def Bex(g base:Nat)(w w':World):Prop:=Below 0 w w'∧∀k,k<base->k≠g->w'.heap[k]?=w.heap[k]?
section
variable {g base:Nat} {w w' w2:World}
theorem Bex.refl(g base:Nat)(w:World):Bex g base w w:=⟨Below.refl _ _,fun _ _ _=>rfl⟩
theorem Bex.below(h:Bex g base w w')(hb:Below w'.heap.size w' w2)(hg:g<=w'.heap.size)(hs:base<=w'.heap.size):Bex g base w w2:=⟨h.1.trans (hb.mono (Nat.zero_le _)),fun k h1 h2=>(hb.block k (by omega)).trans (h.2 k h1 h2)⟩
theorem Bex.row(h:Bex g base w w'){q:Nat}(hq:q=g∨base<=q)(cs:Array Value):Bex g base w (w'.setRow q cs):=⟨below_row h.1 (Nat.zero_le _) _,fun k h1 h2=>(setRow_other _ _ _ _ (by omega)).trans (h.2 k h1 h2)⟩
theorem Bex.alloc(h:Bex g base w w')(hg:g<=w'.heap.size)(hs:base<=w'.heap.size)(o:Obj):Bex g base w (w'.alloc o):=h.below (bL o) hg hs
theorem Bex.to(h:Bex g base w w'){B:Nat}(h1:B<=g)(h2:B<=base):Below B w w':=⟨h.1.os,h.1.tape,h.1.output,h.1.size,fun k hk=>h.2 k (by omega) (by omega)⟩
end
def HaRet(w:World)(g base:Nat)(x:Wor)(n:Int):Ending->World->Prop:=fun en w'=>
 en=.returned (iv n)∧(n=0->∃L,rowOf w' g=worA x L∧frOf w' g=(0,0)∧∀v:World,(∀k,base<=k->k≠g->k<w'.heap.size->v.heap[k]?=w'.heap[k]?)->WorIn v x L)∧Bex g base w w'∧w.heap.size<=w'.heap.size
theorem rowOf_heap{w':World}{g:Nat}(h:w'.heap[g]?=w.heap[g]?):rowOf w' g=rowOf w g∧frOf w' g=frOf w g:=by unfold rowOf frOf;rw[h];exact⟨rfl,rfl⟩
def HapOk(kd n:Int):Prop:=∀(g base m top:Nat) (ds:List (Option Addr×Nat)) (x:Wor) (L:WLoc) (w:World),rowOf w g=worA x L->frOf w g=(0,0)->(g<base∨top<=g)->WorAt w base m top ds x L->WorOk x->I64 n->Calls Tryz.prog 18 #[.pointer (some ⟨g,0,none⟩),.agg #[iv kd,iv n]] w (HaRet w g base (worHappen x kd n).1 (worHappen x kd n).2)
structure CbJ{α:Type}(w0:World)(ci cm e0 e1 al st a1:Nat)(row:α->Array Value)(zr:Array Value)(n:Int)(R:α->Nat->World->Prop)(x:α)(b gb:Nat)(w2:World)(dn:Nat->Bool)(cv:Nat->Value)(w:World):Prop where
 bel:Below w0.heap.size w0 w
 call:dn ci=true->cv ci=.tuple #[.agg (row x),iv n]∧w0.heap.size<=b∧R x b w2∧Kp b w2 w∧w2.heap.size<=w.heap.size
 v1:dn cm=true->cv cm=.tuple #[.agg (row x),iv n]
 v2:dn e0=true->cv e0=.agg (row x)
 v3:dn e1=true->cv e1=iv n
 v4:dn a1=true->cv a1=iv n
 box:dn al=true->cv al=.pointer (some ⟨gb,0,none⟩)∧w0.heap.size<=gb∧gb<w.heap.size∧frOf w gb=(0,0)∧(dn st=false->rowOf w gb=zr)∧(dn st=true->rowOf w gb=row x)
 apart:dn ci=true->dn al=true->gb<b∨w2.heap.size<=gb
def cbJ{α:Type}(w0:World)(ci cm e0 e1 al st a1:Nat)(row:α->Array Value)(zr:Array Value)(n:Int)(R:α->Nat->World->Prop)(dn:Nat->Bool)(cv:Nat->Value)(w:World):Prop:=
 ∃(x:α) (b gb:Nat) (w2:World),CbJ w0 ci cm e0 e1 al st a1 row zr n R x b gb w2 dn cv w
section
variable {α:Type} {w0 w w':World} {ci cm e0 e1 al st a1:Nat} {row:α->Array Value} {zr:Array Value} {n:Int} {R:α->Nat->World->Prop} {dn:Nat->Bool} {cv:Nat->Value}
theorem cbJ_start(x:α):cbJ w0 ci cm e0 e1 al st a1 row zr n R (fun _=>false) (fun _=>undef) w0.drew:=
 ⟨x,0,0,w0,(Below.refl _ _).drew,by simp,by simp,by simp,by simp,by simp,by simp,by simp⟩
theorem cbJ_bel(h:cbJ w0 ci cm e0 e1 al st a1 row zr n R dn cv w):Below w0.heap.size w0 w:=by
 obtain⟨_,_,_,_,h⟩:=h;exact h.bel
theorem cbJ_c(h2:dn cm=false)(h3:dn e0=false)(h4:dn e1=false)(h5:dn a1=false)(h7:dn st=false)(n1:cm≠ci)(n2:e0≠ci)(n3:e1≠ci)(n4:a1≠ci)(n5:al≠ci)(n6:st≠ci)(h:cbJ w0 ci cm e0 e1 al st a1 row zr n R dn cv w){x:α}(hp:R x w.heap.size w')(hb:Below w.heap.size w w'):
  cbJ w0 ci cm e0 e1 al st a1 row zr n R (fun j=>if j=ci then true else dn j) (fun j=>if j=ci then .tuple #[.agg (row x),iv n] else cv j) w':=by
 obtain⟨x1,b1,gb,w1,h⟩:=h;have hs:=h.bel.size;refine⟨x,w.heap.size,gb,w',h.bel.trans (hb.mono hs),fun _=>⟨by simp,hs,hp,Kp.refl _ _,nl⟩,by simp[n1,h2],by simp[n2,h3],by simp[n3,h4],by simp[n4,h5],?_,?_⟩
 ·simp only[n5,n6,if_false];intro ha;obtain⟨g1,g2,g3,g4,g5,g6⟩:=h.box ha;exact⟨g1,g2,Nat.lt_of_lt_of_le g3 hb.size,(frOf_below g3 hb).trans g4,fun e=>(rowOf_below g3 hb).trans (g5 e),fun e=>by rw[h7]at e;cases e⟩
 simp only[n5,if_false];exact fun _ ha=>.inl (h.box ha).2.2.1
theorem cbJ_k{k:Nat}{v:Value}(hne:ci≠k)(hal:al≠k)(hst:st≠k)(h:cbJ w0 ci cm e0 e1 al st a1 row zr n R dn cv w)
  (hv:∀x,(dn ci=true->cv ci=.tuple #[.agg (row x),iv n])->(dn cm=true->cv cm=.tuple #[.agg (row x),iv n])->(dn e0=true->cv e0=.agg (row x))->(dn e1=true->cv e1=iv n)->(cm=k->v=.tuple #[.agg (row x),iv n])∧(e0=k->v=.agg (row x))∧(e1=k->v=iv n)∧(a1=k->v=iv n)):
  cbJ w0 ci cm e0 e1 al st a1 row zr n R (fun j=>if j=k then true else dn j) (fun j=>if j=k then v else cv j) w:=by
 obtain⟨x,b,gb,w1,h⟩:=h;obtain⟨v1,v2,v3,v4⟩:=hv x (fun e=>(h.call e).1) h.v1 h.v2 h.v3;have key:∀(q:Nat) (y:Value),(dn q=true->cv q=y)->(q=k->v=y)->((if q=k then true else dn q)=true->(if q=k then v else cv q)=y):=by
  intro q y h1 h2 h3;by_cases e:q=k
  ·rw[if_pos e];exact h2 e
  rw[if_neg e]at h3⊢;exact h1 h3
 refine⟨x,b,gb,w1,h.bel,by simp only[hne,if_false];exact h.call,key _ _ h.v1 v1,key _ _ h.v2 v2,key _ _ h.v3 v3,key _ _ h.v4 v4,by simp only[hal,hst,if_false];exact h.box,by simp only[hne,hal,if_false];exact h.apart⟩
theorem cbJ_a{ty:TypeId}(hz:0<zr.size)(hal:dn al=false)(hs:dn st=false)(n1:cm≠al)(n2:e0≠al)(n3:e1≠al)(n4:a1≠al)(n5:ci≠al)(n6:st≠al)(h:cbJ w0 ci cm e0 e1 al st a1 row zr n R dn cv w):
  cbJ w0 ci cm e0 e1 al st a1 row zr n R (fun j=>if j=al then true else dn j) (fun j=>if j=al then .pointer (some ⟨w.heap.size,0,none⟩)else cv j) (w.alloc (.cells zr ty)):=by
 obtain⟨x,b,gb,w1,h⟩:=h;have hsz:=h.bel.size;refine⟨x,b,w.heap.size,w1,h.bel.alloc hsz _,?_,by simpa[n1]using h.v1,by simpa[n2]using h.v2,by simpa[n3]using h.v3,by simpa[n4]using h.v4,?_,?_⟩
 ·simp only[n5,if_false];intro e;obtain⟨g1,g2,g3,g4,g5⟩:=h.call e;exact⟨g1,g2,g3,g4.alloc g5 _,by simp;omega⟩
 ·simp only[n6,if_false,if_true];refine fun _=>⟨trivial,hsz,by simp,by rw[frOf_alloc,if_pos rfl],fun _=>by rw[rowOf_alloc,if_pos rfl],fun e=>by rw[hs]at e;cases e⟩
 simp only[n5,if_false];intro e _;exact .inr (h.call e).2.2.2.2
theorem cbJ_s(hz:0<zr.size)(hd:dn ci=true)(hs:dn st=false)(hal:dn al=true)(he0:dn e0=true)(n1:cm≠st)(n2:e0≠st)(n3:e1≠st)(n4:a1≠st)(n5:ci≠st)(n6:al≠st)(h:cbJ w0 ci cm e0 e1 al st a1 row zr n R dn cv w){v:Value}:
  ∃(x:α) (gb:Nat),cv al=.pointer (some ⟨gb,0,none⟩)∧cv e0=.agg (row x)∧rowOf w gb=zr∧frOf w gb=(0,0)∧cbJ w0 ci cm e0 e1 al st a1 row zr n R (fun j=>if j=st then true else dn j) (fun j=>if j=st then v else cv j) (w.setRow gb (row x)):=by
 obtain⟨x,b,gb,w1,h⟩:=h;obtain⟨b1,b2,b3,b4,b5,b6⟩:=h.box hal;have hr:=b5 hs;refine⟨x,gb,b1,h.v2 he0,hr,b4,x,b,gb,w1,below_row h.bel b2 _,?_,by simpa[n1]using h.v1,by simpa[n2]using h.v2,by simpa[n3]using h.v3,by simpa[n4]using h.v4,?_,?_⟩
 ·simp only[n5,if_false];intro e;obtain⟨g1,g2,g3,g4,g5⟩:=h.call e;exact⟨g1,g2,g3,g4.row (h.apart e hal) _,by simp[World.setRow];exact g5⟩
 ·simp only[n6,if_false,if_true];refine fun _=>⟨b1,b2,by simp[World.setRow];exact b3,by rw[frOf_setRow];exact b4,fun e=>by simp at e,fun _=>by rw[rowOf_setRow _ _ _ _ (by rw[hr];exact hz),if_pos rfl]⟩
 simp only[n5,n6,if_false];exact h.apart
theorem cbJ_end(h1:dn ci=true)(h2:dn cm=true)(h3:dn e0=true)(h4:dn e1=true)(h5:dn a1=true)(h6:dn al=true)(h7:dn st=true)(h:cbJ w0 ci cm e0 e1 al st a1 row zr n R dn cv w):
  ∃(x:α) (b gb:Nat) (w2:World),cv ci=.tuple #[.agg (row x),iv n]∧cv cm=.tuple #[.agg (row x),iv n]∧cv e0=.agg (row x)∧cv e1=iv n∧cv a1=iv n∧cv al=.pointer (some ⟨gb,0,none⟩)∧
   rowOf w gb=row x∧frOf w gb=(0,0)∧w0.heap.size<=gb∧gb<w.heap.size∧Below w0.heap.size w0 w∧w0.heap.size<=b∧R x b w2∧Kp b w2 w∧w2.heap.size<=w.heap.size∧(gb<b∨w2.heap.size<=gb):=by
 obtain⟨x,b,gb,w1,h⟩:=h;obtain⟨g1,g2,g3,g4,g5⟩:=h.call h1;obtain⟨b1,b2,b3,b4,b5,b6⟩:=h.box h6;exact⟨x,b,gb,w1,g1,h.v1 h2,h.v2 h3,h.v3 h4,h.v4 h5,b1,b6 h7,b4,b2,b3,h.bel,g2,g3,g4,g5,h.apart h1 h6⟩
end
theorem wp_alloc{P:Program}{a:Act}{K:Act->World->Prop}{Q:Exit->Act->World->Prop}{ty t:TypeId}{p:String}{af:Array Edge}{gd:Option (Nat×Bool)}{d:Tmp}{zr:Array Value}(he:∀ev:Operand->Value,(execOp ev ⟨some d,.alloc ty,t,p,af,gd⟩).run P w=.ok (.value (.pointer (some ⟨w.heap.size,0,none⟩))) (w.alloc (.cells zr ty)))
  (h:K (a.put (some d) (.pointer (some ⟨w.heap.size,0,none⟩))) (w.alloc (.cells zr ty))):Oper.wp P ⟨some d,.alloc ty,t,p,af,gd⟩ a w K Q:=by
 unfold Oper.wp;rw[he];exact h
theorem relCheck_bad{l:List (List UInt8)}(h:l=[]∨30<l.length∨∃b∈l,64<b.length):relCheck l=1:=by unfold relCheck;rw[if_pos h]
theorem relCheck_fine{l:List (List UInt8)}(h:¬(l=[]∨30<l.length∨∃b∈l,64<b.length)):relCheck l=0:=by unfold relCheck;rw[if_neg h]
theorem releases_calls(A:OA)(c:Nat)(l:List (List UInt8))(w:World)(hc:l.length<=c)(hl:l.length<=5864062014634)(hs:Ims w A l):
  Calls Tryz.prog 14 #[.slice A l.length c] w (Ret w (iv (relCheck l))):=by
 by_cases h1:l=[]
 ·subst h1;rw[relCheck_bad (.inl rfl)];go_enter Tryz.func14,Tryz.ntmps14;exact x1gi
 have hpos:0<l.length:=List.length_pos_iff.2 h1;by_cases h2:30<l.length
 ·rw[relCheck_bad (.inr (.inl h2))];have q1:¬((l.length:Int)=0):=by omega
  have q2:(30:Int)<(l.length:Int):=by omega
  have q3:((l.length:Int)==0)=false:=by simp;omega
  clear h1;go_enter Tryz.func14,Tryz.ntmps14;exact x1gi
 obtain⟨r,hr⟩:=eX (relCheck l);rw[hr];have HR:Hid (r=if ∃b∈l,64<b.length then 1 else 0):=qH (by
  rw[<-hr];by_cases h3:∃b∈l,64<b.length
  ·rw[relCheck_bad (.inr (.inr h3)),if_pos h3]
  rw[relCheck_fine (fun h=>h.elim h1 (fun h=>h.elim h2 h3)),if_neg h3])
 have HS:=qH hs;have q1:¬((l.length:Int)=0):=by omega
 have q2:¬(30:Int)<(l.length:Int):=by omega
 have q3:((l.length:Int)==0)=false:=by simp;omega
 have hcap:(l.length:Int)<=(c:Int):=by omega
 clear hr hs h1 hpos;go_enter Tryz.func14,Tryz.ntmps14;go_wp2_with fail;go_loopw [15] (fun i wr=>∃k:Nat,k<=l.length∧i=iv k∧wr=w∧Hid (∀b∈l.take k,b.length<=64)) (fun i _=>l.length-(intOf i).toNat)
 case atStart=>exact⟨0,Nat.zero_le _,rfl,rfl,qH (by simp)⟩
 case round=>
  obtain⟨k,hk,rfl,rfl,HB⟩:=hrel;by_cases hlt:k<l.length
  ·obtain⟨b,o,rfl,hb,cs,hcl,hcc,B,d,rfl,hd1,hd2,hd3⟩:=HS.out k hlt;obtain⟨x,hx⟩:=eX (l[k]);have q4:wr.cell? ⟨b,o+k,none⟩=some (.slice B x.length d):=by have:=hcc 0 (by simp);rw[hx]at this;simpa using this
   have hwk:IntKind.i64.wrap ((k:Int)+1)=(k:Int)+1:=IntWalk.i64_in _ (by omega);have HX:=qH hx;by_cases h1:64<x.length
   ·have hz:r=1:=by rw[HR.out,if_pos ⟨x,by rw[<-HX.out];exact List.getElem_mem hlt,h1⟩]
    subst hz;have q:(64:Int)<(x.length:Int):=by omega
    clear hcc hcl hd1 hd2 hd3 hx;exact x1gi
   have q:¬(64:Int)<(x.length:Int):=by omega
   have HB1:Hid (∀b∈l.take (k+1),b.length<=64):=qH (fun y hy=>by
    rw[List.take_succ_eq_append_getElem hlt,List.mem_append]at hy;rcases hy with hy|hy
    ·exact HB.out y hy
    have e:y=l[k]:=by simpa using hy
    rw[e,HX.out];omega)
   clear hcc hcl hd1 hd2 hd3 hx;go_wp2_with fail;go_roundw
   case rel=>exact⟨k+1,by omega,by go_num,by first|rfl|trivial,HB1⟩
   case measure=>simp[intOf];omega
  obtain rfl:k=l.length:=by omega
  have hz:r=0:=by
   rw[HR.out,if_neg];rintro⟨b,hb,h⟩;have:=HB.out b (by rw[List.take_length];exact hb);omega
  subst hz;exact x1gi
theorem opsCopy_calls(A:OA)(c:Nat)(l:List Stp)(w:World)(hl:l.length<=3518437208780)(hs:Sps w A l):
  Calls Tryz.prog 128 #[.slice A l.length c] w (KrRet kOp w l):=by
 obtain⟨ds1,hg⟩:=hs.gsrc;have hbd:=hs.bound;have HBD:=qH hbd;have HG:=qH hg;have K1:=qH (cloneOps_calls A l.length c (kOp.cells l ds1) w (cells_len _ _ hg.len) (by omega) hg.row (cells_oneCell _ _));clear hs hg hbd;go_enter Tryz.func128,Tryz.ntmps128;go_wp2_with fail;refine K1.out.mono ?_;rintro e w1 ⟨A1,c1,rfl,hown,hb1⟩;have hrow:GRow kOp w1 w.heap.size l ds1 A1 c1:=⟨HG.out.len,hown,(HG.out.stays hb1).data,fun i o d h1 h2 hx k hk e=>by
  have:=HG.out.each i o d h1 h2 hx k hk;have:=(hown.block k e).1;omega⟩
 have HR1:=qH hrow;have HB1:Hid (Below w.heap.size w w1):=qH hb1;clear hown hb1 hrow K1;go_wp2_with fail;go_loopw [9] (fun i wr=>∃(k:Nat) (ds:List (Option Addr×Nat)),k<=l.length∧i=iv k∧Hid (GRow kOp wr w.heap.size l ds A1 c1)∧Hid (∀(j:Nat) (o:Stp) (d:Option Addr×Nat),j<k->l[j]?=some o->ds[j]?=some d->kOp.dat o≠[]->∀q,d.1.map (·.block)=some q->w.heap.size<=q)∧Hid (Below w.heap.size w wr)) (fun i _=>l.length-(intOf i).toNat)
 case atStart=>exact⟨0,ds1,Nat.zero_le _,rfl,HR1,qH (fun j o d h=>by omega),HB1⟩
 case round=>
  clear HR1 HB1;rename World=>wr;obtain⟨k,ds,hk,rfl,HR,HN,HB⟩:=hrel;have hsz:=HB.out.size;by_cases hlt:k<l.length
  ·obtain⟨g,rfl,hg1,hg2⟩:=HR.out.row.form (by omega);have hlk:l[k]?=some l[k]:=List.getElem?_eq_getElem hlt;have hdk:ds[k]?=some (ds[k]'(by have:=HR.out.len;omega)):=List.getElem?_eq_getElem _;obtain⟨x,hx⟩:=eX (l[k]);obtain⟨e,he⟩:=eX (ds[k]'(by have:=HR.out.len;omega));rw[hx]at hlk;rw[he]at hdk;have hcell:∀j,j<3->wr.cell? ⟨g,k*3+j,none⟩=(kOp.cell x e)[j]?:=fun j hj=>by
    rw[HR.out.row.cellAt _ (show k*3+j<l.length*3 by omega)];exact cells_at (K:=kOp) l ds HR.out.len k j x e hlk hdk hj
   have q3:wr.cell? ⟨g,k*3,none⟩=some (iv x.at_):=hcell 0 (by decide);have q1:wr.cell? ⟨g,k*3+1,none⟩=some (iv x.len):=hcell 1 (by decide);have q2:wr.cell? ⟨g,k*3+2,none⟩=some (.slice e.1 x.data.length e.2):=hcell 2 (by decide);obtain⟨hd1,hd2⟩:=HR.out.data k x e hlk hdk;have hxl:x.data.length<=140737488351232:=(HBD.out x (List.mem_of_getElem? hlk)).2.2;have HD1:Hid (Bts wr e.1 x.data):=qH hd1;have HLK:=qH hlk;have HDK:=qH hdk;have K1:=qH (fun w h=>cloneBytes_calls e.1 x.data.length e.2 (x.data.map bv) w (by simp) (by omega) h (bv_one _));have hfr:wr.frozen? ⟨g,k*3+2,none⟩=false:=HR.out.row.frozenAt _;have dl:decide ((k:Int)<(l.length:Int))=true:=decide_eq_true (by omega);have hwk:IntKind.i64.wrap ((k:Int)+1)=(k:Int)+1:=IntWalk.i64_in _ (by omega);have hcap:(l.length:Int)<=(c1:Int):=by have:=HR.out.row.le;omega
   clear hcell hx he hlk hdk hd1 hd2;go_wp2_with fail;have hba:=(bW wr).alloc nl (.cells (#[iv x.at_,iv x.len,.slice e.1 x.data.length e.2]) 145);refine(K1.out _ (HD1.out.stays hba).src).mono ?_;rintro en w2 ⟨B,d,rfl,hob,hb1⟩;have hb2:=hba.trans (hb1.mono (by simp));have HR1:=qH (HR.out.below hb2);have hq1:w2.cell? ⟨g,k*3+2,none⟩=some (.slice e.1 x.data.length e.2):=(hb2.cell (p:=⟨g,k*3+2,none⟩) hg2).trans q2;have hf1:w2.frozen? ⟨g,k*3+2,none⟩=false:=(hb2.frozen (p:=⟨g,k*3+2,none⟩) hg2).trans hfr;have HBB:Hid (Below w.heap.size w (w2.setCell ⟨g,k*3+2,none⟩ (.slice B x.data.length d))):=qH ((HB.out.trans (hb2.mono hsz)).setCell (p:=⟨g,k*3+2,none⟩) hg1 _);have hgw:∀q,B.map (·.block)=some q->wr.heap.size+1<=q:=fun q h=>by have:=(hob.block q h).1;simpa using this
   have HR2:Hid (GRow kOp (w2.setCell ⟨g,k*3+2,none⟩ (.slice B x.data.length d)) w.heap.size l (ds.set k (B,d)) (some ⟨g,0,none⟩) c1):=qH (HR1.out.setData (e:=(B,d)) HLK.out hob.src.bts (by show x.data.length<=d;simpa using hob.le) (fun _ q h e2=>by have:=hgw q h;omega));have HN1:Hid (∀(j:Nat) (o:Stp) (d':Option Addr×Nat),j<k+1->l[j]?=some o->(ds.set k (B,d))[j]?=some d'->kOp.dat o≠[]->∀q,d'.1.map (·.block)=some q->w.heap.size<=q):=qH (fun j o d' hj h1 h2 hx q hq=>by
    exact x9r5)
   have a1:=kp (wr.heap.size) (#[iv x.at_,iv x.len,.slice e.1 x.data.length e.2]) hb1;clear hob hb1 hb2 hba q3 q1 q2 hfr hgw a1;exact x6bz
  exact x6wy
def PcRet(w:World)(p:Pat):Ending->World->Prop:=fun en w'=>
 ∃A c,en=.returned (.agg (patA p.from_ p.to_ p.old p.new_ p.size A p.ops.length c))∧Fresh w.heap.size w' (fun v=>PatIn v p A c)∧Below w.heap.size w w'
theorem patCopy_calls(B:OA)(d:Nat)(p:Pat)(w:World)(hp:PatIn w p B d):
  Calls Tryz.prog 98 #[.agg (patA p.from_ p.to_ p.old p.new_ p.size B p.ops.length d)] w (PcRet w p):=by
 obtain⟨f,t,o,n,sz,l⟩:=p;obtain⟨hcap,hlen,hops,j5,j1,j2,j3,j4⟩:=hp;dsimp only at *
 have hba:=((bW w).alloc nl (.cells (patA f t o n sz B l.length d) 36)).alloc (by simp) (.cells (patA 0 0 0 0 0 none 0 0) 36);have HBD:=qH hops.bound;have HS:=qH hops;have HI:Hid (I64 f∧I64 t∧I64 o∧I64 n∧I64 sz):=qH ⟨j5,j1,j2,j3,j4⟩;have HBA:=qH hba;clear hops hba j5 j1 j2 j3 j4;go_enter Tryz.func98,Tryz.ntmps98;go_wp2_with fail;refine(opsCopy_calls B d l _ hlen (HS.out.stays HBA.out)).mono ?_;rintro e w1 ⟨A1,c1,ds,rfl,hg,he,hb1⟩;have a2:=kp (w.heap.size) (patA f t o n sz B l.length d) hb1;have a1:=kp (w.heap.size+1) (patA 0 0 0 0 0 none 0 0) hb1;have HB1:=bT HBA hb1;have hfr:=hg.fresh he;have HF:Hid (Fresh (w.heap.size+2) w1 (fun v=>GRow kOp v (w.heap.size+2) l ds A1 c1)):=qH (by simpa using hfr);have HC:=qH hg.row.le;clear hb1 hg he hfr;go_wp2_with fail;refine bodyPost_ret (results_c rfl rfl (cs:=patA f t o n sz A1 l.length c1) (by go_simp) (by go_simp) (by go_simp)) rfl ?_;refine⟨A1,c1,rfl,?_,?_⟩
 ·refine Fresh.imp (P:=fun v=>GRow kOp v (w.heap.size+2) l ds A1 c1) (Fresh.mono (base:=w.heap.size+2) ?_ (by omega)) (fun v hv=>⟨HC.out,hlen,hv.src.sps HBD.out,HI.out.1,HI.out.2.1,HI.out.2.2.1,HI.out.2.2.2.1,HI.out.2.2.2.2⟩);repeat (first|exact HF.out|refine Fresh.row ?_ (by omega) _|refine Fresh.cell ?_ (by simp) _)
 exact bZ HB1
theorem x0t0(h:Y:=by
 have y_:=keep1 (rmJ_bel hJ) RR.out (by simp[recA]) FR.out;have hk_:=HA.out;go_simp):Y:=h
theorem x0wh(h:Y:=by
 rw[<-himg];unfold Dev.image;rw[List.length_take];have:=(at_sizes HOK.out r.active).2.1;omega):Y:=h
theorem x1xc(h:Y:=by
 intro done cv k1 a wq hw h hJ hn;have e1:=mO 5 (.pointer (some ⟨gr,0,none⟩)) h;go_simp):Y:=h
theorem x2qu(h:Y:=by
 obtain⟨k1_,k2_,k3_,k4_⟩:=HKS.out;go_simp):Y:=h
theorem x2v6(h:Y:=by
 obtain⟨_,_,_,g1,g2,_,g3⟩:=hpok e;have g2':b=applied img d.job.ops:=g2;rw[g2'];have g4:=g1.s1;exact⟨by omega,g3,g4⟩):Y:=h
theorem x4wi(h:Y:=by
 intro done cv k2 a wq hw h hJ hn;have e1:=mO 1 (.pointer (some ⟨g,0,none⟩)) h;go_simp):Y:=h
theorem x74k(h:Y:=by
 go_wp2_with fail;go_meet
 case rel=>exact⟨by rw[hres],qH (Below.refl _ _)⟩):Y:=h
theorem x8jo(h:Y:=by
 obtain⟨y1,g1⟩:=hJ;rw[y1]at e1;refine wp_val (v:=.bool (!eq)) (by go_simp) ⟨_,rfl,by simp,g1⟩):Y:=h
theorem x8u2(h:Y:=by
 have y_:=kq (rmJ_bel hJ) RD FD;go_simp):Y:=h
theorem devCheck_is_len(h:d.s0.length≠64∨d.s1.length≠64):devCheck d=3:=by unfold devCheck;rw[if_pos h]
theorem devCheck_is_cop(h0:d.s0.length=64)(h1:d.s1.length=64)(hc:copCheck d.c0 d.c1≠0):devCheck d=copCheck d.c0 d.c1:=by unfold devCheck;rw[if_neg (by omega),if_pos hc]
theorem devCheck_is_off(h0:d.s0.length=64)(h1:d.s1.length=64)(hc:copCheck d.c0 d.c1=0)(hu:d.up=false):devCheck d=if d.running≠0∨d.got≠[]∨d.busy=true∨d.done≠0∨d.job≠Pat.zero then 3 else 0:=by unfold devCheck;rw[if_neg (by omega),if_neg (by omega),if_pos hu]
theorem devCheck_is_up(h0:d.s0.length=64)(h1:d.s1.length=64)(hc:copCheck d.c0 d.c1=0)(hu:d.up=true):devCheck d=devUpCheck d (recRead d.c0 d.c1).1:=by unfold devCheck;rw[if_neg (by omega),if_neg (by omega),if_neg (by rw[hu];simp)];rfl
theorem patSameZ_calls(p:Pat)(B:OA)(c:Nat)(w:World)(hp:PatIn w p B c):Calls Tryz.prog 72 #[.agg (patA p.from_ p.to_ p.old p.new_ p.size B p.ops.length c),.agg (patA 0 0 0 0 0 none 0 0)] w (RetB w (.bool (decide (p=Pat.zero)))):=
 patSameA_calls B none c 0 p.from_ p.to_ p.old p.new_ p.size 0 0 0 0 0 p.ops [] w hp.len (by simp) hp.ops (Sps.nil _ _)
theorem devUp_range(h:d.running<0∨1<d.running∨(d.running≠r.active∧r.trying=false)):devUpCheck d r=2:=by unfold devUpCheck;rw[if_pos h]
theorem devUp_list(h:¬(d.running<0∨1<d.running∨(d.running≠r.active∧r.trying=false)))(g:chkList d.got≠0):devUpCheck d r=chkList d.got:=by unfold devUpCheck;rw[if_neg h,if_pos g]
theorem devUp_idle(h:¬(d.running<0∨1<d.running∨(d.running≠r.active∧r.trying=false)))(g:chkList d.got=0)(b:d.busy=false):devUpCheck d r=if d.done≠0∨d.job≠Pat.zero then 3 else 0:=by unfold devUpCheck;rw[if_neg h,if_neg (by omega),if_pos b]
theorem devUp_busy(h:¬(d.running<0∨1<d.running∨(d.running≠r.active∧r.trying=false)))(g:chkList d.got=0)(b:d.busy=true):devUpCheck d r=devBusyCheck d r:=by unfold devUpCheck;rw[if_neg h,if_neg (by omega),if_neg (by rw[b];simp)]
theorem devBusy_form(h:r.trying=true∨d.job.to_<r.floor∨d.job.from_≠(r.at_ r.active).ver∨(r.at_ (1-r.active)).ver≠0):devBusyCheck d r=3:=by unfold devBusyCheck;rw[if_pos h]
theorem at_0(r:Rec):r.at_ 0=r.a:=by simp[Rec.at_]
theorem at_1(r:Rec):r.at_ 1=r.b:=by simp[Rec.at_]
theorem devBusy_rest(h:¬(r.trying=true∨d.job.to_<r.floor∨d.job.from_≠(r.at_ r.active).ver∨(r.at_ (1-r.active)).ver≠0)):devBusyCheck d r=
  if (patDo (sumOn 1) d.job (d.image r.active r)).2≠0 then (patDo (sumOn 1) d.job (d.image r.active r)).2
  else if d.done<0∨64<d.done∨d.done%8≠0∨d.job.size+8<=d.done then 2
  else if (d.slot (1-r.active)).take d.done.toNat≠(room (patDo (sumOn 1) d.job (d.image r.active r)).1).take d.done.toNat then 3
  else 0:=by unfold devBusyCheck;rw[if_neg h]
def rmJ(w0:World)(rb:LU)(dn:Nat)(e:Bool):Nat->(Nat->Value)->World->Prop
 |0,_,w=>w=w0.drew
 |1,cv,w=>∃A c,cv 10=.slice A rb.length c∧Bts w A rb∧rb.length<=c∧Below w0.heap.size w0 w
 |2,cv,w=>∃A c,cv 13=.slice A dn c∧Bts w A (rb.take dn)∧dn<=c∧Below w0.heap.size w0 w
 |3,cv,w=>cv 14=.bool e∧Below w0.heap.size w0 w
 |_,cv,w=>cv 15=.bool (!e)∧Below w0.heap.size w0 w
theorem rmJ_bel{w0:World}{rb:LU}{dn k:Nat}{e:Bool}{cv:Nat->Value}(hJ:rmJ w0 rb dn e k cv w):Below w0.heap.size w0 w:=by
 match k,hJ with
 |0,hJ=>obtain rfl:w=w0.drew:=hJ;exact(Below.refl _ _).drew
 |1,⟨_,_,_,_,_,h⟩=>exact h
 |2,⟨_,_,_,_,_,h⟩=>exact h
 |3,⟨_,h⟩=>exact h
 |q+4,⟨_,h⟩=>exact h
theorem x1fz(h:Y:=by
 rcases (show k=0∨k=1 by omega)with rfl|rfl
 ·go_wp2_with fail;go_roundw
  case rel=>exact⟨1,by omega,rfl,by first|rfl|trivial⟩
  case measure=>simp[intOf]<;>omega
 ·go_wp2_with fail;go_roundw
  case rel=>exact⟨2,by omega,rfl,by first|rfl|trivial⟩
  case measure=>simp[intOf]<;>omega):Y:=h
theorem x5ii(h:Y:=by
 have HB1:=qH hb;clear hb;go_wp2_with fail;go_meet
 case rel=>exact⟨by rw[hres],HB1⟩):Y:=h
theorem devCheck_off_(d:Dev)(L:DLoc)(w:World)(h:DevIn w d L)(hA:¬(d.s0.length=64∧d.s1.length=64∧copCheck d.c0 d.c1=0∧d.up=true)):Calls Tryz.prog 33 #[.agg (devA d L)] w (RetB w (iv (devCheck d))):=by
 have HIN:=qH h;have HAA:=qH hA;clear hA;clear h;obtain⟨n,hn⟩:=eX (devCheck d);rw[hn];have HN:=qH hn;clear hn;have i2:∀w,(Instr.index 24 (.agg (slotsA L.a0 d.s0.length L.c0 L.a1 d.s1.length L.c1)) (iv 0)).run Tryz.prog w=.ok (.slice L.a0 d.s0.length L.c0) w:=fun _=>by kernel_rfl
 have i1:∀w,(Instr.index 24 (.agg (slotsA L.a0 d.s0.length L.c0 L.a1 d.s1.length L.c1)) (iv 1)).run Tryz.prog w=.ok (.slice L.a1 d.s1.length L.c1) w:=fun _=>by kernel_rfl
 have HBA:=qH ((bW w).alloc nl (.cells (devA d L) 38));go_enter Tryz.func33,Tryz.ntmps33;go_wp2_with fail;go_loopw [12] (fun i wr=>∃k:Nat,k<=2∧i=iv k∧Hid ((0<k->d.s0.length=64)∧(1<k->d.s1.length=64))∧wr=w.alloc (.cells (devA d L) 38)) (fun i _=>(2-intOf i).toNat)
 case atStart=>exact⟨0,by omega,rfl,qH ⟨by omega,by omega⟩,rfl⟩
 case round=>
 obtain⟨k,hk,rfl,HZ,rfl⟩:=hrel;by_cases hlt:k<2
 ·rcases (show k=0∨k=1 by omega)with rfl|rfl
  ·by_cases e:d.s0.length=64
   ·have q:((d.s0.length:Int) !=64)=false:=by simp;omega
    have HE:=qH e;clear e;go_wp2_with fail;go_roundw
    case rel=>exact⟨1,by omega,rfl,qH ⟨fun _=>HE.out,by omega⟩,by first|rfl|trivial⟩
    case measure=>simp[intOf]<;>omega
   ·have q:((d.s0.length:Int) !=64)=true:=by simp;omega
    have hz:Hid (n=3):=qH (HN.out.symm.trans (devCheck_is_len (.inl e)));clear e;exact x73o
  ·by_cases e:d.s1.length=64
   ·have q:((d.s1.length:Int) !=64)=false:=by simp;omega
    have HE:=qH e;clear e;go_wp2_with fail;go_roundw
    case rel=>exact⟨2,by omega,rfl,qH ⟨fun _=>HZ.out.1 (by omega),fun _=>HE.out⟩,by first|rfl|trivial⟩
    case measure=>simp[intOf]<;>omega
   ·have q:((d.s1.length:Int) !=64)=true:=by simp;omega
    have hz:Hid (n=3):=qH (HN.out.symm.trans (devCheck_is_len (.inr e)));clear e;exact x73o
 obtain rfl:k=2:=by omega
 have HL2:=qH (HZ.out.1 (by omega));have HL1:=qH (HZ.out.2 (by omega));clear hk hlt HZ i2 i1;have a0r:rowOf (w.alloc (.cells (devA d L) 38)) w.heap.size=devA d L:=by rw[rowOf_alloc,if_pos rfl]
 have a0f:frOf (w.alloc (.cells (devA d L) 38)) w.heap.size=(0,0):=by rw[frOf_alloc,if_pos rfl]
 have a0l:w.heap.size<(w.alloc (.cells (devA d L) 38)).heap.size:=by simp
 by_cases hc:copCheck d.c0 d.c1=0
 case neg=>
  have q:(copCheck d.c0 d.c1 !=0)=true:=by simp[hc]
  have hz:Hid (n=copCheck d.c0 d.c1):=qH (HN.out.symm.trans (devCheck_is_cop HL2.out HL1.out hc));have KR:=qH (fun w=>read_bad d.c0 d.c1 w hc);generalize copCheck d.c0 d.c1=e1 at *
  clear hc;go_wp2_with fail;refine(KR.out _).mono ?_;rintro e w1 ⟨rfl,hb⟩;have HB1:=bT HBA hb;obtain⟨a0r,a0f,a0n,a0c,a0z,a0l⟩:=keep1 (g:=w.heap.size) (cs:=devA d L) hb a0r (by go_simp) a0f;clear hb;go_wp2_with fail;go_ret;have hs:=HB1.out.size;refine⟨ret_int hz.out.symm,?_⟩;repeat (first|exact hA|refine bR ?_ _|refine bA ?_ _)
 have KR:=qH (fun w=>read_ok d.c0 d.c1 w hc);have hact:=rec_active (recRead_ok hc);have hok:=recRead_ok hc;have hrec:(recRead d.c0 d.c1).1=d.rec_:=rfl;obtain⟨rk,hrk⟩:=eX ((recRead d.c0 d.c1).2);rw[hrk,hrec]at KR;have EOFF:=qH (fun hu=>HN.out.symm.trans (devCheck_is_off HL2.out HL1.out hc hu));have EUP:=qH (fun hu=>HN.out.symm.trans (devCheck_is_up HL2.out HL1.out hc hu));rw[hrec]at hact hok EUP;have himc:=fun w k hk h q1 q2=>image_calls d L k d.rec_ w hk h (slot_len HL2.out HL1.out k) q1 q2;have HIM:=qH himc;have HC:=qH hc;clear himc;generalize d.rec_=r at *
 obtain⟨ka,ha,ha1⟩:∃ka:Nat,r.active=(ka:Int)∧ka<=1:=⟨r.active.toNat,by omega,by omega⟩;have HOK:=qH hok;have HA:=qH ha;clear hrec hrk hok hact ha HN hc;go_wp2_with fail;refine(KR.out _).mono ?_;rintro e w1 ⟨rfl,hb⟩;have HB1:=bT HBA hb;obtain⟨a0r,a0f,a0n,a0c,a0z,a0l⟩:=keep1 (g:=w.heap.size) (cs:=devA d L) hb a0r (by go_simp) a0f;clear hb KR HBA;obtain⟨g,hg⟩:=eX (w.heap.size);rw[hg]at a0r a0f a0n a0c a0z a0l⊢;have HG:=qH hg;clear hg;go_upto_region 8 with fail
 obtain⟨w4,hw1⟩:=eX (w1.alloc (.cells (recA r) 29));have hb:Below w1.heap.size w1 w4:=by rw[<-hw1];exact bL _
 have r0r:rowOf w4 w1.heap.size=recA r:=by rw[<-hw1,rowOf_alloc,if_pos rfl]
 have r0f:frOf w4 w1.heap.size=(0,0):=by rw[<-hw1,frOf_alloc,if_pos rfl]
 obtain⟨a0r,a0f,a0n,a0c,a0z,a0l⟩:=keep1 (g:=g) (cs:=devA d L) hb a0r (by go_simp) a0f;have HB2:=bT HB1 hb;rw[hw1];obtain⟨gr,hgr⟩:=eX (w1.heap.size);rw[hgr]at r0r r0f⊢;clear hw1 hb hgr HB1;obtain⟨r0r,r0f,r0n,r0c,r0z,r0l⟩:=keep1 (bW w4) r0r (by simp[recA]) r0f;have KZ:=qH (fun wq hb=>patSameZ_calls d.job L.aj L.cj wq (HIN.out.job.stays (HB2.out.trans (Below.mono hb HB2.out.size))))
 cases hu:d.up
 ·have E:=qH (EOFF.out hu);clear EOFF EUP HIM;obtain⟨off,hoff⟩:∃b,decide (d.running≠0∨d.got≠[]∨d.busy=true∨d.done≠0∨d.job≠Pat.zero)=b:=⟨_,rfl⟩;have HO:=qH hoff;clear hoff;go_upto_region 11 with fail
  go_cut [56] (fun v wx=>v=.bool off∧Hid (Below w4.heap.size w4 wx))
  case first=>
   by_cases c1:d.running=0
   case neg=>
    have q1:(d.running !=0)=true:=by simp[c1]
    have hres:off=true:=by rw[<-HO.out];exact decide_eq_true (.inl c1)
    clear c1;exact x74k
   have q1:(d.running !=0)=false:=by simp[c1]
   by_cases c2:d.got=[]
   case neg=>
    have q2:decide ((0:Int)<(d.got.length:Int))=true:=decide_eq_true (by have:=List.length_pos_iff.2 c2;omega);have c2n:0<d.got.length:=List.length_pos_iff.2 c2;have hres:off=true:=by rw[<-HO.out];exact decide_eq_true (.inr (.inl c2))
    clear c1 c2;exact x74k
   have q2:decide ((0:Int)<(d.got.length:Int))=false:=by rw[c2];simp
   have q2n:¬0<d.got.length:=by rw[c2];simp
   cases c3:d.busy
   case true=>
    have hres:off=true:=by rw[<-HO.out];exact decide_eq_true (.inr (.inr (.inl c3)))
    clear c1 c2;exact x74k
   by_cases c4:d.done=0
   case neg=>
    have q3:(d.done !=0)=true:=by simp[c4]
    have hres:off=true:=by rw[<-HO.out];exact decide_eq_true (.inr (.inr (.inr (.inl c4))))
    clear c1 c2 c4;exact x74k
   have q3:(d.done !=0)=false:=by simp[c4]
   have hres:off=!decide (d.job=Pat.zero):=by
    rw[<-HO.out];by_cases h:d.job=Pat.zero<;>simp[c1,c2,c3,c4,h]
   clear c1 c2 c4;go_wp2_with fail;refine(KZ.out w4 (Below.refl _ _)).mono ?_;rintro e w2 ⟨rfl,hb⟩;exact x5ii
  case rest=>
  obtain⟨rfl,hb⟩:=hcut;have HB1:=bT HB2 hb.out
  cases c:off
  ·have hz:Hid (n=0):=qH (E.out.trans (if_neg (of_decide_eq_false (HO.out.trans c))));exact x73o
  have hz:Hid (n=3):=qH (E.out.trans (if_pos (of_decide_eq_true (HO.out.trans c))));exact x73o
 exact absurd ⟨HL2.out,HL1.out,HC.out,hu⟩ HAA.out
theorem devCheck_idle_(d:Dev)(L:DLoc)(w:World)(h:DevIn w d L)(h0:d.s0.length=64)(h1:d.s1.length=64)(hc:copCheck d.c0 d.c1=0)(hu:d.up=true)(hB:d.busy=false∨(d.running<0∨1<d.running∨(d.running≠d.rec_.active∧d.rec_.trying=false))∨chkList d.got≠0):Calls Tryz.prog 33 #[.agg (devA d L)] w (RetB w (iv (devCheck d))):=by
 have HIN:=qH h;clear h;obtain⟨n,hn⟩:=eX (devCheck d);rw[hn];have HN:=qH hn;clear hn;have i2:∀w,(Instr.index 24 (.agg (slotsA L.a0 d.s0.length L.c0 L.a1 d.s1.length L.c1)) (iv 0)).run Tryz.prog w=.ok (.slice L.a0 d.s0.length L.c0) w:=fun _=>by kernel_rfl
 have i1:∀w,(Instr.index 24 (.agg (slotsA L.a0 d.s0.length L.c0 L.a1 d.s1.length L.c1)) (iv 1)).run Tryz.prog w=.ok (.slice L.a1 d.s1.length L.c1) w:=fun _=>by kernel_rfl
 have l2:((d.s0.length:Int) !=64)=false:=by simp;omega
 have l1:((d.s1.length:Int) !=64)=false:=by simp;omega
 have HL2:=qH h0;have HL1:=qH h1;have HCC:=qH hc;have HUP:=qH hu;have HBB:=qH hB;clear hB;clear h0 h1 hc hu;have HBA:=qH ((bW w).alloc nl (.cells (devA d L) 38));go_enter Tryz.func33,Tryz.ntmps33;go_wp2_with fail;go_loopw [12] (fun i wr=>∃k:Nat,k<=2∧i=iv k∧wr=w.alloc (.cells (devA d L) 38)) (fun i _=>(2-intOf i).toNat)
 case atStart=>exact⟨0,by omega,rfl,rfl⟩
 case round=>
 obtain⟨k,hk,rfl,rfl⟩:=hrel;by_cases hlt:k<2
 ·exact x1fz
 obtain rfl:k=2:=by omega
 clear hk hlt i2 i1 l2 l1;have a0r:rowOf (w.alloc (.cells (devA d L) 38)) w.heap.size=devA d L:=by rw[rowOf_alloc,if_pos rfl]
 have a0f:frOf (w.alloc (.cells (devA d L) 38)) w.heap.size=(0,0):=by rw[frOf_alloc,if_pos rfl]
 have a0l:w.heap.size<(w.alloc (.cells (devA d L) 38)).heap.size:=by simp
 have hc:=HCC.out;have KR:=qH (fun w=>read_ok d.c0 d.c1 w hc);have hact:=rec_active (recRead_ok hc);have hok:=recRead_ok hc;have hrec:(recRead d.c0 d.c1).1=d.rec_:=rfl;obtain⟨rk,hrk⟩:=eX ((recRead d.c0 d.c1).2);rw[hrk,hrec]at KR;have EUP:=qH (fun hu=>HN.out.symm.trans (devCheck_is_up HL2.out HL1.out hc hu));rw[hrec]at hact hok EUP;have himc:=fun w k hk h q1 q2=>image_calls d L k d.rec_ w hk h (slot_len HL2.out HL1.out k) q1 q2;have HIM:=qH himc;clear himc;generalize d.rec_=r at *
 obtain⟨ka,ha,ha1⟩:∃ka:Nat,r.active=(ka:Int)∧ka<=1:=⟨r.active.toNat,by omega,by omega⟩;have HOK:=qH hok;have HA:=qH ha;clear hrec hrk hok hact ha HN hc;go_wp2_with fail;refine(KR.out _).mono ?_;rintro e w1 ⟨rfl,hb⟩;have HB1:=bT HBA hb;obtain⟨a0r,a0f,a0n,a0c,a0z,a0l⟩:=keep1 (g:=w.heap.size) (cs:=devA d L) hb a0r (by go_simp) a0f;clear hb KR HBA;obtain⟨g,hg⟩:=eX (w.heap.size);rw[hg]at a0r a0f a0n a0c a0z a0l⊢;have HG:=qH hg;clear hg;go_upto_region 8 with fail
 obtain⟨w4,hw1⟩:=eX (w1.alloc (.cells (recA r) 29));have hb:Below w1.heap.size w1 w4:=by rw[<-hw1];exact bL _
 have r0r:rowOf w4 w1.heap.size=recA r:=by rw[<-hw1,rowOf_alloc,if_pos rfl]
 have r0f:frOf w4 w1.heap.size=(0,0):=by rw[<-hw1,frOf_alloc,if_pos rfl]
 obtain⟨a0r,a0f,a0n,a0c,a0z,a0l⟩:=keep1 (g:=g) (cs:=devA d L) hb a0r (by go_simp) a0f;have HB2:=bT HB1 hb;rw[hw1];obtain⟨gr,hgr⟩:=eX (w1.heap.size);rw[hgr]at r0r r0f⊢;clear hw1 hb hgr HB1;obtain⟨r0r,r0f,r0n,r0c,r0z,r0l⟩:=keep1 (bW w4) r0r (by simp[recA]) r0f;have KZ:=qH (fun wq hb=>patSameZ_calls d.job L.aj L.cj wq (HIN.out.job.stays (HB2.out.trans (Below.mono hb HB2.out.size))));have hu:=HUP.out;have E:=qH (EUP.out hu);clear EUP;go_upto_region 14 with fail
 obtain⟨rng,hrng⟩:∃b,decide (d.running<0∨1<d.running∨(d.running≠r.active∧r.trying=false))=b:=⟨_,rfl⟩;have HRN:=qH hrng;clear hrng;go_cut [76] (fun v wx=>v=.bool rng∧Hid (Below w4.heap.size w4 wx))
 case first=>
  by_cases c1:d.running<0
  ·have hres:rng=true:=by rw[<-HRN.out];exact decide_eq_true (.inl c1)
   exact x74k
  by_cases c2:1<d.running
  ·have hres:rng=true:=by rw[<-HRN.out];exact decide_eq_true (.inr (.inl c2))
   exact x74k
  by_cases c3:d.running=r.active
  ·have q1:(d.running !=r.active)=false:=by simp[c3]
   have hres:rng=false:=by rw[<-HRN.out];exact decide_eq_false (by rintro (h|h|h);omega;omega;exact h.1 c3)
   clear c3;exact x74k
  have q1:(d.running !=r.active)=true:=by simp[c3]
  cases c4:r.trying
  ·have hres:rng=true:=by rw[<-HRN.out];exact decide_eq_true (.inr (.inr ⟨c3,c4⟩))
   clear c3;exact x74k
  have hres:rng=false:=by rw[<-HRN.out];exact decide_eq_false (by rintro (h|h|h);omega;omega;rw[c4]at h;cases h.2)
  clear c3;exact x74k
 case rest=>
 obtain⟨rfl,hb⟩:=hcut;obtain⟨a0r,a0f,a0n,a0c,a0z,a0l⟩:=keep1 (g:=g) (cs:=devA d L) hb.out a0r (by go_simp) a0f;obtain⟨r0r,r0f,r0n,r0c,r0z,r0l⟩:=keep1 (g:=gr) (cs:=recA r) hb.out r0r (by simp[recA]) r0f;have HB1:=bT HB2 hb.out;clear hb
 cases c1:rng
 case true=>
  have hz:Hid (n=2):=qH (E.out.trans (devUp_range (of_decide_eq_true (HRN.out.trans c1))));clear c1;exact x73o
 have HRG:=qH (of_decide_eq_false (HRN.out.trans c1));clear c1 HRN;go_wp2_with fail;refine(chkList_calls L.ag L.cg d.got _ HIN.out.lg (HIN.out.got.stays HB1.out)).mono ?_;rintro e w2 ⟨rfl,hb⟩;obtain⟨a0r,a0f,a0n,a0c,a0z,a0l⟩:=keep1 (g:=g) (cs:=devA d L) hb a0r (by go_simp) a0f;obtain⟨r0r,r0f,r0n,r0c,r0z,r0l⟩:=keep1 (g:=gr) (cs:=recA r) hb r0r (by simp[recA]) r0f;have HB3:=bT HB1 hb;clear hb HB1 HB2 KZ;have KZ:=qH (fun wq hb=>patSameZ_calls d.job L.aj L.cj wq (HIN.out.job.stays (HB3.out.trans (Below.mono hb HB3.out.size))));by_cases c1:chkList d.got=0
 case neg=>
  have q:(chkList d.got !=0)=true:=by simp[c1]
  have hz:Hid (n=chkList d.got):=qH (E.out.trans (devUp_list HRG.out c1));generalize chkList d.got=e1 at *
  clear c1;exact x73o
 rw[c1];have HGT:=qH c1;clear c1
 cases c2:d.busy
 ·have E1:=qH (E.out.trans (devUp_idle HRG.out HGT.out c2));obtain⟨idl,hidl⟩:∃b,decide (d.done≠0∨d.job≠Pat.zero)=b:=⟨_,rfl⟩;have HI:=qH hidl;clear hidl HIM E;go_upto_region 20 with fail
  go_cut [95] (fun v wx=>v=.bool idl∧Hid (Below w2.heap.size w2 wx))
  case first=>
   by_cases c2:d.done=0
   case neg=>
    have q1:(d.done !=0)=true:=by simp[c2]
    have hres:idl=true:=by rw[<-HI.out];exact decide_eq_true (.inl c2)
    clear c2;exact x74k
   have q1:(d.done !=0)=false:=by simp[c2]
   have hres:idl=!decide (d.job=Pat.zero):=by
    rw[<-HI.out];by_cases h:d.job=Pat.zero<;>simp[c2,h]
   clear c2;go_wp2_with fail;refine(KZ.out w2 (Below.refl _ _)).mono ?_;rintro e w3 ⟨rfl,hb⟩;exact x5ii
  case rest=>
  obtain⟨rfl,hb⟩:=hcut;have HB1:=bT HB3 hb.out
  cases c:idl
  ·have hz:Hid (n=0):=qH (E1.out.trans (if_neg (of_decide_eq_false (HI.out.trans c))));exact x73o
  have hz:Hid (n=3):=qH (E1.out.trans (if_pos (of_decide_eq_true (HI.out.trans c))));exact x73o
 exact absurd HBB.out (by rintro (h|h|h);rw[c2]at h;cases h;exact HRG.out h;exact h HGT.out)
theorem x0af(h:Y:=by
 go_quiet (fail)
 go_wp2_with fail;go_meet
 case rel=>exact⟨by rw[hres],qH (below_drewN _ _)⟩):Y:=h
theorem x35y(h:Y:=by
 clear c3;go_wp2_with fail;go_meet
 case rel=>exact⟨rfl,qH (Below.refl _ _)⟩):Y:=h
theorem devCheck_busy_(d:Dev)(L:DLoc)(w:World)(h:DevIn w d L)(h0:d.s0.length=64)(h1:d.s1.length=64)(hc:copCheck d.c0 d.c1=0)(hu:d.up=true)(hbz:d.busy=true)(hrg:¬(d.running<0∨1<d.running∨(d.running≠d.rec_.active∧d.rec_.trying=false)))(hgl:chkList d.got=0):Calls Tryz.prog 33 #[.agg (devA d L)] w (RetB w (iv (devCheck d))):=by
 have HIN:=qH h;clear h;obtain⟨n,hn⟩:=eX (devCheck d);rw[hn];have HN:=qH hn;clear hn;have i2:∀w,(Instr.index 24 (.agg (slotsA L.a0 d.s0.length L.c0 L.a1 d.s1.length L.c1)) (iv 0)).run Tryz.prog w=.ok (.slice L.a0 d.s0.length L.c0) w:=fun _=>by kernel_rfl
 have i1:∀w,(Instr.index 24 (.agg (slotsA L.a0 d.s0.length L.c0 L.a1 d.s1.length L.c1)) (iv 1)).run Tryz.prog w=.ok (.slice L.a1 d.s1.length L.c1) w:=fun _=>by kernel_rfl
 have l2:((d.s0.length:Int) !=64)=false:=by simp;omega
 have l1:((d.s1.length:Int) !=64)=false:=by simp;omega
 have HL2:=qH h0;have HL1:=qH h1;have HCC:=qH hc;have HUP:=qH hu;have HRG:=qH hrg;have HGT:=qH hgl;have HBZ:=qH hbz;clear hrg hgl hbz;clear h0 h1 hc hu;have HBA:=qH ((bW w).alloc nl (.cells (devA d L) 38));go_enter Tryz.func33,Tryz.ntmps33;go_wp2_with fail;go_loopw [12] (fun i wr=>∃k:Nat,k<=2∧i=iv k∧wr=w.alloc (.cells (devA d L) 38)) (fun i _=>(2-intOf i).toNat)
 case atStart=>exact⟨0,by omega,rfl,rfl⟩
 case round=>
 obtain⟨k,hk,rfl,rfl⟩:=hrel;by_cases hlt:k<2
 ·exact x1fz
 obtain rfl:k=2:=by omega
 clear hk hlt i2 i1 l2 l1;have a0r:rowOf (w.alloc (.cells (devA d L) 38)) w.heap.size=devA d L:=by rw[rowOf_alloc,if_pos rfl]
 have a0f:frOf (w.alloc (.cells (devA d L) 38)) w.heap.size=(0,0):=by rw[frOf_alloc,if_pos rfl]
 have a0l:w.heap.size<(w.alloc (.cells (devA d L) 38)).heap.size:=by simp
 have hc:=HCC.out;have KR:=qH (fun w=>read_ok d.c0 d.c1 w hc);have hact:=rec_active (recRead_ok hc);have hok:=recRead_ok hc;have hrec:(recRead d.c0 d.c1).1=d.rec_:=rfl;obtain⟨rk,hrk⟩:=eX ((recRead d.c0 d.c1).2);rw[hrk,hrec]at KR;have EUP:=qH (fun hu=>HN.out.symm.trans (devCheck_is_up HL2.out HL1.out hc hu));rw[hrec]at hact hok EUP;have himc:=fun w k hk h q1 q2=>image_calls d L k d.rec_ w hk h (slot_len HL2.out HL1.out k) q1 q2;have HIM:=qH himc;clear himc;generalize d.rec_=r at *
 obtain⟨ka,ha,ha1⟩:∃ka:Nat,r.active=(ka:Int)∧ka<=1:=⟨r.active.toNat,by omega,by omega⟩;have HOK:=qH hok;have HA:=qH ha;clear hrec hrk hok hact ha HN hc;go_wp2_with fail;refine(KR.out _).mono ?_;rintro e w1 ⟨rfl,hb⟩;have HB1:=bT HBA hb;obtain⟨a0r,a0f,a0n,a0c,a0z,a0l⟩:=keep1 (g:=w.heap.size) (cs:=devA d L) hb a0r (by go_simp) a0f;clear hb KR HBA;obtain⟨g,hg⟩:=eX (w.heap.size);rw[hg]at a0r a0f a0n a0c a0z a0l⊢;have HG:=qH hg;clear hg;go_upto_region 8 with fail
 obtain⟨w4,hw1⟩:=eX (w1.alloc (.cells (recA r) 29));have hb:Below w1.heap.size w1 w4:=by rw[<-hw1];exact bL _
 have r0r:rowOf w4 w1.heap.size=recA r:=by rw[<-hw1,rowOf_alloc,if_pos rfl]
 have r0f:frOf w4 w1.heap.size=(0,0):=by rw[<-hw1,frOf_alloc,if_pos rfl]
 obtain⟨a0r,a0f,a0n,a0c,a0z,a0l⟩:=keep1 (g:=g) (cs:=devA d L) hb a0r (by go_simp) a0f;have HB2:=bT HB1 hb;rw[hw1];obtain⟨gr,hgr⟩:=eX (w1.heap.size);rw[hgr]at r0r r0f⊢;clear hw1 hb hgr HB1;obtain⟨r0r,r0f,r0n,r0c,r0z,r0l⟩:=keep1 (bW w4) r0r (by simp[recA]) r0f;have hu:=HUP.out;have E:=qH (EUP.out hu);clear EUP;go_upto_region 14 with fail
 go_cut [76] (fun v wx=>v=.bool false∧Hid (Below w4.heap.size w4 wx))
 case first=>
  have c1:¬d.running<0:=fun h=>HRG.out (.inl h);have c2:¬1<d.running:=fun h=>HRG.out (.inr (.inl h));by_cases c3:d.running=r.active
  ·have q1:(d.running !=r.active)=false:=by simp[c3]
   exact x35y
  have q1:(d.running !=r.active)=true:=by simp[c3]
  have c4:r.trying=true:=by cases h:r.trying;exact absurd (.inr (.inr ⟨c3,h⟩)) HRG.out;rfl
  exact x35y
 case rest=>
 obtain⟨rfl,hb⟩:=hcut;obtain⟨a0r,a0f,a0n,a0c,a0z,a0l⟩:=keep1 (g:=g) (cs:=devA d L) hb.out a0r (by go_simp) a0f;obtain⟨r0r,r0f,r0n,r0c,r0z,r0l⟩:=keep1 (g:=gr) (cs:=recA r) hb.out r0r (by simp[recA]) r0f;have HB3:=bT HB2 hb.out;clear hb;go_wp2_with fail;refine(chkList_calls L.ag L.cg d.got _ HIN.out.lg (HIN.out.got.stays HB3.out)).mono ?_;rintro e w2 ⟨rfl,hb⟩;obtain⟨a0r,a0f,a0n,a0c,a0z,a0l⟩:=keep1 (g:=g) (cs:=devA d L) hb a0r (by go_simp) a0f;obtain⟨r0r,r0f,r0n,r0c,r0z,r0l⟩:=keep1 (g:=gr) (cs:=recA r) hb r0r (by simp[recA]) r0f;have HB4:=bT HB3 hb;clear hb HB3 HB2;rw[HGT.out];have c2:=HBZ.out;have E1:=qH (E.out.trans (devUp_busy HRG.out HGT.out c2));clear E HRG HGT;go_upto_region 23 with fail
 obtain⟨a',ha',ha2⟩:∃a':Nat,ka+a'=1∧a'<=1:=⟨1-ka,by omega,by omega⟩;have hsub:(1:Int)-(ka:Int)=(a':Int):=by omega
 have hwr:IntKind.i64.wrap ((1:Int)-(ka:Int))=(a':Int):=by rw[hsub];exact IntWalk.i64_in _ (by omega)
 obtain⟨bad,hbad⟩:∃b,decide (r.trying=true∨d.job.to_<r.floor∨d.job.from_≠(r.at_ r.active).ver∨(r.at_ (1-r.active)).ver≠0)=b:=⟨_,rfl⟩;have HBAD:=qH hbad;have hbad1:=hbad;rw[HA.out,hsub]at hbad1;have HBAD1:=qH hbad1;clear hbad hbad1;go_cut [127] (fun v wx=>v=.bool bad∧Hid (Below w2.heap.size w2 wx))
 case first=>
  have ha:=HA.out;have pv:=recA_ver r ha1;have pv1:=recA_ver r ha2;have z1:=(at_sizes HOK.out (a':Int)).2.2;have k1:(0:Int)<=(ka:Int):=by omega
  have k2:(ka:Int)<2:=by omega
  have k3:¬(2:Int)<=(ka:Int):=by omega
  have k4:(0:Int)<=(a':Int):=by omega
  have k5:(a':Int)<2:=by omega
  have k6:¬(2:Int)<=(a':Int):=by omega
  clear HBAD
  cases c3:r.trying
  ·by_cases c4:d.job.to_<r.floor
   ·have hres:bad=true:=by rw[<-HBAD1.out];exact decide_eq_true (.inr (.inl c4))
    have q1:decide (d.job.to_<r.floor)=true:=decide_eq_true c4;clear c4 pv pv1;exact x0af
   ·have q2:decide (d.job.to_<r.floor)=false:=decide_eq_false c4;generalize (r.at_ (ka:Int)).ver=x1 at *
    generalize (r.at_ (a':Int)).ver=x2 at *
    by_cases c5:d.job.from_=x1
    ·have q1:(d.job.from_ !=x1)=false:=by simp[c5]
     by_cases c6:x2=0
     ·have hres:bad=false:=by rw[<-HBAD1.out];exact decide_eq_false (by rintro (h|h|h|h);rw[c3]at h;cases h;exact c4 h;exact h c5;exact h c6)
      have q3:(x2 !=0)=false:=by simp[c6]
      clear c4 c5 c6;exact x0af
     have hres:bad=true:=by rw[<-HBAD1.out];exact decide_eq_true (.inr (.inr (.inr c6)))
     have q3:(x2 !=0)=true:=by simp[c6]
     clear c4 c5 c6;exact x0af
    have q1:(d.job.from_ !=x1)=true:=by simp[c5]
    have hres:bad=true:=by rw[<-HBAD1.out];exact decide_eq_true (.inr (.inr (.inl c5)))
    clear c4 c5 pv1;exact x0af
  have hres:bad=true:=by rw[<-HBAD1.out];exact decide_eq_true (.inl c3)
  clear pv pv1;exact x0af
 case rest=>
 obtain⟨rfl,hb⟩:=hcut;obtain⟨a0r,a0f,a0n,a0c,a0z,a0l⟩:=keep1 (g:=g) (cs:=devA d L) hb.out a0r (by go_simp) a0f;obtain⟨r0r,r0f,r0n,r0c,r0z,r0l⟩:=keep1 (g:=gr) (cs:=recA r) hb.out r0r (by simp[recA]) r0f;have HB2:=bT HB4 hb.out;clear hb HB4 HBAD1
 cases hbd:bad
 case true=>
  have hz:Hid (n=3):=qH (E1.out.trans (devBusy_form (of_decide_eq_true (HBAD.out.trans hbd))));clear hbd;exact x73o
 have hnf:=of_decide_eq_false (HBAD.out.trans hbd);have hrest:=E1.out.trans (devBusy_rest hnf);clear hbd HBAD E1 hnf;obtain⟨img,himg⟩:=eX (d.image r.active r);rw[himg]at hrest;have hil:img.length<=64:=by
  exact x0wh
 rw[HA.out]at himg;rw[HA.out,hsub]at hrest;have hpok:=@patDo_ok (sumOn 1) d.job img;obtain⟨⟨b,en⟩,hpd⟩:∃x,patDo (sumOn 1) d.job img=x:=⟨_,rfl⟩;rw[hpd]at hrest hpok;have HBL:Hid (en=0->b.length<=64∧(b.length:Int)=d.job.size∧d.job.size<=64):=qH (fun e=>by
  exact x2v6)
 dsimp only at hrest;have HR1:=qH hrest;have HPD:=qH hpd;have KI:Hid (∀wq,Below wc.heap.size wc wq->Calls Tryz.prog 75 #[.agg (devA d L),iv (ka:Int),.agg (recA r)] wq (ImRet wq img)):=qH (fun wq h=>by
  rw[<-himg];exact HIM.out wq (ka:Int) (by omega) ((HIN.out.stays HB2.out).stays h) (at_sizes HOK.out _).1 (at_sizes HOK.out _).2.1)
 clear hrest hpok hpd himg hsub;have RD:Hid (rowOf wc g=devA d L):=qH a0r;have FD:Hid (frOf wc g=(0,0)):=qH a0f;have RR:Hid (rowOf wc gr=recA r):=qH r0r;have FR:Hid (frOf wc gr=(0,0)):=qH r0f;have KD:Hid (∀wq A c,Below wc.heap.size wc wq->img.length<=c->Bts wq A img->Calls Tryz.prog 74 #[.agg (patA d.job.from_ d.job.to_ d.job.old d.job.new_ d.job.size L.aj d.job.ops.length L.cj),.slice A img.length c] wq (ByRet2 wq b en)):=qH (fun wq A c h hc hb=>by
  have hq:=patDo_calls L.aj A L.cj c d.job img wq hc (by omega) hb ((HIN.out.job.stays HB2.out).stays h);rw[HPD.out]at hq;exact hq)
 go_wp2_with fail;have hq2:=fun v (h:Below wc.heap.size wc v)=>keep1 h RD.out (by go_simp) FD.out;have hq1:=fun v (h:Below wc.heap.size wc v)=>keep1 h RR.out (by simp[recA]) FR.out;have hf1:=HA.out
 go_region_held3 (fun v=>Below wc.heap.size wc v) (first|exact hbb|exact(Below.refl _ _).drew)
  (first
    |(go_at_call 75;refine(KI.out _ (by assumption)).mono ?_;rintro e wj ⟨Aj,cj,rfl,h3,h4,h5⟩;have hbb:=(bW wc).drew.trans (h5.mono (by simp)))
    |(go_at_call 74;refine(KD.out _ _ _ (by assumption) h3 h4).mono ?_;rintro e w8 ⟨A2,c2',rfl,g1,g2,g9⟩;have hbb:=hbb.trans (g9.mono hbb.size)))
 have g3:=hbb;clear hbb g9 h3 h4 h5 hq2 hq1 hf1;obtain⟨a0r,a0f,a0n,a0c,a0z,a0l⟩:=keep1 (g:=g) (cs:=devA d L) g3 a0r (by go_simp) a0f;obtain⟨r0r,r0f,r0n,r0c,r0z,r0l⟩:=keep1 (g:=gr) (cs:=recA r) g3 r0r (by simp[recA]) r0f;have HB3:Hid (Below w.heap.size w w8):=qH (HB2.out.trans (g3.mono HB2.out.size));have HBB:=qH g1;have HC1:=qH g2;clear g1 g2 g3 KI KD RD FD RR FR HIM HB2 HPD;by_cases c1:en=0
 case neg=>
  have q:(en !=0)=true:=by simp[c1]
  have hz:Hid (n=en):=qH (HR1.out.trans (if_pos c1));clear c1;exact x73o
 subst c1;obtain⟨b1,b2,b3⟩:=HBL.out rfl;have HR2:=qH (HR1.out.trans (if_neg (by decide)));have hw1:IntKind.i64.wrap (d.job.size+8)=d.job.size+8:=IntWalk.i64_in _ (by omega);have HB1:=qH b1;clear HR1 HBL b2;go_upto_region 28 with fail
 obtain⟨bad1,hbad1⟩:∃b,decide (d.done<0∨64<d.done∨d.done%8≠0∨d.job.size+8<=d.done)=b:=⟨_,rfl⟩;have HBAD:=qH hbad1;clear hbad1 b1 b3;go_cut [168] (fun v wx=>v=.bool bad1∧Hid (Below w8.heap.size w8 wx))
 case first=>
  by_cases c1:d.done<0
  ·have hres:bad1=true:=by rw[<-HBAD.out];exact decide_eq_true (.inl c1)
   exact x74k
  have hmod:d.done.tmod 8=d.done%8:=Int.tmod_eq_emod_of_nonneg (by omega);by_cases c2:64<d.done
  ·have hres:bad1=true:=by rw[<-HBAD.out];exact decide_eq_true (.inr (.inl c2))
   have q:(d.s0.length:Int)<d.done:=by have:=HL2.out;omega
   clear c2;exact x74k
  have q1:¬(d.s0.length:Int)<d.done:=by have:=HL2.out;omega
  by_cases c3:d.done%8=0
  case neg=>
   have hres:bad1=true:=by rw[<-HBAD.out];exact decide_eq_true (.inr (.inr (.inl c3)))
   have q2:(d.done.tmod 8 !=0)=true:=by rw[hmod];simp[c3]
   clear hmod;exact x74k
  have q2:(d.done.tmod 8 !=0)=false:=by rw[hmod];simp[c3]
  by_cases c4:d.job.size+8<=d.done
  ·have hres:bad1=true:=by rw[<-HBAD.out];exact decide_eq_true (.inr (.inr (.inr c4)))
   clear hmod;exact x74k
  have hres:bad1=false:=by rw[<-HBAD.out];exact decide_eq_false (by omega)
  clear hmod;exact x74k
 case rest=>
 obtain⟨rfl,hb⟩:=hcut;obtain⟨a0r,a0f,a0n,a0c,a0z,a0l⟩:=keep1 (g:=g) (cs:=devA d L) hb.out a0r (by go_simp) a0f;obtain⟨r0r,r0f,r0n,r0c,r0z,r0l⟩:=keep1 (g:=gr) (cs:=recA r) hb.out r0r (by simp[recA]) r0f;have HB2:=bT HB3 hb.out;have HBB:=qH (HBB.out.stays hb.out);clear hb HB3 hw1
 cases hbd:bad1
 case true=>
  have hz:Hid (n=2):=qH (HR2.out.trans (if_pos (of_decide_eq_true (HBAD.out.trans hbd))));clear hbd;exact x73o
 have hnb:=of_decide_eq_false (HBAD.out.trans hbd);have HR1:=qH (HR2.out.trans (if_neg hnb));obtain⟨dn',hdn⟩:∃dn':Nat,d.done=(dn':Int):=⟨d.done.toNat,by omega⟩;have hdt:d.done.toNat=dn':=by omega
 rw[hdt]at HR1;have hd1:dn'<=64:=by omega
 have HDN:=qH hdn;clear hbd HBAD HR2 hnb hdt;have hsl:=slot_len HL2.out HL1.out (a':Int);obtain⟨A1,c3,p1,p2,p3⟩:=devSlotA (HIN.out.stays HB2.out) ha2;generalize d.slot (a':Int)=sl at *
 have HP1:=qH p1;have HX:=qH p3;obtain⟨bx,ox,hax,-⟩:=p3 0 (by omega);have HSL:=qH (pre_slice (A:=A1) (n:=sl.length) (c:=c3) dn' hdn p2 (by omega) (by omega) ⟨bx,ox,hax⟩);have hrl:=room_len HB1.out;obtain⟨eq,heq⟩:=eX (decide (sl.take dn'=(room b).take dn'));have hlt1:(sl.take dn').length=dn':=by rw[List.length_take,hsl];omega
 have hlt2:((room b).take dn').length=dn':=by rw[List.length_take,hrl];omega
 have KQ:Hid (∀wq A c,Below wc.heap.size wc wq->Bts wq A ((room b).take dn')->Calls Tryz.prog 37 #[.slice A1 dn' c3,.slice A dn' c] wq (RetN wq (.bool eq))):=qH (fun wq A c h hb=>by
  have hq:=equalBytes_calls A1 A c3 c (sl.take dn') ((room b).take dn') wq (by omega) (by omega) (mid_take (HX.out.stays h) dn') hb;rw[heq,hlt1,hlt2]at hq;exact hq)
 have HQ:=qH heq;have HRL:=qH hrl;obtain⟨rb,hrb⟩:=eX (room b);rw[hrb]at KQ HQ HRL HR1;have HRB:=qH hrb;have HKS:Hid ((0:Int)<=(a':Int)∧(a':Int)<2∧¬(2:Int)<=(a':Int)∧IntKind.i64.wrap ((1:Int)-(ka:Int))=(a':Int)):=qH ⟨by omega,by omega,by omega,hwr⟩;clear hsl p1 p2 p3 hax hrl heq hlt1 hlt2 hrb hwr hdn;go_wp2_with fail;have RD:Hid (rowOf wc g=devA d L):=qH a0r;have FD:Hid (frOf wc g=(0,0)):=qH a0f;have RR:Hid (rowOf wc gr=recA r):=qH r0r;have FR:Hid (frOf wc gr=(0,0)):=qH r0f;refine wM (some 169::some 170::some 171::some 172::some 173::some 174::some 175::some 176::some 177::some 178::some 179::some 180::some 181::some 182::some 183::some 184::[]) (none::none::none::none::none::none::none::none::none::none::some 0::none::none::some 1::some 2::some 3::[]) (.pointer (some ⟨gr,1,none⟩)::iv (ka:Int)::iv (a':Int)::.pointer (some ⟨g,0,none⟩)::.pointer (some ⟨g,a',none⟩)::.slice A1 sl.length c3::.pointer (some ⟨g,36,none⟩)::iv d.done::.slice A1 dn' c3::.slice A2 b.length c2'::undef::.pointer (some ⟨g,36,none⟩)::iv d.done::undef::undef::undef::[]) 4 (rmJ wc rb dn' eq) 185 (rfl) ?_ ?_
 ·refine⟨?_,?_,?_,?_,?_,?_,?_,?_,?_,?_,?_,?_,?_,?_,?_,?_,trivial⟩
  ·exact x1xc
  ·intro done cv k2 a wq hw h hJ hn;have e1:=mN 0 169 h hw;exact x0t0
  ·intro done cv k1 a wq hw h hJ hn;have e1:=mN 1 170 h hw;exact x2qu
  ·exact x4wi
  ·intro done cv k1 a wq hw h hJ hn;have e1:=mN 3 172 h hw;have e171:=mN 2 171 h hw;exact x2qu
  ·intro done cv k2 a wq hw h hJ hn;have e1:=mN 4 173 h hw;have y_:=kq (rmJ_bel hJ) RD FD;have e_:=HP1.out;go_simp
  ·exact x1jh
  ·intro done cv k2 a wq hw h hJ hn;have e1:=mN 6 175 h hw;exact x8u2
  ·intro done cv k1 a wq hw h hJ hn;have e1:=mN 5 174 h hw;have e176:=mN 7 176 h hw;have hs_:=HSL.out;go_simp
  ·intro done cv k2 a wq hw h hJ hn;have e1:=mO 9 (.slice A2 b.length c2') h;exact mx_move (ch_ev e1)
  ·intro done cv a wq hw h hJ;have e1:=mN 9 178 h hw;obtain rfl:wq=wc.drew:=hJ;refine wp_call (vals:=#[.slice A2 b.length c2']) (by rw[List.map_toArray,List.map_cons,List.map_nil,ch_ev e1]) (enters_of Tryz.func50 (by kernel_rfl) rfl _ _) (room_calls A2 c2' b _ HB1.out (HBB.out.stays (Below.refl _ _).drew)) ?_;rintro e w' ⟨A2,c4,rfl,hown,hbel⟩;rw[HRB.out]at hown⊢;exact⟨_,rfl,_,rfl,A2,c4,by simp,hown.src.bts,hown.le,(Below.refl _ _).drew.trans hbel⟩
  ·exact x1jh
  ·intro done cv k2 a wq hw h hJ hn;have e1:=mN 11 180 h hw;exact x8u2
  ·intro done cv a wq hw h hJ;have e1:=mx_cv (i:=10) (t:=179) h (hw 10 (by decide)) rfl rfl;have e181:=mN 12 181 h hw;obtain⟨A2,c4,y1,g1,g2,g3⟩:=hJ;rw[y1]at e1;obtain⟨by_,oy_,hay,-⟩:=g1 0 (by rw[HRL.out];omega);have hs_:=pre_slice (z:=d.done) dn' HDN.out g2 (by rw[HRL.out];omega) (by rw[HRL.out];omega) ⟨by_,oy_,hay⟩;clear hay;refine wp_val (v:=.slice A2 dn' c4) (by go_simp) ⟨_,rfl,A2,c4,by simp,mid_take g1 dn',by rw[HRL.out]at g2;omega,g3⟩
  ·intro done cv a wq hw h hJ;have e1:=mN 8 177 h hw;have e182:=mx_cv (i:=13) (t:=182) h (hw 13 (by decide)) rfl rfl;obtain⟨A2,c4,y1,g1,g2,g3⟩:=hJ;rw[y1]at e182;refine wp_call (vals:=#[.slice A1 dn' c3,.slice A2 dn' c4]) (by rw[List.map_toArray,List.map_cons,List.map_cons,List.map_nil,ch_ev e1,ch_ev e182]) (enters_of Tryz.func37 (by kernel_rfl) rfl _ _) (KQ.out _ _ _ g3 g1) ?_;rintro e w' ⟨rfl,m,rfl⟩;exact⟨_,rfl,_,rfl,by simp,Below.drewN' g3 m⟩
  ·intro done cv a wq hw h hJ;have e1:=mx_cv (i:=14) (t:=183) h (hw 14 (by decide)) rfl rfl;exact x8jo
 intro cv1 w3 hJ;obtain⟨y1,hb⟩:=hJ;simp only[mixAll,pA,mA,Nat.reduceAdd];rw[y1];have HB3:=bT HB2 hb;clear hb y1
 cases eq
 ·have hz:Hid (n=3):=qH (HR1.out.trans (if_pos (by have:=HQ.out;simpa using this)));exact x73o
 have hz:Hid (n=0):=qH (HR1.out.trans (if_neg (by have:=HQ.out;simpa using this)));exact x73o
theorem devCheck_calls(d:Dev)(L:DLoc)(w:World)(h:DevIn w d L):Calls Tryz.prog 33 #[.agg (devA d L)] w (RetB w (iv (devCheck d))):=by
 by_cases hA:d.s0.length=64∧d.s1.length=64∧copCheck d.c0 d.c1=0∧d.up=true
 case neg=>exact devCheck_off_ d L w h hA
 obtain⟨h2,h1,hc,hu⟩:=hA;by_cases hB:d.busy=false∨(d.running<0∨1<d.running∨(d.running≠d.rec_.active∧d.rec_.trying=false))∨chkList d.got≠0
 ·exact devCheck_idle_ d L w h h2 h1 hc hu hB
 refine devCheck_busy_ d L w h h2 h1 hc hu ?_ (fun h=>hB (.inr (.inl h))) (Decidable.not_not.1 fun h=>hB (.inr (.inr h)))
 cases e:d.busy
 ·exact absurd (.inl e) hB
 rfl
theorem x61q(h:Y:=by
 have hwk:IntKind.i64.wrap ((k:Int)+1)=(k:Int)+1:=IntWalk.i64_in _ (by omega);have dl:decide ((k:Int)<(x.net.length:Int))=true:=decide_eq_true (by omega);obtain⟨e3,he1⟩:∃e,chkCheck y=e:=⟨_,rfl⟩;rw[he1]at KC HNE;clear hy hin hdr hne he1;go_wp2_with fail;refine(KC.out _).mono ?_;rintro e w2 ⟨rfl,hb1⟩;have HB1:Hid (Below w.heap.size w w2):=qH (by
  refine Below.trans ?_ (hb1.mono (by first|omega|(simp<;>omega)));repeat (first|exact HB.out|refine bA ?_ _))
 clear hb1;by_cases c4:e3≠0
 ·have hz:Hid (n=e3):=qH (by have:=HNE.out;rw[if_pos c4]at this;exact this.symm);have q:(e3 !=0)=true:=by simp[c4]
  clear c4;go_wp2_with fail;go_ret;have hs:=HB1.out.size;refine⟨ret_int hz.out.symm,?_⟩;repeat (first|exact hA|refine bR ?_ _|refine bC ?_ _|refine bA ?_ _)
 have c4:=Decidable.not_not.1 c4;subst c4;have HE2':Hid (netCheck (x.net.drop (k+1))=n):=qH (by have:=HNE.out;rw[if_neg (by decide)]at this;exact this);go_wp2_with fail;go_roundw
 case rel=>exact⟨k+1,by omega,by go_num,HE2',HB1⟩
 case measure=>simp[intOf];omega):Y:=h
theorem worCheck_rel(h:relCheck x.rel≠0):worCheck x=relCheck x.rel:=by unfold worCheck;rw[if_pos h]
theorem worCheck_dev(h:relCheck x.rel=0)(g:devCheck x.d≠0):worCheck x=devCheck x.d:=by unfold worCheck;rw[if_neg (by omega),if_pos g]
theorem worCheck_many(h:relCheck x.rel=0)(g:devCheck x.d=0)(i:120<x.net.length):worCheck x=1:=by unfold worCheck;rw[if_neg (by omega),if_neg (by omega),if_pos i]
theorem worCheck_net(h:relCheck x.rel=0)(g:devCheck x.d=0)(i:¬120<x.net.length):worCheck x=netCheck x.net:=by unfold worCheck;rw[if_neg (by omega),if_neg (by omega),if_neg i]
theorem netCheck_cons(y:Chk)(l:List Chk):netCheck (y::l)=if chkCheck y≠0 then chkCheck y else netCheck l:=rfl
theorem worCheck_calls(x:Wor)(L:WLoc)(w:World)(h:WorIn w x L):Calls Tryz.prog 10 #[.agg (worA x L)] w (RetB w (iv (worCheck x))):=by
 have HBA:=qH ((bW w).alloc nl (.cells (worA x L) 40));have HIN:=qH h;have K1:=qH (fun w h=>releases_calls L.ar L.cr x.rel w HIN.out.kr HIN.out.lr h);have K2:=qH (fun w h=>devCheck_calls x.d L.l w h);obtain⟨n,hn⟩:=eX (worCheck x);rw[hn];have HN:=qH hn;obtain⟨e1,he1⟩:∃e,relCheck x.rel=e:=⟨_,rfl⟩;obtain⟨e2,he2⟩:∃e,devCheck x.d=e:=⟨_,rfl⟩;rw[he1]at K1;rw[he2]at K2;have HE1:=qH he1;have HE2:=qH he2;clear h hn he1 he2;go_enter Tryz.func10,Tryz.ntmps10;go_wp2_with fail;refine(K1.out _ (HIN.out.rel.stays HBA.out)).mono ?_;rintro e w3 ⟨rfl,rfl⟩;by_cases c1:e1≠0
 ·have hz:Hid (n=e1):=qH (by rw[<-HN.out,worCheck_rel (by rw[HE1.out];exact c1),HE1.out]);have q:(e1 !=0)=true:=by simp[c1]
  clear c1;go_wp2_with fail;go_ret;have hs:=HBA.out.size;refine⟨ret_int hz.out.symm,?_⟩;exact x0ap
 have c1:=Decidable.not_not.1 c1;subst c1;go_wp2_with fail;refine(K2.out _ (HIN.out.dev.stays HBA.out)).mono ?_;rintro e w1 ⟨rfl,hb⟩;have a1:=kp (w.heap.size) (worA x L) hb;have HB1:=bT HBA hb;clear hb;by_cases c2:e2≠0
 ·have hz:Hid (n=e2):=qH (by rw[<-HN.out,worCheck_dev HE1.out (by rw[HE2.out];exact c2),HE2.out]);have q:(e2 !=0)=true:=by simp[c2]
  clear c2;go_wp2_with fail;go_ret;have hs:=HB1.out.size;refine⟨ret_int hz.out.symm,?_⟩;exact x0ap
 have c2:=Decidable.not_not.1 c2;subst c2;by_cases c3:120<x.net.length
 ·have hz:Hid (n=1):=qH (by rw[<-HN.out,worCheck_many HE1.out HE2.out c3]);have q:(120:Int)<(x.net.length:Int):=by omega
  go_wp2_with fail;go_ret;have hs:=HB1.out.size;refine⟨ret_int hz.out.symm,?_⟩;exact x0ap
 have q3:¬(120:Int)<(x.net.length:Int):=by omega
 have HN1:Hid (netCheck x.net=n):=qH (by rw[<-HN.out,worCheck_net HE1.out HE2.out c3]);have hcap:(x.net.length:Int)<=(L.cn:Int):=by have:=HIN.out.kn;omega
 have HNT:=qH HIN.out.net;go_wp2_with fail;generalize L.an=an at *
 go_loopw [27] (fun i wr=>∃k:Nat,k<=x.net.length∧i=iv k∧Hid (netCheck (x.net.drop k)=n)∧Hid (Below w.heap.size w wr)) (fun i _=>x.net.length-(intOf i).toNat)
 case atStart=>exact⟨0,Nat.zero_le _,rfl,qH (by rw[List.drop_zero];exact HN1.out),HB1⟩
 case round=>
  clear HB1 HN1 a1;rename World=>wr;obtain⟨k,hk,rfl,HE,HB⟩:=hrel;have hsz:=HB.out.size;by_cases hlt:k<x.net.length
  ·obtain⟨b,o,B,c,rfl,hb,hck,hin⟩:=(HNT.out.stays HB.out).chk hlt;obtain⟨y,hy⟩:=eX (x.net[k]);rw[hy]at hck hin;obtain⟨q6,q1,q2,q4,q5⟩:=hck;have hdr:x.net.drop k=y::x.net.drop (k+1):=by rw[List.drop_eq_getElem_cons hlt,hy]
   have hne:=HE.out;rw[hdr,netCheck_cons]at hne;have HNE:=qH hne;have KC:=qH (fun w=>chkCheckX_calls B c y w ⟨hin.i2,hin.i3⟩);exact x61q
  obtain rfl:k=x.net.length:=by omega
  have dl:decide ((x.net.length:Int)<(x.net.length:Int))=false:=by simp
  have hz:Hid (n=0):=qH (by have:=HE.out;rw[List.drop_length]at this;exact this.symm);go_wp2_with fail;go_ret;have hs:=HB.out.size;refine⟨ret_int hz.out.symm,?_⟩;exact x0ap
