/- Walks of functions. No conditions. -/
import Derived.Test.YtefkfglkpebbmabGreatPE3
import Derived.Test.YtefkfglkpebbmabGreatP10
set_option linter.unusedVariables false
set_option linter.unusedSimpArgs false
set_option maxRecDepth 100000
set_option maxHeartbeats 40000000
namespace Go.Proofs.YtefkfglkpebbmabGreat
open Go.RowKit
variable {Y:Prop}
variable {w:World}
structure WLoc where
 ar:Option Addr
 cr:Nat
 l:DLoc
 an:Option Addr
 cn:Nat
def WLoc.zero:WLoc:=⟨none,0,DLoc.zero,none,0⟩
def worA(x:Wor)(L:WLoc):Array Value:=#[.slice L.ar x.rel.length L.cr,.slice L.l.a0 x.d.s0.length L.l.c0,.slice L.l.a1 x.d.s1.length L.l.c1,.bool x.d.c0.ok,iv x.d.c0.r.gen,iv x.d.c0.r.active,.bool x.d.c0.r.trying,iv x.d.c0.r.tries,iv x.d.c0.r.floor,iv x.d.c0.r.a.ver,iv x.d.c0.r.a.size,iv x.d.c0.r.a.sum,iv x.d.c0.r.b.ver,iv x.d.c0.r.b.size,iv x.d.c0.r.b.sum,.bool x.d.c1.ok,iv x.d.c1.r.gen,iv x.d.c1.r.active,.bool x.d.c1.r.trying,iv x.d.c1.r.tries,iv x.d.c1.r.floor,iv x.d.c1.r.a.ver,iv x.d.c1.r.a.size,iv x.d.c1.r.a.sum,iv x.d.c1.r.b.ver,iv x.d.c1.r.b.size,iv x.d.c1.r.b.sum,.bool x.d.up,iv x.d.running,.slice L.l.ag x.d.got.length L.l.cg,.bool x.d.busy,iv x.d.job.from_,iv x.d.job.to_,iv x.d.job.old,iv x.d.job.new_,iv x.d.job.size,.slice L.l.aj x.d.job.ops.length L.l.cj,iv x.d.done,.slice L.an x.net.length L.cn]
@[go_sem] theorem worA_size(x:Wor)(L:WLoc):(worA x L).size=39:=by simp[worA]
@[go_sem] theorem worA_one(x:Wor)(L:WLoc):allOne (worA x L)=true:=by simp[worA,allOne,Value.oneCell']
@[go_sem] theorem worA_at0(x:Wor)(L:WLoc)(h:0<(worA x L).size):(worA x L)[0]'h=.slice L.ar x.rel.length L.cr:=by simp[worA]
@[go_sem] theorem worA_at2(x:Wor)(L:WLoc)(h:2<(worA x L).size):(worA x L)[2]'h=.slice L.l.a1 x.d.s1.length L.l.c1:=by simp[worA]
@[go_sem] theorem worA_at28(x:Wor)(L:WLoc)(h:28<(worA x L).size):(worA x L)[28]'h=iv x.d.running:=by simp[worA]
@[go_sem] theorem worA_at38(x:Wor)(L:WLoc)(h:38<(worA x L).size):(worA x L)[38]'h=.slice L.an x.net.length L.cn:=by simp[worA]
@[go_sem] theorem worA_all(x:Wor)(L:WLoc):(worA x L).extract 0 39=worA x L:=by simp[worA]
@[go_sem] theorem worA_ex1_38(x:Wor)(L:WLoc):(worA x L).extract 1 38=devA x.d L.l:=by simp[worA,devA]
@[go_sem] theorem worA_ex3_27(x:Wor)(L:WLoc):(worA x L).extract 3 27=copsA x.d.c0 x.d.c1:=by simp[worA,copsA]
@[go_sem] theorem worA_set_net(x:Wor)(L:WLoc)(l:List Chk)(A:OA)(c:Nat):(worA x L).setIfInBounds 38 (.slice A l.length c)=worA {x with net:=l} {L with an:=A,cn:=c}:=by simp[worA]
@[go_sem] theorem worA_splice_dev(x:Wor)(L:WLoc)(d:Dev)(K:DLoc):splice (worA x L) 1 (devA d K)=worA {x with d:=d} {L with l:=K}:=by simp[splice,worA,devA]
@[go_sem] theorem aggSzWor:aggSz Tryz.prog 40=39:=by kernel_rfl
@[go_sem] theorem zero_wor:Value.agg #[.slice none 0 0,.slice none 0 0,.slice none 0 0,.bool false,iv 0,iv 0,.bool false,iv 0,iv 0,iv 0,iv 0,iv 0,iv 0,iv 0,iv 0,.bool false,iv 0,iv 0,.bool false,iv 0,iv 0,iv 0,iv 0,iv 0,iv 0,iv 0,iv 0,.bool false,iv 0,.slice none 0 0,.bool false,iv 0,iv 0,iv 0,iv 0,iv 0,.slice none 0 0,iv 0,.slice none 0 0]=Value.agg (worA Wor.zero WLoc.zero):=by simp[worA,Wor.zero,WLoc.zero,Dev.zero,DLoc.zero,Cop.zero,Rec.zero,Inf.zero,Pat.zero]
structure WorIn(w:World)(x:Wor)(L:WLoc):Prop where
 kr:x.rel.length<=L.cr
 lr:x.rel.length<=1048576
 rel:Ims w L.ar x.rel
 dev:DevIn w x.d L.l
 kn:x.net.length<=L.cn
 ln:x.net.length<=1048576
 net:Chs w L.an x.net
theorem WorIn.stays{w':World}{x:Wor}{L:WLoc}(h:WorIn w x L)(hb:Below w.heap.size w w'):WorIn w' x L:=
 ⟨h.kr,h.lr,h.rel.stays hb,h.dev.stays hb,h.kn,h.ln,h.net.stays hb⟩
theorem WorIn.zero(w:World):WorIn w Wor.zero WLoc.zero:=
 ⟨nl,by simp[Wor.zero],fun i hi=>absurd hi (by simp[Wor.zero]),DevIn.zero w,nl,by simp[Wor.zero],Chs.nil _ _⟩
def FrIn(base m:Nat)(w:World)(P:World->Prop):Prop:=∀v:World,(∀k,base<=k->k<m->v.heap[k]?=w.heap[k]?)->P v
section
variable {base m:Nat} {w v:World} {P Q:World->Prop}
theorem Fresh.frIn(h:Fresh base w P):FrIn base w.heap.size w P:=fun v hv=>h v hv
theorem FrIn.of(h:FrIn base m w P)(hv:∀k,base<=k->k<m->v.heap[k]?=w.heap[k]?):FrIn base m v P:=fun u hu=>h u fun k h1 h2=>(hu k h1 h2).trans (hv k h1 h2)
theorem FrIn.wider{b2 m2:Nat}(h:FrIn base m w P)(hb:b2<=base)(hm:m<=m2):FrIn b2 m2 w P:=fun v hv=>h v fun k h1 h2=>hv k (by omega) (by omega)
theorem FrIn.now(h:FrIn base m w P):P w:=h w fun _ _ _=>rfl
end
structure WorAt(w:World)(base m top:Nat)(ds:List (Option Addr×Nat))(x:Wor)(L:WLoc):Prop where
 h1:base<=m
 h2:m<=top
 h3:top<=w.heap.size
 rel:FrIn base m w (fun v=>Ims v L.ar x.rel)
 dev:FrIn base m w (fun v=>DevIn v x.d L.l)
 net:GRow kChk w m x.net ds L.an L.cn
 each:Each kChk x.net ds (fun k=>m<=k∧k<top)
 blk:∀k,L.an.map (·.block)=some k->k<top
 bd:∀y∈x.net,ChkB y
 kr:x.rel.length<=L.cr
 lr:x.rel.length<=1048576
 ln:x.net.length<=1048576
theorem GRow.ex{α:Type}{K:Kd α}{v:World}{base c:Nat}{l:List α}{ds:List (Option Addr×Nat)}{A:OA}(h:GRow K w base l ds A c)(hA:∀k,A.map (·.block)=some k->v.heap[k]?=w.heap[k]?)(hd:Each K l ds (fun k=>v.heap[k]?=w.heap[k]?)):GRow K v base l ds A c:=by
 refine⟨h.len,h.row.same hA,fun i o d h1 h2=>⟨fun j hj=>?_,(h.data i o d h1 h2).2⟩,h.off⟩;obtain⟨b,o1,e1,hl1,hc⟩:=(h.data i o d h1 h2).1 j hj;have hx:K.dat o≠[]:=fun e=>by rw[e]at hj;simp at hj
 have hb:v.heap[b]?=w.heap[b]?:=hd i o d h1 h2 hx b (by rw[e1];rfl);have hlt:b<v.heap.size:=by
  rcases Nat.lt_or_ge b v.heap.size with h|h
  ·exact h
  rw[Array.getElem?_eq_none h,Array.getElem?_eq_getElem hl1]at hb;cases hb
 exact⟨b,o1,e1,hlt,(World.cell?_of_block hb).trans hc⟩
section
variable {w v:World} {base m top:Nat} {ds:List (Option Addr×Nat)} {x:Wor} {L:WLoc}
theorem WorAt.netEx(h:WorAt w base m top ds x L)(hv:∀k,base<=k->k<top->v.heap[k]?=w.heap[k]?):GRow kChk v m x.net ds L.an L.cn:=by
 have h1:=h.h1;exact h.net.ex (fun k e=>hv k (by have:=(h.net.row.block k e).1;omega) (h.blk k e)) (h.each.imp fun k hk=>hv k (by omega) hk.2)
theorem WorAt.same(h:WorAt w base m top ds x L)(hv:∀k,base<=k->k<top->v.heap[k]?=w.heap[k]?)(hm:top<=v.heap.size):WorAt v base m top ds x L:=by
 have h2:=h.h2;exact⟨h.h1,h.h2,hm,h.rel.of fun k a b=>hv k a (by omega),h.dev.of fun k a b=>hv k a (by omega),h.netEx hv,h.each,h.blk,h.bd,h.kr,h.lr,h.ln⟩
theorem WorAt.wex(h:WorAt w base m top ds x L)(hv:∀k,base<=k->k<top->v.heap[k]?=w.heap[k]?):WorIn v x L:=by
 have h1:=h.h2;exact⟨h.kr,h.lr,h.rel v (fun k a b=>hv k a (by omega)),h.dev v (fun k a b=>hv k a (by omega)),h.net.row.le,h.ln,(h.netEx hv).src.chs h.bd⟩
end
def WcRet(w:World)(x:Wor):Ending->World->Prop:=fun en w'=>
 ∃L m ds,en=.returned (.agg (worA x L))∧WorAt w' (w.heap.size+2) m w'.heap.size ds x L∧Below w.heap.size w w'
def WvRet(w:World)(x:Wor)(n:Int):Ending->World->Prop:=fun en w'=>
 ∃L,en=.returned (.tuple #[.agg (worA x L),iv n])∧Fresh w.heap.size w' (fun v=>WorIn v x L)∧Below w.heap.size w w'
theorem big_wor'(n:Nat)(h:0<n):bigBuild Tryz.prog 40 n:=by
 obtain⟨i,hi,_⟩:=info_parts (P:=Tryz.prog) (e:=40) (z:=.agg (worA Wor.zero WLoc.zero)) (size:=39) (bytes:=408) (by kernel_rfl);exact⟨i,hi,h⟩
@[go_sem] theorem big_wor2:bigBuild Tryz.prog 40 2:=big_wor' 2 (by decide)
@[go_sem] theorem big_wor3:bigBuild Tryz.prog 40 3:=big_wor' 3 (by decide)
@[go_sem] theorem build_wor2(a:OA)(c:Nat)(l:List (List UInt8))(d:Dev)(K:DLoc)(w:World):runBuild Tryz.prog 40 #[(0,.slice a l.length c),(1,.agg (devA d K))] w=.ok (.agg (worA ⟨l,d,[]⟩ ⟨a,c,K,none,0⟩)) w:=by kernel_rfl
@[go_sem] theorem build_wor3(a:OA)(c:Nat)(l:List (List UInt8))(d:Dev)(K:DLoc)(b:OA)(e:Nat)(t:List Chk)(w:World):runBuild Tryz.prog 40 #[(0,.slice a l.length c),(1,.agg (devA d K)),(2,.slice b t.length e)] w=.ok (.agg (worA ⟨l,d,t⟩ ⟨a,c,K,b,e⟩)) w:=by kernel_rfl
def Bex(g base:Nat)(w w':World):Prop:=Below 0 w w'∧∀k,k<base->k≠g->w'.heap[k]?=w.heap[k]?
section
variable {g base:Nat} {w w' w2:World}
theorem Bex.refl(g base:Nat)(w:World):Bex g base w w:=⟨Below.refl _ _,fun _ _ _=>rfl⟩
theorem Bex.below(h:Bex g base w w')(hb:Below w'.heap.size w' w2)(hg:g<=w'.heap.size)(hs:base<=w'.heap.size):Bex g base w w2:=⟨h.1.trans (hb.mono (Nat.zero_le _)),fun k h1 h2=>(hb.block k (by omega)).trans (h.2 k h1 h2)⟩
theorem Bex.row(h:Bex g base w w'){q:Nat}(hq:q=g∨base<=q)(cs:Array Value):Bex g base w (w'.setRow q cs):=⟨below_row h.1 (Nat.zero_le _) _,fun k h1 h2=>(setRow_other _ _ _ _ (by omega)).trans (h.2 k h1 h2)⟩
theorem Bex.alloc(h:Bex g base w w')(hg:g<=w'.heap.size)(hs:base<=w'.heap.size)(o:Obj):Bex g base w (w'.alloc o):=h.below (bL o) hg hs
theorem Bex.to(h:Bex g base w w'){B:Nat}(h1:B<=g)(h2:B<=base):Below B w w':=⟨h.1.os,h.1.tape,h.1.output,h.1.size,fun k hk=>h.2 k (by omega) (by omega)⟩
end
def HaRet(w:World)(g base:Nat)(x:Wor)(n:Int):Ending->World->Prop:=fun en w'=>
 en=.returned (iv n)∧(n=0->∃L,rowOf w' g=worA x L∧frOf w' g=(0,0)∧∀v:World,(∀k,base<=k->k≠g->k<w'.heap.size->v.heap[k]?=w'.heap[k]?)->WorIn v x L)∧Bex g base w w'∧w.heap.size<=w'.heap.size
theorem rowOf_heap{w':World}{g:Nat}(h:w'.heap[g]?=w.heap[g]?):rowOf w' g=rowOf w g∧frOf w' g=frOf w g:=by unfold rowOf frOf;rw[h];exact⟨rfl,rfl⟩
def HapOk(kd n:Int):Prop:=∀(g base m top:Nat) (ds:List (Option Addr×Nat)) (x:Wor) (L:WLoc) (w:World),rowOf w g=worA x L->frOf w g=(0,0)->(g<base∨top<=g)->WorAt w base m top ds x L->WorOk x->I64 n->Calls Tryz.prog 18 #[.pointer (some ⟨g,0,none⟩),.agg #[iv kd,iv n]] w (HaRet w g base (worHappen x kd n).1 (worHappen x kd n).2)
theorem x4qe(h:Y:=by
 have e3:=fO 3 (.pointer (some ⟨w.heap.size+1,0,none⟩)) h;go_simp):Y:=h
structure CbJ{α:Type}(w0:World)(ci cm e0 e1 al st a1:Nat)(row:α->Array Value)(zr:Array Value)(n:Int)(R:α->Nat->World->Prop)(x:α)(b gb:Nat)(w2:World)(dn:Nat->Bool)(cv:Nat->Value)(w:World):Prop where
 bel:Below w0.heap.size w0 w
 call:dn ci=true->cv ci=.tuple #[.agg (row x),iv n]∧w0.heap.size<=b∧R x b w2∧Kp b w2 w∧w2.heap.size<=w.heap.size
 v1:dn cm=true->cv cm=.tuple #[.agg (row x),iv n]
 v2:dn e0=true->cv e0=.agg (row x)
 v3:dn e1=true->cv e1=iv n
 v4:dn a1=true->cv a1=iv n
 box:dn al=true->cv al=.pointer (some ⟨gb,0,none⟩)∧w0.heap.size<=gb∧gb<w.heap.size∧frOf w gb=(0,0)∧(dn st=false->rowOf w gb=zr)∧(dn st=true->rowOf w gb=row x)
 apart:dn ci=true->dn al=true->gb<b∨w2.heap.size<=gb
def cbJ{α:Type}(w0:World)(ci cm e0 e1 al st a1:Nat)(row:α->Array Value)(zr:Array Value)(n:Int)(R:α->Nat->World->Prop)(dn:Nat->Bool)(cv:Nat->Value)(w:World):Prop:=
 ∃(x:α) (b gb:Nat) (w2:World),CbJ w0 ci cm e0 e1 al st a1 row zr n R x b gb w2 dn cv w
section
variable {α:Type} {w0 w w':World} {ci cm e0 e1 al st a1:Nat} {row:α->Array Value} {zr:Array Value} {n:Int} {R:α->Nat->World->Prop} {dn:Nat->Bool} {cv:Nat->Value}
theorem cbJ_start(x:α):cbJ w0 ci cm e0 e1 al st a1 row zr n R (fun _=>false) (fun _=>undef) w0.drew:=
 ⟨x,0,0,w0,(Below.refl _ _).drew,by simp,by simp,by simp,by simp,by simp,by simp,by simp⟩
theorem cbJ_bel(h:cbJ w0 ci cm e0 e1 al st a1 row zr n R dn cv w):Below w0.heap.size w0 w:=by
 obtain⟨_,_,_,_,h⟩:=h;exact h.bel
theorem cbJ_c(h2:dn cm=false)(h3:dn e0=false)(h4:dn e1=false)(h5:dn a1=false)(h7:dn st=false)(n1:cm≠ci)(n2:e0≠ci)(n3:e1≠ci)(n4:a1≠ci)(n5:al≠ci)(n6:st≠ci)(h:cbJ w0 ci cm e0 e1 al st a1 row zr n R dn cv w){x:α}(hp:R x w.heap.size w')(hb:Below w.heap.size w w'):
  cbJ w0 ci cm e0 e1 al st a1 row zr n R (fun j=>if j=ci then true else dn j) (fun j=>if j=ci then .tuple #[.agg (row x),iv n] else cv j) w':=by
 obtain⟨x1,b1,gb,w1,h⟩:=h;have hs:=h.bel.size;refine⟨x,w.heap.size,gb,w',h.bel.trans (hb.mono hs),fun _=>⟨by simp,hs,hp,Kp.refl _ _,nl⟩,by simp[n1,h2],by simp[n2,h3],by simp[n3,h4],by simp[n4,h5],?_,?_⟩
 ·simp only[n5,n6,if_false];intro ha;obtain⟨g1,g2,g3,g4,g5,g6⟩:=h.box ha;exact⟨g1,g2,Nat.lt_of_lt_of_le g3 hb.size,(frOf_below g3 hb).trans g4,fun e=>(rowOf_below g3 hb).trans (g5 e),fun e=>by rw[h7]at e;cases e⟩
 simp only[n5,if_false];exact fun _ ha=>.inl (h.box ha).2.2.1
theorem cbJ_k{k:Nat}{v:Value}(hne:ci≠k)(hal:al≠k)(hst:st≠k)(h:cbJ w0 ci cm e0 e1 al st a1 row zr n R dn cv w)
  (hv:∀x,(dn ci=true->cv ci=.tuple #[.agg (row x),iv n])->(dn cm=true->cv cm=.tuple #[.agg (row x),iv n])->(dn e0=true->cv e0=.agg (row x))->(dn e1=true->cv e1=iv n)->(cm=k->v=.tuple #[.agg (row x),iv n])∧(e0=k->v=.agg (row x))∧(e1=k->v=iv n)∧(a1=k->v=iv n)):
  cbJ w0 ci cm e0 e1 al st a1 row zr n R (fun j=>if j=k then true else dn j) (fun j=>if j=k then v else cv j) w:=by
 obtain⟨x,b,gb,w1,h⟩:=h;obtain⟨v1,v2,v3,v4⟩:=hv x (fun e=>(h.call e).1) h.v1 h.v2 h.v3;have key:∀(q:Nat) (y:Value),(dn q=true->cv q=y)->(q=k->v=y)->((if q=k then true else dn q)=true->(if q=k then v else cv q)=y):=by
  intro q y h1 h2 h3;by_cases e:q=k
  ·rw[if_pos e];exact h2 e
  rw[if_neg e]at h3⊢;exact h1 h3
 refine⟨x,b,gb,w1,h.bel,by simp only[hne,if_false];exact h.call,key _ _ h.v1 v1,key _ _ h.v2 v2,key _ _ h.v3 v3,key _ _ h.v4 v4,by simp only[hal,hst,if_false];exact h.box,by simp only[hne,hal,if_false];exact h.apart⟩
theorem cbJ_a{ty:TypeId}(hz:0<zr.size)(hal:dn al=false)(hs:dn st=false)(n1:cm≠al)(n2:e0≠al)(n3:e1≠al)(n4:a1≠al)(n5:ci≠al)(n6:st≠al)(h:cbJ w0 ci cm e0 e1 al st a1 row zr n R dn cv w):
  cbJ w0 ci cm e0 e1 al st a1 row zr n R (fun j=>if j=al then true else dn j) (fun j=>if j=al then .pointer (some ⟨w.heap.size,0,none⟩)else cv j) (w.alloc (.cells zr ty)):=by
 obtain⟨x,b,gb,w1,h⟩:=h;have hsz:=h.bel.size;refine⟨x,b,w.heap.size,w1,h.bel.alloc hsz _,?_,by simpa[n1]using h.v1,by simpa[n2]using h.v2,by simpa[n3]using h.v3,by simpa[n4]using h.v4,?_,?_⟩
 ·simp only[n5,if_false];intro e;obtain⟨g1,g2,g3,g4,g5⟩:=h.call e;exact⟨g1,g2,g3,g4.alloc g5 _,by simp;omega⟩
 ·simp only[n6,if_false,if_true];refine fun _=>⟨trivial,hsz,by simp,by rw[frOf_alloc,if_pos rfl],fun _=>by rw[rowOf_alloc,if_pos rfl],fun e=>by rw[hs]at e;cases e⟩
 simp only[n5,if_false];intro e _;exact .inr (h.call e).2.2.2.2
theorem cbJ_s(hz:0<zr.size)(hd:dn ci=true)(hs:dn st=false)(hal:dn al=true)(he0:dn e0=true)(n1:cm≠st)(n2:e0≠st)(n3:e1≠st)(n4:a1≠st)(n5:ci≠st)(n6:al≠st)(h:cbJ w0 ci cm e0 e1 al st a1 row zr n R dn cv w){v:Value}:
  ∃(x:α) (gb:Nat),cv al=.pointer (some ⟨gb,0,none⟩)∧cv e0=.agg (row x)∧rowOf w gb=zr∧frOf w gb=(0,0)∧cbJ w0 ci cm e0 e1 al st a1 row zr n R (fun j=>if j=st then true else dn j) (fun j=>if j=st then v else cv j) (w.setRow gb (row x)):=by
 obtain⟨x,b,gb,w1,h⟩:=h;obtain⟨b1,b2,b3,b4,b5,b6⟩:=h.box hal;have hr:=b5 hs;refine⟨x,gb,b1,h.v2 he0,hr,b4,x,b,gb,w1,below_row h.bel b2 _,?_,by simpa[n1]using h.v1,by simpa[n2]using h.v2,by simpa[n3]using h.v3,by simpa[n4]using h.v4,?_,?_⟩
 ·simp only[n5,if_false];intro e;obtain⟨g1,g2,g3,g4,g5⟩:=h.call e;exact⟨g1,g2,g3,g4.row (h.apart e hal) _,by simp[World.setRow];exact g5⟩
 ·simp only[n6,if_false,if_true];refine fun _=>⟨b1,b2,by simp[World.setRow];exact b3,by rw[frOf_setRow];exact b4,fun e=>by simp at e,fun _=>by rw[rowOf_setRow _ _ _ _ (by rw[hr];exact hz),if_pos rfl]⟩
 simp only[n5,n6,if_false];exact h.apart
theorem cbJ_end(h1:dn ci=true)(h2:dn cm=true)(h3:dn e0=true)(h4:dn e1=true)(h5:dn a1=true)(h6:dn al=true)(h7:dn st=true)(h:cbJ w0 ci cm e0 e1 al st a1 row zr n R dn cv w):
  ∃(x:α) (b gb:Nat) (w2:World),cv ci=.tuple #[.agg (row x),iv n]∧cv cm=.tuple #[.agg (row x),iv n]∧cv e0=.agg (row x)∧cv e1=iv n∧cv a1=iv n∧cv al=.pointer (some ⟨gb,0,none⟩)∧
   rowOf w gb=row x∧frOf w gb=(0,0)∧w0.heap.size<=gb∧gb<w.heap.size∧Below w0.heap.size w0 w∧w0.heap.size<=b∧R x b w2∧Kp b w2 w∧w2.heap.size<=w.heap.size∧(gb<b∨w2.heap.size<=gb):=by
 obtain⟨x,b,gb,w1,h⟩:=h;obtain⟨g1,g2,g3,g4,g5⟩:=h.call h1;obtain⟨b1,b2,b3,b4,b5,b6⟩:=h.box h6;exact⟨x,b,gb,w1,g1,h.v1 h2,h.v2 h3,h.v3 h4,h.v4 h5,b1,b6 h7,b4,b2,b3,h.bel,g2,g3,g4,g5,h.apart h1 h6⟩
end
theorem wp_alloc{P:Program}{a:Act}{K:Act->World->Prop}{Q:Exit->Act->World->Prop}{ty t:TypeId}{p:String}{af:Array Edge}{gd:Option (Nat×Bool)}{d:Tmp}{zr:Array Value}(he:∀ev:Operand->Value,(execOp ev ⟨some d,.alloc ty,t,p,af,gd⟩).run P w=.ok (.value (.pointer (some ⟨w.heap.size,0,none⟩))) (w.alloc (.cells zr ty)))
  (h:K (a.put (some d) (.pointer (some ⟨w.heap.size,0,none⟩))) (w.alloc (.cells zr ty))):Oper.wp P ⟨some d,.alloc ty,t,p,af,gd⟩ a w K Q:=by
 unfold Oper.wp;rw[he];exact h
theorem relCheck_bad{l:List (List UInt8)}(h:l=[]∨30<l.length∨∃b∈l,64<b.length):relCheck l=1:=by unfold relCheck;rw[if_pos h]
theorem relCheck_fine{l:List (List UInt8)}(h:¬(l=[]∨30<l.length∨∃b∈l,64<b.length)):relCheck l=0:=by unfold relCheck;rw[if_neg h]
theorem releases_calls(A:OA)(c:Nat)(l:List (List UInt8))(w:World)(hc:l.length<=c)(hl:l.length<=1048576)(hs:Ims w A l):
  Calls Tryz.prog 14 #[.slice A l.length c] w (Ret w (iv (relCheck l))):=by
 by_cases h1:l=[]
 ·subst h1;rw[relCheck_bad (.inl rfl)];go_enter Tryz.func14,Tryz.ntmps14;exact x1gi
 have hpos:0<l.length:=List.length_pos_iff.2 h1;by_cases h2:30<l.length
 ·rw[relCheck_bad (.inr (.inl h2))];have q1:¬((l.length:Int)=0):=by omega
  have q2:(30:Int)<(l.length:Int):=by omega
  have q3:((l.length:Int)==0)=false:=by simp;omega
  clear h1;go_enter Tryz.func14,Tryz.ntmps14;exact x1gi
 obtain⟨r,hr⟩:=eX (relCheck l);rw[hr];have HR:Hid (r=if ∃b∈l,64<b.length then 1 else 0):=qH (by
  rw[<-hr];by_cases h3:∃b∈l,64<b.length
  ·rw[relCheck_bad (.inr (.inr h3)),if_pos h3]
  rw[relCheck_fine (fun h=>h.elim h1 (fun h=>h.elim h2 h3)),if_neg h3])
 have HS:=qH hs;have q1:¬((l.length:Int)=0):=by omega
 have q2:¬(30:Int)<(l.length:Int):=by omega
 have q3:((l.length:Int)==0)=false:=by simp;omega
 have hcap:(l.length:Int)<=(c:Int):=by omega
 clear hr hs h1 hpos;go_enter Tryz.func14,Tryz.ntmps14;go_wp2_with fail;go_loopw [15] (fun i wr=>∃k:Nat,k<=l.length∧i=iv k∧wr=w∧Hid (∀b∈l.take k,b.length<=64)) (fun i _=>l.length-(intOf i).toNat)
 case atStart=>exact⟨0,Nat.zero_le _,rfl,rfl,qH (by simp)⟩
 case round=>
  obtain⟨k,hk,rfl,rfl,HB⟩:=hrel;by_cases hlt:k<l.length
  ·obtain⟨b,o,rfl,hb,cs,hcl,hcc,B,d,rfl,hd1,hd2,hd3⟩:=HS.out k hlt;obtain⟨x,hx⟩:=eX (l[k]);have q4:wr.cell? ⟨b,o+k,none⟩=some (.slice B x.length d):=by have:=hcc 0 (by simp);rw[hx]at this;simpa using this
   have hwk:IntKind.i64.wrap ((k:Int)+1)=(k:Int)+1:=IntWalk.i64_in _ (by omega);have HX:=qH hx;by_cases h1:64<x.length
   ·have hz:r=1:=by rw[HR.out,if_pos ⟨x,by rw[<-HX.out];exact List.getElem_mem hlt,h1⟩]
    subst hz;have q:(64:Int)<(x.length:Int):=by omega
    clear hcc hcl hd1 hd2 hd3 hx;exact x1gi
   have q:¬(64:Int)<(x.length:Int):=by omega
   have HB1:Hid (∀b∈l.take (k+1),b.length<=64):=qH (fun y hy=>by
    rw[List.take_succ_eq_append_getElem hlt,List.mem_append]at hy;rcases hy with hy|hy
    ·exact HB.out y hy
    have e:y=l[k]:=by simpa using hy
    rw[e,HX.out];omega)
   clear hcc hcl hd1 hd2 hd3 hx;go_wp2_with fail;go_roundw
   case rel=>exact⟨k+1,by omega,by go_num,by first|rfl|trivial,HB1⟩
   case measure=>simp[intOf];omega
  obtain rfl:k=l.length:=by omega
  have hz:r=0:=by
   rw[HR.out,if_neg];rintro⟨b,hb,h⟩;have:=HB.out b (by rw[List.take_length];exact hb);omega
  subst hz;exact x1gi
theorem opsCopy_calls(A:OA)(c:Nat)(l:List Stp)(w:World)(hl:l.length<=1048576)(hs:Sps w A l):
  Calls Tryz.prog 128 #[.slice A l.length c] w (KrRet kOp w l):=by
 obtain⟨ds1,hg⟩:=hs.gsrc;have hbd:=hs.bound;have HBD:=qH hbd;have HG:=qH hg;have K1:=qH (cloneOps_calls A l.length c (kOp.cells l ds1) w (cells_len _ _ hg.len) (by omega) hg.row (cells_oneCell _ _));clear hs hg hbd;go_enter Tryz.func128,Tryz.ntmps128;go_wp2_with fail;refine K1.out.mono ?_;rintro e w1 ⟨A1,c1,rfl,hown,hb1⟩;have hrow:GRow kOp w1 w.heap.size l ds1 A1 c1:=⟨HG.out.len,hown,(HG.out.stays hb1).data,fun i o d h1 h2 hx k hk e=>by
  have:=HG.out.each i o d h1 h2 hx k hk;have:=(hown.block k e).1;omega⟩
 have HR1:=qH hrow;have HB1:Hid (Below w.heap.size w w1):=qH hb1;clear hown hb1 hrow K1;go_wp2_with fail;go_loopw [9] (fun i wr=>∃(k:Nat) (ds:List (Option Addr×Nat)),k<=l.length∧i=iv k∧Hid (GRow kOp wr w.heap.size l ds A1 c1)∧Hid (∀(j:Nat) (o:Stp) (d:Option Addr×Nat),j<k->l[j]?=some o->ds[j]?=some d->kOp.dat o≠[]->∀q,d.1.map (·.block)=some q->w.heap.size<=q)∧Hid (Below w.heap.size w wr)) (fun i _=>l.length-(intOf i).toNat)
 case atStart=>exact⟨0,ds1,Nat.zero_le _,rfl,HR1,qH (fun j o d h=>by omega),HB1⟩
 case round=>
  clear HR1 HB1;rename World=>wr;obtain⟨k,ds,hk,rfl,HR,HN,HB⟩:=hrel;have hsz:=HB.out.size;by_cases hlt:k<l.length
  ·obtain⟨g,rfl,hg1,hg2⟩:=HR.out.row.form (by omega);have hlk:l[k]?=some l[k]:=List.getElem?_eq_getElem hlt;have hdk:ds[k]?=some (ds[k]'(by have:=HR.out.len;omega)):=List.getElem?_eq_getElem _;obtain⟨x,hx⟩:=eX (l[k]);obtain⟨e,he⟩:=eX (ds[k]'(by have:=HR.out.len;omega));rw[hx]at hlk;rw[he]at hdk;have hcell:∀j,j<3->wr.cell? ⟨g,k*3+j,none⟩=(kOp.cell x e)[j]?:=fun j hj=>by
    rw[HR.out.row.cellAt _ (show k*3+j<l.length*3 by omega)];exact cells_at (K:=kOp) l ds HR.out.len k j x e hlk hdk hj
   have q3:wr.cell? ⟨g,k*3,none⟩=some (iv x.at_):=hcell 0 (by decide);have q1:wr.cell? ⟨g,k*3+1,none⟩=some (iv x.len):=hcell 1 (by decide);have q2:wr.cell? ⟨g,k*3+2,none⟩=some (.slice e.1 x.data.length e.2):=hcell 2 (by decide);obtain⟨hd1,hd2⟩:=HR.out.data k x e hlk hdk;have hxl:x.data.length<=1048576:=(HBD.out x (List.mem_of_getElem? hlk)).2.2;have HD1:Hid (Bts wr e.1 x.data):=qH hd1;have HLK:=qH hlk;have HDK:=qH hdk;have K1:=qH (fun w h=>cloneBytes_calls e.1 x.data.length e.2 (x.data.map bv) w (by simp) (by omega) h (bv_one _));have hfr:wr.frozen? ⟨g,k*3+2,none⟩=false:=HR.out.row.frozenAt _;have dl:decide ((k:Int)<(l.length:Int))=true:=decide_eq_true (by omega);have hwk:IntKind.i64.wrap ((k:Int)+1)=(k:Int)+1:=IntWalk.i64_in _ (by omega);have hcap:(l.length:Int)<=(c1:Int):=by have:=HR.out.row.le;omega
   clear hcell hx he hlk hdk hd1 hd2;go_wp2_with fail;have hba:=(bW wr).alloc nl (.cells (#[iv x.at_,iv x.len,.slice e.1 x.data.length e.2]) 145);refine(K1.out _ (HD1.out.stays hba).src).mono ?_;rintro en w2 ⟨B,d,rfl,hob,hb1⟩;have hb2:=hba.trans (hb1.mono (by simp));have HR1:=qH (HR.out.below hb2);have hq1:w2.cell? ⟨g,k*3+2,none⟩=some (.slice e.1 x.data.length e.2):=(hb2.cell (p:=⟨g,k*3+2,none⟩) hg2).trans q2;have hf1:w2.frozen? ⟨g,k*3+2,none⟩=false:=(hb2.frozen (p:=⟨g,k*3+2,none⟩) hg2).trans hfr;have HBB:Hid (Below w.heap.size w (w2.setCell ⟨g,k*3+2,none⟩ (.slice B x.data.length d))):=qH ((HB.out.trans (hb2.mono hsz)).setCell (p:=⟨g,k*3+2,none⟩) hg1 _);have hgw:∀q,B.map (·.block)=some q->wr.heap.size+1<=q:=fun q h=>by have:=(hob.block q h).1;simpa using this
   have HR2:Hid (GRow kOp (w2.setCell ⟨g,k*3+2,none⟩ (.slice B x.data.length d)) w.heap.size l (ds.set k (B,d)) (some ⟨g,0,none⟩) c1):=qH (HR1.out.setData (e:=(B,d)) HLK.out hob.src.bts (by show x.data.length<=d;simpa using hob.le) (fun _ q h e2=>by have:=hgw q h;omega));have HN1:Hid (∀(j:Nat) (o:Stp) (d':Option Addr×Nat),j<k+1->l[j]?=some o->(ds.set k (B,d))[j]?=some d'->kOp.dat o≠[]->∀q,d'.1.map (·.block)=some q->w.heap.size<=q):=qH (fun j o d' hj h1 h2 hx q hq=>by
    exact x9r5)
   have a1:=kp (wr.heap.size) (#[iv x.at_,iv x.len,.slice e.1 x.data.length e.2]) hb1;clear hob hb1 hb2 hba q3 q1 q2 hfr hgw a1;go_wp2_with fail;go_roundw
   case rel=>exact⟨k+1,ds.set k (B,d),by omega,by go_num,HR2,HN1,HBB⟩
   case measure=>simp[intOf];omega
  exact x6wy
def PcRet(w:World)(p:Pat):Ending->World->Prop:=fun en w'=>
 ∃A c,en=.returned (.agg (patA p.from_ p.to_ p.old p.new_ p.size A p.ops.length c))∧Fresh w.heap.size w' (fun v=>PatIn v p A c)∧Below w.heap.size w w'
theorem patCopy_calls(B:OA)(d:Nat)(p:Pat)(w:World)(hp:PatIn w p B d):
  Calls Tryz.prog 98 #[.agg (patA p.from_ p.to_ p.old p.new_ p.size B p.ops.length d)] w (PcRet w p):=by
 obtain⟨f,t,o,n,sz,l⟩:=p;obtain⟨hcap,hlen,hops,j5,j1,j2,j3,j4⟩:=hp;dsimp only at *
 have hba:=((bW w).alloc nl (.cells (patA f t o n sz B l.length d) 36)).alloc (by simp) (.cells (patA 0 0 0 0 0 none 0 0) 36);have HBD:=qH hops.bound;have HS:=qH hops;have HI:Hid (I64 f∧I64 t∧I64 o∧I64 n∧I64 sz):=qH ⟨j5,j1,j2,j3,j4⟩;have HBA:=qH hba;clear hops hba j5 j1 j2 j3 j4;go_enter Tryz.func98,Tryz.ntmps98;go_wp2_with fail;refine(opsCopy_calls B d l _ hlen (HS.out.stays HBA.out)).mono ?_;rintro e w1 ⟨A1,c1,ds,rfl,hg,he,hb1⟩;have a2:=kp (w.heap.size) (patA f t o n sz B l.length d) hb1;have a1:=kp (w.heap.size+1) (patA 0 0 0 0 0 none 0 0) hb1;have HB1:=bT HBA hb1;have hfr:=hg.fresh he;have HF:Hid (Fresh (w.heap.size+2) w1 (fun v=>GRow kOp v (w.heap.size+2) l ds A1 c1)):=qH (by simpa using hfr);have HC:=qH hg.row.le;clear hb1 hg he hfr;go_wp2_with fail;refine bodyPost_ret (results_c rfl rfl (cs:=patA f t o n sz A1 l.length c1) (by go_simp) (by go_simp) (by go_simp)) rfl ?_;refine⟨A1,c1,rfl,?_,?_⟩
 ·refine Fresh.imp (P:=fun v=>GRow kOp v (w.heap.size+2) l ds A1 c1) (Fresh.mono (base:=w.heap.size+2) ?_ (by omega)) (fun v hv=>⟨HC.out,hlen,hv.src.sps HBD.out,HI.out.1,HI.out.2.1,HI.out.2.2.1,HI.out.2.2.2.1,HI.out.2.2.2.2⟩);repeat (first|exact HF.out|refine Fresh.row ?_ (by omega) _|refine Fresh.cell ?_ (by simp) _)
 exact bZ HB1
