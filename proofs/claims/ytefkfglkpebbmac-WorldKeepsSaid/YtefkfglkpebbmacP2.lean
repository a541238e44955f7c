/- Walks of functions, and plain words. No conditions. -/
import Derived.Test.YtefkfglkpebbmacPE2
import Derived.Test.YtefkfglkpebbmacP1
import Derived.ChangeKeysEq
import Derived.Deep.DeepCutAuto
import Derived.Laws.OwnMore
set_option linter.unusedVariables false
set_option linter.unusedSimpArgs false
set_option maxRecDepth 100000
set_option maxHeartbeats 40000000
namespace Go.Proofs.Ytefkfglkpebbmac
open Go.RowKit
variable {Y:Prop}
variable {base g n c a:Nat} {w v:World} {t:TypeId} {d:Dev} {A:OA} {x:Chk} {l:List Chk} {r:Rec}
theorem fresh_lt{k:Nat}(hv:∀k,base<=k->k<w.heap.size->v.heap[k]?=w.heap[k]?)(h1:base<=k)(h2:k<w.heap.size):k<v.heap.size:=by
 exact x1s0
theorem Fresh.fresh{P:World->Prop}(h:Fresh base w P)(hv:∀k,base<=k->k<w.heap.size->v.heap[k]?=w.heap[k]?):Fresh base v P:=
 fun u hu=>h u fun k h1 h2=>(hu k h1 (fresh_lt hv h1 h2)).trans (hv k h1 h2)
structure DevOwn(w:World)(base m1 m2:Nat)(d:Dev)(L:DLoc):Prop where
 h1:base<=m1
 h2:m1<=m2
 o0:Own w base 5 1 L.a0 d.s0.length L.c0 (d.s0.map bv)
 b0:∀k,L.a0.map (·.block)=some k->k<m1
 o1:Own w m1 5 1 L.a1 d.s1.length L.c1 (d.s1.map bv)
 b1:∀k,L.a1.map (·.block)=some k->k<m2
 got:Fresh m2 w (fun v=>Chs v L.ag d.got)
 job:Fresh m2 w (fun v=>PatIn v d.job L.aj L.cj)
 l0:d.s0.length<=140737488351232
 l1:d.s1.length<=140737488351232
 kg:d.got.length<=L.cg
 lg:d.got.length<=2513169434843
 ir:I64 d.running
 id:I64 d.done
def DvOwn(w:World)(base:Nat)(d:Dev)(L:DLoc):Prop:=∃m1 m2,DevOwn w base m1 m2 d L
section
variable {w v:World} {base m1 m2:Nat} {d:Dev} {L:DLoc}
theorem DevOwn.same(h:DevOwn w base m1 m2 d L)(hv:∀k,base<=k->k<w.heap.size->v.heap[k]?=w.heap[k]?):DevOwn v base m1 m2 d L:=
 ⟨h.h1,h.h2,own_fresh h.o0 hv,h.b0,own_fresh h.o1 (fun k h1=>hv k (Nat.le_trans h.h1 h1)),h.b1,
   h.got.fresh (fun k h1=>hv k (by have:=h.h1;have:=h.h2;omega)),h.job.fresh (fun k h1=>hv k (by have:=h.h1;have:=h.h2;omega)),h.l0,h.l1,h.kg,h.lg,h.ir,h.id⟩
theorem DvOwn.fresh(h:DvOwn w base d L):Fresh base w (fun v=>DvOwn v base d L):=by
 obtain⟨m1,m2,h⟩:=h;exact fun v hv=>⟨m1,m2,h.same hv⟩
theorem DvOwn.mono{base':Nat}(h:DvOwn w base d L)(hb:base'<=base):DvOwn w base' d L:=by
 obtain⟨m1,m2,h⟩:=h;exact⟨m1,m2,Nat.le_trans hb h.h1,h.h2,h.o0.mono hb,h.b0,h.o1,h.b1,h.got,h.job,h.l0,h.l1,h.kg,h.lg,h.ir,h.id⟩
theorem DevOwn.devIn(h:DevOwn w base m1 m2 d L):DevIn w d L:=
 ⟨h.o0.le,h.l0,h.o0.src.bts,h.o1.le,h.l1,h.o1.src.bts,h.kg,h.lg,h.got.now,h.job.now,h.ir,h.id⟩
theorem DvOwn.devIn(h:DvOwn w base d L):DevIn w d L:=by
 obtain⟨m1,m2,h⟩:=h;exact h.devIn
end
def DcRet(w:World)(d:Dev):Ending->World->Prop:=fun en w'=>
 ∃L,en=.returned (.agg (devA d L))∧Fresh w.heap.size w' (fun v=>DvOwn v w.heap.size d L)∧Below w.heap.size w w'
def DvRet(w:World)(d:Dev)(n:Int):Ending->World->Prop:=fun en w'=>
 ∃L,en=.returned (.tuple #[.agg (devA d L),iv n])∧Fresh w.heap.size w' (fun v=>DevIn v d L)∧Below w.heap.size w w'
theorem wp_srow{P:Program}{a:Act}{K:Act->World->Prop}{Q:Exit->Act->World->Prop}{ty:TypeId}{p:String}{af:Array Edge}{gd:Option (Nat×Bool)}{x y:Tmp}{j:Nat}{cs new:Array Value}(hx:a.tmps[x]?=some (.pointer (some ⟨g,j,none⟩)))(hy:a.tmps[y]?=some (.agg new))
  (h1:aggSz P ty=new.size) (h0:0<new.size) (hr:rowOf w g=cs) (h2:j+new.size<=cs.size) (hf:frOf w g=(0,0)) (hc:allOne new=true) (h:K a (w.setRow g (splice cs j new))):
  Oper.wp P ⟨none,.store ty (.tmp x) (.tmp y),t,p,af,gd⟩ a w K Q:=by
 have e1:a.eval (.tmp x)=.pointer (some ⟨g,j,none⟩):=by simp[Act.eval,hx]
 have e2:a.eval (.tmp y)=.agg new:=by simp[Act.eval,hy]
 have e:=exec_store_row (P:=P) (w:=w) (ev:=a.eval) (d:=none) (ty:=ty) (t:=t) (x:=.tmp x) (y:=.tmp y) (p:=p) (e:=af) (gd:=gd) (by omega) (by rw[e1];rfl) (by rw[e2];rfl) (by rw[e2,h1];rfl) (by rw[e1,e2];show j+new.size<=(rowOf w g).size;rw[hr];exact h2) (by rw[e1];exact hf) (by rw[e2];exact hc);unfold Oper.wp;rw[e,e1,e2]
 show K a (w.setRow g (splice (rowOf w g) j new));rw[hr];exact h
theorem wp_ssc{a:Act}{K:Act->World->Prop}{Q:Exit->Act->World->Prop}{p:String}{af:Array Edge}{gd:Option (Nat×Bool)}{x y:Tmp}{j:Nat}{B:OA}{cs:Array Value}(hx:a.tmps[x]?=some (.pointer (some ⟨g,j,none⟩)))(hy:a.tmps[y]?=some (.slice B n c))
  (hr:rowOf w g=cs) (hj:j<cs.size) (hf:frOf w g=(0,0)) (h:K a (w.setRow g (cs.setIfInBounds j (.slice B n c)))):
  Oper.wp Try.prog ⟨none,.store 43 (.tmp x) (.tmp y),t,p,af,gd⟩ a w K Q:=by
 have e1:a.eval (.tmp x)=.pointer (some ⟨g,j,none⟩):=by simp[Act.eval,hx]
 have e2:a.eval (.tmp y)=.slice B n c:=by simp[Act.eval,hy]
 obtain⟨t1,hb⟩:=row_blk (w:=w) (g:=g) (by rw[hr];omega);rw[hr,hf]at hb;have hc:w.cell? ⟨g,j,none⟩=some cs[j]:=by rw[cell_of_row _ _ _ _ _ _ hb];simp[hj]
 have hz:w.frozen? ⟨g,j,none⟩=false:=frozen_of_row _ _ _ _ _ hb;have hs:=setCell_eq_setRow w g j cs t1 (0,0) (.slice B n c) hb;unfold Oper.wp execOp;simp only[e1,e2];go_simp
 first|exact h|(rw[hs];exact h)
def Kp(base:Nat)(w1 w:World):Prop:=∀k,base<=k->k<w1.heap.size->w.heap[k]?=w1.heap[k]?
section
variable {base g:Nat} {w1 w w':World}
theorem Kp.refl(base:Nat)(w1:World):Kp base w1 w1:=fun _ _ _=>rfl
theorem Kp.row(h:Kp base w1 w)(hg:g<base∨w1.heap.size<=g)(cs:Array Value):Kp base w1 (w.setRow g cs):=fun k h1 h2=>(setRow_other w g k cs (by omega)).trans (h k h1 h2)
theorem Kp.cell(h:Kp base w1 w){p:Addr}(hg:p.block<base∨w1.heap.size<=p.block)(u:Value):Kp base w1 (w.setCell p u):=fun k h1 h2=>(Below.heap_setCell _ _ _ _ (by omega)).trans (h k h1 h2)
theorem Kp.below(h:Kp base w1 w)(hs:w1.heap.size<=w.heap.size)(hb:Below w.heap.size w w'):Kp base w1 w':=fun k h1 h2=>(hb.block k (by omega)).trans (h k h1 h2)
theorem Kp.alloc(h:Kp base w1 w)(hs:w1.heap.size<=w.heap.size)(o:Obj):Kp base w1 (w.alloc o):=h.below hs (bL o)
theorem Fresh.kp{P:World->Prop}{B:Nat}(h:Fresh base w1 P)(hk:Kp base w1 w)(hB:B<=base)(hs:w1.heap.size<=w.heap.size):Fresh B w P:=fun v hv=>h v fun k h1 h2=>(hv k (by omega) (by omega)).trans (hk k h1 h2)
end
@[go_sem] theorem setRow_setCell(w:World)(g j:Nat)(cs:Array Value)(v:Value):(w.setRow g cs).setCell ⟨g,j,none⟩ v=w.setRow g (cs.setIfInBounds j v):=by
 unfold World.setRow World.setCell;congr 1
 apply Array.ext_getElem?
 intro i;simp only[Array.getElem?_modify];by_cases e:g=i
 ·subst e;simp only[if_true]
  cases w.heap[g]? with
  |none=>rfl
  |some o=>cases o<;>rfl
 simp[e]
def DLoc.down(L:DLoc):DLoc:=⟨L.a0,L.c0,L.a1,L.c1,none,0,none,0⟩
theorem big_dev'(n:Nat)(h:0<n):bigBuild Try.prog 71 n:=by
 obtain⟨i,hi,_⟩:=info_parts (P:=Try.prog) (e:=71) (z:=.agg (devA Dev.zero DLoc.zero)) (size:=37) (bytes:=360) (by kernel_rfl);exact⟨i,hi,h⟩
@[go_sem] theorem big_dev2:bigBuild Try.prog 71 2:=big_dev' 2 (by decide)
@[go_sem] theorem build_dev2(a b:OA)(c e:Nat)(x y:LU)(p q:Cop)(w:World):runBuild Try.prog 71 #[(0,.agg (slotsA a x.length c b y.length e)),(1,.agg (copsA p q))] w=.ok (.agg (devA ⟨x,y,p,q,false,0,[],false,Pat.zero,0⟩ ⟨a,c,b,e,none,0,none,0⟩)) w:=by kernel_rfl
theorem DevIn.down{L:DLoc}(h:DevIn w d L):DevIn w d.down L.down:=
 ⟨h.k0,h.l0,h.b0,h.k1,h.l1,h.b1,nl,Nat.zero_le _,Chs.nil _ _,pat_in_zero w,⟨by show -9223372036854775808<=(0:Int);omega,by show (0:Int)<=9223372036854775807;omega⟩,⟨by show -9223372036854775808<=(0:Int);omega,by show (0:Int)<=9223372036854775807;omega⟩⟩
theorem down_calls(d:Dev)(L:DLoc)(w:World):Calls Try.prog 123 #[.agg (devA d L)] w (RetB w (.agg (devA d.down L.down))):=by
 go_enter Try.func123,Try.ntmps123;go_wp2_with fail;refine bodyPost_ret (results_c rfl rfl (cs:=devA d.down L.down) (by go_simp;first|rfl|done) (by go_simp) (by go_simp)) rfl ⟨rfl,?_⟩;repeat (first|exact Below.refl _ _|refine bR ?_ _|refine bA ?_ _)
def FrIn(base m:Nat)(w:World)(P:World->Prop):Prop:=∀v:World,(∀k,base<=k->k<m->v.heap[k]?=w.heap[k]?)->P v
section
variable {base m:Nat} {w v:World} {P Q:World->Prop}
theorem Fresh.frIn(h:Fresh base w P):FrIn base w.heap.size w P:=fun v hv=>h v hv
theorem FrIn.of(h:FrIn base m w P)(hv:∀k,base<=k->k<m->v.heap[k]?=w.heap[k]?):FrIn base m v P:=fun u hu=>h u fun k h1 h2=>(hu k h1 h2).trans (hv k h1 h2)
theorem FrIn.wider{b2 m2:Nat}(h:FrIn base m w P)(hb:b2<=base)(hm:m<=m2):FrIn b2 m2 w P:=fun v hv=>h v fun k h1 h2=>hv k (by omega) (by omega)
theorem FrIn.now(h:FrIn base m w P):P w:=h w fun _ _ _=>rfl
end
structure WorAt(w:World)(base m top:Nat)(ds:List (Option Addr×Nat))(x:Wor)(L:WLoc):Prop where
 h1:base<=m
 h2:m<=top
 h3:top<=w.heap.size
 rel:FrIn base m w (fun v=>Ims v L.ar x.rel)
 dev:FrIn base m w (fun v=>DevIn v x.d L.l)
 net:GRow kChk w m x.net ds L.an L.cn
 each:Each kChk x.net ds (fun k=>m<=k∧k<top)
 blk:∀k,L.an.map (·.block)=some k->k<top
 bd:∀y∈x.net,ChkB y
 kr:x.rel.length<=L.cr
 lr:x.rel.length<=5864062014634
 ln:x.net.length<=2513169434843
theorem GRow.ex{α:Type}{K:Kd α}{l:List α}{ds:List (Option Addr×Nat)}(h:GRow K w base l ds A c)(hA:∀k,A.map (·.block)=some k->v.heap[k]?=w.heap[k]?)(hd:Each K l ds (fun k=>v.heap[k]?=w.heap[k]?)):GRow K v base l ds A c:=by
 refine⟨h.len,h.row.same hA,fun i o d h1 h2=>⟨fun j hj=>?_,(h.data i o d h1 h2).2⟩,h.off⟩;obtain⟨b,o1,e1,hl1,hc⟩:=(h.data i o d h1 h2).1 j hj;have hx:K.dat o≠[]:=fun e=>by rw[e]at hj;simp at hj
 have hb:v.heap[b]?=w.heap[b]?:=hd i o d h1 h2 hx b (by rw[e1];rfl);have hlt:b<v.heap.size:=by
  rcases Nat.lt_or_ge b v.heap.size with h|h
  ·exact h
  rw[Array.getElem?_eq_none h,Array.getElem?_eq_getElem hl1]at hb;cases hb
 exact⟨b,o1,e1,hlt,(World.cell?_of_block hb).trans hc⟩
section
variable {w v:World} {base m top:Nat} {ds:List (Option Addr×Nat)} {x:Wor} {L:WLoc}
theorem WorAt.netEx(h:WorAt w base m top ds x L)(hv:∀k,base<=k->k<top->v.heap[k]?=w.heap[k]?):GRow kChk v m x.net ds L.an L.cn:=by
 have h1:=h.h1;exact h.net.ex (fun k e=>hv k (by have:=(h.net.row.block k e).1;omega) (h.blk k e)) (h.each.imp fun k hk=>hv k (by omega) hk.2)
theorem WorAt.same(h:WorAt w base m top ds x L)(hv:∀k,base<=k->k<top->v.heap[k]?=w.heap[k]?)(hm:top<=v.heap.size):WorAt v base m top ds x L:=by
 have h2:=h.h2;exact⟨h.h1,h.h2,hm,h.rel.of fun k a b=>hv k a (by omega),h.dev.of fun k a b=>hv k a (by omega),h.netEx hv,h.each,h.blk,h.bd,h.kr,h.lr,h.ln⟩
theorem WorAt.wex(h:WorAt w base m top ds x L)(hv:∀k,base<=k->k<top->v.heap[k]?=w.heap[k]?):WorIn v x L:=by
 have h1:=h.h2;exact⟨h.kr,h.lr,h.rel v (fun k a b=>hv k a (by omega)),h.dev v (fun k a b=>hv k a (by omega)),h.net.row.le,h.ln,(h.netEx hv).src.chs h.bd⟩
end
def WcRet(w:World)(x:Wor):Ending->World->Prop:=fun en w'=>
 ∃L m ds,en=.returned (.agg (worA x L))∧WorAt w' (w.heap.size+2) m w'.heap.size ds x L∧Below w.heap.size w w'
def WvRet(w:World)(x:Wor)(n:Int):Ending->World->Prop:=fun en w'=>
 ∃L,en=.returned (.tuple #[.agg (worA x L),iv n])∧Fresh w.heap.size w' (fun v=>WorIn v x L)∧Below w.heap.size w w'
theorem big_wor'(n:Nat)(h:0<n):bigBuild Try.prog 88 n:=by
 obtain⟨i,hi,_⟩:=info_parts (P:=Try.prog) (e:=88) (z:=.agg (worA Wor.zero WLoc.zero)) (size:=39) (bytes:=408) (by kernel_rfl);exact⟨i,hi,h⟩
@[go_sem] theorem big_wor2:bigBuild Try.prog 88 2:=big_wor' 2 (by decide)
@[go_sem] theorem big_wor3:bigBuild Try.prog 88 3:=big_wor' 3 (by decide)
@[go_sem] theorem build_wor2(a:OA)(c:Nat)(l:List (List UInt8))(d:Dev)(K:DLoc)(w:World):runBuild Try.prog 88 #[(0,.slice a l.length c),(1,.agg (devA d K))] w=.ok (.agg (worA ⟨l,d,[]⟩ ⟨a,c,K,none,0⟩)) w:=by kernel_rfl
@[go_sem] theorem build_wor3(a:OA)(c:Nat)(l:List (List UInt8))(d:Dev)(K:DLoc)(b:OA)(e:Nat)(t:List Chk)(w:World):runBuild Try.prog 88 #[(0,.slice a l.length c),(1,.agg (devA d K)),(2,.slice b t.length e)] w=.ok (.agg (worA ⟨l,d,t⟩ ⟨a,c,K,b,e⟩)) w:=by kernel_rfl
def Bex(g base:Nat)(w w':World):Prop:=Below 0 w w'∧∀k,k<base->k≠g->w'.heap[k]?=w.heap[k]?
section
variable {g base:Nat} {w w' w2:World}
theorem Bex.refl(g base:Nat)(w:World):Bex g base w w:=⟨Below.refl _ _,fun _ _ _=>rfl⟩
theorem Bex.below(h:Bex g base w w')(hb:Below w'.heap.size w' w2)(hg:g<=w'.heap.size)(hs:base<=w'.heap.size):Bex g base w w2:=⟨h.1.trans (hb.mono (Nat.zero_le _)),fun k h1 h2=>(hb.block k (by omega)).trans (h.2 k h1 h2)⟩
theorem Bex.row(h:Bex g base w w'){q:Nat}(hq:q=g∨base<=q)(cs:Array Value):Bex g base w (w'.setRow q cs):=⟨below_row h.1 (Nat.zero_le _) _,fun k h1 h2=>(setRow_other _ _ _ _ (by omega)).trans (h.2 k h1 h2)⟩
theorem Bex.alloc(h:Bex g base w w')(hg:g<=w'.heap.size)(hs:base<=w'.heap.size)(o:Obj):Bex g base w (w'.alloc o):=h.below (bL o) hg hs
theorem Bex.to(h:Bex g base w w'){B:Nat}(h1:B<=g)(h2:B<=base):Below B w w':=⟨h.1.os,h.1.tape,h.1.output,h.1.size,fun k hk=>h.2 k (by omega) (by omega)⟩
end
def HaRet(w:World)(g base:Nat)(x:Wor)(n:Int):Ending->World->Prop:=fun en w'=>
 en=.returned (iv n)∧(n=0->∃L,rowOf w' g=worA x L∧frOf w' g=(0,0)∧∀v:World,(∀k,base<=k->k≠g->k<w'.heap.size->v.heap[k]?=w'.heap[k]?)->WorIn v x L)∧Bex g base w w'∧w.heap.size<=w'.heap.size
theorem rowOf_heap{w':World}(h:w'.heap[g]?=w.heap[g]?):rowOf w' g=rowOf w g∧frOf w' g=frOf w g:=by unfold rowOf frOf;rw[h];exact⟨rfl,rfl⟩
def HapOk(kd n:Int):Prop:=∀(g base m top:Nat) (ds:List (Option Addr×Nat)) (x:Wor) (L:WLoc) (w:World),rowOf w g=worA x L->frOf w g=(0,0)->(g<base∨top<=g)->WorAt w base m top ds x L->WorOk x->I64 n->Calls Try.prog 128 #[.pointer (some ⟨g,0,none⟩),.agg #[iv kd,iv n]] w (HaRet w g base (worHappen x kd n).1 (worHappen x kd n).2)
theorem eqIn_inf(d:Nat)(x y z x' y' z':Int)(w:World):(Op.equalIn (d+2) 63 (.agg #[iv x,iv y,iv z]) (.agg #[iv x',iv y',iv z'])).run Try.prog w=.ok (decide (x=x'∧y=y'∧z=z')) w:=by
 go_simp;split
 ·split
  ·split<;>simp_all
  ·simp_all
 simp_all
theorem cellsOfInf:Try.prog.cellsOf 63=3:=by kernel_rfl
theorem cellsOfCop:Try.prog.cellsOf 68=12:=by kernel_rfl
theorem run_eqItems2{P:Program}{d:Nat}{e:TypeId}{xs ys:Array Value}{a b a' b':Value}{r r':Bool}
  (p1:(part e xs 0).run P w=.ok a w) (p2:(part e ys 0).run P w=.ok a' w) (p3:(part e xs n).run P w=.ok b w) (p4:(part e ys n).run P w=.ok b' w)
  (h1:(Op.equalIn d e a a').run P w=.ok r w) (h2:(Op.equalIn d e b b').run P w=.ok r' w):(Op.eqItems d e n xs ys (List.range 2)).run P w=.ok (r&&r') w:=by
 rw[show List.range 2=[0,1] from rfl];simp only[Op.eqItems,Sem.run_bind,Nat.zero_mul,Nat.one_mul,p1,p2,Result.andThen_ok,h1]
 cases r
 ·simp
 simp only[Bool.not_true,Bool.false_eq_true,if_false,Sem.run_bind,p3,p4,h2,Result.andThen_ok,Bool.true_and]
 cases r'<;>simp
theorem eqIn_infs(d:Nat)(x y z x' y' z' u v t u' v' t':Int)(w:World):(Op.equalIn (d+3) 64 (.agg #[iv x,iv y,iv z,iv u,iv v,iv t]) (.agg #[iv x',iv y',iv z',iv u',iv v',iv t'])).run Try.prog w=
  .ok (decide (x=x'∧y=y'∧z=z')&&decide (u=u'∧v=v'∧t=t')) w:=by
 obtain⟨i,hi,hz,hs,hb⟩:=info_parts (P:=Try.prog) (e:=63) (z:=.agg #[iv 0,iv 0,iv 0]) (size:=3) (bytes:=24) (by kernel_rfl);rw[run_equalIn_array (P:=Try.prog) (w:=w) (d+2) _ _ Try.underlying64 hi,cellsOfInf];exact run_eqItems2 (by kernel_rfl) (by kernel_rfl) (by kernel_rfl) (by kernel_rfl) (eqIn_inf d x y z x' y' z' w) (eqIn_inf d u v t u' v' t' w)
theorem rec_dec(r s:Rec):decide (r=s)=(decide (r.gen=s.gen)&&(decide (r.active=s.active)&&(decide (r.trying=s.trying)&&(decide (r.tries=s.tries)&&(decide (r.floor=s.floor)&&(decide (r.a.ver=s.a.ver∧r.a.size=s.a.size∧r.a.sum=s.a.sum)&&decide (r.b.ver=s.b.ver∧r.b.size=s.b.size∧r.b.sum=s.b.sum))))))):=by
 obtain⟨g,a,t,n,f,⟨x,y,z⟩,⟨u,v,w⟩⟩:=r;obtain⟨g',a',t',n',f',⟨x',y',z'⟩,⟨u',v',w'⟩⟩:=s;rw[Bool.eq_iff_iff];simp
theorem eqIn_rec(d:Nat)(r s:Rec)(w:World):(Op.equalIn (d+4) 66 (.agg (recA r)) (.agg (recA s))).run Try.prog w=.ok (decide (r=s)) w:=by
 have e:=fun w=>eqIn_infs d r.a.ver r.a.size r.a.sum s.a.ver s.a.size s.a.sum r.b.ver r.b.size r.b.sum s.b.ver s.b.size s.b.sum w;rw[rec_dec];generalize decide (r.a.ver=s.a.ver∧r.a.size=s.a.size∧r.a.sum=s.a.sum)=B1 at e⊢;generalize decide (r.b.ver=s.b.ver∧r.b.size=s.b.size∧r.b.sum=s.b.sum)=B2 at e⊢;unfold recA;go_simp;by_cases h1:r.gen=s.gen
 ·by_cases h2:r.active=s.active
  ·by_cases h3:r.trying=s.trying
   ·by_cases h4:r.tries=s.tries
    ·by_cases h5:r.floor=s.floor
     ·cases B1<;>cases B2<;>simp[h1,h2,h3,h4,h5]
     ·simp[h1,h2,h3,h4,h5]
    ·simp[h1,h2,h3,h4]
   ·simp[h1,h2,h3]
  ·simp[h1,h2]
 simp[h1]
theorem guard_rec:Try.prog.eqGuardType Try.prog.depth 66=false:=by kernel_rfl
theorem eql_rec(r s:Rec)(w:World):(binOp .eql 66 (.agg (recA r)) (.agg (recA s))).run Try.prog w=.ok (.bool (decide (r=s))) w:=by
 rw[run_eql_struct,eqIn_rec 9996];rfl
theorem neq_rec(r s:Rec)(w:World):(binOp .neq 66 (.agg (recA r)) (.agg (recA s))).run Try.prog w=.ok (.bool (!decide (r=s))) w:=by
 rw[run_neq_struct,eqIn_rec 9996];rfl
theorem neq_rec0(r:Rec)(w:World):(binOp .neq 66 (.agg (recA r)) (.agg #[iv 0,iv 0,.bool false,iv 0,iv 0,iv 0,iv 0,iv 0,iv 0,iv 0,iv 0])).run Try.prog w=.ok (.bool (!decide (r=Rec.zero))) w:=neq_rec r Rec.zero w
theorem eql_rec0(r:Rec)(w:World):(binOp .eql 66 (.agg (recA r)) (.agg #[iv 0,iv 0,.bool false,iv 0,iv 0,iv 0,iv 0,iv 0,iv 0,iv 0,iv 0])).run Try.prog w=.ok (.bool (decide (r=Rec.zero))) w:=eql_rec r Rec.zero w
theorem cop_dec(c d:Cop):decide (c=d)=(decide (c.ok=d.ok)&&decide (c.r=d.r)):=by
 obtain⟨o,r⟩:=c;obtain⟨o',r'⟩:=d;rw[Bool.eq_iff_iff];simp
theorem eqIn_cop(d:Nat)(a b:Cop)(w:World):(Op.equalIn (d+5) 68 (.agg (copA a)) (.agg (copA b))).run Try.prog w=.ok (decide (a=b)) w:=by
 have e:∀w,(Op.equalIn (d+4) 66 (.agg #[iv a.r.gen,iv a.r.active,.bool a.r.trying,iv a.r.tries,iv a.r.floor,iv a.r.a.ver,iv a.r.a.size,iv a.r.a.sum,iv a.r.b.ver,iv a.r.b.size,iv a.r.b.sum])
  (.agg #[iv b.r.gen,iv b.r.active,.bool b.r.trying,iv b.r.tries,iv b.r.floor,iv b.r.a.ver,iv b.r.a.size,iv b.r.a.sum,iv b.r.b.ver,iv b.r.b.size,iv b.r.b.sum])).run Try.prog w=.ok (decide (a.r=b.r)) w:=fun w=>eqIn_rec d a.r b.r w
 rw[cop_dec];generalize decide (a.r=b.r)=B1 at e⊢;unfold copA;go_simp;by_cases h1:a.ok=b.ok<;>cases B1<;>simp[h1]
theorem eql_cop(r s:Cop)(w:World):(binOp .eql 68 (.agg (copA r)) (.agg (copA s))).run Try.prog w=.ok (.bool (decide (r=s))) w:=by
 rw[run_eql_struct,eqIn_cop 9995];rfl
theorem eqIn_cops(d:Nat)(a b x y:Cop)(w:World):(Op.equalIn (d+6) 69 (.agg (copsA a b)) (.agg (copsA x y))).run Try.prog w=.ok (decide (a=x)&&decide (b=y)) w:=by
 obtain⟨i,hi,hz,hs,hb⟩:=info_parts (P:=Try.prog) (e:=68) (z:=.agg (copA Cop.zero)) (size:=12) (bytes:=96) (by kernel_rfl);rw[run_equalIn_array (P:=Try.prog) (w:=w) (d+5) _ _ Try.underlying69 hi,cellsOfCop];exact run_eqItems2 (by kernel_rfl) (by kernel_rfl) (by kernel_rfl) (by kernel_rfl) (eqIn_cop d a x w) (eqIn_cop d b y w)
theorem eql_cops(a b x y:Cop)(w:World):(binOp .eql 69 (.agg (copsA a b)) (.agg (copsA x y))).run Try.prog w=.ok (.bool (decide (a=x)&&decide (b=y))) w:=by
 rw[run_eql_struct,eqIn_cops 9994];rfl
theorem neq_cops(a b x y:Cop)(w:World):(binOp .neq 69 (.agg (copsA a b)) (.agg (copsA x y))).run Try.prog w=.ok (.bool (!(decide (a=x)&&decide (b=y)))) w:=by
 rw[run_neq_struct,eqIn_cops 9994];rfl
theorem guard_cop:Try.prog.eqGuardType Try.prog.depth 68=false:=by kernel_rfl
theorem guard_cops:Try.prog.eqGuardType Try.prog.depth 69=false:=by kernel_rfl
theorem big_cop:bigBuild Try.prog 68 2:=by
 obtain⟨i,hi,_⟩:=info_parts (P:=Try.prog) (e:=68) (z:=.agg (copA Cop.zero)) (size:=12) (bytes:=96) (by kernel_rfl);exact⟨i,hi,by omega⟩
theorem big_inf:bigBuild Try.prog 63 3:=by
 obtain⟨i,hi,_⟩:=info_parts (P:=Try.prog) (e:=63) (z:=.agg (infA Inf.zero)) (size:=3) (bytes:=24) (by kernel_rfl);exact⟨i,hi,by omega⟩
theorem build_cop(b:Bool)(r:Rec)(w:World):runBuild Try.prog 68 #[(0,.bool b),(1,.agg (recA r))] w=.ok (.agg (copA ⟨b,r⟩)) w:=by kernel_rfl
theorem build_inf(a b c:Int)(w:World):runBuild Try.prog 63 #[(0,iv a),(1,iv b),(2,iv c)] w=.ok (.agg (infA ⟨a,b,c⟩)) w:=by kernel_rfl
attribute [go_sem] build_cop build_inf big_cop big_inf
attribute [go_sem] guard_rec guard_cop guard_cops
attribute [go_sem ↓] eql_cops neq_cops eql_rec neq_rec neq_rec0 eql_rec0 eql_cop
theorem x27r(h:Y:=by
 clear hz;go_wp2_with fail;go_ret;exact⟨ret_int HO.out.symm,hB.alloc hB.size _⟩):Y:=h
theorem x6lz(h:Y:=by
 go_wp2_with fail;go_ret;exact⟨ret_int HE.out.symm,hB⟩):Y:=h
theorem x7h7(h:Y:=by
 clear hz hrow1 hb1;go_wp2_with fail;go_ret;exact⟨ret_int HO.out.symm,hB1⟩):Y:=h
theorem recCheckA_calls(r:Rec)(w:World):Calls Try.prog 151 #[.agg (recA r)] w (RetB w (iv (recCheck r))):=
 recCheck_calls r.gen r.active r.trying r.tries r.floor r.a.ver r.a.size r.a.sum r.b.ver r.b.size r.b.sum w
theorem copies_calls(c d:Cop)(w:World):Calls Try.prog 120 #[.agg (copsA c d)] w (RetB w (iv (copCheck c d))):=by
 have i2:∀w,(Instr.index 69 (.agg (copsA c d)) (iv 0)).run Try.prog w=.ok (.agg (copA c)) w:=fun _=>by kernel_rfl
 have i1:∀w,(Instr.index 69 (.agg (copsA c d)) (iv 1)).run Try.prog w=.ok (.agg (copA d)) w:=fun _=>by kernel_rfl
 go_enter Try.func120,Try.ntmps120;go_wp2_with fail;go_loopw [7] (fun i wr=>∃k:Nat,k<=2∧i=iv k∧Below w.heap.size w wr∧rowOf wr w.heap.size=copsA c d∧(0<k->copOne c=0)∧(1<k->copOne d=0)) (fun i _=>(2-intOf i).toNat)
 case atStart=>exact⟨0,by omega,rfl,bL _,by rw[rowOf_alloc,if_pos rfl],by omega,by omega⟩
 case round=>
  obtain⟨k,hk,rfl,hB,hrow,ha,hb⟩:=hrel;have HR:=qH hrow;clear hrow;by_cases hlt:k<2
  ·rcases (show k=0∨k=1 by omega)with rfl|rfl
   ·clear ha hb
    cases hok:c.ok
    ·by_cases hz:c.r=Rec.zero
     ·have HO:=qH (copOne_lost0 hok hz);have hd:decide (c.r=Rec.zero)=true:=decide_eq_true hz;have HK:=qH hok;have hok':(c.ok==true)=false:=by simp[hok]
      clear hz;go_wp2_with fail;go_roundw
      case rel=>exact⟨1,by omega,rfl,hB.alloc hB.size _,by rw[rowOf_alloc,if_neg (by have:=row_lt (w:=wr) (g:=w.heap.size) (by rw[HR.out];simp[copsA]);omega),HR.out],fun _=>HO.out,by omega⟩
      case measure=>simp[intOf]<;>omega
     ·have HO:=qH (copCheck_1 (d:=d) (copOne_lost3 hok hz) (by omega));have hd:decide (c.r=Rec.zero)=false:=decide_eq_false hz;exact x27r
    have HO1:=qH (copOne_ok hok);go_wp2_with fail;refine(recCheckA_calls c.r _).mono ?_;rintro e w1 ⟨rfl,hb1⟩;have hB1:=(hB.alloc hB.size (.cells (copA c) 68)).trans (hb1.mono (by simp;exact Nat.le_succ_of_le hB.size));have hrow1:rowOf w1 w.heap.size=copsA c d:=by rw[rowOf_below (by simp;have:=row_lt (w:=wr) (g:=w.heap.size) (by rw[HR.out];simp[copsA]);omega) hb1,rowOf_alloc,if_neg (by have:=row_lt (w:=wr) (g:=w.heap.size) (by rw[HR.out];simp[copsA]);omega),HR.out]
    by_cases hz:recCheck c.r=0
    ·have HO:=qH (HO1.out.trans hz);have hz':(recCheck c.r !=0)=false:=by simp[hz]
     have HW:=qH hrow1;clear hz hrow1 hb1;go_wp2_with fail;go_roundw
     case rel=>exact⟨1,by omega,rfl,hB1,HW.out,fun _=>HO.out,by omega⟩
     case measure=>simp[intOf]<;>omega
    have HO:=qH (copCheck_1 (d:=d) HO1.out hz);have hz':(recCheck c.r !=0)=true:=by simp[hz]
    exact x7h7
   ·have HA:=qH (ha (by omega));clear ha hb
    cases hok:d.ok
    ·by_cases hz:d.r=Rec.zero
     ·have HO:=qH (copOne_lost0 hok hz);have hd:decide (d.r=Rec.zero)=true:=decide_eq_true hz;have HK:=qH hok;have hok':(d.ok==true)=false:=by simp[hok]
      clear hz;go_wp2_with fail;go_roundw
      case rel=>exact⟨2,by omega,rfl,hB.alloc hB.size _,by rw[rowOf_alloc,if_neg (by have:=row_lt (w:=wr) (g:=w.heap.size) (by rw[HR.out];simp[copsA]);omega),HR.out],fun _=>HA.out,fun _=>HO.out⟩
      case measure=>simp[intOf]<;>omega
     ·have HO:=qH (copCheck_2 HA.out (copOne_lost3 hok hz) (by omega));have hd:decide (d.r=Rec.zero)=false:=decide_eq_false hz;exact x27r
    have HO1:=qH (copOne_ok hok);go_wp2_with fail;refine(recCheckA_calls d.r _).mono ?_;rintro e w1 ⟨rfl,hb1⟩;have hB1:=(hB.alloc hB.size (.cells (copA d) 68)).trans (hb1.mono (by simp;exact Nat.le_succ_of_le hB.size));have hrow1:rowOf w1 w.heap.size=copsA c d:=by rw[rowOf_below (by simp;have:=row_lt (w:=wr) (g:=w.heap.size) (by rw[HR.out];simp[copsA]);omega) hb1,rowOf_alloc,if_neg (by have:=row_lt (w:=wr) (g:=w.heap.size) (by rw[HR.out];simp[copsA]);omega),HR.out]
    by_cases hz:recCheck d.r=0
    ·have HO:=qH (HO1.out.trans hz);have hz':(recCheck d.r !=0)=false:=by simp[hz]
     have HW:=qH hrow1;clear hz hrow1 hb1;go_wp2_with fail;go_roundw
     case rel=>exact⟨2,by omega,rfl,hB1,HW.out,fun _=>HA.out,fun _=>HO.out⟩
     case measure=>simp[intOf]<;>omega
    have HO:=qH (copCheck_2 HA.out HO1.out hz);have hz':(recCheck d.r !=0)=true:=by simp[hz]
    exact x7h7
  obtain rfl:k=2:=by omega
  have hp:0<(rowOf wr w.heap.size).size:=by rw[HR.out];simp[copsA]
  have c1:=cell_row hp 0;have c2:=cell_row hp 12;rw[HR.out]at c1 c2;rw[copsA_get0]at c1;rw[copsA_get12]at c2;have HF:=qH (copCheck_3 (ha (by omega)) (hb (by omega)));clear ha hb hp
  cases hc:c.ok
  ·cases hd:d.ok
   ·have HE:Hid (copCheck c d=7):=by rw[hc,hd]at HF;exact HF
    exact x6lz
   ·have HE:Hid (copCheck c d=0):=by rw[hc,hd]at HF;exact HF
    exact x6lz
  have HE:Hid (copCheck c d=0):=by rw[hc]at HF;exact HF
  exact x6lz
theorem x08y(h:Y:=by
 have HE:=qH hE;clear hE;go_wp2_with fail;refine bodyPost_ret (results_ctt rfl rfl (cs:=recA d.r) (by go_simp) (by go_simp) (by go_simp)) rfl ⟨by rw[HE.out];rfl,?_⟩;exact below_row HB.out (Nat.le_succ _) _):Y:=h
theorem x0ap(h:Y:=by
 repeat (first|exact hA|refine bR ?_ _|refine bC ?_ _|refine bA ?_ _)):Y:=h
theorem x1qb(h:Y:=by
 have HE:=qH hE;clear hE;go_wp2_with fail;refine bodyPost_ret (results_ctt rfl rfl (cs:=recA c.r) (by go_simp) (by go_simp) (by go_simp)) rfl ⟨by rw[HE.out];rfl,?_⟩;exact below_row HB.out (Nat.le_succ _) _):Y:=h
theorem read_bad(c d:Cop)(w:World)(h:copCheck c d≠0):Calls Try.prog 53 #[.agg (copsA c d)] w (RetB w (.tuple #[.agg (recA Rec.zero),iv 0,iv (copCheck c d)])):=by
 have hb:(copCheck c d !=0)=true:=by simp[h]
 clear h;go_enter Try.func53,Try.ntmps53;go_wp2_with fail;refine(copies_calls c d _).mono ?_;rintro e w1 ⟨rfl,hb1⟩;obtain⟨kr,kf,kn,kc,kz⟩:=keepB hb1 (n:=w.heap.size+1+1) (by simp);have HB:=qH (((bL _).alloc (by simp) _).trans (hb1.mono (B':=w.heap.size) (by simp;omega)));clear hb1;go_wp2_with fail;refine bodyPost_ret (results_ctt rfl rfl (cs:=recA Rec.zero) (by go_simp) (by go_simp) (by go_simp)) rfl ⟨rfl,below_row HB.out (by omega) _⟩
theorem read_ok(c d:Cop)(w:World)(h:copCheck c d=0):Calls Try.prog 53 #[.agg (copsA c d)] w (RetB w (.tuple #[.agg (recA (recRead c d).1),iv (recRead c d).2,iv 0])):=by
 have hb:(copCheck c d !=0)=false:=by simp[h]
 clear h;go_enter Try.func53,Try.ntmps53;go_wp2_with fail;refine(copies_calls c d _).mono ?_;rintro e w1 ⟨rfl,hb1⟩;obtain⟨kr,kf,kn,kc,kz⟩:=keepB hb1 (n:=w.heap.size+1+1) (by simp);have HB:=qH (((bL _).alloc (by simp) _).trans (hb1.mono (B':=w.heap.size) (by simp;omega)));clear hb1
 cases hc:c.ok
 ·have hE:recRead c d=(d.r,1):=by unfold recRead newer;rw[hc];rfl
  exact x08y
 cases hd:d.ok
 ·have hE:recRead c d=(c.r,0):=by unfold recRead newer;rw[hc,hd];rfl
  exact x1qb
 by_cases hg:c.r.gen<d.r.gen
 ·have hE:recRead c d=(d.r,1):=by unfold recRead newer;rw[hc,hd,decide_eq_true hg];rfl
  exact x08y
 have hE:recRead c d=(c.r,0):=by unfold recRead newer;rw[hc,hd,decide_eq_false hg];rfl
 exact x1qb
theorem x37v(h:Y:=by
 go_enter Try.func102,Try.ntmps102;go_wp2_with fail;go_ret;exact⟨ret_bool HZ.out.symm,HB.out⟩):Y:=h
theorem x4ai(h:Y:=by
 go_wp2_with fail;refine(HC.out _ ?_).mono ?_
 ·repeat (first|exact Below.refl _ _|refine bA ?_ _)
 rintro e w1 ⟨rfl,hb1⟩;have HB1:Hid (Below w.heap.size w w1):=by
  refine qH (HB.out.trans (Below.trans ?_ (hb1.mono (by first|omega|(simp<;>omega)))));repeat (first|exact Below.refl _ _|refine bA ?_ _)
 clear hb1;by_cases hxy:x=y
 ·have hd:decide (x=y)=true:=by simp[hxy]
  have HY:=qH (HX.out hxy);clear hxy HX HN;go_wp2_with fail;go_roundw
  case rel=>exact⟨k+1,by omega,by go_num,HY,HB1⟩
  case measure=>simp[intOf]<;>omega
 have hd:decide (x=y)=false:=by simp[hxy]
 have HY:=qH (HN.out hxy);clear hxy HX HN;go_wp2_with fail;go_ret;exact⟨ret_bool (by rw[decide_eq_false HY.out]),HB1.out⟩):Y:=h
theorem x73o(h:Y:=by
 go_wp2_with fail;go_ret;exact⟨ret_int hz.out.symm,hA⟩):Y:=h
theorem x9ec(h:Y:=by
 have hz:=qH (chkCheck_bad (x:=⟨f,t,n,o,l⟩) (by unfold Chk.range;dsimp only;omega));go_enter Try.func47,Try.ntmps47;go_wp2_with fail;go_ret;exact⟨ret_int hz.out.symm,hA⟩):Y:=h
theorem chkCheck_bad(h:¬x.range):chkCheck x=2:=by unfold chkCheck;rw[if_pos h]
theorem chkCheck_form(h:x.range)(g:¬x.full):chkCheck x=3:=by unfold chkCheck;rw[if_neg (by simpa using h),if_pos g]
theorem chkCheck_fine(h:x.range)(g:x.full):chkCheck x=0:=chkCheck_ok.2 ⟨h,g⟩
theorem full_len{f t n o:Int}{l:LU}:Chk.full ⟨f,t,n,o,l⟩↔l.length≠0∧l.length<=16∧(n<o-1->l.length=16):=by
 unfold Chk.full;dsimp only;rw[<-List.length_pos_iff];constructor<;>(intro h;refine⟨by omega,h.2.1,h.2.2⟩)
theorem chkCheck_calls(A:OA)(c:Nat)(f t n o:Int)(l:LU)(w:World)(hn:I64 n)(ho:I64 o):
  Calls Try.prog 47 #[.agg (chkA f t n o A l.length c)] w (RetB w (iv (chkCheck ⟨f,t,n,o,l⟩))):=by
 obtain⟨hn1,hn2⟩:=hn;obtain⟨ho1,ho2⟩:=ho;have hb:Below w.heap.size w (w.alloc (.cells (chkA f t n o A l.length c) 49)):=bL _;have HB:=qH hb;clear hb;by_cases h8:f<(1:Int)
 ·exact x9ec
 by_cases h1:(30:Int)<f
 ·exact x9ec
 by_cases h1:t<(1:Int)
 ·exact x9ec
 by_cases h1:(30:Int)<t
 ·exact x9ec
 by_cases h1:o<(1:Int)
 ·exact x9ec
 by_cases h1:(52:Int)<o
 ·exact x9ec
 by_cases h1:n<(0:Int)
 ·exact x9ec
 by_cases h1:o<=n
 ·exact x9ec
 have hr:Chk.range ⟨f,t,n,o,l⟩:=by unfold Chk.range;dsimp only;omega
 have HR:=qH hr;clear hr;have hw:IntKind.i64.wrap (o-1)=o-1:=IntWalk.i64_in _ (by omega);by_cases g4:l.length=0
 ·have hz:=qH (chkCheck_form HR.out (fun e=>(full_len.1 e).1 g4));have q:((l.length:Int)==0)=true:=by simp[g4]
  clear g4;go_enter Try.func47,Try.ntmps47;exact x73o
 have q2:((l.length:Int)==0)=false:=beq_eq_false_iff_ne.2 (by omega);by_cases g1:(16:Int)<(l.length:Int)
 ·have hz:=qH (chkCheck_form HR.out (fun e=>by have:=(full_len.1 e).2.1;omega));clear g4;go_enter Try.func47,Try.ntmps47;exact x73o
 by_cases g1:n<o-1
 ·by_cases g2:l.length=16
  ·have q1:((l.length:Int) !=16)=false:=by simp[g2]
   have hz:=qH (chkCheck_fine HR.out (full_len.2 ⟨by omega,by omega,fun _=>g2⟩));clear g4 g2;go_enter Try.func47,Try.ntmps47;exact x73o
  ·have q1:((l.length:Int) !=16)=true:=bne_iff_ne.2 (by omega);have hz:=qH (chkCheck_form HR.out (fun e=>g2 ((full_len.1 e).2.2 g1)));clear g4 g2;go_enter Try.func47,Try.ntmps47;exact x73o
 have hz:=qH (chkCheck_fine HR.out (full_len.2 ⟨by omega,by omega,fun h=>absurd h g1⟩));clear g4;go_enter Try.func47,Try.ntmps47;exact x73o
theorem kin_calls(A B:OA)(c d k m:Nat)(f t n o f2 t2 n2 o2:Int)(l r:LU)(w:World):
  Calls Try.prog 102 #[.agg (chkA f t n o A k c),.agg (chkA f2 t2 n2 o2 B m d)] w (RetB w (.bool (decide (kin ⟨f,t,n,o,l⟩ ⟨f2,t2,n2,o2,r⟩)))):=by
 have hb:Below w.heap.size w ((w.alloc (.cells (chkA f t n o A k c) 49)).alloc (.cells (chkA f2 t2 n2 o2 B m d) 49)):=(bL _).alloc (by simp) _;have HB:=qH hb;clear hb;by_cases h3:¬f=f2
 ·have hz:decide (kin ⟨f,t,n,o,l⟩ ⟨f2,t2,n2,o2,r⟩)=false:=decide_eq_false (by unfold kin;dsimp only;omega);have HZ:=qH hz;have q:(f==f2)=false:=by simp[h3]
  clear hz h3;exact x37v
 have h3:=Decidable.not_not.1 h3;subst h3;have q3:(f==f)=true:=by simp
 by_cases h1:¬t=t2
 ·have hz:decide (kin ⟨f,t,n,o,l⟩ ⟨f,t2,n2,o2,r⟩)=false:=decide_eq_false (by unfold kin;dsimp only;omega);have HZ:=qH hz;have q:(t==t2)=false:=by simp[h1]
  clear hz h1;exact x37v
 have h1:=Decidable.not_not.1 h1;subst h1;have q1:(t==t)=true:=by simp
 by_cases h1:¬o=o2
 ·have hz:decide (kin ⟨f,t,n,o,l⟩ ⟨f,t,n2,o2,r⟩)=false:=decide_eq_false (by unfold kin;dsimp only;omega);have HZ:=qH hz;have q:(o==o2)=false:=by simp[h1]
  clear hz h1;exact x37v
 have h1:=Decidable.not_not.1 h1;subst h1;have q1:(o==o)=true:=by simp
 have hz:decide (kin ⟨f,t,n,o,l⟩ ⟨f,t,n2,o,r⟩)=true:=decide_eq_true ⟨rfl,rfl,rfl⟩;have HZ:=qH hz;clear hz;exact x37v
theorem x1oc(h:Y:=by
 have e1:=cO 3 (iv (k:Int)) h;exact ch_move (ch_ev e1)):Y:=h
theorem x2ri(h:Y:=by
 refine qH (HB.out.trans (Below.trans ?_ (hb1.mono (by first|omega|(simp<;>omega)))));repeat (first|exact Below.refl _ _|refine bA ?_ _)):Y:=h
theorem listGo_bad{p:Option Chk}(h:chkCheck x≠0):listGo p (x::l)=chkCheck x:=by unfold listGo;rw[if_pos h]
theorem listGo_form{p:Option Chk}(h:chkCheck x=0)(g:¬follows p x):listGo p (x::l)=3:=by unfold listGo;rw[if_neg (by simpa using h),if_pos g]
theorem listGo_next{p:Option Chk}(h:chkCheck x=0)(g:follows p x):listGo p (x::l)=listGo (some x) l:=by
 conv=>lhs;unfold listGo
 rw[if_neg (by simpa using h),if_neg (by simpa using g)]
theorem chkCheckX_calls(A:OA)(c:Nat)(x:Chk)(w:World)(h:I64 x.n∧I64 x.of_):
  Calls Try.prog 47 #[.agg (chkA x.from_ x.to_ x.n x.of_ A x.data.length c)] w (RetB w (iv (chkCheck x))):=chkCheck_calls A c x.from_ x.to_ x.n x.of_ x.data w h.1 h.2
theorem kinY_calls(A B:OA)(c d:Nat)(x y:Chk)(w:World):
  Calls Try.prog 102 #[.agg (chkA x.from_ x.to_ x.n x.of_ A x.data.length c),.agg (chkA y.from_ y.to_ y.n y.of_ B y.data.length d)] w (RetB w (.bool (decide (kin x y)))):=
 kin_calls A B c d x.data.length y.data.length x.from_ x.to_ x.n x.of_ y.from_ y.to_ y.n y.of_ x.data y.data w
def ChkAt(w:World)(b o:Nat)(x:Chk)(B:OA)(c:Nat):Prop:=
 w.cell? ⟨b,o,none⟩=some (iv x.from_)∧w.cell? ⟨b,o+1,none⟩=some (iv x.to_)∧w.cell? ⟨b,o+2,none⟩=some (iv x.n)∧w.cell? ⟨b,o+3,none⟩=some (iv x.of_)∧w.cell? ⟨b,o+4,none⟩=some (.slice B x.data.length c)
theorem ChkAt.stays{w':World}{b o:Nat}{B:OA}(h:ChkAt w b o x B c)(hlt:b<w.heap.size)(hb:Below w.heap.size w w'):ChkAt w' b o x B c:=
 ⟨(hb.cell (p:=⟨b,o,none⟩) hlt).trans h.1,(hb.cell (p:=⟨b,o+1,none⟩) hlt).trans h.2.1,(hb.cell (p:=⟨b,o+2,none⟩) hlt).trans h.2.2.1,(hb.cell (p:=⟨b,o+3,none⟩) hlt).trans h.2.2.2.1,(hb.cell (p:=⟨b,o+4,none⟩) hlt).trans h.2.2.2.2⟩
theorem Chs.chk(h:Chs w A l){i:Nat}(hi:i<l.length):∃b o B c,A=some ⟨b,o,none⟩∧b<w.heap.size∧ChkAt w b (o+i*5) l[i] B c∧ChkIn w l[i] B c:=by
 obtain⟨b,o,B,c,h1,h2,h3,h4,h5,h6,h7,h8⟩:=h.at_ hi;exact⟨b,o,B,c,h1,h2,⟨h3,h4,h5,h6,h7⟩,h8⟩
theorem chkList_calls(A:OA)(c:Nat)(l:List Chk)(w:World)(hl:l.length<=2513169434843)(hs:Chs w A l):
  Calls Try.prog 40 #[.slice A l.length c] w (RetB w (iv (chkList l))):=by
 have HS:=qH hs;clear hs;obtain⟨r,hr⟩:=eX (chkList l);rw[hr];have HR:Hid (listGo none l=r):=qH hr;clear hr;go_enter Try.func40,Try.ntmps40;go_wp2_with fail;go_loopw [8] (fun i wr=>∃k:Nat,k<=l.length∧i=iv k∧Hid (listGo ((l.take k).getLast?) (l.drop k)=r)∧Hid (Below w.heap.size w wr)) (fun i _=>l.length-(intOf i).toNat)
 case atStart=>exact⟨0,Nat.zero_le _,rfl,qH HR.out,qH (Below.refl _ _)⟩
 case round=>
  rename World=>wr;obtain⟨k,hk,rfl,HE,HB⟩:=hrel;have hsz:=HB.out.size;by_cases hlt:k<l.length
  ·obtain⟨b,o,B,cx,rfl,hb,hat,hin⟩:=HS.out.chk hlt;have hdr:l.drop k=l[k]::l.drop (k+1):=List.drop_eq_getElem_cons hlt;have hlast:(l.take (k+1)).getLast?=some l[k]:=by rw[List.take_succ_eq_append_getElem hlt,List.getLast?_concat]
   have hpre:∀(h0:0<k),∃q D d,(l.take k).getLast?=some q∧ChkAt w b (o+(k-1)*5) q D d:=fun h0=>by
    obtain⟨b',o',D,d,e,_,h1,_⟩:=HS.out.chk (i:=k-1) (by omega);injection e with e;injection e with e1 e2;subst e1 e2;refine⟨l[k-1],D,d,?_,h1⟩;rw[List.getLast?_take,if_neg (by omega),List.getElem?_eq_getElem (by omega)];rfl
   obtain⟨x,hx⟩:=eX (l[k]);rw[hx]at hdr hlast hat hin;rw[hdr]at HE;obtain⟨p,hp⟩:=eX ((l.take k).getLast?);rw[hp]at HE hpre;have HLAST:=qH hlast;have hat1:=hat.stays hb HB.out;obtain⟨c5,c1,c2,c3,c4⟩:=hat1;have HAT:=qH hat;have HP1:Hid (k=0->p=none):=qH (fun e=>by rw[<-hp,e];simp);have HPR:=qH hpre;have HK:=qH (fun w=>chkCheckX_calls B cx x w ⟨hin.i2,hin.i3⟩);have hblt:b<wr.heap.size:=by omega
   have dl:decide ((k:Int)<(l.length:Int))=true:=decide_eq_true (by omega);have hwk:IntKind.i64.wrap ((k:Int)+1)=(k:Int)+1:=IntWalk.i64_in _ (by omega);clear hdr hlast hx hp hpre hat hin;by_cases hck:chkCheck x≠0
   ·have hz:r=chkCheck x:=by rw[<-HE.out,listGo_bad hck]
    have q:(chkCheck x !=0)=true:=by simp[hck]
    have HZ:=qH hz;clear hck hz;go_wp2_with fail;refine(HK.out _).mono ?_;rintro e w1 ⟨rfl,hb1⟩;have HB1:Hid (Below w.heap.size w w1):=by
     exact x2ri
    clear hb1;go_wp2_with fail;go_ret;exact⟨ret_int HZ.out.symm,HB1.out⟩
   have hck:=Decidable.not_not.1 hck;have HCK:=qH hck;rw[hck]at HK;clear hck;go_wp2_with fail;refine(HK.out _).mono ?_;rintro e w1 ⟨rfl,hb1⟩;have a1:=kp (wr.heap.size) (chkA x.from_ x.to_ x.n x.of_ B x.data.length cx) hb1;have HB1:Hid (Below w.heap.size w w1):=by
    exact x2ri
   have hs1:=HB1.out.size;clear hb1 c5 c1 c2 c3 c4;have HD:Hid (∀wq,Below w1.drew.heap.size w1.drew wq->Below w1.heap.size w1 wq):=qH (fun wq h=>(bW w1).drew.trans h);have R1:rowOf w1.drew wr.heap.size=chkA x.from_ x.to_ x.n x.of_ B x.data.length cx:=by go_simp
   have F1:frOf w1.drew wr.heap.size=(0,0):=by go_simp
   go_wp2_with fail;by_cases hk1:k=0
   ·have hz:listGo (some x) (l.drop (k+1))=r:=by rw[<-HE.out,listGo_next HCK.out (by rw[HP1.out hk1];intro q e;cases e)]
    have HZ:=qH hz;have HKP:=qH hk1;clear hz hk1;refine wp_region_chain (by kernel_rfl) (some 18::some 19::some 20::some 21::some 22::some 23::some 24::some 25::some 26::some 27::some 28::some 29::some 30::some 31::some 32::some 33::some 34::some 35::some 36::some 37::some 38::some 39::some 40::[]) (iv (k:Int)::.bool false::.bool false::undef::undef::undef::undef::undef::undef::undef::undef::undef::undef::undef::undef::undef::undef::undef::undef::undef::undef::undef::.bool false::[]) 42 rfl rfl (by decide+kernel) (by decide+kernel) (by decide+kernel) rfl ?_ ?_
    ·refine⟨.inl ⟨rfl,?_⟩,.inl ⟨rfl,?_⟩,.inl ⟨rfl,?_⟩,.inr ⟨rfl,rfl⟩,.inr ⟨rfl,rfl⟩,.inr ⟨rfl,rfl⟩,.inr ⟨rfl,rfl⟩,.inr ⟨rfl,rfl⟩,.inr ⟨rfl,rfl⟩,.inr ⟨rfl,rfl⟩,.inr ⟨rfl,rfl⟩,.inr ⟨rfl,rfl⟩,.inr ⟨rfl,rfl⟩,.inr ⟨rfl,rfl⟩,.inr ⟨rfl,rfl⟩,.inr ⟨rfl,rfl⟩,.inr ⟨rfl,rfl⟩,.inr ⟨rfl,rfl⟩,.inr ⟨rfl,rfl⟩,.inr ⟨rfl,rfl⟩,.inr ⟨rfl,rfl⟩,.inr ⟨rfl,rfl⟩,.inl ⟨rfl,?_⟩,trivial⟩;all_goals intro done a wq hw h
     ·exact x1oc
     ·have e1:=cN 0 18 h hw;have hp:=HKP.out;refine ch_pure ?_;go_simp
     ·have e1:=cN 1 19 h hw;exact ch_move (ch_ev e1)
     ·have e1:=cN 2 20 h hw;exact ch_pick_f e1 rfl
    intro w1 hb1;simp only[putAll_some,putAll_none,putAll_nil,List.setIfInBounds_toArray,List.set_cons_zero,List.set_cons_succ];have HB1:=bT HB1 hb1;clear hb1 R1 F1 a1;go_wp2_with fail;go_roundw
    case rel=>exact⟨k+1,by omega,by go_num,qH (by rw[HLAST.out];exact HZ.out),HB1⟩
    case measure=>simp[intOf];omega
   obtain⟨q,D,dq,hpq,hq⟩:=HPR.out (by omega);have HQ:Hid (∀wq,Below w1.heap.size w1 wq->ChkAt wq b (o+(k-1)*5) q D dq):=qH (fun wq h=>hq.stays hb (HB1.out.trans (h.mono hs1)));have HKP:Hid (0<k):=qH (by omega);have HI4:Hid (¬(k:Int)<1):=qH (by omega);have hkp:0<k:=by omega
   clear hk1;have HW:Hid (IntKind.i64.wrap ((k:Int)-1)=(k:Int)-1):=qH (IntWalk.i64_in _ (by omega));have HI1:Hid (((k:Int)-1).toNat=k-1):=qH (by omega);have HI2:Hid (¬(k:Int)-1<0):=qH (by omega);have HI3:Hid (¬(l.length:Int)<=(k:Int)-1):=qH (by omega);have HF:Hid (follows p x↔kin q x∧q.n<x.n):=qH (by rw[hpq];exact⟨fun h=>h q rfl,fun h z e=>by injection e with e;subst e;exact h⟩);clear hpq hq;by_cases hkn:kin q x
   ·have HKN:Hid (decide (kin q x)=true):=qH (decide_eq_true hkn);by_cases hge:x.n<=q.n
    first|case' inl=>have T10:Hid True:=qH trivial|case' pos=>have T10:Hid True:=qH trivial|case' refine_1=>have T10:Hid True:=qH trivial
    iterate 2
     ·first
       |
        revert T10;intro T10;have hz:r=3:=by rw[<-HE.out,listGo_form HCK.out (by rw[HF.out];omega)]
       |have hz:listGo (some x) (l.drop (k+1))=r:=by rw[<-HE.out,listGo_next HCK.out (by rw[HF.out];exact⟨hkn,by omega⟩)]
      have HZ:=qH hz
      first
       |
        revert T10;intro T10;have HGE:Hid (decide (x.n<=q.n)=true):=qH (decide_eq_true hge)
       |have HGE:Hid (decide (x.n<=q.n)=false):=qH (decide_eq_false hge)
      clear hz hkn hge
      first
       |
        revert T10;intro T10;refine wp_region_chain (by kernel_rfl) (some 18::some 19::some 20::some 21::some 22::some 23::some 24::some 25::some 26::some 27::some 28::some 29::some 30::some 31::some 32::some 33::some 34::some 35::some 36::some 37::some 38::some 39::some 40::[]) (iv (k:Int)::.bool true::.bool true::.slice (some ⟨b,o,none⟩) l.length c::iv (k:Int)::iv ((k:Int)-1)::.pointer (some ⟨b,o+(k-1)*5,none⟩)::.agg (chkA q.from_ q.to_ q.n q.of_ D q.data.length dq)::.agg (chkA x.from_ x.to_ x.n x.of_ B x.data.length cx)::.bool true::.bool false::.bool false::.slice (some ⟨b,o,none⟩) l.length c::iv (k:Int)::iv ((k:Int)-1)::.pointer (some ⟨b,o+(k-1)*5,none⟩)::.pointer (some ⟨b,o+(k-1)*5+2,none⟩)::iv q.n::.pointer (some ⟨wr.heap.size,2,none⟩)::iv x.n::.bool true::.bool true::.bool true::[]) 42 rfl rfl (by decide+kernel) (by decide+kernel) (by decide+kernel) rfl ?_ ?_
       |refine wp_region_chain (by kernel_rfl) (some 18::some 19::some 20::some 21::some 22::some 23::some 24::some 25::some 26::some 27::some 28::some 29::some 30::some 31::some 32::some 33::some 34::some 35::some 36::some 37::some 38::some 39::some 40::[]) (iv (k:Int)::.bool true::.bool true::.slice (some ⟨b,o,none⟩) l.length c::iv (k:Int)::iv ((k:Int)-1)::.pointer (some ⟨b,o+(k-1)*5,none⟩)::.agg (chkA q.from_ q.to_ q.n q.of_ D q.data.length dq)::.agg (chkA x.from_ x.to_ x.n x.of_ B x.data.length cx)::.bool true::.bool false::.bool false::.slice (some ⟨b,o,none⟩) l.length c::iv (k:Int)::iv ((k:Int)-1)::.pointer (some ⟨b,o+(k-1)*5,none⟩)::.pointer (some ⟨b,o+(k-1)*5+2,none⟩)::iv q.n::.pointer (some ⟨wr.heap.size,2,none⟩)::iv x.n::.bool false::.bool false::.bool false::[]) 42 rfl rfl (by decide+kernel) (by decide+kernel) (by decide+kernel) rfl ?_ ?_
      ·refine⟨.inl ⟨rfl,?_⟩,.inl ⟨rfl,?_⟩,.inl ⟨rfl,?_⟩,.inl ⟨rfl,?_⟩,.inl ⟨rfl,?_⟩,.inl ⟨rfl,?_⟩,.inl ⟨rfl,?_⟩,.inl ⟨rfl,?_⟩,.inl ⟨rfl,?_⟩,.inl ⟨rfl,?_⟩,.inl ⟨rfl,?_⟩,.inl ⟨rfl,?_⟩,.inl ⟨rfl,?_⟩,.inl ⟨rfl,?_⟩,.inl ⟨rfl,?_⟩,.inl ⟨rfl,?_⟩,.inl ⟨rfl,?_⟩,.inl ⟨rfl,?_⟩,.inl ⟨rfl,?_⟩,.inl ⟨rfl,?_⟩,.inl ⟨rfl,?_⟩,.inl ⟨rfl,?_⟩,.inl ⟨rfl,?_⟩,trivial⟩;all_goals intro done a wq hw h
       ·have e3:=cO 3 (iv (k:Int)) h;exact ch_move (ch_ev e3)
       ·have e18:=cN 0 18 h hw;have hp:=HKP.out;refine ch_pure ?_;go_simp
       ·have e19:=cN 1 19 h hw;exact ch_move (ch_ev e19)
       ·have e0:=cO 0 (.slice (some ⟨b,o,none⟩) l.length c) h;exact ch_move (ch_ev e0)
       ·have e3:=cO 3 (iv (k:Int)) h;exact ch_move (ch_ev e3)
       ·have e22:=cN 4 22 h hw;have hw:=HW.out;refine ch_pure ?_;go_simp
       ·have e21:=cN 3 21 h hw;have e23:=cN 5 23 h hw;have h1:=HI1.out;have h2:=HI2.out;have h3:=HI3.out;have h4:=HI4.out;refine ch_pure ?_;go_simp
       ·have e24:=cN 6 24 h hw;obtain⟨c5,c1,c2,c3,c4⟩:=HQ.out wq (HD.out wq h.bel);refine ch_pure ?_;go_simp
       ·have e4:=cO 4 (.pointer (some ⟨wr.heap.size,0,none⟩)) h;have y_:=keep1 h.bel R1 (by go_simp) F1;refine ch_pure ?_;go_simp
       ·have e25:=cN 7 25 h hw;have e26:=cN 8 26 h hw;exact ch_call (vals:=#[.agg (chkA q.from_ q.to_ q.n q.of_ D q.data.length dq),.agg (chkA x.from_ x.to_ x.n x.of_ B x.data.length cx)]) (by go_simp) (by go_simp) (by have:=kinY_calls D B dq cx q x wq;rwa [HKN.out]at this)
       ·have e27:=cN 9 27 h hw;refine ch_pure ?_;go_simp
       ·have e28:=cN 10 28 h hw;exact ch_move (ch_ev e28)
       ·have e0:=cO 0 (.slice (some ⟨b,o,none⟩) l.length c) h;exact ch_move (ch_ev e0)
       ·have e3:=cO 3 (iv (k:Int)) h;exact ch_move (ch_ev e3)
       ·have e31:=cN 13 31 h hw;have hw:=HW.out;refine ch_pure ?_;go_simp
       ·have e30:=cN 12 30 h hw;have e32:=cN 14 32 h hw;have h1:=HI1.out;have h2:=HI2.out;have h3:=HI3.out;have h4:=HI4.out;refine ch_pure ?_;go_simp
       ·have e33:=cN 15 33 h hw;refine ch_pure ?_;go_simp
       ·have e34:=cN 16 34 h hw;obtain⟨c5,c1,c2,c3,c4⟩:=HQ.out wq (HD.out wq h.bel);refine ch_pure ?_;go_simp
       ·have e4:=cO 4 (.pointer (some ⟨wr.heap.size,0,none⟩)) h;refine ch_pure ?_;go_simp
       ·have e36:=cN 18 36 h hw;have y_:=keep1 h.bel R1 (by go_simp) F1;refine ch_pure ?_;go_simp
       ·have e35:=cN 17 35 h hw;have e37:=cN 19 37 h hw;have hg:=HGE.out;refine ch_pure ?_;go_simp
       ·have e29:=cN 11 29 h hw;have e38:=cN 20 38 h hw;exact ch_pick_f e29 (ch_ev e38)
       ·have e20:=cN 2 20 h hw;have e39:=cN 21 39 h hw;exact ch_pick_t e20 (ch_ev e39)
      intro w2 hb2;simp only[putAll_some,putAll_none,putAll_nil,List.setIfInBounds_toArray,List.set_cons_zero,List.set_cons_succ];have HB2:=bT HB1 hb2;clear hb2 R1 F1 a1;go_wp2_with fail
      first
       |
        revert T10;intro T10;go_ret;exact⟨ret_int HZ.out.symm,HB2.out⟩
       |
        go_roundw
        case rel=>exact⟨k+1,by omega,by go_num,qH (by rw[HLAST.out];exact HZ.out),HB2⟩
        case measure=>simp[intOf];omega
   have HKN:Hid (decide (kin q x)=false):=qH (decide_eq_false hkn);have hz:r=3:=by rw[<-HE.out,listGo_form HCK.out (by rw[HF.out];exact fun h=>hkn h.1)]
   have HZ:=qH hz;clear hz hkn;refine wp_region_chain (by kernel_rfl) (some 18::some 19::some 20::some 21::some 22::some 23::some 24::some 25::some 26::some 27::some 28::some 29::some 30::some 31::some 32::some 33::some 34::some 35::some 36::some 37::some 38::some 39::some 40::[]) (iv (k:Int)::.bool true::.bool true::.slice (some ⟨b,o,none⟩) l.length c::iv (k:Int)::iv ((k:Int)-1)::.pointer (some ⟨b,o+(k-1)*5,none⟩)::.agg (chkA q.from_ q.to_ q.n q.of_ D q.data.length dq)::.agg (chkA x.from_ x.to_ x.n x.of_ B x.data.length cx)::.bool false::.bool true::.bool true::undef::undef::undef::undef::undef::undef::undef::undef::undef::.bool true::.bool true::[]) 42 rfl rfl (by decide+kernel) (by decide+kernel) (by decide+kernel) rfl ?_ ?_
   ·refine⟨.inl ⟨rfl,?_⟩,.inl ⟨rfl,?_⟩,.inl ⟨rfl,?_⟩,.inl ⟨rfl,?_⟩,.inl ⟨rfl,?_⟩,.inl ⟨rfl,?_⟩,.inl ⟨rfl,?_⟩,.inl ⟨rfl,?_⟩,.inl ⟨rfl,?_⟩,.inl ⟨rfl,?_⟩,.inl ⟨rfl,?_⟩,.inl ⟨rfl,?_⟩,.inr ⟨rfl,rfl⟩,.inr ⟨rfl,rfl⟩,.inr ⟨rfl,rfl⟩,.inr ⟨rfl,rfl⟩,.inr ⟨rfl,rfl⟩,.inr ⟨rfl,rfl⟩,.inr ⟨rfl,rfl⟩,.inr ⟨rfl,rfl⟩,.inr ⟨rfl,rfl⟩,.inl ⟨rfl,?_⟩,.inl ⟨rfl,?_⟩,trivial⟩;all_goals intro done a wq hw h
    ·exact x1oc
    ·have e1:=cN 0 18 h hw;have hp:=HKP.out;refine ch_pure ?_;go_simp
    ·have e1:=cN 1 19 h hw;exact ch_move (ch_ev e1)
    ·have e1:=cO 0 (.slice (some ⟨b,o,none⟩) l.length c) h;exact ch_move (ch_ev e1)
    ·exact x1oc
    ·have e1:=cN 4 22 h hw;have hw:=HW.out;refine ch_pure ?_;go_simp
    ·have e1:=cN 3 21 h hw;have e23:=cN 5 23 h hw;have h1:=HI1.out;have h2:=HI2.out;have h3:=HI3.out;have h4:=HI4.out;refine ch_pure ?_;go_simp
    ·have e1:=cN 6 24 h hw;obtain⟨c5,c1,c2,c3,c4⟩:=HQ.out wq (HD.out wq h.bel);refine ch_pure ?_;go_simp
    ·have e1:=cO 4 (.pointer (some ⟨wr.heap.size,0,none⟩)) h;have y_:=keep1 h.bel R1 (by go_simp) F1;refine ch_pure ?_;go_simp
    ·have e1:=cN 7 25 h hw;have e26:=cN 8 26 h hw;exact ch_call (vals:=#[.agg (chkA q.from_ q.to_ q.n q.of_ D q.data.length dq),.agg (chkA x.from_ x.to_ x.n x.of_ B x.data.length cx)]) (by go_simp) (by go_simp) (by have:=kinY_calls D B dq cx q x wq;rwa [HKN.out]at this)
    ·have e1:=cN 9 27 h hw;refine ch_pure ?_;go_simp
    ·have e1:=cN 10 28 h hw;exact ch_move (ch_ev e1)
    ·have e1:=cN 11 29 h hw;exact ch_pick_t e1 rfl
    ·have e1:=cN 2 20 h hw;have e39:=cN 21 39 h hw;exact ch_pick_t e1 (ch_ev e39)
   intro w1 hb1;simp only[putAll_some,putAll_none,putAll_nil,List.setIfInBounds_toArray,List.set_cons_zero,List.set_cons_succ];have HB1:=bT HB1 hb1;clear hb1 R1 F1 a1;go_wp2_with fail;go_ret;exact⟨ret_int HZ.out.symm,HB1.out⟩
  obtain rfl:k=l.length:=by omega
  have dl:decide ((l.length:Int)<(l.length:Int))=false:=by simp
  have hz:r=0:=by rw[<-HE.out,List.drop_length];unfold listGo;rfl
  have HZ:=qH hz;clear hz;go_wp2_with fail;go_ret;exact⟨ret_int HZ.out.symm,HB.out⟩
theorem recA_ver(r:Rec)(ha:a<=1):(recA r)[5+a*3]?=some (iv (r.at_ (a:Int)).ver):=by
 match a,ha with
 |0,_=>simp[recA,Rec.at_]
 |1,_=>simp[recA,Rec.at_]
theorem recA_size_(r:Rec)(ha:a<=1):(recA r)[5+a*3+1]?=some (iv (r.at_ (a:Int)).size):=by
 match a,ha with
 |0,_=>simp[recA,Rec.at_]
 |1,_=>simp[recA,Rec.at_]
theorem devSlotA{L:DLoc}(h:DevIn w d L)(ha:a<=1):∃A c,(devA d L)[a]?=some (.slice A (d.slot (a:Int)).length c)∧(d.slot (a:Int)).length<=c∧Bts w A (d.slot (a:Int)):=by
 match a,ha with
 |0,_=>exact⟨L.a0,L.c0,rfl,h.k0,h.b0⟩
 |1,_=>exact⟨L.a1,L.c1,rfl,h.k1,h.b1⟩
theorem slot_len(h0:d.s0.length=64)(h1:d.s1.length=64)(k:Int):(d.slot k).length=64:=by unfold Dev.slot;split<;>assumption
theorem at_sizes(h:recCheck r=0)(k:Int):0<=(r.at_ k).size∧(r.at_ k).size<=64∧0<=(r.at_ k).ver:=by
 obtain⟨_,h1,h3,_⟩:=recCheck_parts h;have key:∀x:Inf,infCheck x=0->0<=x.size∧x.size<=64∧0<=x.ver:=fun x hx=>by
  unfold infCheck at hx;by_cases hh:InfRange x
  ·unfold InfRange at hh;omega
  rw[if_neg hh]at hx;exact absurd hx (by decide)
 unfold Rec.at_;split
 ·exact key _ h1
 exact key _ h3
def ImRet(w:World)(l:LU):Ending->World->Prop:=fun en w'=>
 ∃A c,en=.returned (.slice A l.length c)∧l.length<=c∧Bts w' A l∧Below w.heap.size w w'
theorem pre_slice{z:Int}(y:Nat)(h1:z=(y:Int))(hc:n<=c)(hy:y<=n)(h0:0<n)(hA:∃b o,A=some ⟨b,o,none⟩)(W:World):(Instr.slice 22 (.slice A n c) none (some (iv z)) none).run Try.prog W=.ok (.slice A y c) W:=by
 obtain⟨b,o,rfl⟩:=hA;subst h1;have q1:(y:Int)<=(c:Int):=by omega
 have q1:¬c=0:=by omega
 go_simp
theorem image_calls(d:Dev)(L:DLoc)(k:Int)(r:Rec)(w:World)(hk:k=0∨k=1)(h:DevIn w d L)(hl:(d.slot k).length=64)(h0:0<=(r.at_ k).size)(h1:(r.at_ k).size<=64):
  Calls Try.prog 118 #[.agg (devA d L),iv k,.agg (recA r)] w (ImRet w (d.image k r)):=by
 obtain⟨a,rfl,ha1⟩:∃a:Nat,k=(a:Int)∧a<=1:=⟨k.toNat,by omega,by omega⟩;obtain⟨y,hy⟩:∃y:Nat,(r.at_ (a:Int)).size=(y:Int):=⟨(r.at_ (a:Int)).size.toNat,by omega⟩;have himg:d.image (a:Int) r=(d.slot (a:Int)).take y:=by unfold Dev.image;rw[hy];rfl
 have hlen:((d.slot (a:Int)).take y).length=y:=by rw[List.length_take];omega
 rw[himg];obtain⟨A,c,p1,p2,p3⟩:=devSlotA h ha1;rw[hl]at p1 p2;obtain⟨b,o,hA,-⟩:=p3 0 (by omega);have HSL:=qH (pre_slice (A:=A) (n:=64) (c:=c) y rfl p2 (by omega) (by decide) ⟨b,o,hA⟩);have HB:=qH (mid_take p3 y);have HLEN:=qH hlen;have hyc:y<=c:=by omega
 have pv:=recA_size_ r ha1;rw[hy]at pv;have HBA:Hid (Below w.heap.size w ((w.alloc (.cells (devA d L) 71)).alloc (.cells (recA r) 66))):=qH ((bL _).alloc (by simp) _);have HP1:=qH p1;have HPV:=qH pv;clear h hy himg hlen p1 p3 hA pv h0 h1 hl hk;go_enter Try.func118,Try.ntmps118;go_wp2_with fail;have r1:rowOf ((w.alloc (.cells (devA d L) 71)).alloc (.cells (recA r) 66)) w.heap.size=devA d L∧frOf ((w.alloc (.cells (devA d L) 71)).alloc (.cells (recA r) 66)) w.heap.size=(0,0):=by go_simp
 have r2:rowOf ((w.alloc (.cells (devA d L) 71)).alloc (.cells (recA r) 66)) (w.heap.size+1)=recA r∧frOf ((w.alloc (.cells (devA d L) 71)).alloc (.cells (recA r) 66)) (w.heap.size+1)=(0,0):=by go_simp
 obtain⟨w1,hw1⟩:=eX (((w.alloc (.cells (devA d L) 71)).alloc (.cells (recA r) 66)));rw[hw1]at HBA r1 r2⊢;have a1:=keep1 (bW w1) r1.1 (by go_simp) r1.2;have r3:=keep1 (bW w1) r2.1 (by simp[recA]) r2.2;clear hw1 r1 r2;have p1:=HP1.out;have pv:=HPV.out;have k1:(0:Int)<=(a:Int):=by omega
 have k1:(a:Int)<2:=by omega
 have k1:¬(2:Int)<=(a:Int):=by omega
 have hsl:=HSL.out;go_quiet (fail)
 go_wp2_with fail;go_ret;have HBE:Hid (Below w.heap.size w (w1.drewN nq)):=qH (Below.drewN' HBA.out nq);exact⟨A,c,by rw[HLEN.out];rfl,by rw[HLEN.out];exact hyc,HB.out.stays HBE.out,HBE.out⟩
theorem patDo_calls(B A:OA)(d c:Nat)(p:Pat)(old:LU)(w:World)(hc:old.length<=c)(ho:old.length<=140737488351232)(hA:Bts w A old)(hp:PatIn w p B d):
  Calls Try.prog 25 #[.agg (patA p.from_ p.to_ p.old p.new_ p.size B p.ops.length d),.slice A old.length c] w (ByRet2 w (patDo (sumOn 1) p old).1 (patDo (sumOn 1) p old).2):=by
 obtain⟨f,t,o,n,sz,l⟩:=p;obtain⟨hcap,hlen,hops,-,-,-,-,-⟩:=hp;dsimp only at *
 have hba:=(bW w).alloc nl (.cells (patA f t o n sz B l.length d) 35);have K1:=qH (fun w h=>patCheck_calls B d f t o n sz l w hlen h);have K2:=qH (fun w h=>sumOf_calls A c old w (by omega) h);have HA:=qH hA;have HO:=qH hops;have HBA:=qH hba;clear hA hops hba;obtain⟨r,hr⟩:=eX (patDo (sumOn 1) ⟨f,t,o,n,sz,l⟩ old);rw[hr];have HR:=qH hr;clear hr;obtain⟨ck,hck⟩:=eX (patCheck ⟨f,t,o,n,sz,l⟩);rw[hck]at K1;have HCK:=qH hck;clear hck;go_enter Try.func25,Try.ntmps25;go_wp2_with fail;refine(K1.out _ (HO.out.stays HBA.out)).mono ?_;rintro e w1 ⟨rfl,hb1⟩;have a1:=kp (w.heap.size) (patA f t o n sz B l.length d) hb1;have HB1:=bT HBA hb1;clear hb1;by_cases h5:ck≠0
 ·have hz:r=([],ck):=by rw[<-HR.out];unfold patDo;rw[HCK.out,if_pos h5]
  subst hz;have q:(ck !=0)=true:=by simp[h5]
  clear h5;go_wp2_with fail;go_ret2;exact⟨none,0,rfl,Bts.nil _ _,nl,HB1.out⟩
 have h5:=Decidable.not_not.1 h5;subst h5;by_cases h1:64<old.length
 ·have hz:r=([],1):=by rw[<-HR.out];unfold patDo;rw[HCK.out,if_neg (by simp),if_pos h1]
  subst hz;have q:(64:Int)<(old.length:Int):=by omega
  go_wp2_with fail;go_ret2;exact⟨none,0,rfl,Bts.nil _ _,nl,HB1.out⟩
 have q1:¬(64:Int)<(old.length:Int):=by omega
 obtain⟨s,hs⟩:=eX (sumOn 1 old);rw[hs]at K2;have HS:=qH hs;clear hs;have HK1:=qH (fun n=>K2.out (w1.drewN n) ((HA.out.stays HB1.out).drewN n));by_cases h2:s≠o
 ·have hz:r=([],6):=by rw[<-HR.out];unfold patDo;rw[HCK.out,if_neg (by simp),if_neg h1,HS.out,if_pos h2]
  subst hz;have q:(s !=o)=true:=by simp[h2]
  clear h2;go_wp2_with fail;go_quiet ((go_at_call 95;with_reducible exact quietRet (HK1.out _)))
  go_wp2_with fail;go_ret2;exact⟨none,0,rfl,Bts.nil _ _,nl,Below.drewN' HB1.out _⟩
 have h2:=Decidable.not_not.1 h2;subst h2;have q2:(s !=s)=false:=by simp
 obtain⟨y,e1,hy⟩:∃y e0,axOf old l sz=(y,e0):=⟨_,_,rfl⟩;have K3:=qH (fun w h1 h2=>applyAny_calls A c old B d l sz w hc ho h1 hlen h2);rw[hy]at K3;dsimp only at K3;have HY:=qH hy;clear hy;have HK2:=qH (fun n=>K3.out (w1.drewN n) ((HA.out.stays HB1.out).drewN n) ((HO.out.stays HB1.out).stays (below_drewN _ _)));have hyl:y.length<=140737488351232:=by
  have:=HY.out;unfold axOf at this;by_cases h3:deltaCheck l old.length sz≠0
  ·rw[if_pos h3]at this;injection this with h;rw[<-h];simp
  rw[if_neg h3]at this;injection this with h;have hd:=deltaCheck_ok.1 (Decidable.not_not.1 h3);have:=applied_len (old:=old) (l:=l) (fun o ho=>(hd.each o ho).2);have h4:=hd.sum;have h8:=hd.s1;rw[<-h];omega
 go_wp2_with fail;go_quiet ((go_at_call 95;with_reducible exact quietRet (HK1.out _)))
 go_wp2_with fail;refine(HK2.out nq).mono ?_;rintro e w2 ⟨A1,c1,rfl,hy1,hc1,hb1⟩;have b1:=kp (w.heap.size) (patA f t s n sz B l.length d) hb1;have HB2:Hid (Below w.heap.size w w2):=qH ((Below.drewN' HB1.out nq).trans (hb1.mono (by have:=HB1.out.size;simp;omega)));have HY1:=qH hy1;clear hb1 hy1;by_cases h3:e1≠0
 ·have hz:r=([],e1):=by
   rw[<-HR.out];unfold patDo;have:=HY.out;unfold axOf at this;rw[HCK.out,if_neg (by simp),if_neg h1,HS.out,if_neg (by simp)];by_cases h4:deltaCheck l old.length sz≠0
   ·rw[if_pos h4]at this⊢;injection this with _ h;rw[h]
   rw[if_neg h4]at this;injection this with _ h;exact absurd h.symm h3
  subst hz;have q:(e1 !=0)=true:=by simp[h3]
  clear h3 HY;go_wp2_with fail;go_ret2;exact⟨none,0,rfl,Bts.nil _ _,nl,HB2.out⟩
 have h3:=Decidable.not_not.1 h3;subst h3;have hyy:deltaCheck l old.length sz=0∧y=applied old l:=by
  have:=HY.out;unfold axOf at this;by_cases h4:deltaCheck l old.length sz≠0
  ·rw[if_pos h4]at this;injection this with _ h;exact absurd h h4
  rw[if_neg h4]at this;injection this with h _;exact⟨Decidable.not_not.1 h4,h.symm⟩
 have K4:=qH (fun m=>sumOf_calls A1 c1 y (w2.drewN m) (by omega) (HY1.out.drewN m));have hrr:r=if sumOn 1 y≠n then ([],6)else (y,0):=by
  rw[<-HR.out];unfold patDo;rw[HCK.out,if_neg (by simp),if_neg h1,HS.out,if_neg (by simp),hyy.1,if_neg (by simp),<-hyy.2]
 obtain⟨s1,hs1⟩:=eX (sumOn 1 y);rw[hs1]at K4 hrr;have HRR:=qH hrr;clear hrr hs1 hyy HY;by_cases h4:s1≠n
 ·have hz:r=([],6):=by rw[HRR.out,if_pos h4]
  subst hz;have q:(s1 !=n)=true:=by simp[h4]
  clear h4;go_wp2_with fail;go_quiet ((go_at_call 95;with_reducible exact quietRet (K4.out _)))
  go_wp2_with fail;go_ret2;exact⟨none,0,rfl,Bts.nil _ _,nl,Below.drewN' HB2.out _⟩
 have h4:=Decidable.not_not.1 h4;subst h4;have hz:r=(y,0):=by rw[HRR.out,if_neg (by simp)]
 subst hz;have q:(s1 !=s1)=false:=by simp
 go_wp2_with fail;go_quiet ((go_at_call 95;with_reducible exact quietRet (K4.out _)))
 go_wp2_with fail;go_ret2;exact⟨A1,c1,rfl,HY1.out.drewN _,hc1,Below.drewN' HB2.out _⟩
section
variable {w0 w:World} {ci cd cm e0 e1 a0 a1:Nat} {img b:LU} {n:Int} {dn:Nat->Bool} {cv:Nat->Value}
end
theorem bts_zeros{fr:Nat×Nat}(h:w.heap[g]?=some (.cells (Array.replicate n (.int .u8 0)) t fr)):Bts w (some ⟨g,0,none⟩) (List.replicate n 0):=by
 intro j hj;refine⟨g,0,rfl,blk_lt h,?_⟩;rw[cell_of_row _ _ _ _ _ _ h];have hj':j<n:=by simpa using hj
 simp[hj',bv]
theorem made_zeros(n:Nat):madeCells #[Value.int .u8 0] n=Array.replicate n (.int .u8 0):=by
 apply Array.ext'
 rw[toList_madeCells_one];simp
theorem room_calls(A:OA)(c:Nat)(b:LU)(w:World)(hb:b.length<=64)(hB:Bts w A b):
  Calls Try.prog 119 #[.slice A b.length c] w (BtRet w (room b)):=by
 obtain⟨m,hm⟩:∃m:Nat,64-b.length=m:=⟨_,rfl⟩;have hm1:(64:Int)-(b.length:Int)=(m:Int):=by omega
 have hwr:IntKind.i64.wrap ((64:Int)-(b.length:Int))=(m:Int):=by rw[hm1];exact IntWalk.i64_in _ (by omega)
 have hmk:∀w:World,(Instr.makeSlice 22 (iv (m:Int)) (iv (m:Int))).run Try.prog w=.ok (.slice (some ⟨w.heap.size,0,none⟩) m m) (w.alloc (.cells (Array.replicate m (.int .u8 0)) 5)):=fun w=>by
  have:=run_make_row' (P:=Try.prog) 22 5 (.int .u8 0) 1 Try.underlying22 (by kernel_rfl) rfl .i64 .i64 m (by omega) (by omega) w;rw[made_zeros]at this;exact this
 have HM:Hid (room b=b++List.replicate m 0):=qH (by unfold room;rw[hm]);have HMB:Hid (b.length+m<=64):=qH (by omega);have hba:=((bW w).alloc nl (.cells (Array.replicate m (.int .u8 0)) 5)).alloc (by simp) (.cells #[.slice A b.length c,.slice (some ⟨w.heap.size,0,none⟩) m m] 22);have K:=qH (concat2_calls (w:=(w.alloc (.cells (Array.replicate m (.int .u8 0)) 5)).alloc (.cells #[.slice A b.length c,.slice (some ⟨w.heap.size,0,none⟩) m m] 22)) (g:=w.heap.size+1) (A:=A) (B:=some ⟨w.heap.size,0,none⟩) (a:=b) (b:=List.replicate m 0) (c:=c) (d:=m)
  (t:=22) (fr:=(0,0)) (by rw[List.length_replicate];exact blk_top (by simp)) (by rw[List.length_replicate];omega) (hB.stays hba) ((bts_zeros (n:=m) (w:=w.alloc (.cells (Array.replicate m (.int .u8 0)) 5)) (blk_top rfl)).stays (bL _)))
 have HBA:=qH hba;rw[HM.out];clear hm hm1 hb hB hba;go_enter Try.func119,Try.ntmps119;go_wp2_with fail;refine K.out.mono ?_;rintro e w1 ⟨A1,c1,rfl,hown,hb1⟩;have HO:=qH hown;have HB1:=bT HBA hb1;clear hown hb1;go_wp2_with fail;go_ret;exact⟨A1,c1,by simp,HO.out.mono (by simp;omega),HB1.out⟩
theorem devCheck_is_len(h:d.s0.length≠64∨d.s1.length≠64):devCheck d=3:=by unfold devCheck;rw[if_pos h]
theorem devCheck_is_cop(h0:d.s0.length=64)(h1:d.s1.length=64)(hc:copCheck d.c0 d.c1≠0):devCheck d=copCheck d.c0 d.c1:=by unfold devCheck;rw[if_neg (by omega),if_pos hc]
theorem devCheck_is_off(h0:d.s0.length=64)(h1:d.s1.length=64)(hc:copCheck d.c0 d.c1=0)(hu:d.up=false):devCheck d=if d.running≠0∨d.got≠[]∨d.busy=true∨d.done≠0∨d.job≠Pat.zero then 3 else 0:=by unfold devCheck;rw[if_neg (by omega),if_neg (by omega),if_pos hu]
theorem devCheck_is_up(h0:d.s0.length=64)(h1:d.s1.length=64)(hc:copCheck d.c0 d.c1=0)(hu:d.up=true):devCheck d=devUpCheck d (recRead d.c0 d.c1).1:=by unfold devCheck;rw[if_neg (by omega),if_neg (by omega),if_neg (by rw[hu];simp)];rfl
theorem patSameZ_calls(p:Pat)(B:OA)(c:Nat)(w:World)(hp:PatIn w p B c):Calls Try.prog 31 #[.agg (patA p.from_ p.to_ p.old p.new_ p.size B p.ops.length c),.agg (patA 0 0 0 0 0 none 0 0)] w (RetB w (.bool (decide (p=Pat.zero)))):=
 patSameA_calls B none c 0 p.from_ p.to_ p.old p.new_ p.size 0 0 0 0 0 p.ops [] w hp.len (by simp) hp.ops (Sps.nil _ _)
theorem devUp_range(h:d.running<0∨1<d.running∨(d.running≠r.active∧r.trying=false)):devUpCheck d r=2:=by unfold devUpCheck;rw[if_pos h]
theorem devUp_list(h:¬(d.running<0∨1<d.running∨(d.running≠r.active∧r.trying=false)))(g:chkList d.got≠0):devUpCheck d r=chkList d.got:=by unfold devUpCheck;rw[if_neg h,if_pos g]
theorem devUp_idle(h:¬(d.running<0∨1<d.running∨(d.running≠r.active∧r.trying=false)))(g:chkList d.got=0)(b:d.busy=false):devUpCheck d r=if d.done≠0∨d.job≠Pat.zero then 3 else 0:=by unfold devUpCheck;rw[if_neg h,if_neg (by omega),if_pos b]
theorem devUp_busy(h:¬(d.running<0∨1<d.running∨(d.running≠r.active∧r.trying=false)))(g:chkList d.got=0)(b:d.busy=true):devUpCheck d r=devBusyCheck d r:=by unfold devUpCheck;rw[if_neg h,if_neg (by omega),if_neg (by rw[b];simp)]
theorem devBusy_form(h:r.trying=true∨d.job.to_<r.floor∨d.job.from_≠(r.at_ r.active).ver∨(r.at_ (1-r.active)).ver≠0):devBusyCheck d r=3:=by unfold devBusyCheck;rw[if_pos h]
theorem at_0(r:Rec):r.at_ 0=r.a:=by simp[Rec.at_]
theorem at_1(r:Rec):r.at_ 1=r.b:=by simp[Rec.at_]
theorem devBusy_rest(h:¬(r.trying=true∨d.job.to_<r.floor∨d.job.from_≠(r.at_ r.active).ver∨(r.at_ (1-r.active)).ver≠0)):devBusyCheck d r=
  if (patDo (sumOn 1) d.job (d.image r.active r)).2≠0 then (patDo (sumOn 1) d.job (d.image r.active r)).2
  else if d.done<0∨64<d.done∨d.done%8≠0∨d.job.size+8<=d.done then 2
  else if (d.slot (1-r.active)).take d.done.toNat≠(room (patDo (sumOn 1) d.job (d.image r.active r)).1).take d.done.toNat then 3
  else 0:=by unfold devBusyCheck;rw[if_neg h]
def rmJ(w0:World)(rb:LU)(dn:Nat)(e:Bool):Nat->(Nat->Value)->World->Prop
 |0,_,w=>w=w0.drew
 |1,cv,w=>∃A c,cv 10=.slice A rb.length c∧Bts w A rb∧rb.length<=c∧Below w0.heap.size w0 w
 |2,cv,w=>∃A c,cv 13=.slice A dn c∧Bts w A (rb.take dn)∧dn<=c∧Below w0.heap.size w0 w
 |3,cv,w=>cv 14=.bool e∧Below w0.heap.size w0 w
 |_,cv,w=>cv 15=.bool (!e)∧Below w0.heap.size w0 w
theorem rmJ_bel{w0:World}{rb:LU}{dn k:Nat}{e:Bool}{cv:Nat->Value}(hJ:rmJ w0 rb dn e k cv w):Below w0.heap.size w0 w:=by
 match k,hJ with
 |0,hJ=>obtain rfl:w=w0.drew:=hJ;exact(Below.refl _ _).drew
 |1,⟨_,_,_,_,_,h⟩=>exact h
 |2,⟨_,_,_,_,_,h⟩=>exact h
 |3,⟨_,h⟩=>exact h
 |q+4,⟨_,h⟩=>exact h
end Go.Proofs.Ytefkfglkpebbmac
