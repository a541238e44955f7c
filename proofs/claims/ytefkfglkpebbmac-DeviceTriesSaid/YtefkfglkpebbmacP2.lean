/- Walks of functions, and plain words. No conditions. -/
import Derived.Test.YtefkfglkpebbmacPE2
import Derived.Test.YtefkfglkpebbmacP1
set_option linter.unusedVariables false
set_option linter.unusedSimpArgs false
set_option maxRecDepth 100000
set_option maxHeartbeats 40000000
namespace Go.Proofs.Ytefkfglkpebbmac
open Go.RowKit
variable {Y:Prop}
variable {k:Nat} {w:World} {a:Act} {K:Act->World->Prop} {Q:Exit->Act->World->Prop} {ty t:TypeId} {p:String} {af:Array Edge} {gd:Option (Nat×Bool)} {v:Value}
theorem fresh_lt{base:Nat}{v:World}(hv:∀k,base<=k->k<w.heap.size->v.heap[k]?=w.heap[k]?)(h1:base<=k)(h2:k<w.heap.size):k<v.heap.size:=by
 exact x1s0
theorem Fresh.fresh{base:Nat}{v:World}{P:World->Prop}(h:Fresh base w P)(hv:∀k,base<=k->k<w.heap.size->v.heap[k]?=w.heap[k]?):Fresh base v P:=
 fun u hu=>h u fun k h1 h2=>(hu k h1 (fresh_lt hv h1 h2)).trans (hv k h1 h2)
structure DevOwn(w:World)(base m1 m2:Nat)(d:Dev)(L:DLoc):Prop where
 h1:base<=m1
 h2:m1<=m2
 o0:Own w base 5 1 L.a0 d.s0.length L.c0 (d.s0.map bv)
 b0:∀k,L.a0.map (·.block)=some k->k<m1
 o1:Own w m1 5 1 L.a1 d.s1.length L.c1 (d.s1.map bv)
 b1:∀k,L.a1.map (·.block)=some k->k<m2
 got:Fresh m2 w (fun v=>Chs v L.ag d.got)
 job:Fresh m2 w (fun v=>PatIn v d.job L.aj L.cj)
 l0:d.s0.length<=140737488351232
 l1:d.s1.length<=140737488351232
 kg:d.got.length<=L.cg
 lg:d.got.length<=2513169434843
 ir:I64 d.running
 id:I64 d.done
def DvOwn(w:World)(base:Nat)(d:Dev)(L:DLoc):Prop:=∃m1 m2,DevOwn w base m1 m2 d L
section
variable {w v:World} {base m1 m2:Nat} {d:Dev} {L:DLoc}
theorem DevOwn.same(h:DevOwn w base m1 m2 d L)(hv:∀k,base<=k->k<w.heap.size->v.heap[k]?=w.heap[k]?):DevOwn v base m1 m2 d L:=
 ⟨h.h1,h.h2,own_fresh h.o0 hv,h.b0,own_fresh h.o1 (fun k h1=>hv k (Nat.le_trans h.h1 h1)),h.b1,
   h.got.fresh (fun k h1=>hv k (by have:=h.h1;have:=h.h2;omega)),h.job.fresh (fun k h1=>hv k (by have:=h.h1;have:=h.h2;omega)),h.l0,h.l1,h.kg,h.lg,h.ir,h.id⟩
theorem DvOwn.fresh(h:DvOwn w base d L):Fresh base w (fun v=>DvOwn v base d L):=by
 obtain⟨m1,m2,h⟩:=h;exact fun v hv=>⟨m1,m2,h.same hv⟩
theorem DvOwn.mono{base':Nat}(h:DvOwn w base d L)(hb:base'<=base):DvOwn w base' d L:=by
 obtain⟨m1,m2,h⟩:=h;exact⟨m1,m2,Nat.le_trans hb h.h1,h.h2,h.o0.mono hb,h.b0,h.o1,h.b1,h.got,h.job,h.l0,h.l1,h.kg,h.lg,h.ir,h.id⟩
theorem DevOwn.devIn(h:DevOwn w base m1 m2 d L):DevIn w d L:=
 ⟨h.o0.le,h.l0,h.o0.src.bts,h.o1.le,h.l1,h.o1.src.bts,h.kg,h.lg,h.got.now,h.job.now,h.ir,h.id⟩
theorem DvOwn.devIn(h:DvOwn w base d L):DevIn w d L:=by
 obtain⟨m1,m2,h⟩:=h;exact h.devIn
end
def DcRet(w:World)(d:Dev):Ending->World->Prop:=fun en w'=>
 ∃L,en=.returned (.agg (devA d L))∧Fresh w.heap.size w' (fun v=>DvOwn v w.heap.size d L)∧Below w.heap.size w w'
def DvRet(w:World)(d:Dev)(n:Int):Ending->World->Prop:=fun en w'=>
 ∃L,en=.returned (.tuple #[.agg (devA d L),iv n])∧Fresh w.heap.size w' (fun v=>DevIn v d L)∧Below w.heap.size w w'
theorem wp_srow{P:Program}{x y:Tmp}{g j:Nat}{cs new:Array Value}(hx:a.tmps[x]?=some (.pointer (some ⟨g,j,none⟩)))(hy:a.tmps[y]?=some (.agg new))
  (h1:aggSz P ty=new.size) (h0:0<new.size) (hr:rowOf w g=cs) (h2:j+new.size<=cs.size) (hf:frOf w g=(0,0)) (hc:allOne new=true) (h:K a (w.setRow g (splice cs j new))):
  Oper.wp P ⟨none,.store ty (.tmp x) (.tmp y),t,p,af,gd⟩ a w K Q:=by
 have e1:a.eval (.tmp x)=.pointer (some ⟨g,j,none⟩):=by simp[Act.eval,hx]
 have e2:a.eval (.tmp y)=.agg new:=by simp[Act.eval,hy]
 have e:=exec_store_row (P:=P) (w:=w) (ev:=a.eval) (d:=none) (ty:=ty) (t:=t) (x:=.tmp x) (y:=.tmp y) (p:=p) (e:=af) (gd:=gd) (by omega) (by rw[e1];rfl) (by rw[e2];rfl) (by rw[e2,h1];rfl) (by rw[e1,e2];show j+new.size<=(rowOf w g).size;rw[hr];exact h2) (by rw[e1];exact hf) (by rw[e2];exact hc);unfold Oper.wp;rw[e,e1,e2]
 show K a (w.setRow g (splice (rowOf w g) j new));rw[hr];exact h
theorem wp_ssc{x y:Tmp}{g j:Nat}{B:OA}{n c:Nat}{cs:Array Value}(hx:a.tmps[x]?=some (.pointer (some ⟨g,j,none⟩)))(hy:a.tmps[y]?=some (.slice B n c))
  (hr:rowOf w g=cs) (hj:j<cs.size) (hf:frOf w g=(0,0)) (h:K a (w.setRow g (cs.setIfInBounds j (.slice B n c)))):
  Oper.wp Try.prog ⟨none,.store 43 (.tmp x) (.tmp y),t,p,af,gd⟩ a w K Q:=by
 have e1:a.eval (.tmp x)=.pointer (some ⟨g,j,none⟩):=by simp[Act.eval,hx]
 have e2:a.eval (.tmp y)=.slice B n c:=by simp[Act.eval,hy]
 obtain⟨t1,hb⟩:=row_blk (w:=w) (g:=g) (by rw[hr];omega);rw[hr,hf]at hb;have hc:w.cell? ⟨g,j,none⟩=some cs[j]:=by rw[cell_of_row _ _ _ _ _ _ hb];simp[hj]
 have hz:w.frozen? ⟨g,j,none⟩=false:=frozen_of_row _ _ _ _ _ hb;have hs:=setCell_eq_setRow w g j cs t1 (0,0) (.slice B n c) hb;unfold Oper.wp execOp;simp only[e1,e2];go_simp
 first|exact h|(rw[hs];exact h)
def Kp(base:Nat)(w1 w:World):Prop:=∀k,base<=k->k<w1.heap.size->w.heap[k]?=w1.heap[k]?
section
variable {base g:Nat} {w1 w w':World}
theorem Kp.refl(base:Nat)(w1:World):Kp base w1 w1:=fun _ _ _=>rfl
theorem Kp.row(h:Kp base w1 w)(hg:g<base∨w1.heap.size<=g)(cs:Array Value):Kp base w1 (w.setRow g cs):=fun k h1 h2=>(setRow_other w g k cs (by omega)).trans (h k h1 h2)
theorem Kp.cell(h:Kp base w1 w){p:Addr}(hg:p.block<base∨w1.heap.size<=p.block)(u:Value):Kp base w1 (w.setCell p u):=fun k h1 h2=>(Below.heap_setCell _ _ _ _ (by omega)).trans (h k h1 h2)
theorem Kp.below(h:Kp base w1 w)(hs:w1.heap.size<=w.heap.size)(hb:Below w.heap.size w w'):Kp base w1 w':=fun k h1 h2=>(hb.block k (by omega)).trans (h k h1 h2)
theorem Kp.alloc(h:Kp base w1 w)(hs:w1.heap.size<=w.heap.size)(o:Obj):Kp base w1 (w.alloc o):=h.below hs (bL o)
theorem Fresh.kp{P:World->Prop}{B:Nat}(h:Fresh base w1 P)(hk:Kp base w1 w)(hB:B<=base)(hs:w1.heap.size<=w.heap.size):Fresh B w P:=fun v hv=>h v fun k h1 h2=>(hv k (by omega) (by omega)).trans (hk k h1 h2)
end
@[go_sem] theorem setRow_setCell(w:World)(g j:Nat)(cs:Array Value)(v:Value):(w.setRow g cs).setCell ⟨g,j,none⟩ v=w.setRow g (cs.setIfInBounds j v):=by
 unfold World.setRow World.setCell;congr 1
 apply Array.ext_getElem?
 intro i;simp only[Array.getElem?_modify];by_cases e:g=i
 ·subst e;simp only[if_true]
  cases w.heap[g]? with
  |none=>rfl
  |some o=>cases o<;>rfl
 simp[e]
def DLoc.down(L:DLoc):DLoc:=⟨L.a0,L.c0,L.a1,L.c1,none,0,none,0⟩
theorem big_dev'(n:Nat)(h:0<n):bigBuild Try.prog 71 n:=by
 obtain⟨i,hi,_⟩:=info_parts (P:=Try.prog) (e:=71) (z:=.agg (devA Dev.zero DLoc.zero)) (size:=37) (bytes:=360) (by kernel_rfl);exact⟨i,hi,h⟩
@[go_sem] theorem big_dev2:bigBuild Try.prog 71 2:=big_dev' 2 (by decide)
@[go_sem] theorem build_dev2(a b:OA)(c e:Nat)(x y:LU)(p q:Cop)(w:World):runBuild Try.prog 71 #[(0,.agg (slotsA a x.length c b y.length e)),(1,.agg (copsA p q))] w=.ok (.agg (devA ⟨x,y,p,q,false,0,[],false,Pat.zero,0⟩ ⟨a,c,b,e,none,0,none,0⟩)) w:=by kernel_rfl
theorem DevIn.down{d:Dev}{L:DLoc}(h:DevIn w d L):DevIn w d.down L.down:=
 ⟨h.k0,h.l0,h.b0,h.k1,h.l1,h.b1,nl,Nat.zero_le _,Chs.nil _ _,pat_in_zero w,⟨by show -9223372036854775808<=(0:Int);omega,by show (0:Int)<=9223372036854775807;omega⟩,⟨by show -9223372036854775808<=(0:Int);omega,by show (0:Int)<=9223372036854775807;omega⟩⟩
theorem down_calls(d:Dev)(L:DLoc)(w:World):Calls Try.prog 123 #[.agg (devA d L)] w (RetB w (.agg (devA d.down L.down))):=by
 go_enter Try.func123,Try.ntmps123;go_wp2_with fail;refine bodyPost_ret (results_c rfl rfl (cs:=devA d.down L.down) (by go_simp;first|rfl|done) (by go_simp) (by go_simp)) rfl ⟨rfl,?_⟩;repeat (first|exact Below.refl _ _|refine bR ?_ _|refine bA ?_ _)
theorem x38b(h:Y:=by
 by_cases e:j=ci
 ·rw[if_pos e,e];exact hv
 rw[if_neg e,hi j hj e]at hd;cases hd):Y:=h
section
variable {α:Type} {w0 w w':World} {ci cm e0 e1 al st a1:Nat} {row:α->Array Value} {zr:Array Value} {n:Int} {R:α->Nat->World->Prop} {dn:Nat->Bool} {cv:Nat->Value}
end
theorem wp_alloc{P:Program}{d:Tmp}{zr:Array Value}(he:∀ev:Operand->Value,(execOp ev ⟨some d,.alloc ty,t,p,af,gd⟩).run P w=.ok (.value (.pointer (some ⟨w.heap.size,0,none⟩))) (w.alloc (.cells zr ty)))
  (h:K (a.put (some d) (.pointer (some ⟨w.heap.size,0,none⟩))) (w.alloc (.cells zr ty))):Oper.wp P ⟨some d,.alloc ty,t,p,af,gd⟩ a w K Q:=by
 unfold Oper.wp;rw[he];exact h
def tlJ{X:Type}(kn:List (Nat×Value))(ci st:Nat)(Pre:(Nat->Bool)->(Nat->Value)->World->Prop)(Post:X->World->Prop)(ix:List Nat)(val:X->Nat->Value)(sto:X->World->World)(dn:Nat->Bool)(cv:Nat->Value)(w:World):Prop:=
 (∀p∈kn,dn p.1=true->cv p.1=p.2)∧
 ((dn ci=false∧Pre dn cv w)∨(dn ci=true∧∃x w2,Post x w2∧(∀j∈ix,dn j=true->cv j=val x j)∧w=if dn st=true then sto x w2 else w2))
section
variable {X:Type} {kn:List (Nat×Value)} {ci st:Nat} {Pre:(Nat->Bool)->(Nat->Value)->World->Prop} {Post:X->World->Prop} {ix:List Nat} {val:X->Nat->Value} {sto:X->World->World} {dn:Nat->Bool} {cv:Nat->Value} {w w':World}
theorem tl_start(h:Pre (fun _=>false) (fun _=>undef) w):tlJ kn ci st Pre Post ix val sto (fun _=>false) (fun _=>undef) w:=⟨by simp,.inl ⟨rfl,h⟩⟩
theorem tl_pre(h:tlJ kn ci st Pre Post ix val sto dn cv w)(hc:dn ci=false):Pre dn cv w:=by
 rcases h.2 with ⟨_,h⟩|⟨h,_⟩
 ·exact h
 rw[hc]at h;cases h
theorem tl_ci{x:X}(h:tlJ kn ci st Pre Post ix val sto dn cv w)(hk:∀p∈kn,p.1≠ci)(hi:∀j∈ix,j≠ci->dn j=false)(hs:dn st=false)(hsc:st≠ci)(hv:v=val x ci)(hp:Post x w'):
  tlJ kn ci st Pre Post ix val sto (fun j=>if j=ci then true else dn j) (fun j=>if j=ci then v else cv j) w':=by
 refine⟨fun p hp' hd=>?_,.inr ⟨by simp,x,w',hp,fun j hj hd=>?_,?_⟩⟩
 ·dsimp only at hd⊢;rw[if_neg (hk p hp')]at hd⊢;exact h.1 p hp' hd
 ·dsimp only at hd⊢;exact x38b
 dsimp only;simp[hsc,hs]
theorem tl_ix(h:tlJ kn ci st Pre Post ix val sto dn cv w)(hc:dn ci=true)(hk:k≠ci)(hs:k≠st)(hkn:∀p∈kn,p.1≠k):
  ∃x,(∀j∈ix,dn j=true->cv j=val x j)∧∀v,v=val x k->tlJ kn ci st Pre Post ix val sto (fun j=>if j=k then true else dn j) (fun j=>if j=k then v else cv j) w:=by
 rcases h.2 with ⟨h2,_⟩|⟨_,x,w2,h1,h2,h3⟩
 ·rw[hc]at h2;cases h2
 refine⟨x,h2,fun v hv=>⟨fun p hp' hd=>?_,.inr ⟨(if_neg (fun e=>hk e.symm)).trans hc,x,w2,h1,fun j hj hd=>?_,?_⟩⟩⟩
 ·dsimp only at hd⊢;rw[if_neg (hkn p hp')]at hd⊢;exact h.1 p hp' hd
 ·dsimp only at hd⊢;by_cases e:j=k
  ·rw[if_pos e,e];exact hv
  rw[if_neg e]at hd⊢;exact h2 j hj hd
 dsimp only;have e:(if st=k then true else dn st)=dn st:=if_neg (fun e=>hs e.symm);simp only[e];exact h3
theorem tl_st(h:tlJ kn ci st Pre Post ix val sto dn cv w)(hc:dn ci=true)(hs:dn st=false)(hsc:ci≠st)(hkn:∀p∈kn,p.1≠st)(hix:∀j∈ix,j≠st):
  ∃x,Post x w∧(∀j∈ix,dn j=true->cv j=val x j)∧∀v,tlJ kn ci st Pre Post ix val sto (fun j=>if j=st then true else dn j) (fun j=>if j=st then v else cv j) (sto x w):=by
 rcases h.2 with ⟨h2,_⟩|⟨_,x,w2,h1,h2,h3⟩
 ·rw[hc]at h2;cases h2
 rw[hs,if_neg (by simp)]at h3;subst h3;refine⟨x,h1,h2,fun v=>⟨fun p hp' hd=>?_,.inr ⟨(if_neg hsc).trans hc,x,w,h1,fun j hj hd=>?_,?_⟩⟩⟩
 ·dsimp only at hd⊢;rw[if_neg (hkn p hp')]at hd⊢;exact h.1 p hp' hd
 ·dsimp only at hd⊢;rw[if_neg (hix j hj)]at hd⊢;exact h2 j hj hd
 simp
theorem tl_end(h:tlJ kn ci st Pre Post ix val sto dn cv w)(hc:dn ci=true)(hs:dn st=true):∃x w2,Post x w2∧(∀j∈ix,dn j=true->cv j=val x j)∧w=sto x w2:=by
 rcases h.2 with ⟨h2,_⟩|⟨_,x,w2,h1,h2,h3⟩
 ·rw[hc]at h2;cases h2
 rw[hs,if_pos rfl]at h3;exact⟨x,w2,h1,h2,h3⟩
end
structure TbJ{X:Type}(w0:World)(ci al st:Nat)(ix:List Nat)(val:X->Nat->Value)(row:X->Array Value)(zr:Array Value)(R:X->World->Prop)(x:X)(b gb:Nat)(w2:World)(dn:Nat->Bool)(cv:Nat->Value)(w:World):Prop where
 bel:Below w0.heap.size w0 w
 call:dn ci=true->w0.heap.size<=b∧Fresh b w2 (R x)∧Kp b w2 w∧w2.heap.size<=w.heap.size
 vals:dn ci=true->∀j∈ix,dn j=true->cv j=val x j
 box:dn al=true->cv al=.pointer (some ⟨gb,0,none⟩)∧w0.heap.size<=gb∧gb<w.heap.size∧frOf w gb=(0,0)∧(dn st=false->rowOf w gb=zr)∧(dn st=true->rowOf w gb=row x)
 apart:dn ci=true->dn al=true->gb<b∨w2.heap.size<=gb
def tbJ{X:Type}(w0:World)(ci al st:Nat)(ix:List Nat)(val:X->Nat->Value)(row:X->Array Value)(zr:Array Value)(R:X->World->Prop)(dn:Nat->Bool)(cv:Nat->Value)(w:World):Prop:=
 ∃(x:X) (b gb:Nat) (w2:World),TbJ w0 ci al st ix val row zr R x b gb w2 dn cv w
section
variable {X:Type} {w0 w w':World} {ci al st:Nat} {ix:List Nat} {val:X->Nat->Value} {row:X->Array Value} {zr:Array Value} {R:X->World->Prop} {dn:Nat->Bool} {cv:Nat->Value}
theorem tbJ_start(x:X):tbJ w0 ci al st ix val row zr R (fun _=>false) (fun _=>undef) w0.drew:=
 ⟨x,0,0,w0,(Below.refl _ _).drew,by simp,by simp,by simp,by simp⟩
theorem tbJ_bel(h:tbJ w0 ci al st ix val row zr R dn cv w):Below w0.heap.size w0 w:=by
 obtain⟨_,_,_,_,h⟩:=h;exact h.bel
theorem tbJ_c(hi:∀j∈ix,j≠ci->dn j=false)(h7:dn st=false)(n5:al≠ci)(n6:st≠ci)(h:tbJ w0 ci al st ix val row zr R dn cv w){x:X}(hv:v=val x ci)(hp:Fresh w.heap.size w' (R x))(hb:Below w.heap.size w w'):
  tbJ w0 ci al st ix val row zr R (fun j=>if j=ci then true else dn j) (fun j=>if j=ci then v else cv j) w':=by
 obtain⟨x1,b1,gb,w1,h⟩:=h;have hs:=h.bel.size;refine⟨x,w.heap.size,gb,w',h.bel.trans (hb.mono hs),fun _=>⟨hs,hp,Kp.refl _ _,nl⟩,fun _ j hj hd=>?_,?_,?_⟩
 ·try dsimp only at hd⊢
  exact x38b
 ·simp only[n5,n6,if_false];intro ha;obtain⟨g1,g2,g3,g4,g5,g6⟩:=h.box ha;exact⟨g1,g2,Nat.lt_of_lt_of_le g3 hb.size,(frOf_below g3 hb).trans g4,fun e=>(rowOf_below g3 hb).trans (g5 e),fun e=>by rw[h7]at e;cases e⟩
 simp only[n5,if_false];exact fun _ ha=>.inl (h.box ha).2.2.1
theorem tbJ_k(hc:dn ci=true)(hne:k≠ci)(hal:k≠al)(hst:k≠st)(h:tbJ w0 ci al st ix val row zr R dn cv w):
  ∃x,(∀j∈ix,dn j=true->cv j=val x j)∧∀v,v=val x k->tbJ w0 ci al st ix val row zr R (fun j=>if j=k then true else dn j) (fun j=>if j=k then v else cv j) w:=by
 obtain⟨x,b,gb,w1,h⟩:=h;refine⟨x,h.vals hc,fun v hv=>⟨x,b,gb,w1,h.bel,?_,fun _ j hj hd=>?_,?_,?_⟩⟩
 ·simp only[fun e:ci=k=>hne e.symm,if_neg (fun e:ci=k=>hne e.symm)];exact h.call
 ·try dsimp only at hd⊢
  by_cases e:j=k
  ·rw[if_pos e,e];exact hv
  rw[if_neg e]at hd⊢;exact h.vals hc j hj hd
 ·simp only[if_neg (fun e:al=k=>hal e.symm),if_neg (fun e:st=k=>hst e.symm)];exact h.box
 simp only[if_neg (fun e:ci=k=>hne e.symm),if_neg (fun e:al=k=>hal e.symm)];exact h.apart
theorem tbJ_a(hal:dn al=false)(hs:dn st=false)(hix:∀j∈ix,j≠al)(n5:ci≠al)(n6:st≠al)(h:tbJ w0 ci al st ix val row zr R dn cv w):
  tbJ w0 ci al st ix val row zr R (fun j=>if j=al then true else dn j) (fun j=>if j=al then .pointer (some ⟨w.heap.size,0,none⟩)else cv j) (w.alloc (.cells zr ty)):=by
 obtain⟨x,b,gb,w1,h⟩:=h;have hsz:=h.bel.size;refine⟨x,b,w.heap.size,w1,h.bel.alloc hsz _,?_,?_,?_,?_⟩
 ·simp only[if_neg n5];intro e;obtain⟨g1,g3,g4,g5⟩:=h.call e;exact⟨g1,g3,g4.alloc g5 _,by simp;omega⟩
 ·simp only[if_neg n5];intro e j hj hd;rw[if_neg (hix j hj)]at hd⊢;exact h.vals e j hj hd
 ·simp only[n6,if_false,if_true];refine fun _=>⟨trivial,hsz,by simp,by rw[frOf_alloc,if_pos rfl],fun _=>by rw[rowOf_alloc,if_pos rfl],fun e=>by rw[hs]at e;cases e⟩
 simp only[if_neg n5];intro e _;exact .inr (h.call e).2.2.2
theorem tbJ_s(hz:0<zr.size)(hd:dn ci=true)(hs:dn st=false)(hal:dn al=true)(hix:∀j∈ix,j≠st)(n5:ci≠st)(n6:al≠st)(h:tbJ w0 ci al st ix val row zr R dn cv w):
  ∃(x:X) (gb:Nat),cv al=.pointer (some ⟨gb,0,none⟩)∧(∀j∈ix,dn j=true->cv j=val x j)∧rowOf w gb=zr∧frOf w gb=(0,0)∧∀v,tbJ w0 ci al st ix val row zr R (fun j=>if j=st then true else dn j) (fun j=>if j=st then v else cv j) (w.setRow gb (row x)):=by
 obtain⟨x,b,gb,w1,h⟩:=h;obtain⟨b1,b2,b3,b4,b5,b6⟩:=h.box hal;have hr:=b5 hs;refine⟨x,gb,b1,h.vals hd,hr,b4,fun v=>⟨x,b,gb,w1,below_row h.bel b2 _,?_,?_,?_,?_⟩⟩
 ·simp only[if_neg n5];intro e;obtain⟨g1,g3,g4,g5⟩:=h.call e;exact⟨g1,g3,g4.row (h.apart e hal) _,by simp[World.setRow];exact g5⟩
 ·simp only[if_neg n5];intro e j hj hd';rw[if_neg (hix j hj)]at hd'⊢;exact h.vals e j hj hd'
 ·simp only[n6,if_false,if_true];refine fun _=>⟨b1,b2,by simp[World.setRow];exact b3,by rw[frOf_setRow];exact b4,fun e=>by simp at e,fun _=>by rw[rowOf_setRow _ _ _ _ (by rw[hr];exact hz),if_pos rfl]⟩
 simp only[if_neg n5,if_neg n6];exact h.apart
theorem tbJ_end(h1:dn ci=true)(h6:dn al=true)(h7:dn st=true)(h:tbJ w0 ci al st ix val row zr R dn cv w):
  ∃(x:X) (b gb:Nat) (w2:World),(∀j∈ix,dn j=true->cv j=val x j)∧cv al=.pointer (some ⟨gb,0,none⟩)∧
   rowOf w gb=row x∧frOf w gb=(0,0)∧w0.heap.size<=gb∧gb<w.heap.size∧Below w0.heap.size w0 w∧w0.heap.size<=b∧Fresh b w2 (R x)∧Kp b w2 w∧w2.heap.size<=w.heap.size∧(gb<b∨w2.heap.size<=gb):=by
 obtain⟨x,b,gb,w1,h⟩:=h;obtain⟨g1,g3,g4,g5⟩:=h.call h1;obtain⟨b1,b2,b3,b4,b5,b6⟩:=h.box h6;exact⟨x,b,gb,w1,h.vals h1,b1,b6 h7,b4,b2,b3,h.bel,g1,g3,g4,g5,h.apart h1 h6⟩
end
@[go_sem] theorem aggSzHap:aggSz Try.prog 106=2:=by kernel_rfl
theorem ims_three{g0 g1 g2 g3:Nat}(h0:∃t f,w.heap[g0]?=some (.cells (im0.map bv).toArray t f))(h1:∃t f,w.heap[g1]?=some (.cells (im1.map bv).toArray t f))(h2:∃t f,w.heap[g2]?=some (.cells (im2.map bv).toArray t f))
  (h3:∃t f,w.heap[g3]?=some (.cells #[.slice (some ⟨g0,0,none⟩) 8 8,.slice (some ⟨g1,0,none⟩) 9 9,.slice (some ⟨g2,0,none⟩) 11 11] t f)):Ims w (some ⟨g3,0,none⟩) ims:=by
 obtain⟨_,_,h4⟩:=h0;obtain⟨_,_,h1⟩:=h1;obtain⟨_,_,h2⟩:=h2;obtain⟨_,_,h3⟩:=h3;intro i hi;have hi1:i<3:=hi;refine⟨g3,0,rfl,blk_lt h3,?_⟩;have hc:=fun j=>cell_of_row w g3 j _ _ _ h3
 match i,hi1 with
 |0,_=>exact⟨[.slice (some ⟨g0,0,none⟩) 8 8],rfl,(fun j hj=>by
  obtain rfl:j=0:=by simpa using hj
  simp[hc]),⟨_,8,rfl,nl,Nat.le_of_ble_eq_true rfl,bts_blk h4 rfl⟩⟩
 |1,_=>exact⟨[.slice (some ⟨g1,0,none⟩) 9 9],rfl,(fun j hj=>by
  obtain rfl:j=0:=by simpa using hj
  simp[hc]),⟨_,9,rfl,nl,Nat.le_of_ble_eq_true rfl,bts_blk h1 rfl⟩⟩
 |2,_=>exact⟨[.slice (some ⟨g2,0,none⟩) 11 11],rfl,(fun j hj=>by
  obtain rfl:j=0:=by simpa using hj
  simp[hc]),⟨_,11,rfl,nl,Nat.le_of_ble_eq_true rfl,bts_blk h2 rfl⟩⟩
def IsRet(w:World):Ending->World->Prop:=fun en w'=>
 ∃A c,en=.returned (.slice A ims.length c)∧ims.length<=c∧Ims w' A ims∧Below w.heap.size w w'
theorem lawImages_calls(w:World):Calls Try.prog 116 #[] w (IsRet w):=by
 have kc:=convert_const (P:=Try.prog) 22 5 Try.underlying22 Try.underlying5;go_enter Try.func116,Try.ntmps116;go_wp2_with fail;go_ret;refine⟨some ⟨w.heap.size+1+1+1,0,none⟩,3,rfl,nl,ims_three (g0:=w.heap.size) (g1:=w.heap.size+1) (g2:=w.heap.size+1+1) ?_ ?_ ?_ ?_,?_⟩
 ·exact⟨_,_,blk_old (blk_old (blk_old (blk_top (by simp))))⟩
 ·exact⟨_,_,blk_old (blk_old (blk_top (by simp)))⟩
 ·exact⟨_,_,blk_old (blk_top (by simp))⟩
 ·exact⟨_,_,blk_top (by simp)⟩
 exact((((Below.refl _ _).alloc (by simp) _).alloc (by simp) _).alloc (by simp;omega) _).alloc (by simp;omega) _
theorem Ims.at_{A:OA}{l:List (List UInt8)}(h:Ims w A l){n:Nat}(hn:n<l.length):∃b o B m,A=some ⟨b,o,none⟩∧b<w.heap.size∧w.cell? ⟨b,o+n,none⟩=some (.slice B l[n].length m)∧l[n].length<=m∧Bts w B l[n]:=by
 obtain⟨b,o,rfl,hb,cs,h1,h2,B,m,h3,h4,h5,h6⟩:=h n hn;subst h3;refine⟨b,o,B,m,rfl,hb,?_,h4,h6⟩;have:=h2 0 (by simp);simpa using this
section
variable {X:Type} {w0 w w':World} {ci al st:Nat} {ix:List Nat} {val:X->Nat->Value} {row:X->Array Value} {zr:Array Value} {R:X->World->Prop} {dn:Nat->Bool} {cv:Nat->Value}
theorem tbJ_o(hc:k≠ci)(hal:k≠al)(hst:k≠st)(hix:∀j∈ix,j≠k)(h:tbJ w0 ci al st ix val row zr R dn cv w)(hb:Below w.heap.size w w'):
  tbJ w0 ci al st ix val row zr R (fun j=>if j=k then true else dn j) (fun j=>if j=k then v else cv j) w':=by
 obtain⟨x,b,gb,w1,h⟩:=h;refine⟨x,b,gb,w1,h.bel.trans (hb.mono h.bel.size),?_,?_,?_,?_⟩
 ·simp only[if_neg (fun e:ci=k=>hc e.symm)];intro e;obtain⟨g1,g3,g4,g5⟩:=h.call e;exact⟨g1,g3,fun q h1 h2=>(hb.block q (by omega)).trans (g4 q h1 h2),Nat.le_trans g5 hb.size⟩
 ·simp only[if_neg (fun e:ci=k=>hc e.symm)];intro e j hj hd;rw[if_neg (hix j hj)]at hd⊢;exact h.vals e j hj hd
 ·simp only[if_neg (fun e:al=k=>hal e.symm),if_neg (fun e:st=k=>hst e.symm)];intro ha;obtain⟨g1,g2,g3,g4,g5,g6⟩:=h.box ha;exact⟨g1,g2,Nat.lt_of_lt_of_le g3 hb.size,(frOf_below g3 hb).trans g4,fun e=>(rowOf_below g3 hb).trans (g5 e),fun e=>(rowOf_below g3 hb).trans (g6 e)⟩
 simp only[if_neg (fun e:ci=k=>hc e.symm),if_neg (fun e:al=k=>hal e.symm)];exact h.apart
end
def imC(i0 i1 i2 idx:Nat)(im:LU)(dn:Nat->Bool)(cv:Nat->Value)(w:World):Prop:=
 (dn i0=true->∃b o c,cv i0=.slice (some ⟨b,o,none⟩) 3 c∧3<=c∧Ims w (some ⟨b,o,none⟩) ims∧(dn i1=true->cv i1=.pointer (some ⟨b,o+idx,none⟩)))∧
 (dn i2=true->∃B m,cv i2=.slice B im.length m∧im.length<=m∧Bts w B im)
section
variable {i0 i1 i2 idx k:Nat} {im:LU} {dn:Nat->Bool} {cv:Nat->Value} {w w':World} {v:Value}
theorem imC_o(h0:i0≠k)(h1:i1≠k)(h2:i2≠k)(h:imC i0 i1 i2 idx im dn cv w)(hb:Below w.heap.size w w'):imC i0 i1 i2 idx im (fun j=>if j=k then true else dn j) (fun j=>if j=k then v else cv j) w':=by
 unfold imC;simp only[if_neg h0,if_neg h1,if_neg h2];refine⟨fun e=>?_,fun e=>?_⟩
 ·obtain⟨b,o,c,e1,e2,e3,e4⟩:=h.1 e;exact⟨b,o,c,e1,e2,e3.stays hb,e4⟩
 obtain⟨B,m,e1,e2,e3⟩:=h.2 e;exact⟨B,m,e1,e2,e3.stays hb⟩
theorem imC_0{b o c:Nat}(h1:i1≠i0)(h2:i2≠i0)(hd:dn i1=false)(hd2:dn i2=false)(hv:v=.slice (some ⟨b,o,none⟩) 3 c)(hc:3<=c)(hi:Ims w' (some ⟨b,o,none⟩) ims):imC i0 i1 i2 idx im (fun j=>if j=i0 then true else dn j) (fun j=>if j=i0 then v else cv j) w':=by
 unfold imC;simp only[if_true,if_neg h1,if_neg h2,hd,hd2];exact⟨fun _=>⟨b,o,c,hv,hc,hi,fun e=>by cases e⟩,fun e=>by cases e⟩
theorem imC_1(h0:i0≠i1)(h2:i2≠i1)(hd:dn i0=true)(hd2:dn i2=false)(h:imC i0 i1 i2 idx im dn cv w):∃b o c,cv i0=.slice (some ⟨b,o,none⟩) 3 c∧3<=c∧∀v,v=.pointer (some ⟨b,o+idx,none⟩)->imC i0 i1 i2 idx im (fun j=>if j=i1 then true else dn j) (fun j=>if j=i1 then v else cv j) w:=by
 obtain⟨b,o,c,e1,e2,e3,e4⟩:=h.1 hd;refine⟨b,o,c,e1,e2,fun v hv=>?_⟩;unfold imC;simp only[if_neg h0,if_true,if_neg h2,hd2];exact⟨fun _=>⟨b,o,c,e1,e2,e3,fun _=>hv⟩,fun e=>by cases e⟩
theorem imC_2(h0:i0≠i2)(h1:i1≠i2)(hd:dn i0=true)(hd1:dn i1=true)(hl:idx<ims.length)(hi:ims[idx]?=some im)(h:imC i0 i1 i2 idx im dn cv w):∃b o B m,cv i1=.pointer (some ⟨b,o+idx,none⟩)∧w.cell? ⟨b,o+idx,none⟩=some (.slice B im.length m)∧∀v,v=.slice B im.length m->imC i0 i1 i2 idx im (fun j=>if j=i2 then true else dn j) (fun j=>if j=i2 then v else cv j) w:=by
 obtain⟨b,o,c,e1,e2,e3,e4⟩:=h.1 hd;obtain⟨b',o',B,m,f1,f2,f3,f4,f5⟩:=e3.at_ hl;have hg:ims[idx]=im:=by rw[List.getElem?_eq_getElem hl]at hi;injection hi
 cases f1;rw[hg]at f3 f4 f5;refine⟨b,o,B,m,e4 hd1,f3,fun v hv=>?_⟩;unfold imC;simp only[if_neg h0,if_neg h1,if_true];exact⟨fun _=>⟨b,o,c,e1,e2,e3,e4⟩,fun _=>⟨B,m,hv,f4,f5⟩⟩
end
theorem refPatCheck_calls(A:OA)(c:Nat)(f t o n sz:Int)(l:List Stp)(w:World)(hl:l.length<=3518437208780)(hs:Sps w A l):
  Calls Try.prog 30 #[.agg (patA f t o n sz A l.length c)] w (RetB w (iv (patCheck ⟨f,t,o,n,sz,l⟩))):=refPatCheckA_calls A c f t o n sz l w hl hs
theorem refMade_many(A B:OA)(c d:Nat)(fr to_:Int)(old b:LU)(w:World)(h:64<old.length∨64<b.length)(ho:old.length<=140737488351232)(hl:b.length<=140737488351232):
  Calls Try.prog 26 #[iv fr,iv to_,.slice A old.length c,.slice B b.length d] w (PaRet w Pat.zero 1):=by
 have K:=qH (fun w=>refDiffed_many A B c d old b w h ho hl);clear h;go_enter Try.func26,Try.ntmps26;go_wp2_with fail;refine(K.out _).mono ?_;rintro e w1 ⟨rfl,hb1⟩;have a1:=kp (w.heap.size) (patA 0 0 0 0 0 none 0 0) hb1;have HB:=qH (((Below.refl _ _).alloc (Nat.le_refl w.heap.size) _).trans (hb1.mono (by simp)));clear hb1;go_wp2_with fail;refine bodyPost_ret (rC (patA 0 0 0 0 0 none 0 0)) rfl ⟨none,0,rfl,.const fun v=>patIn_zero v,below_row HB.out (by omega) _⟩
theorem refMade_fit(A B:OA)(c d:Nat)(fr to_:Int)(old b:LU)(w:World)(hml:ML w)(hc:old.length<=c)(hd:b.length<=d)(hf:I64 fr)(ht:I64 to_)(ho:old.length<=64)(hl:b.length<=64)(hA:Bts w A old)(hB:Bts w B b):
  Calls Try.prog 26 #[iv fr,iv to_,.slice A old.length c,.slice B b.length d] w (PaRet w (patMake (sumOn 1) fr to_ old b).1 (patMake (sumOn 1) fr to_ old b).2):=by
 have K1:=qH (fun w hm h1 h2=>refDiffed3_calls A B c d old b w hm hc hd ho hl h1 h2);have K2:=qH (fun w h=>refSumOf_calls A c old w (by omega) h);have K3:=qH (fun w h=>refSumOf_calls B d b w (by omega) h);have hs1:=sumOn_bd 1 old (by omega);have hs2:=sumOn_bd 1 b (by omega);have hdl:(diffed old b).length<=40:=(diffed_ok old b ho hl).many;have HM:Hid ((patMake (sumOn 1) fr to_ old b)=if patCheck ⟨fr,to_,sumOn 1 old,sumOn 1 b,b.length,diffed old b⟩≠0 then (Pat.zero,patCheck ⟨fr,to_,sumOn 1 old,sumOn 1 b,b.length,diffed old b⟩)else (⟨fr,to_,sumOn 1 old,sumOn 1 b,b.length,diffed old b⟩,0)):=qH (by
  unfold patMake;rw[if_neg (by omega)])
 generalize sumOn 1 old=s1 at *
 generalize sumOn 1 b=s2 at *
 generalize diffed old b=l at *
 have HA:=qH hA;have HB:=qH hB;have HML:=qH hml;have HI:Hid (I64 fr∧I64 to_):=qH ⟨hf,ht⟩;clear hA hB hf ht hml;generalize patMake (sumOn 1) fr to_ old b=r at *
 go_enter Try.func26,Try.ntmps26;go_wp2_with fail;have hba:=(bW w).alloc nl (.cells (patA 0 0 0 0 0 none 0 0) 35);refine(K1.out _ (HML.out.stays hba) (HA.out.stays hba) (HB.out.stays hba)).mono ?_;rintro e w1 ⟨A1,c1,rfl,hsp,hc1,hb1⟩;have a1:=kp (w.heap.size) (patA 0 0 0 0 0 none 0 0) hb1;have HB1:=qH (hba.trans (hb1.mono (by simp)));have HSP:=qH hsp;clear hb1 hba hsp;go_wp2_with fail;refine(K2.out _ (HA.out.stays HB1.out)).mono ?_;rintro e w2 ⟨rfl,rfl⟩;go_wp2_with fail;refine(K3.out _ (HB.out.stays HB1.out)).mono ?_;rintro e w3 ⟨rfl,rfl⟩;go_wp2_with fail;have hba:=(bW w1).alloc nl (.cells (patA fr to_ s1 s2 b.length A1 l.length c1) 35);have HS1:=qH (HSP.out.below hba nl);refine(refPatCheck_calls A1 c1 fr to_ s1 s2 b.length l _ (by omega) HS1.out.now).mono ?_;rintro e w4 ⟨rfl,hb1⟩;have b2:=kp (w.heap.size) (patA 0 0 0 0 0 none 0 0) hb1;have b1:=kp (w1.heap.size) (patA fr to_ s1 s2 b.length A1 l.length c1) hb1;have HB2:Hid (Below w.heap.size w w4):=qH ((HB1.out.alloc HB1.out.size _).trans (hb1.mono (by have:=HB1.out.size;simp;omega)));have HS2:=qH (HS1.out.below hb1 nl);have HPI:Hid (Fresh (w.heap.size+1) w4 (fun v=>PatIn v ⟨fr,to_,s1,s2,b.length,l⟩ A1 c1)):=qH (Fresh.imp (by simpa using HS2.out) fun v hv=>⟨hc1,by dsimp only;omega,hv,HI.out.1,HI.out.2,⟨by dsimp only;omega,by dsimp only;omega⟩,⟨by dsimp only;omega,by dsimp only;omega⟩,⟨by dsimp only;omega,by dsimp only;omega⟩⟩);clear hb1 hba;by_cases hz:patCheck ⟨fr,to_,s1,s2,b.length,l⟩=0
 ·have hr:r=(⟨fr,to_,s1,s2,b.length,l⟩,0):=by rw[HM.out,if_neg (by simpa using hz)]
  have HR:=qH hr;clear hr;go_wp2_with fail;refine bodyPost_ret (rC (patA fr to_ s1 s2 b.length A1 l.length c1)) rfl ?_;rw[HR.out];exact⟨A1,c1,rfl,(HPI.out.row (by omega) _).mono (by omega),below_row HB2.out (by omega) _⟩
 have hr:r=(Pat.zero,patCheck ⟨fr,to_,s1,s2,b.length,l⟩):=by rw[HM.out,if_pos hz]
 have hq:(patCheck ⟨fr,to_,s1,s2,b.length,l⟩ !=0)=true:=by simp[hz]
 have HR:=qH hr;clear hr hz;generalize patCheck ⟨fr,to_,s1,s2,b.length,l⟩=e1 at *
 go_wp2_with fail;refine bodyPost_ret (rC (patA 0 0 0 0 0 none 0 0)) rfl ?_;rw[HR.out];exact⟨none,0,rfl,.const fun v=>patIn_zero v,below_row HB2.out (by omega) _⟩
theorem refMade_calls(A B:OA)(c d:Nat)(fr to_:Int)(old b:LU)(w:World)(hml:ML w)(hc:old.length<=c)(hd:b.length<=d)(hf:I64 fr)(ht:I64 to_)(ho:old.length<=140737488351232)(hl:b.length<=140737488351232)(hA:Bts w A old)(hB:Bts w B b):
  Calls Try.prog 26 #[iv fr,iv to_,.slice A old.length c,.slice B b.length d] w (PaRet w (patMake (sumOn 1) fr to_ old b).1 (patMake (sumOn 1) fr to_ old b).2):=by
 by_cases h:64<old.length∨64<b.length
 ·have e:patMake (sumOn 1) fr to_ old b=(Pat.zero,1):=by unfold patMake;rw[if_pos h]
  rw[e];exact refMade_many A B c d fr to_ old b w h ho hl
 exact refMade_fit A B c d fr to_ old b w hml hc hd hf ht (by omega) (by omega) hA hB
end Go.Proofs.Ytefkfglkpebbmac
