/- Walks of functions, and plain words. No conditions. -/
import Derived.Test.YtefkfglkpebbmacPA
set_option linter.unusedVariables false
set_option linter.unusedSimpArgs false
set_option maxRecDepth 100000
set_option maxHeartbeats 40000000
namespace Go.Proofs.Ytefkfglkpebbmac
open Go.RowKit
variable {Y:Prop}
theorem sum_bd(l:LU):0<=sumOn 1 l∧sumOn 1 l<=65535:=by
 have:=sumOn_bd 1 l (by omega);omega
def mk(l:List (List UInt8))(f t:Int):Pat:=⟨f,t,sumOn 1 (relAt l f),sumOn 1 (relAt l t),(relAt l t).length,diffed (relAt l f) (relAt l t)⟩
def InRel(l:List (List UInt8))(v:Int):Prop:=1<=v∧v<=l.length
def bytesOf(p:Pat):List UInt8:=packed (patBytes p)
theorem cut_ok{p:Pat}(h:patCheck p=0):chkCut p=(chunksOf p (bytesOf p),0)∧1<=nOf (bytesOf p)∧nOf (bytesOf p)<=10:=by
 have hl:=packed_patch_len h;unfold chkCut bytesOf nOf;rw[if_neg (by simpa using h),if_neg (by omega)];exact⟨rfl,by omega,by omega⟩
def Real(l:List (List UInt8))(c:Chk):Prop:=∃f t k,InRel l f∧InRel l t∧k<nOf (bytesOf (mk l f t))∧c=chunkAt (mk l f t) (bytesOf (mk l f t)) (nOf (bytesOf (mk l f t))) k
theorem join_all{p:Pat}(hp:patCheck p=0):chkJoin (chunksOf p (bytesOf p))=(p,0):=by
 obtain⟨h1,h2,h3⟩:=cut_ok hp;have hc:(chkCut p).2=0:=by rw[h1]
 have hall:((List.range (nOf (bytesOf p))).filter (fun _=>true)).length=nOf (bytesOf p):=by rw[List.filter_eq_self.2 (fun _ _=>rfl),List.length_range]
 have:=gotS_join hc (fun _=>true);have e:=gotS_all (p:=p) hall;unfold bytesOf at *
 rw[e]at this;rw[this,if_pos (by rw[<-e,gotS_len];exact hall)]
/-! ### What holds all along -/
structure Inv(l:List (List UInt8))(g:Int)(w:Wor):Prop where
 ok:WorOk w
 rel:w.rel=l
 net:∀c∈w.net,Real l c
 got:∀c∈w.d.got,Real l c
 gen:w.d.rec_.gen<=g
 slots:∀k,k=0∨k=1->(w.d.rec_.at_ k).ver≠0->InRel l (w.d.rec_.at_ k).ver∧(w.d.rec_.at_ k).size=(relAt l (w.d.rec_.at_ k).ver).length∧(w.d.slot k).take (w.d.rec_.at_ k).size.toNat=relAt l (w.d.rec_.at_ k).ver
 job:w.d.busy=true->∃t,InRel l t∧w.d.job=mk l w.d.good t
theorem inv_new{l:List (List UInt8)}(h:relCheck l=0):Inv l 1 ⟨l,newDev (l.headD []),[]⟩∧worNew l=(⟨l,newDev (l.headD []),[]⟩,0):=by
 obtain⟨h1,h2,h3⟩:=relCheck_ok.1 h;have hb:(l.headD []).length<=64:=by
  rcases l with _|⟨b,l⟩
  ·simp
  exact h3 b (by simp)
 have e1:relAt l 1=l.headD []:=by
  rcases l with _|⟨b,l⟩<;>rfl
 have hl:1<=l.length:=by
  rcases l with _|⟨b,l⟩
  ·exact absurd rfl h1
  simp
 generalize hb':l.headD []=b at *
 have hs:=sum_bd b;have hr:(newDev b).rec_=⟨1,0,false,0,1,⟨1,b.length,sumOn 1 b⟩,Inf.zero⟩:=by
  unfold Dev.rec_ recRead newer newDev;simp[Cop.zero]
 have hrc:recCheck ⟨1,0,false,0,1,⟨1,b.length,sumOn 1 b⟩,Inf.zero⟩=0:=by
  refine recCheck_ok ⟨by simp,by simp,by simp,by simp,by simp,by simp,by simp,by simp⟩ ?_ ?_ ⟨by simp[Rec.at_],by simp,by simp,by simp[Rec.at_]⟩
  ·refine infCheck_ok ⟨by simp,by simp,by simp,by simp;omega,hs.1,hs.2⟩ (fun e=>by simp at e)
  exact infCheck_ok ⟨by simp[Inf.zero],by simp[Inf.zero],by simp[Inf.zero],by simp[Inf.zero],by simp[Inf.zero],by simp[Inf.zero]⟩ (fun _=>⟨rfl,rfl⟩)
 have hc:copCheck (newDev b).c0 (newDev b).c1=0:=by
  show copCheck ⟨true,_⟩ Cop.zero=0;rw[copCheck_3 (by rw[copOne_ok rfl];exact hrc) copOne_zero];simp
 have hd:DevOk (newDev b):=⟨room_len hb,room_len (by simp),hc,fun e=>(by cases e),fun _=>⟨.inl rfl,.inl (by rw[hr];rfl)⟩,fun _=>rfl,fun _ _=>⟨rfl,rfl⟩,fun _ e=>(by cases e)⟩;refine⟨⟨⟨h,hd,by simp,by simp⟩,rfl,by simp,fun c hc=>(by cases hc),by rw[hr];simp,fun k hk hv=>?_,fun e=>(by cases e)⟩,?_⟩
 ·rw[hr]at hv⊢;rcases hk with rfl|rfl
  ·refine⟨⟨by simp[Rec.at_],by simp[Rec.at_];omega⟩,?_,?_⟩
   ·simp[Rec.at_,e1]
   ·simp[Rec.at_,e1,Dev.slot,newDev,room]
  simp[Rec.at_,Inf.zero]at hv
 unfold worNew;rw[if_neg (by simpa using h),hb']
theorem nextRec_gen(d:Dev)(r:Rec):(nextRec d.c0 d.c1 r).gen=d.rec_.gen+1:=rfl
end Go.Proofs.Ytefkfglkpebbmac
