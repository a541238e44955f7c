/- What the laws say of stories, in plain words, part one: what is on its way are chunks of patches between releases, what is in a slot is a release. No program here. -/
import Derived.Test.YtefkfglkpebbmacPA
set_option linter.unusedVariables false
set_option linter.unusedSimpArgs false
set_option maxRecDepth 100000
set_option maxHeartbeats 40000000
namespace Go.Proofs.Ytefkfglkpebbmac
open Go.RowKit
variable {Y:Prop}
variable {l:List (List UInt8)} {p:Pat} {g:Int} {w:Wor}
theorem sum_bd(l:LU):0<=sumOn 1 l∧sumOn 1 l<=65535:=by
 have:=sumOn_bd 1 l (by omega);omega
def mk(l:List (List UInt8))(f t:Int):Pat:=⟨f,t,sumOn 1 (relAt l f),sumOn 1 (relAt l t),(relAt l t).length,diffed (relAt l f) (relAt l t)⟩
def InRel(l:List (List UInt8))(v:Int):Prop:=1<=v∧v<=l.length
theorem relAt_len(h:relCheck l=0){v:Int}(hv:InRel l v):(relAt l v).length<=64∧v<=30∧l[(v-1).toNat]?=some (relAt l v):=by
 obtain⟨h1,h2,h3⟩:=relCheck_ok.1 h;unfold InRel at hv;have hi:(v-1).toNat<l.length:=by omega
 have e:relAt l v=l[(v-1).toNat]:=by unfold relAt;rw[List.getD_eq_getElem?_getD,List.getElem?_eq_getElem hi];rfl
 refine⟨by rw[e];exact h3 _ (List.getElem_mem hi),by omega,by rw[List.getElem?_eq_getElem hi,e]⟩
theorem mk_ok(h:relCheck l=0){f t:Int}(hf:InRel l f)(ht:InRel l t):
  patMake (sumOn 1) f t (relAt l f) (relAt l t)=(mk l f t,0)∧patCheck (mk l f t)=0∧patDo (sumOn 1) (mk l f t) (relAt l f)=(relAt l t,0):=by
 have h1:=relAt_len h hf;have h2:=relAt_len h ht;exact patMake_ok sum_bd ⟨hf.1,h1.2.1⟩ ⟨ht.1,h2.2.1⟩ h1.1 h2.1
def bytesOf(p:Pat):List UInt8:=packed (patBytes p)
theorem cut_ok(h:patCheck p=0):chkCut p=(chunksOf p (bytesOf p),0)∧1<=nOf (bytesOf p)∧nOf (bytesOf p)<=10:=by
 have hl:=packed_patch_len h;unfold chkCut bytesOf nOf;rw[if_neg (by simpa using h),if_neg (by omega)];exact⟨rfl,by omega,by omega⟩
def Real(l:List (List UInt8))(c:Chk):Prop:=∃f t k,InRel l f∧InRel l t∧k<nOf (bytesOf (mk l f t))∧c=chunkAt (mk l f t) (bytesOf (mk l f t)) (nOf (bytesOf (mk l f t))) k
theorem real_cut{f t:Int}(hf:InRel l f)(ht:InRel l t):∀c∈chunksOf (mk l f t) (bytesOf (mk l f t)),Real l c:=by
 intro c hc;obtain⟨k,hk,rfl⟩:=List.mem_map.1 hc;exact⟨f,t,k,hf,ht,by simpa[nOf]using hk,rfl⟩
theorem add_mem{l:List Chk}{c y:Chk}(h:y∈(chkAdd l c).1):y=c∨y∈l:=by
 by_cases h3:(chkAdd l c).2=0
 ·obtain⟨hl,hc⟩:=chkAdd_zero h3;obtain⟨e4,e1,e2,e3⟩:=chkAdd_ok hl hc;by_cases hne:l=[]
  ·rw[e1 (.inl hne)]at h;exact .inl (by simpa using h)
  rcases kin_all (c:=c) hl hne with hk|⟨hk,_⟩
  ·by_cases he:∃y∈l,y.n=c.n
   ·rw[e2 hk he]at h;exact .inr h
   ·rw[e3 hk (fun y hy e=>he ⟨y,hy,e⟩)]at h;rcases List.mem_append.1 h with h|h
    ·exact .inr ((List.takeWhile_subset _) h)
    rcases List.mem_cons.1 h with h|h
    ·exact .inl h
    exact .inr ((List.dropWhile_subset _) h)
  rw[e1 (.inr hk)]at h;exact .inl (by simpa using h)
 unfold chkAdd at h h3;by_cases h1:chkList l≠0
 ·rw[if_pos h1]at h;cases h
 rw[if_neg h1]at h h3;by_cases h2:chkCheck c≠0
 ·rw[if_pos h2]at h;cases h
 rw[if_neg h2]at h3
 match l with
 |[]=>simp at h3
 |x::r=>
  dsimp only at h3;split at h3
  ·simp at h3
  split at h3<;>simp at h3
theorem rising_len:∀(n s:Nat) (l:List Nat),l.Pairwise (· < ·)->(∀x∈l,s<=x∧x<s+n)->l.length<=n
 |_,_,[],_,_=>by simp
 |0,s,x::r,_,h=>by have:=h x (by simp);omega
 |n+1,s,x::r,hp,h=>by
  obtain⟨h1,h2⟩:=List.pairwise_cons.1 hp;have hx:=h x (by simp);have:=rising_len n (s+1) r h2 (fun y hy=>by have:=h1 y hy;have:=h y (by simp[hy]);omega);simp only[List.length_cons];omega
theorem rising_all:∀(n s:Nat) (l:List Nat),l.Pairwise (· < ·)->(∀x∈l,s<=x∧x<s+n)->n<=l.length->l=List.range' s n
 |0,s,[],_,_,_=>rfl
 |0,s,x::r,_,h,_=>by have:=h x (by simp);omega
 |n+1,s,[],_,_,hl=>by simp at hl
 |n+1,s,x::r,hp,h,hl=>by
  obtain⟨h1,h2⟩:=List.pairwise_cons.1 hp;have hx:=h x (by simp);by_cases e:x=s
  ·subst e;rw[List.range'_succ];congr 1;exact rising_all n (x+1) r h2 (fun y hy=>by have:=h1 y hy;have:=h y (by simp[hy]);omega) (by simpa using hl)
  have:=rising_len n (s+1) (x::r) hp (fun y hy=>by
   rcases List.mem_cons.1 hy with rfl|hy
   ·omega
   have:=h1 y hy;have:=h y (by simp[hy]);omega)
  simp only[List.length_cons]at this hl;omega
theorem joined_all{got:List Chk}(hp:patCheck p=0)(hl:chkList got=0)(hr:∀c∈got,∃k,k<nOf (bytesOf p)∧c=chunkAt p (bytesOf p) (nOf (bytesOf p)) k)(hn:nOf (bytesOf p)<=got.length):got=chunksOf p (bytesOf p):=by
 obtain⟨g1,g2⟩:=chkList_ok.1 hl;have hn':∀c∈got,c.n.toNat<nOf (bytesOf p)∧c=chunkAt p (bytesOf p) (nOf (bytesOf p)) c.n.toNat:=by
  intro c hc;obtain⟨k,hk,rfl⟩:=hr c hc;exact⟨by simpa[chunkAt]using hk,by simp[chunkAt]⟩
 have hpw:(got.map (fun c=>c.n.toNat)).Pairwise (· < ·):=by
  rw[List.pairwise_map];refine List.Pairwise.imp_of_mem ?_ g2;intro a b ha hb hab;obtain⟨i,hi,rfl⟩:=hr a ha;obtain⟨j,hj,rfl⟩:=hr b hb;have:=hab.2;simp[chunkAt]at this⊢;omega
 have hall:=rising_all (nOf (bytesOf p)) 0 (got.map (fun c=>c.n.toNat)) hpw (fun x hx=>by
  obtain⟨c,hc,rfl⟩:=List.mem_map.1 hx;have:=(hn' c hc).1;omega) (by simpa using hn)
 have e:got=(got.map (fun c=>c.n.toNat)).map (chunkAt p (bytesOf p) (nOf (bytesOf p))):=by
  rw[List.map_map]
  conv=>lhs;rw[<-List.map_id got]
  refine List.map_congr_left fun c hc=>?_;exact(hn' c hc).2
 rw[e,hall,<-List.range_eq_range'];rfl
theorem join_all(hp:patCheck p=0):chkJoin (chunksOf p (bytesOf p))=(p,0):=by
 obtain⟨h1,h2,h3⟩:=cut_ok hp;have hc:(chkCut p).2=0:=by rw[h1]
 have hall:((List.range (nOf (bytesOf p))).filter (fun _=>true)).length=nOf (bytesOf p):=by rw[List.filter_eq_self.2 (fun _ _=>rfl),List.length_range]
 have:=gotS_join hc (fun _=>true);have e:=gotS_all (p:=p) hall;unfold bytesOf at *
 rw[e]at this;rw[this,if_pos (by rw[<-e,gotS_len];exact hall)]
theorem join_real(h:relCheck l=0){got:List Chk}(hr:∀c∈got,Real l c)(hj:(chkJoin got).2=0):∃f t,InRel l f∧InRel l t∧(chkJoin got).1=mk l f t:=by
 have hl:chkList got=0:=by
  unfold chkJoin at hj;by_cases e:chkList got=0
  ·exact e
  rw[if_pos e]at hj;exact absurd hj e
 by_cases hne:got=[]
 ·subst hne;unfold chkJoin at hj;rw[if_neg (by simpa using hl)]at hj;simp at hj
 obtain⟨x,r,hg⟩:=List.exists_cons_of_ne_nil hne;have hx:x∈got:=by rw[hg];simp
 obtain⟨f,t,k,hf,ht,hk,e⟩:=hr x hx;obtain⟨m1,m2,m3⟩:=mk_ok h hf ht;obtain⟨g1,g2⟩:=chkList_ok.1 hl;have hh:∀y∈got,kin x y:=by rw[hg];rw[hg]at g2;exact kin_head g2
 have hlen:nOf (bytesOf (mk l f t))<=got.length:=by
  unfold chkJoin at hj;rw[if_neg (by simpa using hl),hg]at hj;dsimp only at hj;by_cases e1:((x::r).length:Int)<x.of_
  ·rw[if_pos e1]at hj;simp at hj
  rw[hg];have:x.of_=(nOf (bytesOf (mk l f t)):Int):=by rw[e];rfl
  omega
 have hall:∀c∈got,∃k,k<nOf (bytesOf (mk l f t))∧c=chunkAt (mk l f t) (bytesOf (mk l f t)) (nOf (bytesOf (mk l f t))) k:=by
  intro c hc;obtain⟨f',t',k',hf',ht',hk',rfl⟩:=hr c hc;have hkin:=hh _ hc;rw[e]at hkin;obtain⟨k1,k2,k3⟩:=hkin;have e1:f=f':=k1;have e2:t=t':=k2;subst e1;subst e2;exact⟨k',hk',rfl⟩
 have:=joined_all m2 hl hall hlen;rw[this,join_all m2];exact⟨f,t,hf,ht,rfl⟩
/-! ### What holds all along -/
structure Inv(l:List (List UInt8))(g:Int)(w:Wor):Prop where
 ok:WorOk w
 rel:w.rel=l
 net:∀c∈w.net,Real l c
 got:∀c∈w.d.got,Real l c
 gen:w.d.rec_.gen<=g
 slots:∀k,k=0∨k=1->(w.d.rec_.at_ k).ver≠0->InRel l (w.d.rec_.at_ k).ver∧(w.d.rec_.at_ k).size=(relAt l (w.d.rec_.at_ k).ver).length∧(w.d.slot k).take (w.d.rec_.at_ k).size.toNat=relAt l (w.d.rec_.at_ k).ver
 job:w.d.busy=true->∃t,InRel l t∧w.d.job=mk l w.d.good t
theorem Inv.relOk(h:Inv l g w):relCheck l=0:=by rw[<-h.rel];exact h.ok.rel
theorem good_ok{d:Dev}(h:DevOk d):d.good≠0∧1<=d.good∧d.rec_.floor<=d.good∧(d.rec_.active=0∨d.rec_.active=1):=by
 have hr:=rec_ok h;obtain⟨h1,h2,h3,h4⟩:=recCheck_parts hr;unfold RangeOk at h1;unfold FormOk at h4;unfold Dev.good;exact⟨h4.1,by omega,by omega,by omega⟩
theorem Inv.goodIn(h:Inv l g w):InRel l w.d.good∧w.d.image w.d.rec_.active w.d.rec_=relAt l w.d.good:=by
 obtain⟨h1,h2,h3,h4⟩:=good_ok h.ok.dev;obtain⟨s1,s2,s3⟩:=h.slots _ h4 h1;exact⟨s1,s3⟩
theorem inv_new(h:relCheck l=0):Inv l 1 ⟨l,newDev (l.headD []),[]⟩∧worNew l=(⟨l,newDev (l.headD []),[]⟩,0):=by
 obtain⟨h1,h2,h3⟩:=relCheck_ok.1 h;have hb:(l.headD []).length<=64:=by
  rcases l with _|⟨b,l⟩
  ·simp
  exact h3 b (by simp)
 have e1:relAt l 1=l.headD []:=by
  rcases l with _|⟨b,l⟩<;>rfl
 have hl:1<=l.length:=by
  rcases l with _|⟨b,l⟩
  ·exact absurd rfl h1
  simp
 generalize hb':l.headD []=b at *
 have hs:=sum_bd b;have hr:(newDev b).rec_=⟨1,0,false,0,1,⟨1,b.length,sumOn 1 b⟩,Inf.zero⟩:=by
  unfold Dev.rec_ recRead newer newDev;simp[Cop.zero]
 have hrc:recCheck ⟨1,0,false,0,1,⟨1,b.length,sumOn 1 b⟩,Inf.zero⟩=0:=by
  refine recCheck_ok ⟨by simp,by simp,by simp,by simp,by simp,by simp,by simp,by simp⟩ ?_ ?_ ⟨by simp[Rec.at_],by simp,by simp,by simp[Rec.at_]⟩
  ·refine infCheck_ok ⟨by simp,by simp,by simp,by simp;omega,hs.1,hs.2⟩ (fun e=>by simp at e)
  exact infCheck_ok ⟨by simp[Inf.zero],by simp[Inf.zero],by simp[Inf.zero],by simp[Inf.zero],by simp[Inf.zero],by simp[Inf.zero]⟩ (fun _=>⟨rfl,rfl⟩)
 have hc:copCheck (newDev b).c0 (newDev b).c1=0:=by
  show copCheck ⟨true,_⟩ Cop.zero=0;rw[copCheck_3 (by rw[copOne_ok rfl];exact hrc) copOne_zero];simp
 have hd:DevOk (newDev b):=⟨room_len hb,room_len (by simp),hc,fun e=>(by cases e),fun _=>⟨.inl rfl,.inl (by rw[hr];rfl)⟩,fun _=>rfl,fun _ _=>⟨rfl,rfl⟩,fun _ e=>(by cases e)⟩;refine⟨⟨⟨h,hd,by simp,by simp⟩,rfl,by simp,fun c hc=>(by cases hc),by rw[hr];simp,fun k hk hv=>?_,fun e=>(by cases e)⟩,?_⟩
 ·rw[hr]at hv⊢;rcases hk with rfl|rfl
  ·refine⟨⟨by simp[Rec.at_],by simp[Rec.at_];omega⟩,?_,?_⟩
   ·simp[Rec.at_,e1]
   ·simp[Rec.at_,e1,Dev.slot,newDev,room]
  simp[Rec.at_,Inf.zero]at hv
 unfold worNew;rw[if_neg (by simpa using h),hb']
theorem Inv.same{w':Wor}(h:Inv l g w)(ok:WorOk w')(hrel:w'.rel=w.rel)(hnet:∀c∈w'.net,Real l c)(hgot:∀c∈w'.d.got,Real l c){g':Int}(hg:w'.d.rec_.gen<=g')
  (ha:w'.d.rec_.active=w.d.rec_.active) (hat:∀k,w'.d.rec_.at_ k=w.d.rec_.at_ k) (hs:∀k,k=0∨k=1->(w.d.rec_.at_ k).ver≠0->w'.d.slot k=w.d.slot k) (hb:w'.d.busy=true->w.d.busy=true∧w'.d.job=w.d.job):Inv l g' w':=by
 refine⟨ok,hrel.trans h.rel,hnet,hgot,hg,fun k hk hv=>?_,fun e=>?_⟩
 ·rw[hat]at hv⊢;rw[hs k hk hv];exact h.slots k hk hv
 obtain⟨e1,e2⟩:=hb e;have:w'.d.good=w.d.good:=by unfold Dev.good;rw[ha,hat]
 rw[e2,this];exact h.job e1
theorem nextRec_gen(d:Dev)(r:Rec):(nextRec d.c0 d.c1 r).gen=d.rec_.gen+1:=rfl
theorem inv_step{kind n:Int}(h:Inv l g w)(hz:(worHappen w kind n).2=0):Inv l (g+1) (worHappen w kind n).1∧w.d.rec_.floor<=(worHappen w kind n).1.d.rec_.floor:=by
 have hok:=(happen_keeps h.ok hz).1;have hg:=h.gen;unfold worHappen at *
 by_cases k1:kind=1
 ·rw[if_pos k1]at hz hok⊢;obtain⟨p,hp,e⟩:=send_parts hz;rw[e]at hok⊢;obtain⟨gi,_⟩:=h.goodIn;have ht:InRel l n:=by have:=hp.t;rw[h.rel]at this;exact this
  have hm:=(mk_ok h.relOk gi ht).1;have hmk:=hp.made;rw[h.rel,hm]at hmk;injection hmk with hmk;subst hmk;have hc:=(cut_ok (mk_ok h.relOk gi ht).2.1).1;refine⟨h.same hok rfl (fun c hc'=>?_) h.got (by show w.d.rec_.gen<=_;omega) rfl (fun _=>rfl) (fun _ _ _=>rfl) (fun e=>⟨e,rfl⟩),Int.le_refl _⟩;rcases List.mem_append.1 hc' with hc'|hc'
  ·exact h.net c hc'
  rw[hc]at hc';exact real_cut gi ht c hc'
 rw[if_neg k1]at hz hok⊢;by_cases k2:kind=2∨kind=3∨kind=4
 ·rw[if_pos k2]at hz hok⊢;obtain⟨hp,e⟩:=hear_parts hz;rw[e]at hok⊢;have hi:=hp.i;have hnet:∀c∈(if kind≠3 then w.net.eraseIdx n.toNat else w.net),Real l c:=by
   intro c hc;split at hc
   ·exact h.net c (List.mem_of_mem_eraseIdx hc)
   exact h.net c hc
  by_cases e1:kind=4
  ·have hd:(if kind≠4 then (devHear w.d (w.net.getD n.toNat Chk.zero)).1 else w.d)=w.d:=if_neg (by simpa using e1);rw[hd]at hok⊢;exact⟨h.same hok rfl hnet h.got (by show w.d.rec_.gen<=_;omega) rfl (fun _=>rfl) (fun _ _ _=>rfl) (fun e=>⟨e,rfl⟩),Int.le_refl _⟩
  have hd:(if kind≠4 then (devHear w.d (w.net.getD n.toNat Chk.zero)).1 else w.d)=(devHear w.d (w.net.getD n.toNat Chk.zero)).1:=if_pos e1;rw[hd]at hok⊢;obtain⟨_,_,hb,ha,hh,_⟩:=hear_keeps (hp.h e1);rw[hh]at hok⊢;have hc:Real l (w.net.getD n.toNat Chk.zero):=by
   have hlt:n.toNat<w.net.length:=by omega
   rw[List.getD_eq_getElem?_getD,List.getElem?_eq_getElem hlt];exact h.net _ (List.getElem_mem hlt)
  refine⟨h.same hok rfl hnet (fun c hcm=>?_) (by show w.d.rec_.gen<=_;omega) rfl (fun _=>rfl) (fun _ _ _=>rfl) (fun e=>⟨e,rfl⟩),Int.le_refl _⟩;rcases add_mem hcm with rfl|hcm
  ·exact hc
  exact h.got c hcm
 rw[if_neg k2]at hz hok⊢;obtain⟨z1,z2⟩:=worDevice_zero hz;rw[z2]at hok⊢;have hsame:∀(e:Dev),WorOk {w with d:=e}->e.got=[]∨e.got=w.d.got->e.rec_=w.d.rec_->(∀k,k=0∨k=1->(w.d.rec_.at_ k).ver≠0->e.slot k=w.d.slot k)->(e.busy=true->w.d.busy=true∧e.job=w.d.job)->
   Inv l (g+1) {w with d:=e}∧w.d.rec_.floor<=e.rec_.floor:=by
  intro e ok hgot hr hs hb;refine⟨h.same ok rfl h.net (fun c hc=>?_) (by show e.rec_.gen<=_;rw[hr];omega) (by show e.rec_.active=_;rw[hr]) (fun k=>by show e.rec_.at_ k=_;rw[hr]) hs hb,by rw[hr];exact Int.le_refl _⟩;have hc':c∈e.got:=hc;rcases hgot with hg'|hg'
  ·rw[hg']at hc';cases hc'
  rw[hg']at hc';exact h.got c hc'
 have hwrite:∀{torn:Bool} {keep:Int},(devWrite w.d torn keep).2=0->WorOk {w with d:=(devWrite w.d torn keep).1}->Inv l (g+1) {w with d:=(devWrite w.d torn keep).1}∧w.d.rec_.floor<=(devWrite w.d torn keep).1.rec_.floor:=by
  intro torn keep hw ok;obtain⟨p1,p2⟩:=write_parts hw;obtain⟨e1,e2,e3,e4,e5⟩:=wrote_slots p1 torn keep;obtain⟨c1,c2,c3,c4,c5,c6,c7,c8⟩:=wrote_cops w.d torn keep;have hact:=rec_active (rec_ok p1.ok);have hs:∀k,k=0∨k=1->(w.d.rec_.at_ k).ver≠0->(w.d.wrote torn keep).slot k=w.d.slot k:=by
   intro k hk hv;by_cases e:k=w.d.rec_.active
   ·rw[e];exact e2
   have:k=1-w.d.rec_.active:=by omega
   rw[this]at hv;exact absurd p1.work.ot hv
  rw[p2]at ok⊢
  cases torn
  ·exact hsame _ ok (.inr c5) e1 hs (fun e=>⟨p1.busy,c7⟩)
  exact hsame _ ok (.inl rfl) e1 hs (fun e=>(by cases e))
 have hfin:∀{torn:Bool},(devFinish w.d torn).2=0->WorOk {w with d:=(devFinish w.d torn).1}->Inv l (g+1) {w with d:=(devFinish w.d torn).1}∧w.d.rec_.floor<=(devFinish w.d torn).1.rec_.floor:=by
  intro torn hw ok;obtain⟨p1,p2⟩:=finish_parts hw;have hr:=fin_rec p1;rw[p2]at ok⊢
  cases torn
  ·have hact:=rec_active (rec_ok p1.ok);obtain⟨s1,s2,s3,s4,s5,s6⟩:=tryIt_at hact w.d.jobInf;have hr':(w.d.fin false).rec_=nextRec w.d.c0 w.d.c1 (w.d.rec_.tryIt w.d.jobInf):=hr;obtain⟨t,ht,hj⟩:=h.job p1.busy;obtain⟨gi,im⟩:=h.goodIn;obtain⟨m1,m2,m3⟩:=mk_ok h.relOk gi ht;have hnext:(patDo (sumOn 1) w.d.job (w.d.image w.d.rec_.active w.d.rec_)).1=relAt l t:=by rw[im,hj,m3]
   refine⟨⟨ok,h.rel,h.net,fun c hc=>h.got c hc,?_,fun k hk hv=>?_,fun e=>(by cases e)⟩,?_⟩
   ·show (w.d.fin false).rec_.gen<=_;rw[hr',nextRec_gen];omega
   ·have hv':((w.d.fin false).rec_.at_ k).ver≠0:=hv
    show InRel l ((w.d.fin false).rec_.at_ k).ver∧((w.d.fin false).rec_.at_ k).size=(relAt l ((w.d.fin false).rec_.at_ k).ver).length∧(w.d.slot k).take ((w.d.fin false).rec_.at_ k).size.toNat=relAt l ((w.d.fin false).rec_.at_ k).ver;rw[hr',nextRec_at]at hv'⊢;by_cases e:k=w.d.rec_.active
    ·rw[e,s1]at hv'⊢;exact h.slots _ hact hv'
    have e':k=1-w.d.rec_.active:=by omega
    rw[e',s2];have ev:w.d.jobInf.ver=t:=by unfold Dev.jobInf;rw[hj];rfl
    have es:w.d.jobInf.size=(relAt l t).length:=by unfold Dev.jobInf;rw[hj];rfl
    rw[ev,es];refine⟨ht,rfl,?_⟩;have hal:=p1.work.alike;rw[hnext]at hal;have hsz:w.d.job.size=(relAt l t).length:=by rw[hj];rfl
    have hle:(relAt l t).length<=w.d.done.toNat:=by have:=p1.all;omega
    have hle1:=(relAt_len h.relOk ht).1;have:=congrArg (List.take (relAt l t).length) hal;rw[List.take_take,List.take_take,Nat.min_eq_left hle]at this;rw[Int.toNat_natCast,this];unfold room;rw[List.take_append_of_le_length (Nat.le_refl _),List.take_length]
   show _<=(w.d.fin false).rec_.floor;rw[hr']
   show _<=(w.d.rec_.tryIt w.d.jobInf).floor;rw[s4];exact Int.le_refl _
  exact hsame _ ok (.inl rfl) hr (fun _ _ _=>rfl) (fun e=>(by cases e))
 unfold devAct at z1 hok⊢;by_cases e1:kind=5
 ·rw[if_pos e1]at z1 hok⊢;have o:=open_parts z1;obtain⟨r1,r2,r3,r4,r5,r6,r7,r8,r9⟩:=opened_rec o;have hact:=rec_active (rec_ok o.ok);obtain⟨s1,s2,s3,s4,s5,s6⟩:=setOther_at hact Inf.zero;obtain⟨f,t,hf,ht,hj⟩:=join_real h.relOk h.got o.joined;have hgood:(devOpen w.d).1.good=w.d.good:=by
   unfold Dev.good;rw[r1,nextRec_at]
   show ((w.d.rec_.setOther Inf.zero).at_ (w.d.rec_.setOther Inf.zero).active).ver=_;rw[s3,s1]
  refine⟨⟨hok,h.rel,h.net,fun c hc=>?_,?_,fun k hk hv=>?_,fun _=>⟨t,ht,?_⟩⟩,?_⟩
  ·have hc':c∈(devOpen w.d).1.got:=hc;rw[r6]at hc';cases hc'
  ·show (devOpen w.d).1.rec_.gen<=_;rw[r1,nextRec_gen];omega
  ·have hv':((devOpen w.d).1.rec_.at_ k).ver≠0:=hv;have hslot:(devOpen w.d).1.slot k=w.d.slot k:=by unfold Dev.slot;rw[r2,r3]
   show InRel l ((devOpen w.d).1.rec_.at_ k).ver∧((devOpen w.d).1.rec_.at_ k).size=(relAt l ((devOpen w.d).1.rec_.at_ k).ver).length∧((devOpen w.d).1.slot k).take ((devOpen w.d).1.rec_.at_ k).size.toNat=relAt l ((devOpen w.d).1.rec_.at_ k).ver;rw[hslot];rw[r1,nextRec_at]at hv'⊢;by_cases e:k=w.d.rec_.active
   ·rw[e,s1]at hv'⊢;exact h.slots _ hact hv'
   have e':k=1-w.d.rec_.active:=by omega
   rw[e',s2]at hv';exact absurd rfl hv'
  ·show (devOpen w.d).1.job=mk l (devOpen w.d).1.good t;rw[r9,hj,hgood];have:=o.fits.1;rw[hj]at this;have this':f=w.d.good:=this;rw[this']
  show _<=(devOpen w.d).1.rec_.floor;rw[r1]
  show _<=(w.d.rec_.setOther Inf.zero).floor;rw[s4];exact Int.le_refl _
 rw[if_neg e1]at z1 hok⊢;by_cases e2:kind=6
 ·rw[if_pos e2]at z1 hok⊢;exact hwrite z1 hok
 rw[if_neg e2]at z1 hok⊢;by_cases e3:kind=7
 ·rw[if_pos e3]at z1 hok⊢;exact hfin z1 hok
 rw[if_neg e3]at z1 hok⊢;by_cases e4:kind=8
 ·rw[if_pos e4]at z1 hok⊢;obtain⟨p1,p2⟩:=confirm_parts z1;obtain⟨_,hr,hb⟩:=confirm_ok_dev z1;have hat:∀k,(devConfirm w.d).1.rec_.at_ k=w.d.rec_.at_ k:=fun k=>by rw[hr];rfl
  refine⟨⟨hok,h.rel,h.net,fun c hc=>?_,?_,fun k hk hv=>?_,fun e=>?_⟩,?_⟩
  ·have hc':c∈(devConfirm w.d).1.got:=hc;rw[p2]at hc';exact h.got c hc'
  ·show (devConfirm w.d).1.rec_.gen<=_;rw[hr,nextRec_gen];omega
  ·have hv':((devConfirm w.d).1.rec_.at_ k).ver≠0:=hv;have hslot:(devConfirm w.d).1.slot k=w.d.slot k:=by rw[p2];rfl
   show InRel l ((devConfirm w.d).1.rec_.at_ k).ver∧((devConfirm w.d).1.rec_.at_ k).size=(relAt l ((devConfirm w.d).1.rec_.at_ k).ver).length∧((devConfirm w.d).1.slot k).take ((devConfirm w.d).1.rec_.at_ k).size.toNat=relAt l ((devConfirm w.d).1.rec_.at_ k).ver;rw[hslot];rw[hat]at hv'⊢;exact h.slots k hk hv'
  ·have e':(devConfirm w.d).1.busy=true:=e;rw[p2]at e';have e'':w.d.busy=true:=e';rw[hb]at e'';cases e''
  show _<=(devConfirm w.d).1.rec_.floor;rw[hr];exact(done_ok (rec_ok p1.ok) p1.trying).2.2.1
 rw[if_neg e4]at z1 hok⊢;by_cases e5:kind=9
 ·rw[if_pos e5]at z1 hok⊢;obtain⟨_,_,p1,_⟩:=crash_parts z1;rw[p1]at hok⊢;exact hsame _ hok (.inl rfl) rfl (fun _ _ _=>rfl) (fun e=>(by cases e))
 rw[if_neg e5]at z1 hok⊢;by_cases e6:kind=10
 ·rw[if_pos e6]at z1 hok⊢;obtain⟨b,p1⟩:=boot_parts z1;rw[p1]at hok⊢;obtain⟨q1,q2,q3,q4,q5,q6,q7,q8,q9,q10⟩:=boots_rec b;obtain⟨a1,a2,a3,a4,a5⟩:=boots_at b;refine⟨h.same hok rfl h.net (fun c hc=>?_) (g':=g+1) ?_ a1 a3 (fun k _ _=>?_) (fun e=>?_),?_⟩
  ·have hc':c∈w.d.boots.got:=hc;rw[q5]at hc';cases hc'
  ·show w.d.boots.rec_.gen<=_;rcases q10 with ⟨_,e⟩|⟨_,e⟩
   ·rw[e];omega
   rw[e,nextRec_gen];omega
  ·show w.d.boots.slot k=_;unfold Dev.slot;rw[q1,q2]
  ·have e':w.d.boots.busy=true:=e;rw[q6]at e';cases e'
  show _<=w.d.boots.rec_.floor;rw[a2];exact Int.le_refl _
 rw[if_neg e6]at z1 hok⊢;by_cases e7:kind=11
 ·rw[if_pos e7]at z1 hok⊢;exact hwrite z1 hok
 rw[if_neg e7]at z1 hok⊢;by_cases e8:kind=12
 ·rw[if_pos e8]at z1 hok⊢;exact hfin z1 hok
 rw[if_neg e8]at z1;simp at z1
end Go.Proofs.Ytefkfglkpebbmac
