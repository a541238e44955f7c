/- Walks of functions, and plain words. No conditions. -/
import Derived.Test.YtefkfglkpebbmacP0
set_option linter.unusedVariables false
set_option linter.unusedSimpArgs false
set_option maxRecDepth 100000
set_option maxHeartbeats 40000000
namespace Go.Proofs.Ytefkfglkpebbmac
open Go.RowKit
variable {Y:Prop}
theorem x06d(h:Y:=by
 rw[hdst]at ht
 cases e:ds[i]? with
 |none=>rw[e]at ht;cases ht
 |some y=>rw[e]at ht;have hy:y=some t:=ht;rw[hy]):Y:=h
theorem x0nj(h:Y:=by
 intro j o hj hdj d hdm;by_cases e:d=i
 ·simp[e]
 simp only[e,if_false];by_cases e1:j=i
 ·subst e1;have:o=l[j]:=by rw[List.getElem?_eq_getElem hil]at hj;injection hj with hj;exact hj.symm
  subst this;exact hwait d hdm
 simp only[e1,if_false]at hdj;exact hcl j o hj hdj d hdm):Y:=h
theorem x2dp(h:Y:=by
 unfold dstOf at ht;obtain⟨oi,hoi,_⟩:=Option.bind_eq_some_iff.1 ht;simpa using (Array.getElem?_eq_some_iff.1 hoi).1):Y:=h
theorem x4n2(h:Y:=by
 subst e;rw[hdi]at hj1;rw[hj1]
 show (a.tmps.setIfInBounds t v)[t]?=_;rw[set_same (by rw[hst.size];exact dst_lt hd (hdi.trans hj1)),hv]):Y:=h
theorem x5zb(h:Y:=by
 have hil:i<l.length:=by rw[hsz];exact(List.getElem?_eq_some_iff.1 ht).1
 simp[hil]at hi):Y:=h
theorem x7pd(h:Y:=by
 rw[hmv]
 cases h:l[i].dst with
 |none=>exact hold
 |some d=>
  have hne:d≠t:=by
   rintro rfl;rw[h]at hdi;exact e (dst_inj hd hj1 hdi)
  show (a.tmps.setIfInBounds d v)[t]?=_;rw[set_ne hne];exact hold):Y:=h
theorem x8ne(h:Y:=by
 intro i hi d hd;unfold waitsOk at hw;have h1:=List.all_eq_true.1 (List.all_eq_true.1 hw i hi) d hd;have:i<l.toArray.size:=by simpa using hi
 simp at h1 this⊢;omega):Y:=h
def mixV(ks:List (Option Nat))(vs:List Value)(cv:Nat->Value)(i:Nat):Value:=match ks[i]? with
 |some (some _)=>cv i
 |_=>vs.getD i undef
structure MixSt(ds:List (Option Tmp))(ks:List (Option Nat))(vs:List Value)(a0:Act)(done:Nat->Bool)(cv:Nat->Value)(k:Nat)(a:Act):Prop where
 size:a.tmps.size=a0.tmps.size
 defers:a.defers=a0.defers
 old:∀t,ds.contains (some t)=false->a.tmps[t]?=a0.tmps[t]?
 new:∀(i:Nat) t,done i=true->ds[i]?=some (some t)->a.tmps[t]?=some (mixV ks vs cv i)
 cnt:∀i j,ks[i]?=some (some j)->(done i=true↔j<k)
def mixOk(ks:List (Option Nat))(l:List Oper):Bool:=(ks.filterMap id).Nodup&&(l.zip ks).all fun p=>match p.2 with
 |some (j+1)=>(waitsO p.1).any fun q=>ks[q]?==some (some j)
 |_=>true
theorem nodup_pos:∀(ks:List (Option Nat)),(ks.filterMap id).Nodup->∀(i j k:Nat),ks[i]?=some (some k)->ks[j]?=some (some k)->i=j
 |[],_,i,_,_,h,_=>by simp at h
 |x::ks,h,i,j,k,hi,hj=>by
  have mem:∀n,ks[n]?=some (some k)->k∈ks.filterMap id:=fun n e=>List.mem_filterMap.2 ⟨some k,List.mem_of_getElem? e,rfl⟩
  match i,j with
  |0,0=>rfl
  |0,j+1=>
   have e:x=some k:=by simpa using hi
   subst e;rw[List.filterMap_cons]at h;exact absurd (mem j (by simpa using hj)) (List.nodup_cons.1 h).1
  |i+1,0=>
   have e:x=some k:=by simpa using hj
   subst e;rw[List.filterMap_cons]at h;exact absurd (mem i (by simpa using hi)) (List.nodup_cons.1 h).1
  |i+1,j+1=>
   have h':(ks.filterMap id).Nodup:=by
    rw[List.filterMap_cons]at h;split at h
    ·exact h
    exact(List.nodup_cons.1 h).2
   have:=nodup_pos ks h' i j k (by simpa using hi) (by simpa using hj);omega
section
variable {P:Program} {Q:Exit->Act->World->Prop}
def MixStep(P:Program)(l0:List Oper)(Q:Exit->Act->World->Prop)(ds:List (Option Tmp))(ks:List (Option Nat))(vs:List Value)(a0:Act)(J:Nat->(Nat->Value)->World->Prop)(i:Nat)(o:Oper):Option Nat->Value->Prop
 |none,v=>∀(done:Nat->Bool) (cv:Nat->Value) (k:Nat) (a:Act) (w:World),(∀d∈waitsO o,done d=true)->MixSt ds ks vs a0 done cv k a->J k cv w->(∀(i':Nat) o' j,l0[i']?=some o'->ks[i']?=some (some j)->i∈waitsO o'->k<=j)->(execOp a.eval o).run P w=.ok (.value v) w
 |some k,_=>∀(done:Nat->Bool) (cv:Nat->Value) (a:Act) (w:World),(∀d∈waitsO o,done d=true)->MixSt ds ks vs a0 done cv k a->J k cv w->
  o.wp P a w (fun a' w'=>∃v,a'=a.put o.dst v∧J (k+1) (fun j=>if j=i then v else cv j) w') Q
def MixSteps(P:Program)(l0:List Oper)(Q:Exit->Act->World->Prop)(ds:List (Option Tmp))(ks0:List (Option Nat))(vs0:List Value)(a0:Act)(J:Nat->(Nat->Value)->World->Prop):Nat->List Oper->List (Option Nat)->List Value->Prop
 |_,[],_,_=>True
 |i,o::l,x::ks,v::vs=>MixStep P l0 Q ds ks0 vs0 a0 J i o x v∧MixSteps P l0 Q ds ks0 vs0 a0 J (i+1) l ks vs
 |_,_::_,_,_=>False
theorem mix_at{l0:List Oper}{ds:List (Option Tmp)}{ks0:List (Option Nat)}{vs0:List Value}{a0:Act}{J:Nat->(Nat->Value)->World->Prop}:∀(l:List Oper) (ks:List (Option Nat)) (vs:List Value) (n:Nat),MixSteps P l0 Q ds ks0 vs0 a0 J n l ks vs->
  ∀(i:Nat) o,l[i]?=some o->∃x,ks[i]?=some x∧MixStep P l0 Q ds ks0 vs0 a0 J (n+i) o x (vs.getD i undef)
 |[],_,_,_,_,i,o,h=>by simp at h
 |o::l,[],_,_,h,_,_,_=>h.elim
 |o::l,x::ks,[],_,h,_,_,_=>h.elim
 |o::l,x::ks,v::vs,n,h,i,o',e=>by
  obtain⟨h1,h2⟩:=h
  match i with
  |0=>
   have e':o=o':=by simpa using e
   subst e';exact⟨x,rfl,h1⟩
  |i+1=>
   obtain⟨y,e1,e2⟩:=mix_at l ks vs (n+1) h2 i o' (by simpa using e);exact⟨y,by simpa using e1,by rw[show n+(i+1)=n+1+i by omega];simpa using e2⟩
def mixAll(ks:List (Option Nat))(cv:Nat->Value):Nat->List Value->List Value
 |_,[]=>[]
 |i,v::vs=>(match ks[i]? with|some (some _)=>cv i|_=>v)::mixAll ks cv (i+1) vs
theorem mixAll_len(ks:List (Option Nat))(cv:Nat->Value):∀(n:Nat) (vs:List Value),(mixAll ks cv n vs).length=vs.length
 |_,[]=>rfl
 |n,v::vs=>by simp[mixAll,mixAll_len ks cv (n+1) vs]
theorem mixAll_at(ks:List (Option Nat))(cv:Nat->Value):∀(vs:List Value) (n i:Nat),i<vs.length->(mixAll ks cv n vs).getD i undef=(match ks[n+i]? with|some (some _)=>cv (n+i)|_=>vs.getD i undef)
 |[],_,_,h=>by simp at h
 |v::vs,n,0,_=>by simp[mixAll]
 |v::vs,n,i+1,h=>by
  have:=mixAll_at ks cv vs (n+1) i (by simpa using h);simp only[mixAll,List.getD_cons_succ];rw[this,show n+1+i=n+(i+1) by omega]
theorem wp_region_mix{id:Nat}{l:List Oper}{a0:Act}{w0:World}(hm:P.follows .mixedOrders=true)(ds:List (Option Tmp))(ks:List (Option Nat))(vs:List Value)(m:Nat)(J:Nat->(Nat->Value)->World->Prop)(n:Nat)(hn:a0.tmps.size=n)
  (hds:l.map (·.dst)=ds) (hd:dstsOk l.toArray n=true) (hw:waitsOk l.toArray=true) (hg:l.all (·.guard.isNone)=true) (hk:mixOk ks l=true) (hlen:ds.length=vs.length) (hlk:ds.length=ks.length) (hkm:ks.all (fun x=>match x with|some j=>decide (j<m)|none=>true)=true) (hmk:(List.range m).all (fun j=>ks.contains (some j))=true)
  (h0:J 0 (fun _=>undef) w0.drew) (steps:MixSteps P l Q ds ks vs a0 J 0 l ks vs)
  (hQ:∀(cv:Nat->Value) (w:World),J m cv w->Q .normal {tmps:=putAll ds (mixAll ks cv 0 vs) a0.tmps,defers:=a0.defers} w):(Code.region id l.toArray true).wp P Q a0 w0:=by
 rw[<-hn]at hd;have hdst:∀i,dstOf l.toArray i=(ds[i]?).bind (fun x=>x):=by
  exact x0im
 have hsz:l.length=ds.length:=by rw[<-hds];simp
 unfold mixOk at hk;simp only[Bool.and_eq_true,decide_eq_true_eq]at hk;obtain⟨hk1,hk2⟩:=hk;have hac:∀i∈List.range l.toArray.size,∀d∈waits .any l.toArray i,d<i∧d<l.toArray.size:=by
  exact x8ne
 refine wp_region_held (S:=fun _=>True) hm ?_;refine wpAnyH_inv (P:=P) (md:=.any) (ops:=l.toArray) (Q:=Q) (S:=fun _=>True) (fun done a w=>(∀(i:Nat) o,l[i]?=some o->done i=true->∀d∈waitsO o,done d=true)∧∃cv k,k<=m∧MixSt ds ks vs a0 done cv k a∧J k cv w) (List.range l.toArray.size) (fun i hi=>by simpa using hi) hac ?_ ?_ (fun _ _ _ _=>trivial) l.toArray.size _ a0 _ (by simp) (fun j hj hn=>absurd (by simpa using hj) hn) ?_ ?_
 ·rintro i hi done a w hdone hwait ⟨hcl,cv,k,hkm',hst,hJ⟩;have hil:i<l.length:=by simpa using hi
  have ho:l.toArray[i]?=some l[i]:=by simp[hil]
  rw[waits_eq _ _ _ ho]at hwait;have hgn:l[i].guard=none:=by
   have:=List.all_eq_true.1 hg l[i] (List.getElem_mem hil);simpa using this
  have hdi:dstOf l.toArray i=l[i].dst:=by unfold dstOf;rw[ho];rfl
  obtain⟨x,hx,hstep⟩:=mix_at l ks vs 0 steps i l[i] (by simp[hil]);rw[Nat.zero_add]at hstep
  -- the state behind it
  have next:∀(v:Value) (cv':Nat->Value) (k':Nat),(∀j,j≠i->cv' j=cv j)->v=mixV ks vs cv' i->(∀j q,ks[j]?=some (some q)->((if j=i then true else done j)=true↔q<k'))->MixSt ds ks vs a0 (fun j=>if j=i then true else done j) cv' k' (a.put l[i].dst v):=by
   intro v cv' k' hcv hv hc;refine⟨?_,?_,fun t ht=>?_,fun j t hj ht=>?_,hc⟩
   ·cases h:l[i].dst<;>simp[Act.put,hst.size]
   ·cases h:l[i].dst<;>simp[Act.put,hst.defers]
   ·cases h:l[i].dst with
    |none=>exact hst.old t ht
    |some d=>
     have hne:d≠t:=by
      rintro rfl;rw[h]at hdi;rw[hdst]at hdi
      cases e:ds[i]? with
      |none=>rw[e]at hdi;cases hdi
      |some y=>
       rw[e]at hdi;have hy:y=some d:=hdi;subst hy;rw[List.contains_iff_mem.2 (List.mem_of_getElem? e)]at ht;cases ht
     show (a.tmps.setIfInBounds d v)[t]?=_;rw[set_ne hne];exact hst.old t ht
   have hj1:dstOf l.toArray j=some t:=by rw[hdst,ht];rfl
   by_cases e:j=i
   ·exact x4n2
   have hj':done j=true:=by simpa[e]using hj
   have hold:=hst.new j t hj' ht;have hmv:mixV ks vs cv' j=mixV ks vs cv j:=by unfold mixV;rw[hcv j e]
   exact x7pd
  have hcl':∀(j:Nat) o,l[j]?=some o->(if j=i then true else done j)=true->∀d∈waitsO o,(if d=i then true else done d)=true:=by
   exact x0nj
  cases x with
  |none=>
   have hr:=hstep done cv k a w hwait hst hJ (fun i' o' j h1 h2 h3=>by
    rcases Nat.lt_or_ge j k with h|h
    ·have:=hcl i' o' h1 ((hst.cnt i' j h2).2 h) i h3;rw[hdone]at this;cases this
    exact h)
   refine wpOp_do ho hgn ?_;unfold Oper.wp;rw[hr];refine⟨hcl',cv,k,hkm',next _ cv k (fun _ _=>rfl) (by unfold mixV;rw[hx]) (fun j q hj=>?_),hJ⟩;have hne:j≠i:=by rintro rfl;rw[hx]at hj;cases hj
   simp only[hne,if_false];exact hst.cnt j q hj
  |some q=>
   have h1:¬q<k:=fun h=>by
    have:=(hst.cnt i q hx).2 h;rw[hdone]at this;cases this
   have h2:q<=k:=by
    cases q with
    |zero=>omega
    |succ q=>
     have hz:=List.all_eq_true.1 hk2 (l[i],some (q+1)) (by
      rw[List.mem_iff_getElem?];exact⟨i,by rw[List.getElem?_zip_eq_some];exact⟨by simp[hil],hx⟩⟩)
     obtain⟨p,hp,he⟩:=List.any_eq_true.1 hz;have:=(hst.cnt p q (by simpa using he)).1 (hwait p hp);omega
   obtain rfl:q=k:=by omega
   have hqm:q<m:=by
    have:=List.all_eq_true.1 hkm (some q) (List.mem_of_getElem? hx);simpa using this
   have hr:=hstep done cv a w hwait hst hJ;refine wpOp_do ho hgn (Oper.wp_mono ?_ hr);rintro a' w' ⟨v,rfl,hJ'⟩;refine⟨hcl',_,q+1,by omega,next v _ (q+1) (fun j hj=>by simp[hj]) (by unfold mixV;rw[hx];simp) (fun j r hj=>?_),hJ'⟩;by_cases e:j=i
   ·subst e;rw[hx]at hj;injection hj with hj;injection hj with hj;simp;omega
   simp only[e,if_false];rw[hst.cnt j r hj];have:r≠q:=fun h=>by subst h;exact e (nodup_pos ks hk1 _ _ _ hj hx)
   omega
 ·rintro done a w hall ⟨_,cv,k,hkm',hst,hJ⟩;have hkm1:k=m:=by
   rcases Nat.lt_or_ge k m with h|h
   ·have hc:=List.all_eq_true.1 hmk k (by simpa using h);obtain⟨j,hj⟩:=List.mem_iff_getElem?.1 (List.contains_iff_mem.1 hc);have hjl:j<l.length:=by rw[hsz,hlk];exact(List.getElem?_eq_some_iff.1 hj).1
    have:=(hst.cnt j k hj).1 (hall j (by simpa using hjl));omega
   omega
  subst hkm1;have e:a={tmps:=putAll ds (mixAll ks cv 0 vs) a0.tmps,defers:=a0.defers}:=by
   have hreg:RegSt l.toArray ((mixAll ks cv 0 vs).getD · undef) a0 w (fun j=>if j<l.length then true else false) a w:=by
    refine⟨hst.size,hst.defers,fun t ht=>hst.old t ?_,fun i t hi ht=>?_,Below.refl _ _⟩
    ·cases hc:ds.contains (some t)with
     |false=>rfl
     |true=>
      obtain⟨j,hj⟩:=List.mem_iff_getElem?.1 (List.contains_iff_mem.1 hc);exact absurd (by rw[hdst,hj];rfl) (ht j)
    have hil:i<l.length:=by
     rcases Nat.lt_or_ge i l.length with h|h
     ·exact h
     simp[Nat.not_lt.2 h]at hi
    have ht':ds[i]?=some (some t):=by
     exact x06d
    rw[hst.new i t (hall i (by simpa using hil)) ht'];have:=mixAll_at ks cv vs 0 i (by omega);rw[Nat.zero_add]at this
    show some (mixV ks vs cv i)=some ((mixAll ks cv 0 vs).getD i undef);rw[this];rfl
   have hreg1:RegSt l.toArray ((mixAll ks cv 0 vs).getD · undef) a0 w (fun _=>true) a w:=by
    refine⟨hreg.size,hreg.defers,hreg.old,fun i t _ ht=>?_,hreg.bel⟩;have hi:i<l.length:=by
     exact x2dp
    exact hreg.new i t (by simp[hi]) ht
   have e:=hreg1.end_ hd;have hml:=mixAll_len ks cv 0 vs;have hp:=putAll_range l.toArray (mixAll ks cv 0 vs) ds (mixAll ks cv 0 vs) 0 a0.tmps (by rw[hml];exact hlen) (fun i=>by rw[Nat.zero_add];exact hdst i) (fun i _=>by rw[Nat.zero_add]);have hl:ds.length=l.toArray.size:=by rw[<-hds];simp
   rw[hl,<-List.range_eq_range']at hp;have e1:regEnd l.toArray ((mixAll ks cv 0 vs).getD · undef) a0={tmps:=putAll ds (mixAll ks cv 0 vs) a0.tmps,defers:=a0.defers}:=by
    rw[<-hp];rfl
   rw[e,e1]
  rw[e];exact hQ cv w hJ
 ·exact x7q7
 refine⟨fun i o ho hi=>?_,fun _=>undef,0,Nat.zero_le _,⟨rfl,rfl,fun _ _=>rfl,fun i t hi ht=>?_,fun i j hj=>?_⟩,h0⟩
 ·have hil:i<l.length:=(List.getElem?_eq_some_iff.1 ho).1;simp[hil]at hi
 ·exact x5zb
 have hil:i<l.length:=by rw[hsz,hlk];exact(List.getElem?_eq_some_iff.1 hj).1
 simp[hil]
/-! Readings of operands. -/
theorem mx_new{ds:List (Option Tmp)}{ks:List (Option Nat)}{vs:List Value}{a0:Act}{done:Nat->Bool}{cv:Nat->Value}{k:Nat}{a:Act}(h:MixSt ds ks vs a0 done cv k a){i:Nat}{t:Tmp}{v:Value}(hi:done i=true)(hd:ds[i]?=some (some t))(hk:ks[i]?=some none)(hv:vs[i]?=some v):a.tmps[t]?=some v:=by
 rw[h.new i t hi hd];unfold mixV;rw[hk,List.getD_eq_getElem?_getD,hv];rfl
theorem mx_cv{ds:List (Option Tmp)}{ks:List (Option Nat)}{vs:List Value}{a0:Act}{done:Nat->Bool}{cv:Nat->Value}{k:Nat}{a:Act}(h:MixSt ds ks vs a0 done cv k a){i j:Nat}{t:Tmp}(hi:done i=true)(hd:ds[i]?=some (some t))(hk:ks[i]?=some (some j)):a.tmps[t]?=some (cv i):=by
 rw[h.new i t hi hd];unfold mixV;rw[hk]
theorem mx_old{ds:List (Option Tmp)}{ks:List (Option Nat)}{vs:List Value}{a0:Act}{done:Nat->Bool}{cv:Nat->Value}{k:Nat}{a:Act}(h:MixSt ds ks vs a0 done cv k a){t:Tmp}{v:Value}(hd:ds.contains (some t)=false)(hv:a0.tmps[t]?=some v):a.tmps[t]?=some v:=(h.old t hd).trans hv
section
variable {a:Act} {w:World} {x:Operand} {v:Value} {d:Option Tmp} {t:TypeId} {p:String} {af:Array Edge} {g:Option (Nat×Bool)}
theorem mx_move(e:a.eval x=v):(execOp a.eval ⟨d,.move x,t,p,af,g⟩).run P w=.ok (.value v) w:=by simp[execOp,e]
theorem mx_assign(e:a.eval x=v):(execOp a.eval ⟨d,.assign x,t,p,af,g⟩).run P w=.ok (.value v) w:=by simp[execOp,e]
end
end
def freeV(es:List Bool)(vs:List Value)(cv:Nat->Value)(i:Nat):Value:=if es.getD i false=true then cv i else vs.getD i undef
structure FreeSt(ds:List (Option Tmp))(es:List Bool)(vs:List Value)(a0:Act)(done:Nat->Bool)(cv:Nat->Value)(a:Act):Prop where
 size:a.tmps.size=a0.tmps.size
 defers:a.defers=a0.defers
 old:∀t,(∀i,ds[i]?=some (some t)->done i=false)->a.tmps[t]?=a0.tmps[t]?
 new:∀(i:Nat) t,done i=true->ds[i]?=some (some t)->a.tmps[t]?=some (freeV es vs cv i)
def maskB(es:List Bool)(done:Nat->Bool):Nat->Bool:=fun j=>es.getD j false&&done j
theorem maskB_off{es:List Bool}{done:Nat->Bool}{i:Nat}(h:es.getD i false=false):maskB es (fun j=>if j=i then true else done j)=maskB es done:=by
 funext j
 unfold maskB;by_cases e:j=i
 ·subst e;simp only[h,Bool.false_and]
 simp only[e,if_false]
theorem maskB_on{es:List Bool}{done:Nat->Bool}{i:Nat}(h:es.getD i false=true):maskB es (fun j=>if j=i then true else done j)=fun j=>if j=i then true else maskB es done j:=by
 funext j
 unfold maskB;by_cases e:j=i
 ·subst e;simp only[h,if_true,Bool.true_and]
 simp only[e,if_false]
def freeAll(es:List Bool)(cv:Nat->Value):Nat->List Value->List Value
 |_,[]=>[]
 |i,v::vs=>(if es.getD i false=true then cv i else v)::freeAll es cv (i+1) vs
theorem freeAll_len(es:List Bool)(cv:Nat->Value):∀(n:Nat) (vs:List Value),(freeAll es cv n vs).length=vs.length
 |_,[]=>rfl
 |n,v::vs=>by simp[freeAll,freeAll_len es cv (n+1) vs]
theorem freeAll_at(es:List Bool)(cv:Nat->Value):∀(vs:List Value) (n i:Nat),i<vs.length->(freeAll es cv n vs).getD i undef=(if es.getD (n+i) false=true then cv (n+i)else vs.getD i undef)
 |[],_,_,h=>by simp at h
 |v::vs,n,0,_=>by simp[freeAll]
 |v::vs,n,i+1,h=>by
  have:=freeAll_at es cv vs (n+1) i (by simpa using h);simp only[freeAll,List.getD_cons_succ];rw[this,show n+1+i=n+(i+1) by omega]
section
variable {P:Program} {Q:Exit->Act->World->Prop}
def ClosedB(l:List Oper)(done:Nat->Bool):Prop:=∀(i:Nat) o,l[i]?=some o->done i=true->∀d∈waitsO o,done d=true
def FreeStep(P:Program)(l0:List Oper)(Q:Exit->Act->World->Prop)(ds:List (Option Tmp))(es:List Bool)(vs:List Value)(a0:Act)(J:(Nat->Bool)->(Nat->Value)->World->Prop)(i:Nat)(o:Oper):Bool->Value->Prop
 |false,v=>∀(done:Nat->Bool) (cv:Nat->Value) (a:Act) (w:World),done i=false->(∀d∈waitsO o,done d=true)->ClosedB l0 done->FreeSt ds es vs a0 done cv a->J (maskB es done) cv w->(execOp a.eval o).run P w=.ok (.value v) w
 |true,_=>∀(done:Nat->Bool) (cv:Nat->Value) (a:Act) (w:World),done i=false->(∀d∈waitsO o,done d=true)->ClosedB l0 done->FreeSt ds es vs a0 done cv a->J (maskB es done) cv w->
  o.wp P a w (fun a' w'=>∃v,a'=a.put o.dst v∧J (fun j=>if j=i then true else maskB es done j) (fun j=>if j=i then v else cv j) w') Q
def FreeSteps(P:Program)(l0:List Oper)(Q:Exit->Act->World->Prop)(ds:List (Option Tmp))(es0:List Bool)(vs0:List Value)(a0:Act)(J:(Nat->Bool)->(Nat->Value)->World->Prop):Nat->List Oper->List Bool->List Value->Prop
 |_,[],_,_=>True
 |i,o::l,x::es,v::vs=>FreeStep P l0 Q ds es0 vs0 a0 J i o x v∧FreeSteps P l0 Q ds es0 vs0 a0 J (i+1) l es vs
 |_,_::_,_,_=>False
theorem free_at{l0:List Oper}{ds:List (Option Tmp)}{es0:List Bool}{vs0:List Value}{a0:Act}{J:(Nat->Bool)->(Nat->Value)->World->Prop}:∀(l:List Oper) (es:List Bool) (vs:List Value) (n:Nat),FreeSteps P l0 Q ds es0 vs0 a0 J n l es vs->
  ∀(i:Nat) o,l[i]?=some o->∃x,es[i]?=some x∧FreeStep P l0 Q ds es0 vs0 a0 J (n+i) o x (vs.getD i undef)
 |[],_,_,_,_,i,o,h=>by simp at h
 |o::l,[],_,_,h,_,_,_=>h.elim
 |o::l,x::es,[],_,h,_,_,_=>h.elim
 |o::l,x::es,v::vs,n,h,i,o',e=>by
  obtain⟨h1,h2⟩:=h
  match i with
  |0=>
   have e':o=o':=by simpa using e
   subst e';exact⟨x,rfl,h1⟩
  |i+1=>
   obtain⟨y,e1,e2⟩:=free_at l es vs (n+1) h2 i o' (by simpa using e);exact⟨y,by simpa using e1,by rw[show n+(i+1)=n+1+i by omega];simpa using e2⟩
theorem wp_region_free{id:Nat}{l:List Oper}{a0:Act}{w0:World}(hm:P.follows .mixedOrders=true)(ds:List (Option Tmp))(es:List Bool)(vs:List Value)(J:(Nat->Bool)->(Nat->Value)->World->Prop)(n:Nat)(hn:a0.tmps.size=n)
  (hds:l.map (·.dst)=ds) (hd:dstsOk l.toArray n=true) (hw:waitsOk l.toArray=true) (hg:l.all (·.guard.isNone)=true) (hlen:ds.length=vs.length) (hle:ds.length=es.length)
  (h0:J (fun _=>false) (fun _=>undef) w0.drew) (steps:FreeSteps P l Q ds es vs a0 J 0 l es vs)
  (hQ:∀(d:Nat->Bool) (cv:Nat->Value) (w:World),(∀i,es.getD i false=true->i<l.length->d i=true)->J d cv w->Q .normal {tmps:=putAll ds (freeAll es cv 0 vs) a0.tmps,defers:=a0.defers} w):(Code.region id l.toArray true).wp P Q a0 w0:=by
 rw[<-hn]at hd;have hdst:∀i,dstOf l.toArray i=(ds[i]?).bind (fun x=>x):=by
  exact x0im
 have hsz:l.length=ds.length:=by rw[<-hds];simp
 have hac:∀i∈List.range l.toArray.size,∀d∈waits .any l.toArray i,d<i∧d<l.toArray.size:=by
  exact x8ne
 refine wp_region_held (S:=fun _=>True) hm ?_;refine wpAnyH_inv (P:=P) (md:=.any) (ops:=l.toArray) (Q:=Q) (S:=fun _=>True) (fun done a w=>ClosedB l done∧∃cv,FreeSt ds es vs a0 done cv a∧J (maskB es done) cv w) (List.range l.toArray.size) (fun i hi=>by simpa using hi) hac ?_ ?_ (fun _ _ _ _=>trivial) l.toArray.size _ a0 _ (by simp) (fun j hj hn=>absurd (by simpa using hj) hn) ?_ ?_
 ·rintro i hi done a w hdone hwait ⟨hcl,cv,hst,hJ⟩;have hil:i<l.length:=by simpa using hi
  have ho:l.toArray[i]?=some l[i]:=by simp[hil]
  rw[waits_eq _ _ _ ho]at hwait;have hgn:l[i].guard=none:=by
   have:=List.all_eq_true.1 hg l[i] (List.getElem_mem hil);simpa using this
  have hdi:dstOf l.toArray i=l[i].dst:=by unfold dstOf;rw[ho];rfl
  obtain⟨x,hx,hstep⟩:=free_at l es vs 0 steps i l[i] (by simp[hil]);rw[Nat.zero_add]at hstep;have hxD:es.getD i false=x:=by rw[List.getD_eq_getElem?_getD,hx];rfl
  have next:∀(v:Value) (cv':Nat->Value),(∀j,j≠i->cv' j=cv j)->v=freeV es vs cv' i->FreeSt ds es vs a0 (fun j=>if j=i then true else done j) cv' (a.put l[i].dst v):=by
   intro v cv' hcv hv;refine⟨?_,?_,fun t ht=>?_,fun j t hj ht=>?_⟩
   ·cases h:l[i].dst<;>simp[Act.put,hst.size]
   ·cases h:l[i].dst<;>simp[Act.put,hst.defers]
   ·have ht':∀j,ds[j]?=some (some t)->done j=false:=fun j hj=>by
     have:=ht j hj;by_cases e:j=i
     ·simp[e]at this
     simpa[e]using this
    cases h:l[i].dst with
    |none=>exact hst.old t ht'
    |some d=>
     have hne:d≠t:=by
      rintro rfl;rw[h]at hdi;rw[hdst]at hdi
      cases e:ds[i]? with
      |none=>rw[e]at hdi;cases hdi
      |some y=>
       rw[e]at hdi;have hy:y=some d:=hdi;subst hy;have:=ht i e;simp at this
     show (a.tmps.setIfInBounds d v)[t]?=_;rw[set_ne hne];exact hst.old t ht'
   have hj1:dstOf l.toArray j=some t:=by rw[hdst,ht];rfl
   by_cases e:j=i
   ·exact x4n2
   have hj':done j=true:=by simpa[e]using hj
   have hold:=hst.new j t hj' ht;have hmv:freeV es vs cv' j=freeV es vs cv j:=by unfold freeV;rw[hcv j e]
   exact x7pd
  have hcl':ClosedB l (fun j=>if j=i then true else done j):=by
   exact x0nj
  cases x with
  |false=>
   have hr:=hstep done cv a w hdone hwait hcl hst hJ;refine wpOp_do ho hgn ?_;unfold Oper.wp;rw[hr];exact⟨hcl',cv,next _ cv (fun _ _=>rfl) (by unfold freeV;rw[hxD];rfl),by rw[maskB_off hxD];exact hJ⟩
  |true=>
   have hr:=hstep done cv a w hdone hwait hcl hst hJ;refine wpOp_do ho hgn (Oper.wp_mono ?_ hr);rintro a' w' ⟨v,rfl,hJ'⟩;exact⟨hcl',fun j=>if j=i then v else cv j,next v (fun j=>if j=i then v else cv j) (fun j hj=>by simp[hj]) (by unfold freeV;rw[hxD];simp),by rw[maskB_on hxD];exact hJ'⟩
 ·rintro done a w hall ⟨_,cv,hst,hJ⟩;have hall':∀i,i<l.length->done i=true:=fun i hi=>hall i (by simpa using hi);have e:a={tmps:=putAll ds (freeAll es cv 0 vs) a0.tmps,defers:=a0.defers}:=by
   have hreg1:RegSt l.toArray ((freeAll es cv 0 vs).getD · undef) a0 w (fun _=>true) a w:=by
    refine⟨hst.size,hst.defers,fun t ht=>hst.old t ?_,fun i t _ ht=>?_,Below.refl _ _⟩
    ·exact fun j hj=>absurd (by rw[hdst,hj];rfl) (ht j)
    have hil:i<l.length:=by
     exact x2dp
    have ht':ds[i]?=some (some t):=by
     exact x06d
    rw[hst.new i t (hall' i hil) ht'];have:=freeAll_at es cv vs 0 i (by omega);rw[Nat.zero_add]at this
    show some (freeV es vs cv i)=some ((freeAll es cv 0 vs).getD i undef);rw[this];rfl
   have e:=hreg1.end_ hd;have hml:=freeAll_len es cv 0 vs;have hp:=putAll_range l.toArray (freeAll es cv 0 vs) ds (freeAll es cv 0 vs) 0 a0.tmps (by rw[hml];exact hlen) (fun i=>by rw[Nat.zero_add];exact hdst i) (fun i _=>by rw[Nat.zero_add]);have hl:ds.length=l.toArray.size:=by rw[<-hds];simp
   rw[hl,<-List.range_eq_range']at hp;have e1:regEnd l.toArray ((freeAll es cv 0 vs).getD · undef) a0={tmps:=putAll ds (freeAll es cv 0 vs) a0.tmps,defers:=a0.defers}:=by
    rw[<-hp];rfl
   rw[e,e1]
  rw[e];exact hQ (maskB es done) cv w (fun i h hi=>by unfold maskB;rw[h,hall' i hi];rfl) hJ
 ·exact x7q7
 refine⟨fun i o ho hi=>?_,fun _=>undef,⟨rfl,rfl,fun _ _=>rfl,fun i t hi ht=>?_⟩,?_⟩
 ·have hil:i<l.length:=(List.getElem?_eq_some_iff.1 ho).1;simp[hil]at hi
 ·exact x5zb
 have e:maskB es (fun j=>(Array.replicate l.toArray.size false).getD j true)=fun _=>false:=by
  funext j
  unfold maskB;by_cases hj:j<l.length
  ·simp[hj]
  rw[List.getD_eq_getElem?_getD,List.getElem?_eq_none (by omega)];rfl
 rw[e];exact h0
/-! Readings of operands. -/
theorem fr_new{ds:List (Option Tmp)}{es:List Bool}{vs:List Value}{a0:Act}{done:Nat->Bool}{cv:Nat->Value}{a:Act}(h:FreeSt ds es vs a0 done cv a){i:Nat}{t:Tmp}{v:Value}(hi:done i=true)(hd:ds[i]?=some (some t))(hk:es.getD i false=false)(hv:vs[i]?=some v):a.tmps[t]?=some v:=by
 rw[h.new i t hi hd];unfold freeV;rw[if_neg (by rw[hk];simp),List.getD_eq_getElem?_getD,hv];rfl
theorem fr_cv{ds:List (Option Tmp)}{es:List Bool}{vs:List Value}{a0:Act}{done:Nat->Bool}{cv:Nat->Value}{a:Act}(h:FreeSt ds es vs a0 done cv a){i:Nat}{t:Tmp}(hi:done i=true)(hd:ds[i]?=some (some t))(hk:es.getD i false=true):a.tmps[t]?=some (cv i):=by
 rw[h.new i t hi hd];unfold freeV;rw[if_pos hk]
theorem fr_old{ds:List (Option Tmp)}{es:List Bool}{vs:List Value}{a0:Act}{done:Nat->Bool}{cv:Nat->Value}{a:Act}(h:FreeSt ds es vs a0 done cv a){t:Tmp}{v:Value}(hd:ds.contains (some t)=false)(hv:a0.tmps[t]?=some v):a.tmps[t]?=some v:=
 (h.old t fun i hi=>by rw[List.contains_iff_mem.2 (List.mem_of_getElem? hi)]at hd;cases hd).trans hv
theorem fr_un{l:List Oper}{ds:List (Option Tmp)}{es:List Bool}{vs:List Value}{a0:Act}{done:Nat->Bool}{cv:Nat->Value}{a:Act}(h:FreeSt ds es vs a0 done cv a)(hcl:ClosedB l done){i i0:Nat}{t:Tmp}{v:Value}{o:Oper}(hn:done i=false)(ho:l[i0]?=some o)(hw:i∈waitsO o)
  (hu:(List.range ds.length).all (fun j=>decide (j=i0) || !(ds[j]?==some (some t)))=true) (hv:a0.tmps[t]?=some v):a.tmps[t]?=some v:=by
 refine(h.old t fun j hj=>?_).trans hv;have hjl:j<ds.length:=(List.getElem?_eq_some_iff.1 hj).1;have:=List.all_eq_true.1 hu j (by simpa using hjl);rw[hj]at this;have e:j=i0:=by simpa using this
 subst e
 cases hd:done j with
 |false=>rfl
 |true=>have:=hcl j o ho hd i hw;rw[hn]at this;cases this
end
theorem wp_asg{P:Program}{a:Act}{w:World}{K:Act->World->Prop}{Q:Exit->Act->World->Prop}{x:Operand}{v:Value}{d:Option Tmp}{t:TypeId}{p:String}{af:Array Edge}{g:Option (Nat×Bool)}(e:a.eval x=v)(h:K (a.put d v) w):Oper.wp P ⟨d,.assign x,t,p,af,g⟩ a w K Q:=by
 unfold Oper.wp;rw[mx_assign e];exact h
theorem x4qs(h:Y:=by
 intro done cv k1 a wq hw h hJ hn;have e1:=mO 1 (.pointer (some ⟨g,0,none⟩)) h;go_simp):Y:=h
theorem wp_val{P:Program}{o:Oper}{a:Act}{w:World}{K:Act->World->Prop}{Q:Exit->Act->World->Prop}{v:Value}(e:(execOp a.eval o).run P w=.ok (.value v) w)(h:K (a.put o.dst v) w):Oper.wp P o a w K Q:=by
 unfold Oper.wp;rw[e];exact h
end Go.Proofs.Ytefkfglkpebbmac
