/- Walks of functions, and plain words. No conditions. -/
import Derived.Test.YtefkfglkpebbmacP0
set_option linter.unusedVariables false
set_option linter.unusedSimpArgs false
set_option maxRecDepth 100000
set_option maxHeartbeats 40000000
namespace Go.Proofs.Ytefkfglkpebbmac
open Go.RowKit
variable {Y:Prop}
def freeV(es:List Bool)(vs:List Value)(cv:Nat->Value)(i:Nat):Value:=if es.getD i false=true then cv i else vs.getD i undef
structure FreeSt(ds:List (Option Tmp))(es:List Bool)(vs:List Value)(a0:Act)(done:Nat->Bool)(cv:Nat->Value)(a:Act):Prop where
 size:a.tmps.size=a0.tmps.size
 defers:a.defers=a0.defers
 old:∀t,(∀i,ds[i]?=some (some t)->done i=false)->a.tmps[t]?=a0.tmps[t]?
 new:∀(i:Nat) t,done i=true->ds[i]?=some (some t)->a.tmps[t]?=some (freeV es vs cv i)
def maskB(es:List Bool)(done:Nat->Bool):Nat->Bool:=fun j=>es.getD j false&&done j
theorem maskB_off{es:List Bool}{done:Nat->Bool}{i:Nat}(h:es.getD i false=false):maskB es (fun j=>if j=i then true else done j)=maskB es done:=by
 funext j
 unfold maskB;by_cases e:j=i
 ·subst e;simp only[h,Bool.false_and]
 simp only[e,if_false]
theorem maskB_on{es:List Bool}{done:Nat->Bool}{i:Nat}(h:es.getD i false=true):maskB es (fun j=>if j=i then true else done j)=fun j=>if j=i then true else maskB es done j:=by
 funext j
 unfold maskB;by_cases e:j=i
 ·subst e;simp only[h,if_true,Bool.true_and]
 simp only[e,if_false]
def freeAll(es:List Bool)(cv:Nat->Value):Nat->List Value->List Value
 |_,[]=>[]
 |i,v::vs=>(if es.getD i false=true then cv i else v)::freeAll es cv (i+1) vs
theorem freeAll_len(es:List Bool)(cv:Nat->Value):∀(n:Nat) (vs:List Value),(freeAll es cv n vs).length=vs.length
 |_,[]=>rfl
 |n,v::vs=>by simp[freeAll,freeAll_len es cv (n+1) vs]
theorem freeAll_at(es:List Bool)(cv:Nat->Value):∀(vs:List Value) (n i:Nat),i<vs.length->(freeAll es cv n vs).getD i undef=(if es.getD (n+i) false=true then cv (n+i)else vs.getD i undef)
 |[],_,_,h=>by simp at h
 |v::vs,n,0,_=>by simp[freeAll]
 |v::vs,n,i+1,h=>by
  have:=freeAll_at es cv vs (n+1) i (by simpa using h);simp only[freeAll,List.getD_cons_succ];rw[this,show n+1+i=n+(i+1) by omega]
section
variable {P:Program} {Q:Exit->Act->World->Prop}
def ClosedB(l:List Oper)(done:Nat->Bool):Prop:=∀(i:Nat) o,l[i]?=some o->done i=true->∀d∈waitsO o,done d=true
def FreeStep(P:Program)(l0:List Oper)(Q:Exit->Act->World->Prop)(ds:List (Option Tmp))(es:List Bool)(vs:List Value)(a0:Act)(J:(Nat->Bool)->(Nat->Value)->World->Prop)(i:Nat)(o:Oper):Bool->Value->Prop
 |false,v=>∀(done:Nat->Bool) (cv:Nat->Value) (a:Act) (w:World),done i=false->(∀d∈waitsO o,done d=true)->ClosedB l0 done->FreeSt ds es vs a0 done cv a->J (maskB es done) cv w->(execOp a.eval o).run P w=.ok (.value v) w
 |true,_=>∀(done:Nat->Bool) (cv:Nat->Value) (a:Act) (w:World),done i=false->(∀d∈waitsO o,done d=true)->ClosedB l0 done->FreeSt ds es vs a0 done cv a->J (maskB es done) cv w->
  o.wp P a w (fun a' w'=>∃v,a'=a.put o.dst v∧J (fun j=>if j=i then true else maskB es done j) (fun j=>if j=i then v else cv j) w') Q
def FreeSteps(P:Program)(l0:List Oper)(Q:Exit->Act->World->Prop)(ds:List (Option Tmp))(es0:List Bool)(vs0:List Value)(a0:Act)(J:(Nat->Bool)->(Nat->Value)->World->Prop):Nat->List Oper->List Bool->List Value->Prop
 |_,[],_,_=>True
 |i,o::l,x::es,v::vs=>FreeStep P l0 Q ds es0 vs0 a0 J i o x v∧FreeSteps P l0 Q ds es0 vs0 a0 J (i+1) l es vs
 |_,_::_,_,_=>False
theorem free_at{l0:List Oper}{ds:List (Option Tmp)}{es0:List Bool}{vs0:List Value}{a0:Act}{J:(Nat->Bool)->(Nat->Value)->World->Prop}:∀(l:List Oper) (es:List Bool) (vs:List Value) (n:Nat),FreeSteps P l0 Q ds es0 vs0 a0 J n l es vs->
  ∀(i:Nat) o,l[i]?=some o->∃x,es[i]?=some x∧FreeStep P l0 Q ds es0 vs0 a0 J (n+i) o x (vs.getD i undef)
 |[],_,_,_,_,i,o,h=>by simp at h
 |o::l,[],_,_,h,_,_,_=>h.elim
 |o::l,x::es,[],_,h,_,_,_=>h.elim
 |o::l,x::es,v::vs,n,h,i,o',e=>by
  obtain⟨h1,h2⟩:=h
  match i with
  |0=>
   have e':o=o':=by simpa using e
   subst e';exact⟨x,rfl,h1⟩
  |i+1=>
   obtain⟨y,e1,e2⟩:=free_at l es vs (n+1) h2 i o' (by simpa using e);exact⟨y,by simpa using e1,by rw[show n+(i+1)=n+1+i by omega];simpa using e2⟩
theorem wp_region_free{id:Nat}{l:List Oper}{a0:Act}{w0:World}(hm:P.follows .mixedOrders=true)(ds:List (Option Tmp))(es:List Bool)(vs:List Value)(J:(Nat->Bool)->(Nat->Value)->World->Prop)(n:Nat)(hn:a0.tmps.size=n)
  (hds:l.map (·.dst)=ds) (hd:dstsOk l.toArray n=true) (hw:waitsOk l.toArray=true) (hg:l.all (·.guard.isNone)=true) (hlen:ds.length=vs.length) (hle:ds.length=es.length)
  (h0:J (fun _=>false) (fun _=>undef) w0.drew) (steps:FreeSteps P l Q ds es vs a0 J 0 l es vs)
  (hQ:∀(d:Nat->Bool) (cv:Nat->Value) (w:World),(∀i,es.getD i false=true->i<l.length->d i=true)->J d cv w->Q .normal {tmps:=putAll ds (freeAll es cv 0 vs) a0.tmps,defers:=a0.defers} w):(Code.region id l.toArray true).wp P Q a0 w0:=by
 rw[<-hn]at hd;have hdst:∀i,dstOf l.toArray i=(ds[i]?).bind (fun x=>x):=by
  exact x0im
 have hsz:l.length=ds.length:=by rw[<-hds];simp
 have hac:∀i∈List.range l.toArray.size,∀d∈waits .any l.toArray i,d<i∧d<l.toArray.size:=by
  exact x8ne
 refine wp_region_held (S:=fun _=>True) hm ?_;refine wpAnyH_inv (P:=P) (md:=.any) (ops:=l.toArray) (Q:=Q) (S:=fun _=>True) (fun done a w=>ClosedB l done∧∃cv,FreeSt ds es vs a0 done cv a∧J (maskB es done) cv w) (List.range l.toArray.size) (fun i hi=>by simpa using hi) hac ?_ ?_ (fun _ _ _ _=>trivial) l.toArray.size _ a0 _ (by simp) (fun j hj hn=>absurd (by simpa using hj) hn) ?_ ?_
 ·rintro i hi done a w hdone hwait ⟨hcl,cv,hst,hJ⟩;have hil:i<l.length:=by simpa using hi
  have ho:l.toArray[i]?=some l[i]:=by simp[hil]
  rw[waits_eq _ _ _ ho]at hwait;have hgn:l[i].guard=none:=by
   have:=List.all_eq_true.1 hg l[i] (List.getElem_mem hil);simpa using this
  have hdi:dstOf l.toArray i=l[i].dst:=by unfold dstOf;rw[ho];rfl
  obtain⟨x,hx,hstep⟩:=free_at l es vs 0 steps i l[i] (by simp[hil]);rw[Nat.zero_add]at hstep;have hxD:es.getD i false=x:=by rw[List.getD_eq_getElem?_getD,hx];rfl
  have next:∀(v:Value) (cv':Nat->Value),(∀j,j≠i->cv' j=cv j)->v=freeV es vs cv' i->FreeSt ds es vs a0 (fun j=>if j=i then true else done j) cv' (a.put l[i].dst v):=by
   intro v cv' hcv hv;refine⟨?_,?_,fun t ht=>?_,fun j t hj ht=>?_⟩
   ·cases h:l[i].dst<;>simp[Act.put,hst.size]
   ·cases h:l[i].dst<;>simp[Act.put,hst.defers]
   ·have ht':∀j,ds[j]?=some (some t)->done j=false:=fun j hj=>by
     have:=ht j hj;by_cases e:j=i
     ·simp[e]at this
     simpa[e]using this
    cases h:l[i].dst with
    |none=>exact hst.old t ht'
    |some d=>
     have hne:d≠t:=by
      rintro rfl;rw[h]at hdi;rw[hdst]at hdi
      cases e:ds[i]? with
      |none=>rw[e]at hdi;cases hdi
      |some y=>
       rw[e]at hdi;have hy:y=some d:=hdi;subst hy;have:=ht i e;simp at this
     show (a.tmps.setIfInBounds d v)[t]?=_;rw[set_ne hne];exact hst.old t ht'
   have hj1:dstOf l.toArray j=some t:=by rw[hdst,ht];rfl
   by_cases e:j=i
   ·exact x4n2
   have hj':done j=true:=by simpa[e]using hj
   have hold:=hst.new j t hj' ht;have hmv:freeV es vs cv' j=freeV es vs cv j:=by unfold freeV;rw[hcv j e]
   exact x7pd
  have hcl':ClosedB l (fun j=>if j=i then true else done j):=by
   exact x0nj
  cases x with
  |false=>
   have hr:=hstep done cv a w hdone hwait hcl hst hJ;refine wpOp_do ho hgn ?_;unfold Oper.wp;rw[hr];exact⟨hcl',cv,next _ cv (fun _ _=>rfl) (by unfold freeV;rw[hxD];rfl),by rw[maskB_off hxD];exact hJ⟩
  |true=>
   have hr:=hstep done cv a w hdone hwait hcl hst hJ;refine wpOp_do ho hgn (Oper.wp_mono ?_ hr);rintro a' w' ⟨v,rfl,hJ'⟩;exact⟨hcl',fun j=>if j=i then v else cv j,next v (fun j=>if j=i then v else cv j) (fun j hj=>by simp[hj]) (by unfold freeV;rw[hxD];simp),by rw[maskB_on hxD];exact hJ'⟩
 ·rintro done a w hall ⟨_,cv,hst,hJ⟩;have hall':∀i,i<l.length->done i=true:=fun i hi=>hall i (by simpa using hi);have e:a={tmps:=putAll ds (freeAll es cv 0 vs) a0.tmps,defers:=a0.defers}:=by
   have hreg1:RegSt l.toArray ((freeAll es cv 0 vs).getD · undef) a0 w (fun _=>true) a w:=by
    refine⟨hst.size,hst.defers,fun t ht=>hst.old t ?_,fun i t _ ht=>?_,Below.refl _ _⟩
    ·exact fun j hj=>absurd (by rw[hdst,hj];rfl) (ht j)
    have hil:i<l.length:=by
     exact x2dp
    have ht':ds[i]?=some (some t):=by
     exact x06d
    rw[hst.new i t (hall' i hil) ht'];have:=freeAll_at es cv vs 0 i (by omega);rw[Nat.zero_add]at this
    show some (freeV es vs cv i)=some ((freeAll es cv 0 vs).getD i undef);rw[this];rfl
   have e:=hreg1.end_ hd;have hml:=freeAll_len es cv 0 vs;have hp:=putAll_range l.toArray (freeAll es cv 0 vs) ds (freeAll es cv 0 vs) 0 a0.tmps (by rw[hml];exact hlen) (fun i=>by rw[Nat.zero_add];exact hdst i) (fun i _=>by rw[Nat.zero_add]);have hl:ds.length=l.toArray.size:=by rw[<-hds];simp
   rw[hl,<-List.range_eq_range']at hp;have e1:regEnd l.toArray ((freeAll es cv 0 vs).getD · undef) a0={tmps:=putAll ds (freeAll es cv 0 vs) a0.tmps,defers:=a0.defers}:=by
    rw[<-hp];rfl
   rw[e,e1]
  rw[e];exact hQ (maskB es done) cv w (fun i h hi=>by unfold maskB;rw[h,hall' i hi];rfl) hJ
 ·exact x7q7
 refine⟨fun i o ho hi=>?_,fun _=>undef,⟨rfl,rfl,fun _ _=>rfl,fun i t hi ht=>?_⟩,?_⟩
 ·have hil:i<l.length:=(List.getElem?_eq_some_iff.1 ho).1;simp[hil]at hi
 ·exact x5zb
 have e:maskB es (fun j=>(Array.replicate l.toArray.size false).getD j true)=fun _=>false:=by
  funext j
  unfold maskB;by_cases hj:j<l.length
  ·simp[hj]
  rw[List.getD_eq_getElem?_getD,List.getElem?_eq_none (by omega)];rfl
 rw[e];exact h0
/-! Readings of operands. -/
theorem fr_new{ds:List (Option Tmp)}{es:List Bool}{vs:List Value}{a0:Act}{done:Nat->Bool}{cv:Nat->Value}{a:Act}(h:FreeSt ds es vs a0 done cv a){i:Nat}{t:Tmp}{v:Value}(hi:done i=true)(hd:ds[i]?=some (some t))(hk:es.getD i false=false)(hv:vs[i]?=some v):a.tmps[t]?=some v:=by
 rw[h.new i t hi hd];unfold freeV;rw[if_neg (by rw[hk];simp),List.getD_eq_getElem?_getD,hv];rfl
theorem fr_cv{ds:List (Option Tmp)}{es:List Bool}{vs:List Value}{a0:Act}{done:Nat->Bool}{cv:Nat->Value}{a:Act}(h:FreeSt ds es vs a0 done cv a){i:Nat}{t:Tmp}(hi:done i=true)(hd:ds[i]?=some (some t))(hk:es.getD i false=true):a.tmps[t]?=some (cv i):=by
 rw[h.new i t hi hd];unfold freeV;rw[if_pos hk]
theorem fr_old{ds:List (Option Tmp)}{es:List Bool}{vs:List Value}{a0:Act}{done:Nat->Bool}{cv:Nat->Value}{a:Act}(h:FreeSt ds es vs a0 done cv a){t:Tmp}{v:Value}(hd:ds.contains (some t)=false)(hv:a0.tmps[t]?=some v):a.tmps[t]?=some v:=
 (h.old t fun i hi=>by rw[List.contains_iff_mem.2 (List.mem_of_getElem? hi)]at hd;cases hd).trans hv
theorem fr_un{l:List Oper}{ds:List (Option Tmp)}{es:List Bool}{vs:List Value}{a0:Act}{done:Nat->Bool}{cv:Nat->Value}{a:Act}(h:FreeSt ds es vs a0 done cv a)(hcl:ClosedB l done){i i0:Nat}{t:Tmp}{v:Value}{o:Oper}(hn:done i=false)(ho:l[i0]?=some o)(hw:i∈waitsO o)
  (hu:(List.range ds.length).all (fun j=>decide (j=i0) || !(ds[j]?==some (some t)))=true) (hv:a0.tmps[t]?=some v):a.tmps[t]?=some v:=by
 refine(h.old t fun j hj=>?_).trans hv;have hjl:j<ds.length:=(List.getElem?_eq_some_iff.1 hj).1;have:=List.all_eq_true.1 hu j (by simpa using hjl);rw[hj]at this;have e:j=i0:=by simpa using this
 subst e
 cases hd:done j with
 |false=>rfl
 |true=>have:=hcl j o ho hd i hw;rw[hn]at this;cases this
end
end Go.Proofs.Ytefkfglkpebbmac
