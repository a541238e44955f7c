/- Walks of functions, and plain words. No conditions. -/
import Derived.Test.YtefkfglkpebbmacGreatPE3
import Derived.Test.YtefkfglkpebbmacGreatP1
set_option linter.unusedVariables false
set_option linter.unusedSimpArgs false
set_option maxRecDepth 100000
set_option maxHeartbeats 40000000
namespace Go.Proofs.YtefkfglkpebbmacGreat
open Go.RowKit
variable {Y:Prop}
variable {w w':World} {B A:OA} {g j k:Nat} {l:List Stp} {a:Act} {K:Act->World->Prop} {Q:Exit->Act->World->Prop} {t:TypeId} {p:String} {af:Array Edge} {gd:Option (Nat×Bool)} {v:Value}
theorem x1s0(h:Y:=by
 have e:=hv k h1 h2;rcases Nat.lt_or_ge k v.heap.size with h|h
 ·exact h
 rw[Array.getElem?_eq_none h,Array.getElem?_eq_getElem h2]at e;cases e):Y:=h
structure Kd(α:Type) where
 ty:TypeId
 size:Nat
 slot:Nat
 cell:α->Option Addr×Nat->List Value
 dat:α->List UInt8
 len:∀x e,(cell x e).length=size
 lt:slot<size
 set:∀x e e',(cell x e).set slot (.slice e'.1 (dat x).length e'.2)=cell x e'
 get:∀x e,(cell x e)[slot]?=some (.slice e.1 (dat x).length e.2)
 one:∀x e,∀u∈cell x e,u.oneCell'=true
section
variable {α:Type} (K:Kd α)
def Kd.cells:List α->List (Option Addr×Nat)->List Value
 |o::l,d::ds=>K.cell o d++Kd.cells l ds
 |_,_=>[]
variable {K}
theorem cells_len:∀(l:List α) (ds:List (Option Addr×Nat)),ds.length=l.length->(K.cells l ds).length=l.length*K.size
 |[],[],_=>by simp[Kd.cells]
 |[],_::_,h=>by simp at h
 |_::_,[],h=>by simp at h
 |o::l,d::ds,h=>by
  have:=cells_len l ds (by simpa using h);rw[Kd.cells,List.length_append,K.len,this,List.length_cons,Nat.succ_mul];omega
theorem cells_append:∀(l m:List α) (ds es:List (Option Addr×Nat)),ds.length=l.length->K.cells (l++m) (ds++es)=K.cells l ds++K.cells m es
 |[],m,[],es,_=>by simp[Kd.cells]
 |[],_,_::_,_,h=>by simp at h
 |_::_,_,[],_,h=>by simp at h
 |x::l,m,y::ds,es,h=>by
  have:=cells_append l m ds es (by simpa using h);simp[Kd.cells,this]
theorem cells_one(x:α)(e:Option Addr×Nat):K.cells [x] [e]=K.cell x e:=by simp[Kd.cells]
theorem cells_oneCell:∀(l:List α) (ds:List (Option Addr×Nat)),∀u∈K.cells l ds,u.oneCell'=true
 |[],_,u,h=>by simp[Kd.cells]at h
 |_::_,[],u,h=>by simp[Kd.cells]at h
 |o::l,d::ds,u,h=>by
  rw[Kd.cells]at h;rcases List.mem_append.1 h with h|h
  ·exact K.one o d u h
  exact cells_oneCell l ds u h
theorem cells_at:∀(l:List α) (ds:List (Option Addr×Nat)),ds.length=l.length->∀(i j:Nat) (o:α) (d:Option Addr×Nat),l[i]?=some o->ds[i]?=some d->j<K.size->(K.cells l ds)[i*K.size+j]?=(K.cell o d)[j]?
 |[],[],_,i,j,o,d,h,_,_=>by simp at h
 |[],_::_,h,_,_,_,_,_,_,_=>by simp at h
 |_::_,[],h,_,_,_,_,_,_,_=>by simp at h
 |x::l,y::ds,h,i,j,o,d,hi,hd,hj=>by
  match i with
  |0=>
   have e1:x=o:=by simpa using hi
   have e2:y=d:=by simpa using hd
   subst e1 e2;rw[Kd.cells,Nat.zero_mul,Nat.zero_add,List.getElem?_append_left (by rw[K.len];exact hj)]
  |i+1=>
   have:=cells_at l ds (by simpa using h) i j o d (by simpa using hi) (by simpa using hd) hj;rw[Kd.cells,List.getElem?_append_right (by rw[K.len,Nat.succ_mul];omega),<-this,K.len];congr 1;rw[Nat.succ_mul];omega
theorem cells_take(l:List α)(ds:List (Option Addr×Nat))(h:ds.length=l.length)(i:Nat)(hi:i<=l.length):K.cells (l.take i) (ds.take i)=(K.cells l ds).take (i*K.size)∧K.cells (l.drop i) (ds.drop i)=(K.cells l ds).drop (i*K.size):=by
 have e:=cells_append (K:=K) (l.take i) (l.drop i) (ds.take i) (ds.drop i) (by simp;omega);rw[List.take_append_drop,List.take_append_drop]at e;have hl:=cells_len (K:=K) (l.take i) (ds.take i) (by simp;omega);rw[List.length_take,Nat.min_eq_left hi]at hl;refine⟨?_,?_⟩
 ·rw[e,List.take_left' hl]
 rw[e,List.drop_left' hl]
theorem cells_set:∀(l:List α) (ds:List (Option Addr×Nat)),ds.length=l.length->∀(i:Nat) (o:α) (e:Option Addr×Nat),l[i]?=some o->(K.cells l ds).set (i*K.size+K.slot) (.slice e.1 (K.dat o).length e.2)=K.cells l (ds.set i e)
 |[],_,_,i,o,e,h=>by simp at h
 |_::_,[],h,_,_,_,_=>by simp at h
 |x::l,y::ds,h,i,o,e,hi=>by
  have hlt:=K.lt
  match i with
  |0=>
   have e1:x=o:=by simpa using hi
   subst e1;rw[Kd.cells,Nat.zero_mul,Nat.zero_add,List.set_append_left _ _ (by rw[K.len];exact hlt),K.set,List.set_cons_zero,Kd.cells]
  |i+1=>
   have:=cells_set l ds (by simpa using h) i o e (by simpa using hi);rw[Kd.cells,List.set_append_right _ _ (by rw[K.len,Nat.succ_mul];omega),K.len,List.set_cons_succ,Kd.cells,<-this];congr 2;rw[Nat.succ_mul];omega
end
structure GSrc{α:Type}(K:Kd α)(w:World)(A:OA)(l:List α)(ds:List (Option Addr×Nat)):Prop where
 len:ds.length=l.length
 row:Src w A (K.cells l ds)
 data:∀(i:Nat) (o:α) (d:Option Addr×Nat),l[i]?=some o->ds[i]?=some d->Bts w d.1 (K.dat o)∧(K.dat o).length<=d.2
def Each{α:Type}(K:Kd α)(l:List α)(ds:List (Option Addr×Nat))(P:Nat->Prop):Prop:=
 ∀(i:Nat) (o:α) (d:Option Addr×Nat),l[i]?=some o->ds[i]?=some d->K.dat o≠[]->∀k,d.1.map (·.block)=some k->P k
structure GRow{α:Type}(K:Kd α)(w:World)(base:Nat)(l:List α)(ds:List (Option Addr×Nat))(A:OA)(c:Nat):Prop where
 len:ds.length=l.length
 row:Own w base K.ty K.size A l.length c (K.cells l ds)
 data:∀(i:Nat) (o:α) (d:Option Addr×Nat),l[i]?=some o->ds[i]?=some d->Bts w d.1 (K.dat o)∧(K.dat o).length<=d.2
 off:Each K l ds (fun k=>A.map (·.block)≠some k)
theorem bts_keep{x:LU}(h:Bts w B x)(hs:w.heap.size<=w'.heap.size)(hk:x≠[]->∀k,k<w.heap.size->B.map (·.block)=some k->w'.heap[k]?=w.heap[k]?):Bts w' B x:=by
 intro j hj;obtain⟨b,o1,e1,hlt,hc⟩:=h j hj;have e:=hk (fun e=>by rw[e]at hj;simp at hj) b hlt (by rw[e1];rfl);exact x8f0
theorem bts_block{x:LU}(h:Bts w B x)(hx:x≠[]):∀k,B.map (·.block)=some k->k<w.heap.size:=by
 obtain⟨b,o1,e1,hlt,hc⟩:=h 0 (List.length_pos_iff.2 hx);intro k hk;rw[e1]at hk;have e:b=k:=by simpa using hk
 omega
section
variable {α:Type} {K:Kd α} {w w':World} {base:Nat} {l:List α} {ds:List (Option Addr×Nat)} {A:OA} {c:Nat} {P Q:Nat->Prop}
theorem Each.imp(h:Each K l ds P)(hq:∀k,P k->Q k):Each K l ds Q:=fun i o d e1 e2 hx k hk=>hq k (h i o d e1 e2 hx k hk)
theorem Each.nil:Each K ([]:List α) ds P:=fun i o d h=>by simp at h
theorem GSrc.each(h:GSrc K w A l ds):Each K l ds (fun k=>k<w.heap.size):=fun i o d e1 e2 hx=>bts_block (h.data i o d e1 e2).1 hx
theorem GRow.src(h:GRow K w base l ds A c):GSrc K w A l ds:=⟨h.len,h.row.src,h.data⟩
theorem GSrc.stays(h:GSrc K w A l ds)(hb:Below w.heap.size w w'):GSrc K w' A l ds:=
 ⟨h.len,h.row.stays hb,fun i o d h1 h2=>⟨(h.data i o d h1 h2).1.stays hb,(h.data i o d h1 h2).2⟩⟩
theorem GRow.nil(w:World)(base:Nat):GRow K w base ([]:List α) [] none 0:=⟨rfl,by simpa[Kd.cells]using Own.nil_ _ _ _ _,fun i o d h=>by simp at h,Each.nil⟩
theorem GRow.below(h:GRow K w base l ds A c)(hb:Below w.heap.size w w'):GRow K w' base l ds A c:=
 ⟨h.len,h.row.below hb,fun i o d h1 h2=>⟨(h.data i o d h1 h2).1.stays hb,(h.data i o d h1 h2).2⟩,h.off⟩
theorem GRow.mono{base':Nat}(h:GRow K w base l ds A c)(hb:base'<=base):GRow K w base' l ds A c:=⟨h.len,h.row.mono hb,h.data,h.off⟩
theorem GRow.keep(h:GRow K w base l ds A c)(hs:w.heap.size<=w'.heap.size)(hA:∀k,k<w.heap.size->A.map (·.block)=some k->w'.heap[k]?=w.heap[k]?)(hd:Each K l ds (fun k=>k<w.heap.size->w'.heap[k]?=w.heap[k]?)):GRow K w' base l ds A c:=
 ⟨h.len,h.row.same (fun k e=>hA k (h.row.block k e).2 e),fun i o d h1 h2=>⟨bts_keep (h.data i o d h1 h2).1 hs fun hx k h3 e=>hd i o d h1 h2 hx k e h3,(h.data i o d h1 h2).2⟩,h.off⟩
theorem GRow.setOther(h:GRow K w base l ds A c)(hA:A.map (·.block)≠some g)(hd:Each K l ds (fun k=>k≠g))(v:Value):GRow K (w.setCell ⟨g,j,none⟩ v) base l ds A c:=
 h.keep (by simp) (fun k _ hk=>Below.heap_setCell _ _ _ _ (fun e=>hA (by rw[hk,show k=g from e]))) (hd.imp fun k hk _=>Below.heap_setCell _ _ _ _ hk)
theorem GRow.remake{B:Nat}{l':List α}{ds':List (Option Addr×Nat)}{A':OA}{c':Nat}(h:GRow K w base l ds A c)(hl:ds'.length=l'.length)(h1:Own w' base K.ty K.size A' l'.length c' (K.cells l' ds'))(hb:Below B w w')
  (hk:∀k,k<w.heap.size->A.map (·.block)≠some k->w'.heap[k]?=w.heap[k]?) (h3:A'.map (·.block)=A.map (·.block)∨∀k,A'.map (·.block)=some k->w.heap.size<=k)
  (hd:∀(i:Nat) (o:α) (d:Option Addr×Nat),l'[i]?=some o->ds'[i]?=some d->(∃j:Nat,l[j]?=some o∧ds[j]?=some d)∨(Bts w d.1 (K.dat o)∧(K.dat o).length<=d.2∧(K.dat o≠[]->∀k,d.1.map (·.block)=some k->A.map (·.block)≠some k))):
  GRow K w' base l' ds' A' c':=by
 have key:∀(i:Nat) (o:α) (d:Option Addr×Nat),l'[i]?=some o->ds'[i]?=some d->Bts w d.1 (K.dat o)∧(K.dat o).length<=d.2∧(K.dat o≠[]->∀k,d.1.map (·.block)=some k->A.map (·.block)≠some k):=by
  intro i o d e1 e2;rcases hd i o d e1 e2 with ⟨j,e3,e4⟩|h
  ·exact⟨(h.data j o d e3 e4).1,(h.data j o d e3 e4).2,h.off j o d e3 e4⟩
  exact h
 refine⟨hl,h1,fun i o d e1 e2=>?_,fun i o d e1 e2 hx k hk2=>?_⟩
 ·obtain⟨k1,k2,k3⟩:=key i o d e1 e2;exact⟨bts_keep k1 hb.size fun hx k h4 e=>hk k h4 (k3 hx k e),k2⟩
 obtain⟨k1,k2,k3⟩:=key i o d e1 e2;have k2:=k3 hx k hk2;have k1:=bts_block k1 hx k hk2;rcases h3 with h3|h3
 ·rw[h3];exact k2
 intro e;have:=h3 k e;omega
theorem GRow.push{B:Nat}{A':OA}{c':Nat}{o:α}{d:Option Addr×Nat}(h:GRow K w base l ds A c)
  (h1:Own w' base K.ty K.size A' (l.length+1) c' (K.cells l ds++K.cell o d)) (hb:Below B w w') (hk:∀k,k<w.heap.size->A.map (·.block)≠some k->w'.heap[k]?=w.heap[k]?) (h3:A'.map (·.block)=A.map (·.block)∨∀k,A'.map (·.block)=some k->w.heap.size<=k)
  (hd:Bts w d.1 (K.dat o)) (hd2:(K.dat o).length<=d.2) (hd3:K.dat o≠[]->∀k,d.1.map (·.block)=some k->A.map (·.block)≠some k):
  GRow K w' base (l++[o]) (ds++[d]) A' c':=by
 have hlen:=h.len;refine h.remake (by simp[hlen]) ?_ hb hk h3 fun i o' d' hi hd'=>?_
 ·rw[cells_append _ _ _ _ hlen,cells_one,List.length_append];exact h1
 rcases snoc_at hi with hi|⟨rfl,rfl⟩
 ·have hil:i<l.length:=(List.getElem?_eq_some_iff.1 hi).1;rw[List.getElem?_append_left (by omega)]at hd';exact .inl ⟨i,hi,hd'⟩
 rw[<-hlen]at hd';simp at hd';subst hd';exact .inr ⟨hd,hd2,hd3⟩
theorem Each.push{o:α}{d:Option Addr×Nat}(h:Each K l ds P)(hl:ds.length=l.length)(hd:K.dat o≠[]->∀k,d.1.map (·.block)=some k->P k):Each K (l++[o]) (ds++[d]) P:=by
 intro i o' d' hi hd' hx k hk;rcases snoc_at hi with hi|⟨rfl,rfl⟩
 ·have hil:i<l.length:=(List.getElem?_eq_some_iff.1 hi).1;rw[List.getElem?_append_left (by omega)]at hd';exact h i o' d' hi hd' hx k hk
 rw[<-hl]at hd';simp at hd';subst hd';exact hd hx k hk
theorem GRow.setData{i:Nat}{o:α}{e:Option Addr×Nat}(h:GRow K w base l ds (some ⟨g,0,none⟩) c)(hi:l[i]?=some o)(hd:Bts w e.1 (K.dat o))(hd2:(K.dat o).length<=e.2)(hd3:K.dat o≠[]->∀k,e.1.map (·.block)=some k->g≠k):
  GRow K (w.setCell ⟨g,i*K.size+K.slot,none⟩ (.slice e.1 (K.dat o).length e.2)) base l (ds.set i e) (some ⟨g,0,none⟩) c:=by
 have hr:=h.row.stored (i*K.size+K.slot) (.slice e.1 (K.dat o).length e.2);rw[cells_set l ds h.len i o e hi]at hr;refine⟨by rw[List.length_set];exact h.len,hr,fun j o' d' e1 e2=>?_,fun j o' d' e1 e2 hx k hk=>?_⟩
 ·rw[List.getElem?_set]at e2;by_cases hji:i=j
  ·subst hji;rw[hi]at e1;injection e1 with e1;subst e1;by_cases hl:i<ds.length
   ·rw[if_pos rfl,if_pos hl]at e2;injection e2 with e2;subst e2;exact⟨bts_keep hd (by simp) fun hx k _ hk=>Below.heap_setCell _ _ _ _ (fun e3=>hd3 hx k hk e3.symm),hd2⟩
   rw[if_pos rfl,if_neg hl]at e2;cases e2
  rw[if_neg hji]at e2;obtain⟨k1,k2⟩:=h.data j o' d' e1 e2;exact⟨bts_keep k1 (by simp) fun hx k _ hk=>Below.heap_setCell _ _ _ _ (fun e3=>h.off j o' d' e1 e2 hx k hk (by rw[show k=g from e3];rfl)),k2⟩
 rw[List.getElem?_set]at e2;by_cases hji:i=j
 ·by_cases hl:i<ds.length
  ·rw[if_pos hji,if_pos hl]at e2;injection e2 with e2;subst e2 hji;rw[hi]at e1;injection e1 with e1;subst e1;exact fun e3=>hd3 hx k hk (by injection e3)
  ·rw[if_pos hji,if_neg hl]at e2;cases e2
 rw[if_neg hji]at e2;exact h.off j o' d' e1 e2 hx k hk
theorem GRow.fresh(h:GRow K w base l ds A c)(hn:Each K l ds (fun k=>base<=k)):Fresh base w (fun v=>GRow K v base l ds A c):=by
 intro v hv;have hlt:∀k,base<=k->k<w.heap.size->k<v.heap.size:=fun k h1 h2=>by
  exact x1s0
 refine⟨h.len,own_fresh h.row hv,fun i o d h1 h2=>⟨fun j hj=>?_,(h.data i o d h1 h2).2⟩,h.off⟩;obtain⟨b,o1,e1,hl1,hc⟩:=(h.data i o d h1 h2).1 j hj;have hx:K.dat o≠[]:=fun e=>by rw[e]at hj;simp at hj
 have hbb:=hn i o d h1 h2 hx b (by rw[e1];rfl);exact⟨b,o1,e1,hlt b hbb hl1,(World.cell?_of_block (hv b hbb hl1)).trans hc⟩
end
def kOp:Kd Stp where
 ty:=121
 size:=3
 slot:=2
 cell:=fun o e=>[iv o.at_,iv o.len,.slice e.1 o.data.length e.2]
 dat:=Stp.data
 len:=fun _ _=>rfl
 lt:=by decide
 set:=fun _ _ _=>rfl
 get:=fun _ _=>rfl
 one:=fun x e u hu=>by simp at hu;rcases hu with rfl|rfl|rfl<;>rfl
def kChk:Kd Chk where
 ty:=39
 size:=5
 slot:=4
 cell:=fun x e=>chkC x e.1 e.2
 dat:=Chk.data
 len:=fun _ _=>rfl
 lt:=by decide
 set:=fun _ _ _=>rfl
 get:=fun _ _=>rfl
 one:=fun x e u hu=>by simp at hu;rcases hu with rfl|rfl|rfl|rfl|rfl<;>rfl
def rImg:CR (List UInt8):=fun w cs x=>∃B c,cs=[.slice B x.length c]∧x.length<=c∧x.length<=140737488351232∧Bts w B x
theorem stays_img:Stays rImg:=by
 rintro w w' cs x ⟨B,c,rfl,h1,h2,h3⟩ hb;exact⟨B,c,rfl,h1,h2,h3.stays hb⟩
abbrev Ims (w:World) (A:OA) (l:List (List UInt8)):Prop:=Elems 1 rImg w A l
theorem Ims.stays{l:List (List UInt8)}(h:Ims w A l)(hb:Below w.heap.size w w'):Ims w' A l:=Elems.stays stays_img h hb
section
variable {α:Type} {K:Kd α} {w:World} {A:OA} {l:List α} {ds:List (Option Addr×Nat)} {R:CR α}
theorem gsrc_of(hR:∀cs x,R w cs x->∃e:Option Addr×Nat,cs=K.cell x e∧Bts w e.1 (K.dat x)∧(K.dat x).length<=e.2)(h:Elems K.size R w A l):∃ds,GSrc K w A l ds:=by
 have each:∀i:Fin l.length,∃e:Option Addr×Nat,∃b o,A=some ⟨b,o,none⟩∧b<w.heap.size∧(∀j,(hj:j<(K.cell l[i.1] e).length)->w.cell? ⟨b,o+i.1*K.size+j,none⟩=some (K.cell l[i.1] e)[j])∧Bts w e.1 (K.dat l[i.1])∧(K.dat l[i.1]).length<=e.2:=by
  intro i;obtain⟨b,o,h1,h2,cs,h3,h4,h5⟩:=h i.1 i.2;obtain⟨e,rfl,h3,h5⟩:=hR _ _ h5;exact⟨e,b,o,h1,h2,h4,h3,h5⟩
 let f:Fin l.length->Option Addr×Nat:=fun i=>Classical.choose (each i)
 have hf:∀i:Fin l.length,∃b o,A=some ⟨b,o,none⟩∧b<w.heap.size∧(∀j,(hj:j<(K.cell l[i.1] (f i)).length)->w.cell? ⟨b,o+i.1*K.size+j,none⟩=some (K.cell l[i.1] (f i))[j])∧Bts w (f i).1 (K.dat l[i.1])∧(K.dat l[i.1]).length<=(f i).2:=fun i=>Classical.choose_spec (each i);have hl:(List.ofFn f).length=l.length:=by simp
 refine⟨List.ofFn f,hl,fun p hp=>?_,fun i o d h1 h2=>?_⟩
 ·rw[cells_len _ _ hl]at hp;have hs:0<K.size:=by have:=K.lt;omega
  have hi:p / K.size<l.length:=Nat.div_lt_of_lt_mul (by rw[Nat.mul_comm];exact hp);have hj:p%K.size<K.size:=Nat.mod_lt _ hs;have hpe:p / K.size*K.size+p%K.size=p:=by rw[Nat.mul_comm];exact Nat.div_add_mod _ _
  obtain⟨b,o,hA,hb,hc,_⟩:=hf ⟨p / K.size,hi⟩;refine⟨b,o,hA,hb,?_⟩;have e1:=cells_at (K:=K) l (List.ofFn f) hl (p / K.size) (p%K.size) l[p / K.size] (f ⟨p / K.size,hi⟩) (List.getElem?_eq_getElem hi) (by simp[hi]) hj;rw[hpe]at e1;have e2:=hc (p%K.size) (by rw[K.len];exact hj);dsimp only at e2;rw[show o+p / K.size*K.size+p%K.size=o+p by omega]at e2;rw[e2,<-List.getElem?_eq_getElem,<-e1,List.getElem?_eq_getElem (by rw[cells_len _ _ hl];exact hp)]
 have hi:=(List.getElem?_eq_some_iff.1 h1).1;obtain⟨_,_,_,_,_,h3,h4⟩:=hf ⟨i,hi⟩;have e1:l[i]=o:=by rw[List.getElem?_eq_getElem hi]at h1;injection h1
 have e2:f ⟨i,hi⟩=d:=by simpa[hi]using h2
 dsimp only at h3 h4;rw[e1,e2]at h3 h4;exact⟨h3,h4⟩
theorem elems_of(h:GSrc K w A l ds)(hR:∀x∈l,∀e:Option Addr×Nat,Bts w e.1 (K.dat x)->(K.dat x).length<=e.2->R w (K.cell x e) x):Elems K.size R w A l:=by
 intro i hi;have hs:0<K.size:=by have:=K.lt;omega
 have hd:i<ds.length:=by rw[h.len];exact hi
 have hl:l[i]?=some l[i]:=List.getElem?_eq_getElem hi;have hds:ds[i]?=some ds[i]:=List.getElem?_eq_getElem hd;have hcl:=cells_len (K:=K) l ds h.len;have hib:i*K.size+K.size<=l.length*K.size:=by rw[<-Nat.succ_mul];exact Nat.mul_le_mul_right _ hi
 obtain⟨b,o,hA,hlt,_⟩:=h.row (i*K.size) (by omega);obtain⟨hd1,hd2⟩:=h.data i _ _ hl hds;refine⟨b,o,hA,hlt,K.cell l[i] ds[i],K.len _ _,fun j hj=>?_,hR _ (List.getElem_mem hi) _ hd1 hd2⟩;rw[K.len]at hj;obtain⟨b',o',e,_,hc⟩:=h.row (i*K.size+j) (by omega);rw[hA]at e;injection e with e;injection e with e1 e2;subst e1 e2;have:=cells_at (K:=K) l ds h.len i j _ _ hl hds hj;rw[List.getElem?_eq_getElem (by omega),List.getElem?_eq_getElem (by rw[K.len];exact hj)]at this;rw[show o+i*K.size+j=o+(i*K.size+j) by omega,hc];exact this
end
theorem Sps.gsrc(h:Sps w A l):∃ds,GSrc kOp w A l ds:=
 gsrc_of (K:=kOp) (R:=rOp) (fun cs x ⟨B,c,h1,h2,_,h4,_⟩=>⟨(B,c),h1,h4,h2⟩) h
theorem GSrc.sps{ds:List (Option Addr×Nat)}(h:GSrc kOp w A l ds)(hb:∀o∈l,I64 o.at_∧I64 o.len∧o.data.length<=140737488351232):Sps w A l:=
 elems_of (K:=kOp) (R:=rOp) h fun x hx e h1 h2=>⟨e.1,e.2,rfl,h2,(hb x hx).2.2,h1,(hb x hx).1,(hb x hx).2.1⟩
def ChkB(x:Chk):Prop:=x.data.length<=140737488351232∧I64 x.from_∧I64 x.to_∧I64 x.n∧I64 x.of_
theorem Chs.gsrc{l:List Chk}(h:Chs w A l):∃ds,GSrc kChk w A l ds:=
 gsrc_of (K:=kChk) (R:=rChk) (fun cs x ⟨B,c,h1,h2⟩=>⟨(B,c),h1,h2.data,h2.cap⟩) h
theorem GSrc.chs{l:List Chk}{ds:List (Option Addr×Nat)}(h:GSrc kChk w A l ds)(hb:∀x∈l,ChkB x):Chs w A l:=
 elems_of (K:=kChk) (R:=rChk) h fun x hx e h1 h2=>⟨e.1,e.2,rfl,h2,(hb x hx).1,h1,(hb x hx).2.1,(hb x hx).2.2.1,(hb x hx).2.2.2.1,(hb x hx).2.2.2.2⟩
theorem Chs.bound{l:List Chk}(h:Chs w A l):∀x∈l,ChkB x:=by
 intro x hx;obtain⟨i,hi,rfl⟩:=List.mem_iff_getElem.1 hx;obtain⟨b,o,_,_,cs,_,_,B,c,_,h1⟩:=h i hi;exact⟨h1.len,h1.i0,h1.i1,h1.i2,h1.i3⟩
theorem Sps.bound(h:Sps w A l):∀o∈l,I64 o.at_∧I64 o.len∧o.data.length<=140737488351232:=by
 intro x hx;obtain⟨i,hi,rfl⟩:=List.mem_iff_getElem.1 hx;obtain⟨b,o,_,_,cs,_,_,B,c,_,h1,h2,h3,h4,h5⟩:=h i hi;exact⟨h4,h5,h2⟩
theorem fresh_lt{base:Nat}{v:World}(hv:∀k,base<=k->k<w.heap.size->v.heap[k]?=w.heap[k]?)(h1:base<=k)(h2:k<w.heap.size):k<v.heap.size:=by
 exact x1s0
theorem Fresh.fresh{base:Nat}{v:World}{P:World->Prop}(h:Fresh base w P)(hv:∀k,base<=k->k<w.heap.size->v.heap[k]?=w.heap[k]?):Fresh base v P:=
 fun u hu=>h u fun k h1 h2=>(hu k h1 (fresh_lt hv h1 h2)).trans (hv k h1 h2)
structure DevOwn(w:World)(base m1 m2:Nat)(d:Dev)(L:DLoc):Prop where
 h1:base<=m1
 h2:m1<=m2
 o0:Own w base 5 1 L.a0 d.s0.length L.c0 (d.s0.map bv)
 b0:∀k,L.a0.map (·.block)=some k->k<m1
 o1:Own w m1 5 1 L.a1 d.s1.length L.c1 (d.s1.map bv)
 b1:∀k,L.a1.map (·.block)=some k->k<m2
 got:Fresh m2 w (fun v=>Chs v L.ag d.got)
 job:Fresh m2 w (fun v=>PatIn v d.job L.aj L.cj)
 l0:d.s0.length<=140737488351232
 l1:d.s1.length<=140737488351232
 kg:d.got.length<=L.cg
 lg:d.got.length<=2513169434843
 ir:I64 d.running
 id:I64 d.done
def DvOwn(w:World)(base:Nat)(d:Dev)(L:DLoc):Prop:=∃m1 m2,DevOwn w base m1 m2 d L
section
variable {w v:World} {base m1 m2:Nat} {d:Dev} {L:DLoc}
theorem DevOwn.same(h:DevOwn w base m1 m2 d L)(hv:∀k,base<=k->k<w.heap.size->v.heap[k]?=w.heap[k]?):DevOwn v base m1 m2 d L:=
 ⟨h.h1,h.h2,own_fresh h.o0 hv,h.b0,own_fresh h.o1 (fun k h1=>hv k (Nat.le_trans h.h1 h1)),h.b1,
   h.got.fresh (fun k h1=>hv k (by have:=h.h1;have:=h.h2;omega)),h.job.fresh (fun k h1=>hv k (by have:=h.h1;have:=h.h2;omega)),h.l0,h.l1,h.kg,h.lg,h.ir,h.id⟩
theorem DvOwn.fresh(h:DvOwn w base d L):Fresh base w (fun v=>DvOwn v base d L):=by
 obtain⟨m1,m2,h⟩:=h;exact fun v hv=>⟨m1,m2,h.same hv⟩
theorem DvOwn.mono{base':Nat}(h:DvOwn w base d L)(hb:base'<=base):DvOwn w base' d L:=by
 obtain⟨m1,m2,h⟩:=h;exact⟨m1,m2,Nat.le_trans hb h.h1,h.h2,h.o0.mono hb,h.b0,h.o1,h.b1,h.got,h.job,h.l0,h.l1,h.kg,h.lg,h.ir,h.id⟩
theorem DevOwn.devIn(h:DevOwn w base m1 m2 d L):DevIn w d L:=
 ⟨h.o0.le,h.l0,h.o0.src.bts,h.o1.le,h.l1,h.o1.src.bts,h.kg,h.lg,h.got.now,h.job.now,h.ir,h.id⟩
theorem DvOwn.devIn(h:DvOwn w base d L):DevIn w d L:=by
 obtain⟨m1,m2,h⟩:=h;exact h.devIn
end
def DcRet(w:World)(d:Dev):Ending->World->Prop:=fun en w'=>
 ∃L,en=.returned (.agg (devA d L))∧Fresh w.heap.size w' (fun v=>DvOwn v w.heap.size d L)∧Below w.heap.size w w'
def DvRet(w:World)(d:Dev)(n:Int):Ending->World->Prop:=fun en w'=>
 ∃L,en=.returned (.tuple #[.agg (devA d L),iv n])∧Fresh w.heap.size w' (fun v=>DevIn v d L)∧Below w.heap.size w w'
theorem wp_srow{P:Program}{ty:TypeId}{x y:Tmp}{cs new:Array Value}(hx:a.tmps[x]?=some (.pointer (some ⟨g,j,none⟩)))(hy:a.tmps[y]?=some (.agg new))
  (h1:aggSz P ty=new.size) (h0:0<new.size) (hr:rowOf w g=cs) (h2:j+new.size<=cs.size) (hf:frOf w g=(0,0)) (hc:allOne new=true) (h:K a (w.setRow g (splice cs j new))):
  Oper.wp P ⟨none,.store ty (.tmp x) (.tmp y),t,p,af,gd⟩ a w K Q:=by
 have e1:a.eval (.tmp x)=.pointer (some ⟨g,j,none⟩):=by simp[Act.eval,hx]
 have e2:a.eval (.tmp y)=.agg new:=by simp[Act.eval,hy]
 have e:=exec_store_row (P:=P) (w:=w) (ev:=a.eval) (d:=none) (ty:=ty) (t:=t) (x:=.tmp x) (y:=.tmp y) (p:=p) (e:=af) (gd:=gd) (by omega) (by rw[e1];rfl) (by rw[e2];rfl) (by rw[e2,h1];rfl) (by rw[e1,e2];show j+new.size<=(rowOf w g).size;rw[hr];exact h2) (by rw[e1];exact hf) (by rw[e2];exact hc);unfold Oper.wp;rw[e,e1,e2]
 show K a (w.setRow g (splice (rowOf w g) j new));rw[hr];exact h
theorem wp_ssc{x y:Tmp}{n c:Nat}{cs:Array Value}(hx:a.tmps[x]?=some (.pointer (some ⟨g,j,none⟩)))(hy:a.tmps[y]?=some (.slice B n c))
  (hr:rowOf w g=cs) (hj:j<cs.size) (hf:frOf w g=(0,0)) (h:K a (w.setRow g (cs.setIfInBounds j (.slice B n c)))):
  Oper.wp Tryz.prog ⟨none,.store 32 (.tmp x) (.tmp y),t,p,af,gd⟩ a w K Q:=by
 have e1:a.eval (.tmp x)=.pointer (some ⟨g,j,none⟩):=by simp[Act.eval,hx]
 have e2:a.eval (.tmp y)=.slice B n c:=by simp[Act.eval,hy]
 obtain⟨t1,hb⟩:=row_blk (w:=w) (g:=g) (by rw[hr];omega);rw[hr,hf]at hb;have hc:w.cell? ⟨g,j,none⟩=some cs[j]:=by rw[cell_of_row _ _ _ _ _ _ hb];simp[hj]
 have hz:w.frozen? ⟨g,j,none⟩=false:=frozen_of_row _ _ _ _ _ hb;have hs:=setCell_eq_setRow w g j cs t1 (0,0) (.slice B n c) hb;unfold Oper.wp execOp;simp only[e1,e2];go_simp
 first|exact h|(rw[hs];exact h)
def Kp(base:Nat)(w1 w:World):Prop:=∀k,base<=k->k<w1.heap.size->w.heap[k]?=w1.heap[k]?
section
variable {base g:Nat} {w1 w w':World}
theorem Kp.refl(base:Nat)(w1:World):Kp base w1 w1:=fun _ _ _=>rfl
theorem Kp.row(h:Kp base w1 w)(hg:g<base∨w1.heap.size<=g)(cs:Array Value):Kp base w1 (w.setRow g cs):=fun k h1 h2=>(setRow_other w g k cs (by omega)).trans (h k h1 h2)
theorem Kp.cell(h:Kp base w1 w){p:Addr}(hg:p.block<base∨w1.heap.size<=p.block)(u:Value):Kp base w1 (w.setCell p u):=fun k h1 h2=>(Below.heap_setCell _ _ _ _ (by omega)).trans (h k h1 h2)
theorem Kp.below(h:Kp base w1 w)(hs:w1.heap.size<=w.heap.size)(hb:Below w.heap.size w w'):Kp base w1 w':=fun k h1 h2=>(hb.block k (by omega)).trans (h k h1 h2)
theorem Kp.alloc(h:Kp base w1 w)(hs:w1.heap.size<=w.heap.size)(o:Obj):Kp base w1 (w.alloc o):=h.below hs (bL o)
theorem Fresh.kp{P:World->Prop}{B:Nat}(h:Fresh base w1 P)(hk:Kp base w1 w)(hB:B<=base)(hs:w1.heap.size<=w.heap.size):Fresh B w P:=fun v hv=>h v fun k h1 h2=>(hv k (by omega) (by omega)).trans (hk k h1 h2)
end
@[go_sem] theorem setRow_setCell(w:World)(g j:Nat)(cs:Array Value)(v:Value):(w.setRow g cs).setCell ⟨g,j,none⟩ v=w.setRow g (cs.setIfInBounds j v):=by
 unfold World.setRow World.setCell;congr 1
 apply Array.ext_getElem?
 intro i;simp only[Array.getElem?_modify];by_cases e:g=i
 ·subst e;simp only[if_true]
  cases w.heap[g]? with
  |none=>rfl
  |some o=>cases o<;>rfl
 simp[e]
def DLoc.down(L:DLoc):DLoc:=⟨L.a0,L.c0,L.a1,L.c1,none,0,none,0⟩
theorem big_dev'(n:Nat)(h:0<n):bigBuild Tryz.prog 37 n:=by
 obtain⟨i,hi,_⟩:=info_parts (P:=Tryz.prog) (e:=37) (z:=.agg (devA Dev.zero DLoc.zero)) (size:=37) (bytes:=360) (by kernel_rfl);exact⟨i,hi,h⟩
@[go_sem] theorem big_dev2:bigBuild Tryz.prog 37 2:=big_dev' 2 (by decide)
@[go_sem] theorem build_dev2(a b:OA)(c e:Nat)(x y:LU)(p q:Cop)(w:World):runBuild Tryz.prog 37 #[(0,.agg (slotsA a x.length c b y.length e)),(1,.agg (copsA p q))] w=.ok (.agg (devA ⟨x,y,p,q,false,0,[],false,Pat.zero,0⟩ ⟨a,c,b,e,none,0,none,0⟩)) w:=by kernel_rfl
theorem DevIn.down{d:Dev}{L:DLoc}(h:DevIn w d L):DevIn w d.down L.down:=
 ⟨h.k0,h.l0,h.b0,h.k1,h.l1,h.b1,nl,Nat.zero_le _,Chs.nil _ _,pat_in_zero w,⟨by show -9223372036854775808<=(0:Int);omega,by show (0:Int)<=9223372036854775807;omega⟩,⟨by show -9223372036854775808<=(0:Int);omega,by show (0:Int)<=9223372036854775807;omega⟩⟩
theorem down_calls(d:Dev)(L:DLoc)(w:World):Calls Tryz.prog 47 #[.agg (devA d L)] w (RetB w (.agg (devA d.down L.down))):=by
 go_enter Tryz.func47,Tryz.ntmps47;go_wp2_with fail;refine bodyPost_ret (results_c rfl rfl (cs:=devA d.down L.down) (by go_simp;first|rfl|done) (by go_simp) (by go_simp)) rfl ⟨rfl,?_⟩;exact x9w3
theorem x38b(h:Y:=by
 by_cases e:j=ci
 ·rw[if_pos e,e];exact hv
 rw[if_neg e,hi j hj e]at hd;cases hd):Y:=h
section
variable {α:Type} {w0 w w':World} {ci cm e0 e1 al st a1:Nat} {row:α->Array Value} {zr:Array Value} {n:Int} {R:α->Nat->World->Prop} {dn:Nat->Bool} {cv:Nat->Value}
end
theorem wp_alloc{P:Program}{ty:TypeId}{d:Tmp}{zr:Array Value}(he:∀ev:Operand->Value,(execOp ev ⟨some d,.alloc ty,t,p,af,gd⟩).run P w=.ok (.value (.pointer (some ⟨w.heap.size,0,none⟩))) (w.alloc (.cells zr ty)))
  (h:K (a.put (some d) (.pointer (some ⟨w.heap.size,0,none⟩))) (w.alloc (.cells zr ty))):Oper.wp P ⟨some d,.alloc ty,t,p,af,gd⟩ a w K Q:=by
 unfold Oper.wp;rw[he];exact h
def tlJ{X:Type}(kn:List (Nat×Value))(ci st:Nat)(Pre:(Nat->Bool)->(Nat->Value)->World->Prop)(Post:X->World->Prop)(ix:List Nat)(val:X->Nat->Value)(sto:X->World->World)(dn:Nat->Bool)(cv:Nat->Value)(w:World):Prop:=
 (∀p∈kn,dn p.1=true->cv p.1=p.2)∧
 ((dn ci=false∧Pre dn cv w)∨(dn ci=true∧∃x w2,Post x w2∧(∀j∈ix,dn j=true->cv j=val x j)∧w=if dn st=true then sto x w2 else w2))
section
variable {X:Type} {kn:List (Nat×Value)} {ci st:Nat} {Pre:(Nat->Bool)->(Nat->Value)->World->Prop} {Post:X->World->Prop} {ix:List Nat} {val:X->Nat->Value} {sto:X->World->World} {dn:Nat->Bool} {cv:Nat->Value} {w w':World}
theorem tl_start(h:Pre (fun _=>false) (fun _=>undef) w):tlJ kn ci st Pre Post ix val sto (fun _=>false) (fun _=>undef) w:=⟨by simp,.inl ⟨rfl,h⟩⟩
theorem tl_pre(h:tlJ kn ci st Pre Post ix val sto dn cv w)(hc:dn ci=false):Pre dn cv w:=by
 rcases h.2 with ⟨_,h⟩|⟨h,_⟩
 ·exact h
 rw[hc]at h;cases h
theorem tl_ci{x:X}(h:tlJ kn ci st Pre Post ix val sto dn cv w)(hk:∀p∈kn,p.1≠ci)(hi:∀j∈ix,j≠ci->dn j=false)(hs:dn st=false)(hsc:st≠ci)(hv:v=val x ci)(hp:Post x w'):
  tlJ kn ci st Pre Post ix val sto (fun j=>if j=ci then true else dn j) (fun j=>if j=ci then v else cv j) w':=by
 refine⟨fun p hp' hd=>?_,.inr ⟨by simp,x,w',hp,fun j hj hd=>?_,?_⟩⟩
 ·dsimp only at hd⊢;rw[if_neg (hk p hp')]at hd⊢;exact h.1 p hp' hd
 ·dsimp only at hd⊢;exact x38b
 dsimp only;simp[hsc,hs]
theorem tl_ix(h:tlJ kn ci st Pre Post ix val sto dn cv w)(hc:dn ci=true)(hk:k≠ci)(hs:k≠st)(hkn:∀p∈kn,p.1≠k):
  ∃x,(∀j∈ix,dn j=true->cv j=val x j)∧∀v,v=val x k->tlJ kn ci st Pre Post ix val sto (fun j=>if j=k then true else dn j) (fun j=>if j=k then v else cv j) w:=by
 rcases h.2 with ⟨h2,_⟩|⟨_,x,w2,h1,h2,h3⟩
 ·rw[hc]at h2;cases h2
 refine⟨x,h2,fun v hv=>⟨fun p hp' hd=>?_,.inr ⟨(if_neg (fun e=>hk e.symm)).trans hc,x,w2,h1,fun j hj hd=>?_,?_⟩⟩⟩
 ·dsimp only at hd⊢;rw[if_neg (hkn p hp')]at hd⊢;exact h.1 p hp' hd
 ·dsimp only at hd⊢;by_cases e:j=k
  ·rw[if_pos e,e];exact hv
  rw[if_neg e]at hd⊢;exact h2 j hj hd
 dsimp only;have e:(if st=k then true else dn st)=dn st:=if_neg (fun e=>hs e.symm);simp only[e];exact h3
theorem tl_st(h:tlJ kn ci st Pre Post ix val sto dn cv w)(hc:dn ci=true)(hs:dn st=false)(hsc:ci≠st)(hkn:∀p∈kn,p.1≠st)(hix:∀j∈ix,j≠st):
  ∃x,Post x w∧(∀j∈ix,dn j=true->cv j=val x j)∧∀v,tlJ kn ci st Pre Post ix val sto (fun j=>if j=st then true else dn j) (fun j=>if j=st then v else cv j) (sto x w):=by
 rcases h.2 with ⟨h2,_⟩|⟨_,x,w2,h1,h2,h3⟩
 ·rw[hc]at h2;cases h2
 rw[hs,if_neg (by simp)]at h3;subst h3;refine⟨x,h1,h2,fun v=>⟨fun p hp' hd=>?_,.inr ⟨(if_neg hsc).trans hc,x,w,h1,fun j hj hd=>?_,?_⟩⟩⟩
 ·dsimp only at hd⊢;rw[if_neg (hkn p hp')]at hd⊢;exact h.1 p hp' hd
 ·dsimp only at hd⊢;rw[if_neg (hix j hj)]at hd⊢;exact h2 j hj hd
 simp
theorem tl_end(h:tlJ kn ci st Pre Post ix val sto dn cv w)(hc:dn ci=true)(hs:dn st=true):∃x w2,Post x w2∧(∀j∈ix,dn j=true->cv j=val x j)∧w=sto x w2:=by
 rcases h.2 with ⟨h2,_⟩|⟨_,x,w2,h1,h2,h3⟩
 ·rw[hc]at h2;cases h2
 rw[hs,if_pos rfl]at h3;exact⟨x,w2,h1,h2,h3⟩
end
structure TbJ{X:Type}(w0:World)(ci al st:Nat)(ix:List Nat)(val:X->Nat->Value)(row:X->Array Value)(zr:Array Value)(R:X->World->Prop)(x:X)(b gb:Nat)(w2:World)(dn:Nat->Bool)(cv:Nat->Value)(w:World):Prop where
 bel:Below w0.heap.size w0 w
 call:dn ci=true->w0.heap.size<=b∧Fresh b w2 (R x)∧Kp b w2 w∧w2.heap.size<=w.heap.size
 vals:dn ci=true->∀j∈ix,dn j=true->cv j=val x j
 box:dn al=true->cv al=.pointer (some ⟨gb,0,none⟩)∧w0.heap.size<=gb∧gb<w.heap.size∧frOf w gb=(0,0)∧(dn st=false->rowOf w gb=zr)∧(dn st=true->rowOf w gb=row x)
 apart:dn ci=true->dn al=true->gb<b∨w2.heap.size<=gb
def tbJ{X:Type}(w0:World)(ci al st:Nat)(ix:List Nat)(val:X->Nat->Value)(row:X->Array Value)(zr:Array Value)(R:X->World->Prop)(dn:Nat->Bool)(cv:Nat->Value)(w:World):Prop:=
 ∃(x:X) (b gb:Nat) (w2:World),TbJ w0 ci al st ix val row zr R x b gb w2 dn cv w
section
variable {X:Type} {w0 w w':World} {ci al st:Nat} {ix:List Nat} {val:X->Nat->Value} {row:X->Array Value} {zr:Array Value} {R:X->World->Prop} {dn:Nat->Bool} {cv:Nat->Value}
theorem tbJ_start(x:X):tbJ w0 ci al st ix val row zr R (fun _=>false) (fun _=>undef) w0.drew:=
 ⟨x,0,0,w0,(Below.refl _ _).drew,by simp,by simp,by simp,by simp⟩
theorem tbJ_bel(h:tbJ w0 ci al st ix val row zr R dn cv w):Below w0.heap.size w0 w:=by
 obtain⟨_,_,_,_,h⟩:=h;exact h.bel
theorem tbJ_c(hi:∀j∈ix,j≠ci->dn j=false)(h7:dn st=false)(n5:al≠ci)(n6:st≠ci)(h:tbJ w0 ci al st ix val row zr R dn cv w){x:X}(hv:v=val x ci)(hp:Fresh w.heap.size w' (R x))(hb:Below w.heap.size w w'):
  tbJ w0 ci al st ix val row zr R (fun j=>if j=ci then true else dn j) (fun j=>if j=ci then v else cv j) w':=by
 obtain⟨x1,b1,gb,w1,h⟩:=h;have hs:=h.bel.size;refine⟨x,w.heap.size,gb,w',h.bel.trans (hb.mono hs),fun _=>⟨hs,hp,Kp.refl _ _,nl⟩,fun _ j hj hd=>?_,?_,?_⟩
 ·try dsimp only at hd⊢
  exact x38b
 ·simp only[n5,n6,if_false];intro ha;obtain⟨g1,g2,g3,g4,g5,g6⟩:=h.box ha;exact⟨g1,g2,Nat.lt_of_lt_of_le g3 hb.size,(frOf_below g3 hb).trans g4,fun e=>(rowOf_below g3 hb).trans (g5 e),fun e=>by rw[h7]at e;cases e⟩
 simp only[n5,if_false];exact fun _ ha=>.inl (h.box ha).2.2.1
theorem tbJ_k(hc:dn ci=true)(hne:k≠ci)(hal:k≠al)(hst:k≠st)(h:tbJ w0 ci al st ix val row zr R dn cv w):
  ∃x,(∀j∈ix,dn j=true->cv j=val x j)∧∀v,v=val x k->tbJ w0 ci al st ix val row zr R (fun j=>if j=k then true else dn j) (fun j=>if j=k then v else cv j) w:=by
 obtain⟨x,b,gb,w1,h⟩:=h;refine⟨x,h.vals hc,fun v hv=>⟨x,b,gb,w1,h.bel,?_,fun _ j hj hd=>?_,?_,?_⟩⟩
 ·simp only[fun e:ci=k=>hne e.symm,if_neg (fun e:ci=k=>hne e.symm)];exact h.call
 ·try dsimp only at hd⊢
  by_cases e:j=k
  ·rw[if_pos e,e];exact hv
  rw[if_neg e]at hd⊢;exact h.vals hc j hj hd
 ·simp only[if_neg (fun e:al=k=>hal e.symm),if_neg (fun e:st=k=>hst e.symm)];exact h.box
 simp only[if_neg (fun e:ci=k=>hne e.symm),if_neg (fun e:al=k=>hal e.symm)];exact h.apart
theorem tbJ_a{ty:TypeId}(hal:dn al=false)(hs:dn st=false)(hix:∀j∈ix,j≠al)(n5:ci≠al)(n6:st≠al)(h:tbJ w0 ci al st ix val row zr R dn cv w):
  tbJ w0 ci al st ix val row zr R (fun j=>if j=al then true else dn j) (fun j=>if j=al then .pointer (some ⟨w.heap.size,0,none⟩)else cv j) (w.alloc (.cells zr ty)):=by
 obtain⟨x,b,gb,w1,h⟩:=h;have hsz:=h.bel.size;refine⟨x,b,w.heap.size,w1,h.bel.alloc hsz _,?_,?_,?_,?_⟩
 ·simp only[if_neg n5];intro e;obtain⟨g1,g3,g4,g5⟩:=h.call e;exact⟨g1,g3,g4.alloc g5 _,by simp;omega⟩
 ·simp only[if_neg n5];intro e j hj hd;rw[if_neg (hix j hj)]at hd⊢;exact h.vals e j hj hd
 ·simp only[n6,if_false,if_true];refine fun _=>⟨trivial,hsz,by simp,by rw[frOf_alloc,if_pos rfl],fun _=>by rw[rowOf_alloc,if_pos rfl],fun e=>by rw[hs]at e;cases e⟩
 simp only[if_neg n5];intro e _;exact .inr (h.call e).2.2.2
theorem tbJ_s(hz:0<zr.size)(hd:dn ci=true)(hs:dn st=false)(hal:dn al=true)(hix:∀j∈ix,j≠st)(n5:ci≠st)(n6:al≠st)(h:tbJ w0 ci al st ix val row zr R dn cv w):
  ∃(x:X) (gb:Nat),cv al=.pointer (some ⟨gb,0,none⟩)∧(∀j∈ix,dn j=true->cv j=val x j)∧rowOf w gb=zr∧frOf w gb=(0,0)∧∀v,tbJ w0 ci al st ix val row zr R (fun j=>if j=st then true else dn j) (fun j=>if j=st then v else cv j) (w.setRow gb (row x)):=by
 obtain⟨x,b,gb,w1,h⟩:=h;obtain⟨b1,b2,b3,b4,b5,b6⟩:=h.box hal;have hr:=b5 hs;refine⟨x,gb,b1,h.vals hd,hr,b4,fun v=>⟨x,b,gb,w1,below_row h.bel b2 _,?_,?_,?_,?_⟩⟩
 ·simp only[if_neg n5];intro e;obtain⟨g1,g3,g4,g5⟩:=h.call e;exact⟨g1,g3,g4.row (h.apart e hal) _,by simp[World.setRow];exact g5⟩
 ·simp only[if_neg n5];intro e j hj hd';rw[if_neg (hix j hj)]at hd'⊢;exact h.vals e j hj hd'
 ·simp only[n6,if_false,if_true];refine fun _=>⟨b1,b2,by simp[World.setRow];exact b3,by rw[frOf_setRow];exact b4,fun e=>by simp at e,fun _=>by rw[rowOf_setRow _ _ _ _ (by rw[hr];exact hz),if_pos rfl]⟩
 simp only[if_neg n5,if_neg n6];exact h.apart
theorem tbJ_end(h1:dn ci=true)(h6:dn al=true)(h7:dn st=true)(h:tbJ w0 ci al st ix val row zr R dn cv w):
  ∃(x:X) (b gb:Nat) (w2:World),(∀j∈ix,dn j=true->cv j=val x j)∧cv al=.pointer (some ⟨gb,0,none⟩)∧
   rowOf w gb=row x∧frOf w gb=(0,0)∧w0.heap.size<=gb∧gb<w.heap.size∧Below w0.heap.size w0 w∧w0.heap.size<=b∧Fresh b w2 (R x)∧Kp b w2 w∧w2.heap.size<=w.heap.size∧(gb<b∨w2.heap.size<=gb):=by
 obtain⟨x,b,gb,w1,h⟩:=h;obtain⟨g1,g3,g4,g5⟩:=h.call h1;obtain⟨b1,b2,b3,b4,b5,b6⟩:=h.box h6;exact⟨x,b,gb,w1,h.vals h1,b1,b6 h7,b4,b2,b3,h.bel,g1,g3,g4,g5,h.apart h1 h6⟩
end
@[go_sem] theorem aggSzHap:aggSz Tryz.prog 55=2:=by kernel_rfl
theorem ims_three{g0 g1 g2 g3:Nat}(h0:∃t f,w.heap[g0]?=some (.cells (im0.map bv).toArray t f))(h1:∃t f,w.heap[g1]?=some (.cells (im1.map bv).toArray t f))(h2:∃t f,w.heap[g2]?=some (.cells (im2.map bv).toArray t f))
  (h3:∃t f,w.heap[g3]?=some (.cells #[.slice (some ⟨g0,0,none⟩) 8 8,.slice (some ⟨g1,0,none⟩) 9 9,.slice (some ⟨g2,0,none⟩) 11 11] t f)):Ims w (some ⟨g3,0,none⟩) ims:=by
 obtain⟨_,_,h4⟩:=h0;obtain⟨_,_,h1⟩:=h1;obtain⟨_,_,h2⟩:=h2;obtain⟨_,_,h3⟩:=h3;intro i hi;have hi1:i<3:=hi;refine⟨g3,0,rfl,blk_lt h3,?_⟩;have hc:=fun j=>cell_of_row w g3 j _ _ _ h3
 match i,hi1 with
 |0,_=>exact⟨[.slice (some ⟨g0,0,none⟩) 8 8],rfl,(fun j hj=>by
  obtain rfl:j=0:=by simpa using hj
  simp[hc]),⟨_,8,rfl,nl,Nat.le_of_ble_eq_true rfl,bts_blk h4 rfl⟩⟩
 |1,_=>exact⟨[.slice (some ⟨g1,0,none⟩) 9 9],rfl,(fun j hj=>by
  obtain rfl:j=0:=by simpa using hj
  simp[hc]),⟨_,9,rfl,nl,Nat.le_of_ble_eq_true rfl,bts_blk h1 rfl⟩⟩
 |2,_=>exact⟨[.slice (some ⟨g2,0,none⟩) 11 11],rfl,(fun j hj=>by
  obtain rfl:j=0:=by simpa using hj
  simp[hc]),⟨_,11,rfl,nl,Nat.le_of_ble_eq_true rfl,bts_blk h2 rfl⟩⟩
def IsRet(w:World):Ending->World->Prop:=fun en w'=>
 ∃A c,en=.returned (.slice A ims.length c)∧ims.length<=c∧Ims w' A ims∧Below w.heap.size w w'
theorem lawImages_calls(w:World):Calls Tryz.prog 31 #[] w (IsRet w):=by
 have kc:=convert_const (P:=Tryz.prog) 22 5 Tryz.underlying22 Tryz.underlying5;go_enter Tryz.func31,Tryz.ntmps31;go_wp2_with fail;go_ret;refine⟨some ⟨w.heap.size+1+1+1,0,none⟩,3,rfl,nl,ims_three (g0:=w.heap.size) (g1:=w.heap.size+1) (g2:=w.heap.size+1+1) ?_ ?_ ?_ ?_,?_⟩
 ·exact⟨_,_,blk_old (blk_old (blk_old (blk_top (by simp))))⟩
 ·exact⟨_,_,blk_old (blk_old (blk_top (by simp)))⟩
 ·exact⟨_,_,blk_old (blk_top (by simp))⟩
 ·exact⟨_,_,blk_top (by simp)⟩
 exact((((Below.refl _ _).alloc (by simp) _).alloc (by simp) _).alloc (by simp;omega) _).alloc (by simp;omega) _
theorem Ims.at_{l:List (List UInt8)}(h:Ims w A l){n:Nat}(hn:n<l.length):∃b o B m,A=some ⟨b,o,none⟩∧b<w.heap.size∧w.cell? ⟨b,o+n,none⟩=some (.slice B l[n].length m)∧l[n].length<=m∧Bts w B l[n]:=by
 obtain⟨b,o,rfl,hb,cs,h1,h2,B,m,h3,h4,h5,h6⟩:=h n hn;subst h3;refine⟨b,o,B,m,rfl,hb,?_,h4,h6⟩;have:=h2 0 (by simp);simpa using this
section
variable {X:Type} {w0 w w':World} {ci al st:Nat} {ix:List Nat} {val:X->Nat->Value} {row:X->Array Value} {zr:Array Value} {R:X->World->Prop} {dn:Nat->Bool} {cv:Nat->Value}
theorem tbJ_o(hc:k≠ci)(hal:k≠al)(hst:k≠st)(hix:∀j∈ix,j≠k)(h:tbJ w0 ci al st ix val row zr R dn cv w)(hb:Below w.heap.size w w'):
  tbJ w0 ci al st ix val row zr R (fun j=>if j=k then true else dn j) (fun j=>if j=k then v else cv j) w':=by
 obtain⟨x,b,gb,w1,h⟩:=h;refine⟨x,b,gb,w1,h.bel.trans (hb.mono h.bel.size),?_,?_,?_,?_⟩
 ·simp only[if_neg (fun e:ci=k=>hc e.symm)];intro e;obtain⟨g1,g3,g4,g5⟩:=h.call e;exact⟨g1,g3,fun q h1 h2=>(hb.block q (by omega)).trans (g4 q h1 h2),Nat.le_trans g5 hb.size⟩
 ·simp only[if_neg (fun e:ci=k=>hc e.symm)];intro e j hj hd;rw[if_neg (hix j hj)]at hd⊢;exact h.vals e j hj hd
 ·simp only[if_neg (fun e:al=k=>hal e.symm),if_neg (fun e:st=k=>hst e.symm)];intro ha;obtain⟨g1,g2,g3,g4,g5,g6⟩:=h.box ha;exact⟨g1,g2,Nat.lt_of_lt_of_le g3 hb.size,(frOf_below g3 hb).trans g4,fun e=>(rowOf_below g3 hb).trans (g5 e),fun e=>(rowOf_below g3 hb).trans (g6 e)⟩
 simp only[if_neg (fun e:ci=k=>hc e.symm),if_neg (fun e:al=k=>hal e.symm)];exact h.apart
end
def imC(i0 i1 i2 idx:Nat)(im:LU)(dn:Nat->Bool)(cv:Nat->Value)(w:World):Prop:=
 (dn i0=true->∃b o c,cv i0=.slice (some ⟨b,o,none⟩) 3 c∧3<=c∧Ims w (some ⟨b,o,none⟩) ims∧(dn i1=true->cv i1=.pointer (some ⟨b,o+idx,none⟩)))∧
 (dn i2=true->∃B m,cv i2=.slice B im.length m∧im.length<=m∧Bts w B im)
section
variable {i0 i1 i2 idx k:Nat} {im:LU} {dn:Nat->Bool} {cv:Nat->Value} {w w':World} {v:Value}
theorem imC_o(h0:i0≠k)(h1:i1≠k)(h2:i2≠k)(h:imC i0 i1 i2 idx im dn cv w)(hb:Below w.heap.size w w'):imC i0 i1 i2 idx im (fun j=>if j=k then true else dn j) (fun j=>if j=k then v else cv j) w':=by
 unfold imC;simp only[if_neg h0,if_neg h1,if_neg h2];refine⟨fun e=>?_,fun e=>?_⟩
 ·obtain⟨b,o,c,e1,e2,e3,e4⟩:=h.1 e;exact⟨b,o,c,e1,e2,e3.stays hb,e4⟩
 obtain⟨B,m,e1,e2,e3⟩:=h.2 e;exact⟨B,m,e1,e2,e3.stays hb⟩
theorem imC_0{b o c:Nat}(h1:i1≠i0)(h2:i2≠i0)(hd:dn i1=false)(hd2:dn i2=false)(hv:v=.slice (some ⟨b,o,none⟩) 3 c)(hc:3<=c)(hi:Ims w' (some ⟨b,o,none⟩) ims):imC i0 i1 i2 idx im (fun j=>if j=i0 then true else dn j) (fun j=>if j=i0 then v else cv j) w':=by
 unfold imC;simp only[if_true,if_neg h1,if_neg h2,hd,hd2];exact⟨fun _=>⟨b,o,c,hv,hc,hi,fun e=>by cases e⟩,fun e=>by cases e⟩
theorem imC_1(h0:i0≠i1)(h2:i2≠i1)(hd:dn i0=true)(hd2:dn i2=false)(h:imC i0 i1 i2 idx im dn cv w):∃b o c,cv i0=.slice (some ⟨b,o,none⟩) 3 c∧3<=c∧∀v,v=.pointer (some ⟨b,o+idx,none⟩)->imC i0 i1 i2 idx im (fun j=>if j=i1 then true else dn j) (fun j=>if j=i1 then v else cv j) w:=by
 obtain⟨b,o,c,e1,e2,e3,e4⟩:=h.1 hd;refine⟨b,o,c,e1,e2,fun v hv=>?_⟩;unfold imC;simp only[if_neg h0,if_true,if_neg h2,hd2];exact⟨fun _=>⟨b,o,c,e1,e2,e3,fun _=>hv⟩,fun e=>by cases e⟩
theorem imC_2(h0:i0≠i2)(h1:i1≠i2)(hd:dn i0=true)(hd1:dn i1=true)(hl:idx<ims.length)(hi:ims[idx]?=some im)(h:imC i0 i1 i2 idx im dn cv w):∃b o B m,cv i1=.pointer (some ⟨b,o+idx,none⟩)∧w.cell? ⟨b,o+idx,none⟩=some (.slice B im.length m)∧∀v,v=.slice B im.length m->imC i0 i1 i2 idx im (fun j=>if j=i2 then true else dn j) (fun j=>if j=i2 then v else cv j) w:=by
 obtain⟨b,o,c,e1,e2,e3,e4⟩:=h.1 hd;obtain⟨b',o',B,m,f1,f2,f3,f4,f5⟩:=e3.at_ hl;have hg:ims[idx]=im:=by rw[List.getElem?_eq_getElem hl]at hi;injection hi
 cases f1;rw[hg]at f3 f4 f5;refine⟨b,o,B,m,e4 hd1,f3,fun v hv=>?_⟩;unfold imC;simp only[if_neg h0,if_neg h1,if_true];exact⟨fun _=>⟨b,o,c,e1,e2,e3,e4⟩,fun _=>⟨B,m,hv,f4,f5⟩⟩
end
theorem refPatCheck_calls(A:OA)(c:Nat)(f t o n sz:Int)(l:List Stp)(w:World)(hl:l.length<=3518437208780)(hs:Sps w A l):
  Calls Tryz.prog 65 #[.agg (patA f t o n sz A l.length c)] w (RetB w (iv (patCheck ⟨f,t,o,n,sz,l⟩))):=refPatCheckA_calls A c f t o n sz l w hl hs
theorem refMade_many(A B:OA)(c d:Nat)(fr to_:Int)(old b:LU)(w:World)(h:64<old.length∨64<b.length)(ho:old.length<=140737488351232)(hl:b.length<=140737488351232):
  Calls Tryz.prog 32 #[iv fr,iv to_,.slice A old.length c,.slice B b.length d] w (PaRet w Pat.zero 1):=by
 have K:=qH (fun w=>refDiffed_many A B c d old b w h ho hl);clear h;go_enter Tryz.func32,Tryz.ntmps32;go_wp2_with fail;refine(K.out _).mono ?_;rintro e w1 ⟨rfl,hb1⟩;have a1:=kp (w.heap.size) (patA 0 0 0 0 0 none 0 0) hb1;have HB:=qH (((Below.refl _ _).alloc (Nat.le_refl w.heap.size) _).trans (hb1.mono (by simp)));clear hb1;go_wp2_with fail;refine bodyPost_ret (rC (patA 0 0 0 0 0 none 0 0)) rfl ⟨none,0,rfl,.const fun v=>patIn_zero v,below_row HB.out (by omega) _⟩
theorem refMade_fit(A B:OA)(c d:Nat)(fr to_:Int)(old b:LU)(w:World)(hml:ML w)(hc:old.length<=c)(hd:b.length<=d)(hf:I64 fr)(ht:I64 to_)(ho:old.length<=64)(hl:b.length<=64)(hA:Bts w A old)(hB:Bts w B b):
  Calls Tryz.prog 32 #[iv fr,iv to_,.slice A old.length c,.slice B b.length d] w (PaRet w (patMake (sumOn 1) fr to_ old b).1 (patMake (sumOn 1) fr to_ old b).2):=by
 have K1:=qH (fun w hm h1 h2=>refDiffed3_calls A B c d old b w hm hc hd ho hl h1 h2);have K2:=qH (fun w h=>refSumOf_calls A c old w (by omega) h);have K3:=qH (fun w h=>refSumOf_calls B d b w (by omega) h);have hs1:=sumOn_bd 1 old (by omega);have hs2:=sumOn_bd 1 b (by omega);have hdl:(diffed old b).length<=40:=(diffed_ok old b ho hl).many;have HM:Hid ((patMake (sumOn 1) fr to_ old b)=if patCheck ⟨fr,to_,sumOn 1 old,sumOn 1 b,b.length,diffed old b⟩≠0 then (Pat.zero,patCheck ⟨fr,to_,sumOn 1 old,sumOn 1 b,b.length,diffed old b⟩)else (⟨fr,to_,sumOn 1 old,sumOn 1 b,b.length,diffed old b⟩,0)):=qH (by
  unfold patMake;rw[if_neg (by omega)])
 generalize sumOn 1 old=s1 at *
 generalize sumOn 1 b=s2 at *
 generalize diffed old b=l at *
 have HA:=qH hA;have HB:=qH hB;have HML:=qH hml;have HI:Hid (I64 fr∧I64 to_):=qH ⟨hf,ht⟩;clear hA hB hf ht hml;generalize patMake (sumOn 1) fr to_ old b=r at *
 go_enter Tryz.func32,Tryz.ntmps32;go_wp2_with fail;have hba:=(bW w).alloc nl (.cells (patA 0 0 0 0 0 none 0 0) 35);refine(K1.out _ (HML.out.stays hba) (HA.out.stays hba) (HB.out.stays hba)).mono ?_;rintro e w1 ⟨A1,c1,rfl,hsp,hc1,hb1⟩;have a1:=kp (w.heap.size) (patA 0 0 0 0 0 none 0 0) hb1;have HB1:=qH (hba.trans (hb1.mono (by simp)));have HSP:=qH hsp;clear hb1 hba hsp;go_wp2_with fail;refine(K2.out _ (HA.out.stays HB1.out)).mono ?_;rintro e w2 ⟨rfl,rfl⟩;go_wp2_with fail;refine(K3.out _ (HB.out.stays HB1.out)).mono ?_;rintro e w3 ⟨rfl,rfl⟩;go_wp2_with fail;have hba:=(bW w1).alloc nl (.cells (patA fr to_ s1 s2 b.length A1 l.length c1) 35);have HS1:=qH (HSP.out.below hba nl);refine(refPatCheck_calls A1 c1 fr to_ s1 s2 b.length l _ (by omega) HS1.out.now).mono ?_;rintro e w4 ⟨rfl,hb1⟩;have b2:=kp (w.heap.size) (patA 0 0 0 0 0 none 0 0) hb1;have b1:=kp (w1.heap.size) (patA fr to_ s1 s2 b.length A1 l.length c1) hb1;have HB2:Hid (Below w.heap.size w w4):=qH ((HB1.out.alloc HB1.out.size _).trans (hb1.mono (by have:=HB1.out.size;simp;omega)));have HS2:=qH (HS1.out.below hb1 nl);have HPI:Hid (Fresh (w.heap.size+1) w4 (fun v=>PatIn v ⟨fr,to_,s1,s2,b.length,l⟩ A1 c1)):=qH (Fresh.imp (by simpa using HS2.out) fun v hv=>⟨hc1,by dsimp only;omega,hv,HI.out.1,HI.out.2,⟨by dsimp only;omega,by dsimp only;omega⟩,⟨by dsimp only;omega,by dsimp only;omega⟩,⟨by dsimp only;omega,by dsimp only;omega⟩⟩);clear hb1 hba;by_cases hz:patCheck ⟨fr,to_,s1,s2,b.length,l⟩=0
 ·have hr:r=(⟨fr,to_,s1,s2,b.length,l⟩,0):=by rw[HM.out,if_neg (by simpa using hz)]
  have HR:=qH hr;clear hr;go_wp2_with fail;refine bodyPost_ret (rC (patA fr to_ s1 s2 b.length A1 l.length c1)) rfl ?_;rw[HR.out];exact⟨A1,c1,rfl,(HPI.out.row (by omega) _).mono (by omega),below_row HB2.out (by omega) _⟩
 have hr:r=(Pat.zero,patCheck ⟨fr,to_,s1,s2,b.length,l⟩):=by rw[HM.out,if_pos hz]
 have hq:(patCheck ⟨fr,to_,s1,s2,b.length,l⟩ !=0)=true:=by simp[hz]
 have HR:=qH hr;clear hr hz;generalize patCheck ⟨fr,to_,s1,s2,b.length,l⟩=e1 at *
 go_wp2_with fail;refine bodyPost_ret (rC (patA 0 0 0 0 0 none 0 0)) rfl ?_;rw[HR.out];exact x9g1
theorem refMade_calls(A B:OA)(c d:Nat)(fr to_:Int)(old b:LU)(w:World)(hml:ML w)(hc:old.length<=c)(hd:b.length<=d)(hf:I64 fr)(ht:I64 to_)(ho:old.length<=140737488351232)(hl:b.length<=140737488351232)(hA:Bts w A old)(hB:Bts w B b):
  Calls Tryz.prog 32 #[iv fr,iv to_,.slice A old.length c,.slice B b.length d] w (PaRet w (patMake (sumOn 1) fr to_ old b).1 (patMake (sumOn 1) fr to_ old b).2):=by
 by_cases h:64<old.length∨64<b.length
 ·have e:patMake (sumOn 1) fr to_ old b=(Pat.zero,1):=by unfold patMake;rw[if_pos h]
  rw[e];exact refMade_many A B c d fr to_ old b w h ho hl
 exact refMade_fit A B c d fr to_ old b w hml hc hd hf ht (by omega) (by omega) hA hB
end Go.Proofs.YtefkfglkpebbmacGreat
