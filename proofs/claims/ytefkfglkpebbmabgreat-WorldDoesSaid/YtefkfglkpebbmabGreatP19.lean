/- Walks. No conditions. -/
import Derived.Test.YtefkfglkpebbmabGreatP15
import Derived.Test.YtefkfglkpebbmabGreatP40
import Derived.ArgAppend
set_option linter.all false
set_option maxRecDepth 100000
set_option maxHeartbeats 0
namespace Go.Proofs.YtefkfglkpebbmabGreat
open Go.RowKit
variable {Y:Prop}
variable {k:Nat} {w:World}
def tlJ{X:Type}(kn:List (Nat×Value))(ci st:Nat)(Pre:(Nat->Bool)->(Nat->Value)->World->Prop)(Post:X->World->Prop)(ix:List Nat)(val:X->Nat->Value)(sto:X->World->World)(dn:Nat->Bool)(cv:Nat->Value)(w:World):Prop:=
 (∀p∈kn,dn p.1=true->cv p.1=p.2)∧
 ((dn ci=false∧Pre dn cv w)∨(dn ci=true∧∃x w2,Post x w2∧(∀j∈ix,dn j=true->cv j=val x j)∧w=if dn st=true then sto x w2 else w2))
section
variable {X:Type} {kn:List (Nat×Value)} {ci st:Nat} {Pre:(Nat->Bool)->(Nat->Value)->World->Prop} {Post:X->World->Prop} {ix:List Nat} {val:X->Nat->Value} {sto:X->World->World} {dn:Nat->Bool} {cv:Nat->Value} {w w':World}
theorem tl_start(h:Pre (fun _=>false) (fun _=>undef) w):tlJ kn ci st Pre Post ix val sto (fun _=>false) (fun _=>undef) w:=⟨by simp,.inl ⟨rfl,h⟩⟩
theorem tl_kn(h:tlJ kn ci st Pre Post ix val sto dn cv w):∀p∈kn,dn p.1=true->cv p.1=p.2:=h.1
theorem tl_pre(h:tlJ kn ci st Pre Post ix val sto dn cv w)(hc:dn ci=false):Pre dn cv w:=by
 rcases h.2 with ⟨_,h⟩|⟨h,_⟩
 ·exact h
 rw[hc]at h;cases h
theorem tl_one{v:Value}(h:tlJ kn ci st Pre Post ix val sto dn cv w)(hc:dn ci=false)(hk:k≠ci)(hv:∀p∈kn,p.1=k->p.2=v)(hp:Pre (fun j=>if j=k then true else dn j) (fun j=>if j=k then v else cv j) w'):
  tlJ kn ci st Pre Post ix val sto (fun j=>if j=k then true else dn j) (fun j=>if j=k then v else cv j) w':=by
 refine⟨fun p hp' hd=>?_,.inl ⟨(if_neg (fun e=>hk e.symm)).trans hc,hp⟩⟩;dsimp only at hd⊢;by_cases e:p.1=k
 ·rw[if_pos e];exact(hv p hp' e).symm
 rw[if_neg e]at hd⊢;exact h.1 p hp' hd
theorem tl_ci{x:X}{v:Value}(h:tlJ kn ci st Pre Post ix val sto dn cv w)(hk:∀p∈kn,p.1≠ci)(hi:∀j∈ix,j≠ci->dn j=false)(hs:dn st=false)(hsc:st≠ci)(hv:v=val x ci)(hp:Post x w'):
  tlJ kn ci st Pre Post ix val sto (fun j=>if j=ci then true else dn j) (fun j=>if j=ci then v else cv j) w':=by
 refine⟨fun p hp' hd=>?_,.inr ⟨by simp,x,w',hp,fun j hj hd=>?_,?_⟩⟩
 ·dsimp only at hd⊢;rw[if_neg (hk p hp')]at hd⊢;exact h.1 p hp' hd
 ·dsimp only at hd⊢;by_cases e:j=ci
  ·rw[if_pos e,e];exact hv
  rw[if_neg e,hi j hj e]at hd;cases hd
 dsimp only;simp[hsc,hs]
theorem tl_ix(h:tlJ kn ci st Pre Post ix val sto dn cv w)(hc:dn ci=true)(hk:k≠ci)(hs:k≠st)(hkn:∀p∈kn,p.1≠k):
  ∃x,(∀j∈ix,dn j=true->cv j=val x j)∧∀v,v=val x k->tlJ kn ci st Pre Post ix val sto (fun j=>if j=k then true else dn j) (fun j=>if j=k then v else cv j) w:=by
 rcases h.2 with ⟨h2,_⟩|⟨_,x,w2,h1,h2,h3⟩
 ·rw[hc]at h2;cases h2
 refine⟨x,h2,fun v hv=>⟨fun p hp' hd=>?_,.inr ⟨(if_neg (fun e=>hk e.symm)).trans hc,x,w2,h1,fun j hj hd=>?_,?_⟩⟩⟩
 ·dsimp only at hd⊢;rw[if_neg (hkn p hp')]at hd⊢;exact h.1 p hp' hd
 ·dsimp only at hd⊢;by_cases e:j=k
  ·rw[if_pos e,e];exact hv
  rw[if_neg e]at hd⊢;exact h2 j hj hd
 dsimp only;have e:(if st=k then true else dn st)=dn st:=if_neg (fun e=>hs e.symm);simp only[e];exact h3
theorem tl_st(h:tlJ kn ci st Pre Post ix val sto dn cv w)(hc:dn ci=true)(hs:dn st=false)(hsc:ci≠st)(hkn:∀p∈kn,p.1≠st)(hix:∀j∈ix,j≠st):
  ∃x,Post x w∧(∀j∈ix,dn j=true->cv j=val x j)∧∀v,tlJ kn ci st Pre Post ix val sto (fun j=>if j=st then true else dn j) (fun j=>if j=st then v else cv j) (sto x w):=by
 rcases h.2 with ⟨h2,_⟩|⟨_,x,w2,h1,h2,h3⟩
 ·rw[hc]at h2;cases h2
 rw[hs,if_neg (by simp)]at h3;subst h3;refine⟨x,h1,h2,fun v=>⟨fun p hp' hd=>?_,.inr ⟨(if_neg hsc).trans hc,x,w,h1,fun j hj hd=>?_,?_⟩⟩⟩
 ·dsimp only at hd⊢;rw[if_neg (hkn p hp')]at hd⊢;exact h.1 p hp' hd
 ·dsimp only at hd⊢;rw[if_neg (hix j hj)]at hd⊢;exact h2 j hj hd
 simp
theorem tl_end(h:tlJ kn ci st Pre Post ix val sto dn cv w)(hc:dn ci=true)(hs:dn st=true):∃x w2,Post x w2∧(∀j∈ix,dn j=true->cv j=val x j)∧w=sto x w2:=by
 rcases h.2 with ⟨h2,_⟩|⟨_,x,w2,h1,h2,h3⟩
 ·rw[hc]at h2;cases h2
 rw[hs,if_pos rfl]at h3;exact⟨x,w2,h1,h2,h3⟩
end
@[go_sem] theorem aggSzHap:aggSz Tryz.prog 42=2:=by kernel_rfl
theorem ims_three{g0 g1 g2 g3:Nat}(h0:∃t f,w.heap[g0]?=some (.cells (im0.map bv).toArray t f))(h1:∃t f,w.heap[g1]?=some (.cells (im1.map bv).toArray t f))(h2:∃t f,w.heap[g2]?=some (.cells (im2.map bv).toArray t f))
  (h3:∃t f,w.heap[g3]?=some (.cells #[.slice (some ⟨g0,0,none⟩) 8 8,.slice (some ⟨g1,0,none⟩) 9 9,.slice (some ⟨g2,0,none⟩) 11 11] t f)):Ims w (some ⟨g3,0,none⟩) ims:=by
 obtain⟨_,_,h4⟩:=h0;obtain⟨_,_,h1⟩:=h1;obtain⟨_,_,h2⟩:=h2;obtain⟨_,_,h3⟩:=h3;intro i hi;have hi1:i<3:=hi;refine⟨g3,0,rfl,blk_lt h3,?_⟩;have hc:=fun j=>cell_of_row w g3 j _ _ _ h3
 match i,hi1 with
 |0,_=>exact⟨[.slice (some ⟨g0,0,none⟩) 8 8],rfl,(fun j hj=>by
  obtain rfl:j=0:=by simpa using hj
  simp[hc]),⟨_,8,rfl,nl,Nat.le_of_ble_eq_true rfl,bts_blk h4 rfl⟩⟩
 |1,_=>exact⟨[.slice (some ⟨g1,0,none⟩) 9 9],rfl,(fun j hj=>by
  obtain rfl:j=0:=by simpa using hj
  simp[hc]),⟨_,9,rfl,nl,Nat.le_of_ble_eq_true rfl,bts_blk h1 rfl⟩⟩
 |2,_=>exact⟨[.slice (some ⟨g2,0,none⟩) 11 11],rfl,(fun j hj=>by
  obtain rfl:j=0:=by simpa using hj
  simp[hc]),⟨_,11,rfl,nl,Nat.le_of_ble_eq_true rfl,bts_blk h2 rfl⟩⟩
def IsRet(w:World):Ending->World->Prop:=fun en w'=>
 ∃A c,en=.returned (.slice A ims.length c)∧ims.length<=c∧Ims w' A ims∧Below w.heap.size w w'
theorem lawImages_calls(w:World):Calls Tryz.prog 27 #[] w (IsRet w):=by
 have kc:=convert_const (P:=Tryz.prog) 23 5 Tryz.underlying23 Tryz.underlying5;go_enter Tryz.func27,Tryz.ntmps27;go_wp2_with fail;go_ret;refine⟨some ⟨w.heap.size+1+1+1,0,none⟩,3,rfl,nl,ims_three (g0:=w.heap.size) (g1:=w.heap.size+1) (g2:=w.heap.size+1+1) ?_ ?_ ?_ ?_,?_⟩
 ·exact⟨_,_,blk_old (blk_old (blk_old (blk_top (by simp))))⟩
 ·exact⟨_,_,blk_old (blk_old (blk_top (by simp)))⟩
 ·exact⟨_,_,blk_old (blk_top (by simp))⟩
 ·exact⟨_,_,blk_top (by simp)⟩
 exact((((Below.refl _ _).alloc (by simp) _).alloc (by simp) _).alloc (by simp;omega) _).alloc (by simp;omega) _
def idxE(p:Int->Bool):List Int->Nat->Int
 |[],_=> -1
 |x::r,k=>if p x=true then (k:Int)else idxE p r (k+1)
theorem idxE_f{p:Int->Bool}{x:Int}{r:List Int}(h:p x=false):idxE p (x::r) k=idxE p r (k+1):=if_neg (by simp[h])
theorem idxE_t{p:Int->Bool}{x:Int}{r:List Int}(h:p x=true):idxE p (x::r) k=(k:Int):=if_pos h
theorem idxE_ge(p:Int->Bool):∀(l:List Int) (k:Nat),decide ((0:Int)<=idxE p l k)=l.any p
 |[],k=>by simp[idxE]
 |x::r,k=>by
  unfold idxE;by_cases h:p x=true
  ·rw[if_pos h];simp[h]
  rw[if_neg h,idxE_ge p r];simp[h]
theorem indexErrs_calls(A:OA)(c:Nat)(l:List Int)(e:Int)(w:World)(hl:l.length<=140737488351232)(hs:Nts w A l):
  Calls Tryz.prog 29 #[.slice A l.length c,iv e] w (RetB w (iv (idxE (fun x=>e==x) l 0))):=by
 have HS:=qH hs;obtain⟨r,hr⟩:=eX (idxE (fun x=>e==x) l 0);rw[hr];have HR:Hid (idxE (fun x=>e==x) l 0=r):=qH hr;clear hr hs;go_enter Tryz.func29,Tryz.ntmps29;go_wp2_with fail;go_loopw [8] (fun i wr=>∃k:Nat,k<=l.length∧i=iv k∧Hid (idxE (fun x=>e==x) (l.drop k) k=r)∧Hid (Below w.heap.size w wr)) (fun i _=>l.length-(intOf i).toNat)
 case atStart=>exact⟨0,Nat.zero_le _,rfl,qH HR.out,qH (Below.refl _ _)⟩
 case round=>
  rename World=>wr;obtain⟨k,hk,rfl,HE,HB⟩:=hrel;have hsz:=HB.out.size;by_cases hlk:k<l.length
  ·obtain⟨b,o,rfl,hs1,p1⟩:=(HS.out.stays HB.out) k hlk;have hdr:l.drop k=l[k]::l.drop (k+1):=List.drop_eq_getElem_cons hlk;rw[hdr]at HE;clear hdr;generalize l[k]=x at *
   obtain⟨q,hq⟩:=eX ((e==x));have HX:Hid ((fun x=>e==x) x=q):=qH hq
   cases q
   ·have HE1:Hid (idxE (fun x=>e==x) (l.drop (k+1)) (k+1)=r):=qH ((idxE_f (p:=fun x=>e==x) HX.out).symm.trans HE.out);clear HE HX;go_wp2_with fail;go_roundw
    case rel=>exact⟨k+1,by omega,by go_num,HE1,qH (by first|exact HB.out|exact HB.out.drew)⟩
    case measure=>simp[intOf]<;>omega
   have HE1:Hid ((k:Int)=r):=qH ((idxE_t (p:=fun x=>e==x) HX.out).symm.trans HE.out);clear HE HX;go_wp2_with fail;go_ret;exact⟨by rw[<-HE1.out];rfl,by first|exact HB.out|exact HB.out.drew⟩
  exact x4mb
theorem gone2_calls(x:Int)(w:World):Calls Tryz.prog 32 #[iv x] w (RetB w (.bool (x !=0))):=by
 go_enter Tryz.func32,Tryz.ntmps32;exact x43h
theorem idxErrs_calls(A:OA)(c:Nat)(l:List Int)(w:World)(hl:l.length<=140737488351232)(hs:Nts w A l):
  Calls Tryz.prog 70 #[.slice A l.length c,.func (Fn.func 32) #[] #[]] w (RetB w (iv (idxE (fun x=>x !=0) l 0))):=by
 have HS:=qH hs;obtain⟨r,hr⟩:=eX (idxE (fun x=>x !=0) l 0);rw[hr];have HR:Hid (idxE (fun x=>x !=0) l 0=r):=qH hr;clear hr hs;go_enter Tryz.func70,Tryz.ntmps70;go_wp2_with fail;go_loopw [8] (fun i wr=>∃k:Nat,k<=l.length∧i=iv k∧Hid (idxE (fun x=>x !=0) (l.drop k) k=r)∧Hid (Below w.heap.size w wr)) (fun i _=>l.length-(intOf i).toNat)
 case atStart=>exact⟨0,Nat.zero_le _,rfl,qH HR.out,qH (Below.refl _ _)⟩
 case round=>
  rename World=>wr;obtain⟨k,hk,rfl,HE,HB⟩:=hrel;have hsz:=HB.out.size;by_cases hlk:k<l.length
  ·obtain⟨b,o,rfl,hs1,p1⟩:=(HS.out.stays HB.out) k hlk;have hdr:l.drop k=l[k]::l.drop (k+1):=List.drop_eq_getElem_cons hlk;rw[hdr]at HE;clear hdr;generalize l[k]=x at *
   obtain⟨q,hq⟩:=eX ((x !=0));have HX:Hid ((fun x=>x !=0) x=q):=qH hq;have HC:Hid (∀w',Calls Tryz.prog 32 #[iv x] w' (RetB w' (.bool q))):=qH fun w'=>hq▸gone2_calls x w';clear hq;go_wp2_with fail;refine(HC.out _).mono ?_;rintro e w1 ⟨rfl,hb1⟩;have HB1:Hid (Below w.heap.size w w1):=qH (HB.out.trans (hb1.mono hsz));clear hb1
   cases q
   ·have HE1:Hid (idxE (fun x=>x !=0) (l.drop (k+1)) (k+1)=r):=qH ((idxE_f (p:=fun x=>x !=0) HX.out).symm.trans HE.out);clear HE HX;exact x0jj
   have HE1:Hid ((k:Int)=r):=qH ((idxE_t (p:=fun x=>x !=0) HX.out).symm.trans HE.out);clear HE HX;exact x9r8
  exact x4mb
theorem anyErrs_calls(A:OA)(c:Nat)(l:List Int)(w:World)(hl:l.length<=140737488351232)(hs:Nts w A l):
  Calls Tryz.prog 30 #[.slice A l.length c,.func (Fn.func 32) #[] #[]] w (RetB w (.bool (l.any (fun x=>x !=0)))):=by
 have HK:=qH (idxErrs_calls A c l w hl hs);rw[<-idxE_ge (fun x=>x !=0) l 0];clear hs;generalize idxE (fun x=>x !=0) l 0=r at *
 go_enter Tryz.func30,Tryz.ntmps30;go_wp2_with fail;refine HK.out.mono ?_;exact x3rf
theorem ofHap_calls(k n:Int)(w:World):Calls Tryz.prog 26 #[iv k,iv n] w (RetB w (.agg #[iv k,iv n])):=by
 go_enter Tryz.func26,Tryz.ntmps26;go_wp2_with fail;refine bodyPost_ret (results_c rfl rfl (cs:=#[iv k,iv n]) (by go_simp) (by go_simp) (by go_simp)) rfl ⟨rfl,?_⟩;exact bL _
theorem x0r2(h:Y:=by
 have e1:=fN 3 23 h hw;have e24:=fN 4 24 h hw;have h1:=HS2.out;go_simp):Y:=h
theorem x26v(h:Y:=by
 have e1:=fr_un (t:=0) (i:=0) (i0:=7) (v:=.slice (some ⟨g,0,none⟩) n c) h hcl hn rfl (by decide) (by decide) rfl;exact mx_move (ch_ev e1)):Y:=h
theorem x3c1(h:Y:=by
 have e1:=fr_un (t:=0) (i:=3) (i0:=7) (v:=.slice (some ⟨g,0,none⟩) n c) h hcl hn rfl (by decide) (by decide) rfl;exact mx_move (ch_ev e1)):Y:=h
theorem x5il(h:Y:=by
 rw[e1,cell_of_row _ _ _ _ _ _ hgc];rw[List.getElem?_take,if_pos (by omega)]at hu;simpa using hu):Y:=h
theorem x6w8(h:Y:=by
 rw[List.append_assoc,List.take_append_of_le_length (by simp;omega),List.take_take,Nat.min_self,List.take_append_of_le_length (by omega),List.take_of_length_le (by omega),hc];congr 1;rw[List.take_take];congr 1;omega):Y:=h
theorem x6wx(h:Y:=by
 refine⟨⟨g,0,none⟩,0,fun wq=>?_,fun j u hu=>?_⟩
 ·have k4:n=i+1:=by omega
  subst k4;subst e;go_simp
 ·have:cs=[]:=List.eq_nil_of_length_eq_zero (by rw[hcl];omega);rw[this]at hu;simp at hu):Y:=h
theorem x763(h:Y:=by
 have k1:(i:Int)<=(i:Int)+1:=by omega
 have k2:(i:Int)+1<=(n:Int):=by omega
 have k3:(n:Int)<=(c:Int):=by omega
 have k4:((i:Int)+1).toNat=i+1:=by omega
 have k5:(0:Int)<=(i:Int)+1:=by omega
 have k6:i+1-i=1:=by omega
 have k7:¬n=i:=by omega
 go_simp):Y:=h
theorem x77w(h:Y:=by
 have e2:=fN 0 20 h hw;have e21:=fN 1 21 h hw;have h1:=HS1.out;go_simp):Y:=h
theorem x7w4(h:Y:=by
 intro dn cv w3 hall hJ;rw[show lvlN [7,6] dn=2 by simp[lvlN,hall 7 rfl (by decide)]]at hJ;obtain⟨rfl,y1⟩:=hJ;simp only[freeAll,pA,fA,Bool.false_eq_true,if_true,if_false,reduceIte,Nat.reduceAdd];rw[y1];go_wp2_with fail;go_ret;exact⟨rfl,HOUT.out,HBW.out,HSZ.out,HKP.out⟩):Y:=h
theorem x8bn(h:Y:=by
 have k1:((n-1:Nat):Int)<=(n:Int):=by omega
 have k2:(n:Int)<=(c:Int):=by omega
 have k3:n-(n-1)=1:=by omega
 have k4:¬c=n-1:=by omega
 go_simp):Y:=h
theorem x8sy(h:Y:=by
 obtain⟨rfl,y1⟩:=hJ;rw[y1]at e1;exact wp_asg (ch_ev e1) ⟨_,rfl,hK _ _ ⟨rfl,by simp⟩⟩):Y:=h
theorem x9qe(h:Y:=by
 rw[<-hw1]
 show ((wo.setRow g _).setRow g _).heap[k]?=_;exact(setRow_other _ _ _ _ hk).trans (setRow_other _ _ _ _ hk)):Y:=h
def DelRet(w:World)(base n c:Nat)(g:Nat)(out:List Value):Ending->World->Prop:=fun en w'=>
 en=.returned (.slice (some ⟨g,0,none⟩) (n-1) c)∧Own w' base 61 5 (some ⟨g,0,none⟩) (n-1) c out∧Below base w w'∧w'.heap.size=w.heap.size∧(∀k,k≠g->w'.heap[k]?=w.heap[k]?)
def delJ(w0:World)(g n c:Nat)(w1:World):Nat->(Nat->Value)->World->Prop
 |0,_,w=>w=w0.drew
 |1,cv,w=>w=w1.drew∧cv 6=.slice (some ⟨g,0,none⟩) (n-1) c
 |_,cv,w=>w=w1.drew∧cv 7=.slice (some ⟨g,0,none⟩) (n-1) c
theorem wp_appN{P:Program}{o:Oper}{a:Act}{K:Act->World->Prop}{Q:Exit->Act->World->Prop}(d s:Operand)(t t':TypeId)
  (ho:o.op=.call {callee:=.builtin .append,args:=#[d,s],argTypes:=#[t,t']}) (v u:Value) (hd:a.eval d=v) (hs:a.eval s=u) {v':Value} {w':World}
  (hr:(Builtin.append_ #[t,t'] o.type #[v,u]).run P w=.ok v' w') (h:K (a.put o.dst v') w'):o.wp P a w K Q:=by
 exact x1tl
theorem drew_setRowD(w:World)(g:Nat)(cs:Array Value):w.drew.setRow g cs=(w.setRow g cs).drew:=rfl
theorem del_list(L cs Z:List Value)(i n:Nat)(hL:n*5<=L.length)(hi:i<n)(hc:cs=(L.take (n*5)).drop ((i+1)*5))(hZ:Z.length=5):
  (over (over L (i*5) cs) ((n-1)*5) Z).take ((n-1)*5)=(L.take (n*5)).take (i*5)++(L.take (n*5)).drop ((i+1)*5)∧(over (over L (i*5) cs) ((n-1)*5) Z).length=L.length:=by
 have hcl:cs.length=(n-(i+1))*5:=by rw[hc];simp;omega
 have h1:(over L (i*5) cs).length=L.length:=by unfold over;simp;omega
 constructor
 ·unfold over;have e1:(L.take (i*5)++cs).length=(n-1)*5:=by simp;omega
  exact x6w8
 unfold over at h1⊢;simp at h1⊢;omega
theorem delChunk_calls(g n c i:Nat)(xs:List Value)(wo:World)(base:Nat)(hO:Own wo base 61 5 (some ⟨g,0,none⟩) n c xs)(h2:∀u∈xs,u.oneCell'=true)(hi:i<n)(hn:n<=1000):
  Calls Tryz.prog 103 #[.slice (some ⟨g,0,none⟩) n c,iv (i:Int),iv ((i:Int)+1)] wo (DelRet wo base n c g (xs.take (i*5)++xs.drop ((i+1)*5))):=by
 have hle:=hO.le;obtain⟨hxl,⟨hv2,_⟩|⟨g',cap,cur,hv2,hbg,hgc,hncap,hmax,hcs,hxs1⟩⟩:=hO
 ·cases hv2
 injection hv2 with e1 e2 e3;injection e1 with e1;injection e1 with e1 e4;subst e1 e3;obtain⟨L,hL⟩:=eX (cur.toList);have hcur:cur=L.toArray:=by rw[<-hL]
 subst hcur;simp only[List.size_toArray]at hcs;have hxs:xs=L.take (n*5):=by simpa using hxs1.symm
 subst hxs;have hgl:=blk_lt hgc;obtain⟨cs,hcs1⟩:=eX ((L.take (n*5)).drop ((i+1)*5));have hcl:cs.length=(n-(i+1))*5:=by rw[<-hcs1];simp;omega
 have h3:∀u∈cs,u.oneCell'=true:=fun u hu=>h2 u (by rw[<-hcs1]at hu;exact List.mem_of_mem_drop hu);have k8:0<c:=by omega
 have HS4:∀wq,(Instr.slice 33 (.slice (some ⟨g,0,none⟩) n c) (some (iv (i:Int))) (some (iv ((i:Int)+1))) (some (iv (n:Int)))).run Tryz.prog wq=.ok (.slice (some ⟨g,i*5,none⟩) 1 (n-i)) wq:=fun wq=>by
  exact x763
 have HS1:Hid (∀wq,(Instr.slice 33 (.slice (some ⟨g,0,none⟩) n c) none (some (iv (i:Int))) none).run Tryz.prog wq=.ok (.slice (some ⟨g,0,none⟩) i c) wq):=qH (fun wq=>by
  exact x6il)
 obtain⟨a1,c1,hs1,hcell⟩:∃a2 c2,(∀wq,(Instr.slice 33 (.slice (some ⟨g,0,none⟩) n c) (some (iv ((i:Int)+1))) none none).run Tryz.prog wq=.ok (.slice (some a2) (n-(i+1)) c2) wq)∧(∀j u,cs[j]?=some u->wo.cell? (a2.add j)=some u):=by
  have k1:(i:Int)+1<=(n:Int):=by omega
  have k2:((i:Int)+1).toNat=i+1:=by omega
  have k3:(0:Int)<=(i:Int)+1:=by omega
  by_cases e:c=i+1
  ·exact x6wx
  refine⟨⟨g,(i+1)*5,none⟩,c-(i+1),fun wq=>?_,fun j u hu=>?_⟩
  ·go_simp
  rw[<-hcs1,List.getElem?_drop]at hu;have hj:(i+1)*5+j<(L.take (n*5)).length:=(List.getElem?_eq_some_iff.1 hu).1;rw[List.length_take]at hj;have e1:(⟨g,(i+1)*5,none⟩:Addr).add j=⟨g,(i+1)*5+j,none⟩:=by simp[Addr.add]
  exact x5il
 have HS2:=qH hs1;obtain⟨w1,hw1⟩:=eX (wo.setRow g (over L (i*5) cs).toArray);have hi1:(Tryz.prog.info? 61).map (fun t=>t.size)=some 5:=by kernel_rfl
 have HA:Hid (∀(ty:TypeId) (q:Unit),(Builtin.append_ #[33,33] ty #[.slice (some ⟨g,0,none⟩) i c,.slice (some a1) (n-(i+1)) c1]).run Tryz.prog wo.drew=.ok (.slice (some ⟨g,0,none⟩) (n-1) c) w1.drew):=qH (fun ty q=>by
  cases hq:Tryz.prog.info? 61 with
  |none=>rw[hq]at hi1;cases hi1
  |some t=>
   rw[hq]at hi1;have ht5:t.size=5:=by simpa using hi1
   have hgd:wo.drew.heap[g]?=some (.cells L.toArray 61 (0,0)):=hgc;have h9:=run_append_room_cells (P:=Tryz.prog) wo.drew 33 ty 61 t Tryz.underlying33 hq g 0 i c a1 (n-(i+1)) c1 cs (by rw[ht5];exact hcl) (fun j u hu=>hcell j u hu) h3 (by omega)
    (fun j hj=>by rw[ht5,cell_of_row _ _ _ _ _ _ hgd];simp;omega) (fun j hj=>frozen_of_row _ _ _ _ _ hgd)
   rw[h9,ht5,show i+(n-(i+1))=n-1 by omega,setRow_eq hgd cs (by simp;omega),<-hw1];congr 1;rw[Nat.zero_add,drew_setRowD];congr 2)
 have hw1g:w1.heap[g]?=some (.cells (over L (i*5) cs).toArray 61 (0,0)):=by rw[<-hw1];exact setRow_heap wo g _ _ _ _ hgc
 obtain⟨Z,hZ⟩:∃Z:List Value,[iv 0,iv 0,iv 0,iv 0,.slice none 0 0]=Z:=⟨_,rfl⟩;have hZl:Z.length=5:=by rw[<-hZ];rfl
 obtain⟨hd1,hd2⟩:=del_list L cs Z i n (by omega) hi hcs1.symm hZl;have hol:(over L (i*5) cs).length=L.length:=by unfold over;simp;omega
 have hcl1:∀ty,(Builtin.clear_ #[33] ty #[.slice (some ⟨g,(n-1)*5,none⟩) 1 (c-(n-1))]).run Tryz.prog w1.drew=.ok (.tuple #[]) (w1.setRow g (over (over L (i*5) cs) ((n-1)*5) Z).toArray).drew:=fun ty=>by
  have hgd:w1.drew.heap[g]?=some (.cells (over L (i*5) cs).toArray 61 (0,0)):=hw1g;have h1:=run_storeCells_at Tryz.prog g ((n-1)*5) 61 Z 0 (over L (i*5) cs).toArray w1.drew hgd (by simp only[List.size_toArray];omega) (by rw[<-hZ];simp[Value.oneCell']);have hzv:(zeroValue 61).run Tryz.prog w1.drew=.ok (.agg #[iv 0,iv 0,iv 0,iv 0,.slice none 0 0]) w1.drew:=by kernel_rfl
  have hst:(storeCells ⟨g,(n-1)*5,none⟩ Z).run Tryz.prog w1.drew=.ok () (w1.setRow g (over (over L (i*5) cs) ((n-1)*5) Z).toArray).drew:=by
   rw[h1,drew_setRowD];congr 3
  rw[<-hZ]at hst⊢;have hze:(Builtin.zeroCells (Value.agg #[iv 0,iv 0,iv 0,iv 0,.slice none 0 0]).cells 1).toList=[iv 0,iv 0,iv 0,iv 0,.slice none 0 0]:=by kernel_rfl
  simp[Builtin.clear_,run_underlying Tryz.underlying33,hzv,hze,hst]
 have HS3:∀wq,(Instr.slice 33 (.slice (some ⟨g,0,none⟩) (n-1) c) (some (iv ((n-1:Nat):Int))) (some (iv (n:Int))) none).run Tryz.prog wq=.ok (.slice (some ⟨g,(n-1)*5,none⟩) 1 (c-(n-1))) wq:=fun wq=>by
  exact x8bn
 have q1:((i:Int)==(i:Int)+1)=false:=beq_eq_false_iff_ne.2 (by omega);have HOUT:Hid (Own (w1.setRow g (over (over L (i*5) cs) ((n-1)*5) Z).toArray).drew base 61 5 (some ⟨g,0,none⟩) (n-1) c ((L.take (n*5)).take (i*5)++(L.take (n*5)).drop ((i+1)*5))):=qH
  ⟨by simp;omega,Or.inr ⟨g,c,(over (over L (i*5) cs) ((n-1)*5) Z).toArray,rfl,hbg,(setRow_heap w1 g _ _ _ _ hw1g:_),by omega,hmax,by simp only[List.size_toArray];omega,by simpa using hd1⟩⟩
 have HBW:Hid (Below base wo (w1.setRow g (over (over L (i*5) cs) ((n-1)*5) Z).toArray).drew):=qH (by rw[<-hw1];exact(below_row (below_row (Below.refl _ _) hbg _) hbg _).drew);have HSZ:Hid ((w1.setRow g (over (over L (i*5) cs) ((n-1)*5) Z).toArray).drew.heap.size=wo.heap.size):=qH (by rw[<-hw1];show ((wo.setRow g _).setRow g _).heap.size=_;simp[World.setRow]);have HKP:Hid (∀k,k≠g->(w1.setRow g (over (over L (i*5) cs) ((n-1)*5) Z).toArray).drew.heap[k]?=wo.heap[k]?):=qH (fun k hk=>by
  exact x9qe)
 generalize (L.take (n*5)).take (i*5)++(L.take (n*5)).drop ((i+1)*5)=out at *
 generalize w1.setRow g (over (over L (i*5) cs) ((n-1)*5) Z).toArray=w2 at *
 have hni:(i:Int)+1<=(n:Int):=by omega
 clear hs1 hcell hw1 hw1g hd1 hd2 hol hcs1 hZ hZl hgc hcs h2 h3 hxl hxs1 hL;go_enter Tryz.func103,Tryz.ntmps103;go_wp2_with fail;refine wF (some 20::some 21::some 22::some 23::some 24::some 25::some 26::some 0::[]) (false::false::false::false::false::false::true::true::[]) (.slice (some ⟨g,0,none⟩) n c::iv (i:Int)::.slice (some ⟨g,0,none⟩) i c::.slice (some ⟨g,0,none⟩) n c::iv ((i:Int)+1)::.slice (some a1) (n-(i+1)) c1::undef::undef::[]) (fun done cv w=>delJ wo g n c w1 (lvlN [7,6] done) cv w) 33 (rfl) ?_ ?_
 ·refine⟨?_,?_,?_,?_,?_,?_,?_,?_,trivial⟩;all_goals intro done cv a wq hn hw hcl h hJ
  ·exact x26v
  ·have e1:=fO 1 (iv (i:Int)) h;exact mx_move (ch_ev e1)
  ·exact x77w
  ·exact x3c1
  ·have e2:=fO 2 (iv ((i:Int)+1)) h;exact mx_move (ch_ev e2)
  ·exact x0r2
  ·have e2:=fN 2 22 h hw;have e25:=fN 5 25 h hw;have n1:=hn;have n2:=nW 7 6 hcl n1;have hl:lvlN [7,6] (maskB [false,false,false,false,false,false,true,true] done)=0:=by simp[lvlN,maskB,n1,n2]
   have hl1:lvlN [7,6] (fun j=>if j=6 then true else maskB [false,false,false,false,false,false,true,true] done j)=1:=by simp[lvlN,maskB,n1,n2]
   rw[hl]at hJ;have hK:∀(v:Value) (w':World),delJ wo g n c w1 1 (fun j=>if j=6 then v else cv j) w'->delJ wo g n c w1 (lvlN [7,6] (fun j=>if j=6 then true else maskB [false,false,false,false,false,false,true,true] done j)) (fun j=>if j=6 then v else cv j) w':=fun v w' h=>by rw[hl1];exact h
   obtain rfl:wq=wo.drew:=hJ;refine wp_appN (.tmp 22) (.tmp 25) 33 33 rfl _ _ (ch_ev e2) (ch_ev e25) (HA.out _ ()) ⟨_,rfl,hK _ _ ?_⟩;exact⟨rfl,by simp⟩
  ·have e1:=fr_cv (i:=6) (t:=26) h (hw 6 (by decide)) rfl rfl;have n1:=hn;have m1:=hw 6 (by decide);have hl:lvlN [7,6] (maskB [false,false,false,false,false,false,true,true] done)=1:=by simp[lvlN,maskB,n1,m1]
   have hl1:lvlN [7,6] (fun j=>if j=7 then true else maskB [false,false,false,false,false,false,true,true] done j)=2:=by simp[lvlN,maskB,n1,m1]
   rw[hl]at hJ;have hK:∀(v:Value) (w':World),delJ wo g n c w1 2 (fun j=>if j=7 then v else cv j) w'->delJ wo g n c w1 (lvlN [7,6] (fun j=>if j=7 then true else maskB [false,false,false,false,false,false,true,true] done j)) (fun j=>if j=7 then v else cv j) w':=fun v w' h=>by rw[hl1];exact h
   exact x8sy
 exact x7w4
def DelE(w:World)(base n c:Nat)(g:Nat)(out:List Value):Ending->World->Prop:=fun en w'=>
 en=.returned (.slice (some ⟨g,0,none⟩) (n-1) c)∧Own w' base 43 1 (some ⟨g,0,none⟩) (n-1) c out∧Below base w w'∧w'.heap.size=w.heap.size∧(∀k,k≠g->w'.heap[k]?=w.heap[k]?)
def delE(w0:World)(g n c:Nat)(w1:World):Nat->(Nat->Value)->World->Prop
 |0,_,w=>w=w0.drew
 |1,cv,w=>w=w1.drew∧cv 6=.slice (some ⟨g,0,none⟩) (n-1) c
 |_,cv,w=>w=w1.drew∧cv 7=.slice (some ⟨g,0,none⟩) (n-1) c
theorem delE_list(L cs Z:List Value)(i n:Nat)(hL:n<=L.length)(hi:i<n)(hc:cs=(L.take (n)).drop (i+1))(hZ:Z.length=1):
  (over (over L i cs) (n-1) Z).take (n-1)=(L.take (n)).take i++(L.take (n)).drop (i+1)∧(over (over L i cs) (n-1) Z).length=L.length:=by
 have hcl:cs.length=n-(i+1):=by rw[hc];simp;omega
 have h1:(over L i cs).length=L.length:=by unfold over;simp;omega
 constructor
 ·unfold over;have e1:(L.take i++cs).length=n-1:=by simp;omega
  exact x6w8
 unfold over at h1⊢;simp at h1⊢;omega
theorem delErr_calls(g n c i:Nat)(xs:List Value)(wo:World)(base:Nat)(hO:Own wo base 43 1 (some ⟨g,0,none⟩) n c xs)(h2:∀u∈xs,u.oneCell'=true)(hi:i<n)(hn:n<=1000):
  Calls Tryz.prog 31 #[.slice (some ⟨g,0,none⟩) n c,iv (i:Int),iv ((i:Int)+1)] wo (DelE wo base n c g (xs.take i++xs.drop (i+1))):=by
 have hle:=hO.le;obtain⟨hxl,⟨hv2,_⟩|⟨g',cap,cur,hv2,hbg,hgc,hncap,hmax,hcs,hxs1⟩⟩:=hO
 ·cases hv2
 injection hv2 with e1 e2 e3;injection e1 with e1;injection e1 with e1 e4;subst e1 e3;obtain⟨L,hL⟩:=eX (cur.toList);have hcur:cur=L.toArray:=by rw[<-hL]
 subst hcur;simp only[List.size_toArray]at hcs;have hxs:xs=L.take (n):=by simpa using hxs1.symm
 subst hxs;have hgl:=blk_lt hgc;obtain⟨cs,hcs1⟩:=eX ((L.take (n)).drop (i+1));have hcl:cs.length=n-(i+1):=by rw[<-hcs1];simp;omega
 have h3:∀u∈cs,u.oneCell'=true:=fun u hu=>h2 u (by rw[<-hcs1]at hu;exact List.mem_of_mem_drop hu);have k8:0<c:=by omega
 have HS4:∀wq,(Instr.slice 70 (.slice (some ⟨g,0,none⟩) n c) (some (iv (i:Int))) (some (iv ((i:Int)+1))) (some (iv (n:Int)))).run Tryz.prog wq=.ok (.slice (some ⟨g,i,none⟩) 1 (n-i)) wq:=fun wq=>by
  exact x763
 have HS1:Hid (∀wq,(Instr.slice 70 (.slice (some ⟨g,0,none⟩) n c) none (some (iv (i:Int))) none).run Tryz.prog wq=.ok (.slice (some ⟨g,0,none⟩) i c) wq):=qH (fun wq=>by
  exact x6il)
 obtain⟨a1,c1,hs1,hcell⟩:∃a2 c2,(∀wq,(Instr.slice 70 (.slice (some ⟨g,0,none⟩) n c) (some (iv ((i:Int)+1))) none none).run Tryz.prog wq=.ok (.slice (some a2) (n-(i+1)) c2) wq)∧(∀j u,cs[j]?=some u->wo.cell? (a2.add j)=some u):=by
  have k1:(i:Int)+1<=(n:Int):=by omega
  have k2:((i:Int)+1).toNat=i+1:=by omega
  have k3:(0:Int)<=(i:Int)+1:=by omega
  by_cases e:c=i+1
  ·exact x6wx
  refine⟨⟨g,i+1,none⟩,c-(i+1),fun wq=>?_,fun j u hu=>?_⟩
  ·go_simp
  rw[<-hcs1,List.getElem?_drop]at hu;have hj:i+1+j<(L.take (n)).length:=(List.getElem?_eq_some_iff.1 hu).1;rw[List.length_take]at hj;have e1:(⟨g,i+1,none⟩:Addr).add j=⟨g,i+1+j,none⟩:=by simp[Addr.add]
  exact x5il
 have HS2:=qH hs1;obtain⟨w1,hw1⟩:=eX (wo.setRow g (over L i cs).toArray);have hi1:(Tryz.prog.info? 43).map (fun t=>t.size)=some 1:=by kernel_rfl
 have HA:Hid (∀(ty:TypeId) (q:Unit),(Builtin.append_ #[70,70] ty #[.slice (some ⟨g,0,none⟩) i c,.slice (some a1) (n-(i+1)) c1]).run Tryz.prog wo.drew=.ok (.slice (some ⟨g,0,none⟩) (n-1) c) w1.drew):=qH (fun ty q=>by
  cases hq:Tryz.prog.info? 43 with
  |none=>rw[hq]at hi1;cases hi1
  |some t=>
   rw[hq]at hi1;have ht1:t.size=1:=by simpa using hi1
   have hgd:wo.drew.heap[g]?=some (.cells L.toArray 43 (0,0)):=hgc;have h9:=run_append_room_cells (P:=Tryz.prog) wo.drew 70 ty 43 t Tryz.underlying70 hq g 0 i c a1 (n-(i+1)) c1 cs (by rw[ht1,Nat.mul_one];exact hcl) (fun j u hu=>hcell j u hu) h3 (by omega)
    (fun j hj=>by rw[ht1,cell_of_row _ _ _ _ _ _ hgd];simp;omega) (fun j hj=>frozen_of_row _ _ _ _ _ hgd)
   rw[h9,ht1,show i+(n-(i+1))=n-1 by omega,setRow_eq hgd cs (by simp;omega),<-hw1];congr 1;rw[Nat.zero_add,drew_setRowD,Nat.mul_one];congr 2)
 have hw1g:w1.heap[g]?=some (.cells (over L i cs).toArray 43 (0,0)):=by rw[<-hw1];exact setRow_heap wo g _ _ _ _ hgc
 obtain⟨Z,hZ⟩:∃Z:List Value,[iv 0]=Z:=⟨_,rfl⟩;have hZl:Z.length=1:=by rw[<-hZ];rfl
 obtain⟨hd1,hd2⟩:=delE_list L cs Z i n (by omega) hi hcs1.symm hZl;have hol:(over L i cs).length=L.length:=by unfold over;simp;omega
 have hcl1:∀ty,(Builtin.clear_ #[70] ty #[.slice (some ⟨g,n-1,none⟩) 1 (c-(n-1))]).run Tryz.prog w1.drew=.ok (.tuple #[]) (w1.setRow g (over (over L i cs) (n-1) Z).toArray).drew:=fun ty=>by
  have hgd:w1.drew.heap[g]?=some (.cells (over L i cs).toArray 43 (0,0)):=hw1g;have h1:=run_storeCells_at Tryz.prog g (n-1) 43 Z 0 (over L i cs).toArray w1.drew hgd (by simp only[List.size_toArray];omega) (by rw[<-hZ];simp[Value.oneCell']);have hzv:(zeroValue 43).run Tryz.prog w1.drew=.ok (iv 0) w1.drew:=by kernel_rfl
  have hst:(storeCells ⟨g,n-1,none⟩ Z).run Tryz.prog w1.drew=.ok () (w1.setRow g (over (over L i cs) (n-1) Z).toArray).drew:=by
   rw[h1,drew_setRowD];congr 3
  rw[<-hZ]at hst⊢;have hze:(Builtin.zeroCells (Value.int .i64 0).cells 1).toList=[iv 0]:=by kernel_rfl
  simp[Builtin.clear_,run_underlying Tryz.underlying70,hzv,hze,hst]
 have HS3:∀wq,(Instr.slice 70 (.slice (some ⟨g,0,none⟩) (n-1) c) (some (iv ((n-1:Nat):Int))) (some (iv (n:Int))) none).run Tryz.prog wq=.ok (.slice (some ⟨g,n-1,none⟩) 1 (c-(n-1))) wq:=fun wq=>by
  exact x8bn
 have q1:((i:Int)==(i:Int)+1)=false:=beq_eq_false_iff_ne.2 (by omega);have HOUT:Hid (Own (w1.setRow g (over (over L i cs) (n-1) Z).toArray).drew base 43 1 (some ⟨g,0,none⟩) (n-1) c ((L.take (n)).take i++(L.take (n)).drop (i+1))):=qH
  ⟨by simp;omega,Or.inr ⟨g,c,(over (over L i cs) (n-1) Z).toArray,rfl,hbg,(setRow_heap w1 g _ _ _ _ hw1g:_),by omega,hmax,by simp only[List.size_toArray];omega,by simpa using hd1⟩⟩
 have HBW:Hid (Below base wo (w1.setRow g (over (over L i cs) (n-1) Z).toArray).drew):=qH (by rw[<-hw1];exact(below_row (below_row (Below.refl _ _) hbg _) hbg _).drew);have HSZ:Hid ((w1.setRow g (over (over L i cs) (n-1) Z).toArray).drew.heap.size=wo.heap.size):=qH (by rw[<-hw1];show ((wo.setRow g _).setRow g _).heap.size=_;simp[World.setRow]);have HKP:Hid (∀k,k≠g->(w1.setRow g (over (over L i cs) (n-1) Z).toArray).drew.heap[k]?=wo.heap[k]?):=qH (fun k hk=>by
  exact x9qe)
 generalize (L.take (n)).take i++(L.take (n)).drop (i+1)=out at *
 generalize w1.setRow g (over (over L i cs) (n-1) Z).toArray=w2 at *
 have hni:(i:Int)+1<=(n:Int):=by omega
 clear hs1 hcell hw1 hw1g hd1 hd2 hol hcs1 hZ hZl hgc hcs h2 h3 hxl hxs1 hL;go_enter Tryz.func31,Tryz.ntmps31;go_wp2_with fail;refine wF (some 20::some 21::some 22::some 23::some 24::some 25::some 26::some 0::[]) (false::false::false::false::false::false::true::true::[]) (.slice (some ⟨g,0,none⟩) n c::iv (i:Int)::.slice (some ⟨g,0,none⟩) i c::.slice (some ⟨g,0,none⟩) n c::iv ((i:Int)+1)::.slice (some a1) (n-(i+1)) c1::undef::undef::[]) (fun done cv w=>delE wo g n c w1 (lvlN [7,6] done) cv w) 33 (rfl) ?_ ?_
 ·refine⟨?_,?_,?_,?_,?_,?_,?_,?_,trivial⟩;all_goals intro done cv a wq hn hw hcl h hJ
  ·exact x26v
  ·have e1:=fO 1 (iv (i:Int)) h;exact mx_move (ch_ev e1)
  ·exact x77w
  ·exact x3c1
  ·have e2:=fO 2 (iv ((i:Int)+1)) h;exact mx_move (ch_ev e2)
  ·exact x0r2
  ·have e2:=fN 2 22 h hw;have e25:=fN 5 25 h hw;have n1:=hn;have n2:=nW 7 6 hcl n1;have hl:lvlN [7,6] (maskB [false,false,false,false,false,false,true,true] done)=0:=by simp[lvlN,maskB,n1,n2]
   have hl1:lvlN [7,6] (fun j=>if j=6 then true else maskB [false,false,false,false,false,false,true,true] done j)=1:=by simp[lvlN,maskB,n1,n2]
   rw[hl]at hJ;have hK:∀(v:Value) (w':World),delE wo g n c w1 1 (fun j=>if j=6 then v else cv j) w'->delE wo g n c w1 (lvlN [7,6] (fun j=>if j=6 then true else maskB [false,false,false,false,false,false,true,true] done j)) (fun j=>if j=6 then v else cv j) w':=fun v w' h=>by rw[hl1];exact h
   obtain rfl:wq=wo.drew:=hJ;refine wp_appN (.tmp 22) (.tmp 25) 70 70 rfl _ _ (ch_ev e2) (ch_ev e25) (HA.out _ ()) ⟨_,rfl,hK _ _ ?_⟩;exact⟨rfl,by simp⟩
  ·have e1:=fr_cv (i:=6) (t:=26) h (hw 6 (by decide)) rfl rfl;have n1:=hn;have m1:=hw 6 (by decide);have hl:lvlN [7,6] (maskB [false,false,false,false,false,false,true,true] done)=1:=by simp[lvlN,maskB,n1,m1]
   have hl1:lvlN [7,6] (fun j=>if j=7 then true else maskB [false,false,false,false,false,false,true,true] done j)=2:=by simp[lvlN,maskB,n1,m1]
   rw[hl]at hJ;have hK:∀(v:Value) (w':World),delE wo g n c w1 2 (fun j=>if j=7 then v else cv j) w'->delE wo g n c w1 (lvlN [7,6] (fun j=>if j=7 then true else maskB [false,false,false,false,false,false,true,true] done j)) (fun j=>if j=7 then v else cv j) w':=fun v w' h=>by rw[hl1];exact h
   exact x8sy
 exact x7w4
theorem x27l(h:Y:=by
 obtain⟨A1,c1,ds,y1,g1,g2,h⟩:=hJ;exact key h):Y:=h
theorem images_calls(A:OA)(c:Nat)(l:List (List UInt8))(w:World)(hl:l.length<=5864062014634)(hs:Ims w A l):
  Calls Tryz.prog 16 #[.slice A l.length c] w (KrRet kImg w l):=by
 obtain⟨ds1,hg⟩:=hs.gsrc;have hbd:=hs.bound;have HBD:=qH hbd;have HG:=qH hg;have K1:=qH (cloneRows_calls A l.length c (kImg.cells l ds1) w (cells_len _ _ hg.len) (by omega) hg.row (cells_oneCell _ _));clear hs hg hbd;go_enter Tryz.func16,Tryz.ntmps16;go_wp2_with fail;refine K1.out.mono ?_;rintro e w1 ⟨A1,c1,rfl,hown,hb1⟩;have hrow:GRow kImg w1 w.heap.size l ds1 A1 c1:=⟨HG.out.len,hown,(HG.out.stays hb1).data,fun i o d h1 h2 hx k hk e=>by
  have:=HG.out.each i o d h1 h2 hx k hk;have:=(hown.block k e).1;omega⟩
 have HR1:=qH hrow;have HB1:Hid (Below w.heap.size w w1):=qH hb1;clear hown hb1 hrow K1;go_wp2_with fail;go_loopw [9] (fun i wr=>∃(k:Nat) (ds:List (Option Addr×Nat)),k<=l.length∧i=iv k∧Hid (GRow kImg wr w.heap.size l ds A1 c1)∧Hid (∀(j:Nat) (o:(List UInt8)) (d:Option Addr×Nat),j<k->l[j]?=some o->ds[j]?=some d->kImg.dat o≠[]->∀q,d.1.map (·.block)=some q->w.heap.size<=q)∧Hid (Below w.heap.size w wr)) (fun i _=>l.length-(intOf i).toNat)
 case atStart=>exact⟨0,ds1,Nat.zero_le _,rfl,HR1,qH (fun j o d h=>by omega),HB1⟩
 case round=>
  clear HR1 HB1;rename World=>wr;obtain⟨k,ds,hk,rfl,HR,HN,HB⟩:=hrel;have hsz:=HB.out.size;by_cases hlt:k<l.length
  ·obtain⟨g,rfl,hg1,hg2⟩:=HR.out.row.form (by omega);have hlk:l[k]?=some l[k]:=List.getElem?_eq_getElem hlt;have hdk:ds[k]?=some (ds[k]'(by have:=HR.out.len;omega)):=List.getElem?_eq_getElem _;obtain⟨x,hx⟩:=eX (l[k]);obtain⟨e,he⟩:=eX (ds[k]'(by have:=HR.out.len;omega));rw[hx]at hlk;rw[he]at hdk;have hcell:∀j,j<1->wr.cell? ⟨g,k+j,none⟩=(kImg.cell x e)[j]?:=fun j hj=>by
    rw[HR.out.row.cellAt _ (show k+j<l.length*1 by omega)];have h1:=cells_at (K:=kImg) l ds HR.out.len k j x e hlk hdk hj;rw[show k*kImg.size+j=k+j by show k*1+j=k+j;omega]at h1;exact h1
   have q1:wr.cell? ⟨g,k,none⟩=some (.slice e.1 x.length e.2):=by have:=hcell 0 (by decide);simpa[kImg]using this
   obtain⟨hd1,hd2⟩:=HR.out.data k x e hlk hdk;have hxl:x.length<=140737488351232:=(HBD.out x (List.mem_of_getElem? hlk));have HD1:Hid (Bts wr e.1 x):=qH hd1;have HLK:=qH hlk;have HDK:=qH hdk;have K1:=qH (fun w h=>cloneBytes_calls e.1 x.length e.2 (x.map bv) w (by simp) (by omega) h (bv_one _));have hfr:wr.frozen? ⟨g,k,none⟩=false:=HR.out.row.frozenAt _;have dl:decide ((k:Int)<(l.length:Int))=true:=decide_eq_true (by omega);have hwk:IntKind.i64.wrap ((k:Int)+1)=(k:Int)+1:=IntWalk.i64_in _ (by omega);have hcap:(l.length:Int)<=(c1:Int):=by have:=HR.out.row.le;omega
   clear hcell hx he hlk hdk hd1 hd2;go_wp2_with fail;refine(K1.out _ HD1.out.src).mono ?_;rintro en w2 ⟨B,d,rfl,hob,hb1⟩;have hb2:=hb1;have HR1:=qH (HR.out.below hb2);have hq1:w2.cell? ⟨g,k,none⟩=some (.slice e.1 x.length e.2):=(hb2.cell (p:=⟨g,k,none⟩) hg2).trans q1;have hf1:w2.frozen? ⟨g,k,none⟩=false:=(hb2.frozen (p:=⟨g,k,none⟩) hg2).trans hfr;have HBB:Hid (Below w.heap.size w (w2.setCell ⟨g,k,none⟩ (.slice B x.length d))):=qH ((HB.out.trans (hb2.mono hsz)).setCell (p:=⟨g,k,none⟩) hg1 _);have hgw:∀q,B.map (·.block)=some q->wr.heap.size<=q:=fun q h=>(hob.block q h).1;have HR2:Hid (GRow kImg (w2.setCell ⟨g,k,none⟩ (.slice B x.length d)) w.heap.size l (ds.set k (B,d)) (some ⟨g,0,none⟩) c1):=qH (by
    have h1:=HR1.out.setData (e:=(B,d)) HLK.out hob.src.bts (by show x.length<=d;simpa using hob.le) (fun _ q h e2=>by have:=hgw q h;omega);rw[show k*kImg.size+kImg.slot=k by show k*1+0=k;omega]at h1;exact h1)
   have HN1:Hid (∀(j:Nat) (o:(List UInt8)) (d':Option Addr×Nat),j<k+1->l[j]?=some o->(ds.set k (B,d))[j]?=some d'->kImg.dat o≠[]->∀q,d'.1.map (·.block)=some q->w.heap.size<=q):=qH (fun j o d' hj h1 h2 hx q hq=>by
    exact x9r5)
   clear hob hb1 hb2 q1 hfr hgw;exact x6bz
  exact x6wy
theorem big_recN(n:Nat)(h:0<n):bigBuild Tryz.prog 29 n:=by
 exact x2hk
@[go_sem] theorem big_rec2N:bigBuild Tryz.prog 29 2:=big_recN 2 (by decide)
@[go_sem] theorem build_rec2N(g f:Int)(w:World):runBuild Tryz.prog 29 #[(0,iv g),(4,iv f)] w=.ok (.agg (recA ⟨g,0,false,0,f,Inf.zero,Inf.zero⟩)) w:=by kernel_rfl
@[go_sem] theorem build_devN(a b:OA)(c e:Nat)(x y:LU)(u:Bool)(w:World):runBuild Tryz.prog 38 #[(2,.bool u),(0,.agg (slotsA a x.length c b y.length e))] w=.ok (.agg (devA ⟨x,y,Cop.zero,Cop.zero,u,0,[],false,Pat.zero,0⟩ ⟨a,c,b,e,none,0,none,0⟩)) w:=by kernel_rfl
theorem devNew_calls(A:OA)(c:Nat)(b:LU)(w:World)(hl:b.length<=140737488351232)(hB:Bts w A b):Calls Tryz.prog 15 #[.slice A b.length c] w (DvRet w (devNew b).1 (devNew b).2):=by
 have hba:Below w.heap.size w (w.alloc (.cells (devA Dev.zero DLoc.zero) 38)):=bL _;have HBA:=qH hba;have HB:=qH hB;by_cases h1:64<b.length
 ·have hz:devNew b=(Dev.zero,1):=by unfold devNew;rw[if_pos h1]
  rw[hz];have q:(64:Int)<(b.length:Int):=by omega
  clear hB hba hz;go_enter Tryz.func15,Tryz.ntmps15;go_wp2_with fail;refine bodyPost_ret (rC (devA Dev.zero DLoc.zero)) rfl ⟨DLoc.zero,rfl,.const fun v=>DevIn.zero v,bZ HBA⟩
 have hz:devNew b=(newDev b,0):=by unfold devNew;rw[if_neg h1]
 rw[hz];have q:¬(64:Int)<(b.length:Int):=by omega
 have KS:=qH (fun w h=>sumOf_calls A c b w (by omega) h);have hb1:b.length<=64:=by omega
 have KR:=qH (fun w h=>room_calls A c b w hb1 h);have KN:=qH (fun w=>room_calls none 0 [] w (by simp) (bts_nil w none));have HRL:Hid ((room b).length=64∧(room []).length=64):=qH ⟨room_len hb1,room_len (by simp)⟩;obtain⟨s,hs⟩:=eX (sumOn 1 b);rw[hs]at KS;obtain⟨rb,hrb⟩:=eX (room b);obtain⟨rn,hrn⟩:=eX (room []);rw[hrb]at KR HRL;rw[hrn]at KN HRL;have hnd:newDev b=⟨rb,rn,⟨true,⟨1,0,false,0,1,⟨1,b.length,s⟩,Inf.zero⟩⟩,Cop.zero,true,0,[],false,Pat.zero,0⟩:=by unfold newDev;rw[hrb,hrn,hs]
 rw[hnd];clear hz hnd hs hrb hrn hb1 hB hba h1;go_enter Tryz.func15,Tryz.ntmps15;go_wp2_with fail;refine(KS.out _ (HB.out.stays ?_)).mono ?_
 ·exact x9q7
 rintro e w1 ⟨rfl,rfl⟩;go_wp2_with fail;refine(KR.out _ (HB.out.stays ?_)).mono ?_
 ·exact x9q7
 rintro e w2 ⟨A1,c1,rfl,ho1,hb⟩;have a2:=kp (w.heap.size) (devA Dev.zero DLoc.zero) hb;have a1:=kp (w.heap.size+1) (recA ⟨1,0,false,0,1,⟨1,(b.length:Int),s⟩,Inf.zero⟩) hb;have hsz1:w.heap.size+2<=w2.heap.size:=by have:=hb.size;simp at this;omega
 have HB1:Hid (Below w.heap.size w w2):=qH (by
  refine Below.trans ?_ (hb.mono (by first|omega|(simp<;>omega)));exact x9q7)
 have HO1:Hid (Own w2 (w.heap.size+2) 5 1 A1 rb.length c1 (rb.map bv)):=qH (by simpa using ho1);clear hb ho1;go_wp2_with fail;refine(KN.out _).mono ?_;rintro e w3 ⟨A2,c2,rfl,ho1,hb⟩;have a2:=kr a2 hb;have a1:=kr a1 hb;have hsz2:w2.heap.size<=w3.heap.size:=hb.size;have HB2:=bT HB1 hb;have HF:Hid (Fresh (w.heap.size+2) w3 (fun v=>Bts v A1 rb∧Bts v A2 rn)):=qH (fun v hv=>⟨(HO1.out.below hb).fresh v hv,(ho1.mono (base':=w.heap.size+2) (by omega)).fresh v hv⟩);have HC:Hid (rb.length<=c1∧rn.length<=c2):=qH ⟨HO1.out.le,ho1.le⟩;clear hb ho1;go_wp2_with fail;refine bodyPost_ret (rC (devA ⟨rb,rn,⟨true,⟨1,0,false,0,1,⟨1,b.length,s⟩,Inf.zero⟩⟩,Cop.zero,true,0,[],false,Pat.zero,0⟩ ⟨A1,c1,A2,c2,none,0,none,0⟩)) rfl ⟨⟨A1,c1,A2,c2,none,0,none,0⟩,rfl,?_,?_⟩
 ·refine Fresh.imp (P:=fun v=>Bts v A1 rb∧Bts v A2 rn) (Fresh.mono (base:=w.heap.size+2) ?_ (by omega)) (fun v hv=>⟨HC.out.1,by show rb.length<=_;rw[HRL.out.1];decide,hv.1,HC.out.2,by show rn.length<=_;rw[HRL.out.2];decide,hv.2,nl,Nat.zero_le _,Chs.nil _ _,pat_in_zero v,⟨by show -9223372036854775808<=(0:Int);omega,by show (0:Int)<=9223372036854775807;omega⟩,⟨by show -9223372036854775808<=(0:Int);omega,by show (0:Int)<=9223372036854775807;omega⟩⟩);repeat (first|exact HF.out|refine Fresh.row ?_ (by omega) _|refine Fresh.cell ?_ (by first|(show _<_;omega)|(simp<;>omega)) _|refine Fresh.alloc ?_ _)
 exact bZ HB2
def wnJ(w3:World)(g:Nat)(l:List (List UInt8))(d0:Dev)(L1:DLoc):Nat->(Nat->Value)->World->Prop
 |0,_,w=>w=w3.drew
 |1,cv,w=>∃A5 c5 ds,cv 1=.slice A5 l.length c5∧GRow kImg w w3.heap.size l ds A5 c5∧Each kImg l ds (fun k=>w3.heap.size<=k)∧Below w3.heap.size w3 w
 |2,cv,w=>∃A5 c5 ds,cv 3=.agg (worA ⟨l,d0,[]⟩ ⟨A5,c5,L1,none,0⟩)∧GRow kImg w w3.heap.size l ds A5 c5∧Each kImg l ds (fun k=>w3.heap.size<=k)∧Below w3.heap.size w3 w
 |_,_,w=>∃A5 c5 ds w4,GRow kImg w4 w3.heap.size l ds A5 c5∧Each kImg l ds (fun k=>w3.heap.size<=k)∧Below w3.heap.size w3 w4∧w=w4.setRow g (worA ⟨l,d0,[]⟩ ⟨A5,c5,L1,none,0⟩)
theorem wnJ_row{w3:World}{g q:Nat}{l:List (List UInt8)}{d0:Dev}{L1:DLoc}{cv:Nat->Value}(hk:k<=2)(hr:rowOf w3 q=devA d0 L1)(hf:frOf w3 q=(0,0))(hJ:wnJ w3 g l d0 L1 k cv w):rowOf w q=devA d0 L1∧frOf w q=(0,0):=by
 have hg:q<w3.heap.size:=row_lt (w:=w3) (by rw[hr];simp[devA]);have key:Below w3.heap.size w3 w->rowOf w q=devA d0 L1∧frOf w q=(0,0):=fun hb=>⟨(rowOf_below hg hb).trans hr,(frOf_below hg hb).trans hf⟩;rcases (show k=0∨k=1∨k=2 by omega)with rfl|rfl|rfl
 ·have hJ':w=w3.drew:=hJ;subst hJ';exact key (Below.refl _ _).drew
 ·exact x27l
 exact x27l
theorem worNew_calls(A:OA)(c:Nat)(l:List (List UInt8))(w:World)(hc:l.length<=c)(hl:l.length<=5864062014634)(hs:Ims w A l):Calls Tryz.prog 4 #[.slice A l.length c] w (WvRet w (worNew l).1 (worNew l).2):=by
 have HS:=qH hs;have K1:=qH (fun w h=>releases_calls A c l w hc hl h);have HBA:Hid (Below w.heap.size w (w.alloc (.cells (worA Wor.zero WLoc.zero) 40))):=qH (bL _);by_cases h3:relCheck l≠0
 ·have hz:worNew l=(Wor.zero,relCheck l):=by unfold worNew;rw[if_pos h3]
  rw[hz];have q:(relCheck l !=0)=true:=by simp[h3]
  generalize relCheck l=n at *
  clear hz h3 hs;go_enter Tryz.func4,Tryz.ntmps4;go_wp2_with fail;refine(K1.out _ (HS.out.stays HBA.out)).mono ?_;rintro e w1 ⟨rfl,rfl⟩;go_wp2_with fail;refine bodyPost_ret (rC (worA Wor.zero WLoc.zero)) rfl ⟨WLoc.zero,rfl,.const fun v=>WorIn.zero v,?_⟩;exact x0ap
 have h3:=Decidable.not_not.1 h3;obtain⟨hne,hfew,hsm⟩:=relCheck_ok.1 h3;obtain⟨b0,hb1⟩:=eX (l[0]'(List.length_pos_iff.2 hne));have hb2:b0.length<=64:=by rw[<-hb1];exact hsm _ (List.getElem_mem _)
 have hhd:l.headD []=b0:=by
  rw[<-hb1]
  cases l with
  |nil=>exact absurd rfl hne
  |cons a r=>rfl
 have hz:worNew l=(⟨l,newDev b0,[]⟩,0):=by unfold worNew;rw[if_neg (by omega),hhd]
 have hdn:devNew b0=(newDev b0,0):=by unfold devNew;rw[if_neg (by omega)]
 rw[hz];rw[h3]at K1;obtain⟨ab,ao,rfl,hab,cs,hcl,hcc,B,e3,rfl,hd1,hd2,hd3⟩:=hs 0 (List.length_pos_iff.2 hne);have q1:w.cell? ⟨ab,ao,none⟩=some (.slice B b0.length e3):=by have:=hcc 0 (by simp);rw[hb1]at this;simpa using this
 have HB1:Hid (Bts w B b0):=qH (by rw[<-hb1];exact hd3);have KD:=qH (fun w h=>devNew_calls B e3 b0 w (by omega) h);rw[hdn]at KD;obtain⟨d1,hd4⟩:=eX (newDev b0);rw[hd4]at KD⊢;have HQ1:=qH q1;have HQA:=qH hab;have hpos:0<l.length:=List.length_pos_iff.2 hne;have hposz:(0:Int)<(l.length:Int):=by omega
 have hcapz:(l.length:Int)<=(c:Int):=by omega
 have HBD:Hid (∀y∈l,y.length<=140737488351232):=qH HS.out.bound;have q0a:(w.alloc (.cells (worA Wor.zero WLoc.zero) 40)).cell? ⟨ab,ao,none⟩=some (.slice B b0.length e3):=(((bW w).alloc nl (.cells (worA Wor.zero WLoc.zero) 40)).cell (p:=⟨ab,ao,none⟩) hab).trans q1;clear hz hdn h3 hne hfew hsm hhd hcl hcc hd1 hd2 hd3 hb1 hd4 hb2 hs q1 hab;go_enter Tryz.func4,Tryz.ntmps4;go_wp2_with fail;refine(K1.out _ (HS.out.stays HBA.out)).mono ?_;rintro e w1 ⟨rfl,rfl⟩;go_wp2_with fail;refine(KD.out _ (HB1.out.stays HBA.out)).mono ?_;rintro e w2 ⟨L1,rfl,hfr,hb⟩;have a1:=kp (w.heap.size) (worA Wor.zero WLoc.zero) hb;have hsz1:w.heap.size+1<=w2.heap.size:=by have:=hb.size;simpa using this
 have HB2:=bT HBA hb;have HFR:Hid (Fresh (w.heap.size+1) w2 (fun v=>DevIn v d1 L1)):=qH (by simpa using hfr);clear hb hfr;go_wp2_with fail;obtain⟨w3,hw1⟩:=eX (w2.alloc (.cells (devA d1 L1) 38));have HRz:Hid (rowOf w3 w.heap.size=worA Wor.zero WLoc.zero):=qH (by rw[<-hw1,rowOf_alloc,if_neg a1.2.2.1];exact a1.1);have HFz:Hid (frOf w3 w.heap.size=(0,0)):=qH (by rw[<-hw1,frOf_alloc,if_neg a1.2.2.1];exact a1.2.1);have HR1:Hid (rowOf w3 w2.heap.size=devA d1 L1):=qH (by rw[<-hw1,rowOf_alloc,if_pos rfl]);have HF1:Hid (frOf w3 w2.heap.size=(0,0)):=qH (by rw[<-hw1,frOf_alloc,if_pos rfl]);have hsz2:w3.heap.size=w2.heap.size+1:=by rw[<-hw1];simp
 have HB3:Hid (Below w.heap.size w w3):=qH (by rw[<-hw1];exact HB2.out.alloc HB2.out.size _);have HF2:Hid (Fresh (w.heap.size+1) w3 (fun v=>DevIn v d1 L1)):=qH (by rw[<-hw1];exact HFR.out.alloc _);rw[hw1];obtain⟨g,hg⟩:=eX (w.heap.size);obtain⟨g1,hg1⟩:=eX (w2.heap.size);have HG:=qH hg;have KA:Hid (∀wq,Below w3.heap.size w3 wq->Calls Tryz.prog 16 #[.slice (some ⟨ab,ao,none⟩) l.length c] wq (KrRet kImg wq l)):=qH (fun wq h=>images_calls _ _ _ wq hl ((HS.out.stays HB3.out).stays h));rw[hg]at HRz HFz hsz1⊢;rw[hg1]at HR1 HF1⊢;clear hw1 a1 hg hg1;generalize hAA:(some ⟨ab,ao,none⟩:Option Addr)=A at *
 clear hAA;refine wM (some 24::some 25::some 26::some 27::none::some 3::[]) (none::some 0::none::some 1::some 2::none::[]) (.slice A l.length c::undef::.agg (devA d1 L1)::undef::undef::iv 0::[]) 3 (wnJ w3 g l d1 L1) 28 (rfl) ?_ ?_
 ·refine⟨?_,?_,?_,?_,?_,?_,trivial⟩
  ·intro done cv k1 a wq hw h hJ hn;have e1:=mO 0 (.slice A l.length c) h;exact mx_move (ch_ev e1)
  ·intro done cv a wq hw h hJ;have e1:=mN 0 24 h hw;obtain rfl:wq=w3.drew:=hJ;refine wp_call (vals:=#[.slice A l.length c]) (by rw[List.map_toArray,List.map_cons,List.map_nil,ch_ev e1]) (enters_of Tryz.func16 (by kernel_rfl) rfl _ _) (KA.out _ ((Below.refl _ _).drew)) ?_;exact x60d
  ·intro done cv k1 a wq hw h hJ hn;have e1:=mO 5 (.pointer (some ⟨g1,0,none⟩)) h;have hk:=hn 4 _ 2 rfl rfl (by decide);obtain⟨r_,f_⟩:=wnJ_row hk HR1.out HF1.out hJ;go_simp
  ·intro done cv a wq hw h hJ;have e1:=mx_cv (i:=1) (t:=25) h (hw 1 (by decide)) rfl rfl;have e26:=mN 2 26 h hw;obtain⟨A1,c1,ds,y1,hrow,heach,hbel⟩:=hJ;rw[y1]at e1;refine wp_val (v:=.agg (worA ⟨l,d1,[]⟩ ⟨A1,c1,L1,none,0⟩)) (by go_simp) ⟨_,rfl,A1,c1,ds,by simp,hrow,heach,hbel⟩
  ·intro done cv a wq hw h hJ;have e1:=mO 2 (.pointer (some ⟨g,0,none⟩)) h;have e27:=mx_cv (i:=3) (t:=27) h (hw 3 (by decide)) rfl rfl;obtain⟨A1,c1,ds,y1,hrow,heach,hbel⟩:=hJ;rw[y1]at e27;obtain⟨r_,f_,n_,c_,z_,l_⟩:=keep1 hbel HRz.out (by go_simp) HFz.out;refine wp_srow e1 e27 (by go_simp) (by go_simp) (cs:=worA Wor.zero WLoc.zero) r_ (by go_simp) f_ (by go_simp) ⟨undef,rfl,A1,c1,ds,wq,hrow,heach,hbel,?_⟩;rw[splice_all _ _ (by simp[worA])]
  ·intro done cv k1 a wq hw h hJ hn;exact mx_assign rfl
 intro cv w5 hJ;obtain⟨A1,c1,ds,w4,hrow,heach,hbel,rfl⟩:=hJ;simp only[mixAll,pA,mA,Nat.reduceAdd];have hs1:=hbel.size;have r1:0<(rowOf w4 g).size:=by rw[rowOf_below (by omega) hbel,HRz.out];simp[worA]
 have r2:rowOf (w4.setRow g (worA ⟨l,d1,[]⟩ ⟨A1,c1,L1,none,0⟩)) g=worA ⟨l,d1,[]⟩ ⟨A1,c1,L1,none,0⟩:=by rw[rowOf_setRow _ _ _ _ r1,if_pos rfl]
 have HBL:=qH hbel;have HIM:Hid (Fresh w3.heap.size w4 (fun v=>Ims v A1 l)):=qH ((hrow.fresh heach).imp fun v hv=>hv.src.ims HBD.out);have HC1:=qH hrow.row.le;clear hrow heach hbel;go_wp2_with fail;refine bodyPost_ret (results_ct rfl rfl (cs:=worA ⟨l,d1,[]⟩ ⟨A1,c1,L1,none,0⟩) r2 (by go_simp) (by go_simp)) rfl ⟨⟨A1,c1,L1,none,0⟩,rfl,?_,?_⟩
 ·refine Fresh.imp (P:=fun v=>DevIn v d1 L1∧Ims v A1 l) ?_ (fun v hv=>⟨HC1.out,hl,hv.2,hv.1,nl,Nat.zero_le _,Chs.nil _ _⟩);have e1:Fresh (g+1) (w4.setRow g (worA ⟨l,d1,[]⟩ ⟨A1,c1,L1,none,0⟩)) (fun v=>DevIn v d1 L1):=(Fresh.below (by rw[<-HG.out];exact HF2.out) HBL.out nl).row (by omega) _;have e2:Fresh (g+1) (w4.setRow g (worA ⟨l,d1,[]⟩ ⟨A1,c1,L1,none,0⟩)) (fun v=>Ims v A1 l):=(HIM.out.mono (by omega)).row (by omega) _;rw[HG.out];exact fun v hv=>⟨e1 v (fun k h1 h2=>hv k (by omega) h2),e2 v (fun k h1 h2=>hv k (by omega) h2)⟩
 rw[HG.out];have hb1:Below g w w3:=by rw[<-HG.out];exact HB3.out
 exact below_row (hb1.trans (HBL.out.mono (by omega))) nl _
