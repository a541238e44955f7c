/- Walks of functions, and plain words. No conditions. -/
import Derived.Test.YtefkfglkpebbmaaGreatP1
set_option linter.unusedVariables false
set_option linter.unusedSimpArgs false
set_option maxRecDepth 100000
set_option maxHeartbeats 40000000
namespace Go.Proofs.YtefkfglkpebbmaaGreat
open Go.RowKit
variable {Y:Prop}
variable {w w':World} {A A':OA} {l:List Stp} {base B c' g j:Nat} {ds:List (Option Addr×Nat)}
theorem x433(h:Y:=by
 exact⟨B,d,by rw[<-HZ.out];rfl,by rw[<-HZ.out];exact HBE.out▸HO.out,HBE.out▸HB.out⟩):Y:=h
theorem x7zz(h:Y:=by
 go_wp2_with fail;go_ret2;exact⟨none,0,by rw[<-HZ.out];rfl,by rw[<-HZ.out];exact Own.nil_ _ _ _ _,HBE.out▸HB.out⟩):Y:=h
theorem mid_drop{l:LU}(h:Bts w A l)(c k:Nat)(hc:l.length<=c):Bts w (if c=k then A else Option.map (fun x=>x.add k) A) (l.drop k):=by
 by_cases e:k<l.length
 ·obtain⟨b,o,rfl,hlt,_⟩:=h 0 (by omega);rw[if_neg (by omega)];have e1:Option.map (fun x:Addr=>x.add k) (some ⟨b,o,none⟩)=some ⟨b,o+k,none⟩:=by simp[Addr.add]
  rw[e1];intro i hi;rw[List.length_drop]at hi;obtain⟨b',o',e1,h1,h2⟩:=h (k+i) (by omega);injection e1 with e1;injection e1 with e4 e5;subst e4 e5;exact⟨b,o+k,rfl,h1,by rw[Nat.add_assoc,h2];simp⟩
 rw[List.drop_eq_nil_of_le (by omega)];exact Bts.nil _ _
theorem mid_at{ab ao:Nat}{l:LU}(h:Bts w (some ⟨ab,ao,none⟩) l)(k:Nat):Bts w (some ⟨ab,ao+k,none⟩) (l.drop k):=by
 intro i hi;rw[List.length_drop]at hi;obtain⟨b',o',e1,h1,h2⟩:=h (k+i) (by omega);injection e1 with e1;injection e1 with e4 e5;subst e4 e5;exact⟨ab,ao+k,rfl,h1,by rw[Nat.add_assoc,h2];simp⟩
theorem mid_take{l:LU}(h:Bts w A l)(k:Nat):Bts w A (l.take k):=by
 intro i hi;rw[List.length_take]at hi;obtain⟨b,o,rfl,h1,h2⟩:=h i (by omega);exact⟨b,o,rfl,h1,by simpa using h2⟩
def UnRet(w:World)(r:List UInt8×Int):Ending->World->Prop:=fun en w'=>
 ∃A c,en=.returned (.tuple #[.slice A r.1.length c,iv r.2])∧Own w' w.heap.size 5 1 A r.1.length c (r.1.map bv)∧Below w.heap.size w w'
theorem and127(x:UInt8):bits .and .u8 (x.toNat:Int) 127=((x.toNat%128:Nat):Int):=by
 have key:∀n:Fin 256,bits .and .u8 (n.val:Int) 127=((n.val%128:Nat):Int):=by decide+kernel
 exact key ⟨x.toNat,x.toNat_lt⟩
theorem unpack_calls(Ab:OA)(cb:Nat)(b:LU)(most:Int)(w:World)(hc:b.length<=cb)(hl:b.length<=4194304)(hm:I64 most)(hB:Bts w Ab b):
  Calls Tryz.prog 126 #[.slice Ab b.length cb,iv most] w (UnRet w (unpacked b most)):=by
 obtain⟨hm1,hm2⟩:=hm;have HB3:=qH hB;have HBB:Hid (Below w.heap.size w w):=qH (Below.refl _ _);have HO1:Hid (Own w w.heap.size 5 1 none 0 0 (([]:List UInt8).map bv)):=qH (Own.nil_ _ _ _ _);clear hB;go_enter Tryz.func126,Tryz.ntmps126;go_wp2_with fail;generalize hbase:w.heap.size=base at *
 have HBE:=qH hbase;clear hbase
 go_loopg [0,6] b.length (fun g y o wr=>∃(l out:LU) (A B:OA) (c d:Nat),y=.slice A l.length c∧o=.slice B out.length d∧l.length<=c∧l.length<=g∧Hid (unpackAt most l out=unpacked b most)∧((out.length:Int)<=most∨out=[])∧out.length+127*l.length<=127*b.length∧Hid (Bts w A l)∧Hid (Own wr base 5 1 B out.length d (out.map bv))∧Hid (Below base w wr))
 case atStart=>exact⟨b,[],Ab,none,cb,0,rfl,rfl,hc,nl,qH rfl,.inr rfl,by simp,HB3,HO1,HBB⟩
 case round=>
  clear HB3 HO1 HBB;rename World=>wo;obtain⟨l,out,A,B,c,d,rfl,rfl,hlc,hlg,HE,hom,hob,HBt,HO,HB⟩:=hrel;rcases l with _|⟨x,r⟩
  ·have hz:(out,(0:Int))=unpacked b most:=by rw[<-HE.out,unpackAt_nil]
   have HZ:=qH hz;simp only[List.length_nil,Int.ofNat_eq_natCast,Int.natCast_zero]at *
   clear hz;go_wp2_with fail;go_ret2;exact x433
  simp only[List.length_cons]at *
  have HBW:Hid (∀w1,Below base w w1->Bts w1 A (x::r)):=qH (fun w1 h=>HBt.out.stays (HBE.out▸h));obtain⟨ab,ao,rfl,hab,hx⟩:=HBW.out wo HB.out 0 (by simp);simp only[Nat.add_zero,List.getElem_cons_zero]at hx;have hxl:=x.toNat_lt;obtain⟨n,hn⟩:∃n,n=x.toNat%128:=⟨_,rfl⟩;have hand:bits .and .u8 (x.toNat:Int) 127=(n:Int):=by rw[and127,hn]
  have hn1:n<128:=by omega
  have HN:=qH hn;clear hn;have dl:decide ((0:Int)<((r.length+1:Nat):Int))=true:=by simp<;>omega
  have hw1:IntKind.i64.wrap (most-(out.length:Int))=most-(out.length:Int):=IntWalk.i64_in _ (by have:(out.length:Int)<=most∨(out.length:Int)=0:=(hom.imp id (fun h=>by rw[h];rfl));omega);have hw1:IntKind.i64.wrap (1+(n:Int))=1+(n:Int):=IntWalk.i64_in _ (by omega);have HOM:=qH hom;clear hom;by_cases n1:n=0
  ·subst n1;have hz:(([]:List UInt8),(3:Int))=unpacked b most:=by rw[<-HE.out,unpackAt_zero HN.out.symm]
   have HZ:=qH hz;clear hz HE;exact x7zz
  have dn:((n:Int)==0)=false:=by simp<;>omega
  have hn1:x.toNat%128≠0:=by rw[<-HN.out];exact n1
  by_cases h3:128<=x.toNat
  ·have hu:=unpackAt_run (most:=most) (r:=r) (out:=out) hn1 h3;rw[HE.out,<-HN.out]at hu;have d8:decide ((128:Int)<=(x.toNat:Int))=true:=by simp<;>omega
   rcases r with _|⟨y,r⟩
   ·have hz:(([]:List UInt8),(7:Int))=unpacked b most:=by rw[hu,if_pos (by simp)]
    simp only[List.length_nil,Nat.zero_add,Int.natCast_one]at *
    clear hu;have HZ:=qH hz;clear hz HE;exact x7zz
   simp only[List.length_cons]at *
   have d2:decide ((((r.length+1+1:Nat)):Int)<2)=false:=by simp<;>omega
   rw[if_neg (by omega)]at hu;by_cases hgt:most-(out.length:Int)<(n:Int)
   ·have dg:decide (most-(out.length:Int)<(n:Int))=true:=by simp<;>omega
    have hz:(([]:List UInt8),(1:Int))=unpacked b most:=by rw[hu,if_pos hgt]
    clear hu;have HZ:=qH hz;clear hz HE;exact x7zz
   have dg:decide (most-(out.length:Int)<(n:Int))=false:=by simp<;>omega
   rw[if_neg hgt,List.drop_succ_cons,List.drop_zero,List.headD_cons]at hu;have HU:=qH hu;have HY:Hid (Bts wo (some ⟨ab,ao+1,none⟩) [y]):=qH (fun i hi=>by
    have e1:i=0:=by simp at hi;omega
    subst e1;obtain⟨b',o',e1,h1,h2⟩:=HBW.out wo HB.out 1 (by simp);injection e1 with e1;injection e1 with e4 e5;subst e4 e5;exact⟨ab,ao+1,rfl,h1,by simpa using h2⟩)
   have HG:Hid (¬most-(out.length:Int)<(n:Int)):=qH hgt;have hcc:¬c=1:=by omega
   have j1:(2:Int)<=(c:Int):=by omega
   have hob1:out.length+n<=137438953472:=by omega
   clear hu hgt;go_wp2_with fail;refine(repeat_calls (some ⟨ab,ao+1,none⟩) (c-1) y n wo (by omega) (by omega) HY.out).mono ?_;rintro e w1 ⟨A1,c1,rfl,ho1,hb1⟩;rw[List.length_replicate]at ho1;have hle:base<=w1.heap.size:=Nat.le_trans (Nat.le_trans (Nat.le_of_eq HBE.out.symm) HB.out.size) hb1.size;have hs1:=ho1.src;have ho2:=HO.out.below hb1;have hls:((List.replicate n y).map bv).length=n*1:=by simp
   have HB1:Hid (Below base w w1):=qH (HB.out.trans (hb1.mono (Nat.le_trans (Nat.le_of_eq HBE.out.symm) HB.out.size)));simp only[List.length_replicate];go_wp2_with (at_builtin;go_must (refine wpList_app w1 rfl _ _ 23 rfl elBytes base B out.length d (out.map bv) rfl ho2 A1 n c1 ((List.replicate n y).map bv) rfl hs1 hls (bv_one _) hob1 hle ?_;intro A' c' w2 hown hgr hbel hor));all_goals (
    have HO1:=qH hown;have HB1:Hid (Below base w w2):=qH (HB1.out.trans hbel);have HM1:Hid (((out++List.replicate n y).length:Int)<=most∨out++List.replicate n y=[]):=qH (.inl (by have:=HG.out;simp;omega));clear hown hgr hbel hor hs1 ho2 ho1 hb1 hls hle hob1
    go_roundg r.length
    case rel=>first
     |exact⟨r,out++List.replicate n y,some ⟨ab,ao+2,none⟩,A',c-2,c',rfl,by simp,by omega,by omega,qH HU.out.symm,HM1.out,by simp;omega,qH (mid_at HBt.out 2),qH (by simpa using HO1.out),HB1⟩
     |exact⟨r,out++List.replicate n y,some ⟨ab,ao,none⟩,A',0,c',rfl,by simp,by omega,by omega,qH HU.out.symm,HM1.out,by simp;omega,qH (by rw[List.eq_nil_of_length_eq_zero (by omega:r.length=0)];exact Bts.nil _ _),qH (by simpa using HO1.out),HB1⟩
    case measure=>omega)
  have hu:=unpackAt_plain (most:=most) (r:=r) (out:=out) hn1 h3;rw[HE.out,<-HN.out]at hu;have d8:decide ((128:Int)<=(x.toNat:Int))=false:=by simp<;>omega
  by_cases h1:r.length<n
  ·have hz:(([]:List UInt8),(7:Int))=unpacked b most:=by rw[hu,if_pos h1]
   have d2:decide (((r.length+1:Nat):Int)<1+(n:Int))=true:=by simp<;>omega
   clear hu;have HZ:=qH hz;clear hz HE;exact x7zz
  have d2:decide (((r.length+1:Nat):Int)<1+(n:Int))=false:=by simp<;>omega
  rw[if_neg h1]at hu;by_cases hgt:most-(out.length:Int)<(n:Int)
  ·have dg:decide (most-(out.length:Int)<(n:Int))=true:=by simp<;>omega
   have hz:(([]:List UInt8),(1:Int))=unpacked b most:=by rw[hu,if_pos hgt]
   have HZ:=qH hz;clear hu hz HE;exact x7zz
  have dg:decide (most-(out.length:Int)<(n:Int))=false:=by simp<;>omega
  rw[if_neg hgt]at hu;have HU:=qH hu;have HG:Hid (¬most-(out.length:Int)<(n:Int)):=qH hgt;have hcc:¬c=1:=by omega
  have j1:(1:Int)+(n:Int)<=(c:Int):=by omega
  have j1:(1:Int)<=1+(n:Int):=by omega
  have hob1:out.length+(1+n-1)<=137438953472:=by omega
  have hs1:Src wo (some ⟨ab,ao+1,none⟩) ((r.take n).map bv):=(mid_take (mid_at (HBW.out wo HB.out) 1) n).src;have hls:((r.take n).map bv).length=(1+n-1)*1:=by simp;omega
  have hle:base<=wo.heap.size:=Nat.le_trans (Nat.le_of_eq HBE.out.symm) HB.out.size;have ho1:=HO.out;clear hu hgt;go_wp2_with (at_builtin;go_must (refine wpList_app wo rfl _ _ 23 rfl elBytes base B out.length d (out.map bv) rfl ho1 (some ⟨ab,ao+1,none⟩) (1+n-1) (c-1) ((r.take n).map bv) rfl hs1 hls (bv_one _) hob1 hle ?_;intro A' c' w2 hown hgr hbel hor));all_goals (
   have e1n:out.length+n=(out++r.take n).length:=by simp;omega
   rw[show out.length+(1+n-1)=(out++r.take n).length by simp;omega]at hown;have HO1:=qH hown;have HB1:Hid (Below base w w2):=qH (HB.out.trans hbel);have HM1:Hid (((out++r.take n).length:Int)<=most∨out++r.take n=[]):=qH (.inl (by have:=HG.out;simp;omega));have HE1:Hid (r.length+1-(1+n)=(r.drop n).length):=qH (by simp;omega);have HE2:Hid (out.length+n=(out++r.take n).length):=qH e1n;clear hown hgr hbel hor hs1 ho1 hls hle hob1 e1n
   go_roundg r.length
   case rel=>first
    |(have h9:¬c=1+n:=by assumption
      exact⟨r.drop n,out++r.take n,some ⟨ab,ao+(1+n),none⟩,A',c-(1+n),c',by rw[HE1.out],by rw[HE2.out],by simp;omega,by simp,qH HU.out.symm,HM1.out,by simp;omega,qH (by have:=mid_at HBt.out (1+n);rwa [show (x::r).drop (1+n)=r.drop n by rw[Nat.add_comm,List.drop_succ_cons]]at this),qH (by simpa using HO1.out),HB1⟩)
    |exact⟨r.drop n,out++r.take n,some ⟨ab,ao,none⟩,A',0,c',by rw[HE1.out],by rw[HE2.out],by simp;omega,by simp,qH HU.out.symm,HM1.out,by simp;omega,qH (by rw[List.eq_nil_of_length_eq_zero (show (r.drop n).length=0 by simp;omega)];exact Bts.nil _ _),qH (by simpa using HO1.out),HB1⟩
   case measure=>omega)
theorem grown_of(hb:Below base w w')(hk:∀k,k<w.heap.size->A.map (·.block)≠some k->w'.heap[k]?=w.heap[k]?):w.grownBy w' (A.map (·.block)):=
 ⟨hb.os,hb.tape,hb.output,hb.size,fun k h1 h2=>hk k h1 (fun e=>h2 e.symm)⟩
theorem CRow.push2{c:Nat}{o:Stp}{d:Option Addr×Nat}(h:CRow w base l ds A c)
  (h1:Own w' base 143 3 A' (l.length+1) c' (opCells l ds++opCell o d)) (hb:Below B w w') (hk:∀k,k<w.heap.size->A.map (·.block)≠some k->w'.heap[k]?=w.heap[k]?) (h3:A'.map (·.block)=A.map (·.block)∨∀k,A'.map (·.block)=some k->w.heap.size<=k)
  (hd:Bts w d.1 o.data) (hd2:o.data.length<=d.2) (hd3:∀k,d.1.map (·.block)=some k->A.map (·.block)≠some k∧k<w.heap.size):
  CRow w' base (l++[o]) (ds++[d]) A' c':=by
 have h2:=grown_of hb hk;have hlen:=h.len;refine⟨by simp[hlen],?_,?_,?_⟩
 ·exact x5qt
 ·exact x5hd
 intro i d' hd' k hk;have key:A.map (·.block)≠some k∧k<w.heap.size:=by
  exact x2jf
 refine⟨?_,Nat.lt_of_lt_of_le key.2 h2.size⟩;rcases h3 with h3|h3
 ·rw[h3];exact key.1
 intro e;have:=h3 k e;omega
theorem x1s0(h:Y:=by
 have e:=hv k h1 h2;rcases Nat.lt_or_ge k v.heap.size with h|h
 ·exact h
 rw[Array.getElem?_eq_none h,Array.getElem?_eq_getElem h2]at e;cases e):Y:=h
structure Kd(α:Type) where
 ty:TypeId
 size:Nat
 slot:Nat
 cell:α->Option Addr×Nat->List Value
 dat:α->List UInt8
 len:∀x e,(cell x e).length=size
 lt:slot<size
 set:∀x e e',(cell x e).set slot (.slice e'.1 (dat x).length e'.2)=cell x e'
 get:∀x e,(cell x e)[slot]?=some (.slice e.1 (dat x).length e.2)
 one:∀x e,∀u∈cell x e,u.oneCell'=true
section
variable {α:Type} (K:Kd α)
def Kd.cells:List α->List (Option Addr×Nat)->List Value
 |o::l,d::ds=>K.cell o d++Kd.cells l ds
 |_,_=>[]
variable {K}
theorem cells_len:∀(l:List α) (ds:List (Option Addr×Nat)),ds.length=l.length->(K.cells l ds).length=l.length*K.size
 |[],[],_=>by simp[Kd.cells]
 |[],_::_,h=>by simp at h
 |_::_,[],h=>by simp at h
 |o::l,d::ds,h=>by
  have:=cells_len l ds (by simpa using h);rw[Kd.cells,List.length_append,K.len,this,List.length_cons,Nat.succ_mul];omega
theorem cells_append:∀(l m:List α) (ds es:List (Option Addr×Nat)),ds.length=l.length->K.cells (l++m) (ds++es)=K.cells l ds++K.cells m es
 |[],m,[],es,_=>by simp[Kd.cells]
 |[],_,_::_,_,h=>by simp at h
 |_::_,_,[],_,h=>by simp at h
 |x::l,m,y::ds,es,h=>by
  have:=cells_append l m ds es (by simpa using h);simp[Kd.cells,this]
theorem cells_one(x:α)(e:Option Addr×Nat):K.cells [x] [e]=K.cell x e:=by simp[Kd.cells]
theorem cells_oneCell:∀(l:List α) (ds:List (Option Addr×Nat)),∀u∈K.cells l ds,u.oneCell'=true
 |[],_,u,h=>by simp[Kd.cells]at h
 |_::_,[],u,h=>by simp[Kd.cells]at h
 |o::l,d::ds,u,h=>by
  rw[Kd.cells]at h;rcases List.mem_append.1 h with h|h
  ·exact K.one o d u h
  exact cells_oneCell l ds u h
theorem cells_at:∀(l:List α) (ds:List (Option Addr×Nat)),ds.length=l.length->∀(i j:Nat) (o:α) (d:Option Addr×Nat),l[i]?=some o->ds[i]?=some d->j<K.size->(K.cells l ds)[i*K.size+j]?=(K.cell o d)[j]?
 |[],[],_,i,j,o,d,h,_,_=>by simp at h
 |[],_::_,h,_,_,_,_,_,_,_=>by simp at h
 |_::_,[],h,_,_,_,_,_,_,_=>by simp at h
 |x::l,y::ds,h,i,j,o,d,hi,hd,hj=>by
  match i with
  |0=>
   have e1:x=o:=by simpa using hi
   have e2:y=d:=by simpa using hd
   subst e1 e2;rw[Kd.cells,Nat.zero_mul,Nat.zero_add,List.getElem?_append_left (by rw[K.len];exact hj)]
  |i+1=>
   have:=cells_at l ds (by simpa using h) i j o d (by simpa using hi) (by simpa using hd) hj;rw[Kd.cells,List.getElem?_append_right (by rw[K.len,Nat.succ_mul];omega),<-this,K.len];congr 1;rw[Nat.succ_mul];omega
theorem cells_take(l:List α)(ds:List (Option Addr×Nat))(h:ds.length=l.length)(i:Nat)(hi:i<=l.length):K.cells (l.take i) (ds.take i)=(K.cells l ds).take (i*K.size)∧K.cells (l.drop i) (ds.drop i)=(K.cells l ds).drop (i*K.size):=by
 have e:=cells_append (K:=K) (l.take i) (l.drop i) (ds.take i) (ds.drop i) (by simp;omega);rw[List.take_append_drop,List.take_append_drop]at e;have hl:=cells_len (K:=K) (l.take i) (ds.take i) (by simp;omega);rw[List.length_take,Nat.min_eq_left hi]at hl;refine⟨?_,?_⟩
 ·rw[e,List.take_left' hl]
 rw[e,List.drop_left' hl]
theorem cells_set:∀(l:List α) (ds:List (Option Addr×Nat)),ds.length=l.length->∀(i:Nat) (o:α) (e:Option Addr×Nat),l[i]?=some o->(K.cells l ds).set (i*K.size+K.slot) (.slice e.1 (K.dat o).length e.2)=K.cells l (ds.set i e)
 |[],_,_,i,o,e,h=>by simp at h
 |_::_,[],h,_,_,_,_=>by simp at h
 |x::l,y::ds,h,i,o,e,hi=>by
  have hlt:=K.lt
  match i with
  |0=>
   have e1:x=o:=by simpa using hi
   subst e1;rw[Kd.cells,Nat.zero_mul,Nat.zero_add,List.set_append_left _ _ (by rw[K.len];exact hlt),K.set,List.set_cons_zero,Kd.cells]
  |i+1=>
   have:=cells_set l ds (by simpa using h) i o e (by simpa using hi);rw[Kd.cells,List.set_append_right _ _ (by rw[K.len,Nat.succ_mul];omega),K.len,List.set_cons_succ,Kd.cells,<-this];congr 2;rw[Nat.succ_mul];omega
end
structure GSrc{α:Type}(K:Kd α)(w:World)(A:OA)(l:List α)(ds:List (Option Addr×Nat)):Prop where
 len:ds.length=l.length
 row:Src w A (K.cells l ds)
 data:∀(i:Nat) (o:α) (d:Option Addr×Nat),l[i]?=some o->ds[i]?=some d->Bts w d.1 (K.dat o)∧(K.dat o).length<=d.2
def Each{α:Type}(K:Kd α)(l:List α)(ds:List (Option Addr×Nat))(P:Nat->Prop):Prop:=
 ∀(i:Nat) (o:α) (d:Option Addr×Nat),l[i]?=some o->ds[i]?=some d->K.dat o≠[]->∀k,d.1.map (·.block)=some k->P k
structure GRow{α:Type}(K:Kd α)(w:World)(base:Nat)(l:List α)(ds:List (Option Addr×Nat))(A:OA)(c:Nat):Prop where
 len:ds.length=l.length
 row:Own w base K.ty K.size A l.length c (K.cells l ds)
 data:∀(i:Nat) (o:α) (d:Option Addr×Nat),l[i]?=some o->ds[i]?=some d->Bts w d.1 (K.dat o)∧(K.dat o).length<=d.2
 off:Each K l ds (fun k=>A.map (·.block)≠some k)
theorem bts_keep{B:OA}{x:LU}(h:Bts w B x)(hs:w.heap.size<=w'.heap.size)(hk:x≠[]->∀k,k<w.heap.size->B.map (·.block)=some k->w'.heap[k]?=w.heap[k]?):Bts w' B x:=by
 intro j hj;obtain⟨b,o1,e1,hlt,hc⟩:=h j hj;have e:=hk (fun e=>by rw[e]at hj;simp at hj) b hlt (by rw[e1];rfl);exact x8f0
theorem bts_block{B:OA}{x:LU}(h:Bts w B x)(hx:x≠[]):∀k,B.map (·.block)=some k->k<w.heap.size:=by
 obtain⟨b,o1,e1,hlt,hc⟩:=h 0 (List.length_pos_iff.2 hx);intro k hk;rw[e1]at hk;have e:b=k:=by simpa using hk
 omega
section
variable {α:Type} {K:Kd α} {w w':World} {base:Nat} {l:List α} {ds:List (Option Addr×Nat)} {A:OA} {c:Nat} {P Q:Nat->Prop}
theorem Each.imp(h:Each K l ds P)(hq:∀k,P k->Q k):Each K l ds Q:=fun i o d e1 e2 hx k hk=>hq k (h i o d e1 e2 hx k hk)
theorem Each.nil:Each K ([]:List α) ds P:=fun i o d h=>by simp at h
theorem GSrc.each(h:GSrc K w A l ds):Each K l ds (fun k=>k<w.heap.size):=fun i o d e1 e2 hx=>bts_block (h.data i o d e1 e2).1 hx
theorem GRow.src(h:GRow K w base l ds A c):GSrc K w A l ds:=⟨h.len,h.row.src,h.data⟩
theorem GSrc.stays(h:GSrc K w A l ds)(hb:Below w.heap.size w w'):GSrc K w' A l ds:=
 ⟨h.len,h.row.stays hb,fun i o d h1 h2=>⟨(h.data i o d h1 h2).1.stays hb,(h.data i o d h1 h2).2⟩⟩
theorem GRow.nil(w:World)(base:Nat):GRow K w base ([]:List α) [] none 0:=⟨rfl,by simpa[Kd.cells]using Own.nil_ _ _ _ _,fun i o d h=>by simp at h,Each.nil⟩
theorem GRow.below(h:GRow K w base l ds A c)(hb:Below w.heap.size w w'):GRow K w' base l ds A c:=
 ⟨h.len,h.row.below hb,fun i o d h1 h2=>⟨(h.data i o d h1 h2).1.stays hb,(h.data i o d h1 h2).2⟩,h.off⟩
theorem GRow.mono{base':Nat}(h:GRow K w base l ds A c)(hb:base'<=base):GRow K w base' l ds A c:=⟨h.len,h.row.mono hb,h.data,h.off⟩
theorem GRow.keep(h:GRow K w base l ds A c)(hs:w.heap.size<=w'.heap.size)(hA:∀k,k<w.heap.size->A.map (·.block)=some k->w'.heap[k]?=w.heap[k]?)(hd:Each K l ds (fun k=>k<w.heap.size->w'.heap[k]?=w.heap[k]?)):GRow K w' base l ds A c:=
 ⟨h.len,h.row.same (fun k e=>hA k (h.row.block k e).2 e),fun i o d h1 h2=>⟨bts_keep (h.data i o d h1 h2).1 hs fun hx k h3 e=>hd i o d h1 h2 hx k e h3,(h.data i o d h1 h2).2⟩,h.off⟩
theorem GRow.setOther(h:GRow K w base l ds A c)(hA:A.map (·.block)≠some g)(hd:Each K l ds (fun k=>k≠g))(v:Value):GRow K (w.setCell ⟨g,j,none⟩ v) base l ds A c:=
 h.keep (by simp) (fun k _ hk=>Below.heap_setCell _ _ _ _ (fun e=>hA (by rw[hk,show k=g from e]))) (hd.imp fun k hk _=>Below.heap_setCell _ _ _ _ hk)
theorem GRow.remake{l':List α}{ds':List (Option Addr×Nat)}(h:GRow K w base l ds A c)(hl:ds'.length=l'.length)(h1:Own w' base K.ty K.size A' l'.length c' (K.cells l' ds'))(hb:Below B w w')
  (hk:∀k,k<w.heap.size->A.map (·.block)≠some k->w'.heap[k]?=w.heap[k]?) (h3:A'.map (·.block)=A.map (·.block)∨∀k,A'.map (·.block)=some k->w.heap.size<=k)
  (hd:∀(i:Nat) (o:α) (d:Option Addr×Nat),l'[i]?=some o->ds'[i]?=some d->(∃j:Nat,l[j]?=some o∧ds[j]?=some d)∨(Bts w d.1 (K.dat o)∧(K.dat o).length<=d.2∧(K.dat o≠[]->∀k,d.1.map (·.block)=some k->A.map (·.block)≠some k))):
  GRow K w' base l' ds' A' c':=by
 have key:∀(i:Nat) (o:α) (d:Option Addr×Nat),l'[i]?=some o->ds'[i]?=some d->Bts w d.1 (K.dat o)∧(K.dat o).length<=d.2∧(K.dat o≠[]->∀k,d.1.map (·.block)=some k->A.map (·.block)≠some k):=by
  intro i o d e1 e2;rcases hd i o d e1 e2 with ⟨j,e3,e4⟩|h
  ·exact⟨(h.data j o d e3 e4).1,(h.data j o d e3 e4).2,h.off j o d e3 e4⟩
  exact h
 refine⟨hl,h1,fun i o d e1 e2=>?_,fun i o d e1 e2 hx k hk2=>?_⟩
 ·obtain⟨k1,k2,k3⟩:=key i o d e1 e2;exact⟨bts_keep k1 hb.size fun hx k h4 e=>hk k h4 (k3 hx k e),k2⟩
 obtain⟨k1,k2,k3⟩:=key i o d e1 e2;have k2:=k3 hx k hk2;have k1:=bts_block k1 hx k hk2;rcases h3 with h3|h3
 ·rw[h3];exact k2
 intro e;have:=h3 k e;omega
theorem GRow.push{o:α}{d:Option Addr×Nat}(h:GRow K w base l ds A c)
  (h1:Own w' base K.ty K.size A' (l.length+1) c' (K.cells l ds++K.cell o d)) (hb:Below B w w') (hk:∀k,k<w.heap.size->A.map (·.block)≠some k->w'.heap[k]?=w.heap[k]?) (h3:A'.map (·.block)=A.map (·.block)∨∀k,A'.map (·.block)=some k->w.heap.size<=k)
  (hd:Bts w d.1 (K.dat o)) (hd2:(K.dat o).length<=d.2) (hd3:K.dat o≠[]->∀k,d.1.map (·.block)=some k->A.map (·.block)≠some k):
  GRow K w' base (l++[o]) (ds++[d]) A' c':=by
 have hlen:=h.len;refine h.remake (by simp[hlen]) ?_ hb hk h3 fun i o' d' hi hd'=>?_
 ·rw[cells_append _ _ _ _ hlen,cells_one,List.length_append];exact h1
 rcases snoc_at hi with hi|⟨rfl,rfl⟩
 ·have hil:i<l.length:=(List.getElem?_eq_some_iff.1 hi).1;rw[List.getElem?_append_left (by omega)]at hd';exact .inl ⟨i,hi,hd'⟩
 rw[<-hlen]at hd';simp at hd';subst hd';exact .inr ⟨hd,hd2,hd3⟩
theorem Each.push{o:α}{d:Option Addr×Nat}(h:Each K l ds P)(hl:ds.length=l.length)(hd:K.dat o≠[]->∀k,d.1.map (·.block)=some k->P k):Each K (l++[o]) (ds++[d]) P:=by
 intro i o' d' hi hd' hx k hk;rcases snoc_at hi with hi|⟨rfl,rfl⟩
 ·have hil:i<l.length:=(List.getElem?_eq_some_iff.1 hi).1;rw[List.getElem?_append_left (by omega)]at hd';exact h i o' d' hi hd' hx k hk
 rw[<-hl]at hd';simp at hd';subst hd';exact hd hx k hk
theorem GRow.setData{i:Nat}{o:α}{e:Option Addr×Nat}(h:GRow K w base l ds (some ⟨g,0,none⟩) c)(hi:l[i]?=some o)(hd:Bts w e.1 (K.dat o))(hd2:(K.dat o).length<=e.2)(hd3:K.dat o≠[]->∀k,e.1.map (·.block)=some k->g≠k):
  GRow K (w.setCell ⟨g,i*K.size+K.slot,none⟩ (.slice e.1 (K.dat o).length e.2)) base l (ds.set i e) (some ⟨g,0,none⟩) c:=by
 have hr:=h.row.stored (i*K.size+K.slot) (.slice e.1 (K.dat o).length e.2);rw[cells_set l ds h.len i o e hi]at hr;refine⟨by rw[List.length_set];exact h.len,hr,fun j o' d' e1 e2=>?_,fun j o' d' e1 e2 hx k hk=>?_⟩
 ·rw[List.getElem?_set]at e2;by_cases hji:i=j
  ·subst hji;rw[hi]at e1;injection e1 with e1;subst e1;by_cases hl:i<ds.length
   ·rw[if_pos rfl,if_pos hl]at e2;injection e2 with e2;subst e2;exact⟨bts_keep hd (by simp) fun hx k _ hk=>Below.heap_setCell _ _ _ _ (fun e3=>hd3 hx k hk e3.symm),hd2⟩
   rw[if_pos rfl,if_neg hl]at e2;cases e2
  rw[if_neg hji]at e2;obtain⟨k1,k2⟩:=h.data j o' d' e1 e2;exact⟨bts_keep k1 (by simp) fun hx k _ hk=>Below.heap_setCell _ _ _ _ (fun e3=>h.off j o' d' e1 e2 hx k hk (by rw[show k=g from e3];rfl)),k2⟩
 rw[List.getElem?_set]at e2;by_cases hji:i=j
 ·by_cases hl:i<ds.length
  ·rw[if_pos hji,if_pos hl]at e2;injection e2 with e2;subst e2 hji;rw[hi]at e1;injection e1 with e1;subst e1;exact fun e3=>hd3 hx k hk (by injection e3)
  ·rw[if_pos hji,if_neg hl]at e2;cases e2
 rw[if_neg hji]at e2;exact h.off j o' d' e1 e2 hx k hk
theorem GRow.fresh(h:GRow K w base l ds A c)(hn:Each K l ds (fun k=>base<=k)):Fresh base w (fun v=>GRow K v base l ds A c):=by
 intro v hv;have hlt:∀k,base<=k->k<w.heap.size->k<v.heap.size:=fun k h1 h2=>by
  exact x1s0
 refine⟨h.len,own_fresh h.row hv,fun i o d h1 h2=>⟨fun j hj=>?_,(h.data i o d h1 h2).2⟩,h.off⟩;obtain⟨b,o1,e1,hl1,hc⟩:=(h.data i o d h1 h2).1 j hj;have hx:K.dat o≠[]:=fun e=>by rw[e]at hj;simp at hj
 have hbb:=hn i o d h1 h2 hx b (by rw[e1];rfl);exact⟨b,o1,e1,hlt b hbb hl1,(World.cell?_of_block (hv b hbb hl1)).trans hc⟩
end
theorem x43h(h:Y:=by
 go_wp2_with fail;go_ret;exact⟨rfl,Below.refl _ _⟩):Y:=h
def kOp:Kd Stp where
 ty:=143
 size:=3
 slot:=2
 cell:=fun o e=>[iv o.at_,iv o.len,.slice e.1 o.data.length e.2]
 dat:=Stp.data
 len:=fun _ _=>rfl
 lt:=by decide
 set:=fun _ _ _=>rfl
 get:=fun _ _=>rfl
 one:=fun x e u hu=>by simp at hu;rcases hu with rfl|rfl|rfl<;>rfl
def kChk:Kd Chk where
 ty:=61
 size:=5
 slot:=4
 cell:=fun x e=>chkC x e.1 e.2
 dat:=Chk.data
 len:=fun _ _=>rfl
 lt:=by decide
 set:=fun _ _ _=>rfl
 get:=fun _ _=>rfl
 one:=fun x e u hu=>by simp at hu;rcases hu with rfl|rfl|rfl|rfl|rfl<;>rfl
def kImg:Kd (List UInt8) where
 ty:=23
 size:=1
 slot:=0
 cell:=fun x e=>[.slice e.1 x.length e.2]
 dat:=fun x=>x
 len:=fun _ _=>rfl
 lt:=by decide
 set:=fun _ _ _=>rfl
 get:=fun _ _=>rfl
 one:=fun x e u hu=>by simp at hu;subst hu;rfl
def rImg:CR (List UInt8):=fun w cs x=>∃B c,cs=[.slice B x.length c]∧x.length<=c∧x.length<=140737488351232∧Bts w B x
theorem stays_img:Stays rImg:=by
 rintro w w' cs x ⟨B,c,rfl,h1,h2,h3⟩ hb;exact⟨B,c,rfl,h1,h2,h3.stays hb⟩
abbrev Ims (w:World) (A:OA) (l:List (List UInt8)):Prop:=Elems 1 rImg w A l
theorem Ims.stays{l:List (List UInt8)}(h:Ims w A l)(hb:Below w.heap.size w w'):Ims w' A l:=Elems.stays stays_img h hb
section
variable {α:Type} {K:Kd α} {w:World} {A:OA} {l:List α} {ds:List (Option Addr×Nat)} {R:CR α}
theorem gsrc_of(hR:∀cs x,R w cs x->∃e:Option Addr×Nat,cs=K.cell x e∧Bts w e.1 (K.dat x)∧(K.dat x).length<=e.2)(h:Elems K.size R w A l):∃ds,GSrc K w A l ds:=by
 have each:∀i:Fin l.length,∃e:Option Addr×Nat,∃b o,A=some ⟨b,o,none⟩∧b<w.heap.size∧(∀j,(hj:j<(K.cell l[i.1] e).length)->w.cell? ⟨b,o+i.1*K.size+j,none⟩=some (K.cell l[i.1] e)[j])∧Bts w e.1 (K.dat l[i.1])∧(K.dat l[i.1]).length<=e.2:=by
  intro i;obtain⟨b,o,h1,h2,cs,h3,h4,h5⟩:=h i.1 i.2;obtain⟨e,rfl,h3,h5⟩:=hR _ _ h5;exact⟨e,b,o,h1,h2,h4,h3,h5⟩
 let f:Fin l.length->Option Addr×Nat:=fun i=>Classical.choose (each i)
 have hf:∀i:Fin l.length,∃b o,A=some ⟨b,o,none⟩∧b<w.heap.size∧(∀j,(hj:j<(K.cell l[i.1] (f i)).length)->w.cell? ⟨b,o+i.1*K.size+j,none⟩=some (K.cell l[i.1] (f i))[j])∧Bts w (f i).1 (K.dat l[i.1])∧(K.dat l[i.1]).length<=(f i).2:=fun i=>Classical.choose_spec (each i);have hl:(List.ofFn f).length=l.length:=by simp
 refine⟨List.ofFn f,hl,fun p hp=>?_,fun i o d h1 h2=>?_⟩
 ·rw[cells_len _ _ hl]at hp;have hs:0<K.size:=by have:=K.lt;omega
  have hi:p / K.size<l.length:=Nat.div_lt_of_lt_mul (by rw[Nat.mul_comm];exact hp);have hj:p%K.size<K.size:=Nat.mod_lt _ hs;have hpe:p / K.size*K.size+p%K.size=p:=by rw[Nat.mul_comm];exact Nat.div_add_mod _ _
  obtain⟨b,o,hA,hb,hc,_⟩:=hf ⟨p / K.size,hi⟩;refine⟨b,o,hA,hb,?_⟩;have e1:=cells_at (K:=K) l (List.ofFn f) hl (p / K.size) (p%K.size) l[p / K.size] (f ⟨p / K.size,hi⟩) (List.getElem?_eq_getElem hi) (by simp[hi]) hj;rw[hpe]at e1;have e2:=hc (p%K.size) (by rw[K.len];exact hj);dsimp only at e2;rw[show o+p / K.size*K.size+p%K.size=o+p by omega]at e2;rw[e2,<-List.getElem?_eq_getElem,<-e1,List.getElem?_eq_getElem (by rw[cells_len _ _ hl];exact hp)]
 have hi:=(List.getElem?_eq_some_iff.1 h1).1;obtain⟨_,_,_,_,_,h3,h4⟩:=hf ⟨i,hi⟩;have e1:l[i]=o:=by rw[List.getElem?_eq_getElem hi]at h1;injection h1
 have e2:f ⟨i,hi⟩=d:=by simpa[hi]using h2
 dsimp only at h3 h4;rw[e1,e2]at h3 h4;exact⟨h3,h4⟩
theorem elems_of(h:GSrc K w A l ds)(hR:∀x∈l,∀e:Option Addr×Nat,Bts w e.1 (K.dat x)->(K.dat x).length<=e.2->R w (K.cell x e) x):Elems K.size R w A l:=by
 intro i hi;have hs:0<K.size:=by have:=K.lt;omega
 have hd:i<ds.length:=by rw[h.len];exact hi
 have hl:l[i]?=some l[i]:=List.getElem?_eq_getElem hi;have hds:ds[i]?=some ds[i]:=List.getElem?_eq_getElem hd;have hcl:=cells_len (K:=K) l ds h.len;have hib:i*K.size+K.size<=l.length*K.size:=by rw[<-Nat.succ_mul];exact Nat.mul_le_mul_right _ hi
 obtain⟨b,o,hA,hlt,_⟩:=h.row (i*K.size) (by omega);obtain⟨hd1,hd2⟩:=h.data i _ _ hl hds;refine⟨b,o,hA,hlt,K.cell l[i] ds[i],K.len _ _,fun j hj=>?_,hR _ (List.getElem_mem hi) _ hd1 hd2⟩;rw[K.len]at hj;obtain⟨b',o',e,_,hc⟩:=h.row (i*K.size+j) (by omega);rw[hA]at e;injection e with e;injection e with e1 e2;subst e1 e2;have:=cells_at (K:=K) l ds h.len i j _ _ hl hds hj;rw[List.getElem?_eq_getElem (by omega),List.getElem?_eq_getElem (by rw[K.len];exact hj)]at this;rw[show o+i*K.size+j=o+(i*K.size+j) by omega,hc];exact this
end
theorem Sps.gsrc(h:Sps w A l):∃ds,GSrc kOp w A l ds:=
 gsrc_of (K:=kOp) (R:=rOp) (fun cs x ⟨B,c,h1,h2,_,h4,_⟩=>⟨(B,c),h1,h4,h2⟩) h
theorem GSrc.sps(h:GSrc kOp w A l ds)(hb:∀o∈l,I64 o.at_∧I64 o.len∧o.data.length<=140737488351232):Sps w A l:=
 elems_of (K:=kOp) (R:=rOp) h fun x hx e h1 h2=>⟨e.1,e.2,rfl,h2,(hb x hx).2.2,h1,(hb x hx).1,(hb x hx).2.1⟩
def ChkB(x:Chk):Prop:=x.data.length<=140737488351232∧I64 x.from_∧I64 x.to_∧I64 x.n∧I64 x.of_
theorem Chs.gsrc{l:List Chk}(h:Chs w A l):∃ds,GSrc kChk w A l ds:=
 gsrc_of (K:=kChk) (R:=rChk) (fun cs x ⟨B,c,h1,h2⟩=>⟨(B,c),h1,h2.data,h2.cap⟩) h
theorem GSrc.chs{l:List Chk}(h:GSrc kChk w A l ds)(hb:∀x∈l,ChkB x):Chs w A l:=
 elems_of (K:=kChk) (R:=rChk) h fun x hx e h1 h2=>⟨e.1,e.2,rfl,h2,(hb x hx).1,h1,(hb x hx).2.1,(hb x hx).2.2.1,(hb x hx).2.2.2.1,(hb x hx).2.2.2.2⟩
theorem Chs.bound{l:List Chk}(h:Chs w A l):∀x∈l,ChkB x:=by
 intro x hx;obtain⟨i,hi,rfl⟩:=List.mem_iff_getElem.1 hx;obtain⟨b,o,_,_,cs,_,_,B,c,_,h1⟩:=h i hi;exact⟨h1.len,h1.i0,h1.i1,h1.i2,h1.i3⟩
theorem Sps.bound(h:Sps w A l):∀o∈l,I64 o.at_∧I64 o.len∧o.data.length<=140737488351232:=by
 intro x hx;obtain⟨i,hi,rfl⟩:=List.mem_iff_getElem.1 hx;obtain⟨b,o,_,_,cs,_,_,B,c,_,h1,h2,h3,h4,h5⟩:=h i hi;exact⟨h4,h5,h2⟩
theorem Ims.gsrc{l:List (List UInt8)}(h:Ims w A l):∃ds,GSrc kImg w A l ds:=
 gsrc_of (K:=kImg) (R:=rImg) (fun cs x ⟨B,c,h1,h2,h3,h4⟩=>⟨(B,c),h1,h4,h2⟩) h
theorem GSrc.ims{l:List (List UInt8)}(h:GSrc kImg w A l ds)(hb:∀x∈l,x.length<=140737488351232):Ims w A l:=
 elems_of (K:=kImg) (R:=rImg) h fun x hx e h1 h2=>⟨e.1,e.2,rfl,h2,hb x hx,h1⟩
theorem Ims.bound{l:List (List UInt8)}(h:Ims w A l):∀x∈l,x.length<=140737488351232:=by
 intro x hx;obtain⟨i,hi,rfl⟩:=List.mem_iff_getElem.1 hx;obtain⟨b,o,_,_,cs,_,_,B,c,_,h1,h2,h3⟩:=h i hi;exact h2
theorem fresh_lt{k:Nat}{v:World}(hv:∀k,base<=k->k<w.heap.size->v.heap[k]?=w.heap[k]?)(h1:base<=k)(h2:k<w.heap.size):k<v.heap.size:=by
 exact x1s0
theorem Fresh.fresh{v:World}{P:World->Prop}(h:Fresh base w P)(hv:∀k,base<=k->k<w.heap.size->v.heap[k]?=w.heap[k]?):Fresh base v P:=
 fun u hu=>h u fun k h1 h2=>(hu k h1 (fresh_lt hv h1 h2)).trans (hv k h1 h2)
structure DevOwn(w:World)(base m1 m2:Nat)(d:Dev)(L:DLoc):Prop where
 h1:base<=m1
 h2:m1<=m2
 o0:Own w base 5 1 L.a0 d.s0.length L.c0 (d.s0.map bv)
 b0:∀k,L.a0.map (·.block)=some k->k<m1
 o1:Own w m1 5 1 L.a1 d.s1.length L.c1 (d.s1.map bv)
 b1:∀k,L.a1.map (·.block)=some k->k<m2
 got:Fresh m2 w (fun v=>Chs v L.ag d.got)
 job:Fresh m2 w (fun v=>PatIn v d.job L.aj L.cj)
 l0:d.s0.length<=140737488351232
 l1:d.s1.length<=140737488351232
 kg:d.got.length<=L.cg
 lg:d.got.length<=2513169434843
 ir:I64 d.running
 id:I64 d.done
def DvOwn(w:World)(base:Nat)(d:Dev)(L:DLoc):Prop:=∃m1 m2,DevOwn w base m1 m2 d L
section
variable {w v:World} {base m1 m2:Nat} {d:Dev} {L:DLoc}
theorem DevOwn.same(h:DevOwn w base m1 m2 d L)(hv:∀k,base<=k->k<w.heap.size->v.heap[k]?=w.heap[k]?):DevOwn v base m1 m2 d L:=
 ⟨h.h1,h.h2,own_fresh h.o0 hv,h.b0,own_fresh h.o1 (fun k h1=>hv k (Nat.le_trans h.h1 h1)),h.b1,
   h.got.fresh (fun k h1=>hv k (by have:=h.h1;have:=h.h2;omega)),h.job.fresh (fun k h1=>hv k (by have:=h.h1;have:=h.h2;omega)),h.l0,h.l1,h.kg,h.lg,h.ir,h.id⟩
theorem DvOwn.fresh(h:DvOwn w base d L):Fresh base w (fun v=>DvOwn v base d L):=by
 obtain⟨m1,m2,h⟩:=h;exact fun v hv=>⟨m1,m2,h.same hv⟩
theorem DvOwn.mono{base':Nat}(h:DvOwn w base d L)(hb:base'<=base):DvOwn w base' d L:=by
 obtain⟨m1,m2,h⟩:=h;exact⟨m1,m2,Nat.le_trans hb h.h1,h.h2,h.o0.mono hb,h.b0,h.o1,h.b1,h.got,h.job,h.l0,h.l1,h.kg,h.lg,h.ir,h.id⟩
theorem DevOwn.devIn(h:DevOwn w base m1 m2 d L):DevIn w d L:=
 ⟨h.o0.le,h.l0,h.o0.src.bts,h.o1.le,h.l1,h.o1.src.bts,h.kg,h.lg,h.got.now,h.job.now,h.ir,h.id⟩
theorem DvOwn.devIn(h:DvOwn w base d L):DevIn w d L:=by
 obtain⟨m1,m2,h⟩:=h;exact h.devIn
end
def DcRet(w:World)(d:Dev):Ending->World->Prop:=fun en w'=>
 ∃L,en=.returned (.agg (devA d L))∧Fresh w.heap.size w' (fun v=>DvOwn v w.heap.size d L)∧Below w.heap.size w w'
def DvRet(w:World)(d:Dev)(n:Int):Ending->World->Prop:=fun en w'=>
 ∃L,en=.returned (.tuple #[.agg (devA d L),iv n])∧Fresh w.heap.size w' (fun v=>DevIn v d L)∧Below w.heap.size w w'
theorem wp_srow{P:Program}{a:Act}{K:Act->World->Prop}{Q:Exit->Act->World->Prop}{ty t:TypeId}{p:String}{af:Array Edge}{gd:Option (Nat×Bool)}{x y:Tmp}{cs new:Array Value}(hx:a.tmps[x]?=some (.pointer (some ⟨g,j,none⟩)))(hy:a.tmps[y]?=some (.agg new))
  (h1:aggSz P ty=new.size) (h0:0<new.size) (hr:rowOf w g=cs) (h2:j+new.size<=cs.size) (hf:frOf w g=(0,0)) (hc:allOne new=true) (h:K a (w.setRow g (splice cs j new))):
  Oper.wp P ⟨none,.store ty (.tmp x) (.tmp y),t,p,af,gd⟩ a w K Q:=by
 have e1:a.eval (.tmp x)=.pointer (some ⟨g,j,none⟩):=by simp[Act.eval,hx]
 have e2:a.eval (.tmp y)=.agg new:=by simp[Act.eval,hy]
 have e:=exec_store_row (P:=P) (w:=w) (ev:=a.eval) (d:=none) (ty:=ty) (t:=t) (x:=.tmp x) (y:=.tmp y) (p:=p) (e:=af) (gd:=gd) (by omega) (by rw[e1];rfl) (by rw[e2];rfl) (by rw[e2,h1];rfl) (by rw[e1,e2];show j+new.size<=(rowOf w g).size;rw[hr];exact h2) (by rw[e1];exact hf) (by rw[e2];exact hc);unfold Oper.wp;rw[e,e1,e2]
 show K a (w.setRow g (splice (rowOf w g) j new));rw[hr];exact h
theorem wp_ssc{a:Act}{K:Act->World->Prop}{Q:Exit->Act->World->Prop}{t:TypeId}{p:String}{af:Array Edge}{gd:Option (Nat×Bool)}{x y:Tmp}{B:OA}{n c:Nat}{cs:Array Value}(hx:a.tmps[x]?=some (.pointer (some ⟨g,j,none⟩)))(hy:a.tmps[y]?=some (.slice B n c))
  (hr:rowOf w g=cs) (hj:j<cs.size) (hf:frOf w g=(0,0)) (h:K a (w.setRow g (cs.setIfInBounds j (.slice B n c)))):
  Oper.wp Tryz.prog ⟨none,.store 33 (.tmp x) (.tmp y),t,p,af,gd⟩ a w K Q:=by
 have e1:a.eval (.tmp x)=.pointer (some ⟨g,j,none⟩):=by simp[Act.eval,hx]
 have e2:a.eval (.tmp y)=.slice B n c:=by simp[Act.eval,hy]
 obtain⟨t1,hb⟩:=row_blk (w:=w) (g:=g) (by rw[hr];omega);rw[hr,hf]at hb;have hc:w.cell? ⟨g,j,none⟩=some cs[j]:=by rw[cell_of_row _ _ _ _ _ _ hb];simp[hj]
 have hz:w.frozen? ⟨g,j,none⟩=false:=frozen_of_row _ _ _ _ _ hb;have hs:=setCell_eq_setRow w g j cs t1 (0,0) (.slice B n c) hb;unfold Oper.wp execOp;simp only[e1,e2];go_simp
 first|exact h|(rw[hs];exact h)
def Kp(base:Nat)(w1 w:World):Prop:=∀k,base<=k->k<w1.heap.size->w.heap[k]?=w1.heap[k]?
section
variable {base g:Nat} {w1 w w':World}
theorem Kp.refl(base:Nat)(w1:World):Kp base w1 w1:=fun _ _ _=>rfl
theorem Kp.row(h:Kp base w1 w)(hg:g<base∨w1.heap.size<=g)(cs:Array Value):Kp base w1 (w.setRow g cs):=fun k h1 h2=>(setRow_other w g k cs (by omega)).trans (h k h1 h2)
theorem Kp.cell(h:Kp base w1 w){p:Addr}(hg:p.block<base∨w1.heap.size<=p.block)(u:Value):Kp base w1 (w.setCell p u):=fun k h1 h2=>(Below.heap_setCell _ _ _ _ (by omega)).trans (h k h1 h2)
theorem Kp.below(h:Kp base w1 w)(hs:w1.heap.size<=w.heap.size)(hb:Below w.heap.size w w'):Kp base w1 w':=fun k h1 h2=>(hb.block k (by omega)).trans (h k h1 h2)
theorem Kp.alloc(h:Kp base w1 w)(hs:w1.heap.size<=w.heap.size)(o:Obj):Kp base w1 (w.alloc o):=h.below hs (bL o)
theorem Fresh.kp{P:World->Prop}(h:Fresh base w1 P)(hk:Kp base w1 w)(hB:B<=base)(hs:w1.heap.size<=w.heap.size):Fresh B w P:=fun v hv=>h v fun k h1 h2=>(hv k (by omega) (by omega)).trans (hk k h1 h2)
end
@[go_sem] theorem setRow_setCell(w:World)(g j:Nat)(cs:Array Value)(v:Value):(w.setRow g cs).setCell ⟨g,j,none⟩ v=w.setRow g (cs.setIfInBounds j v):=by
 unfold World.setRow World.setCell;congr 1
 apply Array.ext_getElem?
 intro i;simp only[Array.getElem?_modify];by_cases e:g=i
 ·subst e;simp only[if_true]
  cases w.heap[g]? with
  |none=>rfl
  |some o=>cases o<;>rfl
 simp[e]
def DLoc.down(L:DLoc):DLoc:=⟨L.a0,L.c0,L.a1,L.c1,none,0,none,0⟩
theorem big_dev'(n:Nat)(h:0<n):bigBuild Tryz.prog 38 n:=by
 obtain⟨i,hi,_⟩:=info_parts (P:=Tryz.prog) (e:=38) (z:=.agg (devA Dev.zero DLoc.zero)) (size:=37) (bytes:=360) (by kernel_rfl);exact⟨i,hi,h⟩
@[go_sem] theorem big_dev2:bigBuild Tryz.prog 38 2:=big_dev' 2 (by decide)
@[go_sem] theorem build_dev2(a b:OA)(c e:Nat)(x y:LU)(p q:Cop)(w:World):runBuild Tryz.prog 38 #[(0,.agg (slotsA a x.length c b y.length e)),(1,.agg (copsA p q))] w=.ok (.agg (devA ⟨x,y,p,q,false,0,[],false,Pat.zero,0⟩ ⟨a,c,b,e,none,0,none,0⟩)) w:=by kernel_rfl
theorem DevIn.down{d:Dev}{L:DLoc}(h:DevIn w d L):DevIn w d.down L.down:=
 ⟨h.k0,h.l0,h.b0,h.k1,h.l1,h.b1,nl,Nat.zero_le _,Chs.nil _ _,pat_in_zero w,⟨by show -9223372036854775808<=(0:Int);omega,by show (0:Int)<=9223372036854775807;omega⟩,⟨by show -9223372036854775808<=(0:Int);omega,by show (0:Int)<=9223372036854775807;omega⟩⟩
theorem down_calls(d:Dev)(L:DLoc)(w:World):Calls Tryz.prog 96 #[.agg (devA d L)] w (RetB w (.agg (devA d.down L.down))):=by
 go_enter Tryz.func96,Tryz.ntmps96;go_wp2_with fail;refine bodyPost_ret (results_c rfl rfl (cs:=devA d.down L.down) (by go_simp;first|rfl|done) (by go_simp) (by go_simp)) rfl ⟨rfl,?_⟩;exact x89i
theorem without_calls(d:Dev)(L:DLoc)(w:World):Calls Tryz.prog 75 #[.agg (devA d L)] w (RetB w (.agg (devA d.down L.down))):=by
 go_enter Tryz.func75,Tryz.ntmps75;go_wp2_with fail;refine bodyPost_ret (results_c rfl rfl (cs:=devA d.down L.down) (by go_simp;first|rfl|done) (by go_simp) (by go_simp)) rfl ⟨rfl,?_⟩;exact x89i
end Go.Proofs.YtefkfglkpebbmaaGreat
