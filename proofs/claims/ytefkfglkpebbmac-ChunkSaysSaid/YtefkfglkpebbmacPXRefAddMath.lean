/- The document's way to add a chunk: by number. Plain words, no program here. -/
import Derived.Test.YtefkfglkpebbmacPA
set_option linter.unusedVariables false
set_option linter.unusedSimpArgs false
set_option maxRecDepth 100000
set_option maxHeartbeats 40000000
namespace Go.Proofs.Ytefkfglkpebbmac
open Go.RowKit
variable {Y:Prop}
def atN(l:List Chk)(k:Int):Option Chk:=l.find? (fun x=>x.n==k)
theorem byN_all:∀(m a:Nat) (R:List Chk),List.Pairwise (fun x y:Chk=>x.n<y.n) R->(∀x∈R,(a:Int)<=x.n∧x.n<(a:Int)+m)->(List.range' a m).flatMap (fun (k:Nat)=>(atN R (k:Int)).toList)=R
 |0,a,R,_,h=>by
  rcases R with _|⟨x,t⟩
  ·rfl
  have:=h x (by simp);omega
 |m+1,a,R,hp,h=>by
  rw[List.range'_succ,List.flatMap_cons];rcases R with _|⟨x,t⟩
  ·have:∀l:List Nat,l.flatMap (fun (k:Nat)=>(atN [] (k:Int)).toList)=[]:=fun l=>by simp[atN]
   rw[this];simp[atN]
  obtain⟨h1,h2⟩:=List.pairwise_cons.1 hp;by_cases e:x.n=(a:Int)
  ·have e1:atN (x::t) (a:Int)=some x:=by simp[atN,e]
   have e2:(List.range' (a+1) m).flatMap (fun (k:Nat)=>(atN (x::t) (k:Int)).toList)=(List.range' (a+1) m).flatMap (fun (k:Nat)=>(atN t (k:Int)).toList):=by
    rw[List.flatMap_def,List.flatMap_def];congr 1;refine List.map_congr_left fun k hk=>?_;have:a+1<=k:=by simp[List.mem_range'_1]at hk;omega
    have:(x.n==(k:Int))=false:=by simp;omega
    simp[atN,this]
   rw[e1,e2,byN_all m (a+1) t h2 (fun y hy=>by have:=h1 y hy;have:=h y (by simp[hy]);omega)];rfl
  have e1:atN (x::t) (a:Int)=none:=by
   unfold atN;rw[List.find?_eq_none];intro y hy;have:(a:Int)<y.n:=by
    rcases List.mem_cons.1 hy with rfl|hy
    ·have:=h y (by simp);omega
    have:=h1 y hy;have:=h x (by simp);omega
   simp;omega
  rw[e1,byN_all m (a+1) (x::t) hp (fun y hy=>by
   have:(a:Int)<y.n:=by
      rcases List.mem_cons.1 hy with rfl|hy
      ·have:=h y (by simp);omega
      have:=h1 y hy;have:=h x (by simp);omega
   have:=h y hy;omega)]
  rfl
def pickN(l:List Chk)(c:Chk)(k:Int):List Chk:=match atN l k with
 |some x=>[x]
 |none=>if k=c.n then [c] else []
def ofKin(l:List Chk)(c:Chk):List Chk:=match l with
 |[]=>[]
 |x::r=>if kin x c then x::r else []
def refAdd(l:List Chk)(c:Chk):List Chk:=(List.range 52).flatMap (fun (k:Nat)=>pickN (ofKin l c) c (k:Int))
theorem chkAdd_atN{l:List Chk}{c:Chk}(hl:chkList l=0)(hc:chkCheck c=0)(k:Int):pickN (ofKin l c) c k=(atN (chkAdd l c).1 k).toList:=by
 obtain⟨e4,e1,e2,e3⟩:=chkAdd_ok hl hc;by_cases hn:l=[]∨∃x∈l,¬kin x c
 ·have hk:ofKin l c=[]:=by
   rcases l with _|⟨x,r⟩
   ·rfl
   rcases kin_all (c:=c) hl (by simp)with h|⟨_,h⟩
   ·rcases hn with h'|⟨y,hy,h'⟩
    ·cases h'
    ·exact absurd (h y hy) h'
   show (if kin x c then x::r else [])=[];rw[if_neg (h x (by simp))]
  rw[e1 hn,hk];unfold pickN atN;by_cases e:c.n=k
  ·simp[e]
  simp[e,Ne.symm e]
 have hne:l≠[]:=fun e=>hn (.inl e);have hk:∀x∈l,kin x c:=fun x hx=>Decidable.byContradiction fun h=>hn (.inr ⟨x,hx,h⟩);have hkk:ofKin l c=l:=by
  rcases l with _|⟨x,r⟩
  ·rfl
  show (if kin x c then x::r else [])=_;rw[if_pos (hk x (by simp))]
 rw[hkk];by_cases he:∃y∈l,y.n=c.n
 ·rw[e2 hk he];unfold pickN;rcases h:atN l k with _|x
  ·have:k≠c.n:=by
    intro e;obtain⟨y,hy,hyn⟩:=he;unfold atN at h;have:=List.find?_eq_none.1 h y hy;simp[hyn,e]at this
   simp[this]
  rfl
 have hnn:∀y∈l,y.n≠c.n:=fun y hy h=>he ⟨y,hy,h⟩;rw[e3 hk hnn];have hsplit:=List.takeWhile_append_dropWhile (p:=fun y:Chk=>decide (y.n<c.n)) (l:=l);have hat:atN l k=(atN (l.takeWhile fun y=>decide (y.n<c.n)) k).or (atN (l.dropWhile fun y=>decide (y.n<c.n)) k):=by
  conv=>lhs;rw[<-hsplit]
  unfold atN;rw[List.find?_append]
 unfold pickN;by_cases e:k=c.n
 ·subst e;have hnone:atN l c.n=none:=by
   unfold atN;rw[List.find?_eq_none];intro y hy;simpa using hnn y hy
  have h1:atN (l.takeWhile fun y=>decide (y.n<c.n)) c.n=none:=by
   unfold atN;rw[List.find?_eq_none];intro y hy;simpa using hnn y (List.takeWhile_subset _ hy)
  rw[hnone];have:atN ((l.takeWhile fun y=>decide (y.n<c.n))++c::l.dropWhile fun y=>decide (y.n<c.n)) c.n=some c:=by
   unfold atN at h1⊢;rw[List.find?_append,h1];simp
  rw[this];simp
 have:atN ((l.takeWhile fun y=>decide (y.n<c.n))++c::l.dropWhile fun y=>decide (y.n<c.n)) k=atN l k:=by
  rw[hat];unfold atN;rw[List.find?_append,List.find?_cons];have:(c.n==k)=false:=by simp;omega
  rw[this]
 rw[this];rcases atN l k with _|x
 ·simp[e]
 rfl
theorem refAdd_is{l:List Chk}{c:Chk}(hl:chkList l=0)(hc:chkCheck c=0):refAdd l c=(chkAdd l c).1:=by
 obtain⟨k1,_,_⟩:=add_again hl hc;obtain⟨g1,g2⟩:=chkList_ok.1 k1;unfold refAdd;have:(List.range 52).flatMap (fun (k:Nat)=>pickN (ofKin l c) c (k:Int))=(List.range 52).flatMap (fun (k:Nat)=>(atN (chkAdd l c).1 (k:Int)).toList):=by
  congr 1
  funext k
  exact chkAdd_atN hl hc k
 rw[this,List.range_eq_range'];refine byN_all 52 0 _ (g2.imp fun h=>h.2) (fun x hx=>?_);have:=(chkCheck_ok.1 (g1 x hx)).1;unfold Chk.range at this;omega
end Go.Proofs.Ytefkfglkpebbmac
