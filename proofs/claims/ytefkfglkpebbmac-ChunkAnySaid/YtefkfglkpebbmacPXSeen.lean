/- A map of ints that the call has made: who has been seen. No conditions. -/
import Derived.Test.YtefkfglkpebbmacPA
import Derived.Maps.OwnSet
set_option linter.unusedVariables false
set_option linter.unusedSimpArgs false
set_option maxRecDepth 100000
set_option maxHeartbeats 40000000
namespace Go.Proofs.Ytefkfglkpebbmac
open Go.RowKit
variable {Y:Prop}
variable {w w':World} {g N:Nat} {S:Nat->Bool}
section
open Go.RowKit Go.Maps Go.ChangeMaps Go.MapKept
def cntS(N:Nat)(S:Nat->Bool):Nat:=((List.range N).filter S).length
theorem cnt_none(N:Nat):cntS N (fun _=>false)=0:=by simp[cntS]
theorem cnt_le(N:Nat)(S:Nat->Bool):cntS N S<=N:=by
 have:=List.length_filter_le S (List.range N);simpa[cntS]using this
theorem cnt_add(N:Nat)(S:Nat->Bool){k:Nat}(hk:k<N):cntS N (fun j=>S j || j==k)=cntS N S+if S k=true then 0 else 1:=by
 unfold cntS
 induction N with
 |zero=>omega
 |succ N ih=>
  rw[List.range_succ,List.filter_append,List.filter_append,List.length_append,List.length_append];by_cases e:k=N
  ·subst e;have a1:(List.range k).filter (fun j=>S j || j==k)=(List.range k).filter S:=List.filter_congr fun j hj=>by
    have:j<k:=by simpa using hj
    have:(j==k)=false:=by simp;omega
    simp[this]
   rw[a1];by_cases hS:S k=true<;>simp[hS]
  rw[ih (by omega)];have:(N==k)=false:=by simp;omega
  by_cases hS:S N=true<;>simp[hS,this]<;>omega
def SeenAt(w:World)(g N:Nat)(S:Nat->Bool):Prop:=
 ∃D:DataW Unit,w.ownsMap Try.prog 3 (plainElem Try.prog 4) g N D∧(∀j,j<N->has D (.int .i64 (j:Int))=S j)∧Maps.size D=cntS N S
theorem SeenAt.lt(h:SeenAt w g N S):g<w.heap.size:=by
 obtain⟨D,h,_⟩:=h;exact h.lt
theorem SeenAt.keep(h:SeenAt w g N S)(e:w'.heap[g]?=w.heap[g]?):SeenAt w' g N S:=by
 obtain⟨D,⟨es,clock,hb,r⟩,h1⟩:=h;exact⟨D,⟨es,clock,e.trans hb,r⟩,h1⟩
theorem SeenAt.below{B:Nat}(h:SeenAt w g N S)(hb:Below B w w')(hg:g<B):SeenAt w' g N S:=h.keep (hb.block g hg)
theorem SeenAt.setCell(h:SeenAt w g N S){a:Addr}(ha:g≠a.block)(u:Value):SeenAt (w.setCell a u) g N S:=by
 obtain⟨D,h,h1⟩:=h;exact⟨D,h.setCell ha u,h1⟩
theorem SeenAt.len(h:SeenAt w g N S)(ty:TypeId):(Builtin.len_ #[46] ty #[.map (some g)]).run Try.prog w=.ok (.int .i64 (cntS N S:Int)) w:=by
 obtain⟨D,h,_,h1⟩:=h;rw[<-h1];exact h.len Try.underlying46 ty
theorem SeenAt.made(w:World)(N:Nat):SeenAt (w.alloc (.map #[] 0)) w.heap.size N (fun _=>false):=
 ⟨.map [],(World.ownsMap_made w _ _ _).mono (Nat.zero_le _),fun j _=>rfl,by rw[cnt_none];rfl⟩
theorem keyLit_int(a:Int):WideAt.IsKeyLit (.int .i64 a):=by
 first|trivial|exact rfl|simp[WideAt.IsKeyLit]
theorem SeenAt.store(h:SeenAt w g N S)(hN:N<1000000){k:Nat}(hk:k<N):
  ∃w',(Instr.mapUpdate 46 (.map (some g)) (iv (k:Int)) (.bool true)).run Try.prog w=.ok () w'∧SeenAt w' g N (fun j=>S j || j==k)∧w.mapTurned w' g:=by
 obtain⟨D,h,h1,h3⟩:=h;have hs:=h.size_le;have ht:Tidy D:=h.tidy (int_keyed Try.underlying3);have hm:IsMap D:=ht.isMap;have h2:w.ownsMap Try.prog 3 (plainElem Try.prog 4) g (Maps.size D) D:=by
  obtain⟨es,clock,hb,F,_,e⟩:=h;refine⟨es,clock,hb,F,?_,e⟩;rw[e];simp[Maps.size,length_sorted]
 obtain⟨w',hrun,r1,r2⟩:=h2.store (int_keyed Try.underlying3) Try.underlying46 (Nat.lt_of_le_of_lt hs (Nat.lt_trans hN (by decide))) (keyOf_int_mk Try.underlying3 (a:=(k:Int)) (by simp[Lit.wf,IntKind.min,IntKind.max,IntKind.signed,IntKind.bits];omega)) (plainElem_bool Try.underlying4 true);have hsz:Maps.size (D.put (.int .i64 (k:Int)) (.lit (.bool true)))=cntS N (fun j=>S j || j==k):=by
  rw[size_put ht,h1 k hk,cnt_add N S hk,h3];split<;>rfl
 refine⟨w',hrun,⟨_,?_,fun j hj=>?_,hsz⟩,r2⟩
 ·obtain⟨es,clock,hb,F,_,e⟩:=r1;refine⟨es,clock,hb,F,?_,e⟩;have:=cnt_le N (fun j=>S j || j==k);rw[<-hsz,e]at this;simpa[Maps.size,length_sorted]using this
 by_cases e:j=k
 ·subst e;rw[has_put_same hm (keyLit_int _)];simp
 rw[has_put_other (by intro e2;injection e2 with _ e2;omega),h1 j hj];simp[e]
theorem turned_block(h:w.mapTurned w' g){i:Nat}(hi:i≠g):w'.heap[i]?=w.heap[i]?:=by
 obtain⟨es,clock,es',clock',hb,rfl⟩:=h;exact heap_setBlock_other hb _ hi
theorem turned_size(h:w.mapTurned w' g):w'.heap.size=w.heap.size:=by
 obtain⟨es,clock,es',clock',hb,rfl⟩:=h;simp[setBlock]
theorem turned_below{B:Nat}(h:w.mapTurned w' g)(hB:B<=g):Below B w w':=by
 have h1:=fun i hi=>turned_block h (i:=i) hi;have h2:=turned_size h;obtain⟨es,clock,es',clock',hb,rfl⟩:=h;exact⟨rfl,rfl,rfl,by rw[h2];exact Nat.le_refl _,fun k hk=>h1 k (by omega)⟩
end
end Go.Proofs.Ytefkfglkpebbmac
