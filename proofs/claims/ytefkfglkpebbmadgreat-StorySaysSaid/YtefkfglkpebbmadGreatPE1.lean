/- Walks of functions, and plain words. No conditions. -/
import Derived.Test.YtefkfglkpebbmadGreatP0
import Derived.Maps.AppendAt
import Derived.Deep.AppendLies
import Derived.Deep.OwnRows
import Derived.Deep.Onto
import Derived.Lib.AppendZerosOnto
import Derived.Laws.StructEq
import Derived.Deep.LoopGhost
import Derived.StillTailTactics
set_option linter.unusedVariables false
set_option linter.unusedSimpArgs false
set_option maxRecDepth 100000
set_option maxHeartbeats 40000000
namespace Go.Proofs.YtefkfglkpebbmadGreat
open Go.RowKit
variable {Y:Prop}
variable {w w':World} {l:LU} {t:TypeId} {size old:Int} {base g e:Nat} {xs:List Value} {P:World->Prop} {o x y:Stp}
theorem x4d9(h:Y:=by
 go_wp2
 go_ret;exact⟨none,0,rfl,Own.nil_ _ _ _ _,Below.refl _ _⟩):Y:=h
theorem x5fs(h:Y:=by
 rcases Nat.eq_zero_or_pos cs.length with h|h
 ·exact h
 obtain⟨b,o,h,_⟩:=hr 0 h
 cases h):Y:=h
theorem x6v2(h:Y:=by
 go_ret;simp only[Nat.zero_add,List.nil_append]at hown;exact⟨_,_,rfl,hown,((Below.refl _ _).alloc (Nat.le_refl _) _).trans hb⟩):Y:=h
theorem x72e(h:Y:=by
 intro i hi;obtain⟨b,o,hA,hs,hc⟩:=h i (by simpa using hi);exact⟨b,o,hA,hs,by simpa using hc⟩):Y:=h
def Src(w:World)(A:OA)(cs:List Value):Prop:=
 ∀i,(h:i<cs.length)->∃b o,A=some ⟨b,o,none⟩∧b<w.heap.size∧w.cell? ⟨b,o+i,none⟩=some cs[i]
theorem Src.nil(w:World)(A:OA):Src w A []:=fun i hi=>absurd hi (by simp)
theorem Src.stays{A:OA}{l:List Value}(h:Src w A l)(hb:Below w.heap.size w w'):Src w' A l:=by
 exact x71y
theorem Bts.src{A:OA}(h:Bts w A l):Src w A (l.map bv):=by
 exact x72e
theorem Src.bts{A:OA}(h:Src w A (l.map bv)):Bts w A l:=by
 exact x72e
def Own(w:World)(base:Nat)(e:TypeId)(size:Nat)(A:OA)(n c:Nat)(xs:List Value):Prop:=w.ownsRow base e size (.slice A n c) n xs
section
variable {w w':World} {base:Nat} {e:TypeId} {size:Nat} {A:OA} {n c:Nat} {xs:List Value}
theorem Own.nil_(w:World)(base:Nat)(e:TypeId)(size:Nat):Own w base e size none 0 0 []:=⟨by simp,Or.inl ⟨rfl,rfl⟩⟩
theorem Own.src(h:Own w base e size A n c xs):Src w A xs:=by
 obtain⟨hl,⟨hv,h1⟩|⟨g,cap,cur,hv,hb,hh,_,_,hsz,ht⟩⟩:=h
 ·subst h1;have:xs=[]:=List.eq_nil_of_length_eq_zero (by simpa using hl);subst this;exact Src.nil _ _
 intro i hi;injection hv with hA _ _;refine⟨g,0,hA,blk_lt hh,?_⟩;rw[Nat.zero_add,cell_of_row _ _ _ _ _ _ hh];subst ht;simp only[List.length_take]at hi;simp only[List.getElem_take,Array.getElem_toList];exact Array.getElem?_eq_getElem (by simp at hi;omega)
theorem Own.le(h:Own w base e size A n c xs):n<=c:=by
 obtain⟨hl,⟨hv,h1⟩|⟨g,cap,cur,hv,hb,hh,hn,_,hsz,ht⟩⟩:=h
 ·omega
 injection hv;omega
theorem Own.block(h:Own w base e size A n c xs):∀k,A.map (·.block)=some k->base<=k∧k<w.heap.size:=by
 intro k hk;refine World.ownsRow.lt h k ?_
 cases A<;>simp_all [Value.ownBlock]
theorem own_block(A:OA)(n c:Nat):(Value.slice A n c).ownBlock=A.map (·.block):=by cases A<;>rfl
theorem Own.kept{row:Option Nat}(h:Own w base e size A n c xs)(hg:w.grownBy w' row)(hne:A.map (·.block)=none∨A.map (·.block)≠row):Own w' base e size A n c xs:=
 World.ownsRow.kept h hg (by rw[own_block];exact hne)
theorem Own.alloc(h:Own w base e size A n c xs)(o:Obj):Own (w.alloc o) base e size A n c xs:=World.ownsRow.alloc h o
theorem Own.mono{base':Nat}(h:Own w base e size A n c xs)(hb:base'<=base):Own w base' e size A n c xs:=World.ownsRow.mono h hb
theorem Own.below(h:Own w base e size A n c xs)(hb:Below w.heap.size w w'):Own w' base e size A n c xs:=by
 refine Own.kept (row:=none) h ⟨hb.os,hb.tape,hb.output,hb.size,fun k hk _=>hb.block k hk⟩ ?_
 cases A<;>simp
end
section
variable {w:World} {base:Nat} {e:TypeId} {size g n c:Nat} {A:OA} {xs:List Value}
theorem Own.form(h:Own w base e size A n c xs)(hn:0<n):∃g,A=some ⟨g,0,none⟩∧base<=g∧g<w.heap.size:=by
 rcases h.2 with ⟨_,h0⟩|⟨g,cap,cur,hv,hb,hh,_⟩
 ·omega
 injection hv with hA _ _;exact⟨g,hA,hb,blk_lt hh⟩
theorem Own.cellAt(h:Own w base e size (some ⟨g,0,none⟩) n c xs)(j:Nat)(hj:j<n*size):w.cell? ⟨g,j,none⟩=xs[j]?:=World.ownsRow.cellAt h j hj
theorem Own.frozenAt(h:Own w base e size (some ⟨g,0,none⟩) n c xs)(j:Nat):w.frozen? ⟨g,j,none⟩=false:=World.ownsRow.frozenAt h j
theorem Own.stored(h:Own w base e size (some ⟨g,0,none⟩) n c xs)(j:Nat)(u:Value):Own (w.setCell ⟨g,j,none⟩ u) base e size (some ⟨g,0,none⟩) n c (xs.set j u):=(World.ownsRow.stored h j u).1
end
theorem own_zero(w:World)(e size:Nat):Own (w.alloc (.cells #[] e)) w.heap.size e size (some ⟨w.heap.size,0,none⟩) 0 0 []:=
 ⟨by simp,Or.inr ⟨_,0,#[],rfl,Nat.le_refl _,blk_top rfl,by omega,by unfold maxLen;omega,by simp,by simp⟩⟩
structure El(P:Program)(t e:TypeId)(size:Nat)(L:Nat:=137438953472):Prop where
 ht:P.underlying t=some (.slice e)
 hi:∃i z,P.info? e=some i∧i.zero=some z∧i.size=size∧(i.bytes*L<=140737488355328∧L<=140737488355328)∧z.cells.size=size
 pos:0<size
section
variable {P:Program} (w:World)
theorem run_app{ty e:TypeId}{size L:Nat}(E:El P t e size L){A:OA}{n c:Nat}(hown:Own w base e size A n c xs)
  {B:OA} {m d:Nat} {news:List Value} (hs:Src w B news) (hl:news.length=m*size) (h1:∀u∈news,u.oneCell'=true) (hb:n+m<=L) (hbase:base<=w.heap.size):
  ∃A' c' w',(Builtin.append_ #[t,t] ty #[.slice A n c,.slice B m d]).run P w=.ok (.slice A' (n+m) c') w'∧Own w' base e size A' (n+m) c' (xs++news)∧
   w.grownBy w' (A.map (·.block))∧Below base w w'∧(A'.map (·.block)=A.map (·.block)∨A'.map (·.block)=some w.heap.size):=by
 obtain⟨ht,⟨i,z,hi,hz,hsize,hby,hzs⟩,hsz⟩:=E;have fin:∀v' w',(Builtin.append_ #[t,t] ty #[.slice A n c,.slice B m d]).run P w=.ok v' w'->w'.ownsRow base e size v' (n+m) (xs++news)->w.grownBy w' (A.map (·.block))->
   (v'.ownBlock=A.map (·.block)∨v'.ownBlock=some w.heap.size)->
   ∃A' c' w',(Builtin.append_ #[t,t] ty #[.slice A n c,.slice B m d]).run P w=.ok (.slice A' (n+m) c') w'∧Own w' base e size A' (n+m) c' (xs++news)∧
   w.grownBy w' (A.map (·.block))∧Below base w w'∧(A'.map (·.block)=A.map (·.block)∨A'.map (·.block)=some w.heap.size):=by
  intro v' w' hr ho hg hbl;have hbel:Below base w w':=(Below.refl base w).grown hg hbase (fun k hk=>(hown.block k hk).1);obtain⟨hl',⟨hv,h1⟩|⟨g,cap,cur,hv,hrest⟩⟩:=ho
  ·subst hv;refine⟨none,0,w',by rw[h1];exact hr,⟨hl',Or.inl ⟨by rw[h1],h1⟩⟩,hg,hbel,by simpa[Value.ownBlock]using hbl⟩
  subst hv;exact⟨_,_,w',hr,⟨hl',Or.inr ⟨g,cap,cur,rfl,hrest⟩⟩,hg,hbel,by simpa[Value.ownBlock]using hbl⟩
 by_cases hB:∃ad,B=some ad∧∀j u,news[j]?=some u->w.cell? (ad.add j)=some u
 ·obtain⟨ad,rfl,hc⟩:=hB;have hbytes:(n+m)*i.bytes<=140737488355328:=by
   exact Nat.le_trans (Nat.mul_le_mul_right _ hb) (by rw[Nat.mul_comm];exact hby.1)
  obtain⟨v',w',hrun,h1,h3,_,h4⟩:=run_append_own_at (P:=P) w base t ty e i z size i.bytes ht hi hz hsize rfl hzs hsz (.slice A n c) n xs hown ad m d news hl hc h1 (by have:=hby.2;simp only[maxLen];omega) hbytes hbase;rw[own_block]at h3 h4;exact fin v' w' hrun h1 h3 h4
 have hm:news=[]:=by
  rcases news with _|⟨u,r⟩
  ·rfl
  exfalso;obtain⟨b,o,rfl,_,_⟩:=hs 0 (by simp);refine hB ⟨_,rfl,fun j u hu=>?_⟩;obtain⟨hj,rfl⟩:=List.getElem?_eq_some_iff.1 hu;obtain⟨b',o',he,_,hc⟩:=hs j hj;injection he with he;injection he with h1 h2;subst h1 h2;have:(⟨b,o,none⟩:Addr).add j=⟨b,o+j,none⟩:=by unfold Addr.add;split<;>simp_all
  rw[this];exact hc
 subst hm;have hm1:m=0:=by
  rcases Nat.eq_zero_or_pos m with h|h
  ·exact h
  have:=Nat.mul_pos h hsz;simp at hl;omega
 subst hm1;have hBn:B=none:=by
  rcases B with _|ad
  ·rfl
  exact absurd ⟨ad,rfl,fun j u hu=>by simp at hu⟩ hB
 subst hBn;have hrun:(Builtin.append_ #[t,t] ty #[.slice A n c,.slice none 0 d]).run P w=.ok (.slice A n c) w:=by
  have hle:=hown.le;rcases A with _|ad
  ·rcases hown.2 with ⟨hv,hn⟩|⟨g,cap,cur,hv,_⟩
   ·injection hv with _ h1 h2;subst h1 h2;simp[Builtin.append_,run_underlying ht,sizeOf,typeInfo,hi,Builtin.lenOf,Builtin.firstCells]
   ·cases hv
  simp[Builtin.append_,run_underlying ht,sizeOf,typeInfo,hi,Builtin.lenOf,Builtin.firstCells,hle,storeCells]
 exact fin _ _ hrun (by rw[Nat.add_zero,List.append_nil];exact hown) (World.grownBy.refl w _) (Or.inl (own_block _ _ _))
theorem wpList_app{ops:Array Oper}{rest:List Oper}{o:Oper}{a:Act}{Q:Exit->Act->World->Prop}(hgd:o.guard=none)(s x:Operand)(t:TypeId)
  (ho:o.op=.call {callee:=.builtin .append,args:=#[s,x],argTypes:=#[t,t]}) {e:TypeId} {size L:Nat} (E:El P t e size L) (base:Nat) (A:OA) (n c:Nat) (xs:List Value) (hs:a.eval s=.slice A n c) (hown:Own w base e size A n c xs)
  (B:OA) (m d:Nat) (news:List Value) (hx:a.eval x=.slice B m d) (hsrc:Src w B news) (hl:news.length=m*size) (h1:∀u∈news,u.oneCell'=true) (hb:n+m<=L) (hbase:base<=w.heap.size)
  (h:∀A' c' w',Own w' base e size A' (n+m) c' (xs++news)->w.grownBy w' (A.map (·.block))->Below base w w'->(A'.map (·.block)=A.map (·.block)∨A'.map (·.block)=some w.heap.size)->wpList P ops Q rest (a.put o.dst (.slice A' (n+m) c')) w'):
  wpList P ops Q (o::rest) a w:=by
 refine wpList_plain hgd fun K hK=>?_;obtain⟨A',c',w',hrun,h1,h3,h4,h5⟩:=run_app (ty:=o.type) w E hown (B:=B) (d:=d) hsrc hl h1 hb hbase;unfold Oper.wp execOp;simp only[ho,resolve,invoke,builtin,Sem.run_bind,Sem.run_pure,Result.andThen_ok,List.map_toArray,List.map_cons,List.map_nil,hs,hx,hrun];exact hK _ _ (h A' c' w' h1 h3 h4 h5)
end
def SlRet(w:World)(e size n:Nat)(cs:List Value):Ending->World->Prop:=fun en w'=>
 ∃A c,en=.returned (.slice A n c)∧Own w' w.heap.size e size A n c cs∧Below w.heap.size w w'
theorem elOpsB:El Tryz.prog 34 122 3 3518437208883:=⟨Tryz.underlying34,by
 obtain⟨i,h⟩:=info_parts (P:=Tryz.prog) (e:=122) (z:=.agg #[.int .i64 0,.int .i64 0,.slice none 0 0]) (size:=3) (bytes:=40) (by kernel_rfl);exact⟨i,_,h.1,h.2.1,h.2.2.1,by omega,rfl⟩,by omega⟩
theorem elBytesB:El Tryz.prog 23 5 1 140737488355328:=⟨Tryz.underlying23,by
 obtain⟨i,h⟩:=info_parts (P:=Tryz.prog) (e:=5) (z:=.int .u8 0) (size:=1) (bytes:=1) (by kernel_rfl);exact⟨i,_,h.1,h.2.1,h.2.2.1,by omega,rfl⟩,by omega⟩
theorem elBytes:El Tryz.prog 23 5 1:=⟨Tryz.underlying23,by
 obtain⟨i,h⟩:=info_parts (P:=Tryz.prog) (e:=5) (z:=.int .u8 0) (size:=1) (bytes:=1) (by kernel_rfl);exact⟨i,_,h.1,h.2.1,h.2.2.1,by omega,rfl⟩,by omega⟩
section
open Go.RowKit
end
section
open Go.RowKit
end
section
variable {P:Program} (w:World)
end
structure SrcOf where
 A:Option Addr
 n:Nat
 c:Nat
 cells:List Value
def SrcOf.val(s:SrcOf):Value:=.slice s.A s.n s.c
def SrcOf.ok(s:SrcOf)(w:World)(size:Nat):Prop:=s.cells.length=s.n*size∧Src w s.A s.cells∧∀u∈s.cells,u.oneCell'=true
theorem SrcOf.ok.stays{s:SrcOf}{size:Nat}(h:s.ok w size)(hb:Below w.heap.size w w'):s.ok w' size:=⟨h.1,h.2.1.stays hb,h.2.2⟩
def sumN(ss:List SrcOf):Nat:=(ss.map SrcOf.n).sum
theorem sumN_take(ss:List SrcOf)(k:Nat)(h:k<ss.length):sumN (ss.take (k+1))=sumN (ss.take k)+ss[k].n:=by
 unfold sumN;rw[List.take_succ_eq_append_getElem h,List.map_append,List.sum_append];rfl
theorem sumN_le(ss:List SrcOf)(k:Nat):sumN (ss.take k)<=sumN ss:=by
 have h:sumN ss=sumN (ss.take k)+sumN (ss.drop k):=by
  unfold sumN;rw[<-List.sum_append,<-List.map_append,List.take_append_drop]
 omega
theorem growBytes_calls(n:Nat)(w:World)(hn:n<=137438953472):
  Calls Tryz.prog 104 #[.slice none 0 0,iv n] w (SlRet w 5 1 0 []):=by
 rcases Nat.eq_zero_or_pos n with rfl|hp
 ·go_enter Tryz.func104,Tryz.ntmps104;exact x4d9
 obtain⟨i,hi,hz,hs,hb⟩:=info_parts (P:=Tryz.prog) (e:=5) (z:=.int .u8 0) (size:=1) (bytes:=1) (by kernel_rfl);have hr:=fun ty=>Lib.run_append_grow_zeros (P:=Tryz.prog) w 23 3 ty 5 i (.int .u8 0) .i64 .i64 Tryz.underlying23 Tryz.underlying3 hi hz none 0 0 [] (run_firstCells_none _ _ _ _ _) n hp (by omega) (by omega) (by omega) (by rw[hb];omega)
  (growslice_fits (by omega) (by rw[hb];omega))
 have hG:=grownCap_ge w (0+n) 0 5;have hG1:=grownCap_le_maxLen w (0+n) 0 5 (by unfold maxLen;omega);have h1:(0:Int)<(n:Int):=by omega
 obtain⟨cap,hcd⟩:∃cap,cap=grownCap w (0+n) 0 5:=⟨_,rfl⟩;rw[<-hcd]at hr hG hG1;clear hcd;have hO:Own (w.drew.alloc (.cells (([]:List Value).toArray++Builtin.zeroCells (Value.cells (.int .u8 0)) n++Builtin.zeroCells (Value.cells (.int .u8 0)) (cap-(0+n))) 5)) w.heap.size 5 1 (some ⟨w.heap.size,0,none⟩) 0 cap []:=
  ⟨by simp,Or.inr ⟨_,_,_,rfl,Nat.le_refl _,blk_top rfl,by omega,hG1,by simp[Builtin.zeroCells,Value.cells];omega,by simp⟩⟩
 have hB:=((Below.refl w.heap.size w).drew).alloc (Nat.le_refl _) (.cells (([]:List Value).toArray++Builtin.zeroCells (Value.cells (.int .u8 0)) n++Builtin.zeroCells (Value.cells (.int .u8 0)) (cap-(0+n))) 5);generalize (Obj.cells (([]:List Value).toArray++Builtin.zeroCells (Value.cells (.int .u8 0)) n++Builtin.zeroCells (Value.cells (.int .u8 0)) (cap-(0+n))) 5)=ob at *
 have hcap:cap<=9223372036854775807:=by simp only[maxLen]at hG1;omega
 clear hi hz hs hb hG1;go_enter Tryz.func104,Tryz.ntmps104;go_wp2_with (at_builtin;refine Lib.wpList_append_run _ rfl _ _ _ _ rfl _ _ rfl rfl _ _ (hr _) ?_);go_ret;exact⟨_,_,rfl,hO,hB⟩
theorem concatBytes_calls(ss:List SrcOf)(ad:OA)(c:Nat)(w:World)(hk:ss.length<=16)(hn:sumN ss<=137438953472)(hr:Src w ad (ss.map SrcOf.val))(hs:∀s∈ss,s.ok w 1):
  Calls Tryz.prog 90 #[.slice ad ss.length c] w (SlRet w 5 1 (sumN ss) (ss.flatMap SrcOf.cells)):=by
 go_enter Tryz.func90,Tryz.ntmps90;go_wp2_with fail
 go_loop [3,5,11] (fun z s i=>∃k:Nat,k<=ss.length∧i=.int .i64 k∧z=.int .i64 (sumN (ss.take k))) (fun _ _ i=>ss.length-(intOf i).toNat)
 case atStart=>exact⟨0,Nat.zero_le _,rfl,rfl⟩
 case round=>
  obtain⟨k,hkl,rfl,rfl⟩:=hrel;by_cases hlt:k<ss.length
  ·obtain⟨b,o,rfl,hbs,hc⟩:=hr k (by simpa using hlt);have hsn:=sumN_take ss k hlt;have hle:=sumN_le ss (k+1);have HS:=qH hsn;have hb1:(sumN (ss.take k):Int)+(ss[k].n:Int)<=137438953472:=by omega
   have hc':w.cell? ⟨b,o+k,none⟩=some (.slice ss[k].A ss[k].n ss[k].c):=by simpa[SrcOf.val]using hc
   clear hsn hle hc;go_wp2_with fail
   go_round
   case rel=>exact⟨k+1,by omega,by go_num,by rw[HS.out];go_num⟩
   case measure=>simp[intOf]<;>omega
  obtain rfl:k=ss.length:=by omega
  rw[List.take_length];go_wp2_with fail;refine(growBytes_calls (sumN ss) w (by omega)).mono ?_;rintro e w1 ⟨A2,c2,rfl,hO,hB⟩;have HR:=qH hr;have HQ:=qH hs;clear hr hs;go_wp2_with fail;go_loopw [6,8,27] (fun z s i wr=>∃(k:Nat) (A1:OA) (c1:Nat),k<=ss.length∧i=.int .i64 k∧z=.slice A1 (sumN (ss.take k)) c1∧Own wr w.heap.size 5 1 A1 (sumN (ss.take k)) c1 ((ss.take k).flatMap SrcOf.cells)∧Below w.heap.size w wr) (fun _ _ i _=>ss.length-(intOf i).toNat)
  case atStart=>exact⟨0,A2,c2,Nat.zero_le _,rfl,rfl,hO,hB⟩
  case round=>
   obtain⟨k,A1,c1,hkl,rfl,rfl,hO1,hB1⟩:=hrel;have hr1:=HR.out.stays hB1;have hs1:∀s∈ss,s.ok wr 1:=fun s h=>(HQ.out s h).stays hB1;by_cases hlt:k<ss.length
   ·obtain⟨b,o,rfl,hbs,hc⟩:=hr1 k (by simpa using hlt);have hsn:=sumN_take ss k hlt;have hle:=sumN_le ss (k+1);have hfl:(ss.take (k+1)).flatMap SrcOf.cells=(ss.take k).flatMap SrcOf.cells++ss[k].cells:=by
     rw[List.take_succ_eq_append_getElem hlt,List.flatMap_append];simp
    have HS:=qH hsn;have HF:=qH hfl;obtain⟨q1,q2,q3⟩:=hs1 ss[k] (List.getElem_mem hlt);have Q1:=qH q1;have hb1:sumN (ss.take k)+ss[k].n<=137438953472:=by omega
    have hb2:w.heap.size<=wr.heap.size:=hB1.size;have hc':wr.cell? ⟨b,o+k,none⟩=some (.slice ss[k].A ss[k].n ss[k].c):=by simpa[SrcOf.val]using hc
    clear hsn hle hc hfl q1 hr1 hs1;go_wp2_with (at_builtin;refine wpList_app _ rfl _ _ 23 rfl elBytes w.heap.size A1 (sumN (ss.take k)) c1 _ rfl hO1 ss[k].A ss[k].n ss[k].c ss[k].cells rfl q2 Q1.out q3 hb1 hb2 ?_;intro A' c' w2 hown hg hb hx);have hfin:Own w2 w.heap.size 5 1 A' (sumN (ss.take (k+1))) c' ((ss.take (k+1)).flatMap SrcOf.cells):=by rw[HS.out,HF.out];exact hown
    have hB1:=hB1.trans hb;clear hown hg hb hx q2 q3 hc' hbs;go_roundw
    case rel=>exact⟨k+1,A',c',by omega,by go_num,by rw[HS.out],hfin,hB1⟩
    case measure=>simp[intOf]<;>omega
   obtain rfl:k=ss.length:=by omega
   rw[List.take_length]at hO1;clear hr1 hs1;go_wp2_with fail;go_ret;exact⟨_,_,by rw[List.take_length];rfl,hO1,hB1⟩
def BtRet(w:World)(l:LU):Ending->World->Prop:=fun en w'=>
 ∃A c,en=.returned (.slice A l.length c)∧Own w' w.heap.size 5 1 A l.length c (l.map bv)∧Below w.heap.size w w'
theorem src_blk{cs:Array Value}{fr:Nat×Nat}(h:w.heap[g]?=some (.cells cs t fr)):Src w (some ⟨g,0,none⟩) cs.toList:=by
 intro i hi;refine⟨_,_,rfl,blk_lt h,?_⟩;rw[cell_of_row _ _ _ _ _ _ h];simp
theorem bv_one(l:LU):∀u∈l.map bv,u.oneCell'=true:=by
 intro u hu;obtain⟨x,_,rfl⟩:=List.mem_map.1 hu;rfl
def srcB(A:OA)(l:LU)(c:Nat):SrcOf:=⟨A,l.length,c,l.map bv⟩
theorem srcB_ok{A:OA}{c:Nat}(h:Bts w A l):(srcB A l c).ok w 1:=⟨by simp[srcB],h.src,bv_one l⟩
theorem concat2_calls{A B:OA}{a b:LU}{c d:Nat}{fr:Nat×Nat}(h:w.heap[g]?=some (.cells #[.slice A a.length c,.slice B b.length d] t fr))
  (hl:a.length+b.length<=137438953472) (ha:Bts w A a) (hb:Bts w B b):
  Calls Tryz.prog 90 #[.slice (some ⟨g,0,none⟩) 2 2] w (BtRet w (a++b)):=by
 refine(concatBytes_calls [srcB A a c,srcB B b d] (some ⟨g,0,none⟩) 2 w (by simp) (by simp[sumN,srcB];omega) (src_blk h) (fun s hs=>?_)).mono ?_
 ·simp only[List.mem_cons,List.not_mem_nil,or_false]at hs;rcases hs with rfl|rfl
  ·exact srcB_ok ha
  exact srcB_ok hb
 rintro e w' ⟨A',c',rfl,ho,hbel⟩;have e1:sumN [srcB A a c,srcB B b d]=(a++b).length:=by simp[sumN,srcB]
 have e2:[srcB A a c,srcB B b d].flatMap SrcOf.cells=(a++b).map bv:=by simp[srcB]
 rw[e1,e2]at ho;rw[e1];exact⟨A',c',rfl,ho,hbel⟩
theorem concat3_calls{A B C:OA}{a b:LU}{c d k:Nat}{fr:Nat×Nat}(h:w.heap[g]?=some (.cells #[.slice A a.length c,.slice B b.length d,.slice C l.length k] t fr))
  (hl:a.length+b.length+l.length<=137438953472) (ha:Bts w A a) (hb:Bts w B b) (hc:Bts w C l):
  Calls Tryz.prog 90 #[.slice (some ⟨g,0,none⟩) 3 3] w (BtRet w (a++b++l)):=by
 refine(concatBytes_calls [srcB A a c,srcB B b d,srcB C l k] (some ⟨g,0,none⟩) 3 w (by simp) (by simp[sumN,srcB];omega) (src_blk h) (fun s hs=>?_)).mono ?_
 ·simp only[List.mem_cons,List.not_mem_nil,or_false]at hs;rcases hs with rfl|rfl|rfl
  ·exact srcB_ok ha
  ·exact srcB_ok hb
  exact srcB_ok hc
 rintro e w' ⟨A',c',rfl,ho,hbel⟩;have e1:sumN [srcB A a c,srcB B b d,srcB C l k]=(a++b++l).length:=by simp[sumN,srcB]<;>omega
 have e2:[srcB A a c,srcB B b d,srcB C l k].flatMap SrcOf.cells=(a++b++l).map bv:=by simp[srcB]
 rw[e1,e2]at ho;rw[e1];exact⟨A',c',rfl,ho,hbel⟩
theorem Own.same{size n c:Nat}{A:OA}(h:Own w base e size A n c xs)(hk:∀k,A.map (·.block)=some k->w'.heap[k]?=w.heap[k]?):Own w' base e size A n c xs:=by
 obtain⟨h1,h2⟩:=h;refine⟨h1,?_⟩;rcases h2 with h2|⟨g,cap,cur,hv,hg,hh,r⟩
 ·exact Or.inl h2
 refine Or.inr ⟨g,cap,cur,hv,hg,?_,r⟩;injection hv with hA _ _;rw[hk g (by rw[hA];rfl)];exact hh
def Fresh(base:Nat)(w:World)(P:World->Prop):Prop:=∀v:World,(∀k,base<=k->k<w.heap.size->v.heap[k]?=w.heap[k]?)->P v
theorem Fresh.now(h:Fresh base w P):P w:=h w fun _ _ _=>rfl
theorem Fresh.below{B:Nat}(h:Fresh base w P)(hb:Below B w w')(hB:w.heap.size<=B):Fresh base w' P:=
 fun v hv=>h v fun k h1 h2=>(hv k h1 (Nat.lt_of_lt_of_le h2 hb.size)).trans (hb.block k (by omega))
theorem Fresh.mono{base':Nat}(h:Fresh base w P)(hb:base'<=base):Fresh base' w P:=fun v hv=>h v fun k h1 h2=>hv k (by omega) h2
theorem Fresh.imp{Q:World->Prop}(h:Fresh base w P)(hq:∀v,P v->Q v):Fresh base w Q:=fun v hv=>hq v (h v hv)
theorem Fresh.row(h:Fresh base w P)(hg:g<base)(cs:Array Value):Fresh base (w.setRow g cs) P:=
 fun v hv=>h v fun k h1 h2=>(hv k h1 (by simpa[World.setRow]using h2)).trans (setRow_other w g k cs (by omega))
theorem Fresh.cell(h:Fresh base w P){p:Addr}(hg:p.block<base)(u:Value):Fresh base (w.setCell p u) P:=
 fun v hv=>h v fun k h1 h2=>(hv k h1 (by simpa using h2)).trans (Below.heap_setCell _ _ _ _ (by omega))
theorem Fresh.alloc(h:Fresh base w P)(o:Obj):Fresh base (w.alloc o) P:=
 h.below ((Below.refl w.heap.size w).alloc (Nat.le_refl _) o) (Nat.le_refl _)
theorem Fresh.const(h:∀v,P v):Fresh base w P:=fun v _=>h v
theorem own_fresh{v:World}{size n c:Nat}{A:OA}(h:Own w base e size A n c xs)(hv:∀k,base<=k->k<w.heap.size->v.heap[k]?=w.heap[k]?):Own v base e size A n c xs:=by
 obtain⟨h1,h2⟩:=h;refine⟨h1,?_⟩;rcases h2 with h2|⟨g,cap,cur,hv',hg,hh,r⟩
 ·exact Or.inl h2
 exact Or.inr ⟨g,cap,cur,hv',hg,(hv g hg (blk_lt hh)).trans hh,r⟩
theorem Own.fresh{n c:Nat}{A:OA}(h:Own w base e 1 A n c (l.map bv)):Fresh base w (fun v=>Bts v A l):=fun v hv=>(own_fresh h hv).src.bts
section
open Go.RowKit
end
theorem x017(h:Y:=by
 have:=HS.out;unfold ScAt at this;rw[List.drop_length]at this;rw[<-this];rfl):Y:=h
theorem x1gl(h:Y:=by
 go_wp2_with fail;go_ret;exact⟨ret_int (by rw[HR.out,HE.out]),(HB.out.alloc hsz _)⟩):Y:=h
theorem x5ag(h:Y:=by
 go_wp2_with fail;go_ret;exact⟨ret_int (by rw[HR.out,HF.out]),HB.out⟩):Y:=h
theorem x614(h:Y:=by
 by_cases g:data.length<=64
 ·exact absurd ⟨fun _=>⟨rfl,e1,g⟩,fun h=>absurd rfl h⟩ hf'
 omega):Y:=h
theorem x6yh(h:Y:=by
 clear hm h1;go_enter Tryz.func103,Tryz.ntmps103;go_wp2_with fail;go_ret;exact⟨ret_int HR.out.symm,Below.refl _ _⟩):Y:=h
theorem dc_many{l:List Stp}(h:40<l.length∨old<0∨64<old∨size<0∨64<size):deltaCheck l old size=1:=by unfold deltaCheck;rw[if_pos h]
theorem dc_go{l:List Stp}(h:¬(40<l.length∨old<0∨64<old∨size<0∨64<size)):deltaCheck l old size=stepsCheck old l size:=by unfold deltaCheck;rw[if_neg h]
theorem sc_form{l:List Stp}(h:¬o.form):stepsCheck old (o::l) size=3:=by unfold stepsCheck;rw[if_pos h]
theorem sc_range{l:List Stp}(h:o.form)(g:¬o.in_ old):stepsCheck old (o::l) size=2:=by unfold stepsCheck;rw[if_neg (by simpa using h),if_pos g]
theorem sc_many{l:List Stp}(h:o.form)(g:o.in_ old)(k:size<o.n):stepsCheck old (o::l) size=1:=by unfold stepsCheck;rw[if_neg (by simpa using h),if_neg (by simpa using g),if_pos k]
theorem sc_on{l:List Stp}(h:o.form)(g:o.in_ old)(k:¬size<o.n):stepsCheck old (o::l) size=stepsCheck old l (size-o.n):=by
 conv=>lhs;unfold stepsCheck
 rw[if_neg (by simpa using h),if_neg (by simpa using g),if_neg k]
def ScAt(old:Int)(l:List Stp)(size:Int)(k:Nat)(s:Int):Prop:=stepsCheck old (l.drop k) s=stepsCheck old l size
theorem ScAt.here{s:Int}{l:List Stp}{k:Nat}(h:ScAt old l size k s)(hk:k<l.length):stepsCheck old (l[k]::l.drop (k+1)) s=stepsCheck old l size:=by
 unfold ScAt at h;rwa [List.drop_eq_getElem_cons hk]at h
theorem deltaCheck_calls(A:OA)(c:Nat)(l:List Stp)(old size:Int)(w:World)(hl:l.length<=3518437208780)(hr:Sps w A l):
  Calls Tryz.prog 103 #[.slice A l.length c,iv old,iv size] w (RetB w (iv (deltaCheck l old size))):=by
 by_cases hm:40<l.length∨old<0∨64<old∨size<0∨64<size
 ·have HR:=qH (dc_many hm);by_cases h1:40<l.length
  ·have h1':(40:Int)<(l.length:Int):=by omega
   exact x6yh
  have h1':¬(40:Int)<(l.length:Int):=by omega
  by_cases h2:old<0
  ·exact x6yh
  by_cases h2:64<old
  ·exact x6yh
  by_cases h2:size<0
  ·exact x6yh
  have h2:64<size:=by omega
  exact x6yh
 have HR:=qH (dc_go hm);have h1:¬(40:Int)<(l.length:Int):=by omega
 have h1:¬old<0:=by omega
 have h1:¬64<old:=by omega
 have h1:¬size<0:=by omega
 have h2:¬64<size:=by omega
 have h3:l.length<=40:=by omega
 clear hm;go_enter Tryz.func103,Tryz.ntmps103;go_wp2_with fail;go_loopw [31,2] (fun i s wr=>∃(k:Nat) (z:Int),k<=l.length∧i=.int .i64 k∧s=.int .i64 z∧0<=z∧z<=64∧Hid (ScAt old l size k z)∧Hid (Below w.heap.size w wr)) (fun i _ _=>l.length-(intOf i).toNat)
 case atStart=>exact⟨0,size,Nat.zero_le _,rfl,rfl,by omega,by omega,qH (by unfold ScAt;rw[List.drop_zero]),qH (Below.refl _ _)⟩
 case round=>
  clear h1 h2;obtain⟨k,z,hk,rfl,rfl,hz2,hz1,HS,HB⟩:=hrel;by_cases hlt:k<l.length
  ·obtain⟨b,o,B,cc,rfl,hs,hc3,hc1,hc2,hd1,hd2,-,hi2,hi1⟩:=(hr.stays HB.out).at_ hlt;have HH:=qH (HS.out.here hlt);have hsz:=HB.out.size;clear HS;unfold I64 at hi2 hi1;obtain⟨i1,i01⟩:=hi2;obtain⟨i1,i2⟩:=hi1;generalize hx:l[k]=x at *
   clear hx;obtain⟨at_,len,data⟩:=x;dsimp only at *
   have hdl:0<=(data.length:Int):=by omega
   by_cases hf:(⟨at_,len,data⟩:Stp).form
   ·by_cases hin:(⟨at_,len,data⟩:Stp).in_ old
    ·have hn:(⟨at_,len,data⟩:Stp).n=len+data.length:=rfl;have hin':=hin;unfold Stp.in_ at hin';dsimp only at hin';obtain⟨j1,j2,j3⟩:=hin';have hf':=hf;unfold Stp.form at hf';dsimp only at hf';by_cases hzn:z<len+data.length
     ·have HE:=qH (HH.out.symm.trans (sc_many hf hin (by rw[hn];exact hzn)));clear hf hin hn HH;by_cases e1:len=0
      ·obtain⟨rfl,e2,e3⟩:=hf'.1 e1;subst e1;have e1:1<=data.length:=by rcases data with _|⟨y,d⟩;exact absurd rfl e2;simp
       have q1:((data.length:Int)==0)=false:=by simp;omega
       have q1:¬(64:Int)<(data.length:Int):=by omega
       clear hf' e2;exact x1gl
      have e2:=hf'.2 e1;subst e2;have q1:(len==0)=false:=by simp[e1]
      have q1:(len !=0)=true:=by simp[e1]
      clear hf' e1;simp only[List.length_nil,Int.ofNat_eq_natCast,Int.natCast_zero,Int.add_zero]at *
      exact x1gl
     have HE:=qH ((sc_on hf hin (by rw[hn];exact hzn)).symm.trans HH.out);clear hf hin HH;rw[hn]at HE;clear hn;by_cases e1:len=0
     ·obtain⟨rfl,e2,e3⟩:=hf'.1 e1;subst e1;have e1:1<=data.length:=by rcases data with _|⟨y,d⟩;exact absurd rfl e2;simp
      have q1:((data.length:Int)==0)=false:=by simp;omega
      have q1:¬(64:Int)<(data.length:Int):=by omega
      clear hf' e2;go_wp2_with fail;go_roundw
      case rel=>exact⟨k+1,z-(0+data.length),by omega,by go_num,by simp,by omega,by omega,HE,qH (HB.out.alloc hsz _)⟩
      case measure=>simp[intOf];omega
     have e2:=hf'.2 e1;subst e2;have q1:(len==0)=false:=by simp[e1]
     have q1:(len !=0)=true:=by simp[e1]
     clear hf' e1;have HE1:Hid (ScAt old l size (k+1) (z-len)):=by
      have:=HE.out;refine qH ?_;simpa[ScAt]using this
     clear HE;simp only[List.length_nil,Int.ofNat_eq_natCast,Int.natCast_zero,Int.add_zero]at *
     go_wp2_with fail;go_roundw
     case rel=>exact⟨k+1,z-len,by omega,by go_num,by simp,by omega,by omega,HE1,qH (HB.out.alloc hsz _)⟩
     case measure=>simp[intOf];omega
    ·have HE:=qH (HH.out.symm.trans (sc_range hf hin));have hf':=hf;unfold Stp.form at hf';dsimp only at hf';have hin':=hin;unfold Stp.in_ at hin';dsimp only at hin';clear hf hin HH;have e1:len≠0:=by
      intro e2;obtain⟨e1,_,_⟩:=hf'.1 e2;omega
     have e2:=hf'.2 e1;subst e2;have q1:(len==0)=false:=by simp[e1]
     have q1:(len !=0)=true:=by simp[e1]
     clear hf' e1;simp only[List.length_nil,Int.ofNat_eq_natCast,Int.natCast_zero,Int.add_zero]at *
     have HI:=qH hin';clear hin';by_cases r1:len<0
     ·exact x1gl
     by_cases r1:at_<0
     ·exact x1gl
     by_cases r1:old<len
     ·exact x1gl
     have r1:old-len<at_:=by have:=HI.out;omega
     exact x1gl
   have HE:=qH (HH.out.symm.trans (sc_form hf));have hf':=hf;unfold Stp.form at hf';dsimp only at hf';clear hf HH;by_cases e5:len=0
   ·subst e5;by_cases e1:at_=0
    ·subst e1;by_cases e1:data=[]
     ·subst e1;clear hf';simp only[List.length_nil,Int.ofNat_eq_natCast,Int.natCast_zero,Int.add_zero]at *
      exact x1gl
     have e2:1<=data.length:=by rcases data with _|⟨y,d⟩;exact absurd rfl e1;simp
     have e2:(64:Int)<(data.length:Int):=by
      exact x614
     have q1:((data.length:Int)==0)=false:=by simp;omega
     clear hf' e1;exact x1gl
    have q1:(at_ !=0)=true:=by simp[e1]
    clear hf' e1;exact x1gl
   have e1:data≠[]:=fun e=>hf' ⟨fun h=>absurd h e5,fun _=>e⟩;have e2:1<=data.length:=by rcases data with _|⟨y,d⟩;exact absurd rfl e1;simp
   have q1:(len==0)=false:=by simp[e5]
   have q1:(len !=0)=true:=by simp[e5]
   have q1:(0:Int)<(data.length:Int):=by omega
   clear hf' e5 e1;exact x1gl
  obtain rfl:k=l.length:=by omega
  have HE:Hid (stepsCheck old l size=if z=0 then 0 else 3):=by
   exact x017
  clear HS;by_cases e:z=0
  ·have HF:=qH (HE.out.trans (if_pos e));subst e;exact x5ag
  have HF:=qH (HE.out.trans (if_neg e));have q:(z !=0)=true:=by simp[e]
  clear e;exact x5ag
theorem x0ue(h:Y:=by
 have hz:=qH (patCheck_bad (p:=⟨f,t,o,n,sz,l⟩) (by unfold Pat.range;dsimp only;omega));clear HC;go_enter Tryz.func88,Tryz.ntmps88;go_wp2_with fail;go_ret;exact⟨ret_int hz.out.symm,HB.out⟩):Y:=h
theorem x3ef(h:Y:=by
 go_wp2_with fail;refine HC.out.mono ?_;rintro e w1 ⟨rfl,hb1⟩;have HB1:=qH (HB.out.trans (hb1.mono HB.out.size));clear hb1;go_wp2_with fail;go_ret;exact⟨ret_int hz.out.symm,HB1.out⟩):Y:=h
theorem patCheck_bad{p:Pat}(h:¬p.range):patCheck p=2:=by unfold patCheck;rw[if_pos h]
theorem patCheck_in{p:Pat}(h:p.range):patCheck p=deltaCheck p.ops 64 p.size:=by unfold patCheck;rw[if_neg (by simpa using h)]
theorem patCheckA_calls(A:OA)(c:Nat)(f t o n sz:Int)(l:List Stp)(w:World)(hl:l.length<=3518437208780)(hs:Sps w A l):
  Calls Tryz.prog 88 #[.agg #[iv f,iv t,iv o,iv n,iv sz,.slice A l.length c]] w (RetB w (iv (patCheck ⟨f,t,o,n,sz,l⟩))):=by
 have hb:Below w.heap.size w (w.alloc (.cells #[iv f,iv t,iv o,iv n,iv sz,.slice A l.length c] 36)):=(Below.refl _ _).alloc (Nat.le_refl _) _;have HB:=qH hb;have HC:=qH (deltaCheck_calls A c l 64 sz _ hl (hs.stays hb));clear hb hs;by_cases h8:f<(1:Int)
 ·exact x0ue
 by_cases h1:(30:Int)<f
 ·exact x0ue
 by_cases h1:t<(1:Int)
 ·exact x0ue
 by_cases h1:(30:Int)<t
 ·exact x0ue
 by_cases h1:o<(0:Int)
 ·exact x0ue
 by_cases h1:(65535:Int)<o
 ·exact x0ue
 by_cases h1:n<(0:Int)
 ·exact x0ue
 by_cases h1:(65535:Int)<n
 ·exact x0ue
 have hz:=qH (patCheck_in (p:=⟨f,t,o,n,sz,l⟩) (by unfold Pat.range;dsimp only;omega));go_enter Tryz.func88,Tryz.ntmps88;exact x3ef
theorem x0oq(h:Y:=by
 exact absurd ⟨by simpa[Rec.at_]using n1,by simp,fun _=>n2,by simpa[Rec.at_]using h⟩ hn):Y:=h
theorem x2tz(h:Y:=by
 have HI:=qH hI;clear hI;go_wp2_with fail;all_goals first|(go_ret;exact⟨ret_int HF.out.symm,hB.alloc hB.size _⟩)|(exfalso;have h:=HI.out;unfold InfRange at h;simp only at h;omega)):Y:=h
theorem x3eu(h:Y:=by
 exact absurd ⟨by simpa[Rec.at_]using n1,fun _=>⟨by simpa[Rec.at_]using n2,by simpa[Rec.at_]using e1⟩,by simp,by simpa[Rec.at_]using h⟩ hn):Y:=h
theorem x4hb(h:Y:=by
 go_wp2_with fail;go_quiet (fail)
 go_wp2_with fail;go_ret;exact⟨ret_int HF.out.symm,Below.drewN' hB _⟩):Y:=h
theorem x61u(h:Y:=by
 have HZ:=qH hz;clear hz;go_wp2_with fail;all_goals first|(go_ret;exact⟨ret_int HF.out.symm,hB.alloc hB.size _⟩)|(exfalso;have h:=HZ.out;omega)):Y:=h
theorem x88h(h:Y:=by
 go_wp2_with fail;go_roundw
 case rel=>exact⟨2,by omega,rfl,hB.alloc hB.size _,blk_old HK.out,fun _=>HA.out,fun _=>HI.out⟩
 case measure=>simp[intOf]<;>omega):Y:=h
theorem x8bj(h:Y:=by
 go_wp2_with fail;go_roundw
 case rel=>exact⟨1,by omega,rfl,hB.alloc hB.size _,blk_old HK.out,fun _=>HI.out,by omega⟩
 case measure=>simp[intOf]<;>omega):Y:=h
theorem recCheck_range(g ac:Int)(tr:Bool)(ts fl va sa ca vb sb cb:Int)(w:World)(h:¬(1<=g∧g<=1000000∧0<=ac∧ac<=1∧0<=ts∧ts<=3∧1<=fl∧fl<=30)):
  Calls Tryz.prog 68 #[.agg #[iv g,iv ac,.bool tr,iv ts,iv fl,iv va,iv sa,iv ca,iv vb,iv sb,iv cb]] w (RetB w (iv 2)):=by
 have H:=qH h;clear h;go_enter Tryz.func68,Tryz.ntmps68;go_wp2_with fail;all_goals first|(go_ret;exact⟨rfl,(Below.refl _ _).alloc (Nat.le_refl _) _⟩)|(exfalso;have h:=H.out;omega)
theorem recCheck_rest(g ac:Int)(tr:Bool)(ts fl va sa ca vb sb cb:Int)(w:World)(h1:1<=g)(h2:g<=1000000)(h3:0<=ac)(h4:ac<=1)(h5:0<=ts)(h6:ts<=3)(h7:1<=fl)(h8:fl<=30):
  Calls Tryz.prog 68 #[.agg #[iv g,iv ac,.bool tr,iv ts,iv fl,iv va,iv sa,iv ca,iv vb,iv sb,iv cb]] w (RetB w (iv (recCheck ⟨g,ac,tr,ts,fl,⟨va,sa,ca⟩,⟨vb,sb,cb⟩⟩))):=by
 have i2:∀w,(Instr.index 27 (.agg #[iv va,iv sa,iv ca,iv vb,iv sb,iv cb]) (.int .i64 0)).run Tryz.prog w=.ok (.agg #[iv va,iv sa,iv ca]) w:=fun _=>by kernel_rfl
 have i1:∀w,(Instr.index 27 (.agg #[iv va,iv sa,iv ca,iv vb,iv sb,iv cb]) (.int .i64 1)).run Tryz.prog w=.ok (.agg #[iv vb,iv sb,iv cb]) w:=fun _=>by kernel_rfl
 go_enter Tryz.func68,Tryz.ntmps68;go_wp2_with fail;go_loopw [45] (fun i wr=>∃k:Nat,k<=2∧i=.int .i64 k∧Below w.heap.size w wr∧(wr.heap[w.heap.size]?=some (.cells #[iv g,iv ac,.bool tr,iv ts,iv fl,iv va,iv sa,iv ca,iv vb,iv sb,iv cb] 29))∧(0<k->infCheck ⟨va,sa,ca⟩=0)∧(1<k->infCheck ⟨vb,sb,cb⟩=0)) (fun i _=>(2-intOf i).toNat)
 case atStart=>exact⟨0,by omega,rfl,(Below.refl _ _).alloc (Nat.le_refl _) _,blk_top rfl,by omega,by omega⟩
 case round=>
  obtain⟨k,hk,rfl,hB,hblk,ha,hb⟩:=hrel;have hrg:RangeOk ⟨g,ac,tr,ts,fl,⟨va,sa,ca⟩,⟨vb,sb,cb⟩⟩:=⟨h1,h2,h3,h4,h5,h6,h7,h8⟩;have HR:=qH hrg;clear hrg;by_cases hlt:k<2
  ·rcases (show k=0∨k=1 by omega)with rfl|rfl
   ·have HK:=qH hblk;clear hblk ha hb;by_cases hI:InfRange ⟨va,sa,ca⟩
    ·obtain⟨j1,j2,j3,j4,j5,j6⟩:=hI;simp only at j1 j2 j3 j4 j5 j6;by_cases hv:va=0
     ·subst hv;by_cases hz:sa=0∧ca=0
      ·obtain⟨rfl,rfl⟩:=hz;have HI:Hid (infCheck ⟨0,0,0⟩=0):=infCheck_ok ⟨j1,j2,j3,j4,j5,j6⟩ (fun _=>⟨rfl,rfl⟩);clear j1 j2 j3 j4 j5 j6;exact x8bj
      have HF:=qH (recCheck_a HR.out (infCheck_form ⟨j1,j2,j3,j4,j5,j6⟩ rfl hz) (by omega));exact x61u
     have HI:Hid (infCheck ⟨va,sa,ca⟩=0):=infCheck_ok ⟨j1,j2,j3,j4,j5,j6⟩ (fun h=>absurd h hv);have hv1:(va==0)=false:=by rw[beq_eq_false_iff_ne];exact hv
     clear hv;exact x8bj
    have HF:=qH (recCheck_a HR.out (infCheck_bad hI) (by omega));exact x2tz
   ·have HK:=qH hblk;have HA:=qH (ha (by omega));clear hblk ha hb;by_cases hI:InfRange ⟨vb,sb,cb⟩
    ·obtain⟨j1,j2,j3,j4,j5,j6⟩:=hI;simp only at j1 j2 j3 j4 j5 j6;by_cases hv:vb=0
     ·subst hv;by_cases hz:sb=0∧cb=0
      ·obtain⟨rfl,rfl⟩:=hz;have HI:Hid (infCheck ⟨0,0,0⟩=0):=infCheck_ok ⟨j1,j2,j3,j4,j5,j6⟩ (fun _=>⟨rfl,rfl⟩);clear j1 j2 j3 j4 j5 j6;exact x88h
      have HF:=qH (recCheck_b HR.out HA.out (infCheck_form ⟨j1,j2,j3,j4,j5,j6⟩ rfl hz) (by omega));exact x61u
     have HI:Hid (infCheck ⟨vb,sb,cb⟩=0):=infCheck_ok ⟨j1,j2,j3,j4,j5,j6⟩ (fun h=>absurd h hv);have hv1:(vb==0)=false:=by rw[beq_eq_false_iff_ne];exact hv
     clear hv;exact x88h
    have HF:=qH (recCheck_b HR.out HA.out (infCheck_bad hI) (by omega));exact x2tz
  obtain rfl:k=2:=by omega
  have HA:=qH (ha (by omega));have HB1:=qH (hb (by omega));clear ha hb;have c1:∀j,wr.cell? ⟨w.heap.size,j,none⟩=(#[iv g,iv ac,.bool tr,iv ts,iv fl,iv va,iv sa,iv ca,iv vb,iv sb,iv cb]:Array Value)[j]?:=fun j=>cell_of_row _ _ _ _ _ _ hblk;have k1:=c1 1;have k2:=c1 2;have k3:=c1 3;have k4:=c1 4;have k5:=c1 5;have k6:=c1 8;simp at k1 k2 k3 k4 k5 k6;clear c1 hblk;by_cases hF:FormOk ⟨g,ac,tr,ts,fl,⟨va,sa,ca⟩,⟨vb,sb,cb⟩⟩
  ·have HF:=qH (recCheck_ok HR.out HA.out HB1.out hF);obtain⟨f1,f2,f3,f4⟩:=hF;rcases (show ac=0∨ac=1 by omega)with rfl|rfl
   ·simp[Rec.at_]at f1 f2 f3 f4
    cases tr
    ·have e1:(va==0)=false:=by rw[beq_eq_false_iff_ne];simpa using f1
     have e1:(ts !=0)=false:=by have:=f3 rfl;simp[this]
     have e1:fl<=va:=by simpa using f4
     clear f1 f2 f3 f4;exact x4hb
    have e1:(va==0)=false:=by rw[beq_eq_false_iff_ne];simpa using f1
    have e1:(vb==0)=false:=by rw[beq_eq_false_iff_ne];simpa using (f2 rfl).1
    have e1:fl<=vb:=by simpa using (f2 rfl).2
    have d1:decide (vb<fl)=false:=by simpa using e1
    have e1:fl<=va:=by simpa using f4
    clear f1 f2 f3 f4;exact x4hb
   simp[Rec.at_]at f1 f2 f3 f4
   cases tr
   ·have e1:(vb==0)=false:=by rw[beq_eq_false_iff_ne];simpa using f1
    have e1:(ts !=0)=false:=by have:=f3 rfl;simp[this]
    have e1:fl<=vb:=by simpa using f4
    clear f1 f2 f3 f4;exact x4hb
   have e1:(vb==0)=false:=by rw[beq_eq_false_iff_ne];simpa using f1
   have e1:(va==0)=false:=by rw[beq_eq_false_iff_ne];simpa using (f2 rfl).1
   have e1:fl<=va:=by simpa using (f2 rfl).2
   have d1:decide (va<fl)=false:=by simpa using e1
   have e1:fl<=vb:=by simpa using f4
   clear f1 f2 f3 f4;exact x4hb
  have HF:=qH (recCheck_form HR.out HA.out HB1.out hF);rcases (show ac=0∨ac=1 by omega)with rfl|rfl
  ·cases tr
   ·have hn:=hF;clear hF;by_cases n1:va=0
    ·have e1:(va==0)=true:=by rw[beq_iff_eq];exact n1
     clear n1;clear hn;exact x4hb
    have e1:(va==0)=false:=by rw[beq_eq_false_iff_ne];exact n1
    by_cases n2:ts=0
    ·have e1:(ts !=0)=false:=by simp[n2]
     have e1:va<fl:=by
      rcases Int.lt_or_le va fl with h|h
      ·exact h
      exact x0oq
     clear n1 n2;clear hn;exact x4hb
    have e1:(ts !=0)=true:=by simp[n2]
    clear n1 n2;clear hn;exact x4hb
   ·have hn:=hF;clear hF;by_cases n1:va=0
    ·have e1:(va==0)=true:=by rw[beq_iff_eq];exact n1
     clear n1;clear hn;exact x4hb
    have e1:(va==0)=false:=by rw[beq_eq_false_iff_ne];exact n1
    by_cases n2:vb=0
    ·have e1:(vb==0)=true:=by rw[beq_iff_eq];exact n2
     clear n1 n2;clear hn;exact x4hb
    have e1:(vb==0)=false:=by rw[beq_eq_false_iff_ne];exact n2
    by_cases n3:vb<fl
    ·clear n1 n2;clear hn;exact x4hb
    have e1:fl<=vb:=by omega
    have d1:decide (vb<fl)=false:=by simpa using e1
    have e1:va<fl:=by
     rcases Int.lt_or_le va fl with h|h
     ·exact h
     exact x3eu
    clear n1 n2 n3;clear hn;exact x4hb
  cases tr
  ·have hn:=hF;clear hF;by_cases n1:vb=0
   ·have e1:(vb==0)=true:=by rw[beq_iff_eq];exact n1
    clear n1;clear hn;exact x4hb
   have e1:(vb==0)=false:=by rw[beq_eq_false_iff_ne];exact n1
   by_cases n2:ts=0
   ·have e1:(ts !=0)=false:=by simp[n2]
    have e1:vb<fl:=by
     rcases Int.lt_or_le vb fl with h|h
     ·exact h
     exact x0oq
    clear n1 n2;clear hn;exact x4hb
   have e1:(ts !=0)=true:=by simp[n2]
   clear n1 n2;clear hn;exact x4hb
  have hn:=hF;clear hF;by_cases n1:vb=0
  ·have e1:(vb==0)=true:=by rw[beq_iff_eq];exact n1
   clear n1;clear hn;exact x4hb
  have e1:(vb==0)=false:=by rw[beq_eq_false_iff_ne];exact n1
  by_cases n2:va=0
  ·have e1:(va==0)=true:=by rw[beq_iff_eq];exact n2
   clear n1 n2;clear hn;exact x4hb
  have e1:(va==0)=false:=by rw[beq_eq_false_iff_ne];exact n2
  by_cases n3:va<fl
  ·clear n1 n2;clear hn;exact x4hb
  have e1:fl<=va:=by omega
  have d1:decide (va<fl)=false:=by simpa using e1
  have e1:vb<fl:=by
   rcases Int.lt_or_le vb fl with h|h
   ·exact h
   exact x3eu
  clear n1 n2 n3;clear hn;exact x4hb
theorem recCheck_calls(g ac:Int)(tr:Bool)(ts fl va sa ca vb sb cb:Int)(w:World):
  Calls Tryz.prog 68 #[.agg #[iv g,iv ac,.bool tr,iv ts,iv fl,iv va,iv sa,iv ca,iv vb,iv sb,iv cb]] w (RetB w (iv (recCheck ⟨g,ac,tr,ts,fl,⟨va,sa,ca⟩,⟨vb,sb,cb⟩⟩))):=by
 by_cases h:RangeOk ⟨g,ac,tr,ts,fl,⟨va,sa,ca⟩,⟨vb,sb,cb⟩⟩
 ·obtain⟨h1,h2,h3,h4,h5,h6,h7,h8⟩:=h;exact recCheck_rest g ac tr ts fl va sa ca vb sb cb w h1 h2 h3 h4 h5 h6 h7 h8
 rw[recCheck_bad h];exact recCheck_range g ac tr ts fl va sa ca vb sb cb w h
theorem x4yl(h:Y:=by
 have h:=HT.out;rw[List.take_of_length_le (by omega),List.take_of_length_le (by omega)]at h;rw[decide_eq_true h]):Y:=h
theorem equalBytes_calls(A B:OA)(c d:Nat)(l m:LU)(w:World)(hl:l.length<=140737488351232)(hm:m.length<=140737488351232)(ha:Bts w A l)(hb:Bts w B m):
  Calls Tryz.prog 66 #[.slice A l.length c,.slice B m.length d] w (RetN w (.bool (decide (l=m)))):=by
 by_cases hne:l.length=m.length
 ·have hdl:((l.length:Int) !=(m.length:Int))=false:=by simp[hne]
  have HE:=qH hne;have hm1:l.length<=m.length:=by omega
  have hm1:m.length<=l.length:=by omega
  clear hne;go_enter Tryz.func66,Tryz.ntmps66
  go_wp2
  go_loopw [5,13] (fun u i wr=>∃k n:Nat,k<=l.length∧i=.int .i64 k∧l.take k=m.take k∧w.drewN n=wr) (fun _ i _=>l.length-(intOf i).toNat)
  case atStart=>exact⟨0,0,Nat.zero_le _,rfl,rfl,rfl⟩
  case round=>
   obtain⟨k,n,hk,rfl,ht,rfl⟩:=hrel;have HT:=qH ht;clear ht;by_cases hlt:k<l.length
   ·obtain⟨b1,o1,rfl,hs1,hc1⟩:=ha k hlt;obtain⟨b1,o1,rfl,hs1,hc1⟩:=hb k (by omega);by_cases he:l[k]=m[k]'(by omega)
    ·have hd:((l[k].toNat:Int) !=((m[k]'(by omega)).toNat:Int))=false:=by simp[he]
     have HX:=qH he;clear he;go_wp2_with fail;go_quiet (fail)
     go_wp2_with fail;go_roundw
     case rel=>exact⟨k+1,_,by omega,by go_num,take_eq_succ HT.out hlt (by omega) HX.out,rfl⟩
     case measure=>simp[intOf]<;>omega
    have hd:((l[k].toNat:Int) !=((m[k]'(by omega)).toNat:Int))=true:=by simp;exact fun e=>he (UInt8.toNat_inj.1 (by omega))
    have HX:=qH he;clear he;go_wp2_with fail;go_quiet (fail)
    go_wp2_with fail;go_ret;exact⟨ret_bool (by rw[decide_eq_false (ne_of_at hlt (by omega) HX.out)]),_,(World.drewN_drewN _ _ _).symm⟩
   go_wp2_with fail;go_ret;refine⟨ret_bool ?_,_,rfl⟩;exact x4yl
 have hdl:((l.length:Int) !=(m.length:Int))=true:=by simp;omega
 have HX:=qH hne;clear hne;go_enter Tryz.func66,Tryz.ntmps66
 go_wp2
 go_ret;exact⟨ret_bool (by rw[decide_eq_false (fun e=>HX.out (by rw[e]))]),0,rfl⟩
theorem x0f0(h:Y:=by
 rw[<-HR.out];by_cases e:l=m
 ·subst e;simp
 rw[decide_eq_false e,decide_eq_false (fun h=>e (by injection h))]):Y:=h
theorem x483(h:Y:=by
 go_wp2_with fail;refine HC.out.mono ?_;rintro e w1 ⟨rfl,hb1⟩;have HB1:=qH (HB.out.trans (hb1.mono HB.out.size));clear hb1;go_wp2_with fail;go_ret;exact⟨ret_bool HZ.out,HB1.out⟩):Y:=h
theorem x5xr(h:Y:=by
 go_enter Tryz.func102,Tryz.ntmps102;go_wp2_with fail;go_ret;exact⟨ret_bool HE.out.symm,((Below.refl _ _).alloc (Nat.le_refl _) _).alloc (by simp) _⟩):Y:=h
theorem x6wb(h:Y:=by
 go_wp2_with fail;go_ret;exact⟨ret_bool HZ.out,HB.out⟩):Y:=h
theorem stp_ne_at(h:x.at_≠y.at_):x≠y:=by rintro rfl;exact h rfl
theorem stp_ne_len(h:x.len≠y.len):x≠y:=by rintro rfl;exact h rfl
theorem stp_eq(h1:x.at_=y.at_)(h2:x.len=y.len):decide (x.data=y.data)=decide (x=y):=by
 obtain⟨a,l,d⟩:=x;obtain⟨b,m,e⟩:=y;simp only at h1 h2;subst h1 h2;simp
theorem same1_calls(x y:Stp)(B D:OA)(c d:Nat)(w:World)(hx:x.data.length<=140737488351232)(hy:y.data.length<=140737488351232)(hB:Bts w B x.data)(hD:Bts w D y.data):
  Calls Tryz.prog 102 #[.agg #[iv x.at_,iv x.len,.slice B x.data.length c],.agg #[iv y.at_,iv y.len,.slice D y.data.length d]] w (RetB w (.bool (decide (x=y)))):=by
 by_cases h1:x.at_=y.at_
 ·by_cases h2:x.len=y.len
  ·have q1:(x.at_==y.at_)=true:=by simp[h1]
   have q1:(x.len==y.len)=true:=by simp[h2]
   have HE:=qH (stp_eq h1 h2);have bl:=((Below.refl w.heap.size w).alloc (Nat.le_refl _) (.cells #[iv x.at_,iv x.len,.slice B x.data.length c] 122)).alloc (by simp) (.cells #[iv y.at_,iv y.len,.slice D y.data.length d] 122);have HC:=qH (equalBytes_calls B D c d x.data y.data _ hx hy (hB.stays bl) (hD.stays bl));have HB:=qH bl;clear h1 h2 hB hD bl;go_enter Tryz.func102,Tryz.ntmps102;go_wp2_with fail;refine HC.out.mono ?_;rintro e w1 ⟨rfl,n,rfl⟩;go_wp2_with fail;go_ret;exact⟨ret_bool HE.out,Below.drewN' HB.out n⟩
  ·have q1:(x.at_==y.at_)=true:=by simp[h1]
   have q1:(x.len==y.len)=false:=by simp[h2]
   have HE:=qH (decide_eq_false (stp_ne_len h2));clear h1 h2;exact x5xr
 have q1:(x.at_==y.at_)=false:=by simp[h1]
 have HE:=qH (decide_eq_false (stp_ne_at h1));clear h1;exact x5xr
theorem eqfOps_calls(A B:OA)(c d:Nat)(l m:List Stp)(w:World)(hl:l.length<=3518437208780)(hm:m.length<=3518437208780)(ha:Sps w A l)(hb:Sps w B m):
  Calls Tryz.prog 101 #[.slice A l.length c,.slice B m.length d,.func (Fn.func 102) #[] #[]] w (RetB w (.bool (decide (l=m)))):=by
 by_cases hne:l.length=m.length
 ·have hdl:((l.length:Int) !=(m.length:Int))=false:=by simp[hne]
  have HE:=qH hne;have hm1:l.length<=m.length:=by omega
  have hm1:m.length<=l.length:=by omega
  clear hne;go_enter Tryz.func101,Tryz.ntmps101;go_wp2_with fail;go_loopw [17] (fun i wr=>∃k:Nat,k<=l.length∧i=.int .i64 k∧Hid (l.take k=m.take k)∧Hid (Below w.heap.size w wr)) (fun i _=>l.length-(intOf i).toNat)
  case atStart=>exact⟨0,Nat.zero_le _,rfl,qH rfl,qH (Below.refl _ _)⟩
  case round=>
   obtain⟨k,hk,rfl,HT,HB⟩:=hrel;by_cases hlt:k<l.length
   ·obtain⟨b1,o1,B1,c1,rfl,hs1,p6,p1,p2,p3,p4,p5,-,-⟩:=(ha.stays HB.out).at_ hlt;obtain⟨b1,o1,B2,c2,rfl,hs1,r6,r1,r2,r3,r4,r5,-,-⟩:=(hb.stays HB.out).at_ (i:=k) (by omega);have hsz:=HB.out.size;have HX:Hid (∀e:l[k]=m[k]'(by omega),l.take (k+1)=m.take (k+1)):=qH fun e=>take_eq_succ HT.out hlt (by omega) e;have HN:Hid (∀e:l[k]≠m[k]'(by omega),l≠m):=qH fun e=>ne_of_at hlt (by omega) e;generalize l[k]=x at *
    generalize m[k]'(by omega)=y at *
    have hsb:=fun w2 (h:Below wr.heap.size wr w2)=>same1_calls x y B1 B2 c1 c2 w2 p4 r4 (p5.stays h) (r5.stays h);have HC:=qH hsb;clear hsb p5 r5;go_wp2_with fail;have bl:=((Below.refl wr.heap.size wr).alloc (Nat.le_refl _) (.cells #[iv x.at_,iv x.len,.slice B1 x.data.length c1] 122)).alloc (by simp) (.cells #[iv y.at_,iv y.len,.slice B2 y.data.length c2] 122);refine(HC.out _ bl).mono ?_;rintro e w1 ⟨rfl,hb1⟩;have HB1:Hid (Below w.heap.size w w1):=qH ((HB.out.trans (bl.mono hsz)).trans (hb1.mono (by simp;omega)));clear bl hb1;by_cases hxy:x=y
    ·have hd:decide (x=y)=true:=by simp[hxy]
     have HY:=qH (HX.out hxy);clear hxy HX HN;go_wp2_with fail;go_roundw
     case rel=>exact⟨k+1,by omega,by go_num,HY,HB1⟩
     case measure=>simp[intOf]<;>omega
    have hd:decide (x=y)=false:=by simp[hxy]
    have HY:=qH (HN.out hxy);clear hxy HX HN;go_wp2_with fail;go_ret;exact⟨ret_bool (by rw[decide_eq_false HY.out]),HB1.out⟩
   go_wp2_with fail;go_ret;refine⟨ret_bool ?_,HB.out⟩;exact x4yl
 have hdl:((l.length:Int) !=(m.length:Int))=true:=by simp;omega
 have HX:=qH hne;clear hne;go_enter Tryz.func101,Tryz.ntmps101;go_wp2_with fail;go_ret;exact⟨ret_bool (by rw[decide_eq_false (fun e=>HX.out (by rw[e]))]),Below.refl _ _⟩
theorem equalOps_calls(A B:OA)(c d:Nat)(l m:List Stp)(w:World)(hl:l.length<=3518437208780)(hm:m.length<=3518437208780)(ha:Sps w A l)(hb:Sps w B m):
  Calls Tryz.prog 86 #[.slice A l.length c,.slice B m.length d] w (RetB w (.bool (decide (l=m)))):=by
 go_enter Tryz.func86,Tryz.ntmps86;go_wp2_with fail;refine(eqfOps_calls A B c d l m w hl hm ha hb).mono ?_;rintro e w1 ⟨rfl,hb1⟩;go_wp2_with fail;go_ret;exact⟨rfl,hb1⟩
theorem patSameA_calls(A B:OA)(c d:Nat)(f t o n sz f2 t2 o2 n2 sz2:Int)(l m:List Stp)(w:World)(hl:l.length<=3518437208780)(hm:m.length<=3518437208780)(hs:Sps w A l)(hr:Sps w B m):
  Calls Tryz.prog 62 #[.agg #[iv f,iv t,iv o,iv n,iv sz,.slice A l.length c],.agg #[iv f2,iv t2,iv o2,iv n2,iv sz2,.slice B m.length d]] w (RetB w (.bool (decide ((⟨f,t,o,n,sz,l⟩:Pat)=⟨f2,t2,o2,n2,sz2,m⟩)))):=by
 have hb:Below w.heap.size w ((w.alloc (.cells #[iv f,iv t,iv o,iv n,iv sz,.slice A l.length c] 36)).alloc (.cells #[iv f2,iv t2,iv o2,iv n2,iv sz2,.slice B m.length d] 36)):=((Below.refl _ _).alloc (Nat.le_refl _) _).alloc (by simp) _;obtain⟨r,hR⟩:∃r,decide ((⟨f,t,o,n,sz,l⟩:Pat)=⟨f2,t2,o2,n2,sz2,m⟩)=r:=⟨_,rfl⟩;rw[hR];have HR:=qH hR;clear hR;have HB:=qH hb;have HC:=qH (equalOps_calls A B c d l m _ hl hm (hs.stays hb) (hr.stays hb));clear hb hs hr;by_cases h5:¬f=f2
 ·have hz:false=r:=(decide_eq_false (fun e=>by injection e;contradiction)).symm.trans HR.out;have HZ:=qH hz;have q:(f==f2)=false:=by simp[h5]
  clear HC hz h5;go_enter Tryz.func62,Tryz.ntmps62;exact x6wb
 have h5:=Decidable.not_not.1 h5;subst h5;have q5:(f==f)=true:=by simp
 by_cases h1:¬t=t2
 ·have hz:false=r:=(decide_eq_false (fun e=>by injection e;contradiction)).symm.trans HR.out;have HZ:=qH hz;have q:(t==t2)=false:=by simp[h1]
  clear HC hz h1;go_enter Tryz.func62,Tryz.ntmps62;exact x6wb
 have h1:=Decidable.not_not.1 h1;subst h1;have q1:(t==t)=true:=by simp
 by_cases h1:¬o=o2
 ·have hz:false=r:=(decide_eq_false (fun e=>by injection e;contradiction)).symm.trans HR.out;have HZ:=qH hz;have q:(o==o2)=false:=by simp[h1]
  clear HC hz h1;go_enter Tryz.func62,Tryz.ntmps62;exact x6wb
 have h1:=Decidable.not_not.1 h1;subst h1;have q1:(o==o)=true:=by simp
 by_cases h1:¬n=n2
 ·have hz:false=r:=(decide_eq_false (fun e=>by injection e;contradiction)).symm.trans HR.out;have HZ:=qH hz;have q:(n==n2)=false:=by simp[h1]
  clear HC hz h1;go_enter Tryz.func62,Tryz.ntmps62;exact x6wb
 have h1:=Decidable.not_not.1 h1;subst h1;have q1:(n==n)=true:=by simp
 by_cases h1:¬sz=sz2
 ·have hz:false=r:=(decide_eq_false (fun e=>by injection e;contradiction)).symm.trans HR.out;have HZ:=qH hz;have q:(sz==sz2)=false:=by simp[h1]
  clear HC hz h1;go_enter Tryz.func62,Tryz.ntmps62;exact x6wb
 have h1:=Decidable.not_not.1 h1;subst h1;have q1:(sz==sz)=true:=by simp
 have hz:decide (l=m)=r:=by
  exact x0f0
 have HZ:=qH hz;clear hz;go_enter Tryz.func62,Tryz.ntmps62;exact x483
section
variable (A:OA) (c:Nat) (l:LU) (w:World)
theorem sumOf_calls(hl:l.length<=140737488355328)(hr:Bts w A l):
  Calls Tryz.prog 73 #[.slice A l.length c] w (Ret w (iv (sumOn 1 l))):=by
 go_enter Tryz.func73,Tryz.ntmps73
 go_wp2
 go_loop [3,5,8] (fun s x i=>∃k:Nat,k<=l.length∧i=.int .i64 k∧s=.int .i64 (sumOn 1 (l.take k))) (fun _ _ i=>l.length-(intOf i).toNat)
 case atStart=>exact⟨0,Nat.zero_le _,rfl,rfl⟩
 case round=>
  obtain⟨k,hk,rfl,rfl⟩:=hrel;have hb:=sumOn_bd 1 (l.take k) (by omega);by_cases hlt:k<l.length
  ·obtain⟨b,o,rfl,hbs,hc⟩:=hr k hlt;have hx:=l[k].toNat_lt;have HS:Hid (sumOn 1 (l.take (k+1))=(sumOn 1 (l.take k)*31+(l[k].toNat:Int))%65521):=sumOn_take 1 l k hlt
   go_wp2
   go_round
   case rel=>exact⟨k+1,by omega,by go_num,by rw[HS.out]⟩
   case measure=>simp[intOf]<;>omega
  go_wp2
  go_ret;exact⟨ret_int (by rw[List.take_of_length_le (by omega)]),rfl⟩
end
def ByRet2(w:World)(l:LU)(n:Int):Ending->World->Prop:=fun en w'=>
 ∃A c,en=.returned (.tuple #[.slice A l.length c,iv n])∧Bts w' A l∧l.length<=c∧Below w.heap.size w w'
theorem Bts.drop{b o:Nat}(h:Bts w (some ⟨b,o,none⟩) l)(k:Nat):Bts w (some ⟨b,o+k,none⟩) (l.drop k):=by
 intro i hi;simp only[List.length_drop]at hi;obtain⟨b',o',hA,hlt,hc⟩:=h (k+i) (by omega);injection hA with hA;injection hA with e1 e2;subst e1 e2;refine⟨b,o+k,rfl,hlt,?_⟩;rw[Nat.add_assoc,hc];simp
theorem Bts.take{A:OA}(h:Bts w A l)(k:Nat):Bts w A (l.take k):=by
 intro i hi;simp only[List.length_take]at hi;obtain⟨b,o,hA,hlt,hc⟩:=h i (by omega);exact⟨b,o,hA,hlt,by rw[hc];simp⟩
theorem mid_bts{A:OA}(c:Nat){old:LU}{a n:Nat}(h:Bts w A old)(hc:old.length<=c)(hn:a+n<=old.length):Bts w (if c=a then A else Option.map (fun x=>x.add a) A) ((old.drop a).take n):=by
 by_cases e:n=0
 ·subst e;rw[List.take_zero];exact Bts.nil _ _
 obtain⟨b,o,rfl,hlt,_⟩:=h 0 (by omega);rw[if_neg (by omega)];have e1:Option.map (fun x:Addr=>x.add a) (some ⟨b,o,none⟩)=some ⟨b,o+a,none⟩:=by simp[Addr.add]
 rw[e1];exact(h.drop a).take n
theorem deltaApply_bad(A:OA)(c:Nat)(old:LU)(B:OA)(d:Nat)(l:List Stp)(size:Int)(w:World)(ho:old.length<=140737488351232)(hl:l.length<=3518437208780)(hr:Sps w B l)(h:deltaCheck l old.length size≠0):
  Calls Tryz.prog 89 #[.slice A old.length c,.slice B l.length d,iv size] w (RetB w (.tuple #[.slice none 0 0,iv (deltaCheck l old.length size)])):=by
 have hb:(deltaCheck l old.length size !=0)=true:=by simp[h]
 clear h;go_enter Tryz.func89,Tryz.ntmps89;go_wp2_with fail;refine(deltaCheck_calls B d l old.length size w hl hr).mono ?_;rintro e w1 ⟨rfl,hb1⟩;go_wp2_with fail;go_ret2;exact⟨rfl,hb1⟩
theorem deltaApply_ok(A:OA)(c:Nat)(old:LU)(B:OA)(d:Nat)(l:List Stp)(size:Int)(w:World)(hc:old.length<=c)(hA:Bts w A old)(hl:l.length<=3518437208780)(hr:Sps w B l)(h:deltaCheck l old.length size=0):
  Calls Tryz.prog 89 #[.slice A old.length c,.slice B l.length d,iv size] w (ByRet2 w (applied old l) 0):=by
 have hd:=deltaCheck_ok.1 h;have hc3:∀w,Calls Tryz.prog 103 #[.slice B l.length d,iv (old.length:Int),iv size] w (RetB w (iv (deltaCheck l old.length size)))->Calls Tryz.prog 103 #[.slice B l.length d,iv (old.length:Int),iv size] w (RetB w (iv 0)):=by
  intro w hw;rw[h]at hw;exact hw
 have hcc:=hc3 w (deltaCheck_calls B d l old.length size w hl hr);have HC:=qH hcc;have HD:=qH hd;have ho1:=hd.o1;have hm:=hd.many;clear hc3 hcc h hd;go_enter Tryz.func89,Tryz.ntmps89;go_wp2_with fail;refine HC.out.mono ?_;rintro e w1 ⟨rfl,hb1⟩;have HB1:=qH hb1;clear hb1;go_wp2_with fail;go_loopw [9,22] (fun v i wr=>∃(k:Nat) (C:OA) (cc:Nat),k<=l.length∧i=.int .i64 k∧v=.slice C (applied old (l.take k)).length cc∧(applied old (l.take k)).length<=cc∧Bts wr C (applied old (l.take k))∧Hid (Below w.heap.size w wr)) (fun _ i _=>l.length-(intOf i).toNat)
 case atStart=>exact⟨0,none,0,Nat.zero_le _,rfl,rfl,Nat.le_refl _,Bts.nil _ _,HB1⟩
 case round=>
  obtain⟨k,C,cc,hk,rfl,rfl,hcl,hC,HB⟩:=hrel;by_cases hlt:k<l.length
  ·obtain⟨b,o,D,dd,rfl,hs,hc3,hc1,hc2,hd1,hd2,hD,hi2,hi1⟩:=(hr.stays HB.out).at_ hlt;have hsz:=HB.out.size;have hx:l.take (k+1)=l.take k++[l[k]]:=List.take_succ_eq_append_getElem hlt;obtain⟨hform,hin⟩:=HD.out.each _ (List.getElem_mem hlt);have hlen:(applied old (l.take (k+1))).length<=64:=by
    have h1:=applied_len (old:=old) (l:=l.take (k+1)) (fun o ho=>(HD.out.each o (List.mem_of_mem_take ho)).2);have h1:=HD.out.take (k+1);have:=h1.2.2.2;have:=HD.out.s1;omega
   have happ:applied old (l.take (k+1))=applied old (l.take k)++l[k].piece old:=by rw[hx,applied_append,applied_one]
   have HX:=qH happ;rw[happ]at hlen;clear happ hx hform;generalize hx:l[k]=x at *
   clear hx;obtain⟨at_,len,data⟩:=x;unfold Stp.in_ at hin;dsimp only at *
   obtain⟨j1,j2,j3⟩:=hin;obtain⟨n,rfl⟩:=Int.eq_ofNat_of_zero_le j1;obtain⟨a,rfl⟩:=Int.eq_ofNat_of_zero_le j2;have j3:a+n<=old.length:=by omega
   clear j1 j2 hi2 hi1;generalize hp:applied old (l.take k)=pre at *
   clear hp;have hpl:pre.length<=64:=by rw[List.length_append]at hlen;omega
   have hdl:data.length<=64:=by rw[List.length_append]at hlen;simp only[Stp.piece,List.length_append]at hlen;omega
   clear hlen;have w1':IntKind.i64.wrap ((a:Int)+(n:Int))=(a:Int)+(n:Int):=IntWalk.i64_in _ (by omega);have w1:((a:Int)+(n:Int)).toNat=a+n:=by omega
   have w2:(0:Int)<=(a:Int):=by omega
   have w3:(a:Int)<=(a:Int)+(n:Int):=by omega
   have w3:(a:Int)+(n:Int)<=(c:Int):=by omega
   have w3:a+n-a=n:=by omega
   have hMM:∀w',Below wr.heap.size wr w'->Bts w' (if c=a then A else Option.map (fun x=>x.add a) A) ((old.drop a).take n):=fun w' hb=>(mid_bts c (hA.stays HB.out) hc j3).stays hb;have hml:((old.drop a).take n).length=n:=by simp;omega
   have HM:=qH hMM;have HML:=qH hml;have hDs:∀w',Below wr.heap.size wr w'->Bts w' D data:=fun w' hb=>hD.stays hb;have hCs:∀w',Below wr.heap.size wr w'->Bts w' C pre:=fun w' hb=>hC.stays hb;have HDs:=qH hDs;have HCs:=qH hCs;clear hMM hml hDs hCs hD hC;go_wp2_with fail;refine wp_region_still_tail 12 (by kernel_rfl) (by kernel_rfl) ?_
   change wpStill _ _ ((wr.alloc _).drew) _ _ _
   simp only[List.take_succ_cons,List.take_zero,List.drop_succ_cons,List.drop_zero];repeat still_step
   refine wpStill_nil ?_;generalize (if c=a then A else Option.map (fun x=>x.add a) A)=M at *
   have hb1:Below wr.heap.size wr ((wr.alloc (.cells #[.int .i64 a,.int .i64 n,.slice D data.length dd] 122)).drew):=((Below.refl _ _).alloc (Nat.le_refl _) _).drew
   change wpList _ _ _ _ _ ((wr.alloc (.cells #[.int .i64 a,.int .i64 n,.slice D data.length dd] 122)).drew)
   have HB1:=qH hb1;have hs1:wr.heap.size<((wr.alloc (.cells #[.int .i64 a,.int .i64 n,.slice D data.length dd] 122)).drew).heap.size:=by simp
   clear hb1;generalize (wr.alloc (.cells #[.int .i64 a,.int .i64 n,.slice D data.length dd] 122)).drew=w1 at *
   have HT:Hid (applied old (l.take (k+1))=pre++(old.drop a).take n++data):=by
    refine qH ?_;rw[HX.out];simp[Stp.piece]
   clear HX;go_wp2_with fail;have hcat:=concat3_calls (w:=w1.alloc (.cells #[.slice C pre.length cc,.slice M n (c-a),.slice D data.length dd] 23)) (g:=w1.heap.size) (A:=C) (B:=M) (C:=D) (a:=pre) (b:=(old.drop a).take n) (l:=data) (c:=cc) (d:=c-a) (k:=dd) (t:=23) (fr:=(0,0))
    (by rw[HML.out];exact blk_top rfl) (by rw[HML.out];omega) (HCs.out _ (HB1.out.alloc HB1.out.size _)) (HM.out _ (HB1.out.alloc HB1.out.size _)) (HDs.out _ (HB1.out.alloc HB1.out.size _))
   refine hcat.mono ?_;rintro e w1 ⟨C',c',rfl,hown,hb1⟩;have HO:=qH hown;have HB1:Hid (Below w.heap.size w w1):=qH ((HB.out.trans (HB1.out.mono hsz)).trans ((((Below.refl _ _).alloc (Nat.le_refl _) _).mono (by omega)).trans (hb1.mono (by simp;omega))));clear hcat hown hb1;go_wp2_with fail;go_roundw
   case rel=>
    refine⟨k+1,C',c',by omega,by go_num,by rw[HT.out];simp,?_,?_,HB1⟩
    ·rw[HT.out];exact HO.out.le
    rw[HT.out];exact HO.out.src.bts
   case measure=>simp[intOf];omega
  obtain rfl:k=l.length:=by omega
  rw[List.take_length]at hcl hC;go_wp2_with fail;exact bodyPost_ret (results_tmp2 rfl _ _ _) rfl ⟨C,cc,by simp,hC,hcl,HB.out⟩
def axOf(old:LU)(l:List Stp)(size:Int):List UInt8×Int:=if deltaCheck l old.length size≠0 then ([],deltaCheck l old.length size)else (applied old l,0)
theorem byRet2_nil{n:Int}{e:Ending}(h:RetB w (.tuple #[.slice none 0 0,iv n]) e w'):ByRet2 w [] n e w':=
 ⟨none,0,h.1,Bts.nil _ _,Nat.le_refl _,h.2⟩
theorem applyAny_calls(A:OA)(c:Nat)(old:LU)(B:OA)(d:Nat)(l:List Stp)(size:Int)(w:World)(hc:old.length<=c)(ho:old.length<=140737488351232)(hA:Bts w A old)(hl:l.length<=3518437208780)(hr:Sps w B l):
  Calls Tryz.prog 89 #[.slice A old.length c,.slice B l.length d,iv size] w (ByRet2 w (axOf old l size).1 (axOf old l size).2):=by
 unfold axOf;by_cases h:deltaCheck l old.length size=0
 ·rw[if_neg (by simpa using h)];exact deltaApply_ok A c old B d l size w hc hA hl hr h
 rw[if_pos h];exact(deltaApply_bad A c old B d l size w ho hl hr h).mono fun _ _=>byRet2_nil
section
variable {w0 w w':World} {base size n c m ib ia k:Nat} {e T:TypeId} {A A':OA} {c':Nat} {xs ns:List Value} {F:World->Prop} {cv:Nat->Value}
end
theorem x9ik(h:Y:=by
 intro done cv k1 a wq hw h hJ hn;have e1:=mO 1 (.pointer (some ⟨g,0,none⟩)) h;go_simp):Y:=h
theorem cloneBytes_calls(A:OA)(n c:Nat)(cs:List Value)(w:World)(hl:cs.length=n*1)(hn0:n<=140737488355328)(hr:Src w A cs)(h1:∀u∈cs,u.oneCell'=true):
  Calls Tryz.prog 13 #[.slice A n c] w (SlRet w 5 1 n cs):=by
 rcases A with _|ad
 ·have h1:cs.length=0:=by
   exact x5fs
  obtain rfl:n=0:=by omega
  obtain rfl:cs=[]:=List.eq_nil_of_length_eq_zero h1;have hn:=fun (wx:World) (a:OA) (n c n' c':Nat)=>Lib.run_eql_slice_nil (P:=Tryz.prog) wx 23 5 a n c n' c' Tryz.underlying23;clear h1 hl;go_enter Tryz.func13,Tryz.ntmps13;exact x4d9
 have hn:=fun (wx:World) (a:OA) (n c n' c':Nat)=>Lib.run_eql_slice_nil (P:=Tryz.prog) wx 23 5 a n c n' c' Tryz.underlying23;have ho:Own (w.alloc (.cells #[] 5)) w.heap.size 5 1 (some ⟨w.heap.size,0,none⟩) 0 0 []:=own_zero w _ _;have hs:=hr.stays ((Below.refl w.heap.size w).alloc (Nat.le_refl _) (.cells #[] 5));have hb1:0+n<=140737488355328:=by omega
 have hb2:w.heap.size<=(w.alloc (.cells #[] 5)).heap.size:=by simp
 have HL:=qH hl;clear hl;go_enter Tryz.func13,Tryz.ntmps13;go_wp2_with (at_builtin;refine wpList_app _ rfl _ _ 23 rfl elBytesB w.heap.size (some ⟨w.heap.size,0,none⟩) 0 0 [] rfl ho (some ad) n c cs rfl hs HL.out h1 hb1 hb2 ?_;intro A' c' w1 hown hg hb hx);exact x6v2
theorem x0dl(h:Y:=by
 intro done cv k2 a wq hw h hJ hn;have e1:=mO 1 (.pointer (some ⟨g,0,none⟩)) h;go_simp):Y:=h
theorem x1dh(h:Y:=by
 obtain⟨y1,g1⟩:=hJ;rw[y1]at e1;refine wp_val (v:=.bool (!eq)) (by go_simp) ⟨_,rfl,by simp,g1⟩):Y:=h
theorem x1ex(h:Y:=by
 have y_:=kq (rmJ_bel hJ) RD FD;go_simp):Y:=h
theorem x2bx(h:Y:=by
 rw[<-himg];unfold Dev.image;rw[List.length_take];have:=(at_sizes HOK.out r.active).2.1;omega):Y:=h
theorem x3t8(h:Y:=by
 obtain⟨k1_,k2_,k3_,k4_⟩:=HKS.out;go_simp):Y:=h
theorem x5ke(h:Y:=by
 have y_:=keep1 (rmJ_bel hJ) RR.out (by simp[recA]) FR.out;have hk_:=HA.out;go_simp):Y:=h
theorem x5uk(h:Y:=by
 intro done cv k1 a wq hw h hJ hn;have e1:=mO 5 (.pointer (some ⟨gr,0,none⟩)) h;go_simp):Y:=h
theorem x6tj(h:Y:=by
 obtain⟨_,_,_,g1,g2,_,g3⟩:=hpok e;have g2':b=applied img d.job.ops:=g2;rw[g2'];have g4:=g1.s1;exact⟨by omega,g3,g4⟩):Y:=h
end Go.Proofs.YtefkfglkpebbmadGreat
