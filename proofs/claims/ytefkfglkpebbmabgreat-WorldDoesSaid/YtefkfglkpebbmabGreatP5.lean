/- Walks. No conditions. -/
import Derived.Test.YtefkfglkpebbmabGreatP4
set_option linter.all false
set_option maxRecDepth 100000
set_option maxHeartbeats 0
namespace Go.Proofs.YtefkfglkpebbmabGreat
open Go.RowKit
variable {Y:Prop}
variable {l:List Chk} {k base g a:Nat} {c y x:Chk} {w:World} {ds:List (Option Addr×Nat)} {A:OA}
theorem x2ao(h:Y:=by
 intro done cv k1 a wq hw h hJ hn;have e1:=mO 0 (.slice (some ⟨g,0,none⟩) (n+1) c) h;exact mx_move (ch_ev e1)):Y:=h
theorem x4n4(h:Y:=by
 intro done cv k1 a wq hw h hJ hn;have e1:=mO 1 (iv (i:Int)) h;exact mx_move (ch_ev e1)):Y:=h
theorem x8ew(h:Y:=by
 intro done cv k1 a wq hw h hJ hn;have e1:=mO 7 (iv 1) h;exact mx_move (ch_ev e1)):Y:=h
theorem x9zw(h:Y:=by
 have k1:((i:Int)+1).toNat=i+1:=by omega
 have k1:(0:Int)<=(i:Int)+1:=by omega
 go_simp):Y:=h
def InsRet(w:World)(base n:Nat)(A:OA)(out:List Value):Ending->World->Prop:=fun en w'=>
 ∃A' c',en=.returned (.slice A' (n+1) c')∧Own w' base 61 5 A' (n+1) c' out∧Below base w w'∧(∀k,k<w.heap.size->A.map (·.block)≠some k->w'.heap[k]?=w.heap[k]?)∧(A'.map (·.block)=A.map (·.block)∨∀k,A'.map (·.block)=some k->w.heap.size<=k)
def insJ(w0 w1:World):Nat->(Nat->Value)->World->Prop
 |0,_,w=>w=w0.drew
 |_,_,w=>w=w1.drew∧True
theorem addr_plus(b o j:Nat):(⟨b,o,none⟩:Addr).add j=⟨b,o+j,none⟩:=by unfold Addr.add;split<;>simp_all
theorem insEnd0_calls(V:Addr)(vc:Nat)(ns:List Value)(w:World)(base:Nat)(hns:ns.length=5)(hv:Src w (some V) ns)(h1:∀u∈ns,u.oneCell'=true)(hb:base<=w.heap.size):
  Calls Tryz.prog 146 #[.slice none 0 0,iv 0,.slice (some V) 1 vc] w (InsRet w base 0 none ns):=by
 have hO:Own w base 61 5 none 0 0 []:=Own.nil_ _ _ _ _;have H1:=qH h1;clear h1;go_enter Tryz.func146,Tryz.ntmps146;go_wp2_with (at_builtin;go_must (refine wpList_app w rfl _ _ 33 rfl elChunks base none 0 0 [] rfl hO (some V) 1 vc ns rfl hv hns H1.out (by omega) hb ?_;intro A' c' w1 hown hg hb1 hor));go_ret;exact⟨A',c',by simp,by simpa using hown,hb1,fun k hk _=>hg.block k hk (by simp),by
  rcases hor with h|h
  ·exact .inl h
  exact .inr (fun k hk=>by rw[h]at hk;injection hk with hk;omega)⟩
theorem insEnd_calls(g n c:Nat)(xs:List Value)(V:Addr)(vc:Nat)(ns:List Value)(w:World)(base:Nat)(hO:Own w base 61 5 (some ⟨g,0,none⟩) n c xs)(hns:ns.length=5)(hv:Src w (some V) ns)(h1:∀u∈ns,u.oneCell'=true)(hb:base<=w.heap.size)(hn:n<=1000):
  Calls Tryz.prog 146 #[.slice (some ⟨g,0,none⟩) n c,iv n,.slice (some V) 1 vc] w (InsRet w base n (some ⟨g,0,none⟩) (xs++ns)):=by
 have hle:=hO.le;have HO:=qH hO;have H1:=qH h1;have q1:(n:Int)<=(c:Int):=by omega
 have q1:¬(n:Int)<0:=by omega
 have q1:((n:Int)==(n:Int))=true:=by simp
 have HD:Hid (∃v,∀wq,(Instr.slice 33 (.slice (some ⟨g,0,none⟩) n c) (some (iv (n:Int))) none none).run Tryz.prog wq=.ok v wq):=qH (by
  by_cases e:c=n
  ·exact⟨.slice (some ⟨g,0,none⟩) 0 0,fun wq=>by go_simp⟩
  exact⟨.slice (some ⟨g,n*5,none⟩) 0 (c-n),fun wq=>by go_simp⟩)
 obtain⟨v,hv1⟩:=HD.out;clear hO h1 HD;go_enter Tryz.func146,Tryz.ntmps146;go_wp2_with (at_builtin;go_must (refine wpList_app w rfl _ _ 33 rfl elChunks base (some ⟨g,0,none⟩) n c xs rfl HO.out (some V) 1 vc ns rfl hv hns H1.out (by omega) hb ?_;intro A' c' w1 hown hg hb1 hor));go_ret;refine⟨A',c',rfl,hown,hb1,fun k hk hne=>hg.block k hk (fun e=>hne e.symm),?_⟩;rcases hor with h|h
 ·exact .inl (by simpa using h)
 exact x55s
theorem insRoom_calls(g n c i:Nat)(xs:List Value)(v vc:Nat)(ns:List Value)(tV:TypeId)(w:World)(base:Nat)(hO:Own w base 61 5 (some ⟨g,0,none⟩) n c xs)(hns:ns.length=5)(hv:w.heap[v]?=some (.cells ns.toArray tV (0,0)))(hvg:v≠g)(h1:∀u∈ns,u.oneCell'=true)(h2:∀u∈xs,u.oneCell'=true)(hb:base<=w.heap.size)(hn:n<=1000)(hi:i<n)(hc:n+1<=c):
  Calls Tryz.prog 146 #[.slice (some ⟨g,0,none⟩) n c,iv i,.slice (some ⟨v,0,none⟩) 1 vc] w (InsRet w base n (some ⟨g,0,none⟩) (xs.take (i*5)++ns++xs.drop (i*5))):=by
 obtain⟨hxl,⟨hv3,_⟩|⟨g',cap,cur,hv3,hbg,hgc,hncap,hmax,hcs,hxs1⟩⟩:=hO
 ·cases hv3
 injection hv3 with e1 e2 e3;injection e1 with e1;injection e1 with e1 e4;subst e1 e3;obtain⟨L,hL⟩:=eX (cur.toList);have hcur:cur=L.toArray:=by rw[<-hL]
 subst hcur;simp only[List.size_toArray]at hcs;have hxs:xs=L.take (n*5):=by simpa using hxs1.symm
 have hcm:c<=9223372036854775807:=by simp only[maxLen]at hmax;omega
 have q3:((i:Int)==(n:Int))=false:=beq_eq_false_iff_ne.2 (by omega);have q1:decide ((c:Int)<(n:Int)+1)=false:=decide_eq_false (by omega);have q1:IntKind.i64.wrap ((n:Int)+1)=(n:Int)+1:=IntWalk.i64_in _ (by omega);have HWI:Hid (IntKind.i64.wrap ((i:Int)+1)=(i:Int)+1):=qH (IntWalk.i64_in _ (by omega));have hS5:∀wq,(Instr.slice 33 (.slice (some ⟨g,0,none⟩) n c) (some (iv (i:Int))) none none).run Tryz.prog wq=.ok (.slice (some ⟨g,i*5,none⟩) (n-i) (c-i)) wq:=fun wq=>by
  have k1:¬c=i:=by omega
  have k1:(i:Int)<=(n:Int):=by omega
  go_simp
 have hS1:∀wq,(Instr.slice 33 (.slice (some ⟨g,0,none⟩) n c) none (some (iv ((n:Int)+1))) none).run Tryz.prog wq=.ok (.slice (some ⟨g,0,none⟩) (n+1) c) wq:=fun wq=>by
  have k1:¬c=0:=by omega
  have k1:(n:Int)+1<=(c:Int):=by omega
  have k1:(0:Int)<=(n:Int)+1:=by omega
  go_simp
 have hS1:∀wq,(Instr.slice 33 (.slice (some ⟨g,0,none⟩) (n+1) c) (some (iv ((i:Int)+1))) none none).run Tryz.prog wq=.ok (.slice (some ⟨g,(i+1)*5,none⟩) (n-i) (c-(i+1))) wq:=fun wq=>by
  have k1:¬c=i+1:=by omega
  have k1:(i:Int)+1<=(n:Int)+1:=by omega
  have k1:n+1-(i+1)=n-i:=by omega
  exact x9zw
 have hS2:∀wq,(Instr.slice 33 (.slice (some ⟨g,0,none⟩) (n+1) c) (some (iv (i:Int))) none none).run Tryz.prog wq=.ok (.slice (some ⟨g,i*5,none⟩) (n+1-i) (c-i)) wq:=fun wq=>by
  have k1:¬c=i:=by omega
  have k1:(i:Int)<=(n:Int)+1:=by omega
  go_simp
 have HS1:=qH hS1;have HS2:=qH hS2;have hsv:w.shape? v=some (tV,5):=by
  unfold World.shape?;rw[hv];simp[hns]
 have hsg:w.shape? g=some (61,c*5):=by
  unfold World.shape?;rw[hgc];simp[hcs]
 have hov:∀la lb cb,(callFunc 154 #[.slice (some ⟨v,0,none⟩) 1 la,.slice (some ⟨g,(i+1)*5,none⟩) lb cb]).run Tryz.prog w=.ok (.value (.bool false)) w:=fun la lb cb=>by
  rw[run_callFunc_extern Tryz.func154 (by kernel_rfl) (by kernel_rfl) (by kernel_rfl) (e:=Extern.SlicesOverlaps.overlaps #[33,33] #[4]) (by kernel_rfl)];have:=Lib.run_overlaps_apart (P:=Tryz.prog) w 33 4 61 Tryz.underlying33 5 (fun w=>by kernel_rfl) ⟨v,0,none⟩ ⟨g,(i+1)*5,none⟩ 1 la lb cb hvg tV 61 5 (c*5) hsv hsg (by omega) (by simp[World.frozen?,hv]) (by simp[World.frozen?,hv]);rw[this];rfl
 have hcl:((L.take (n*5)).drop (i*5)).length=(n-i)*5:=by simp;omega
 have hone:∀u∈(L.take (n*5)).drop (i*5),u.oneCell'=true:=fun u hu=>h2 u (by rw[hxs];exact List.mem_of_mem_drop hu);have hadd:∀(b o j:Nat),(⟨b,o,none⟩:Addr).add j=⟨b,o+j,none⟩:=addr_plus;have hC1:∀ty dc sc,(Builtin.copy_ #[33,33] ty #[.slice (some ⟨g,(i+1)*5,none⟩) (n-i) dc,.slice (some ⟨g,i*5,none⟩) (n+1-i) sc]).run Tryz.prog w.drew=.ok (goInt (Nat.min (n+1-i) (n-i))) (w.drew.setRow g (over L ((i+1)*5) ((L.take (n*5)).drop (i*5))).toArray):=fun ty dc sc=>
  run_copy_rowN w.drew 33 33 ty 61 g ((i+1)*5) (n-i) dc ⟨g,i*5,none⟩ (n+1-i) sc L 61 ((L.take (n*5)).drop (i*5)) 5 Tryz.underlying33 (by kernel_rfl) hgc (by rw[hcl];simp only[Nat.min_def];split<;>omega)
   (fun j u hj=>by
     rw[hadd,cell_of_row _ _ _ _ _ _ (show w.drew.heap[g]?=_ from hgc)];rw[List.getElem?_drop,List.getElem?_take]at hj;split at hj
     ·simpa using hj
     cases hj) (by omega) hone
 have HC1:=qH hC1;obtain⟨w1,hw1⟩:=eX (w.setRow g (over L ((i+1)*5) ((L.take (n*5)).drop (i*5))).toArray);have hol:=over_len L ((i+1)*5) ((L.take (n*5)).drop (i*5)) (by omega);have hg1:w1.heap[g]?=some (.cells (over L ((i+1)*5) ((L.take (n*5)).drop (i*5))).toArray 61 (0,0)):=by rw[<-hw1];exact setRow_heap w g _ _ _ _ hgc
 have hv1:w1.heap[v]?=some (.cells ns.toArray tV (0,0)):=by rw[<-hw1,setRow_other w g v _ hvg];exact hv
 have hC2:∀ty dc,(Builtin.copy_ #[33,33] ty #[.slice (some ⟨g,i*5,none⟩) (n+1-i) dc,.slice (some ⟨v,0,none⟩) 1 vc]).run Tryz.prog w1.drew=.ok (goInt (Nat.min 1 (n+1-i))) (w1.drew.setRow g (over (over L ((i+1)*5) ((L.take (n*5)).drop (i*5))) (i*5) ns).toArray):=fun ty dc=>
  run_copy_rowN w1.drew 33 33 ty 61 g (i*5) (n+1-i) dc ⟨v,0,none⟩ 1 vc _ 61 ns 5 Tryz.underlying33 (by kernel_rfl) hg1 (by rw[hns];simp only[Nat.min_def];split<;>omega)
   (fun j u hj=>by
     rw[hadd,cell_of_row _ _ _ _ _ _ (show w1.drew.heap[v]?=_ from hv1)];simpa using hj) (by omega) h1
 have HC2:=qH hC2;have HEND:Hid (InsRet w base n (some ⟨g,0,none⟩) (xs.take (i*5)++ns++xs.drop (i*5)) (.returned (.slice (some ⟨g,0,none⟩) (n+1) c)) (w1.drew.setRow g (over (over L ((i+1)*5) ((L.take (n*5)).drop (i*5))) (i*5) ns).toArray)):=qH (by
  have hol1:=over_len (over L ((i+1)*5) ((L.take (n*5)).drop (i*5))) (i*5) ns (by omega);have hin:=ins_room L ns (i*5) (n*5) (by omega) (by omega);rw[show i*5+ns.length=(i+1)*5 by omega]at hin;refine⟨some ⟨g,0,none⟩,c,rfl,⟨by simp;omega,Or.inr ⟨g,c,(over (over L ((i+1)*5) ((L.take (n*5)).drop (i*5))) (i*5) ns).toArray,rfl,hbg,setRow_heap w1.drew g _ _ _ _ hg1,by omega,hmax,by simp;omega,?_⟩⟩,?_,?_,.inl rfl⟩
  ·rw[hxs,<-hin];simp;congr 1;omega
  ·have hb1:Below base w w1:=by rw[<-hw1];exact below_row (Below.refl _ _) hbg _
   exact below_row hb1.drew hbg _
  intro k hk hne;have hkg:k≠g:=fun e=>hne (by rw[e];rfl);rw[setRow_other w1.drew g k _ hkg]
  show w1.heap[k]?=_;rw[<-hw1,setRow_other w g k _ hkg])
 clear hS1 hS2 hC1 hC2 hg1 hv1 hol hcl hone hxs hxs1 h2 h1 hgc hv hxl hL hadd;go_enter Tryz.func146,Tryz.ntmps146;go_wp2_with (simp only[hov]);refine wM (some 69::some 70::some 71::some 72::some 73::some 74::some 75::some 76::some 77::[]) (none::none::none::none::none::none::none::none::some 0::[]) (.slice (some ⟨g,0,none⟩) (n+1) c::iv (i:Int)::iv 1::iv ((i:Int)+1)::.slice (some ⟨g,(i+1)*5,none⟩) (n-i) (c-(i+1))::.slice (some ⟨g,0,none⟩) (n+1) c::iv (i:Int)::.slice (some ⟨g,i*5,none⟩) (n+1-i) (c-i)::undef::[]) 1 (insJ w (w.setRow g (over L ((i+1)*5) ((L.take (n*5)).drop (i*5))).toArray)) 95 (rfl) ?_ ?_
 ·refine⟨?_,?_,?_,?_,?_,?_,?_,?_,?_,trivial⟩
  ·exact x2ao
  ·exact x4n4
  ·exact x8ew
  ·intro done cv k1 a wq hw h hJ hn;have e1:=mN 1 70 h hw;have e71:=mN 2 71 h hw;have h1:=HWI.out;go_simp
  ·intro done cv k1 a wq hw h hJ hn;have e1:=mN 0 69 h hw;have e72:=mN 3 72 h hw;have h1:=HS1.out;go_simp
  ·exact x2ao
  ·exact x4n4
  ·intro done cv k1 a wq hw h hJ hn;have e1:=mN 5 74 h hw;have e75:=mN 6 75 h hw;have h1:=HS2.out;go_simp
  ·intro done cv a wq hw h hJ;have e1:=mN 4 73 h hw;have e76:=mN 7 76 h hw;obtain rfl:wq=w.drew:=hJ;refine wp_copyN (.tmp 73) (.tmp 76) 33 33 rfl _ _ (ch_ev e1) (ch_ev e76) (HC1.out _ _ _) ⟨_,rfl,?_⟩;exact⟨rfl,trivial⟩
 intro cv w1 hJ;obtain⟨rfl,-⟩:=hJ;rw[hw1];simp only[mixAll,pA,mA,Nat.reduceAdd];clear HC1;have hS1:=HS2.out;have hC1:=HC2.out;go_wp2_with fail;go_ret;exact HEND.out
theorem insGrow_calls(g n c i:Nat)(xs:List Value)(v vc:Nat)(ns:List Value)(tV:TypeId)(w:World)(base:Nat)(hO:Own w base 61 5 (some ⟨g,0,none⟩) n c xs)(hns:ns.length=5)(hv:w.heap[v]?=some (.cells ns.toArray tV (0,0)))(h1:∀u∈ns,u.oneCell'=true)(h2:∀u∈xs,u.oneCell'=true)(hb:base<=w.heap.size)(hn:n<=1000)(hi:i<n)(hc:c<n+1):
  Calls Tryz.prog 146 #[.slice (some ⟨g,0,none⟩) n c,iv i,.slice (some ⟨v,0,none⟩) 1 vc] w (InsRet w base n (some ⟨g,0,none⟩) (xs.take (i*5)++ns++xs.drop (i*5))):=by
 have hnc:=hO.le;have hxl:=hO.len;have hsrc:=hO.src;have hgl:g<w.heap.size:=(hO.block g rfl).2;have hcn:c=n:=by omega
 clear hO hnc;subst hcn;have q5:((i:Int)==(c:Int))=false:=beq_eq_false_iff_ne.2 (by omega);have q1:decide ((c:Int)<(c:Int)+1)=true:=decide_eq_true (by omega);have q1:IntKind.i64.wrap ((c:Int)+1)=(c:Int)+1:=IntWalk.i64_in _ (by omega);have q1:(c:Int)+1-(i:Int)=((c+1-i:Nat):Int):=by omega
 have q1:IntKind.i64.wrap (((c+1-i:Nat):Int))=((c+1-i:Nat):Int):=IntWalk.i64_in _ (by omega);have HWI:Hid (IntKind.i64.wrap ((i:Int)+1)=(i:Int)+1):=qH (IntWalk.i64_in _ (by omega));have hS4:∀wq,(Instr.slice 33 (.slice (some ⟨g,0,none⟩) c c) (some (iv (i:Int))) none none).run Tryz.prog wq=.ok (.slice (some ⟨g,i*5,none⟩) (c-i) (c-i)) wq:=fun wq=>by
  have k1:¬c=i:=by omega
  have k1:(i:Int)<=(c:Int):=by omega
  go_simp
 have hS1:∀wq,(Instr.slice 33 (.slice (some ⟨g,0,none⟩) c c) none (some (iv (i:Int))) none).run Tryz.prog wq=.ok (.slice (some ⟨g,0,none⟩) i c) wq:=fun wq=>by
  have k1:¬c=0:=by omega
  have k1:(i:Int)<=(c:Int):=by omega
  go_simp
 obtain⟨inf,hif,hiz,his,hib⟩:=info_parts (P:=Tryz.prog) (e:=61) (z:=.agg #[iv 0,iv 0,iv 0,iv 0,.slice none 0 0]) (size:=5) (bytes:=56) (by kernel_rfl);have hpl:(xs.take (i*5)).length=i*5:=by simp;omega
 have hcell:∀(W:World),(∀k,k<w.heap.size->W.heap[k]?=w.heap[k]?)->∀j u,xs[j]?=some u->W.cell? ⟨g,j,none⟩=some u:=fun W hW j u hj=>by
  obtain⟨hjl,rfl⟩:=List.getElem?_eq_some_iff.1 hj;obtain⟨b',o',e,hlt,hcc⟩:=hsrc j hjl;injection e with e;injection e with e1 e2;subst e1 e2;rw[World.cell?_of_block (hW g hgl)];simpa using hcc
 have hold:(Builtin.firstCells inf.size i (.slice (some ⟨g,0,none⟩) i c)).run Tryz.prog w.drew=.ok (xs.take (i*5)).toArray w.drew:=by
  have:=run_loadCells_list (P:=Tryz.prog) w.drew ⟨g,0,none⟩ (xs.take (i*5)) (fun j u hj=>by
   rw[addr_plus,Nat.zero_add];rw[List.getElem?_take]at hj;split at hj
   ·exact hcell w.drew (fun _ _=>rfl) j u hj
   cases hj)
  rw[hpl]at this;rw[his];exact this
 have hr:=fun ty=>Lib.run_append_grow_zeros (P:=Tryz.prog) w 33 3 ty 61 inf (.agg #[iv 0,iv 0,iv 0,iv 0,.slice none 0 0]) .i64 .i64 Tryz.underlying33 Tryz.underlying3 hif hiz (some ⟨g,0,none⟩) i c _ hold (c+1-i) (by omega) (by omega) (by omega) (by omega) (by rw[hib];omega)
  (growslice_fits (by omega) (by rw[hib];omega))
 have hik:i+(c+1-i)=c+1:=by omega
 rw[hik]at hr;have hG:=grownCap_ge w (c+1) c 61;have hG1:=grownCap_le_maxLen w (c+1) c 61 (by unfold maxLen;omega);obtain⟨cap,hcd⟩:∃cap,cap=grownCap w (c+1) c 61:=⟨_,rfl⟩;rw[<-hcd]at hr hG hG1;obtain⟨Z,hZ⟩:∃Z:List Value,(Builtin.zeroCells (Value.cells (.agg #[iv 0,iv 0,iv 0,iv 0,.slice none 0 0])) (c+1-i)++Builtin.zeroCells (Value.cells (.agg #[iv 0,iv 0,iv 0,iv 0,.slice none 0 0])) (cap-(c+1))).toList=Z:=⟨_,rfl⟩;have hZl:Z.length=(cap-i)*5:=by rw[<-hZ];simp[Builtin.zeroCells,Value.cells];omega
 have hcells:(xs.take (i*5)).toArray++Builtin.zeroCells (Value.cells (.agg #[iv 0,iv 0,iv 0,iv 0,.slice none 0 0])) (c+1-i)++Builtin.zeroCells (Value.cells (.agg #[iv 0,iv 0,iv 0,iv 0,.slice none 0 0])) (cap-(c+1))=(xs.take (i*5)++Z).toArray:=by
  rw[<-hZ]
  apply Array.ext'
  simp
 rw[hcells]at hr;have hcm:cap<=9223372036854775807:=by simp only[maxLen]at hG1;omega
 clear hcd hcells hZ hif hiz his hib hold;obtain⟨w1,hw1⟩:=eX (w.drew.alloc (.cells (xs.take (i*5)++Z).toArray 61));rw[hw1]at hr;have hg1:w1.heap[w.heap.size]?=some (.cells (xs.take (i*5)++Z).toArray 61 (0,0)):=by rw[<-hw1];exact blk_top rfl
 have hb1:Below w.heap.size w w1:=by rw[<-hw1];exact(Below.refl _ _).drew.alloc nl _
 have hXl:(xs.take (i*5)++Z).length=cap*5:=by rw[List.length_append,hpl,hZl];omega
 have hvl:=blk_lt hv;have hv1:w1.heap[v]?=some (.cells ns.toArray tV (0,0)):=(hb1.block v hvl).trans hv;have hS1:∀wq,(Instr.slice 33 (.slice (some ⟨w.heap.size,0,none⟩) (c+1) cap) (some (iv (i:Int))) none none).run Tryz.prog wq=.ok (.slice (some ⟨w.heap.size,i*5,none⟩) (c+1-i) (cap-i)) wq:=fun wq=>by
  have k1:¬cap=i:=by omega
  have k1:(i:Int)<=(c:Int)+1:=by omega
  go_simp
 have hC1:∀ty dc,(Builtin.copy_ #[33,33] ty #[.slice (some ⟨w.heap.size,i*5,none⟩) (c+1-i) dc,.slice (some ⟨v,0,none⟩) 1 vc]).run Tryz.prog w1=.ok (goInt (Nat.min 1 (c+1-i))) (w1.setRow w.heap.size (over (xs.take (i*5)++Z) (i*5) ns).toArray):=fun ty dc=>
  run_copy_rowN w1 33 33 ty 61 w.heap.size (i*5) (c+1-i) dc ⟨v,0,none⟩ 1 vc _ 61 ns 5 Tryz.underlying33 (by kernel_rfl) hg1 (by rw[hns];simp only[Nat.min_def];split<;>omega)
   (fun j u hj=>by
     rw[addr_plus,cell_of_row _ _ _ _ _ _ hv1];simpa using hj) (by omega) h1
 obtain⟨w2,hw1⟩:=eX (w1.setRow w.heap.size (over (xs.take (i*5)++Z) (i*5) ns).toArray);have hol:=over_len (xs.take (i*5)++Z) (i*5) ns (by omega);have hg2:w2.heap[w.heap.size]?=some (.cells (over (xs.take (i*5)++Z) (i*5) ns).toArray 61 (0,0)):=by rw[<-hw1];exact setRow_heap w1 _ _ _ _ _ hg1
 have hb2:Below w.heap.size w w2:=by rw[<-hw1];exact below_row hb1 nl _
 have hS1:∀wq,(Instr.slice 33 (.slice (some ⟨w.heap.size,0,none⟩) (c+1) cap) (some (iv ((i:Int)+1))) none none).run Tryz.prog wq=.ok (.slice (some ⟨w.heap.size,(i+1)*5,none⟩) (c-i) (cap-(i+1))) wq:=fun wq=>by
  have k1:¬cap=i+1:=by omega
  have k1:(i:Int)+1<=(c:Int)+1:=by omega
  have k1:c+1-(i+1)=c-i:=by omega
  exact x9zw
 have HS1:=qH hS1;have HS2:=qH hS4;have hdl:(xs.drop (i*5)).length=(c-i)*5:=by simp;omega
 have hC1:∀ty dc sc,(Builtin.copy_ #[33,33] ty #[.slice (some ⟨w.heap.size,(i+1)*5,none⟩) (c-i) dc,.slice (some ⟨g,i*5,none⟩) (c-i) sc]).run Tryz.prog w2.drew=.ok (goInt (Nat.min (c-i) (c-i))) (w2.drew.setRow w.heap.size (over (over (xs.take (i*5)++Z) (i*5) ns) ((i+1)*5) (xs.drop (i*5))).toArray):=fun ty dc sc=>
  run_copy_rowN w2.drew 33 33 ty 61 w.heap.size ((i+1)*5) (c-i) dc ⟨g,i*5,none⟩ (c-i) sc _ 61 (xs.drop (i*5)) 5 Tryz.underlying33 (by kernel_rfl) hg2 (by rw[hdl];simp)
   (fun j u hj=>by
     rw[addr_plus];rw[List.getElem?_drop]at hj;exact hcell w2.drew (fun k hk=>hb2.block k hk) _ _ hj) (by omega) (fun u hu=>h2 u (List.mem_of_mem_drop hu))
 have HC1:=qH hC1;have HEND:Hid (InsRet w base c (some ⟨g,0,none⟩) (xs.take (i*5)++ns++xs.drop (i*5)) (.returned (.slice (some ⟨w.heap.size,0,none⟩) (c+1) cap)) (w2.drew.setRow w.heap.size (over (over (xs.take (i*5)++Z) (i*5) ns) ((i+1)*5) (xs.drop (i*5))).toArray)):=qH (by
  have hol1:=over_len (over (xs.take (i*5)++Z) (i*5) ns) ((i+1)*5) (xs.drop (i*5)) (by omega);have hin:=ins_grown xs Z ns (i*5) (c*5) 5 (by omega) hxl hns (by omega);rw[show i*5+5=(i+1)*5 by omega]at hin;refine⟨some ⟨w.heap.size,0,none⟩,cap,rfl,⟨by simp;omega,Or.inr ⟨w.heap.size,cap,_,rfl,hb,setRow_heap w2.drew _ _ _ _ _ hg2,by omega,hG1,by simp;omega,?_⟩⟩,?_,?_,.inr (fun k hk=>by injection hk with hk;have hk:w.heap.size=k:=hk;omega)⟩
  ·rw[<-hin];simp;congr 1;omega
  ·exact below_row (hb2.drew.mono hb) hb _
  intro k hk hne;rw[setRow_other w2.drew w.heap.size k _ (by omega)];exact hb2.block k hk)
 clear hS4 hS1 hC1 hg1 hv1 hol hdl h2 h1 hv hxl hg2 hcell hsrc hpl hXl hb1 hb2 hvl;have hS1:=HS2.out;go_enter Tryz.func146,Tryz.ntmps146;go_wp2_with (at_builtin;refine Lib.wpList_append_run _ rfl _ _ _ _ rfl _ _ rfl rfl _ _ (hr _) ?_);refine wM (some 46::some 47::some 48::some 49::some 50::some 51::some 52::some 53::some 54::[]) (none::none::none::none::none::none::none::none::some 0::[]) (.slice (some ⟨w.heap.size,0,none⟩) (c+1) cap::iv (i:Int)::iv 1::iv ((i:Int)+1)::.slice (some ⟨w.heap.size,(i+1)*5,none⟩) (c-i) (cap-(i+1))::.slice (some ⟨g,0,none⟩) c c::iv (i:Int)::.slice (some ⟨g,i*5,none⟩) (c-i) (c-i)::undef::[]) 1 (insJ w2 (w2.setRow w.heap.size (over (over (xs.take (i*5)++Z) (i*5) ns) ((i+1)*5) (xs.drop (i*5))).toArray)) 95 (rfl) ?_ ?_
 ·refine⟨?_,?_,?_,?_,?_,?_,?_,?_,?_,trivial⟩
  ·intro done cv k1 a wq hw h hJ hn;have e1:=mO 9 (.slice (some ⟨w.heap.size,0,none⟩) (c+1) cap) h;exact mx_move (ch_ev e1)
  ·exact x4n4
  ·exact x8ew
  ·intro done cv k1 a wq hw h hJ hn;have e1:=mN 1 47 h hw;have e48:=mN 2 48 h hw;have h1:=HWI.out;go_simp
  ·intro done cv k1 a wq hw h hJ hn;have e1:=mN 0 46 h hw;have e49:=mN 3 49 h hw;have h1:=HS1.out;go_simp
  ·intro done cv k1 a wq hw h hJ hn;have e1:=mO 0 (.slice (some ⟨g,0,none⟩) c c) h;exact mx_move (ch_ev e1)
  ·exact x4n4
  ·intro done cv k1 a wq hw h hJ hn;have e1:=mN 5 51 h hw;have e52:=mN 6 52 h hw;have h1:=HS2.out;go_simp
  ·intro done cv a wq hw h hJ;have e1:=mN 4 50 h hw;have e53:=mN 7 53 h hw;obtain rfl:wq=w2.drew:=hJ;refine wp_copyN (.tmp 50) (.tmp 53) 33 33 rfl _ _ (ch_ev e1) (ch_ev e53) (HC1.out _ _ _) ⟨_,rfl,?_⟩;exact⟨rfl,trivial⟩
 intro cv w1 hJ;obtain⟨rfl,-⟩:=hJ;simp only[mixAll,pA,mA,Nat.reduceAdd];go_wp2_with fail;go_ret;exact HEND.out
theorem insChunks_calls(A:OA)(n c i:Nat)(xs:List Value)(v:Nat)(ns:List Value)(tV:TypeId)(w:World)(base:Nat)(hO:Own w base 61 5 A n c xs)(hns:ns.length=5)(hv:w.heap[v]?=some (.cells ns.toArray tV (0,0)))(hvg:A.map (·.block)≠some v)(h1:∀u∈ns,u.oneCell'=true)(h2:∀u∈xs,u.oneCell'=true)(hb:base<=w.heap.size)(hn:n<=1000)(hi:i<=n):
  Calls Tryz.prog 146 #[.slice A n c,iv i,.slice (some ⟨v,0,none⟩) 1 1] w (InsRet w base n A (xs.take (i*5)++ns++xs.drop (i*5))):=by
 have hsv:Src w (some ⟨v,0,none⟩) ns:=by
  intro j hj;refine⟨v,0,rfl,blk_lt hv,?_⟩;rw[cell_of_row _ _ _ _ _ _ hv];simp[hj]
 have hxl:=hO.len;rcases hO.2 with ⟨hv0,h0⟩|⟨g,cap,cur,hv0,hbg,hgc,hncap,hmax,hcs,hxs⟩
 ·injection hv0 with e1 e2 e3;subst e1 e2 e3;obtain rfl:i=0:=by omega
  have hx1:xs=[]:=List.eq_nil_of_length_eq_zero (by omega);subst hx1;simpa using insEnd0_calls ⟨v,0,none⟩ 1 ns w base hns hsv h1 hb
 injection hv0 with e1 e2 e3;subst e1;rcases Nat.lt_or_ge i n with hlt|hge
 ·rcases Nat.lt_or_ge c (n+1)with hc|hc
  ·exact insGrow_calls g n c i xs v 1 ns tV w base hO hns hv h1 h2 hb hn hlt hc
  ·exact insRoom_calls g n c i xs v 1 ns tV w base hO hns hv (fun e=>hvg (by rw[e];rfl)) h1 h2 hb hn hlt hc
 obtain rfl:i=n:=by omega
 rw[List.take_of_length_le (by omega),List.drop_eq_nil_of_le (by omega),List.append_nil];exact insEnd_calls g i c xs ⟨v,0,none⟩ 1 ns w base hO hns hsv h1 hb hn
theorem lined_len:∀(l:List Chk) (q:Chk),chkCheck q=0->Lined (some q) l->(l.length:Int)<=51-q.n
 |[],q,hq,_=>by
  have h:=(chkCheck_ok.1 hq).1;unfold Chk.range at h;simp only[List.length_nil];omega
 |c::l,q,hq,h=>by
  unfold Lined at h;have ih:=lined_len l c h.1 h.2.2;have h2:=(h.2.1 q rfl).2;simp only[List.length_cons];omega
theorem chkList_len(h:chkList l=0):l.length<=52:=by
 unfold chkList at h;rw[listGo_ok]at h;rcases l with _|⟨c,l⟩
 ·simp
 unfold Lined at h;have h1:=lined_len l c h.1 h.2.2;have h1:=(chkCheck_ok.1 h.1).1;unfold Chk.range at h1;simp only[List.length_cons];omega
theorem insAt_is{n:Int}(hk:k<=l.length)(h1:∀(j:Nat) (h:j<l.length),j<k->l[j].n<n)(h2:∀h:k<l.length,¬l[k].n<n):insAt l n=k:=by
 unfold insAt;have e:l.takeWhile (fun c=>decide (c.n<n))=l.take k:=by
  conv=>lhs;rw[<-List.take_append_drop k l]
  rw[List.takeWhile_append_of_pos (fun a ha=>by
   obtain⟨j,hj,rfl⟩:=List.mem_iff_getElem.1 ha;simp only[List.length_take]at hj;simp only[List.getElem_take];exact decide_eq_true (h1 j (by omega) (by omega)))]
  rcases Nat.lt_or_ge k l.length with hlt|hge
  ·rw[List.drop_eq_getElem_cons hlt,List.takeWhile_cons_of_neg (by simpa using h2 hlt),List.append_nil]
  rw[List.drop_eq_nil_of_le hge];simp
 rw[e,List.length_take];omega
theorem chkAdd_err1(h:chkList l≠0):chkAdd l c=([],chkList l):=by unfold chkAdd;rw[if_pos h]
theorem chkAdd_err2(h:chkList l=0)(g:chkCheck c≠0):chkAdd l c=([],chkCheck c):=by unfold chkAdd;rw[if_neg (by simpa using h),if_pos g]
theorem chkAdd_other(h:chkList l=0)(g:chkCheck c=0)(hy:l[0]?=some y)(hk:¬kin y c):chkAdd l c=([c],0):=by
 unfold chkAdd;rw[if_neg (by simpa using h),if_neg (by simpa using g)];rcases l with _|⟨x,r⟩
 ·simp at hy
 have e:x=y:=by simpa using hy
 subst e;dsimp only;rw[if_pos hk]
theorem chkAdd_is(h:chkList l=0)(g:chkCheck c=0)(hkin:∀y,l[0]?=some y->kin y c)(hk:k<=l.length)(h1:∀(j:Nat) (h:j<l.length),j<k->l[j].n<c.n)(h2:∀h:k<l.length,¬l[k].n<c.n):
  (∀h:k<l.length,l[k].n=c.n->chkAdd l c=(l,0))∧((∀h:k<l.length,l[k].n≠c.n)->chkAdd l c=(l.take k++c::l.drop k,0)):=by
 have hins:=insAt_is hk h1 h2;obtain⟨hl1,hl2⟩:=chkList_ok.1 h;have hpw:=List.pairwise_iff_getElem.1 hl2;rcases l with _|⟨x,r⟩
 ·refine⟨fun h=>by simp at h,fun _=>?_⟩;unfold chkAdd;rw[if_neg (by simpa using h),if_neg (by simpa using g)];have:k=0:=by simpa using hk
  subst this;rfl
 have hx:=hkin x rfl;refine⟨fun hlt e=>?_,fun hne=>?_⟩
 ·unfold chkAdd;rw[if_neg (by simpa using h),if_neg (by simpa using g)];dsimp only;rw[if_neg (by simpa using hx),if_pos ⟨_,List.getElem_mem hlt,e⟩]
 unfold chkAdd;rw[if_neg (by simpa using h),if_neg (by simpa using g)];dsimp only;rw[if_neg (by simpa using hx),if_neg ?_,hins];rintro⟨y,hy,hyn⟩;obtain⟨j,hj,rfl⟩:=List.mem_iff_getElem.1 hy;rcases Nat.lt_trichotomy j k with hjk|hjk|hjk
 ·have:=h1 j hj hjk;omega
 ·subst hjk;exact hne hj hyn
 have h1:=(hpw k j (by omega) hj hjk).2;have h1:=h2 (by omega);omega
theorem own_blk5{e:Option Addr×Nat}(h:w.heap[g]?=some (.cells (chkA x.from_ x.to_ x.n x.of_ e.1 x.data.length e.2) 61 (0,0)))(hb:base<=g):Own w base 61 5 (some ⟨g,0,none⟩) 1 1 (kChk.cell x e):=
 ⟨by simp[kChk],Or.inr ⟨g,1,_,rfl,hb,h,nl,by unfold maxLen;omega,by simp[chkA],by simp[kChk,chkA]⟩⟩
theorem grow_one{e:Option Addr×Nat}(h:w.heap[g]?=some (.cells (chkA x.from_ x.to_ x.n x.of_ e.1 x.data.length e.2) 61 (0,0)))(hb:base<=g)(hd:Bts w e.1 x.data)(hd2:x.data.length<=e.2)(hne:∀k,e.1.map (·.block)=some k->k≠g):GRow kChk w base [x] [e] (some ⟨g,0,none⟩) 1:=
 ⟨rfl,by rw[cells_one];exact own_blk5 h hb,fun i o d h1 h2=>by
   match i with
   |0=>
    have e1:x=o:=by simpa using h1
    have e2:e=d:=by simpa using h2
    subst e1 e2;exact⟨hd,hd2⟩
   |i+1=>simp at h1,fun i o d h1 h2 hx k hk e3=>by
   match i with
   |0=>
    have e2:e=d:=by simpa using h2
    subst e2;have e4:g=k:=by simpa using e3
    exact hne k hk e4.symm
   |i+1=>simp at h1⟩
theorem each_one{e:Option Addr×Nat}{P:Nat->Prop}(h:∀k,e.1.map (·.block)=some k->P k):Each kChk [x] [e] P:=fun i o d h1 h2 hx k hk=>by
 match i with
 |0=>
  have e2:e=d:=by simpa using h2
  subst e2;exact h k hk
 |i+1=>simp at h1
theorem GRow.chkAt{c:Nat}(h:GRow kChk w base l ds (some ⟨g,0,none⟩) c){i:Nat}(hi:l[i]?=some x):∃B d,ChkAt w g (i*5) x B d:=by
 have hil:=(List.getElem?_eq_some_iff.1 hi).1;have hd:ds[i]?=some (ds[i]'(by rw[h.len];exact hil)):=List.getElem?_eq_getElem _;have hc:∀j,j<5->w.cell? ⟨g,i*5+j,none⟩=(kChk.cell x (ds[i]'(by rw[h.len];exact hil)))[j]?:=fun j hj=>by
  rw[h.row.cellAt _ (show i*5+j<l.length*5 by omega)];exact cells_at (K:=kChk) l ds h.len i j x _ hi hd hj
 exact⟨_,_,hc 0 (by decide),hc 1 (by decide),hc 2 (by decide),hc 3 (by decide),hc 4 (by decide)⟩
theorem ins_at{α:Type}{l:List α}{x o:α}{i:Nat}(hk:k<=l.length)(h:(l.take k++x::l.drop k)[i]?=some o):(i<k∧l[i]?=some o)∨(i=k∧o=x)∨(k<i∧l[i-1]?=some o):=by
 rcases Nat.lt_trichotomy i k with hi|hi|hi
 ·rw[List.getElem?_append_left (by simp;omega),List.getElem?_take,if_pos hi]at h;exact .inl ⟨hi,h⟩
 ·subst hi;rw[List.getElem?_append_right (by simp;omega)]at h;have:i-(l.take i).length=0:=by simp;omega
  rw[this]at h;simp at h;exact .inr (.inl ⟨rfl,h.symm⟩)
 rw[List.getElem?_append_right (by simp;omega)]at h;have:i-(l.take k).length=(i-k-1)+1:=by simp;omega
 rw[this,List.getElem?_cons_succ,List.getElem?_drop]at h;exact .inr (.inr ⟨hi,by rw[show i-1=k+(i-k-1) by omega];exact h⟩)
theorem GRow.ins{w':World}{B:Nat}{A':OA}{c c':Nat}{e:Option Addr×Nat}(h:GRow kChk w base l ds A c)(hk:k<=l.length)
  (h1:Own w' base 61 5 A' (l.length+1) c' ((kChk.cells l ds).take (k*5)++kChk.cell x e++(kChk.cells l ds).drop (k*5))) (hb:Below B w w') (hkk:∀k,k<w.heap.size->A.map (·.block)≠some k->w'.heap[k]?=w.heap[k]?) (h3:A'.map (·.block)=A.map (·.block)∨∀k,A'.map (·.block)=some k->w.heap.size<=k)
  (hd:Bts w e.1 x.data) (hd2:x.data.length<=e.2) (hd3:x.data≠[]->∀k,e.1.map (·.block)=some k->A.map (·.block)≠some k):GRow kChk w' base (l.take k++x::l.drop k) (ds.take k++e::ds.drop k) A' c':=by
 have hlen:=h.len;have hc:=cells_take (K:=kChk) l ds hlen k hk;refine h.remake (by simp;omega) ?_ hb hkk h3 fun i o d hi hd'=>?_
 ·have e1:kChk.cells (l.take k++x::l.drop k) (ds.take k++e::ds.drop k)=(kChk.cells l ds).take (k*5)++kChk.cell x e++(kChk.cells l ds).drop (k*5):=by
   rw[cells_append _ _ _ _ (by simp;omega),show kChk.cells (x::l.drop k) (e::ds.drop k)=kChk.cell x e++kChk.cells (l.drop k) (ds.drop k) from rfl,hc.1,hc.2,List.append_assoc];rfl
  rw[e1,show (l.take k++x::l.drop k).length=l.length+1 by simp;omega];exact h1
 rcases ins_at hk hi with ⟨h4,h5⟩|⟨h4,h5⟩|⟨h4,h5⟩
 ·rcases ins_at (by omega) hd' with ⟨_,h7⟩|⟨h6,_⟩|⟨h6,_⟩
  ·exact .inl ⟨i,h5,h7⟩
  ·omega
  ·omega
 ·rcases ins_at (by omega) hd' with ⟨h6,_⟩|⟨_,h7⟩|⟨h6,_⟩
  ·omega
  ·subst h5 h7;exact .inr ⟨hd,hd2,hd3⟩
  ·omega
 rcases ins_at (by omega) hd' with ⟨h6,_⟩|⟨h6,_⟩|⟨_,h7⟩
 ·omega
 ·omega
 exact .inl ⟨i-1,h5,h7⟩
theorem Each.ins{e:Option Addr×Nat}{P:Nat->Prop}(h:Each kChk l ds P)(hl:ds.length=l.length)(hk:k<=l.length)(hd:∀k,e.1.map (·.block)=some k->P k):Each kChk (l.take k++x::l.drop k) (ds.take k++e::ds.drop k) P:=fun i o d hi hd' hx q hq=>by
 rcases ins_at hk hi with ⟨h4,h5⟩|⟨h4,h5⟩|⟨h4,h5⟩
 ·rcases ins_at (by omega) hd' with ⟨_,h7⟩|⟨h6,_⟩|⟨h6,_⟩
  ·exact h i o d h5 h7 hx q hq
  ·omega
  ·omega
 ·rcases ins_at (by omega) hd' with ⟨h6,_⟩|⟨_,h7⟩|⟨h6,_⟩
  ·omega
  ·subst h7;exact hd q hq
  ·omega
 rcases ins_at (by omega) hd' with ⟨h6,_⟩|⟨h6,_⟩|⟨_,h7⟩
 ·omega
 ·omega
 exact h (i-1) o d h5 h7 hx q hq
theorem x4n0(h:Y:=by
 go_quiet (fail)
 go_wp2_with fail;go_meet
 case rel=>exact⟨by rw[hres],qH (below_drewN _ _)⟩):Y:=h
theorem row_add{w2 w':World}{P:Nat->Prop}{out:List Chk}{C:OA}{cc:Nat}{D:OA}{d:Nat}{C1:OA}{cc1:Nat}{o:Obj}(h:GRow kChk w2 base out ds C cc)(hE:Each kChk out ds P)(hB0:∀q,P q->q<base)(hy:ChkIn w2 y D d)(hD:kChk.dat y≠[]->∀q,D.map (·.block)=some q->P q)
  (hown:Own w' base 61 5 C1 (out.length+1) cc1 (kChk.cells out ds++kChk.cell y (D,d))) (hgr:(w2.alloc o).grownBy w' (C.map (·.block))) (hbel:Below base (w2.alloc o) w') (hor:C1.map (·.block)=C.map (·.block)∨C1.map (·.block)=some (w2.alloc o).heap.size):
  GRow kChk w' base (out++[y]) (ds++[(D,d)]) C1 cc1∧Each kChk (out++[y]) (ds++[(D,d)]) P:=by
 have hb:=(bW w2).alloc nl o;refine⟨(h.below hb).push (o:=y) (d:=(D,d)) hown hbel (fun k hk hn=>hgr.block k hk (fun e=>hn e.symm)) ?_ (hy.data.stays hb) hy.cap (fun hx q e e2=>by have h1:=hB0 _ (hD hx q e);have h2:=(h.row.block q e2).1;omega),hE.push h.len hD⟩;rcases hor with h|h
 ·exact .inl h
 exact x55s
theorem pick_succ(l:List Chk)(c:Chk)(k:Nat):(List.range (k+1)).flatMap (fun (j:Nat)=>pickN l c (j:Int))=(List.range k).flatMap (fun (j:Nat)=>pickN l c (j:Int))++pickN l c (k:Int):=by
 rw[List.range_succ,List.flatMap_append];simp
theorem GRow.freshB{α:Type}{K:Kd α}{v:World}{P:Nat->Prop}{l:List α}{c:Nat}(h:GRow K w base l ds A c)(hn:Each K l ds P)(hv:∀k,P k∨base<=k->k<w.heap.size->v.heap[k]?=w.heap[k]?):GRow K v base l ds A c:=by
 have hlt:∀k,P k∨base<=k->k<w.heap.size->k<v.heap.size:=fun k h1 h2=>by
  exact x1s0
 refine⟨h.len,own_fresh h.row (fun k h1=>hv k (.inr h1)),fun i o d h1 h2=>⟨fun j hj=>?_,(h.data i o d h1 h2).2⟩,h.off⟩;obtain⟨b,o1,e1,hl1,hc⟩:=(h.data i o d h1 h2).1 j hj;have hx:K.dat o≠[]:=fun e=>by rw[e]at hj;simp at hj
 have hbb:=hn i o d h1 h2 hx b (by rw[e1];rfl);exact⟨b,o1,e1,hlt b (.inl hbb) hl1,(World.cell?_of_block (hv b (.inl hbb) hl1)).trans hc⟩
def AdRet(S:Nat->Prop)(w:World)(l:List Chk)(n:Int):Ending->World->Prop:=fun en w'=>
 ∃A c,en=.returned (.tuple #[.slice A l.length c,iv n])∧l.length<=c∧Below w.heap.size w w'∧On (fun k=>S k∧k<w.heap.size∨w.heap.size<=k) w' (fun v=>Chs v A l)
def otherB(l:List Chk)(x:Chk):Bool:=match l with
 |[]=>false
 |y::_=>decide (¬kin y x)
theorem otherB_at(h:l[0]?=some y):otherB l x=decide (¬kin y x):=by
 rcases l with _|⟨z,r⟩
 ·simp at h
 simp at h;subst h;rfl
theorem refAdded_calls(A B:OA)(c d:Nat)(l:List Chk)(x:Chk)(S:Nat->Prop)(w:World)(hl:l.length<=2513169434843)(hs:On S w (fun v=>Chs v A l))(hx:On S w (fun v=>ChkIn v x B d)):
  Calls Tryz.prog 92 #[.slice A l.length c,.agg (chkA x.from_ x.to_ x.n x.of_ B x.data.length d)] w (AdRet S w (chkAdd l x).1 (chkAdd l x).2):=by
 have HS:=qH hs;have HX:=qH hx;have K1:=qH (fun w h=>refChkList_calls A c l w hl h);have K2:=qH (fun w=>refChkCheckX_calls B d x w ⟨hx.now.i2,hx.now.i3⟩);have hba:=(bW w).alloc nl (.cells (chkA x.from_ x.to_ x.n x.of_ B x.data.length d) 61);have HBA:=qH hba;clear hs hx hba;obtain⟨r,hr⟩:=eX (chkAdd l x);rw[hr];have HR:=qH hr;clear hr;go_enter Tryz.func92,Tryz.ntmps92;go_wp2_with fail;refine(K1.out _ (HS.out.at_ HBA.out)).mono ?_;rintro e w1 ⟨rfl,hb⟩;obtain⟨a0r,a0f,a0n,a0c,a0z,a0l⟩:=kp (w.heap.size) (chkA x.from_ x.to_ x.n x.of_ B x.data.length d) hb;have HB1:=bT HBA hb;clear hb;by_cases he1:chkList l≠0
 ·have hz:=HR.out.symm.trans (chkAdd_err1 (c:=x) he1);have q:(chkList l !=0)=true:=by simp[he1]
  generalize chkList l=e1 at *
  clear he1 HR;go_wp2_with fail;go_ret2;rw[hz];exact⟨none,0,rfl,nl,HB1.out,.const fun v=>Chs.nil v _⟩
 have he1:=Decidable.not_not.1 he1;rw[he1];go_wp2_with fail;refine(K2.out _).mono ?_;rintro e w1 ⟨rfl,hb⟩;obtain⟨a0r,a0f,a0n,a0c,a0z,a0l⟩:=kp (w.heap.size) (chkA x.from_ x.to_ x.n x.of_ B x.data.length d) hb;have HB2:=bT HB1 hb;clear hb HB1;by_cases he2:chkCheck x≠0
 ·have hz:=HR.out.symm.trans (chkAdd_err2 he1 he2);have q:(chkCheck x !=0)=true:=by simp[he2]
  generalize chkCheck x=e2 at *
  clear he1 he2 HR;go_wp2_with fail;go_ret2;rw[hz];exact⟨none,0,rfl,nl,HB2.out,.const fun v=>Chs.nil v _⟩
 have he2:=Decidable.not_not.1 he2;rw[he2];have hr1:=refAdd_is he1 he2;have hbd:∀y∈(chkAdd l x).1,ChkB y:=by
  obtain⟨k1,_,_⟩:=add_again he1 he2;intro y hy;obtain⟨⟨h1,h2,h3,h4,h5,h6,h7,h8⟩,_,h9,_⟩:=chkCheck_ok.1 ((chkList_ok.1 k1).1 y hy);refine⟨by omega,⟨?_,?_⟩,⟨?_,?_⟩,⟨?_,?_⟩,⟨?_,?_⟩⟩<;>omega
 rw[<-hr1]at hbd;have hres:r=(refAdd l x,0):=by rw[<-HR.out];exact Prod.ext hr1.symm (chkAdd_ok he1 he2).1
 have HRES:=qH hres;unfold refAdd at hbd HRES;have HBD:=qH hbd;have hll:=chkList_len he1;have hxn:I64 x.n:=HX.out.now.i2;clear hbd hr1 he1 he2 hl HR K1 K2 hres;have HRF:=qH (And.intro a0r a0f);go_upto_region 7 with fail
 go_cut [50] (fun v wx=>v=.bool (otherB l x)∧Hid (Below w1.heap.size w1 wx))
 case first=>
  rcases Nat.eq_zero_or_pos l.length with hl0|hlp
  ·have hn:=List.eq_nil_of_length_eq_zero hl0;have hres:otherB l x=false:=by rw[hn];rfl
   subst hn;exact x4n0
  obtain⟨b,o,By,dy,rfl,hbl,hat,-⟩:=HS.out.now.chk hlp;have h1:l[0]?=some l[0]:=List.getElem?_eq_getElem hlp;have HO:=qH (otherB_at (x:=x) h1);obtain⟨y,hy⟩:=eX (l[0]);rw[hy]at hat HO;rw[Nat.zero_mul,Nat.add_zero]at hat;obtain⟨y5,y1,y2,y3,y4⟩:=hat.stays hbl HB2.out;have q4:(0:Int)<(l.length:Int):=by omega
  have q4:¬(l.length:Int)<=0:=by omega
  have nb2:¬l.length=0:=by omega
  have nb1:¬l=[]:=fun e=>by rw[e]at hlp;simp at hlp
  clear hy h1 hat;by_cases c1:x.from_=y.from_
  ·by_cases c2:x.to_=y.to_
   ·by_cases c3:x.of_=y.of_
    ·have hres:otherB l x=false:=by rw[HO.out];exact decide_eq_false (fun h=>h ⟨c1.symm,c2.symm,c3.symm⟩)
     have q1:(x.from_ !=y.from_)=false:=by simp[c1]
     have q1:(x.to_ !=y.to_)=false:=by simp[c2]
     have q1:(x.of_ !=y.of_)=false:=by simp[c3]
     clear c1 c2 c3;exact x4n0
    ·have hres:otherB l x=true:=by rw[HO.out];exact decide_eq_true (fun h=>c3 h.2.2.symm)
     have q1:(x.from_ !=y.from_)=false:=by simp[c1]
     have q1:(x.to_ !=y.to_)=false:=by simp[c2]
     have q1:(x.of_ !=y.of_)=true:=by simp[c3]
     clear c1 c2 c3;exact x4n0
   ·have hres:otherB l x=true:=by rw[HO.out];exact decide_eq_true (fun h=>c2 h.2.1.symm)
    have q1:(x.from_ !=y.from_)=false:=by simp[c1]
    have q1:(x.to_ !=y.to_)=true:=by simp[c2]
    clear c1 c2;exact x4n0
  have hres:otherB l x=true:=by rw[HO.out];exact decide_eq_true (fun h=>c1 h.1.symm)
  have q1:(x.from_ !=y.from_)=true:=by simp[c1]
  clear c1;exact x4n0
 case rest=>
 obtain⟨rfl,hb⟩:=hcut;have HB1:=bT HB2 hb.out;have HRF1:Hid (rowOf wc w.heap.size=chkA x.from_ x.to_ x.n x.of_ B x.data.length d∧frOf wc w.heap.size=(0,0)):=qH (by
  obtain⟨q1,q2,_⟩:=keep1 (g:=w.heap.size) (cs:=chkA x.from_ x.to_ x.n x.of_ B x.data.length d) hb.out HRF.out.1 (by go_simp) HRF.out.2;exact⟨q1,q2⟩)
 clear hb HB2 HRF a0r a0f a0n a0c a0z a0l;obtain⟨w1,hw1⟩:=eX (wc);subst hw1;obtain⟨m,hm⟩:=eX (ofKin l x);rw[hm]at HBD HRES;have HMK:=qH hm;clear hm;go_upto_if 50 with fail
 go_cut [0] (fun v wx=>wc=wx∧∃A' c',v=.slice A' m.length c'∧m.length<=2513169434843∧Hid (On S w (fun v=>Chs v A' m)))
 case first=>
  cases hob:otherB l x
  ·go_wp2_with fail;go_meet
   case rel=>
    have hm:l=m:=by
     rw[<-HMK.out];rcases l with _|⟨y,t⟩
     ·rfl
     exact(if_pos (by simpa[otherB]using hob)).symm
    exact⟨rfl,A,c,by rw[hm],by rw[<-hm];omega,by rw[<-hm];exact HS⟩
  go_wp2_with fail;go_meet
  case rel=>
   have hm:m=[]:=by
    rw[<-HMK.out];rcases l with _|⟨y,t⟩
    ·rfl
    exact if_neg (by simpa[otherB]using hob)
   exact⟨rfl,none,0,by rw[hm];rfl,by rw[hm];simp,by rw[hm];exact qH (On.const fun v=>Chs.nil v _)⟩
 case rest=>
 obtain⟨hwx,A',c',rfl,hml,HM⟩:=hcut;subst hwx;rename World=>w1;have hs1:=HB1.out.size;have hsw:∀q,S q∧q<w.heap.size->q<w1.heap.size:=fun q h=>Nat.lt_of_lt_of_le h.2 hs1;clear HS HMK;go_wp2_with fail;go_loopw [51,8] (fun i v wr=>∃(k:Nat) (out:List Chk) (ds:List (Option Addr×Nat)) (C:OA) (cc:Nat),k<=52∧i=iv k∧v=.slice C out.length cc∧Hid (out=(List.range k).flatMap (fun (j:Nat)=>pickN m x (j:Int)))∧out.length<=k∧Hid (GRow kChk wr w1.heap.size out ds C cc)∧Hid (Each kChk out ds (fun q=>S q∧q<w.heap.size))∧Hid (Below w1.heap.size w1 wr)) (fun i _ _=>52-(intOf i).toNat)
 case atStart=>exact⟨0,[],[],none,0,by omega,rfl,rfl,qH rfl,by simp,qH (GRow.nil _ _),qH Each.nil,qH (Below.refl _ _)⟩
 case round=>
  rename World=>wr;obtain⟨k,out,ds,C,cc,hk,rfl,rfl,HO,hol,HR,HE,HB⟩:=hrel;have hsr:=HB.out.size;have HBW:=qH (HB1.out.trans (HB.out.mono hs1));obtain⟨a0r,a0f,a0n,a0c,a0z,a0l⟩:=keep1 (g:=w.heap.size) (cs:=chkA x.from_ x.to_ x.n x.of_ B x.data.length d) HB.out HRF1.out.1 (by go_simp) HRF1.out.2;by_cases hlt:k<52
  ·have dl:decide ((k:Int)<52)=true:=decide_eq_true (by omega);have hwk:IntKind.i64.wrap ((k:Int)+1)=(k:Int)+1:=IntWalk.i64_in _ (by omega);have hbn:=(bW wr).alloc nl (.cells #[iv (k:Int)] 3);have HBN:=qH (HB.out.trans (hbn.mono hsr));have K1:=qH (raN_idx A' c' wr.heap.size m (k:Int) (wr.alloc (.cells #[iv (k:Int)] 3)) hml (HM.out.at_ (HBW.out.trans (hbn.mono HBW.out.size))) (by simp) (by rw[cell_of_row _ _ _ _ _ _ (blk_top rfl)];rfl));have HR1:=qH (HR.out.below hbn);have HPS:=qH (pick_succ m x k);clear hbn;rcases idxR_spec (fun z=>isN z (k:Int)) m 0 with ⟨hf1,hf2⟩|⟨j,y,hj,hf2,hf1⟩
   ·rw[hf2]at K1;have hpk:pickN m x (k:Int)=if (k:Int)=x.n then [x] else []:=by unfold pickN;rw[atN_isN,hf1]
    rw[hpk]at HPS;clear hpk hf1 hf2;go_wp2_with fail;refine K1.out.mono ?_;rintro e w2 ⟨rfl,hb1⟩;have b1:=kp (w.heap.size) (chkA x.from_ x.to_ x.n x.of_ B x.data.length d) hb1;have n1:=kp (wr.heap.size) (#[iv (k:Int)]) hb1;have HB2:=bT HBN hb1;have HR1:=qH (HR1.out.below hb1);have hs2:=HB2.out.size;clear hb1 a0r a0f a0n a0c a0z a0l;by_cases hkn:(k:Int)=x.n
    ·rw[if_pos hkn]at HPS;have q1:((k:Int)==x.n)=true:=by simp[hkn]
     clear hkn;have hoa:=HR1.out.row.alloc (.cells (chkA x.from_ x.to_ x.n x.of_ B x.data.length d) 61);have hsd:Src (w2.alloc (.cells (chkA x.from_ x.to_ x.n x.of_ B x.data.length d) 61)) (some ⟨w2.heap.size,0,none⟩) (kChk.cell x (B,d)):=by
      have:=src_blk (w:=w2.alloc (.cells (chkA x.from_ x.to_ x.n x.of_ B x.data.length d) 61)) (g:=w2.heap.size) (blk_top rfl);rwa [chkA_list]at this
     have hob:out.length+1<=137438953472:=by omega
     have hle:w1.heap.size<=(w2.alloc (.cells (chkA x.from_ x.to_ x.n x.of_ B x.data.length d) 61)).heap.size:=by simp;omega
     go_wp2_with (at_builtin;go_must (refine wpList_app (w2.alloc (.cells (chkA x.from_ x.to_ x.n x.of_ B x.data.length d) 61)) rfl _ _ 33 rfl elChunks w1.heap.size C out.length cc (kChk.cells out ds) rfl hoa (some ⟨w2.heap.size,0,none⟩) 1 1 (kChk.cell x (B,d)) rfl hsd (by simp[kChk]) (kChk.one _ _) hob hle ?_;intro C1 cc1 w5 hown hgr hbel hor));have hra:=row_add HR1.out HE.out hsw (HX.out.at_ (HB1.out.trans (HB2.out.mono hs1))) (fun h=>(HX.out.imp fun _ h=>h.data).bts_in h) hown hgr hbel hor;have HR1:=qH hra.1;have HE1:=qH hra.2;have HB1:Hid (Below w1.heap.size w1 w5):=qH ((HB2.out.alloc hs2 _).trans hbel);have HL:Hid (out.length+1=(out++[x]).length):=qH (by simp);clear hra hown hgr hbel hor hoa hsd hob hle;go_roundw
     case rel=>exact⟨k+1,out++[x],ds++[(B,d)],C1,cc1,by omega,by go_num,by rw[HL.out],qH (by rw[HPS.out,<-HO.out]),by simp;omega,HR1,HE1,HB1⟩
     case measure=>simp[intOf];omega
    rw[if_neg hkn,List.append_nil]at HPS;have q1:((k:Int)==x.n)=false:=by simp[hkn]
    clear hkn;go_wp2_with fail;go_roundw
    case rel=>exact⟨k+1,out,ds,C,cc,by omega,by go_num,rfl,qH (by rw[HPS.out];exact HO.out),by omega,HR1,HE,HB2⟩
    case measure=>simp[intOf];omega
   rw[hf2]at K1;have hpk:pickN m x (k:Int)=[y]:=by unfold pickN;rw[atN_isN,hf1]
   rw[hpk]at HPS;clear hpk hf1 hf2;have hjl:j<m.length:=(List.getElem?_eq_some_iff.1 hj).1;have hyj:m[j]=y:=by rw[List.getElem?_eq_getElem hjl]at hj;injection hj
   obtain⟨b,o,B1,d1,rfl,hbl,hat,hin⟩:=HM.out.now.chk hjl;have hyd:=fun h=>HM.out.chk_in hjl rfl hat h hin;rw[hyj]at hat hin hyd;have HYD:Hid (kChk.dat y≠[]->∀q,B1.map (·.block)=some q->S q∧q<w.heap.size):=qH hyd;have HYI:=qH hin;have HYA:Hid (∀v,Below w.heap.size w v->ChkAt v b (o+j*5) y B1 d1):=qH (fun v hv=>hat.stays hbl hv);have hj1:(0:Int)<=((0+j:Nat):Int):=by omega
   rw[Nat.zero_add]at K1;clear hj hyj hat hin hj1 hyd;go_wp2_with fail;refine K1.out.mono ?_;rintro e w2 ⟨rfl,hb1⟩;have b1:=kp (w.heap.size) (chkA x.from_ x.to_ x.n x.of_ B x.data.length d) hb1;have HB2:=bT HBN hb1;have HR1:=qH (HR1.out.below hb1);have hs2:=HB2.out.size;obtain⟨z5,z1,z2,z3,z4⟩:=HYA.out w2 (HB1.out.trans (HB2.out.mono hs1));clear hb1 a0r a0f a0n a0c a0z a0l;have hoa:=HR1.out.row.alloc (.cells (chkA y.from_ y.to_ y.n y.of_ B1 y.data.length d1) 61);have hsd:Src (w2.alloc (.cells (chkA y.from_ y.to_ y.n y.of_ B1 y.data.length d1) 61)) (some ⟨w2.heap.size,0,none⟩) (kChk.cell y (B1,d1)):=by
    have:=src_blk (w:=w2.alloc (.cells (chkA y.from_ y.to_ y.n y.of_ B1 y.data.length d1) 61)) (g:=w2.heap.size) (blk_top rfl);rwa [chkA_list]at this
   have hob:out.length+1<=137438953472:=by omega
   have hle:w1.heap.size<=(w2.alloc (.cells (chkA y.from_ y.to_ y.n y.of_ B1 y.data.length d1) 61)).heap.size:=by simp;omega
   go_wp2_with (at_builtin;go_must (refine wpList_app (w2.alloc (.cells (chkA y.from_ y.to_ y.n y.of_ B1 y.data.length d1) 61)) rfl _ _ 33 rfl elChunks w1.heap.size C out.length cc (kChk.cells out ds) rfl hoa (some ⟨w2.heap.size,0,none⟩) 1 1 (kChk.cell y (B1,d1)) rfl hsd (by simp[kChk]) (kChk.one _ _) hob hle ?_;intro C1 cc1 w5 hown hgr hbel hor));have hra:=row_add HR1.out HE.out hsw (HYI.out.stays (HB1.out.trans (HB2.out.mono hs1))) HYD.out hown hgr hbel hor;have HR1:=qH hra.1;have HE1:=qH hra.2;have HB1:Hid (Below w1.heap.size w1 w5):=qH ((HB2.out.alloc hs2 _).trans hbel);have HL:Hid (out.length+1=(out++[y]).length):=qH (by simp);clear hra hown hgr hbel hor hoa hsd hob hle;go_roundw
   case rel=>exact⟨k+1,out++[y],ds++[(B1,d1)],C1,cc1,by omega,by go_num,by rw[HL.out],qH (by rw[HPS.out,<-HO.out]),by simp;omega,HR1,HE1,HB1⟩
   case measure=>simp[intOf];omega
  obtain rfl:k=52:=by omega
  have hfin:=HO.out;have hrs:=HRES.out;rw[<-hfin]at hrs;go_wp2_with fail;go_ret2;rw[hrs];exact⟨C,cc,rfl,HR.out.row.le,HBW.out,fun v _ hv=>(HR.out.freshB HE.out (fun k h1 h2=>hv k (h1.imp id (fun h=>by omega)) h2)).src.chs (by rw[hfin];exact HBD.out)⟩
theorem acts_hear(S:Nat->Prop)(d:Dev)(L:DLoc)(n:Int)(x:Chk)(B:OA)(bc:Nat)(w:World)(hok:DevOk d)(hu:d.up=true)(hd:On S w (fun v=>DevIn v d L))(hx:On S w (fun v=>ChkIn v x B bc)):Calls Tryz.prog 48 #[.agg (devA d L),.agg #[iv 2,iv n],.agg (chkA x.from_ x.to_ x.n x.of_ B x.data.length bc)] w (AcRet S w (devHear d x).1 (devHear d x).2):=by
 have hrec:=rec_ok hok;have hrd:devReady d=0:=by unfold devReady;rw[if_neg (by simpa using devCheck_ok.2 hok),if_neg (by rw[hu];decide)]
 have KN:=qH (fun w=>newest_calls d.c0 d.c1 w);rw[refNewest_ok hok.cops]at KN;obtain⟨rk,hrk⟩:=eX ((recRead d.c0 d.c1).2);have hre:(recRead d.c0 d.c1).1=d.rec_:=rfl;rw[hrk,hre]at KN;clear hrk hre;have hdef:devHear d x=if d.busy=true then (Dev.zero,5)else if (chkAdd d.got x).2≠0 then (Dev.zero,(chkAdd d.got x).2)else ({d with got:=(chkAdd d.got x).1},0):=by
  unfold devHear;rw[if_neg (by omega)]
 have HD:=qH hdef;have HI:=qH hd;have hd':On (fun k=>S k∧k<w.heap.size) w (fun v=>DevIn v d L):=hd.sub (fun k h1 h2=>⟨h2,h1⟩);have hx':On (fun k=>S k∧k<w.heap.size) w (fun v=>ChkIn v x B bc):=hx.sub (fun k h1 h2=>⟨h2,h1⟩);have K1:=qH (fun v (hb:Below w.heap.size w v)=>refAdded_calls L.ag B L.cg bc d.got x (fun k=>S k∧k<w.heap.size) v hd.now.lg ((hd'.below hb).imp fun _ h=>h.got) (hx'.below hb));have hln:(chkAdd d.got x).2=0->(chkAdd d.got x).1.length<=2513169434843:=fun e=>by have:=chkList_len (add_again (chkAdd_zero e).1 (chkAdd_zero e).2).1;omega
 have HLN:=qH hln;obtain⟨⟨l',e1⟩,hl'⟩:∃y,chkAdd d.got x=y:=⟨_,rfl⟩;rw[hl']at K1 HD HLN;dsimp only at K1 HD HLN;generalize devHear d x=res at *
 clear hrec hrd hok hdef hd hx hl' hd' hx' hln;generalize d.rec_=r at *
 go_enter Tryz.func48,Tryz.ntmps48;go_wp2_with fail;refine(KN.out _).mono ?_;rintro e w1 ⟨rfl,hb⟩;have a5:=kp (w.heap.size) (devA d L) hb;have a1:=kp (w.heap.size+1) (#[iv 2,iv n]) hb;have a1:=kp (w.heap.size+1+1) (chkA x.from_ x.to_ x.n x.of_ B x.data.length bc) hb;have a1:=kp (w.heap.size+1+1+1) (devA Dev.zero DLoc.zero) hb;have a2:=kp (w.heap.size+1+1+1+1) (#[.func (Fn.func 88) #[] #[]]) hb;have HB1:Hid (Below w.heap.size w w1):=qH (((((((bW w).alloc nl (.cells (devA d L) 38)).alloc (by simp) (.cells #[iv 2,iv n] 42)).alloc (by simp;omega) (.cells (chkA x.from_ x.to_ x.n x.of_ B x.data.length bc) 61)).alloc (by simp;omega) (.cells (devA Dev.zero DLoc.zero) 38)).alloc (by simp;omega) _).trans (hb.mono (by simp;omega)));clear hb
 cases c1:d.busy
 case true=>
  have hz:=HD.out.trans (if_pos c1);subst hz;clear HD K1 KN;go_wp2_with fail;refine(actsBad_calls 5 _).mono ?_;rintro e wz ⟨rfl,hb⟩;have z1:=kp (w.heap.size+1+1+1) (devA Dev.zero DLoc.zero) hb;have HBZ:=bU HB1 hb;clear hb;go_wp2_with fail;refine bodyPost_ret (rC (devA Dev.zero DLoc.zero)) rfl ⟨DLoc.zero,rfl,.const fun v=>DevIn.zero v,?_⟩;exact below_row HBZ.out (by omega) _
 case false=>
  have HD1:=qH (HD.out.trans (if_neg (by rw[c1];decide)));clear HD KN;go_wp2_with fail;refine(K1.out _ (by have hs:=HB1.out.size;repeat (first|exact HB1.out|refine bA ?_ _))).mono ?_;rintro e w2 ⟨A1,c1,rfl,hc1,hb,ho1⟩;have a3:=kr a5 hb;have a1:=kr a1 hb;have a1:=kr a2 hb;have HB1:=bU HB1 hb;have hsz:w.heap.size+5<=w1.heap.size:=by omega
  have HO1:Hid (On (fun k=>S k∧k<w.heap.size∨w1.heap.size<=k) w2 (fun v=>Chs v A1 l')):=qH (ho1.sub (fun k _ h=>h.elim (fun h=>.inl h.1) (fun h=>.inr (by simp at h;omega))));clear hb K1 ho1;by_cases c2:e1≠0
  ·have hz:=HD1.out.trans (if_pos c2);subst hz;have KD:=qH (fun gb gd w h1 h2=>actsDone_bad e1 gb gd w c2 h1 h2);clear c2 HD1;go_wp2_with fail;refine(KD.out _ _ _ (by go_simp) (by go_simp)).mono ?_;rintro e w1 ⟨rfl,hb⟩;have c3k:=kp (w.heap.size+1+1+1) (devA Dev.zero DLoc.zero) hb;have HB1:=bU HB1 hb;clear hb;go_wp2_with fail;refine bodyPost_ret (rC (devA Dev.zero DLoc.zero)) rfl ⟨DLoc.zero,rfl,.const fun v=>DevIn.zero v,?_⟩;exact below_row HB1.out (by omega) _
  have c2:=Decidable.not_not.1 c2;subst c2;have hz:=HD1.out.trans (if_neg (by decide));have hl1:=HLN.out rfl;subst hz;clear HD1;go_wp2_with fail;refine(actsDone_ok {d with got:=l'} {L with ag:=A1,cg:=c1} _ _ _ (by go_simp) (by go_simp)).mono ?_;rintro e w2 ⟨rfl,hb⟩;have c3k:=kp (w.heap.size+1+1+1) (devA Dev.zero DLoc.zero) hb;have hn1:¬(S w.heap.size∧w.heap.size<w.heap.size∨w1.heap.size<=w.heap.size):=by rintro (h|h)<;>omega
  have hn2:¬(S (w.heap.size+1+1+1)∧w.heap.size+1+1+1<w.heap.size∨w1.heap.size<=w.heap.size+1+1+1):=by rintro (h|h)<;>omega
  have HB1:=bU HB1 hb;have o1:On (fun k=>S k∧k<w.heap.size∨w1.heap.size<=k) w2 (fun v=>Chs v A1 l'):=(HO1.out.cell hn1 _).below hb;have o2:On (fun k=>S k∧k<w.heap.size∨w1.heap.size<=k) w2 (fun v=>DevIn v d L):=(HI.out.sub (fun k h1 h2=>.inl ⟨h2,h1⟩)).below HB1.out;have HIN:Hid (On (fun k=>S k∧k<w.heap.size∨w1.heap.size<=k) w2 (fun v=>DevIn v {d with got:=l'} {L with ag:=A1,cg:=c1})):=qH ((o2.and o1).imp fun v ⟨h,g⟩=>⟨h.k0,h.l0,h.b0,h.k1,h.l1,h.b1,hc1,hl1,g,h.job,h.ir,h.id⟩);clear hb o1 o2 hn1;go_wp2_with fail;refine bodyPost_ret (rC (devA {d with got:=l'} {L with ag:=A1,cg:=c1})) rfl ⟨_,rfl,?_,below_row HB1.out (by omega) _⟩;exact(HIN.out.row hn2 _).sub fun k _ h=>h.elim .inl fun h=>.inr (by omega)
theorem recA_ver(r:Rec)(ha:a<=1):(recA r)[5+a*3]?=some (iv (r.at_ (a:Int)).ver):=by
 match a,ha with
 |0,_=>simp[recA,Rec.at_]
 |1,_=>simp[recA,Rec.at_]
theorem recA_size_(r:Rec)(ha:a<=1):(recA r)[5+a*3+1]?=some (iv (r.at_ (a:Int)).size):=by
 match a,ha with
 |0,_=>simp[recA,Rec.at_]
 |1,_=>simp[recA,Rec.at_]
theorem devSlotA{d:Dev}{L:DLoc}(h:DevIn w d L)(ha:a<=1):∃A c,(devA d L)[a]?=some (.slice A (d.slot (a:Int)).length c)∧(d.slot (a:Int)).length<=c∧Bts w A (d.slot (a:Int)):=by
 match a,ha with
 |0,_=>exact⟨L.a0,L.c0,rfl,h.k0,h.b0⟩
 |1,_=>exact⟨L.a1,L.c1,rfl,h.k1,h.b1⟩
theorem slot_len{d:Dev}(h0:d.s0.length=64)(h1:d.s1.length=64)(k:Int):(d.slot k).length=64:=by unfold Dev.slot;split<;>assumption
theorem at_sizes{r:Rec}(h:recCheck r=0)(k:Int):0<=(r.at_ k).size∧(r.at_ k).size<=64∧0<=(r.at_ k).ver:=by
 obtain⟨_,h1,h3,_⟩:=recCheck_parts h;have key:∀x:Inf,infCheck x=0->0<=x.size∧x.size<=64∧0<=x.ver:=fun x hx=>by
  unfold infCheck at hx;by_cases hh:InfRange x
  ·unfold InfRange at hh;omega
  rw[if_neg hh]at hx;exact absurd hx (by decide)
 unfold Rec.at_;split
 ·exact key _ h1
 exact key _ h3
theorem x7za(h:Y:=by
 exact⟨A,c,by rw[HLEN.out];rfl,by rw[HLEN.out];exact hyc,HB.out.stays HBE.out,HBE.out⟩):Y:=h
def ImRet(w:World)(l:LU):Ending->World->Prop:=fun en w'=>
 ∃A c,en=.returned (.slice A l.length c)∧l.length<=c∧Bts w' A l∧Below w.heap.size w w'
theorem pre_slice{n c:Nat}{z:Int}(y:Nat)(h1:z=(y:Int))(hc:n<=c)(hy:y<=n)(h0:0<n)(hA:∃b o,A=some ⟨b,o,none⟩)(W:World):(Instr.slice 23 (.slice A n c) none (some (iv z)) none).run Tryz.prog W=.ok (.slice A y c) W:=by
 obtain⟨b,o,rfl⟩:=hA;subst h1;have q1:(y:Int)<=(c:Int):=by omega
 have q1:¬c=0:=by omega
 go_simp
theorem image_calls(d:Dev)(L:DLoc)(k:Int)(r:Rec)(w:World)(hk:k=0∨k=1)(h:DevIn w d L)(hl:(d.slot k).length=64)(h0:0<=(r.at_ k).size)(h1:(r.at_ k).size<=64):
  Calls Tryz.prog 75 #[.agg (devA d L),iv k,.agg (recA r)] w (ImRet w (d.image k r)):=by
 obtain⟨a,rfl,ha1⟩:∃a:Nat,k=(a:Int)∧a<=1:=⟨k.toNat,by omega,by omega⟩;obtain⟨y,hy⟩:∃y:Nat,(r.at_ (a:Int)).size=(y:Int):=⟨(r.at_ (a:Int)).size.toNat,by omega⟩;have himg:d.image (a:Int) r=(d.slot (a:Int)).take y:=by unfold Dev.image;rw[hy];rfl
 have hlen:((d.slot (a:Int)).take y).length=y:=by rw[List.length_take];omega
 rw[himg];obtain⟨A,c,p1,p2,p3⟩:=devSlotA h ha1;rw[hl]at p1 p2;obtain⟨b,o,hA,-⟩:=p3 0 (by omega);have HSL:=qH (pre_slice (A:=A) (n:=64) (c:=c) y rfl p2 (by omega) (by decide) ⟨b,o,hA⟩);have HB:=qH (mid_take p3 y);have HLEN:=qH hlen;have hyc:y<=c:=by omega
 have pv:=recA_size_ r ha1;rw[hy]at pv;have HBA:Hid (Below w.heap.size w ((w.alloc (.cells (devA d L) 38)).alloc (.cells (recA r) 29))):=qH ((bL _).alloc (by simp) _);have HP1:=qH p1;have HPV:=qH pv;clear h hy himg hlen p1 p3 hA pv h0 h1 hl hk;go_enter Tryz.func75,Tryz.ntmps75;go_wp2_with fail;have r1:rowOf ((w.alloc (.cells (devA d L) 38)).alloc (.cells (recA r) 29)) w.heap.size=devA d L∧frOf ((w.alloc (.cells (devA d L) 38)).alloc (.cells (recA r) 29)) w.heap.size=(0,0):=by go_simp
 have r2:rowOf ((w.alloc (.cells (devA d L) 38)).alloc (.cells (recA r) 29)) (w.heap.size+1)=recA r∧frOf ((w.alloc (.cells (devA d L) 38)).alloc (.cells (recA r) 29)) (w.heap.size+1)=(0,0):=by go_simp
 obtain⟨w1,hw1⟩:=eX (((w.alloc (.cells (devA d L) 38)).alloc (.cells (recA r) 29)));rw[hw1]at HBA r1 r2⊢;have a1:=keep1 (bW w1) r1.1 (by go_simp) r1.2;have r3:=keep1 (bW w1) r2.1 (by simp[recA]) r2.2;clear hw1 r1 r2;have p1:=HP1.out;have pv:=HPV.out;have k1:(0:Int)<=(a:Int):=by omega
 have k1:(a:Int)<2:=by omega
 have k1:¬(2:Int)<=(a:Int):=by omega
 have hsl:=HSL.out;go_quiet (fail)
 go_wp2_with fail;go_ret;have HBE:Hid (Below w.heap.size w (w1.drewN nq)):=qH (Below.drewN' HBA.out nq);exact x7za
theorem imageOf_calls(d:Dev)(L:DLoc)(w:World)(h:DevIn w d L)(h0:d.s0.length=64)(h1:d.s1.length=64)(hc:copCheck d.c0 d.c1=0):
  Calls Tryz.prog 67 #[.agg (devA d L)] w (ImRet w (d.image d.rec_.active d.rec_)):=by
 have hok:=recRead_ok hc;have hn:=refNewest_ok hc;have hact:=rec_active hok;have KN:=qH (fun w=>newest_calls d.c0 d.c1 w);rw[hn]at KN;have hrec:(recRead d.c0 d.c1).1=d.rec_:=rfl;rw[hrec]at KN hok hact;obtain⟨rk,hrk⟩:=eX ((recRead d.c0 d.c1).2);rw[hrk]at KN;generalize d.rec_=r at *
 obtain⟨a,ha,ha1⟩:∃a:Nat,r.active=(a:Int)∧a<=1:=⟨r.active.toNat,by omega,by omega⟩;obtain⟨z1,z2,_⟩:=at_sizes hok r.active;rw[ha]at z1 z2⊢;obtain⟨y,hy⟩:∃y:Nat,(r.at_ (a:Int)).size=(y:Int):=⟨(r.at_ (a:Int)).size.toNat,by omega⟩;have hsl:=slot_len h0 h1 (a:Int);have himg:d.image (a:Int) r=(d.slot (a:Int)).take y:=by unfold Dev.image;rw[hy];rfl
 have hlen:((d.slot (a:Int)).take y).length=y:=by rw[List.length_take];omega
 rw[himg];obtain⟨A,c,p1,p2,p3⟩:=devSlotA h ha1;rw[hsl]at p1 p2;obtain⟨b,o,hA,-⟩:=p3 0 (by omega);have HSL:=qH (pre_slice (A:=A) (n:=64) (c:=c) y rfl p2 (by omega) (by decide) ⟨b,o,hA⟩);have HB:=qH (mid_take p3 y);have HLEN:=qH hlen;have hyc:y<=c:=by omega
 have pv:=recA_size_ r ha1;rw[hy]at pv;have hba:Below w.heap.size w (w.alloc (.cells (devA d L) 38)):=bL _;have HBA:=qH hba;have HP1:=qH p1;have HPV:=qH pv;have HA:=qH ha;clear h hok hn hact hrec hrk z1 z2 hy hsl himg hlen p1 p3 hA pv hba ha h0 h1 hc;go_enter Tryz.func67,Tryz.ntmps67;go_wp2_with fail;refine(KN.out _).mono ?_;rintro e w1 ⟨rfl,hb1⟩;have a1:=kp (w.heap.size) (devA d L) hb1;have HB1:=bT HBA hb1;clear hb1;go_wp2_with fail;obtain⟨w2,hw1⟩:=eX (w1.alloc (.cells (recA r) 29));have hb1:Below w1.heap.size w1 w2:=by rw[<-hw1];exact bL _
 have hrr:rowOf w2 w1.heap.size=recA r∧frOf w2 w1.heap.size=(0,0):=by rw[<-hw1];exact⟨by rw[rowOf_alloc,if_pos rfl],by rw[frOf_alloc,if_pos rfl]⟩
 have a1:=keep1 (g:=w.heap.size) (cs:=devA d L) hb1 a1.1 (by go_simp) a1.2.1;have r1:=keep1 (bW w2) hrr.1 (by simp[recA]) hrr.2;have HB1:=bT HB1 hb1;rw[hw1];clear hw1 hb1 hrr;have ha:=HA.out;have p1:=HP1.out;have pv:=HPV.out;have k1:(0:Int)<=(a:Int):=by omega
 have k1:(a:Int)<2:=by omega
 have k1:¬(2:Int)<=(a:Int):=by omega
 have hsl:=HSL.out;go_quiet (fail)
 go_wp2_with fail;go_ret;have HBE:Hid (Below w.heap.size w (w2.drewN nq)):=qH (Below.drewN' HB1.out nq);exact x7za
theorem splice_tryIt(r:Rec)(x:Inf){a':Nat}(ha:r.active=(a:Int))(h:a+a'=1):splice (recA ⟨r.gen,(a:Int),true,3,r.floor,r.a,r.b⟩) (5+a'*3) (infA x)=recA (r.tryIt x):=by
 unfold Rec.tryIt Rec.setOther;rcases (show (a=0∧a'=1)∨(a=1∧a'=0) by omega)with ⟨rfl,rfl⟩|⟨rfl,rfl⟩
 ·rw[if_pos (by simp[ha])];simp[splice,recA,infA,ha]
 rw[if_neg (by simp[ha])];simp[splice,recA,infA,ha]
theorem acts_finish7(d:Dev)(L:DLoc)(n f t m o:Int)(B:OA)(bl bc:Nat)(w:World)(hok:DevOk d)(hu:d.up=true):Calls Tryz.prog 48 #[.agg (devA d L),.agg #[iv 7,iv n],.agg (chkA f t m o B bl bc)] w (ActRet w d L (devFinish d false).1 (devFinish d false).2):=by
 have hrec:=rec_ok hok;have hrd:devReady d=0:=by unfold devReady;rw[if_neg (by simpa using devCheck_ok.2 hok),if_neg (by rw[hu];decide)]
 have KN:=qH (fun w=>newest_calls d.c0 d.c1 w);rw[refNewest_ok hok.cops]at KN;obtain⟨rk,hrk⟩:=eX ((recRead d.c0 d.c1).2);have hre:(recRead d.c0 d.c1).1=d.rec_:=rfl;rw[hrk,hre]at KN;clear hrk hre;have hact:=rec_active hrec;have hdef:devFinish d false=if d.busy=false∨d.done<d.job.size then (Dev.zero,5)else if (recWrite d.c0 d.c1 (d.rec_.tryIt ⟨d.job.to_,d.job.size,d.job.new_⟩) false).2≠0 then (Dev.zero,(recWrite d.c0 d.c1 (d.rec_.tryIt ⟨d.job.to_,d.job.size,d.job.new_⟩) false).2)else ({d.write (d.rec_.tryIt ⟨d.job.to_,d.job.size,d.job.new_⟩) false with busy:=false,job:=Pat.zero,done:=0},0):=by
  unfold devFinish;rw[if_neg (by omega)];rfl
 have HD:=qH hdef;have K1:=qH (fun gd w h1 h2=>actsWrite_calls d L (d.rec_.tryIt ⟨d.job.to_,d.job.size,d.job.new_⟩) false gd w hok.cops h1 h2);generalize devFinish d false=res at *
 clear hrec hrd hok hdef;generalize d.rec_=r at *
 go_enter Tryz.func48,Tryz.ntmps48;go_wp2_with fail;refine(KN.out _).mono ?_;rintro e w1 ⟨rfl,hb⟩;have a2:=kp (w.heap.size) (devA d L) hb;have a1:=kp (w.heap.size+1) (#[iv 7,iv n]) hb;have a3:=kp (w.heap.size+1+1+1) (devA Dev.zero DLoc.zero) hb;have a4:=kp (w.heap.size+1+1+1+1) (#[.func (Fn.func 88) #[] #[]]) hb;have HB1:Hid (Below w.heap.size w w1):=qH (((((((bW w).alloc nl (.cells (devA d L) 38)).alloc (by simp) (.cells #[iv 7,iv n] 42)).alloc (by simp;omega) (.cells (chkA f t m o B bl bc) 61)).alloc (by simp;omega) (.cells (devA Dev.zero DLoc.zero) 38)).alloc (by simp;omega) _).trans (hb.mono (by simp;omega)));clear hb;by_cases c1:d.busy=false∨d.done<d.job.size
 ·have hz:=HD.out.trans (if_pos c1);subst hz;clear HD K1 KN hact
  cases c2:d.busy
  case false=>
   exact x1zo
  case true=>
   have q:d.done<d.job.size:=c1.resolve_left (by rw[c2];decide);clear c1;exact x1zo
 have c2:d.busy=true:=by cases h:d.busy;exact absurd (.inl h) c1;rfl
 have q:¬d.done<d.job.size:=fun h=>c1 (.inr h);have HD1:=qH (HD.out.trans (if_neg c1));obtain⟨a,ha⟩:∃a:Nat,r.active=(a:Int):=⟨r.active.toNat,by omega⟩;obtain⟨a',haa⟩:∃a':Nat,a+a'=1:=⟨1-a,by omega⟩;have hsp:=splice_tryIt r ⟨d.job.to_,d.job.size,d.job.new_⟩ ha haa;generalize r.tryIt ⟨d.job.to_,d.job.size,d.job.new_⟩=r2 at *
 have hle:5+a'*3+3<=11:=by omega
 have hw1:IntKind.i64.wrap ((1:Int)-(a:Int))=(a':Int):=by rw[IntWalk.i64_in _ (by omega)];omega
 have i1:(0:Int)<=(a':Int):=by omega
 have i2:(a':Int)<2:=by omega
 have i3:¬(2:Int)<=(a':Int):=by omega
 clear c1 HD KN hu hact;go_upto_region 54 with fail
 obtain⟨w2,hw2⟩:=eX (w1.alloc (.cells (recA r2) 29));have hb:Below w1.heap.size w1 w2:=by rw[<-hw2];exact bL _
 have hrr:rowOf w2 w1.heap.size=recA r2∧frOf w2 w1.heap.size=(0,0):=by rw[<-hw2];exact⟨by rw[rowOf_alloc,if_pos rfl],by rw[frOf_alloc,if_pos rfl]⟩
 have a2:=keep1 (g:=w.heap.size) (cs:=devA d L) hb a2.1 (by go_simp) a2.2.1;have a1:=keep1 (g:=w.heap.size+1) (cs:=#[iv 7,iv n]) hb a1.1 (by go_simp) a1.2.1;have a3:=keep1 (g:=w.heap.size+1+1+1) (cs:=devA Dev.zero DLoc.zero) hb a3.1 (by go_simp) a3.2.1;have a4:=keep1 (g:=w.heap.size+1+1+1+1) (cs:=#[.func (Fn.func 88) #[] #[]]) hb a4.1 (by go_simp) a4.2.1;have r1:=keep1 (bW w2) hrr.1 (by simp[recA]) hrr.2;have HB2:=bT HB1 hb;rw[hw2];clear hw2 hb hrr hsp hle hw1 i1 i2 i3 ha haa HB1;go_wp2_with fail;refine(K1.out _ _ (by go_simp) (by go_simp)).mono ?_;rintro e w1 ⟨wa,wb,rfl,hba,hwb,hbb⟩;have a3:=kp (w.heap.size+1+1+1) (devA Dev.zero DLoc.zero) hba;have a3:=kp (w.heap.size+1+1+1+1) (#[.func (Fn.func 88) #[] #[]]) hba;have a2:=kp (w.heap.size) (devA d L) hba;have a1:=kp (w.heap.size+1) (#[iv 7,iv n]) hba;have HBa:=bU HB2 hba;clear hba;obtain⟨e1,he1⟩:=eX ((recWrite d.c0 d.c1 r2 false).2);rw[he1]at hwb HD1⊢;clear he1 K1;by_cases c1:e1≠0
 ·rw[if_neg c1]at hwb;subst hwb;have b1:=kp (w.heap.size+1) (#[iv 7,iv n]) hbb;have b1:=kp (w.heap.size+1+1+1) (devA Dev.zero DLoc.zero) hbb;have b1:=kp (w.heap.size+1+1+1+1) (#[.func (Fn.func 88) #[] #[]]) hbb;have b1:=kp (w.heap.size) (devA d L) hbb;have HB1:=bT HBa hbb;have hz:=HD1.out.trans (if_pos c1);subst hz;have KD:=qH (fun gb gd w h1 h2=>actsDone_bad e1 gb gd w c1 h1 h2);clear hbb c1;go_wp2_with fail;refine(KD.out _ _ _ (by go_simp) (by go_simp)).mono ?_;rintro e w1 ⟨rfl,hb⟩;have e1:=kp (w.heap.size+1+1+1) (devA Dev.zero DLoc.zero) hb;exact x20b
 have c1:=Decidable.not_not.1 c1;subst c1;rw[if_pos rfl]at hwb;subst hwb;have hz:=HD1.out.trans (if_neg (by decide));subst hz;have hin:∀v,DevIn v d L->DevIn v {d.write r2 false with busy:=false,job:=Pat.zero,done:=0} {L with aj:=none,cj:=0}:=fun v h=>⟨h.k0,h.l0,h.b0,h.k1,h.l1,h.b1,h.kg,h.lg,h.got,pat_in_zero v,h.ir,i64_0⟩;have HIN:=qH hin;clear hin HD1;generalize d.write r2 false=d2 at *
 have b1:=kp (w.heap.size+1) (#[iv 7,iv n]) hbb;have b1:=kp (w.heap.size+1+1+1) (devA Dev.zero DLoc.zero) hbb;have b1:=kp (w.heap.size+1+1+1+1) (#[.func (Fn.func 88) #[] #[]]) hbb;have b1:=kp (w.heap.size) (devA d2 L) hbb;have HB1:Hid (Below w.heap.size w w1):=qH ((below_row HBa.out (by omega) _).trans (hbb.mono (by have:=HBa.out.size;simp;omega)));clear hbb;go_wp2_with fail;refine(actsDone_ok {d2 with busy:=false,job:=Pat.zero,done:=0} {L with aj:=none,cj:=0} _ _ _ (by first|(go_simp;done)|(go_simp;rfl)) (by go_simp)).mono ?_;rintro e w1 ⟨rfl,hb⟩;have e1:=kp (w.heap.size+1+1+1) (devA Dev.zero DLoc.zero) hb;have HB1:=bU HB1 hb;clear hb;go_wp2_with fail;refine bodyPost_ret (rC (devA {d2 with busy:=false,job:=Pat.zero,done:=0} {L with aj:=none,cj:=0})) rfl ⟨{L with aj:=none,cj:=0},rfl,HIN.out,bZ HB1⟩
theorem acts_finish12(d:Dev)(L:DLoc)(n f t m o:Int)(B:OA)(bl bc:Nat)(w:World)(hok:DevOk d)(hu:d.up=true):Calls Tryz.prog 48 #[.agg (devA d L),.agg #[iv 12,iv n],.agg (chkA f t m o B bl bc)] w (ActRet w d L (devFinish d true).1 (devFinish d true).2):=by
 have hrec:=rec_ok hok;have hrd:devReady d=0:=by unfold devReady;rw[if_neg (by simpa using devCheck_ok.2 hok),if_neg (by rw[hu];decide)]
 have KN:=qH (fun w=>newest_calls d.c0 d.c1 w);rw[refNewest_ok hok.cops]at KN;obtain⟨rk,hrk⟩:=eX ((recRead d.c0 d.c1).2);have hre:(recRead d.c0 d.c1).1=d.rec_:=rfl;rw[hrk,hre]at KN;clear hrk hre;have hact:=rec_active hrec;have hdef:devFinish d true=if d.busy=false∨d.done<d.job.size then (Dev.zero,5)else if (recWrite d.c0 d.c1 (d.rec_.tryIt ⟨d.job.to_,d.job.size,d.job.new_⟩) true).2≠0 then (Dev.zero,(recWrite d.c0 d.c1 (d.rec_.tryIt ⟨d.job.to_,d.job.size,d.job.new_⟩) true).2)else (Dev.down {d.write (d.rec_.tryIt ⟨d.job.to_,d.job.size,d.job.new_⟩) true with busy:=false,job:=Pat.zero,done:=0},0):=by
  unfold devFinish;rw[if_neg (by omega)];rfl
 have HD:=qH hdef;have K1:=qH (fun gd w h1 h2=>actsWrite_calls d L (d.rec_.tryIt ⟨d.job.to_,d.job.size,d.job.new_⟩) true gd w hok.cops h1 h2);generalize devFinish d true=res at *
 clear hrec hrd hok hdef;generalize d.rec_=r at *
 go_enter Tryz.func48,Tryz.ntmps48;go_wp2_with fail;refine(KN.out _).mono ?_;rintro e w1 ⟨rfl,hb⟩;have a2:=kp (w.heap.size) (devA d L) hb;have a1:=kp (w.heap.size+1) (#[iv 12,iv n]) hb;have a3:=kp (w.heap.size+1+1+1) (devA Dev.zero DLoc.zero) hb;have a4:=kp (w.heap.size+1+1+1+1) (#[.func (Fn.func 88) #[] #[]]) hb;have HB1:Hid (Below w.heap.size w w1):=qH (((((((bW w).alloc nl (.cells (devA d L) 38)).alloc (by simp) (.cells #[iv 12,iv n] 42)).alloc (by simp;omega) (.cells (chkA f t m o B bl bc) 61)).alloc (by simp;omega) (.cells (devA Dev.zero DLoc.zero) 38)).alloc (by simp;omega) _).trans (hb.mono (by simp;omega)));clear hb;by_cases c1:d.busy=false∨d.done<d.job.size
 ·have hz:=HD.out.trans (if_pos c1);subst hz;clear HD K1 KN hact
  cases c2:d.busy
  case false=>
   exact x1zo
  case true=>
   have q:d.done<d.job.size:=c1.resolve_left (by rw[c2];decide);clear c1;exact x1zo
 have c2:d.busy=true:=by cases h:d.busy;exact absurd (.inl h) c1;rfl
 have q:¬d.done<d.job.size:=fun h=>c1 (.inr h);have HD1:=qH (HD.out.trans (if_neg c1));obtain⟨a,ha⟩:∃a:Nat,r.active=(a:Int):=⟨r.active.toNat,by omega⟩;obtain⟨a',haa⟩:∃a':Nat,a+a'=1:=⟨1-a,by omega⟩;have hsp:=splice_tryIt r ⟨d.job.to_,d.job.size,d.job.new_⟩ ha haa;generalize r.tryIt ⟨d.job.to_,d.job.size,d.job.new_⟩=r2 at *
 have hle:5+a'*3+3<=11:=by omega
 have hw1:IntKind.i64.wrap ((1:Int)-(a:Int))=(a':Int):=by rw[IntWalk.i64_in _ (by omega)];omega
 have i1:(0:Int)<=(a':Int):=by omega
 have i2:(a':Int)<2:=by omega
 have i3:¬(2:Int)<=(a':Int):=by omega
 clear c1 HD KN hu hact;go_upto_region 54 with fail
 obtain⟨w2,hw2⟩:=eX (w1.alloc (.cells (recA r2) 29));have hb:Below w1.heap.size w1 w2:=by rw[<-hw2];exact bL _
 have hrr:rowOf w2 w1.heap.size=recA r2∧frOf w2 w1.heap.size=(0,0):=by rw[<-hw2];exact⟨by rw[rowOf_alloc,if_pos rfl],by rw[frOf_alloc,if_pos rfl]⟩
 have a2:=keep1 (g:=w.heap.size) (cs:=devA d L) hb a2.1 (by go_simp) a2.2.1;have a1:=keep1 (g:=w.heap.size+1) (cs:=#[iv 12,iv n]) hb a1.1 (by go_simp) a1.2.1;have a3:=keep1 (g:=w.heap.size+1+1+1) (cs:=devA Dev.zero DLoc.zero) hb a3.1 (by go_simp) a3.2.1;have a4:=keep1 (g:=w.heap.size+1+1+1+1) (cs:=#[.func (Fn.func 88) #[] #[]]) hb a4.1 (by go_simp) a4.2.1;have r1:=keep1 (bW w2) hrr.1 (by simp[recA]) hrr.2;have HB2:=bT HB1 hb;rw[hw2];clear hw2 hb hrr hsp hle hw1 i1 i2 i3 ha haa HB1;go_wp2_with fail;refine(K1.out _ _ (by go_simp) (by go_simp)).mono ?_;rintro e w1 ⟨wa,wb,rfl,hba,hwb,hbb⟩;have a3:=kp (w.heap.size+1+1+1) (devA Dev.zero DLoc.zero) hba;have a3:=kp (w.heap.size+1+1+1+1) (#[.func (Fn.func 88) #[] #[]]) hba;have a2:=kp (w.heap.size) (devA d L) hba;have a1:=kp (w.heap.size+1) (#[iv 12,iv n]) hba;have HBa:=bU HB2 hba;clear hba;obtain⟨e1,he1⟩:=eX ((recWrite d.c0 d.c1 r2 true).2);rw[he1]at hwb HD1⊢;clear he1 K1;by_cases c1:e1≠0
 ·rw[if_neg c1]at hwb;subst hwb;have b1:=kp (w.heap.size+1) (#[iv 12,iv n]) hbb;have b1:=kp (w.heap.size+1+1+1) (devA Dev.zero DLoc.zero) hbb;have b1:=kp (w.heap.size+1+1+1+1) (#[.func (Fn.func 88) #[] #[]]) hbb;have b1:=kp (w.heap.size) (devA d L) hbb;have HB1:=bT HBa hbb;have hz:=HD1.out.trans (if_pos c1);subst hz;have KD:=qH (fun gb gd w h1 h2=>actsDone_bad e1 gb gd w c1 h1 h2);clear hbb c1;go_wp2_with fail;refine(without_calls _ _ _).mono ?_;rintro e w1 ⟨rfl,hb⟩;have c1:=kp (w.heap.size) (devA {d with busy:=false,done:=0} L) hb;have c1:=kp (w.heap.size+1+1+1) (devA Dev.zero DLoc.zero) hb;have c1:=kp (w.heap.size+1+1+1+1) (#[.func (Fn.func 88) #[] #[]]) hb;have HB1:=bU HB1 hb;clear hb;go_wp2_with fail;refine(KD.out _ _ _ (by go_simp) (by go_simp)).mono ?_;rintro e w1 ⟨rfl,hb⟩;have e1:=kp (w.heap.size+1+1+1) (devA Dev.zero DLoc.zero) hb;exact x20b
 have c1:=Decidable.not_not.1 c1;subst c1;rw[if_pos rfl]at hwb;subst hwb;have hz:=HD1.out.trans (if_neg (by decide));subst hz;have hin:∀v,DevIn v d L->DevIn v (Dev.down {d.write r2 true with busy:=false,job:=Pat.zero,done:=0}) L.down:=fun v h=>(show DevIn v (Dev.down (d.write r2 true)) L.down from DevIn.down (d:=d.write r2 true) ⟨h.k0,h.l0,h.b0,h.k1,h.l1,h.b1,h.kg,h.lg,h.got,h.job,h.ir,h.id⟩);have HIN:=qH hin;clear hin HD1;generalize d.write r2 true=d2 at *
 have b1:=kp (w.heap.size+1) (#[iv 12,iv n]) hbb;have b1:=kp (w.heap.size+1+1+1) (devA Dev.zero DLoc.zero) hbb;have b1:=kp (w.heap.size+1+1+1+1) (#[.func (Fn.func 88) #[] #[]]) hbb;have b1:=kp (w.heap.size) (devA d2 L) hbb;have HB1:Hid (Below w.heap.size w w1):=qH ((below_row HBa.out (by omega) _).trans (hbb.mono (by have:=HBa.out.size;simp;omega)));clear hbb;go_wp2_with fail;refine(without_calls _ _ _).mono ?_;rintro e w1 ⟨rfl,hb⟩;have c1:=kp (w.heap.size) (devA {d2 with busy:=false,done:=0} L) hb;have c1:=kp (w.heap.size+1+1+1) (devA Dev.zero DLoc.zero) hb;have c1:=kp (w.heap.size+1+1+1+1) (#[.func (Fn.func 88) #[] #[]]) hb;have HB1:=bU HB1 hb;clear hb;go_wp2_with fail;refine(actsDone_ok (Dev.down {d2 with busy:=false,job:=Pat.zero,done:=0}) L.down _ _ _ (by first|(go_simp;done)|(go_simp;rfl)) (by go_simp)).mono ?_;rintro e w1 ⟨rfl,hb⟩;have e1:=kp (w.heap.size+1+1+1) (devA Dev.zero DLoc.zero) hb;have HB1:=bU HB1 hb;clear hb;go_wp2_with fail;refine bodyPost_ret (rC (devA (Dev.down {d2 with busy:=false,job:=Pat.zero,done:=0}) L.down)) rfl ⟨L.down,rfl,HIN.out,bZ HB1⟩
theorem data_le(old:LU):∀(l:List Stp),∀o∈l,o.data.length<=(applied old l).length
 |[],_,h=>by cases h
 |x::l,o,h=>by
  rw[applied_cons,List.length_append];rcases List.mem_cons.1 h with rfl|h
  ·simp[Stp.piece];omega
  have:=data_le old l o h;omega
theorem snoc_of{α:Type}(l:List α)(h:l≠[]):∃m x,l=m++[x]:=⟨l.dropLast,l.getLast h,(List.dropLast_concat_getLast h).symm⟩
theorem addByte_len(l:List Stp)(x:UInt8):(addByte l x).length<=l.length+1:=by
 by_cases h:l=[]
 ·subst h;simp[addByte]
 obtain⟨m,o,rfl⟩:=snoc_of l h;rw[addByte_snoc];split<;>simp
theorem diffN_len(old b:LU):∀q,(diffN old b q).2.length<=q
 |0=>by simp[diffN]
 |q+1=>by
  have ih:=diffN_len old b q
  show (diffStep old b (diffN old b q)).2.length<=q+1;generalize diffN old b q=p at *
  unfold diffStep;split
  ·split
   ·simp only[List.length_append,List.length_cons,List.length_nil];omega
   ·have:=addByte_len p.2 (b.getD p.1 0)
    show (addByte p.2 (b.getD p.1 0)).length<=q+1;omega
  omega
