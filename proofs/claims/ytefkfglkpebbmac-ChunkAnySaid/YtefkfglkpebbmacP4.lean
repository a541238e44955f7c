/- Walks of functions, and plain words. No conditions. -/
import Derived.Test.YtefkfglkpebbmacP3
set_option linter.unusedVariables false
set_option linter.unusedSimpArgs false
set_option maxRecDepth 100000
set_option maxHeartbeats 40000000
namespace Go.Proofs.Ytefkfglkpebbmac
open Go.RowKit
variable {Y:Prop}
variable {l r:List Chk} {k base g:Nat} {c x:Chk} {w:World} {ds:List (Option Addr×Nat)}
theorem x2ao(h:Y:=by
 intro done cv k1 a wq hw h hJ hn;have e1:=mO 0 (.slice (some ⟨g,0,none⟩) (n+1) c) h;exact mx_move (ch_ev e1)):Y:=h
theorem x4n4(h:Y:=by
 intro done cv k1 a wq hw h hJ hn;have e1:=mO 1 (iv (i:Int)) h;exact mx_move (ch_ev e1)):Y:=h
theorem x8ew(h:Y:=by
 intro done cv k1 a wq hw h hJ hn;have e1:=mO 7 (iv 1) h;exact mx_move (ch_ev e1)):Y:=h
theorem x9zw(h:Y:=by
 have k1:((i:Int)+1).toNat=i+1:=by omega
 have k1:(0:Int)<=(i:Int)+1:=by omega
 go_simp):Y:=h
def InsRet(w:World)(base n:Nat)(A:OA)(out:List Value):Ending->World->Prop:=fun en w'=>
 ∃A' c',en=.returned (.slice A' (n+1) c')∧Own w' base 49 5 A' (n+1) c' out∧Below base w w'∧(∀k,k<w.heap.size->A.map (·.block)≠some k->w'.heap[k]?=w.heap[k]?)∧(A'.map (·.block)=A.map (·.block)∨∀k,A'.map (·.block)=some k->w.heap.size<=k)
def insJ(w0 w1:World):Nat->(Nat->Value)->World->Prop
 |0,_,w=>w=w0.drew
 |_,_,w=>w=w1.drew∧True
theorem addr_plus(b o j:Nat):(⟨b,o,none⟩:Addr).add j=⟨b,o+j,none⟩:=by unfold Addr.add;split<;>simp_all
theorem insEnd0_calls(V:Addr)(vc:Nat)(ns:List Value)(w:World)(base:Nat)(hns:ns.length=5)(hv:Src w (some V) ns)(h1:∀u∈ns,u.oneCell'=true)(hb:base<=w.heap.size):
  Calls Try.prog 103 #[.slice none 0 0,iv 0,.slice (some V) 1 vc] w (InsRet w base 0 none ns):=by
 have hO:Own w base 49 5 none 0 0 []:=Own.nil_ _ _ _ _;have H1:=qH h1;clear h1;go_enter Try.func103,Try.ntmps103;go_wp2_with (at_builtin;go_must (refine wpList_app w rfl _ _ 43 rfl elChunks base none 0 0 [] rfl hO (some V) 1 vc ns rfl hv hns H1.out (by omega) hb ?_;intro A' c' w1 hown hg hb1 hor));go_ret;exact⟨A',c',by simp,by simpa using hown,hb1,fun k hk _=>hg.block k hk (by simp),by
  rcases hor with h|h
  ·exact .inl h
  exact .inr (fun k hk=>by rw[h]at hk;injection hk with hk;omega)⟩
theorem insEnd_calls(g n c:Nat)(xs:List Value)(V:Addr)(vc:Nat)(ns:List Value)(w:World)(base:Nat)(hO:Own w base 49 5 (some ⟨g,0,none⟩) n c xs)(hns:ns.length=5)(hv:Src w (some V) ns)(h1:∀u∈ns,u.oneCell'=true)(hb:base<=w.heap.size)(hn:n<=1000):
  Calls Try.prog 103 #[.slice (some ⟨g,0,none⟩) n c,iv n,.slice (some V) 1 vc] w (InsRet w base n (some ⟨g,0,none⟩) (xs++ns)):=by
 have hle:=hO.le;have HO:=qH hO;have H1:=qH h1;have q1:(n:Int)<=(c:Int):=by omega
 have q1:¬(n:Int)<0:=by omega
 have q1:((n:Int)==(n:Int))=true:=by simp
 have HD:Hid (∃v,∀wq,(Instr.slice 43 (.slice (some ⟨g,0,none⟩) n c) (some (iv (n:Int))) none none).run Try.prog wq=.ok v wq):=qH (by
  by_cases e:c=n
  ·exact⟨.slice (some ⟨g,0,none⟩) 0 0,fun wq=>by go_simp⟩
  exact⟨.slice (some ⟨g,n*5,none⟩) 0 (c-n),fun wq=>by go_simp⟩)
 obtain⟨v,hv1⟩:=HD.out;clear hO h1 HD;go_enter Try.func103,Try.ntmps103;go_wp2_with (at_builtin;go_must (refine wpList_app w rfl _ _ 43 rfl elChunks base (some ⟨g,0,none⟩) n c xs rfl HO.out (some V) 1 vc ns rfl hv hns H1.out (by omega) hb ?_;intro A' c' w1 hown hg hb1 hor));go_ret;refine⟨A',c',rfl,hown,hb1,fun k hk hne=>hg.block k hk (fun e=>hne e.symm),?_⟩;rcases hor with h|h
 ·exact .inl (by simpa using h)
 exact x55s
theorem insRoom_calls(g n c i:Nat)(xs:List Value)(v vc:Nat)(ns:List Value)(tV:TypeId)(w:World)(base:Nat)(hO:Own w base 49 5 (some ⟨g,0,none⟩) n c xs)(hns:ns.length=5)(hv:w.heap[v]?=some (.cells ns.toArray tV (0,0)))(hvg:v≠g)(h1:∀u∈ns,u.oneCell'=true)(h2:∀u∈xs,u.oneCell'=true)(hb:base<=w.heap.size)(hn:n<=1000)(hi:i<n)(hc:n+1<=c):
  Calls Try.prog 103 #[.slice (some ⟨g,0,none⟩) n c,iv i,.slice (some ⟨v,0,none⟩) 1 vc] w (InsRet w base n (some ⟨g,0,none⟩) (xs.take (i*5)++ns++xs.drop (i*5))):=by
 obtain⟨hxl,⟨hv3,_⟩|⟨g',cap,cur,hv3,hbg,hgc,hncap,hmax,hcs,hxs1⟩⟩:=hO
 ·cases hv3
 injection hv3 with e1 e2 e3;injection e1 with e1;injection e1 with e1 e4;subst e1 e3;obtain⟨L,hL⟩:=eX (cur.toList);have hcur:cur=L.toArray:=by rw[<-hL]
 subst hcur;simp only[List.size_toArray]at hcs;have hxs:xs=L.take (n*5):=by simpa using hxs1.symm
 have hcm:c<=9223372036854775807:=by simp only[maxLen]at hmax;omega
 have q3:((i:Int)==(n:Int))=false:=beq_eq_false_iff_ne.2 (by omega);have q1:decide ((c:Int)<(n:Int)+1)=false:=decide_eq_false (by omega);have q1:IntKind.i64.wrap ((n:Int)+1)=(n:Int)+1:=IntWalk.i64_in _ (by omega);have HWI:Hid (IntKind.i64.wrap ((i:Int)+1)=(i:Int)+1):=qH (IntWalk.i64_in _ (by omega));have hS5:∀wq,(Instr.slice 43 (.slice (some ⟨g,0,none⟩) n c) (some (iv (i:Int))) none none).run Try.prog wq=.ok (.slice (some ⟨g,i*5,none⟩) (n-i) (c-i)) wq:=fun wq=>by
  have k1:¬c=i:=by omega
  have k1:(i:Int)<=(n:Int):=by omega
  go_simp
 have hS1:∀wq,(Instr.slice 43 (.slice (some ⟨g,0,none⟩) n c) none (some (iv ((n:Int)+1))) none).run Try.prog wq=.ok (.slice (some ⟨g,0,none⟩) (n+1) c) wq:=fun wq=>by
  have k1:¬c=0:=by omega
  have k1:(n:Int)+1<=(c:Int):=by omega
  have k1:(0:Int)<=(n:Int)+1:=by omega
  go_simp
 have hS1:∀wq,(Instr.slice 43 (.slice (some ⟨g,0,none⟩) (n+1) c) (some (iv ((i:Int)+1))) none none).run Try.prog wq=.ok (.slice (some ⟨g,(i+1)*5,none⟩) (n-i) (c-(i+1))) wq:=fun wq=>by
  have k1:¬c=i+1:=by omega
  have k1:(i:Int)+1<=(n:Int)+1:=by omega
  have k1:n+1-(i+1)=n-i:=by omega
  exact x9zw
 have hS2:∀wq,(Instr.slice 43 (.slice (some ⟨g,0,none⟩) (n+1) c) (some (iv (i:Int))) none none).run Try.prog wq=.ok (.slice (some ⟨g,i*5,none⟩) (n+1-i) (c-i)) wq:=fun wq=>by
  have k1:¬c=i:=by omega
  have k1:(i:Int)<=(n:Int)+1:=by omega
  go_simp
 have HS1:=qH hS1;have HS2:=qH hS2;have hsv:w.shape? v=some (tV,5):=by
  unfold World.shape?;rw[hv];simp[hns]
 have hsg:w.shape? g=some (49,c*5):=by
  unfold World.shape?;rw[hgc];simp[hcs]
 have hov:∀la lb cb,(callFunc 142 #[.slice (some ⟨v,0,none⟩) 1 la,.slice (some ⟨g,(i+1)*5,none⟩) lb cb]).run Try.prog w=.ok (.value (.bool false)) w:=fun la lb cb=>by
  rw[run_callFunc_extern Try.func142 (by kernel_rfl) (by kernel_rfl) (by kernel_rfl) (e:=Extern.SlicesOverlaps.overlaps #[43,43] #[4]) (by kernel_rfl)];have:=Lib.run_overlaps_apart (P:=Try.prog) w 43 4 49 Try.underlying43 5 (fun w=>by kernel_rfl) ⟨v,0,none⟩ ⟨g,(i+1)*5,none⟩ 1 la lb cb hvg tV 49 5 (c*5) hsv hsg (by omega) (by simp[World.frozen?,hv]) (by simp[World.frozen?,hv]);rw[this];rfl
 have hcl:((L.take (n*5)).drop (i*5)).length=(n-i)*5:=by simp;omega
 have hone:∀u∈(L.take (n*5)).drop (i*5),u.oneCell'=true:=fun u hu=>h2 u (by rw[hxs];exact List.mem_of_mem_drop hu);have hadd:∀(b o j:Nat),(⟨b,o,none⟩:Addr).add j=⟨b,o+j,none⟩:=addr_plus;have hC1:∀ty dc sc,(Builtin.copy_ #[43,43] ty #[.slice (some ⟨g,(i+1)*5,none⟩) (n-i) dc,.slice (some ⟨g,i*5,none⟩) (n+1-i) sc]).run Try.prog w.drew=.ok (goInt (Nat.min (n+1-i) (n-i))) (w.drew.setRow g (over L ((i+1)*5) ((L.take (n*5)).drop (i*5))).toArray):=fun ty dc sc=>
  run_copy_rowN w.drew 43 43 ty 49 g ((i+1)*5) (n-i) dc ⟨g,i*5,none⟩ (n+1-i) sc L 49 ((L.take (n*5)).drop (i*5)) 5 Try.underlying43 (by kernel_rfl) hgc (by rw[hcl];simp only[Nat.min_def];split<;>omega)
   (fun j u hj=>by
     rw[hadd,cell_of_row _ _ _ _ _ _ (show w.drew.heap[g]?=_ from hgc)];rw[List.getElem?_drop,List.getElem?_take]at hj;split at hj
     ·simpa using hj
     cases hj) (by omega) hone
 have HC1:=qH hC1;obtain⟨w1,hw1⟩:=eX (w.setRow g (over L ((i+1)*5) ((L.take (n*5)).drop (i*5))).toArray);have hol:=over_len L ((i+1)*5) ((L.take (n*5)).drop (i*5)) (by omega);have hg1:w1.heap[g]?=some (.cells (over L ((i+1)*5) ((L.take (n*5)).drop (i*5))).toArray 49 (0,0)):=by rw[<-hw1];exact setRow_heap w g _ _ _ _ hgc
 have hv1:w1.heap[v]?=some (.cells ns.toArray tV (0,0)):=by rw[<-hw1,setRow_other w g v _ hvg];exact hv
 have hC2:∀ty dc,(Builtin.copy_ #[43,43] ty #[.slice (some ⟨g,i*5,none⟩) (n+1-i) dc,.slice (some ⟨v,0,none⟩) 1 vc]).run Try.prog w1.drew=.ok (goInt (Nat.min 1 (n+1-i))) (w1.drew.setRow g (over (over L ((i+1)*5) ((L.take (n*5)).drop (i*5))) (i*5) ns).toArray):=fun ty dc=>
  run_copy_rowN w1.drew 43 43 ty 49 g (i*5) (n+1-i) dc ⟨v,0,none⟩ 1 vc _ 49 ns 5 Try.underlying43 (by kernel_rfl) hg1 (by rw[hns];simp only[Nat.min_def];split<;>omega)
   (fun j u hj=>by
     rw[hadd,cell_of_row _ _ _ _ _ _ (show w1.drew.heap[v]?=_ from hv1)];simpa using hj) (by omega) h1
 have HC2:=qH hC2;have HEND:Hid (InsRet w base n (some ⟨g,0,none⟩) (xs.take (i*5)++ns++xs.drop (i*5)) (.returned (.slice (some ⟨g,0,none⟩) (n+1) c)) (w1.drew.setRow g (over (over L ((i+1)*5) ((L.take (n*5)).drop (i*5))) (i*5) ns).toArray)):=qH (by
  have hol1:=over_len (over L ((i+1)*5) ((L.take (n*5)).drop (i*5))) (i*5) ns (by omega);have hin:=ins_room L ns (i*5) (n*5) (by omega) (by omega);rw[show i*5+ns.length=(i+1)*5 by omega]at hin;refine⟨some ⟨g,0,none⟩,c,rfl,⟨by simp;omega,Or.inr ⟨g,c,(over (over L ((i+1)*5) ((L.take (n*5)).drop (i*5))) (i*5) ns).toArray,rfl,hbg,setRow_heap w1.drew g _ _ _ _ hg1,by omega,hmax,by simp;omega,?_⟩⟩,?_,?_,.inl rfl⟩
  ·rw[hxs,<-hin];simp;congr 1;omega
  ·have hb1:Below base w w1:=by rw[<-hw1];exact below_row (Below.refl _ _) hbg _
   exact below_row hb1.drew hbg _
  intro k hk hne;have hkg:k≠g:=fun e=>hne (by rw[e];rfl);rw[setRow_other w1.drew g k _ hkg]
  show w1.heap[k]?=_;rw[<-hw1,setRow_other w g k _ hkg])
 clear hS1 hS2 hC1 hC2 hg1 hv1 hol hcl hone hxs hxs1 h2 h1 hgc hv hxl hL hadd;go_enter Try.func103,Try.ntmps103;go_wp2_with (simp only[hov]);refine wp_region_mix (by kernel_rfl) (some 69::some 70::some 71::some 72::some 73::some 74::some 75::some 76::some 77::[]) (none::none::none::none::none::none::none::none::some 0::[]) (.slice (some ⟨g,0,none⟩) (n+1) c::iv (i:Int)::iv 1::iv ((i:Int)+1)::.slice (some ⟨g,(i+1)*5,none⟩) (n-i) (c-(i+1))::.slice (some ⟨g,0,none⟩) (n+1) c::iv (i:Int)::.slice (some ⟨g,i*5,none⟩) (n+1-i) (c-i)::undef::[]) 1 (insJ w (w.setRow g (over L ((i+1)*5) ((L.take (n*5)).drop (i*5))).toArray)) 95 rfl rfl (by decide+kernel) (by decide+kernel) (by decide+kernel) (by decide+kernel) rfl rfl (by decide+kernel) (by decide+kernel) (rfl) ?_ ?_
 ·refine⟨?_,?_,?_,?_,?_,?_,?_,?_,?_,trivial⟩
  ·exact x2ao
  ·exact x4n4
  ·exact x8ew
  ·intro done cv k1 a wq hw h hJ hn;have e1:=mN 1 70 h hw;have e71:=mN 2 71 h hw;have h1:=HWI.out;go_simp
  ·intro done cv k1 a wq hw h hJ hn;have e1:=mN 0 69 h hw;have e72:=mN 3 72 h hw;have h1:=HS1.out;go_simp
  ·exact x2ao
  ·exact x4n4
  ·intro done cv k1 a wq hw h hJ hn;have e1:=mN 5 74 h hw;have e75:=mN 6 75 h hw;have h1:=HS2.out;go_simp
  ·intro done cv a wq hw h hJ;have e1:=mN 4 73 h hw;have e76:=mN 7 76 h hw;obtain rfl:wq=w.drew:=hJ;refine wp_copyN (.tmp 73) (.tmp 76) 43 43 rfl _ _ (ch_ev e1) (ch_ev e76) (HC1.out _ _ _) ⟨_,rfl,?_⟩;exact⟨rfl,trivial⟩
 intro cv w1 hJ;obtain⟨rfl,-⟩:=hJ;rw[hw1];simp only[mixAll,putAll_some,putAll_none,putAll_nil,List.getElem?_cons_zero,List.getElem?_cons_succ,Nat.zero_add,Nat.reduceAdd,List.setIfInBounds_toArray,List.set_cons_zero,List.set_cons_succ];clear HC1;have hS1:=HS2.out;have hC1:=HC2.out;go_wp2_with fail;go_ret;exact HEND.out
theorem insGrow_calls(g n c i:Nat)(xs:List Value)(v vc:Nat)(ns:List Value)(tV:TypeId)(w:World)(base:Nat)(hO:Own w base 49 5 (some ⟨g,0,none⟩) n c xs)(hns:ns.length=5)(hv:w.heap[v]?=some (.cells ns.toArray tV (0,0)))(h1:∀u∈ns,u.oneCell'=true)(h2:∀u∈xs,u.oneCell'=true)(hb:base<=w.heap.size)(hn:n<=1000)(hi:i<n)(hc:c<n+1):
  Calls Try.prog 103 #[.slice (some ⟨g,0,none⟩) n c,iv i,.slice (some ⟨v,0,none⟩) 1 vc] w (InsRet w base n (some ⟨g,0,none⟩) (xs.take (i*5)++ns++xs.drop (i*5))):=by
 have hnc:=hO.le;have hxl:=hO.len;have hsrc:=hO.src;have hgl:g<w.heap.size:=(hO.block g rfl).2;have hcn:c=n:=by omega
 clear hO hnc;subst hcn;have q5:((i:Int)==(c:Int))=false:=beq_eq_false_iff_ne.2 (by omega);have q1:decide ((c:Int)<(c:Int)+1)=true:=decide_eq_true (by omega);have q1:IntKind.i64.wrap ((c:Int)+1)=(c:Int)+1:=IntWalk.i64_in _ (by omega);have q1:(c:Int)+1-(i:Int)=((c+1-i:Nat):Int):=by omega
 have q1:IntKind.i64.wrap (((c+1-i:Nat):Int))=((c+1-i:Nat):Int):=IntWalk.i64_in _ (by omega);have HWI:Hid (IntKind.i64.wrap ((i:Int)+1)=(i:Int)+1):=qH (IntWalk.i64_in _ (by omega));have hS4:∀wq,(Instr.slice 43 (.slice (some ⟨g,0,none⟩) c c) (some (iv (i:Int))) none none).run Try.prog wq=.ok (.slice (some ⟨g,i*5,none⟩) (c-i) (c-i)) wq:=fun wq=>by
  have k1:¬c=i:=by omega
  have k1:(i:Int)<=(c:Int):=by omega
  go_simp
 have hS1:∀wq,(Instr.slice 43 (.slice (some ⟨g,0,none⟩) c c) none (some (iv (i:Int))) none).run Try.prog wq=.ok (.slice (some ⟨g,0,none⟩) i c) wq:=fun wq=>by
  have k1:¬c=0:=by omega
  have k1:(i:Int)<=(c:Int):=by omega
  go_simp
 obtain⟨inf,hif,hiz,his,hib⟩:=info_parts (P:=Try.prog) (e:=49) (z:=.agg #[iv 0,iv 0,iv 0,iv 0,.slice none 0 0]) (size:=5) (bytes:=56) (by kernel_rfl);have hpl:(xs.take (i*5)).length=i*5:=by simp;omega
 have hcell:∀(W:World),(∀k,k<w.heap.size->W.heap[k]?=w.heap[k]?)->∀j u,xs[j]?=some u->W.cell? ⟨g,j,none⟩=some u:=fun W hW j u hj=>by
  obtain⟨hjl,rfl⟩:=List.getElem?_eq_some_iff.1 hj;obtain⟨b',o',e,hlt,hcc⟩:=hsrc j hjl;injection e with e;injection e with e1 e2;subst e1 e2;rw[World.cell?_of_block (hW g hgl)];simpa using hcc
 have hold:(Builtin.firstCells inf.size i (.slice (some ⟨g,0,none⟩) i c)).run Try.prog w.drew=.ok (xs.take (i*5)).toArray w.drew:=by
  have:=run_loadCells_list (P:=Try.prog) w.drew ⟨g,0,none⟩ (xs.take (i*5)) (fun j u hj=>by
   rw[addr_plus,Nat.zero_add];rw[List.getElem?_take]at hj;split at hj
   ·exact hcell w.drew (fun _ _=>rfl) j u hj
   cases hj)
  rw[hpl]at this;rw[his];exact this
 have hr:=fun ty=>Lib.run_append_grow_zeros (P:=Try.prog) w 43 3 ty 49 inf (.agg #[iv 0,iv 0,iv 0,iv 0,.slice none 0 0]) .i64 .i64 Try.underlying43 Try.underlying3 hif hiz (some ⟨g,0,none⟩) i c _ hold (c+1-i) (by omega) (by omega) (by omega) (by omega) (by rw[hib];omega)
  (growslice_fits (by omega) (by rw[hib];omega))
 have hik:i+(c+1-i)=c+1:=by omega
 rw[hik]at hr;have hG:=grownCap_ge w (c+1) c 49;have hG1:=grownCap_le_maxLen w (c+1) c 49 (by unfold maxLen;omega);obtain⟨cap,hcd⟩:∃cap,cap=grownCap w (c+1) c 49:=⟨_,rfl⟩;rw[<-hcd]at hr hG hG1;obtain⟨Z,hZ⟩:∃Z:List Value,(Builtin.zeroCells (Value.cells (.agg #[iv 0,iv 0,iv 0,iv 0,.slice none 0 0])) (c+1-i)++Builtin.zeroCells (Value.cells (.agg #[iv 0,iv 0,iv 0,iv 0,.slice none 0 0])) (cap-(c+1))).toList=Z:=⟨_,rfl⟩;have hZl:Z.length=(cap-i)*5:=by rw[<-hZ];simp[Builtin.zeroCells,Value.cells];omega
 have hcells:(xs.take (i*5)).toArray++Builtin.zeroCells (Value.cells (.agg #[iv 0,iv 0,iv 0,iv 0,.slice none 0 0])) (c+1-i)++Builtin.zeroCells (Value.cells (.agg #[iv 0,iv 0,iv 0,iv 0,.slice none 0 0])) (cap-(c+1))=(xs.take (i*5)++Z).toArray:=by
  rw[<-hZ]
  apply Array.ext'
  simp
 rw[hcells]at hr;have hcm:cap<=9223372036854775807:=by simp only[maxLen]at hG1;omega
 clear hcd hcells hZ hif hiz his hib hold;obtain⟨w1,hw1⟩:=eX (w.drew.alloc (.cells (xs.take (i*5)++Z).toArray 49));rw[hw1]at hr;have hg1:w1.heap[w.heap.size]?=some (.cells (xs.take (i*5)++Z).toArray 49 (0,0)):=by rw[<-hw1];exact blk_top rfl
 have hb1:Below w.heap.size w w1:=by rw[<-hw1];exact(Below.refl _ _).drew.alloc nl _
 have hXl:(xs.take (i*5)++Z).length=cap*5:=by rw[List.length_append,hpl,hZl];omega
 have hvl:=blk_lt hv;have hv1:w1.heap[v]?=some (.cells ns.toArray tV (0,0)):=(hb1.block v hvl).trans hv;have hS1:∀wq,(Instr.slice 43 (.slice (some ⟨w.heap.size,0,none⟩) (c+1) cap) (some (iv (i:Int))) none none).run Try.prog wq=.ok (.slice (some ⟨w.heap.size,i*5,none⟩) (c+1-i) (cap-i)) wq:=fun wq=>by
  have k1:¬cap=i:=by omega
  have k1:(i:Int)<=(c:Int)+1:=by omega
  go_simp
 have hC1:∀ty dc,(Builtin.copy_ #[43,43] ty #[.slice (some ⟨w.heap.size,i*5,none⟩) (c+1-i) dc,.slice (some ⟨v,0,none⟩) 1 vc]).run Try.prog w1=.ok (goInt (Nat.min 1 (c+1-i))) (w1.setRow w.heap.size (over (xs.take (i*5)++Z) (i*5) ns).toArray):=fun ty dc=>
  run_copy_rowN w1 43 43 ty 49 w.heap.size (i*5) (c+1-i) dc ⟨v,0,none⟩ 1 vc _ 49 ns 5 Try.underlying43 (by kernel_rfl) hg1 (by rw[hns];simp only[Nat.min_def];split<;>omega)
   (fun j u hj=>by
     rw[addr_plus,cell_of_row _ _ _ _ _ _ hv1];simpa using hj) (by omega) h1
 obtain⟨w2,hw1⟩:=eX (w1.setRow w.heap.size (over (xs.take (i*5)++Z) (i*5) ns).toArray);have hol:=over_len (xs.take (i*5)++Z) (i*5) ns (by omega);have hg2:w2.heap[w.heap.size]?=some (.cells (over (xs.take (i*5)++Z) (i*5) ns).toArray 49 (0,0)):=by rw[<-hw1];exact setRow_heap w1 _ _ _ _ _ hg1
 have hb2:Below w.heap.size w w2:=by rw[<-hw1];exact below_row hb1 nl _
 have hS1:∀wq,(Instr.slice 43 (.slice (some ⟨w.heap.size,0,none⟩) (c+1) cap) (some (iv ((i:Int)+1))) none none).run Try.prog wq=.ok (.slice (some ⟨w.heap.size,(i+1)*5,none⟩) (c-i) (cap-(i+1))) wq:=fun wq=>by
  have k1:¬cap=i+1:=by omega
  have k1:(i:Int)+1<=(c:Int)+1:=by omega
  have k1:c+1-(i+1)=c-i:=by omega
  exact x9zw
 have HS1:=qH hS1;have HS2:=qH hS4;have hdl:(xs.drop (i*5)).length=(c-i)*5:=by simp;omega
 have hC1:∀ty dc sc,(Builtin.copy_ #[43,43] ty #[.slice (some ⟨w.heap.size,(i+1)*5,none⟩) (c-i) dc,.slice (some ⟨g,i*5,none⟩) (c-i) sc]).run Try.prog w2.drew=.ok (goInt (Nat.min (c-i) (c-i))) (w2.drew.setRow w.heap.size (over (over (xs.take (i*5)++Z) (i*5) ns) ((i+1)*5) (xs.drop (i*5))).toArray):=fun ty dc sc=>
  run_copy_rowN w2.drew 43 43 ty 49 w.heap.size ((i+1)*5) (c-i) dc ⟨g,i*5,none⟩ (c-i) sc _ 49 (xs.drop (i*5)) 5 Try.underlying43 (by kernel_rfl) hg2 (by rw[hdl];simp)
   (fun j u hj=>by
     rw[addr_plus];rw[List.getElem?_drop]at hj;exact hcell w2.drew (fun k hk=>hb2.block k hk) _ _ hj) (by omega) (fun u hu=>h2 u (List.mem_of_mem_drop hu))
 have HC1:=qH hC1;have HEND:Hid (InsRet w base c (some ⟨g,0,none⟩) (xs.take (i*5)++ns++xs.drop (i*5)) (.returned (.slice (some ⟨w.heap.size,0,none⟩) (c+1) cap)) (w2.drew.setRow w.heap.size (over (over (xs.take (i*5)++Z) (i*5) ns) ((i+1)*5) (xs.drop (i*5))).toArray)):=qH (by
  have hol1:=over_len (over (xs.take (i*5)++Z) (i*5) ns) ((i+1)*5) (xs.drop (i*5)) (by omega);have hin:=ins_grown xs Z ns (i*5) (c*5) 5 (by omega) hxl hns (by omega);rw[show i*5+5=(i+1)*5 by omega]at hin;refine⟨some ⟨w.heap.size,0,none⟩,cap,rfl,⟨by simp;omega,Or.inr ⟨w.heap.size,cap,_,rfl,hb,setRow_heap w2.drew _ _ _ _ _ hg2,by omega,hG1,by simp;omega,?_⟩⟩,?_,?_,.inr (fun k hk=>by injection hk with hk;have hk:w.heap.size=k:=hk;omega)⟩
  ·rw[<-hin];simp;congr 1;omega
  ·exact below_row (hb2.drew.mono hb) hb _
  intro k hk hne;rw[setRow_other w2.drew w.heap.size k _ (by omega)];exact hb2.block k hk)
 clear hS4 hS1 hC1 hg1 hv1 hol hdl h2 h1 hv hxl hg2 hcell hsrc hpl hXl hb1 hb2 hvl;have hS1:=HS2.out;go_enter Try.func103,Try.ntmps103;go_wp2_with (at_builtin;refine Lib.wpList_append_run _ rfl _ _ _ _ rfl _ _ rfl rfl _ _ (hr _) ?_);refine wp_region_mix (by kernel_rfl) (some 46::some 47::some 48::some 49::some 50::some 51::some 52::some 53::some 54::[]) (none::none::none::none::none::none::none::none::some 0::[]) (.slice (some ⟨w.heap.size,0,none⟩) (c+1) cap::iv (i:Int)::iv 1::iv ((i:Int)+1)::.slice (some ⟨w.heap.size,(i+1)*5,none⟩) (c-i) (cap-(i+1))::.slice (some ⟨g,0,none⟩) c c::iv (i:Int)::.slice (some ⟨g,i*5,none⟩) (c-i) (c-i)::undef::[]) 1 (insJ w2 (w2.setRow w.heap.size (over (over (xs.take (i*5)++Z) (i*5) ns) ((i+1)*5) (xs.drop (i*5))).toArray)) 95 rfl rfl (by decide+kernel) (by decide+kernel) (by decide+kernel) (by decide+kernel) rfl rfl (by decide+kernel) (by decide+kernel) (rfl) ?_ ?_
 ·refine⟨?_,?_,?_,?_,?_,?_,?_,?_,?_,trivial⟩
  ·intro done cv k1 a wq hw h hJ hn;have e1:=mO 9 (.slice (some ⟨w.heap.size,0,none⟩) (c+1) cap) h;exact mx_move (ch_ev e1)
  ·exact x4n4
  ·exact x8ew
  ·intro done cv k1 a wq hw h hJ hn;have e1:=mN 1 47 h hw;have e48:=mN 2 48 h hw;have h1:=HWI.out;go_simp
  ·intro done cv k1 a wq hw h hJ hn;have e1:=mN 0 46 h hw;have e49:=mN 3 49 h hw;have h1:=HS1.out;go_simp
  ·intro done cv k1 a wq hw h hJ hn;have e1:=mO 0 (.slice (some ⟨g,0,none⟩) c c) h;exact mx_move (ch_ev e1)
  ·exact x4n4
  ·intro done cv k1 a wq hw h hJ hn;have e1:=mN 5 51 h hw;have e52:=mN 6 52 h hw;have h1:=HS2.out;go_simp
  ·intro done cv a wq hw h hJ;have e1:=mN 4 50 h hw;have e53:=mN 7 53 h hw;obtain rfl:wq=w2.drew:=hJ;refine wp_copyN (.tmp 50) (.tmp 53) 43 43 rfl _ _ (ch_ev e1) (ch_ev e53) (HC1.out _ _ _) ⟨_,rfl,?_⟩;exact⟨rfl,trivial⟩
 intro cv w1 hJ;obtain⟨rfl,-⟩:=hJ;simp only[mixAll,putAll_some,putAll_none,putAll_nil,List.getElem?_cons_zero,List.getElem?_cons_succ,Nat.zero_add,Nat.reduceAdd,List.setIfInBounds_toArray,List.set_cons_zero,List.set_cons_succ];go_wp2_with fail;go_ret;exact HEND.out
theorem insChunks_calls(A:OA)(n c i:Nat)(xs:List Value)(v:Nat)(ns:List Value)(tV:TypeId)(w:World)(base:Nat)(hO:Own w base 49 5 A n c xs)(hns:ns.length=5)(hv:w.heap[v]?=some (.cells ns.toArray tV (0,0)))(hvg:A.map (·.block)≠some v)(h1:∀u∈ns,u.oneCell'=true)(h2:∀u∈xs,u.oneCell'=true)(hb:base<=w.heap.size)(hn:n<=1000)(hi:i<=n):
  Calls Try.prog 103 #[.slice A n c,iv i,.slice (some ⟨v,0,none⟩) 1 1] w (InsRet w base n A (xs.take (i*5)++ns++xs.drop (i*5))):=by
 have hsv:Src w (some ⟨v,0,none⟩) ns:=by
  intro j hj;refine⟨v,0,rfl,blk_lt hv,?_⟩;rw[cell_of_row _ _ _ _ _ _ hv];simp[hj]
 have hxl:=hO.len;rcases hO.2 with ⟨hv0,h0⟩|⟨g,cap,cur,hv0,hbg,hgc,hncap,hmax,hcs,hxs⟩
 ·injection hv0 with e1 e2 e3;subst e1 e2 e3;obtain rfl:i=0:=by omega
  have hx1:xs=[]:=List.eq_nil_of_length_eq_zero (by omega);subst hx1;simpa using insEnd0_calls ⟨v,0,none⟩ 1 ns w base hns hsv h1 hb
 injection hv0 with e1 e2 e3;subst e1;rcases Nat.lt_or_ge i n with hlt|hge
 ·rcases Nat.lt_or_ge c (n+1)with hc|hc
  ·exact insGrow_calls g n c i xs v 1 ns tV w base hO hns hv h1 h2 hb hn hlt hc
  ·exact insRoom_calls g n c i xs v 1 ns tV w base hO hns hv (fun e=>hvg (by rw[e];rfl)) h1 h2 hb hn hlt hc
 obtain rfl:i=n:=by omega
 rw[List.take_of_length_le (by omega),List.drop_eq_nil_of_le (by omega),List.append_nil];exact insEnd_calls g i c xs ⟨v,0,none⟩ 1 ns w base hO hns hsv h1 hb hn
theorem x0ek(h:Y:=by
 refine⟨by omega,⟨?_,?_⟩,⟨?_,?_⟩,⟨?_,?_⟩,⟨?_,?_⟩⟩<;>omega):Y:=h
theorem lined_len:∀(l:List Chk) (q:Chk),chkCheck q=0->Lined (some q) l->(l.length:Int)<=51-q.n
 |[],q,hq,_=>by
  have h:=(chkCheck_ok.1 hq).1;unfold Chk.range at h;simp only[List.length_nil];omega
 |c::l,q,hq,h=>by
  unfold Lined at h;have ih:=lined_len l c h.1 h.2.2;have h2:=(h.2.1 q rfl).2;simp only[List.length_cons];omega
theorem chkList_len(h:chkList l=0):l.length<=52:=by
 unfold chkList at h;rw[listGo_ok]at h;rcases l with _|⟨c,l⟩
 ·simp
 unfold Lined at h;have h1:=lined_len l c h.1 h.2.2;have h1:=(chkCheck_ok.1 h.1).1;unfold Chk.range at h1;simp only[List.length_cons];omega
theorem insAt_is{n:Int}(hk:k<=l.length)(h1:∀(j:Nat) (h:j<l.length),j<k->l[j].n<n)(h2:∀h:k<l.length,¬l[k].n<n):insAt l n=k:=by
 unfold insAt;have e:l.takeWhile (fun c=>decide (c.n<n))=l.take k:=by
  conv=>lhs;rw[<-List.take_append_drop k l]
  rw[List.takeWhile_append_of_pos (fun a ha=>by
   obtain⟨j,hj,rfl⟩:=List.mem_iff_getElem.1 ha;simp only[List.length_take]at hj;simp only[List.getElem_take];exact decide_eq_true (h1 j (by omega) (by omega)))]
  rcases Nat.lt_or_ge k l.length with hlt|hge
  ·rw[List.drop_eq_getElem_cons hlt,List.takeWhile_cons_of_neg (by simpa using h2 hlt),List.append_nil]
  rw[List.drop_eq_nil_of_le hge];simp
 rw[e,List.length_take];omega
theorem chkAdd_err1(h:chkList l≠0):chkAdd l c=([],chkList l):=by unfold chkAdd;rw[if_pos h]
theorem chkAdd_err2(h:chkList l=0)(g:chkCheck c≠0):chkAdd l c=([],chkCheck c):=by unfold chkAdd;rw[if_neg (by simpa using h),if_pos g]
theorem chkAdd_other{y:Chk}(h:chkList l=0)(g:chkCheck c=0)(hy:l[0]?=some y)(hk:¬kin y c):chkAdd l c=([c],0):=by
 unfold chkAdd;rw[if_neg (by simpa using h),if_neg (by simpa using g)];rcases l with _|⟨x,r⟩
 ·simp at hy
 have e:x=y:=by simpa using hy
 subst e;dsimp only;rw[if_pos hk]
theorem chkAdd_is(h:chkList l=0)(g:chkCheck c=0)(hkin:∀y,l[0]?=some y->kin y c)(hk:k<=l.length)(h1:∀(j:Nat) (h:j<l.length),j<k->l[j].n<c.n)(h2:∀h:k<l.length,¬l[k].n<c.n):
  (∀h:k<l.length,l[k].n=c.n->chkAdd l c=(l,0))∧((∀h:k<l.length,l[k].n≠c.n)->chkAdd l c=(l.take k++c::l.drop k,0)):=by
 have hins:=insAt_is hk h1 h2;obtain⟨hl1,hl2⟩:=chkList_ok.1 h;have hpw:=List.pairwise_iff_getElem.1 hl2;rcases l with _|⟨x,r⟩
 ·refine⟨fun h=>by simp at h,fun _=>?_⟩;unfold chkAdd;rw[if_neg (by simpa using h),if_neg (by simpa using g)];have:k=0:=by simpa using hk
  subst this;rfl
 have hx:=hkin x rfl;refine⟨fun hlt e=>?_,fun hne=>?_⟩
 ·unfold chkAdd;rw[if_neg (by simpa using h),if_neg (by simpa using g)];dsimp only;rw[if_neg (by simpa using hx),if_pos ⟨_,List.getElem_mem hlt,e⟩]
 unfold chkAdd;rw[if_neg (by simpa using h),if_neg (by simpa using g)];dsimp only;rw[if_neg (by simpa using hx),if_neg ?_,hins];rintro⟨y,hy,hyn⟩;obtain⟨j,hj,rfl⟩:=List.mem_iff_getElem.1 hy;rcases Nat.lt_trichotomy j k with hjk|hjk|hjk
 ·have:=h1 j hj hjk;omega
 ·subst hjk;exact hne hj hyn
 have h1:=(hpw k j (by omega) hj hjk).2;have h1:=h2 (by omega);omega
theorem own_blk5{e:Option Addr×Nat}(h:w.heap[g]?=some (.cells (chkA x.from_ x.to_ x.n x.of_ e.1 x.data.length e.2) 49 (0,0)))(hb:base<=g):Own w base 49 5 (some ⟨g,0,none⟩) 1 1 (kChk.cell x e):=
 ⟨by simp[kChk],Or.inr ⟨g,1,_,rfl,hb,h,nl,by unfold maxLen;omega,by simp[chkA],by simp[kChk,chkA]⟩⟩
theorem grow_one{e:Option Addr×Nat}(h:w.heap[g]?=some (.cells (chkA x.from_ x.to_ x.n x.of_ e.1 x.data.length e.2) 49 (0,0)))(hb:base<=g)(hd:Bts w e.1 x.data)(hd2:x.data.length<=e.2)(hne:∀k,e.1.map (·.block)=some k->k≠g):GRow kChk w base [x] [e] (some ⟨g,0,none⟩) 1:=
 ⟨rfl,by rw[cells_one];exact own_blk5 h hb,fun i o d h1 h2=>by
   match i with
   |0=>
    have e1:x=o:=by simpa using h1
    have e2:e=d:=by simpa using h2
    subst e1 e2;exact⟨hd,hd2⟩
   |i+1=>simp at h1,fun i o d h1 h2 hx k hk e3=>by
   match i with
   |0=>
    have e2:e=d:=by simpa using h2
    subst e2;have e4:g=k:=by simpa using e3
    exact hne k hk e4.symm
   |i+1=>simp at h1⟩
theorem each_one{e:Option Addr×Nat}{P:Nat->Prop}(h:∀k,e.1.map (·.block)=some k->P k):Each kChk [x] [e] P:=fun i o d h1 h2 hx k hk=>by
 match i with
 |0=>
  have e2:e=d:=by simpa using h2
  subst e2;exact h k hk
 |i+1=>simp at h1
theorem GRow.chkAt{c:Nat}(h:GRow kChk w base l ds (some ⟨g,0,none⟩) c){i:Nat}(hi:l[i]?=some x):∃B d,ChkAt w g (i*5) x B d:=by
 have hil:=(List.getElem?_eq_some_iff.1 hi).1;have hd:ds[i]?=some (ds[i]'(by rw[h.len];exact hil)):=List.getElem?_eq_getElem _;have hc:∀j,j<5->w.cell? ⟨g,i*5+j,none⟩=(kChk.cell x (ds[i]'(by rw[h.len];exact hil)))[j]?:=fun j hj=>by
  rw[h.row.cellAt _ (show i*5+j<l.length*5 by omega)];exact cells_at (K:=kChk) l ds h.len i j x _ hi hd hj
 exact⟨_,_,hc 0 (by decide),hc 1 (by decide),hc 2 (by decide),hc 3 (by decide),hc 4 (by decide)⟩
theorem ins_at{α:Type}{l:List α}{x o:α}{i:Nat}(hk:k<=l.length)(h:(l.take k++x::l.drop k)[i]?=some o):(i<k∧l[i]?=some o)∨(i=k∧o=x)∨(k<i∧l[i-1]?=some o):=by
 rcases Nat.lt_trichotomy i k with hi|hi|hi
 ·rw[List.getElem?_append_left (by simp;omega),List.getElem?_take,if_pos hi]at h;exact .inl ⟨hi,h⟩
 ·subst hi;rw[List.getElem?_append_right (by simp;omega)]at h;have:i-(l.take i).length=0:=by simp;omega
  rw[this]at h;simp at h;exact .inr (.inl ⟨rfl,h.symm⟩)
 rw[List.getElem?_append_right (by simp;omega)]at h;have:i-(l.take k).length=(i-k-1)+1:=by simp;omega
 rw[this,List.getElem?_cons_succ,List.getElem?_drop]at h;exact .inr (.inr ⟨hi,by rw[show i-1=k+(i-k-1) by omega];exact h⟩)
theorem GRow.ins{w':World}{B:Nat}{A A':OA}{c c':Nat}{e:Option Addr×Nat}(h:GRow kChk w base l ds A c)(hk:k<=l.length)
  (h1:Own w' base 49 5 A' (l.length+1) c' ((kChk.cells l ds).take (k*5)++kChk.cell x e++(kChk.cells l ds).drop (k*5))) (hb:Below B w w') (hkk:∀k,k<w.heap.size->A.map (·.block)≠some k->w'.heap[k]?=w.heap[k]?) (h3:A'.map (·.block)=A.map (·.block)∨∀k,A'.map (·.block)=some k->w.heap.size<=k)
  (hd:Bts w e.1 x.data) (hd2:x.data.length<=e.2) (hd3:x.data≠[]->∀k,e.1.map (·.block)=some k->A.map (·.block)≠some k):GRow kChk w' base (l.take k++x::l.drop k) (ds.take k++e::ds.drop k) A' c':=by
 have hlen:=h.len;have hc:=cells_take (K:=kChk) l ds hlen k hk;refine h.remake (by simp;omega) ?_ hb hkk h3 fun i o d hi hd'=>?_
 ·have e1:kChk.cells (l.take k++x::l.drop k) (ds.take k++e::ds.drop k)=(kChk.cells l ds).take (k*5)++kChk.cell x e++(kChk.cells l ds).drop (k*5):=by
   rw[cells_append _ _ _ _ (by simp;omega),show kChk.cells (x::l.drop k) (e::ds.drop k)=kChk.cell x e++kChk.cells (l.drop k) (ds.drop k) from rfl,hc.1,hc.2,List.append_assoc];rfl
  rw[e1,show (l.take k++x::l.drop k).length=l.length+1 by simp;omega];exact h1
 rcases ins_at hk hi with ⟨h4,h5⟩|⟨h4,h5⟩|⟨h4,h5⟩
 ·rcases ins_at (by omega) hd' with ⟨_,h7⟩|⟨h6,_⟩|⟨h6,_⟩
  ·exact .inl ⟨i,h5,h7⟩
  ·omega
  ·omega
 ·rcases ins_at (by omega) hd' with ⟨h6,_⟩|⟨_,h7⟩|⟨h6,_⟩
  ·omega
  ·subst h5 h7;exact .inr ⟨hd,hd2,hd3⟩
  ·omega
 rcases ins_at (by omega) hd' with ⟨h6,_⟩|⟨h6,_⟩|⟨_,h7⟩
 ·omega
 ·omega
 exact .inl ⟨i-1,h5,h7⟩
theorem Each.ins{e:Option Addr×Nat}{P:Nat->Prop}(h:Each kChk l ds P)(hl:ds.length=l.length)(hk:k<=l.length)(hd:∀k,e.1.map (·.block)=some k->P k):Each kChk (l.take k++x::l.drop k) (ds.take k++e::ds.drop k) P:=fun i o d hi hd' hx q hq=>by
 rcases ins_at hk hi with ⟨h4,h5⟩|⟨h4,h5⟩|⟨h4,h5⟩
 ·rcases ins_at (by omega) hd' with ⟨_,h7⟩|⟨h6,_⟩|⟨h6,_⟩
  ·exact h i o d h5 h7 hx q hq
  ·omega
  ·omega
 ·rcases ins_at (by omega) hd' with ⟨h6,_⟩|⟨_,h7⟩|⟨h6,_⟩
  ·omega
  ·subst h7;exact hd q hq
  ·omega
 rcases ins_at (by omega) hd' with ⟨h6,_⟩|⟨h6,_⟩|⟨_,h7⟩
 ·omega
 ·omega
 exact h (i-1) o d h5 h7 hx q hq
theorem x0q5(h:Y:=by
 clear hO1 hv1 hvg1;go_wp2_with fail;refine HIN.out.mono ?_;rintro e w7 ⟨A',c',rfl,hown,hb1,hk1,hor1⟩;have hba1:=(bW wy).alloc nl (.cells (chkA x.from_ x.to_ x.n x.of_ B1 x.data.length d5) 49);have hG1:=(HG2.out.below hba1).ins (x:=x) (e:=(B1,d5)) (k:=l.length) (by omega) hown hb1 hk1 hor1 (HD3.out.stays hba1) hd1 (fun _ q e e2=>by have h5:=HBB.out q e;have h6:=HA1.out q e2;omega);have HG4:=qH hG1;have HB7:Hid (Below g0 w w7):=qH ((HB6.out.alloc (by omega) _).trans (hb1.mono (by omega)));clear hown hb1 hk1 hor1 hba1 hG1 HIN;go_wp2_with fail;go_ret2;rw[HZ.out];have hlen:(l.take l.length++x::l.drop l.length).length=l.length+1:=by rw[List.length_append,List.length_take,List.length_cons,List.length_drop];omega
 refine⟨A',c',_,by rw[hlen];rfl,HG4.out.mono (by rw[HGE.out];omega),(HN2.out.imp fun q hq=>by rw[HGE.out];omega).ins HG2.out.len (by omega) (fun q e=>by have:=HBB.out q e;rw[HGE.out];omega),HGE.out.symm▸HB7.out⟩):Y:=h
theorem x1vw(h:Y:=by
 refine⟨.inl ⟨rfl,?_⟩,.inl ⟨rfl,?_⟩,.inl ⟨rfl,?_⟩,.inl ⟨rfl,?_⟩,.inl ⟨rfl,?_⟩,.inl ⟨rfl,?_⟩,.inl ⟨rfl,?_⟩,.inl ⟨rfl,?_⟩,.inl ⟨rfl,?_⟩,.inl ⟨rfl,?_⟩,.inl ⟨rfl,?_⟩,trivial⟩;all_goals intro done a wq hw h
 ·have e1:=cO 0 (.slice (some ⟨g,0,none⟩) l.length c1) h;exact ch_move (ch_ev e1)
 ·have e2:=cN 0 25 h hw;refine ch_pure ?_;go_simp
 ·have e1:=cN 1 26 h hw;have h1:=HL1.out;have h2:=HLN.out;refine ch_pure ?_;go_simp
 ·have e2:=cN 2 27 h hw;exact ch_move (ch_ev e2)
 ·have e1:=cO 0 (.slice (some ⟨g,0,none⟩) l.length c1) h;exact ch_move (ch_ev e1)
 ·have e2:=cN 4 29 h hw;have h1:=HL1.out;have h2:=HLN.out;refine ch_pure ?_;go_simp
 ·have e1:=cN 5 30 h hw;obtain⟨c0,c1_,c2,c3,c4⟩:=HQ.out wq (HD.out wq h.bel);refine ch_pure ?_;go_simp
 ·have e2:=cO 3 (.pointer (some ⟨g0,0,none⟩)) h;have y_:=keep1 h.bel R1 (by go_simp) F1;refine ch_pure ?_;go_simp
 ·have e1:=cN 6 31 h hw;have e32:=cN 7 32 h hw;exact ch_call (vals:=#[.agg (chkA q.from_ q.to_ q.n q.of_ D q.data.length dq),.agg (chkA x.from_ x.to_ x.n x.of_ B1 x.data.length d5)]) (by go_simp) (by go_simp) (by have:=kinY_calls D B1 dq d5 q x wq;rwa [HKN.out]at this)
 ·have e2:=cN 8 33 h hw;refine ch_pure ?_;go_simp
 ·have e1:=cN 3 28 h hw;have e34:=cN 9 34 h hw;exact ch_pick_t e1 (ch_ev e34)):Y:=h
theorem chkAdd_calls(A B:OA)(c d:Nat)(l:List Chk)(x:Chk)(w:World)(hl:l.length<=2513169434843)(hs:Chs w A l)(hx:ChkIn w x B d):
  Calls Try.prog 36 #[.slice A l.length c,.agg (chkA x.from_ x.to_ x.n x.of_ B x.data.length d)] w (ChkRet2 w (chkAdd l x).1 (chkAdd l x).2):=by
 have HS:=qH hs;have HX:=qH hx;have K1:=qH (fun w h=>chkList_calls A c l w hl h);have K2:=qH (fun w=>chkCheckX_calls B d x w ⟨hx.i2,hx.i3⟩);have K3:=qH (fun w (hm:l.length<=1048000) h=>chkCopy_calls A c l w (by omega) h);have K4:=qH (fun w h=>cloneBytes_calls B x.data.length d (x.data.map bv) w (by simp) (by have:=hx.len;omega) h (bv_one _));have hba:=(bW w).alloc nl (.cells (chkA x.from_ x.to_ x.n x.of_ B x.data.length d) 49);have HBA:=qH hba;clear hs hx hba;by_cases he1:chkList l≠0
 ·have hz:=chkAdd_err1 (c:=x) he1;rw[hz];have q:(chkList l !=0)=true:=by simp[he1]
  generalize chkList l=e1 at *
  clear he1 hz;go_enter Try.func36,Try.ntmps36;go_wp2_with fail;refine(K1.out _ (HS.out.stays HBA.out)).mono ?_;rintro e w1 ⟨rfl,hb1⟩;have HB1:=bT HBA hb1;clear hb1;go_wp2_with fail;go_ret2;exact⟨none,0,[],rfl,GRow.nil _ _,Each.nil,HB1.out⟩
 have he1:=Decidable.not_not.1 he1;rw[he1]at K1;by_cases he2:chkCheck x≠0
 ·have hz:=chkAdd_err2 he1 he2;rw[hz];have q:(chkCheck x !=0)=true:=by simp[he2]
  generalize chkCheck x=e2 at *
  clear he1 he2 hz;go_enter Try.func36,Try.ntmps36;go_wp2_with fail;refine(K1.out _ (HS.out.stays HBA.out)).mono ?_;rintro e w1 ⟨rfl,hb1⟩;obtain⟨a0r,a0f,a0n,a0c,a0z,a0l⟩:=kp (w.heap.size) (chkA x.from_ x.to_ x.n x.of_ B x.data.length d) hb1;have HB1:=bT HBA hb1;clear hb1;go_wp2_with fail;refine(K2.out _).mono ?_;rintro e w2 ⟨rfl,hb1⟩;have HB2:=bT HB1 hb1;clear hb1;go_wp2_with fail;go_ret2;exact⟨none,0,[],rfl,GRow.nil _ _,Each.nil,HB2.out⟩
 have he2:=Decidable.not_not.1 he2;rw[he2]at K2;have hll:=chkList_len he1;have HE1:=qH he1;have HE2:=qH he2;clear he1 he2;obtain⟨r,hr⟩:=eX (chkAdd l x);rw[hr];have HR:=qH hr;clear hr;go_enter Try.func36,Try.ntmps36;go_wp2_with fail;refine(K1.out _ (HS.out.stays HBA.out)).mono ?_;rintro e w1 ⟨rfl,hb1⟩;obtain⟨a0r,a0f,a0n,a0c,a0z,a0l⟩:=kp (w.heap.size) (chkA x.from_ x.to_ x.n x.of_ B x.data.length d) hb1;have HB1:=bT HBA hb1;clear hb1;go_wp2_with fail;refine(K2.out _).mono ?_;rintro e w2 ⟨rfl,hb1⟩;have b1:=keep1 (g:=w.heap.size) (cs:=chkA x.from_ x.to_ x.n x.of_ B x.data.length d) hb1 a0r (by go_simp) a0f;have HB2:=bT HB1 hb1;clear hb1 a0r a0f a0n a0c a0z a0l;go_wp2_with fail;refine(K3.out _ (by omega) (HS.out.stays HB2.out)).mono ?_;rintro e w3 ⟨A1,c1,ds,rfl,hg1,hn1,hb1⟩;obtain⟨a0r,a0f,a0n,a0c,a0z,a0l⟩:=keep1 (g:=w.heap.size) (cs:=chkA x.from_ x.to_ x.n x.of_ B x.data.length d) hb1 b1.1 (by go_simp) b1.2.1;have HB3:=bT HB2 hb1;have HG1:=qH hg1;have HN1:=qH hn1;have hs1:=HB2.out.size;have hg2:w.heap.size<w2.heap.size:=b1.2.2.2.2.2;have hs2:=hb1.size;clear hb1 b1 hg1 hn1;go_wp2_with fail;refine(K4.out _ (HX.out.data.stays HB3.out).src).mono ?_;rintro e w4 ⟨B1,d5,rfl,ho1,hb1⟩;have b1:=keep1 (g:=w.heap.size) (cs:=chkA x.from_ x.to_ x.n x.of_ B x.data.length d) hb1 a0r (by go_simp) a0f;have HB4:=bT HB3 hb1;have HG2:=qH (HG1.out.below hb1);have hs3:=HB3.out.size;have hs4:w2.heap.size<=w4.heap.size:=Nat.le_trans hs2 hb1.size;have HO1:=qH ho1;clear hb1 a0r a0f a0n a0c a0z a0l ho1;go_wp2_with fail;have hG1:GRow kChk (w4.setCell ⟨w.heap.size,4,none⟩ (.slice B1 x.data.length d5)) w2.heap.size l ds A1 c1:=HG2.out.setOther (fun e=>by have:=(HG2.out.row.block _ e).1;omega) (HN1.out.imp fun k hk=>by omega) _;have hD1:Bts (w4.setCell ⟨w.heap.size,4,none⟩ (.slice B1 x.data.length d5)) B1 x.data:=(HO1.out.setCell_other (p:=⟨w.heap.size,4,none⟩) (fun e=>by have:=(HO1.out.block _ e).1;have h2:w.heap.size=w.heap.size:=rfl;simp only at this;omega) _).src.bts;have hs25':w2.heap.size<=(w4.setCell ⟨w.heap.size,4,none⟩ (.slice B1 x.data.length d5)).heap.size:=by simpa using hs4
 have hb1:Below w.heap.size w (w4.setCell ⟨w.heap.size,4,none⟩ (.slice B1 x.data.length d5)):=HB4.out.setCell (p:=⟨w.heap.size,4,none⟩) nl _;have R1:rowOf (w4.setCell ⟨w.heap.size,4,none⟩ (.slice B1 x.data.length d5)) w.heap.size=chkA x.from_ x.to_ x.n x.of_ B1 x.data.length d5:=by rw[rowOf_setCell,if_pos rfl,b1.1,chkA_set4]
 have F1:frOf (w4.setCell ⟨w.heap.size,4,none⟩ (.slice B1 x.data.length d5)) w.heap.size=(0,0):=by rw[frOf_setCell,b1.2.1]
 have hB5b:∀k,B1.map (·.block)=some k->w3.heap.size<=k:=fun k e=>(HO1.out.block k e).1;have hd1:x.data.length<=d5:=HO1.out.le;have HA1:Hid (∀k,A1.map (·.block)=some k->k<w3.heap.size):=qH (fun k e=>(HG1.out.row.block k e).2);have HBL:Hid (∀k,B1.map (·.block)=some k->k<(w4.setCell ⟨w.heap.size,4,none⟩ (.slice B1 x.data.length d5)).heap.size):=qH (fun k e=>by simpa using (HO1.out.block k e).2);have HG3:=qH hG1;have HD1:=qH hD1;have HB5:=qH hb1;have HR1:=qH (And.intro R1 F1);have HBB:=qH hB5b;have HN2:=HN1;clear hG1 hD1 hb1 R1 F1 hB5b b1 HG2 HO1 HB4 HG1 HN1;generalize w4.setCell ⟨w.heap.size,4,none⟩ (.slice B1 x.data.length d5)=w5 at *
 generalize hg0e:w.heap.size=g0 at *
 have HGE:=qH hg0e;clear hg0e;have HD:Hid (∀wq,Below w5.drew.heap.size w5.drew wq->Below w5.heap.size w5 wq):=qH (fun wq h=>(bW w5).drew.trans h);have R1:rowOf w5.drew g0=chkA x.from_ x.to_ x.n x.of_ B1 x.data.length d5:=HR1.out.1;have F1:frOf w5.drew g0=(0,0):=HR1.out.2;have hs5:=HB5.out.size;by_cases hl1:l.length=0
 ·have HL1:=qH hl1;have HKN1:Hid (∀y,l[0]?=some y->kin y x):=qH (fun y h=>by rw[List.getElem?_eq_none (by omega)]at h;cases h);clear hl1;refine wp_region_chain (by kernel_rfl) (some 25::some 26::some 27::some 28::some 29::some 30::some 31::some 32::some 33::some 34::some 35::[]) (.slice A1 l.length c1::iv (l.length:Int)::.bool false::.bool false::undef::undef::undef::undef::undef::undef::.bool false::[]) 74 rfl rfl (by decide+kernel) (by decide+kernel) (by decide+kernel) rfl ?_ ?_
  ·refine⟨.inl ⟨rfl,?_⟩,.inl ⟨rfl,?_⟩,.inl ⟨rfl,?_⟩,.inl ⟨rfl,?_⟩,.inr ⟨rfl,rfl⟩,.inr ⟨rfl,rfl⟩,.inr ⟨rfl,rfl⟩,.inr ⟨rfl,rfl⟩,.inr ⟨rfl,rfl⟩,.inr ⟨rfl,rfl⟩,.inl ⟨rfl,?_⟩,trivial⟩;all_goals intro done a wq hw h
   ·have e1:=cO 0 (.slice A1 l.length c1) h;exact ch_move (ch_ev e1)
   ·have e2:=cN 0 25 h hw;refine ch_pure ?_;go_simp
   ·have e1:=cN 1 26 h hw;have h1:=HL1.out;refine ch_pure ?_;go_simp
   ·have e2:=cN 2 27 h hw;exact ch_move (ch_ev e2)
   ·have e1:=cN 3 28 h hw;exact ch_pick_f e1 rfl
  intro w6 hb1;simp only[putAll_some,putAll_none,putAll_nil,List.setIfInBounds_toArray,List.set_cons_zero,List.set_cons_succ];obtain⟨a0r,a0f,a0n,a0c,a0z,a0l⟩:=keep1 (g:=g0) (cs:=chkA x.from_ x.to_ x.n x.of_ B1 x.data.length d5) hb1 R1 (by go_simp) F1;have HB4:Hid (Below g0 w w6):=qH (HB5.out.trans (hb1.mono (by omega)));have HG1:=qH (HG3.out.below hb1);have HD2:=qH (HD1.out.stays hb1);have hs6:=hb1.size;have HRF:=qH (And.intro a0r a0f);clear hb1 R1 F1 a0r a0f a0n a0c a0z;go_wp2_with fail;go_loopw [8] (fun i wr=>∃k:Nat,k<=l.length∧i=iv k∧Hid (∀(j:Nat) (h:j<l.length),j<k->l[j].n<x.n)∧Hid (Below w6.heap.size w6 wr)) (fun i _=>l.length-(intOf i).toNat)
  case atStart=>exact⟨0,Nat.zero_le _,rfl,qH (fun j h hj=>by omega),qH (Below.refl _ _)⟩
  case round=>
   rename World=>wr;obtain⟨k,hk,rfl,HLT,HBR⟩:=hrel;have b1:=keep1 (g:=g0) (cs:=chkA x.from_ x.to_ x.n x.of_ B1 x.data.length d5) HBR.out HRF.out.1 (by go_simp) HRF.out.2;have HGR:=qH (HG1.out.below HBR.out);have HDR:=qH (HD2.out.stays HBR.out);have HBW:Hid (Below g0 w wr):=qH (HB4.out.trans (HBR.out.mono (by omega)));have hsr:=HBR.out.size;by_cases hlt:k<l.length
   ·exfalso;have:=HL1.out;omega
   obtain rfl:k=l.length:=by omega
   have dl:decide ((l.length:Int)<(l.length:Int))=false:=by simp
   have hz:=(chkAdd_is HE1.out HE2.out HKN1.out nl (fun j h hj=>HLT.out j h hj) (fun h=>absurd h (Nat.lt_irrefl _))).2 (fun h=>absurd h (Nat.lt_irrefl _));rw[HR.out]at hz;have HZ:=qH hz;clear hz;go_wp2_with fail;go_quiet (fail)
   go_wp2_with fail;obtain⟨wx,hwx⟩:=eX (wr.drewN nq);rw[hwx];have hbx:Below wr.heap.size wr wx:=hwx▸below_drewN wr nq;have HGR:=qH (HGR.out.below hbx);have HDR:=qH (HDR.out.stays hbx);have HBW:Hid (Below g0 w wx):=qH (HBW.out.trans (hbx.mono (by omega)));have hsr:=Nat.le_trans hsr hbx.size;have b1:=keep1 (g:=g0) (cs:=chkA x.from_ x.to_ x.n x.of_ B1 x.data.length d5) hbx b1.1 (by go_simp) b1.2.1;clear hwx hbx;go_quiet (fail)
   obtain⟨wy,hwx⟩:=eX (wx.drewN nq);rw[hwx];have hbx:Below wx.heap.size wx wy:=hwx▸below_drewN wx nq;have HGR:=qH (HGR.out.below hbx);have HDR:=qH (HDR.out.stays hbx);have HBW:Hid (Below g0 w wy):=qH (HBW.out.trans (hbx.mono (by omega)));have hsr:=Nat.le_trans hsr hbx.size;have b1:=keep1 (g:=g0) (cs:=chkA x.from_ x.to_ x.n x.of_ B1 x.data.length d5) hbx b1.1 (by go_simp) b1.2.1;clear hwx hbx;have HG2:=HGR;have HD3:=HDR;have HB6:=HBW;have hO1:=HG2.out.row.alloc (.cells (chkA x.from_ x.to_ x.n x.of_ B1 x.data.length d5) 49);have hv1:(wy.alloc (.cells (chkA x.from_ x.to_ x.n x.of_ B1 x.data.length d5) 49)).heap[wy.heap.size]?=some (.cells (kChk.cell x (B1,d5)).toArray 49 (0,0)):=blk_top rfl;have hvg1:A1.map (·.block)≠some wy.heap.size:=fun e=>by have:=(HG2.out.row.block _ e).2;omega
   have hbs1:w2.heap.size<=(wy.alloc (.cells (chkA x.from_ x.to_ x.n x.of_ B1 x.data.length d5) 49)).heap.size:=by simp;omega
   have HIN:=qH (insChunks_calls A1 l.length c1 l.length (kChk.cells l ds) wy.heap.size (kChk.cell x (B1,d5)) 49 _ w2.heap.size hO1 rfl hv1 hvg1 (kChk.one _ _) (cells_oneCell _ _) hbs1 (by omega) (by omega));exact x0q5
 have hlp:0<l.length:=by omega
 obtain⟨g,rfl,hgb,hgl⟩:=HG3.out.row.form hlp;obtain⟨q,hq⟩:∃q,l[0]?=some q:=⟨_,List.getElem?_eq_getElem hlp⟩;obtain⟨D,dq,hat⟩:=HG3.out.chkAt hq;rw[Nat.zero_mul]at hat;have HQ:Hid (∀wq,Below w5.heap.size w5 wq->ChkAt wq g 0 q D dq):=qH (fun wq h=>hat.stays hgl h);have HL1:Hid (0<l.length):=qH hlp;have HLN:Hid (¬l=[]):=qH (fun e=>by rw[e]at hlp;simp at hlp);have HQE:=qH hq;clear hl1 hat hq;by_cases hkn:kin q x
 ·have HKN:Hid (decide (kin q x)=true):=qH (decide_eq_true hkn);have HKN1:Hid (∀y,l[0]?=some y->kin y x):=qH (fun y h=>by rw[HQE.out]at h;injection h with h;subst h;exact hkn);clear hkn;refine wp_region_chain (by kernel_rfl) (some 25::some 26::some 27::some 28::some 29::some 30::some 31::some 32::some 33::some 34::some 35::[]) (.slice (some ⟨g,0,none⟩) l.length c1::iv (l.length:Int)::.bool true::.bool true::.slice (some ⟨g,0,none⟩) l.length c1::.pointer (some ⟨g,0,none⟩)::.agg (chkA q.from_ q.to_ q.n q.of_ D q.data.length dq)::.agg (chkA x.from_ x.to_ x.n x.of_ B1 x.data.length d5)::.bool true::.bool false::.bool false::[]) 74 rfl rfl (by decide+kernel) (by decide+kernel) (by decide+kernel) rfl ?_ ?_
  ·exact x1vw
  intro w6 hb1;simp only[putAll_some,putAll_none,putAll_nil,List.setIfInBounds_toArray,List.set_cons_zero,List.set_cons_succ];obtain⟨a0r,a0f,a0n,a0c,a0z,a0l⟩:=keep1 (g:=g0) (cs:=chkA x.from_ x.to_ x.n x.of_ B1 x.data.length d5) hb1 R1 (by go_simp) F1;have HB4:Hid (Below g0 w w6):=qH (HB5.out.trans (hb1.mono (by omega)));have HG1:=qH (HG3.out.below hb1);have HD2:=qH (HD1.out.stays hb1);have hs6:=hb1.size;have HRF:=qH (And.intro a0r a0f);clear hb1 R1 F1 a0r a0f a0n a0c a0z;go_wp2_with fail;go_loopw [8] (fun i wr=>∃k:Nat,k<=l.length∧i=iv k∧Hid (∀(j:Nat) (h:j<l.length),j<k->l[j].n<x.n)∧Hid (Below w6.heap.size w6 wr)) (fun i _=>l.length-(intOf i).toNat)
  case atStart=>exact⟨0,Nat.zero_le _,rfl,qH (fun j h hj=>by omega),qH (Below.refl _ _)⟩
  case round=>
   rename World=>wr;obtain⟨k,hk,rfl,HLT,HBR⟩:=hrel;have b1:=keep1 (g:=g0) (cs:=chkA x.from_ x.to_ x.n x.of_ B1 x.data.length d5) HBR.out HRF.out.1 (by go_simp) HRF.out.2;have HGR:=qH (HG1.out.below HBR.out);have HDR:=qH (HD2.out.stays HBR.out);have HBW:Hid (Below g0 w wr):=qH (HB4.out.trans (HBR.out.mono (by omega)));have hsr:=HBR.out.size;by_cases hlt:k<l.length
   ·obtain⟨D1,d1,hat⟩:=HGR.out.chkAt (List.getElem?_eq_getElem hlt);have hgr:g<wr.heap.size:=(HGR.out.row.block g rfl).2;obtain⟨y,hy⟩:=eX (l[k]);rw[hy]at hat;have HAT:=qH hat;have HY:=qH hy;obtain⟨c5,c1_,c2,c3,c4⟩:=hat;have dl:decide ((k:Int)<(l.length:Int))=true:=decide_eq_true (by omega);have nb:¬(l.length:Int)<=(k:Int):=by omega
    have hwk:IntKind.i64.wrap ((k:Int)+1)=(k:Int)+1:=IntWalk.i64_in _ (by omega);clear hy;by_cases hn:y.n<x.n
    ·have HN:=qH hn;go_wp2_with fail;go_quiet (fail)
     go_wp2_with fail;go_roundw
     case rel=>exact⟨k+1,by omega,by go_num,qH (fun j h hj=>by
      rcases Nat.lt_or_ge j k with h1|h1
      ·exact HLT.out j h h1
      have e:j=k:=by omega
      subst e;rw[HY.out];exact HN.out),qH (Below.drewN' HBR.out _)⟩
     case measure=>simp[intOf];omega
    have his:=chkAdd_is HE1.out HE2.out HKN1.out hk (fun j h hj=>HLT.out j h hj) (fun h=>by rw[HY.out];exact hn);by_cases he:y.n=x.n
    first|case' inl=>have T14:Hid True:=qH trivial|case' pos=>have T14:Hid True:=qH trivial|case' refine_1=>have T14:Hid True:=qH trivial
    iterate 2
     ·first
       |
        revert T14;intro T14;have hz:=his.1 hlt (by rw[HY.out];exact he)
       |have hz:=his.2 (fun h=>by rw[HY.out];exact he)
      rw[HR.out]at hz;have HZ:=qH hz
      first
       |
        revert T14;intro T14;have de:(y.n==x.n)=true:=by simp[he]
       |have de:(y.n==x.n)=false:=by simp[he]
      clear hz his he;go_wp2_with fail;go_quiet (fail)
      go_wp2_with fail;obtain⟨wx,hwx⟩:=eX (wr.drewN nq);rw[hwx];have hbx:Below wr.heap.size wr wx:=hwx▸below_drewN wr nq;have hat2:=HAT.out.stays hgr hbx;have HAT:=qH hat2;have hgr:g<wx.heap.size:=Nat.lt_of_lt_of_le hgr hbx.size;have HGR:=qH (HGR.out.below hbx);have HDR:=qH (HDR.out.stays hbx);have HBW:Hid (Below g0 w wx):=qH (HBW.out.trans (hbx.mono (by omega)));have hsr:=Nat.le_trans hsr hbx.size;have b1:=keep1 (g:=g0) (cs:=chkA x.from_ x.to_ x.n x.of_ B1 x.data.length d5) hbx b1.1 (by go_simp) b1.2.1;clear hwx hbx;obtain⟨c5,c1_,c2,c3,c4⟩:=hat2;go_quiet (fail)
      obtain⟨wy,hwx⟩:=eX (wx.drewN nq);rw[hwx];have hbx:Below wx.heap.size wx wy:=hwx▸below_drewN wx nq;have hat2:=HAT.out.stays hgr hbx;have HAT:=qH hat2;have hgr:g<wy.heap.size:=Nat.lt_of_lt_of_le hgr hbx.size;have HGR:=qH (HGR.out.below hbx);have HDR:=qH (HDR.out.stays hbx);have HBW:Hid (Below g0 w wy):=qH (HBW.out.trans (hbx.mono (by omega)));have hsr:=Nat.le_trans hsr hbx.size;have b1:=keep1 (g:=g0) (cs:=chkA x.from_ x.to_ x.n x.of_ B1 x.data.length d5) hbx b1.1 (by go_simp) b1.2.1;clear hwx hbx;clear hat2
      first
       |revert T14;intro T14
       |
        have HG7:=HGR;have HD7:=HDR;have HB7:=HBW;have hO7:=HG7.out.row.alloc (.cells (chkA x.from_ x.to_ x.n x.of_ B1 x.data.length d5) 49);have hv7:(wy.alloc (.cells (chkA x.from_ x.to_ x.n x.of_ B1 x.data.length d5) 49)).heap[wy.heap.size]?=some (.cells (kChk.cell x (B1,d5)).toArray 49 (0,0)):=blk_top rfl;have hvg7:(some (⟨g,0,none⟩:Addr)).map (·.block)≠some wy.heap.size:=fun e=>by have:=(HG7.out.row.block _ e).2;omega
        have hbs7:w2.heap.size<=(wy.alloc (.cells (chkA x.from_ x.to_ x.n x.of_ B1 x.data.length d5) 49)).heap.size:=by simp;omega
        have HIN:=qH (insChunks_calls (some ⟨g,0,none⟩) l.length c1 k (kChk.cells l ds) wy.heap.size (kChk.cell x (B1,d5)) 49 _ w2.heap.size hO7 rfl hv7 hvg7 (kChk.one _ _) (cells_oneCell _ _) hbs7 (by omega) (by omega));clear hO7 hv7 hvg7;go_wp2_with fail;refine HIN.out.mono ?_;rintro e w9 ⟨A',c',rfl,hown,hb9,hk9,hor9⟩;have hba7:=(bW wy).alloc nl (.cells (chkA x.from_ x.to_ x.n x.of_ B1 x.data.length d5) 49);have hG9:=(HG7.out.below hba7).ins (x:=x) (e:=(B1,d5)) (k:=k) (by omega) hown hb9 hk9 hor9 (HD7.out.stays hba7) hd1 (fun _ q e e2=>by have h5:=HBB.out q e;have h6:=HA1.out q e2;omega);have HG9:=qH hG9;have HB9:Hid (Below g0 w w9):=qH ((HB7.out.alloc (by omega) _).trans (hb9.mono (by omega)));clear hown hb9 hk9 hor9 hba7 hG9 HIN
      go_wp2_with fail;go_ret2;rw[HZ.out]
      first
       |
        revert T14;intro T14;exact⟨_,_,ds,rfl,HGR.out.mono (by rw[HGE.out];omega),HN2.out.imp fun q hq=>by rw[HGE.out];omega,HGE.out.symm▸HBW.out⟩
       |
        have hlen:(l.take k++x::l.drop k).length=l.length+1:=by rw[List.length_append,List.length_take,List.length_cons,List.length_drop];omega
        refine⟨A',c',_,by rw[hlen];rfl,HG9.out.mono (by rw[HGE.out];omega),(HN2.out.imp fun q hq=>by rw[HGE.out];omega).ins HG7.out.len (by omega) (fun q e=>by have:=HBB.out q e;rw[HGE.out];omega),HGE.out.symm▸HB9.out⟩
   obtain rfl:k=l.length:=by omega
   have dl:decide ((l.length:Int)<(l.length:Int))=false:=by simp
   have hz:=(chkAdd_is HE1.out HE2.out HKN1.out nl (fun j h hj=>HLT.out j h hj) (fun h=>absurd h (Nat.lt_irrefl _))).2 (fun h=>absurd h (Nat.lt_irrefl _));rw[HR.out]at hz;have HZ:=qH hz;clear hz;go_wp2_with fail;go_quiet (fail)
   go_wp2_with fail;obtain⟨wx,hwx⟩:=eX (wr.drewN nq);rw[hwx];have hbx:Below wr.heap.size wr wx:=hwx▸below_drewN wr nq;have HGR:=qH (HGR.out.below hbx);have HDR:=qH (HDR.out.stays hbx);have HBW:Hid (Below g0 w wx):=qH (HBW.out.trans (hbx.mono (by omega)));have hsr:=Nat.le_trans hsr hbx.size;have b1:=keep1 (g:=g0) (cs:=chkA x.from_ x.to_ x.n x.of_ B1 x.data.length d5) hbx b1.1 (by go_simp) b1.2.1;clear hwx hbx;go_quiet (fail)
   obtain⟨wy,hwx⟩:=eX (wx.drewN nq);rw[hwx];have hbx:Below wx.heap.size wx wy:=hwx▸below_drewN wx nq;have HGR:=qH (HGR.out.below hbx);have HDR:=qH (HDR.out.stays hbx);have HBW:Hid (Below g0 w wy):=qH (HBW.out.trans (hbx.mono (by omega)));have hsr:=Nat.le_trans hsr hbx.size;have b1:=keep1 (g:=g0) (cs:=chkA x.from_ x.to_ x.n x.of_ B1 x.data.length d5) hbx b1.1 (by go_simp) b1.2.1;clear hwx hbx;have HG2:=HGR;have HD3:=HDR;have HB6:=HBW;have hO1:=HG2.out.row.alloc (.cells (chkA x.from_ x.to_ x.n x.of_ B1 x.data.length d5) 49);have hv1:(wy.alloc (.cells (chkA x.from_ x.to_ x.n x.of_ B1 x.data.length d5) 49)).heap[wy.heap.size]?=some (.cells (kChk.cell x (B1,d5)).toArray 49 (0,0)):=blk_top rfl;have hvg1:(some (⟨g,0,none⟩:Addr)).map (·.block)≠some wy.heap.size:=fun e=>by have:=(HG2.out.row.block _ e).2;omega
   have hbs1:w2.heap.size<=(wy.alloc (.cells (chkA x.from_ x.to_ x.n x.of_ B1 x.data.length d5) 49)).heap.size:=by simp;omega
   have HIN:=qH (insChunks_calls (some ⟨g,0,none⟩) l.length c1 l.length (kChk.cells l ds) wy.heap.size (kChk.cell x (B1,d5)) 49 _ w2.heap.size hO1 rfl hv1 hvg1 (kChk.one _ _) (cells_oneCell _ _) hbs1 (by omega) (by omega));exact x0q5
 have HKN:Hid (decide (kin q x)=false):=qH (decide_eq_false hkn);have hz:=chkAdd_other HE1.out HE2.out HQE.out hkn;rw[HR.out]at hz;have HZ:=qH hz;clear hkn hz;refine wp_region_chain (by kernel_rfl) (some 25::some 26::some 27::some 28::some 29::some 30::some 31::some 32::some 33::some 34::some 35::[]) (.slice (some ⟨g,0,none⟩) l.length c1::iv (l.length:Int)::.bool true::.bool true::.slice (some ⟨g,0,none⟩) l.length c1::.pointer (some ⟨g,0,none⟩)::.agg (chkA q.from_ q.to_ q.n q.of_ D q.data.length dq)::.agg (chkA x.from_ x.to_ x.n x.of_ B1 x.data.length d5)::.bool false::.bool true::.bool true::[]) 74 rfl rfl (by decide+kernel) (by decide+kernel) (by decide+kernel) rfl ?_ ?_
 ·exact x1vw
 intro w6 hb1;simp only[putAll_some,putAll_none,putAll_nil,List.setIfInBounds_toArray,List.set_cons_zero,List.set_cons_succ];obtain⟨a0r,a0f,a0n,a0c,a0z,a0l⟩:=keep1 (g:=g0) (cs:=chkA x.from_ x.to_ x.n x.of_ B1 x.data.length d5) hb1 R1 (by go_simp) F1;have HB4:Hid (Below g0 w w6):=qH (HB5.out.trans (hb1.mono (by omega)));have HD2:=qH (HD1.out.stays hb1);have hs6:=hb1.size;clear hb1 R1 F1;go_wp2_with fail;go_ret2;rw[HZ.out];refine⟨_,_,[(B1,d5)],rfl,grow_one (blk_top rfl) (by rw[HGE.out];omega) (HD2.out.stays (bL _)) hd1 (fun k e=>?_),each_one (fun k e=>by have:=HBB.out k e;rw[HGE.out];omega),(HGE.out.symm▸HB4.out.alloc (by omega) _)⟩;have:=HBL.out k e;omega
theorem x0hm(h:Y:=by
 have h1:=HE1.out;have h2:=HR.out;have h3:unpacked (dataOf (x::t)) 400=(u,eu):=by rw[<-HXT.out];exact hu
 rw[HXT.out]at h1 h2;have h4:¬((x::t).length:Int)<x.of_:=by rw[<-HXT.out];exact hfw
 refine⟨fun e=>?_,fun e=>?_⟩
 ·rw[<-h2,chkJoin_pack h1 h4 (by rw[h3];exact e),h3]
 rw[<-h2,chkJoin_read h1 h4 (by rw[h3];exact e),h3,HXT.out]):Y:=h
theorem x0v8(h:Y:=by
 go_wp2_with fail;refine bodyPost_ret (rC (patA 0 0 0 0 0 none 0 0)) rfl ?_;rw[HZ.out];exact⟨none,0,rfl,.const fun v=>patIn_zero v,below_row HB1.out (by omega) _⟩):Y:=h
theorem x2tq(h:Y:=by
 have h1:=HE1.out;have h2:=HR.out;rw[HXT.out]at h1 h2;rw[<-h2,chkJoin_few h1 (by rw[<-HXT.out];exact hfew)]):Y:=h
theorem x4px(h:Y:=by
 have:=(chkCheck_ok.1 ((chkList_ok.1 HE1.out).1 l[k] (List.getElem_mem hlt))).2;unfold Chk.full at this;exact this.2.1):Y:=h
theorem x5jz(h:Y:=by
 have:=(chkCheck_ok.1 ((chkList_ok.1 he1).1 x hx)).2;unfold Chk.full at this;exact this.2.1):Y:=h
theorem x62x(h:Y:=by
 go_wp2_with fail;generalize w1.alloc (.cells (patA p.from_ p.to_ p.old p.new_ p.size A1 p.ops.length c4) 35)=w6 at *
 generalize w1.heap.size=g9 at *
 obtain⟨z1,z2,z3,z4,z5⟩:=blkFacts HG1.out (by simp[patA]);go_quiet (fail)
 have ng:¬g9=w.heap.size:=by omega
 have ng1:¬w.heap.size=g9:=by omega
 go_wp2_with fail;refine bodyPost_ret (rC (patA p.from_ p.to_ p.old p.new_ p.size A1 p.ops.length c4)) rfl ?_;rw[HZ.out];exact⟨A1,c4,rfl,((HF1.out.drewN _).row (by omega) _).mono (by omega),below_row (Below.drewN' HB1.out _) nl _⟩):Y:=h
theorem x83l(h:Y:=by
 go_wp2_with fail;generalize w1.alloc (.cells (patA p.from_ p.to_ p.old p.new_ p.size A1 p.ops.length c4) 35)=w6 at *
 generalize w1.heap.size=g9 at *
 obtain⟨z1,z2,z3,z4,z5⟩:=blkFacts HG1.out (by simp[patA]);go_quiet (fail)
 go_wp2_with fail;refine bodyPost_ret (rC (patA 0 0 0 0 0 none 0 0)) rfl ?_;rw[HZ.out];exact⟨none,0,rfl,.const fun v=>patIn_zero v,below_row (Below.drewN' HB1.out _) (by omega) _⟩):Y:=h
theorem x9n1(h:Y:=by
 go_wp2_with fail;refine(K1.out _ (HS.out.stays HBA.out)).mono ?_;rintro e w1 ⟨rfl,hb1⟩;obtain⟨a0r,a0f,a0n,a0c,a0z,a0l⟩:=kp (w.heap.size) (patA 0 0 0 0 0 none 0 0) hb1;have HB1:=bT HBA hb1;clear hb1;go_wp2_with fail;refine bodyPost_ret (rC (patA 0 0 0 0 0 none 0 0)) rfl ?_;rw[HZ.out];exact⟨none,0,rfl,.const fun v=>patIn_zero v,below_row HB1.out (by omega) _⟩):Y:=h
theorem chkJoin_list(h:chkList l≠0):chkJoin l=(Pat.zero,chkList l):=by unfold chkJoin;rw[if_pos h]
theorem chkJoin_nil:chkJoin []=(Pat.zero,5):=by unfold chkJoin;rw[if_neg (by simp[chkList,listGo])]
theorem chkJoin_few(h:chkList (x::r)=0)(g:((x::r).length:Int)<x.of_):chkJoin (x::r)=(Pat.zero,5):=by
 unfold chkJoin;rw[if_neg (by simpa using h)];dsimp only;rw[if_pos g]
theorem chkJoin_pack(h:chkList (x::r)=0)(g:¬((x::r).length:Int)<x.of_)(u:(unpacked (dataOf (x::r)) 400).2≠0):chkJoin (x::r)=(Pat.zero,(unpacked (dataOf (x::r)) 400).2):=by
 unfold chkJoin;rw[if_neg (by simpa using h)];dsimp only;rw[if_neg g,if_pos u]
theorem chkJoin_read(h:chkList (x::r)=0)(g:¬((x::r).length:Int)<x.of_)(u:(unpacked (dataOf (x::r)) 400).2=0):chkJoin (x::r)=joinDone (x::r) (patRead (unpacked (dataOf (x::r)) 400).1) x:=by
 unfold chkJoin;rw[if_neg (by simpa using h)];dsimp only;rw[if_neg g,if_neg (by simpa using u)]
theorem dataOf_snoc(l:List Chk)(x:Chk):dataOf (l++[x])=dataOf l++x.data:=by simp[dataOf]
theorem dataOf_le:∀(l:List Chk),(∀x∈l,x.data.length<=16)->(dataOf l).length<=16*l.length
 |[],_=>by simp[dataOf]
 |x::l,h=>by
  have ih:=dataOf_le l (fun y hy=>h y (by simp[hy]));have h1:=h x (by simp);have e:dataOf (x::l)=x.data++dataOf l:=by simp[dataOf]
  rw[e,List.length_append,List.length_cons];omega
theorem patReadJ_calls(A:OA)(c:Nat)(b:LU)(w:World)(hc:b.length<=c)(hB:Bts w A b):
  Calls Try.prog 98 #[.slice A b.length c] w (PaRet w (patRead b).1 (patRead b).2):=by
 by_cases h:400<b.length∨b.length<8
 ·exact patRead_short A c b w h
 exact patRead_long A c b w hc (by omega) (by omega) hB
theorem chkJoin_calls(A:OA)(c:Nat)(l:List Chk)(w:World)(hl:l.length<=2513169434843)(hs:Chs w A l):
  Calls Try.prog 37 #[.slice A l.length c] w (PaRet w (chkJoin l).1 (chkJoin l).2):=by
 have HS:=qH hs;have K1:=qH (fun w h=>chkList_calls A c l w hl h);have hba:=(bW w).alloc nl (.cells (patA 0 0 0 0 0 none 0 0) 35);have HBA:=qH hba;clear hs hba;obtain⟨r,hr⟩:=eX (chkJoin l);rw[hr];have HR:=qH hr;clear hr;by_cases he1:chkList l≠0
 ·have hz:r=(Pat.zero,chkList l):=by rw[<-HR.out,chkJoin_list he1]
  have HZ:=qH hz;have q:(chkList l !=0)=true:=by simp[he1]
  generalize chkList l=e1 at *
  clear he1 hz;go_enter Try.func37,Try.ntmps37;exact x9n1
 have he1:=Decidable.not_not.1 he1;rw[he1]at K1;have hll:=chkList_len he1;have hdl:=dataOf_le l (fun x hx=>by
  exact x5jz)
 have HE1:=qH he1;clear he1;rcases Nat.eq_zero_or_pos l.length with hl0|hlp
 ·have hz:r=(Pat.zero,5):=by rw[<-HR.out,List.eq_nil_of_length_eq_zero hl0,chkJoin_nil]
  have HZ:=qH hz;have q:((l.length:Int)==0)=true:=by simp[hl0]
  clear hz hl0;go_enter Try.func37,Try.ntmps37;exact x9n1
 obtain⟨g,o,B1,d1,rfl,hgl,hat1,-⟩:=HS.out.chk (i:=0) hlp;rw[Nat.zero_mul,Nat.add_zero]at hat1;obtain⟨x,t,hxt⟩:∃x t,l=x::t:=by
  rcases l with _|⟨x,t⟩
  ·simp at hlp
  exact⟨x,t,rfl⟩
 have hx1:l[0]=x:=by subst hxt;rfl
 rw[hx1]at hat1;have HAT:=qH hat1;have HXT:=qH hxt;have q4:((l.length:Int)==0)=false:=beq_eq_false_iff_ne.2 (by omega);have nb3:¬l.length=0:=by omega
 have nb1:¬l=[]:=by rw[hxt];simp
 have nb1:¬(l.length:Int)<=0:=by omega
 clear hat1 hx1 hxt;by_cases hfew:(l.length:Int)<x.of_
 ·have hz:r=(Pat.zero,5):=by
   exact x2tq
  have HZ:=qH hz;clear hz;go_enter Try.func37,Try.ntmps37;go_wp2_with fail;refine(K1.out _ (HS.out.stays HBA.out)).mono ?_;rintro e w1 ⟨rfl,hb1⟩;obtain⟨a0r,a0f,a0n,a0c,a0z,a0l⟩:=kp (w.heap.size) (patA 0 0 0 0 0 none 0 0) hb1;have HB1:=bT HBA hb1;obtain⟨c5,c1,c2,c3,c4⟩:=HAT.out.stays hgl HB1.out;clear hb1;exact x0v8
 have hfw:¬(l.length:Int)<x.of_:=hfew;obtain⟨u,eu,hu⟩:∃u eu,unpacked (dataOf l) 400=(u,eu):=⟨_,_,rfl⟩;have hz:(eu≠0->r=(Pat.zero,eu))∧(eu=0->r=joinDone l (patRead u) x):=by
  exact x0hm
 have HZ1:=qH hz;have HU:=qH hu;clear hz hu hfew;go_enter Try.func37,Try.ntmps37;go_wp2_with fail;refine(K1.out _ (HS.out.stays HBA.out)).mono ?_;rintro e w1 ⟨rfl,hb1⟩;obtain⟨a0r,a0f,a0n,a0c,a0z,a0l⟩:=kp (w.heap.size) (patA 0 0 0 0 0 none 0 0) hb1;have HB1:=bT HBA hb1;have HRF1:=qH (And.intro a0r a0f);have hs1:=HB1.out.size;obtain⟨c6,c1,c2,c3,c4⟩:=HAT.out.stays hgl HB1.out;clear hb1;go_wp2_with fail;clear c6 c1 c2 c3 c4 a0r a0f a0n a0c a0z;go_loopw [5,31] (fun v i wr=>∃(k:Nat) (C:OA) (cc:Nat) (b:LU),k<=l.length∧i=iv k∧v=.slice C b.length cc∧Hid (b=dataOf (l.take k))∧b.length<=16*k∧Hid (Own wr w1.heap.size 5 1 C b.length cc (b.map bv))∧Hid (Below w1.heap.size w1 wr)) (fun _ i _=>l.length-(intOf i).toNat)
 case atStart=>exact⟨0,none,0,[],Nat.zero_le _,rfl,rfl,qH (by simp[dataOf]),by simp,qH (Own.nil_ _ _ _ _),qH (Below.refl _ _)⟩
 case round=>
  rename World=>wr;obtain⟨k,C,cc,b,hk,rfl,rfl,HBK,hbl,HO,HBR⟩:=hrel;have hsr:=HBR.out.size;have HBW:Hid (Below w.heap.size w wr):=qH (HB1.out.trans (HBR.out.mono hs1));by_cases hlt:k<l.length
  ·obtain⟨g',o',D,d,e,_,hat,hin⟩:=(HS.out.stays HBW.out).chk hlt;injection e with e;injection e with e1 e2;subst e1 e2;have hsn:dataOf (l.take (k+1))=b++l[k].data:=by rw[List.take_succ_eq_append_getElem hlt,dataOf_snoc,<-HBK.out]
   have hyl:l[k].data.length<=16:=by
    exact x4px
   obtain⟨y,hy⟩:=eX (l[k]);rw[hy]at hat hin hsn hyl;have HSN:=qH hsn;obtain⟨c5,c1,c2,c3,c4⟩:=hat;have dl:decide ((k:Int)<(l.length:Int))=true:=decide_eq_true (by omega);have hwk:IntKind.i64.wrap ((k:Int)+1)=(k:Int)+1:=IntWalk.i64_in _ (by omega);have hoa:=HO.out.alloc (.cells (chkA y.from_ y.to_ y.n y.of_ D y.data.length d) 49);have hsd:=(hin.data.stays ((bW wr).alloc nl (.cells (chkA y.from_ y.to_ y.n y.of_ D y.data.length d) 49))).src;have hob:b.length+y.data.length<=137438953472:=by omega
   have hle:w1.heap.size<=(wr.alloc (.cells (chkA y.from_ y.to_ y.n y.of_ D y.data.length d) 49)).heap.size:=by simp;omega
   clear hy hin hsn;go_wp2_with (at_builtin;go_must (refine wpList_app (wr.alloc (.cells (chkA y.from_ y.to_ y.n y.of_ D y.data.length d) 49)) rfl _ _ 22 rfl elBytes w1.heap.size C b.length cc (b.map bv) rfl hoa D y.data.length d (y.data.map bv) rfl hsd (by simp) (bv_one _) hob hle ?_;intro C1 cc1 w3 hown hgr hbel hor));have HL:Hid (b.length+y.data.length=(b++y.data).length):=qH (by simp);have HO1:Hid (Own w3 w1.heap.size 5 1 C1 (b++y.data).length cc1 ((b++y.data).map bv)):=qH (by rw[List.map_append,<-HL.out];exact hown);have HB1:Hid (Below w1.heap.size w1 w3):=qH ((HBR.out.alloc hsr _).trans hbel);clear hown hgr hbel hor hoa hsd hob hle;go_roundw
   case rel=>exact⟨k+1,C1,cc1,b++y.data,by omega,by go_num,by rw[HL.out],qH HSN.out.symm,by simp;omega,HO1,HB1⟩
   case measure=>simp[intOf];omega
  obtain rfl:k=l.length:=by omega
  have dl:decide ((l.length:Int)<(l.length:Int))=false:=by simp
  have hbd:b=dataOf l:=by rw[HBK.out,List.take_length]
  have hbt:=HO.out.src.bts;have hbc:=HO.out.le;have b1:=keep1 (g:=w.heap.size) (cs:=patA 0 0 0 0 0 none 0 0) HBR.out HRF1.out.1 (by go_simp) HRF1.out.2;have K1:=qH (unpack_calls C cc b 400 wr hbc (by omega) ⟨by decide,by decide⟩ hbt);rw[hbd,HU.out,<-hbd]at K1;clear hbd hbt;go_wp2_with fail;refine K1.out.mono ?_;rintro e w1 ⟨A1,c4,rfl,ho1,hb1⟩;obtain⟨a0r,a0f,a0n,a0c,a0z,a0l'⟩:=keep1 (g:=w.heap.size) (cs:=patA 0 0 0 0 0 none 0 0) hb1 b1.1 (by go_simp) b1.2.1;have HB1:=bT HBW hb1;have hbt1:=ho1.src.bts;have hbc1:=ho1.le;have HT1:=qH hbt1;have hn1:w.heap.size<w1.heap.size:=a0l';clear hb1 ho1 hbt1 b1;by_cases heu:eu≠0
  ·have q1:(eu !=0)=true:=by simp[heu]
   have HZ:=qH (HZ1.out.1 heu);clear heu;exact x0v8
  have heu:=Decidable.not_not.1 heu;have hz:=HZ1.out.2 heu;subst heu;obtain⟨p,ep,hp⟩:∃p ep,patRead u=(p,ep):=⟨_,_,rfl⟩;rw[hp]at hz;have K1:=qH (patReadJ_calls A1 c4 u w1 hbc1 HT1.out);rw[hp]at K1;dsimp only at K1;have HZJ:=qH hz;clear hz hp;go_wp2_with fail;refine K1.out.mono ?_;rintro e w1 ⟨A1,c4,rfl,hf1,hb1⟩;have b1:=keep1 (g:=w.heap.size) (cs:=patA 0 0 0 0 0 none 0 0) hb1 a0r (by go_simp) a0f;have HB2:=bT HB1 hb1;have HF1:=qH hf1;have hs1:=HB1.out.size;have hs1:=hb1.size;clear hb1 hf1 a0r a0f a0n a0c a0z a0l';have hba1:=(bW w1).alloc nl (.cells (patA p.from_ p.to_ p.old p.new_ p.size A1 p.ops.length c4) 35);have HB1:=bT HB2 hba1;have HF1:=qH (HF1.out.below hba1 nl);have HG1:Hid ((w1.alloc (.cells (patA p.from_ p.to_ p.old p.new_ p.size A1 p.ops.length c4) 35)).heap[w1.heap.size]?=some (.cells (patA p.from_ p.to_ p.old p.new_ p.size A1 p.ops.length c4) 35 (0,0))):=qH (blk_top rfl);obtain⟨a0r,a0f,a0n,a0c,a0z,a0l'⟩:=keep1 (g:=w.heap.size) (cs:=patA 0 0 0 0 0 none 0 0) hba1 b1.1 (by go_simp) b1.2.1;have hs1:=hba1.size;have hn1:w.heap.size<w1.heap.size:=b1.2.2.2.2.2;clear hba1 b1;by_cases hep:ep≠0
  ·have hz:r=(p,ep):=by rw[HZJ.out];unfold joinDone;rw[if_neg (fun h=>hep h.1)]
   have HZ:=qH hz;have q1:(ep==0)=false:=by simp[hep]
   clear hep hz;exact x62x
  have hep:=Decidable.not_not.1 hep;subst hep;obtain⟨c5,c1,c2,c3,c4'⟩:=HAT.out.stays hgl HB1.out;by_cases hf:p.from_=x.from_
  ·have q1:(p.from_ !=x.from_)=false:=by simp[hf]
   by_cases ht:p.to_=x.to_
   ·have hz:r=(p,0):=by rw[HZJ.out];unfold joinDone;rw[if_neg (fun h=>by rcases h.2 with h|h;exact h hf;exact h ht)]
    have HZ:=qH hz;have q1:(p.to_ !=x.to_)=false:=by simp[ht]
    clear hz hf ht;exact x62x
   have hz:r=(Pat.zero,3):=by rw[HZJ.out];unfold joinDone;rw[if_pos ⟨rfl,.inr ht⟩]
   have HZ:=qH hz;have q1:(p.to_ !=x.to_)=true:=by simp[ht]
   clear hz hf ht;exact x83l
  have hz:r=(Pat.zero,3):=by rw[HZJ.out];unfold joinDone;rw[if_pos ⟨rfl,.inl hf⟩]
  have HZ:=qH hz;have q1:(p.from_ !=x.from_)=true:=by simp[hf]
  clear hz hf;exact x83l
end Go.Proofs.Ytefkfglkpebbmac
