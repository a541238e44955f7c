/- Walks of functions, and plain words. No conditions. -/
import Derived.Test.YtefkfglkpebbmacP5
set_option linter.unusedVariables false
set_option linter.unusedSimpArgs false
set_option maxRecDepth 100000
set_option maxHeartbeats 40000000
namespace Go.Proofs.Ytefkfglkpebbmac
open Go.RowKit
variable {Y:Prop}
def DelE(w:World)(base n c:Nat)(g:Nat)(out:List Value):Ending->World->Prop:=fun en w'=>
 en=.returned (.slice (some ⟨g,0,none⟩) (n-1) c)∧Own w' base 24 1 (some ⟨g,0,none⟩) (n-1) c out∧Below base w w'∧w'.heap.size=w.heap.size∧(∀k,k≠g->w'.heap[k]?=w.heap[k]?)
def delE(w0:World)(g n c:Nat)(w1:World):Nat->(Nat->Value)->World->Prop
 |0,_,w=>w=w0.drew
 |1,cv,w=>w=w1.drew∧cv 6=.slice (some ⟨g,0,none⟩) (n-1) c
 |_,cv,w=>w=w1.drew∧cv 7=.slice (some ⟨g,0,none⟩) (n-1) c
theorem delE_list(L cs Z:List Value)(i n:Nat)(hL:n<=L.length)(hi:i<n)(hc:cs=(L.take (n)).drop (i+1))(hZ:Z.length=1):
  (over (over L i cs) (n-1) Z).take (n-1)=(L.take (n)).take i++(L.take (n)).drop (i+1)∧(over (over L i cs) (n-1) Z).length=L.length:=by
 have hcl:cs.length=n-(i+1):=by rw[hc];simp;omega
 have h1:(over L i cs).length=L.length:=by unfold over;simp;omega
 constructor
 ·unfold over;have e1:(L.take i++cs).length=n-1:=by simp;omega
  exact x6w8
 unfold over at h1⊢;simp at h1⊢;omega
theorem delErr_calls(g n c i:Nat)(xs:List Value)(wo:World)(base:Nat)(hO:Own wo base 24 1 (some ⟨g,0,none⟩) n c xs)(h2:∀u∈xs,u.oneCell'=true)(hi:i<n)(hn:n<=1000):
  Calls Try.prog 133 #[.slice (some ⟨g,0,none⟩) n c,iv (i:Int),iv ((i:Int)+1)] wo (DelE wo base n c g (xs.take i++xs.drop (i+1))):=by
 have hle:=hO.le;obtain⟨hxl,⟨hv2,_⟩|⟨g',cap,cur,hv2,hbg,hgc,hncap,hmax,hcs,hxs1⟩⟩:=hO
 ·cases hv2
 injection hv2 with e1 e2 e3;injection e1 with e1;injection e1 with e1 e4;subst e1 e3;obtain⟨L,hL⟩:=eX (cur.toList);have hcur:cur=L.toArray:=by rw[<-hL]
 subst hcur;simp only[List.size_toArray]at hcs;have hxs:xs=L.take (n):=by simpa using hxs1.symm
 subst hxs;have hgl:=blk_lt hgc;obtain⟨cs,hcs1⟩:=eX ((L.take (n)).drop (i+1));have hcl:cs.length=n-(i+1):=by rw[<-hcs1];simp;omega
 have h3:∀u∈cs,u.oneCell'=true:=fun u hu=>h2 u (by rw[<-hcs1]at hu;exact List.mem_of_mem_drop hu);have k8:0<c:=by omega
 have HS4:∀wq,(Instr.slice 90 (.slice (some ⟨g,0,none⟩) n c) (some (iv (i:Int))) (some (iv ((i:Int)+1))) (some (iv (n:Int)))).run Try.prog wq=.ok (.slice (some ⟨g,i,none⟩) 1 (n-i)) wq:=fun wq=>by
  exact x763
 have HS1:Hid (∀wq,(Instr.slice 90 (.slice (some ⟨g,0,none⟩) n c) none (some (iv (i:Int))) none).run Try.prog wq=.ok (.slice (some ⟨g,0,none⟩) i c) wq):=qH (fun wq=>by
  exact x22s)
 obtain⟨a1,c1,hs1,hcell⟩:∃a2 c2,(∀wq,(Instr.slice 90 (.slice (some ⟨g,0,none⟩) n c) (some (iv ((i:Int)+1))) none none).run Try.prog wq=.ok (.slice (some a2) (n-(i+1)) c2) wq)∧(∀j u,cs[j]?=some u->wo.cell? (a2.add j)=some u):=by
  have k1:(i:Int)+1<=(n:Int):=by omega
  have k2:((i:Int)+1).toNat=i+1:=by omega
  have k3:(0:Int)<=(i:Int)+1:=by omega
  by_cases e:c=i+1
  ·exact x6wx
  refine⟨⟨g,i+1,none⟩,c-(i+1),fun wq=>?_,fun j u hu=>?_⟩
  ·go_simp
  rw[<-hcs1,List.getElem?_drop]at hu;have hj:i+1+j<(L.take (n)).length:=(List.getElem?_eq_some_iff.1 hu).1;rw[List.length_take]at hj;have e1:(⟨g,i+1,none⟩:Addr).add j=⟨g,i+1+j,none⟩:=by simp[Addr.add]
  exact x5il
 have HS2:=qH hs1;obtain⟨w1,hw1⟩:=eX (wo.setRow g (over L i cs).toArray);have hi1:(Try.prog.info? 24).map (fun t=>t.size)=some 1:=by kernel_rfl
 have HA:Hid (∀(ty:TypeId) (q:Unit),(Builtin.append_ #[90,90] ty #[.slice (some ⟨g,0,none⟩) i c,.slice (some a1) (n-(i+1)) c1]).run Try.prog wo.drew=.ok (.slice (some ⟨g,0,none⟩) (n-1) c) w1.drew):=qH (fun ty q=>by
  cases hq:Try.prog.info? 24 with
  |none=>rw[hq]at hi1;cases hi1
  |some t=>
   rw[hq]at hi1;have ht1:t.size=1:=by simpa using hi1
   have hgd:wo.drew.heap[g]?=some (.cells L.toArray 24 (0,0)):=hgc;have h9:=run_append_room_cells (P:=Try.prog) wo.drew 90 ty 24 t Try.underlying90 hq g 0 i c a1 (n-(i+1)) c1 cs (by rw[ht1,Nat.mul_one];exact hcl) (fun j u hu=>hcell j u hu) h3 (by omega)
    (fun j hj=>by rw[ht1,cell_of_row _ _ _ _ _ _ hgd];simp;omega) (fun j hj=>frozen_of_row _ _ _ _ _ hgd)
   rw[h9,ht1,show i+(n-(i+1))=n-1 by omega,setRow_eq hgd cs (by simp;omega),<-hw1];congr 1;rw[Nat.zero_add,drew_setRowD,Nat.mul_one];congr 2)
 have hw1g:w1.heap[g]?=some (.cells (over L i cs).toArray 24 (0,0)):=by rw[<-hw1];exact setRow_heap wo g _ _ _ _ hgc
 obtain⟨Z,hZ⟩:∃Z:List Value,[iv 0]=Z:=⟨_,rfl⟩;have hZl:Z.length=1:=by rw[<-hZ];rfl
 obtain⟨hd1,hd2⟩:=delE_list L cs Z i n (by omega) hi hcs1.symm hZl;have hol:(over L i cs).length=L.length:=by unfold over;simp;omega
 have hcl1:∀ty,(Builtin.clear_ #[90] ty #[.slice (some ⟨g,n-1,none⟩) 1 (c-(n-1))]).run Try.prog w1.drew=.ok (.tuple #[]) (w1.setRow g (over (over L i cs) (n-1) Z).toArray).drew:=fun ty=>by
  have hgd:w1.drew.heap[g]?=some (.cells (over L i cs).toArray 24 (0,0)):=hw1g;have h1:=run_storeCells_at Try.prog g (n-1) 24 Z 0 (over L i cs).toArray w1.drew hgd (by simp only[List.size_toArray];omega) (by rw[<-hZ];simp[Value.oneCell']);have hzv:(zeroValue 24).run Try.prog w1.drew=.ok (iv 0) w1.drew:=by kernel_rfl
  have hst:(storeCells ⟨g,n-1,none⟩ Z).run Try.prog w1.drew=.ok () (w1.setRow g (over (over L i cs) (n-1) Z).toArray).drew:=by
   rw[h1,drew_setRowD];congr 3
  rw[<-hZ]at hst⊢;have hze:(Builtin.zeroCells (Value.int .i64 0).cells 1).toList=[iv 0]:=by kernel_rfl
  simp[Builtin.clear_,run_underlying Try.underlying90,hzv,hze,hst]
 have HS3:∀wq,(Instr.slice 90 (.slice (some ⟨g,0,none⟩) (n-1) c) (some (iv ((n-1:Nat):Int))) (some (iv (n:Int))) none).run Try.prog wq=.ok (.slice (some ⟨g,n-1,none⟩) 1 (c-(n-1))) wq:=fun wq=>by
  exact x8bn
 have q1:((i:Int)==(i:Int)+1)=false:=beq_eq_false_iff_ne.2 (by omega);have HOUT:Hid (Own (w1.setRow g (over (over L i cs) (n-1) Z).toArray).drew base 24 1 (some ⟨g,0,none⟩) (n-1) c ((L.take (n)).take i++(L.take (n)).drop (i+1))):=qH
  ⟨by simp;omega,Or.inr ⟨g,c,(over (over L i cs) (n-1) Z).toArray,rfl,hbg,(setRow_heap w1 g _ _ _ _ hw1g:_),by omega,hmax,by simp only[List.size_toArray];omega,by simpa using hd1⟩⟩
 have HBW:Hid (Below base wo (w1.setRow g (over (over L i cs) (n-1) Z).toArray).drew):=qH (by rw[<-hw1];exact(below_row (below_row (Below.refl _ _) hbg _) hbg _).drew);have HSZ:Hid ((w1.setRow g (over (over L i cs) (n-1) Z).toArray).drew.heap.size=wo.heap.size):=qH (by rw[<-hw1];show ((wo.setRow g _).setRow g _).heap.size=_;simp[World.setRow]);have HKP:Hid (∀k,k≠g->(w1.setRow g (over (over L i cs) (n-1) Z).toArray).drew.heap[k]?=wo.heap[k]?):=qH (fun k hk=>by
  exact x9qe)
 generalize (L.take (n)).take i++(L.take (n)).drop (i+1)=out at *
 generalize w1.setRow g (over (over L i cs) (n-1) Z).toArray=w2 at *
 have hni:(i:Int)+1<=(n:Int):=by omega
 clear hs1 hcell hw1 hw1g hd1 hd2 hol hcs1 hZ hZl hgc hcs h2 h3 hxl hxs1 hL;go_enter Try.func133,Try.ntmps133;go_wp2_with fail;refine wp_region_free (by kernel_rfl) (some 20::some 21::some 22::some 23::some 24::some 25::some 26::some 0::[]) (false::false::false::false::false::false::true::true::[]) (.slice (some ⟨g,0,none⟩) n c::iv (i:Int)::.slice (some ⟨g,0,none⟩) i c::.slice (some ⟨g,0,none⟩) n c::iv ((i:Int)+1)::.slice (some a1) (n-(i+1)) c1::undef::undef::[]) (fun done cv w=>delE wo g n c w1 (lvlN [7,6] done) cv w) 33 rfl rfl (by decide+kernel) (by decide+kernel) (by decide+kernel) rfl rfl (rfl) ?_ ?_
 ·refine⟨?_,?_,?_,?_,?_,?_,?_,?_,trivial⟩;all_goals intro done cv a wq hn hw hcl h hJ
  ·exact x26v
  ·have e1:=fO 1 (iv (i:Int)) h;exact mx_move (ch_ev e1)
  ·exact x77w
  ·exact x3c1
  ·have e2:=fO 2 (iv ((i:Int)+1)) h;exact mx_move (ch_ev e2)
  ·exact x0r2
  ·have e2:=fN 2 22 h hw;have e25:=fN 5 25 h hw;have n1:=hn;have n2:=nW 7 6 hcl n1;have hl:lvlN [7,6] (maskB [false,false,false,false,false,false,true,true] done)=0:=by simp[lvlN,maskB,n1,n2]
   have hl1:lvlN [7,6] (fun j=>if j=6 then true else maskB [false,false,false,false,false,false,true,true] done j)=1:=by simp[lvlN,maskB,n1,n2]
   rw[hl]at hJ;have hK:∀(v:Value) (w':World),delE wo g n c w1 1 (fun j=>if j=6 then v else cv j) w'->delE wo g n c w1 (lvlN [7,6] (fun j=>if j=6 then true else maskB [false,false,false,false,false,false,true,true] done j)) (fun j=>if j=6 then v else cv j) w':=fun v w' h=>by rw[hl1];exact h
   obtain rfl:wq=wo.drew:=hJ;refine wp_appN (.tmp 22) (.tmp 25) 90 90 rfl _ _ (ch_ev e2) (ch_ev e25) (HA.out _ ()) ⟨_,rfl,hK _ _ ?_⟩;exact⟨rfl,by simp⟩
  ·have e1:=fr_cv (i:=6) (t:=26) h (hw 6 (by decide)) rfl rfl;have n1:=hn;have m1:=hw 6 (by decide);have hl:lvlN [7,6] (maskB [false,false,false,false,false,false,true,true] done)=1:=by simp[lvlN,maskB,n1,m1]
   have hl1:lvlN [7,6] (fun j=>if j=7 then true else maskB [false,false,false,false,false,false,true,true] done j)=2:=by simp[lvlN,maskB,n1,m1]
   rw[hl]at hJ;have hK:∀(v:Value) (w':World),delE wo g n c w1 2 (fun j=>if j=7 then v else cv j) w'->delE wo g n c w1 (lvlN [7,6] (fun j=>if j=7 then true else maskB [false,false,false,false,false,false,true,true] done j)) (fun j=>if j=7 then v else cv j) w':=fun v w' h=>by rw[hl1];exact h
   exact x8sy
 exact x6qv
end Go.Proofs.Ytefkfglkpebbmac
