/- What hangs on some blocks alone. No conditions. -/
import Derived.Test.YtefkfglkpebbmacP3
set_option linter.unusedVariables false
set_option linter.unusedSimpArgs false
set_option maxRecDepth 100000
set_option maxHeartbeats 40000000
namespace Go.Proofs.Ytefkfglkpebbmac
open Go.RowKit
variable {Y:Prop}
def On(S:Nat->Prop)(w:World)(P:World->Prop):Prop:=∀v:World,Below 0 w v->(∀k,S k->k<w.heap.size->v.heap[k]?=w.heap[k]?)->P v
section
variable {S T:Nat->Prop} {w w':World} {P Q:World->Prop}
theorem On.now(h:On S w P):P w:=h w (Below.refl _ _) fun _ _ _=>rfl
theorem On.below(h:On S w P)(hb:Below w.heap.size w w'):On S w' P:=fun v h1 h2=>h v ((hb.mono (Nat.zero_le _)).trans h1) fun k hk hlt=>(h2 k hk (Nat.lt_of_lt_of_le hlt hb.size)).trans (hb.block k hlt)
theorem On.at_(h:On S w P)(hb:Below w.heap.size w w'):P w':=(h.below hb).now
theorem On.imp(h:On S w P)(hq:∀v,P v->Q v):On S w Q:=fun v h1 h2=>hq v (h v h1 h2)
theorem below0_row(w:World)(g:Nat)(cs:Array Value):Below 0 w (w.setRow g cs):=below_row (Below.refl _ _) (Nat.zero_le _) cs
theorem On.row(h:On S w P){g:Nat}(hg:¬S g)(cs:Array Value):On S (w.setRow g cs) P:=fun v h1 h2=>h v ((below0_row w g cs).trans h1) fun k hk hlt=>
 (h2 k hk (by simpa[World.setRow]using hlt)).trans (setRow_other _ _ _ _ (fun e=>hg (e▸hk)))
theorem On.of(hP:∀v,Below w.heap.size w v->P v):On (fun k=>k<w.heap.size) w P:=fun v h1 h2=>hP v ⟨h1.os,h1.tape,h1.output,h1.size,fun k hk=>h2 k hk hk⟩
theorem On.const(h:∀v,P v):On S w P:=fun v _ _=>h v
theorem cell_gone(w:World)(q j:Nat)(h:q<w.heap.size):(w.setRow q #[]).cell? ⟨q,j,none⟩=none∨∀i,w.cell? ⟨q,i,none⟩=none:=by
 cases ho:w.heap[q]? with
 |none=>rw[Array.getElem?_eq_getElem h]at ho;cases ho
 |some o=>
  cases o with
  |cells cs t fr=>
   left
   rw[cell_of_row _ _ _ _ _ _ (setRow_heap w q cs #[] t fr ho)];rfl
  |_=>right;intro i;unfold World.cell?;simp[ho]
theorem On.bts_in{B:OA}{x:LU}(h:On S w (fun v=>Bts v B x))(hx:x≠[]):∀k,B.map (·.block)=some k->S k∧k<w.heap.size:=by
 intro k hk;obtain⟨b,o,e1,hlt,hc⟩:=h.now 0 (List.length_pos_iff.2 hx);subst e1;injection hk with hk;have hk:b=k:=hk;subst hk;refine⟨Classical.byContradiction fun hn=>?_,hlt⟩;have hv:=(h.row hn #[]).now 0 (List.length_pos_iff.2 hx);obtain⟨b',o',e1,_,hc1⟩:=hv;injection e1 with e1;injection e1 with e3 e4;subst e3 e4;rcases cell_gone w b (o+0) hlt with h9|h9
 ·rw[h9]at hc1;cases hc1
 rw[h9]at hc;cases hc
theorem On.chk_in{A:OA}{l:List Chk}(h:On S w (fun v=>Chs v A l)){j b o:Nat}{D:OA}{e:Nat}(hj:j<l.length)(hA:A=some ⟨b,o,none⟩)(hat:ChkAt w b (o+j*5) l[j] D e)(hx:l[j].data≠[])(hin:ChkIn w l[j] D e):∀k,D.map (·.block)=some k->S k∧k<w.heap.size:=by
 intro k hk;obtain⟨bb,oo,e1,hlt,hc⟩:=hin.data 0 (List.length_pos_iff.2 hx);subst e1;injection hk with hk;have hk:bb=k:=hk;subst hk;refine⟨Classical.byContradiction fun hn=>?_,hlt⟩;obtain⟨b',o',D',e',hA',hbl',hat',hin'⟩:=(h.row hn #[]).now.chk hj;rw[hA]at hA';injection hA' with hA';injection hA' with h1 h2;subst h1 h2;obtain⟨_,_,_,_,c1⟩:=hat;obtain⟨_,_,_,_,c4'⟩:=hat';by_cases hb:b=bb
 ·subst hb;rcases cell_gone w b (o+j*5+4) hlt with h9|h9
  ·rw[h9]at c4';cases c4'
  rw[h9]at c1;cases c1
 have hs:(w.setRow bb #[]).cell? ⟨b,o+j*5+4,none⟩=w.cell? ⟨b,o+j*5+4,none⟩:=World.cell?_of_block (setRow_other _ _ _ _ hb);rw[hs,c1]at c4';injection c4' with c4';injection c4' with c5 _ _;subst c5;obtain⟨b1,o1,e1,_,hc1⟩:=hin'.data 0 (List.length_pos_iff.2 hx);injection e1 with e1;injection e1 with e4 e5;subst e4 e5;rcases cell_gone w bb (oo+0) hlt with h9|h9
 ·rw[h9]at hc1;cases hc1
 rw[h9]at hc;cases hc
end
end Go.Proofs.Ytefkfglkpebbmac
