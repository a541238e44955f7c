/- Walks of functions, and plain words. No conditions. -/
import Derived.Test.YtefkfglkpebbmadP9
set_option linter.unusedVariables false
set_option linter.unusedSimpArgs false
set_option maxRecDepth 100000
set_option maxHeartbeats 40000000
namespace Go.Proofs.Ytefkfglkpebbmad
open Go.RowKit
variable {Y:Prop}
variable {w:World} {l:List (Int×Int)} {x:Wor} {b2:Nat}
theorem x0yz(h:Y:=by
 rcases hor6 with h9|h9
 ·exact .inl (h9▸e)
 rw[h9]at e;injection e with e
 simp[World.setRow]at e;exact .inr (by omega)):Y:=h
theorem x32u(h:Y:=by
 go_enter Try.func20,Try.ntmps20;go_wp2_with fail;refine(K1.out _ (HIN.out.stays HBA.out)).mono ?_;rintro e w1 ⟨rfl,hb⟩;have a2:=kp (w.heap.size) (worA x0 L0) hb;have a1:=kp (w.heap.size+1) (worA Wor.zero WLoc.zero) hb;have hs1:w.heap.size+2<=w1.heap.size:=by have:=hb.size;simp at this;omega
 have HB1:=bT HBA hb;clear hb;go_wp2_with fail;refine bodyPost_ret (results_ctt rfl rfl (cs:=worA Wor.zero WLoc.zero) (by go_simp) (by go_simp) (by go_simp)) rfl ⟨WLoc.zero,none,0,w.heap.size,rfl,Own.nil_ _ _ _ _,nl,fun v _=>WorIn.zero v,bZ HB1⟩):Y:=h
theorem x8cd(h:Y:=by
 have h1:=rowOf_heap (hk1 (g+1) (by omega) (hgA _ (by omega)) (by omega));exact⟨h1.1.trans b1.1,h1.2.trans b1.2.1⟩):Y:=h
def rHap:CR (Int×Int):=fun w cs x=>cs=[iv x.1,iv x.2]∧I64 x.1∧I64 x.2
theorem stays_hap:Stays rHap:=fun w w' cs x h hb=>h
abbrev Hps (w:World) (A:OA) (l:List (Int×Int)):=Elems 2 rHap w A l
theorem Hps.stays{w':World}{A:OA}(h:Hps w A l)(hb:Below w.heap.size w w'):Hps w' A l:=Elems.stays stays_hap h hb
def WrRet(w:World)(x:Wor)(said:List Int)(n:Int):Ending->World->Prop:=fun en w'=>
 ∃L A c b,en=.returned (.tuple #[.agg (worA x L),.slice A said.length c,iv n])∧Own w' b 46 1 A said.length c (said.map iv)∧w.heap.size<=b∧(∀v:World,(∀q,b<=q->A.map (·.block)≠some q->q<w'.heap.size->v.heap[q]?=w'.heap[q]?)->WorIn v x L)∧Below w.heap.size w w'
theorem said_len:∀(l:List (Int×Int)) (x:Wor),(worSaid l x).length=l.length
 |[],x=>rfl
 |y::l,x=>by simp[worSaid,said_len l]
theorem worRun_bad(h:worCheck x≠0):worRun x l=(Wor.zero,[],worCheck x):=by unfold worRun;rw[if_pos h]
theorem worRun_many(h:worCheck x=0)(g:200<l.length):worRun x l=(Wor.zero,[],1):=by unfold worRun;rw[if_neg (by omega),if_pos g]
theorem worRun_ok(h:worCheck x=0)(g:¬200<l.length):worRun x l=(worGo l x,worSaid l x,0):=by unfold worRun;rw[if_neg (by omega),if_neg g]
theorem worRun_gen(x0:Wor)(L0:WLoc)(B:OA)(cl:Nat)(l:List (Int×Int))(w:World)(h:WorIn w x0 L0)(hl:l.length<=140737488351232)(hcl:l.length<=cl)(hh:Hps w B l)(KHP:∀y∈l,HapOk y.1 y.2):Calls Try.prog 20 #[.agg (worA x0 L0),.slice B l.length cl] w (WrRet w (worRun x0 l).1 (worRun x0 l).2.1 (worRun x0 l).2.2):=by
 have hba:Below w.heap.size w ((w.alloc (.cells (worA x0 L0) 41)).alloc (.cells (worA Wor.zero WLoc.zero) 41)):=bA (bA (Below.refl _ _) _) _;have HBA:=qH hba;have HIN:=qH h;have HH:=qH hh;have HKP:=qH KHP;clear KHP;have K1:=qH (fun w h=>worCheck_calls x0 L0 w h);by_cases hc:worCheck x0≠0
 ·rw[worRun_bad hc];have q:(worCheck x0 !=0)=true:=by simp[hc]
  generalize worCheck x0=cc at *
  clear hc hba h hh;exact x32u
 have hc:=Decidable.not_not.1 hc;have hok:=worCheck_ok.1 hc;by_cases hm:200<l.length
 ·rw[worRun_many hc hm];rw[hc]at K1;have q:(200:Int)<(l.length:Int):=by omega
  clear hc hba h hh hok;exact x32u
 rw[worRun_ok hc hm];rw[hc]at K1;have q1:¬(200:Int)<(l.length:Int):=by omega
 have HOK:=qH hok;clear hc hba h hh hok;go_enter Try.func20,Try.ntmps20;go_wp2_with fail;refine(K1.out _ (HIN.out.stays HBA.out)).mono ?_;rintro e w1 ⟨rfl,hb⟩;have a3:=kp (w.heap.size) (worA x0 L0) hb;have a1:=kp (w.heap.size+1) (worA Wor.zero WLoc.zero) hb;have hs1:w.heap.size+2<=w1.heap.size:=by have:=hb.size;simp at this;omega
 have HB1:=bT HBA hb;clear hb;go_wp2_with fail;refine(worCopy_calls x0 L0 _ (HIN.out.stays HB1.out)).mono ?_;rintro e w2 ⟨L1,m,ds,rfl,hwa,hb⟩;have a3:=kr a3 hb;have a1:=kr a1 hb;have hs2:w1.heap.size<=w2.heap.size:=hb.size;have HB2:=bT HB1 hb;have hp1:0<(rowOf w2 w.heap.size).size:=by rw[a3.1];simp[worA]
 have HW1:Hid (∀v:World,(∀q,w.heap.size+2<=q->q<w2.heap.size->v.heap[q]?=w2.heap[q]?)->WorIn v x0 L1):=qH (fun v hv=>hwa.wex (fun k a b=>hv k (by omega) b));have HRW:Hid (rowOf (w2.setRow w.heap.size (worA x0 L1)) w.heap.size=worA x0 L1∧frOf (w2.setRow w.heap.size (worA x0 L1)) w.heap.size=(0,0)∧rowOf (w2.setRow w.heap.size (worA x0 L1)) (w.heap.size+1)=worA Wor.zero WLoc.zero∧frOf (w2.setRow w.heap.size (worA x0 L1)) (w.heap.size+1)=(0,0)):=qH
  ⟨by rw[rowOf_setRow _ _ _ _ hp1,if_pos rfl],by rw[frOf_setRow];exact a3.2.1,by rw[rowOf_setRow _ _ _ _ hp1,if_neg (by omega)];exact a1.1,by rw[frOf_setRow];exact a1.2.1⟩
 clear hb hwa;go_wp2_with fail;clear a3 a1 hp1;obtain⟨g,hg⟩:=eX (w.heap.size);have HG:=qH hg;rw[hg]at HRW HW1 hs1⊢;clear hg;go_loopw [8,27] (fun s i wr=>∃(k:Nat) (x:Wor) (L:WLoc) (A:OA) (c:Nat),k<=l.length∧i=iv k∧s=.slice A k c∧Hid (x=worGo (l.take k) x0∧WorOk x)∧Hid (rowOf wr g=worA x L∧frOf wr g=(0,0)∧rowOf wr (g+1)=worA Wor.zero WLoc.zero∧frOf wr (g+1)=(0,0))∧
  Hid (∀v:World,(∀q,g+2<=q->A.map (·.block)≠some q->q<wr.heap.size->v.heap[q]?=wr.heap[q]?)->WorIn v x L)∧Hid (Own wr (g+2) 46 1 A k c ((worSaid (l.take k) x0).map iv))∧Hid (Below g w wr∧g+2<=wr.heap.size)) (fun _ i _=>l.length-(intOf i).toNat)
 case atStart=>
  refine⟨0,x0,L1,none,0,Nat.zero_le _,rfl,rfl,qH ⟨rfl,HOK.out⟩,HRW,qH (fun v hv=>HW1.out v (fun q h1 h2=>(hv q h1 (by simp) (by simpa[World.setRow]using h2)).trans (setRow_other _ _ _ _ (by omega)))),qH (by simpa[worSaid]using Own.nil_ _ _ _ _),qH ⟨?_,by simp[World.setRow];omega⟩⟩;exact below_row (HG.out▸HB2.out) nl _
 case round=>
  rename World=>wr;obtain⟨k,x,L,A,c,hk,rfl,rfl,HX,HR,HI,HO,HB⟩:=hrel;clear HRW HW1;have hsz:=HB.out.2;by_cases hlt:k<l.length
  ·obtain⟨b,o,rfl,hbl,cs,hcs,hcc,rfl,hi1,hi2⟩:=HH.out k hlt;obtain⟨⟨kd,n⟩,hy⟩:∃y,l[k]=y:=⟨_,rfl⟩;rw[hy]at hcc hi1 hi2;have hb1:b<wr.heap.size:=Nat.lt_of_lt_of_le hbl (by rw[HG.out];omega);have hwb:∀j,wr.cell? ⟨b,j,none⟩=w.cell? ⟨b,j,none⟩:=fun j=>HB.out.1.cell (p:=⟨b,j,none⟩) (by rw[<-HG.out];exact hbl);have p2:wr.cell? ⟨b,o+k*2,none⟩=some (iv kd):=by rw[hwb];have:=hcc 0 (by simp);simpa using this
   have p1:wr.cell? ⟨b,o+k*2+1,none⟩=some (iv n):=by rw[hwb];have:=hcc 1 (by simp);simpa using this
   have HY:=qH hy;have HI1:Hid (I64 n):=qH hi2;have a3:=keep1 (bW wr) HR.out.1 (by go_simp) HR.out.2.1;have a1:=keep1 (bW wr) HR.out.2.2.1 (by go_simp) HR.out.2.2.2;have hwk:IntKind.i64.wrap ((k:Int)+1)=(k:Int)+1:=IntWalk.i64_in _ (by omega);have dl:decide ((k:Int)<(l.length:Int))=true:=decide_eq_true (by omega);have hcap:(l.length:Int)<=(cl:Int):=by omega
   clear hcc hi1 hi2 hcs hy hwb hbl;go_wp2_with fail;have hx1:WorIn (wr.alloc (.cells #[iv kd,iv n] 52)) x L:=HI.out _ (fun q _ _ h2=>Below.heap_alloc wr _ q h2);refine(worCopy_calls x L _ hx1).mono ?_;rintro e w2 ⟨L3,m1,ds1,rfl,hwa,hb⟩;have a3:=kp g (worA x L) hb;have a1:=kp (g+1) (worA Wor.zero WLoc.zero) hb;have a2:=kp (wr.heap.size) (#[iv kd,iv n]) hb;have hs3:wr.heap.size+1<=w2.heap.size:=by have:=hb.size;simpa using this
   have hkb:∀q,q<wr.heap.size->w2.heap[q]?=wr.heap[q]?:=fun q h=>(hb.block q (by simp;omega)).trans (Below.heap_alloc wr _ q h);have HB2':Hid (Below g w w2):=qH ((HB.out.1.alloc (by omega) _).trans (hb.mono (by simp;omega)));have HWA:Hid (WorAt w2 (wr.heap.size+1+2) m1 w2.heap.size ds1 x L3):=qH (by simpa using hwa);have hw1:wr.heap.size+1+2<=w2.heap.size:=by have:=HWA.out.h1;have:=HWA.out.h2;have:=HWA.out.h3;omega
   clear hb hwa hx1;go_wp2_with fail;obtain⟨w3,hw3e⟩:=eX (w2.alloc (.cells (worA x L3) 41));have z1:rowOf w3 w2.heap.size=worA x L3:=by rw[<-hw3e,rowOf_alloc,if_pos rfl]
   have z2:frOf w3 w2.heap.size=(0,0):=by rw[<-hw3e,frOf_alloc,if_pos rfl]
   have hs4:w3.heap.size=w2.heap.size+1:=by rw[<-hw3e];simp
   have hk1:∀q,q<w2.heap.size->w3.heap[q]?=w2.heap[q]?:=fun q h=>by rw[<-hw3e];exact Below.heap_alloc w2 _ q h
   have HW1:Hid (WorAt w3 (wr.heap.size+1+2) m1 w2.heap.size ds1 x L3):=qH (HWA.out.same (fun q a b=>hk1 q b) (by omega));have HB3:Hid (Below g w w3):=qH (by rw[<-hw3e];exact HB2'.out.alloc (by omega) _);try rw[hw3e]
   obtain⟨⟨x',e'⟩,hres⟩:∃res,worHappen x kd n=res:=⟨_,rfl⟩;have KH:=qH (HKP.out (kd,n) (by rw[<-HY.out];exact List.getElem_mem hlt) w2.heap.size (wr.heap.size+1+2) m1 w2.heap.size ds1 x L3 w3 z1 z2 (.inr nl) HW1.out HX.out.2 HI1.out);rw[hres]at KH;have HRES:=qH hres;have y6:=rowOf_heap (hk1 g (by omega));have y1:=rowOf_heap (hk1 (g+1) (by omega));have y2:=y6.1.trans a3.1;have y3:=y6.2.trans a3.2.1;have y4:=y1.1.trans a1.1;have y5:=y1.2.trans a1.2.1;clear hw3e hres z1 z2 y6 y1 a3 a1 a2;refine KH.out.mono ?_;rintro e w4 ⟨rfl,hz,hx,hs5⟩;have HZ:=qH hz;have HX1:=qH hx;have e2:=rowOf_heap (hx.2 g (by omega) (by omega));have e1:=rowOf_heap (hx.2 (g+1) (by omega) (by omega));have r2:=e2.1.trans y2;have f2:=e2.2.trans y3;have r1:=e1.1.trans y4;have f1:=e1.2.trans y5;have HB4:Hid (Below g w w4):=qH (HB3.out.trans (hx.to (by omega) (by omega)));have hk2:∀q,q<wr.heap.size->w4.heap[q]?=wr.heap[q]?:=fun q h=>(hx.2 q (by omega) (by omega)).trans ((hk1 q (by omega)).trans (hkb q h));have HK1:=qH hk2;have HO1:Hid (Own w4 (g+2) 46 1 A k c ((worSaid (l.take k) x0).map iv)):=qH (HO.out.same (fun q e=>hk2 q (HO.out.block q e).2));have HAB:Hid (∀q,A.map (·.block)=some q->g+2<=q∧q<wr.heap.size):=qH (fun q e=>HO.out.block q e);have HSD:Hid (worSaid (l.take (k+1)) x0=worSaid (l.take k) x0++[e']∧worGo (l.take (k+1)) x0=worTry x (kd,n)):=qH (by
    have h1:=worGo_append (l.take k) [(kd,n)] x0;rw[List.take_succ_eq_append_getElem hlt,HY.out,h1.1,h1.2,<-HX.out.1];refine⟨?_,rfl⟩;congr 1
    show [(worHappen x kd n).2]=[e'];rw[HRES.out])
   have b3:=keep1 (bW w4) r2 (by go_simp) f2;have b1:=keep1 (bW w4) r1 (by go_simp) f1;clear hz hx KH e2 e1 r2 f2 r1 f1 y2 y3 y4 y5 hk2 hk1 hkb;by_cases c1:e'=0
   ·subst c1;obtain⟨L2,r1,f1,hw2⟩:=HZ.out rfl;have b2:=keep1 (bW w4) r1 (by go_simp) f1;have HW2:=qH hw2;have q:((0:Int)==0)=true:=rfl;have hp1:0<(rowOf w4 g).size:=by rw[b3.1];simp[worA]
    have hg1:¬w2.heap.size=g:=by omega
    have hg2:¬g=w2.heap.size:=by omega
    have hg3:¬g+1=g:=by omega
    have hown1:Own ((w4.setRow g (worA x' L2)).alloc (.cells #[iv 0] 46)) (g+2) 46 1 A k c ((worSaid (l.take k) x0).map iv):=HO1.out.same (fun q e=>(Below.heap_alloc (w4.setRow g (worA x' L2)) _ q (by have:=(HO1.out.block q e).2;simpa[World.setRow]using this)).trans (setRow_other _ _ _ _ (by have:=(HAB.out q e).1;omega)));have hsrc:Src ((w4.setRow g (worA x' L2)).alloc (.cells #[iv 0] 46)) (some ⟨w4.heap.size,0,none⟩) [iv 0]:=src_blk (blk_top (by simp[World.setRow]));have hbase1:g+2<=((w4.setRow g (worA x' L2)).alloc (.cells #[iv 0] 46)).heap.size:=by simp[World.setRow];omega
    have hlim:k+1<=137438953472:=by omega
    clear hw2 r1 f1;go_wp2_with (at_builtin;go_must (refine wpList_app ((w4.setRow g (worA x' L2)).alloc (.cells #[iv 0] 46)) rfl _ _ 64 rfl elErrs (g+2) A k c ((worSaid (l.take k) x0).map iv) rfl hown1 (some ⟨w4.heap.size,0,none⟩) 1 1 [iv 0] rfl hsrc rfl (by simp[Value.oneCell']) hlim hbase1 ?_;intro A' c' w6 hown6 hg6 hb6 hor6));have hk1:∀q,q<w4.heap.size->A.map (·.block)≠some q->q≠g->w6.heap[q]?=w4.heap[q]?:=fun q h1 h2 h3=>(hg6.block q (by simp[World.setRow];omega) (fun e=>h2 e.symm)).trans ((Below.heap_alloc (w4.setRow g (worA x' L2)) _ q (by simpa[World.setRow]using h1)).trans (setRow_other _ _ _ _ h3));have hgA:∀q,q<g+2->A.map (·.block)≠some q:=fun q h e=>by have:=(HAB.out q e).1;omega
    have hs6:=hb6.size;have hs6':w4.heap.size+1<=w6.heap.size:=by simpa[World.setRow]using hs6
    have hA1:∀q,A'.map (·.block)=some q->A.map (·.block)=some q∨w4.heap.size<=q:=fun q e=>by
     exact x0yz
    have hrow1:rowOf w6 (g+1)=worA Wor.zero WLoc.zero∧frOf w6 (g+1)=(0,0):=by
     exact x8cd
    have hrow2:rowOf w6 g=worA x' L2∧frOf w6 g=(0,0):=by
     have h1:w6.heap[g]?=(w4.setRow g (worA x' L2)).heap[g]?:=(hg6.block g (by simp[World.setRow];omega) (fun e=>hgA g (by omega) e.symm)).trans (Below.heap_alloc (w4.setRow g (worA x' L2)) _ g (by simp[World.setRow];omega));have h2:=rowOf_heap h1;refine⟨h2.1.trans (by rw[rowOf_setRow _ _ _ _ hp1,if_pos rfl]),h2.2.trans (by rw[frOf_setRow];exact b3.2.1)⟩
    have hbel1:Below g w w6:=((below_row HB4.out nl _).alloc (by simp[World.setRow];omega) _).trans (hb6.mono (by omega));have HNEW:Hid (x'=worGo (l.take (k+1)) x0∧WorOk x'):=qH (by
     have h1:(worHappen x kd n).2=0:=by rw[HRES.out]
     have h2:=happen_keeps HX.out.2 h1;rw[HRES.out]at h2;refine⟨?_,h2.1⟩;rw[HSD.out.2];unfold worTry;dsimp only;rw[HRES.out,if_pos rfl])
    have HI2:Hid (∀v:World,(∀q,g+2<=q->A'.map (·.block)≠some q->q<w6.heap.size->v.heap[q]?=w6.heap[q]?)->WorIn v x' L2):=qH (fun v hv=>HW2.out v (fun q h1 h2 h3=>(hv q (by omega) (fun e=>by
      rcases hA1 q e with h9|h9
      ·have:=(HAB.out q h9).2;omega
      omega) (by omega)).trans (hk1 q h3 (fun e=>by have:=(HAB.out q e).2;omega) (by omega))))
    have HR1:Hid (rowOf w6 g=worA x' L2∧frOf w6 g=(0,0)∧rowOf w6 (g+1)=worA Wor.zero WLoc.zero∧frOf w6 (g+1)=(0,0)):=qH ⟨hrow2.1,hrow2.2,hrow1.1,hrow1.2⟩;have HO2:Hid (Own w6 (g+2) 46 1 A' (k+1) c' ((worSaid (l.take (k+1)) x0).map iv)):=qH (by rw[HSD.out.1,List.map_append];exact hown6);have HB5:Hid (Below g w w6∧g+2<=w6.heap.size):=qH ⟨hbel1,by omega⟩;clear hown6 hg6 hb6 hor6 hk1 hA1 hrow1 hrow2 hbel1 hown1 hsrc hs6 b3 b1;go_roundw
    case rel=>exact⟨k+1,x',L2,A',c',by omega,by go_num,by first|rfl|go_num,HNEW,HR1,HI2,HO2,HB5⟩
    case measure=>simp[intOf];omega
   have q:(e'==0)=false:=by simp[c1]
   have hown1:Own (w4.alloc (.cells #[iv e'] 46)) (g+2) 46 1 A k c ((worSaid (l.take k) x0).map iv):=HO1.out.same (fun q e=>Below.heap_alloc w4 _ q (HO1.out.block q e).2);have hsrc:Src (w4.alloc (.cells #[iv e'] 46)) (some ⟨w4.heap.size,0,none⟩) [iv e']:=src_blk (blk_top rfl);have hbase1:g+2<=(w4.alloc (.cells #[iv e'] 46)).heap.size:=by simp;omega
   have hlim:k+1<=137438953472:=by omega
   have HC1:=qH c1;clear c1;go_wp2_with (at_builtin;go_must (refine wpList_app (w4.alloc (.cells #[iv e'] 46)) rfl _ _ 64 rfl elErrs (g+2) A k c ((worSaid (l.take k) x0).map iv) rfl hown1 (some ⟨w4.heap.size,0,none⟩) 1 1 [iv e'] rfl hsrc rfl (by simp[Value.oneCell']) hlim hbase1 ?_;intro A' c' w6 hown6 hg6 hb6 hor6));have hk1:∀q,q<w4.heap.size->A.map (·.block)≠some q->q≠g->w6.heap[q]?=w4.heap[q]?:=fun q h1 h2 h3=>(hg6.block q (by simp[World.setRow];omega) (fun e=>h2 e.symm)).trans (Below.heap_alloc w4 _ q h1);have hgA:∀q,q<g+2->A.map (·.block)≠some q:=fun q h e=>by have:=(HAB.out q e).1;omega
   have hs6:=hb6.size;have hs6':w4.heap.size+1<=w6.heap.size:=by simpa[World.setRow]using hs6
   have hA1:∀q,A'.map (·.block)=some q->A.map (·.block)=some q∨w4.heap.size<=q:=fun q e=>by
    exact x0yz
   have hrow1:rowOf w6 (g+1)=worA Wor.zero WLoc.zero∧frOf w6 (g+1)=(0,0):=by
    exact x8cd
   have hrow2:rowOf w6 g=worA x L∧frOf w6 g=(0,0):=by
    have h1:=rowOf_heap (hg6.block g (by simp;omega) (fun e=>hgA g (by omega) e.symm));have h2:=rowOf_heap (Below.heap_alloc w4 (.cells #[iv e'] 46) g (by omega));exact⟨(h1.1.trans h2.1).trans b3.1,(h1.2.trans h2.2).trans b3.2.1⟩
   have hbel1:Below g w w6:=(HB4.out.alloc (by omega) _).trans (hb6.mono (by omega));have HNEW:Hid (x=worGo (l.take (k+1)) x0∧WorOk x):=qH (by
    refine⟨?_,HX.out.2⟩;rw[HSD.out.2];unfold worTry;dsimp only;rw[HRES.out,if_neg HC1.out])
   have HI2:Hid (∀v:World,(∀q,g+2<=q->A'.map (·.block)≠some q->q<w6.heap.size->v.heap[q]?=w6.heap[q]?)->WorIn v x L):=qH (fun v hv=>HI.out v (fun q h1 h2 h3=>(hv q h1 (fun e=>by
     rcases hA1 q e with h9|h9
     ·exact h2 h9
     omega) (by omega)).trans ((hk1 q (by omega) h2 (by omega)).trans (HK1.out q h3))))
   have HR1:Hid (rowOf w6 g=worA x L∧frOf w6 g=(0,0)∧rowOf w6 (g+1)=worA Wor.zero WLoc.zero∧frOf w6 (g+1)=(0,0)):=qH ⟨hrow2.1,hrow2.2,hrow1.1,hrow1.2⟩;have HO2:Hid (Own w6 (g+2) 46 1 A' (k+1) c' ((worSaid (l.take (k+1)) x0).map iv)):=qH (by rw[HSD.out.1,List.map_append];exact hown6);have HB5:Hid (Below g w w6∧g+2<=w6.heap.size):=qH ⟨hbel1,by omega⟩;clear hown6 hg6 hb6 hor6 hk1 hA1 hrow1 hrow2 hbel1 hown1 hsrc hs6 b3 b1;go_roundw
   case rel=>exact⟨k+1,x,L,A',c',by omega,by go_num,by first|rfl|go_num,HNEW,HR1,HI2,HO2,HB5⟩
   case measure=>simp[intOf];omega
  obtain rfl:k=l.length:=by omega
  have dl:decide ((l.length:Int)<(l.length:Int))=false:=by simp
  have hxx:=HX.out.1;rw[List.take_length]at hxx;have hoo:=HO.out;rw[List.take_length]at hoo;have HXX:=qH hxx;have HOO:=qH hoo;have a2:=keep1 (bW wr) HR.out.1 (by go_simp) HR.out.2.1;have a1:=keep1 (bW wr) HR.out.2.2.1 (by go_simp) HR.out.2.2.2;clear hxx hoo;go_wp2_with fail;refine bodyPost_ret (results_ctt rfl rfl (cs:=worA x L) (by go_simp) (by go_simp) (by go_simp)) rfl ?_;rw[<-HXX.out];refine⟨L,A,c,g+2,by rw[said_len];rfl,?_,by rw[HG.out];omega,?_,?_⟩
  ·rw[said_len];exact HOO.out.same (w':=wr.setRow (g+1) (worA x L)) (fun q e=>setRow_other _ _ _ _ (by have:=(HOO.out.block q e).1;omega))
  ·exact fun v hv=>HI.out v (fun q h1 h2 h3=>(hv q h1 h2 (by simpa[World.setRow]using h3)).trans (setRow_other _ _ _ _ (by omega)))
  rw[HG.out];exact below_row HB.out.1 (by omega) _
section
open Go.RowKit
end
theorem x4zw(h:Y:=by
 have HS:=qH hi;have HH:=qH hh;have HHB:=qH hhb;have HGL:=qH hgl;have HST:=qH hst;have HCL:=qH hcl;have H1:=qH h0;have HF2:=qH hf0;have K1:=qH (fun w h=>worNew_calls A c l w hc hl h);have HBA:Hid (Below w.heap.size w (w.alloc (.cells (worA Wor.zero WLoc.zero) 41))):=qH (bL _);clear hcl h0 hst hi hh hhb hgl;by_cases hr:relCheck l≠0
 ·have hz:worNew l=(Wor.zero,relCheck l):=by unfold worNew;rw[if_pos hr]
  rw[hz]at K1;have HR:=qH hr;have q:(relCheck l !=0)=true:=by simp[hr]
  obtain⟨n,hn⟩:=eX (relCheck l);rw[hn]at K1 q;clear hz hr hn;go_enter Try.func6,Try.ntmps6;go_wp2_with fail;refine(K1.out _ (HS.out.stays HBA.out)).mono ?_;rintro en w1 ⟨L1,rfl,hf1,hb⟩;obtain⟨a0r,a0f,a0n,a0c,a0z,a0l⟩:=kp (w.heap.size) (worA Wor.zero WLoc.zero) hb;have hs1:w.heap.size+1<=w1.heap.size:=by have:=hb.size;simpa using this
  have HB1:=bT HBA hb;have HF1:=qH hf1;have hp1:0<(rowOf w1 w.heap.size).size:=by rw[a0r];simp[worA]
  clear hb hf1;go_wp2_with fail;refine bodyPost_ret (rC (worA Wor.zero L1)) rfl ⟨Wor.zero,L1,rfl,.inl ⟨HR.out,rfl⟩,?_,?_⟩
  ·intro v hv;refine HF1.out v (fun k h1 h2=>?_);simp at h1;refine(hv k (by omega) (by simp[World.setRow];omega)).trans ?_;exact(Below.heap_alloc (w1.setRow w.heap.size (worA Wor.zero L1)) _ k (by simp[World.setRow];omega)).trans (setRow_other _ _ _ _ (by omega))
  have hs:=HB1.out.size;refine Bx.of (b2:=w.heap.size) ?_ nl;repeat (first|exact hA|refine bR ?_ _|refine bC ?_ _|refine bA ?_ _)
 have hr:=Decidable.not_not.1 hr;obtain⟨hinv,hnew⟩:=inv_new hr;rw[hnew]at K1;obtain⟨x1,hx2⟩:=eX ((⟨l,newDev (l.headD []),[]⟩:Wor));rw[hx2]at K1 hinv;have HI1:=qH hinv;have HR:=qH hr;have hfl:x1.d.rec_.floor=1:=by rw[<-hx2];rfl
 have HFL:=qH hfl;obtain⟨m,hm⟩:=eX (min scr.length 150);have hmin:=run_min150 scr.length;rw[hm]at hmin;have hm1:m<=scr.length:=by omega
 have hm2:m<=150:=by omega
 have HSL:Hid (∀wq,(Instr.slice 23 (.slice B scr.length e) none (some (iv (m:Int))) none).run Try.prog wq=.ok (.slice B m e) wq):=qH (fun wq=>by
  have k1:(m:Int)<=(e:Int):=by omega
  cases B with
  |none=>
   have k2:m=0:=by
    rcases Nat.eq_zero_or_pos m with h|h
    ·exact h
    obtain⟨b,o,h9,_⟩:=HH.out 0 (by omega)
    cases h9
   subst k2;go_simp
  |some a=>
   by_cases k2:e=0
   ·subst k2;have k3:m=0:=by omega
    subst k3;go_simp
   go_simp)
 clear hr hinv hnew hx2 hm hfl;go_enter Try.func6,Try.ntmps6;go_wp2_with fail;refine(K1.out _ (HS.out.stays HBA.out)).mono ?_;rintro en w1 ⟨L1,rfl,hf1,hb⟩;obtain⟨a0r,a0f,a0n,a0c,a0z,a0l⟩:=kp (w.heap.size) (worA Wor.zero WLoc.zero) hb;have hs1:w.heap.size+1<=w1.heap.size:=by have:=hb.size;simpa using this
 have HB1:=bT HBA hb;have HF1:=qH hf1;clear hb hf1;go_wp2_with fail;have hp1:¬w.heap.size=w1.heap.size:=a0n;obtain⟨w2,hw1⟩:=eX (w1.alloc (.cells (worA x1 L1) 41));have hs2:w2.heap.size=w1.heap.size+1:=by rw[<-hw1];simp
 have hk1:∀q,q<w1.heap.size->w2.heap[q]?=w1.heap[q]?:=fun q h=>by rw[<-hw1];exact Below.heap_alloc w1 _ q h
 have HR1:Hid (rowOf w2 w.heap.size=worA Wor.zero WLoc.zero∧frOf w2 w.heap.size=(0,0)∧rowOf w2 w1.heap.size=worA x1 L1∧frOf w2 w1.heap.size=(0,0)):=qH (by
  have e1:=rowOf_heap (hk1 w.heap.size a0l);exact⟨e1.1.trans a0r,e1.2.trans a0f,by rw[<-hw1,rowOf_alloc,if_pos rfl],by rw[<-hw1,frOf_alloc,if_pos rfl]⟩)
 have HB2:Hid (Below w.heap.size w w2):=qH (by rw[<-hw1];exact HB1.out.alloc (by omega) _);have HW1:Hid (∀v:World,(∀q,w.heap.size+1<=q->q≠w1.heap.size->q<w2.heap.size->v.heap[q]?=w2.heap[q]?)->WorIn v x1 L1):=qH (fun v hv=>HF1.out v (fun k h1 h2=>by
  simp at h1;exact(hv k h1 (by omega) (by omega)).trans (hk1 k h2)))
 try rw[hw1]
 clear hw1 hk1 a0r a0f a0n a0c a0z a0l;obtain⟨g1,hg1⟩:=eX (w1.heap.size);have HG1:=qH hg1;rw[hg1]at HR1 HW1 hs2 hs1⊢;clear hg1;go_loopw [28] (fun i wr=>∃(k:Nat) (x:Wor) (L:WLoc) (f:Int),k<=m∧i=iv k∧Hid (Inv l (1+k) x∧f<=x.d.rec_.floor)∧Hid (rowOf wr w.heap.size=worA Wor.zero WLoc.zero∧frOf wr w.heap.size=(0,0)∧rowOf wr g1=worA x L∧frOf wr g1=(0,0))∧
  Hid (∀v:World,(∀q,w.heap.size+1<=q->q≠g1->q<wr.heap.size->v.heap[q]?=wr.heap[q]?)->WorIn v x L)∧Hid (St wr f)∧Hid (Bx g w.heap.size w wr∧g1+1<=wr.heap.size)) (fun i _=>m-(intOf i).toNat)
 case atStart=>
  refine⟨0,x1,L1,f0,Nat.zero_le _,rfl,qH ⟨HI1.out,by rw[HFL.out];exact HF2.out⟩,HR1,HW1,qH (HST.out w w2 f0 (fun k h=>HB2.out.block k (HGL.out k h)) H1.out),qH ⟨Bx.of HB2.out nl,by omega⟩⟩
 case round=>
  rename World=>wr;obtain⟨k,x,L,f,hk,rfl,HX,HRR,HWI,HSt,HB⟩:=hrel;clear HR1 HW1;have hsz:=HB.out.2;obtain⟨a0r,a0f,a0n,a0c,a0z,a0l⟩:=keep1 (bW wr) HRR.out.1 (by go_simp) HRR.out.2.1;obtain⟨a1r,a1f,a1n,a1c,a1z,a1l⟩:=keep1 (bW wr) HRR.out.2.2.1 (by go_simp) HRR.out.2.2.2;by_cases hlt:k<m
  ·obtain⟨b,o,rfl,hbl,cs,hcs,hcc,rfl,hi1,hi2⟩:=HH.out k (by omega);obtain⟨⟨kd,n⟩,hy⟩:∃y,scr[k]=y:=⟨_,rfl⟩;rw[hy]at hcc hi1 hi2;have hbg:g≠some b:=fun h=>HHB.out (by omega) b h b o rfl rfl;have hb1:b<wr.heap.size:=Nat.lt_of_lt_of_le hbl (by omega);have hwb:∀j,wr.cell? ⟨b,j,none⟩=w.cell? ⟨b,j,none⟩:=fun j=>World.cell?_of_block (HB.out.1.2 b hbl hbg);have p2:wr.cell? ⟨b,o+k*2,none⟩=some (iv kd):=by rw[hwb];have:=hcc 0 (by simp);simpa using this
   have p1:wr.cell? ⟨b,o+k*2+1,none⟩=some (iv n):=by rw[hwb];have:=hcc 1 (by simp);simpa using this
   have HI2:Hid (I64 n):=qH hi2;have hwk:IntKind.i64.wrap ((k:Int)+1)=(k:Int)+1:=IntWalk.i64_in _ (by omega);have dl:decide ((k:Int)<(m:Int))=true:=decide_eq_true (by omega);have hcap:(m:Int)<=(e:Int):=by omega
   clear hcc hi1 hi2 hcs hy hwb hbl;go_wp2_with fail;have hx1:WorIn (wr.alloc (.cells #[iv kd,iv n] 52)) x L:=HWI.out _ (fun q _ _ h2=>Below.heap_alloc wr _ q h2);obtain⟨⟨x',e'⟩,hres⟩:∃res,worDo x kd n=res:=⟨_,rfl⟩;have KD:=qH (worDo_calls x L kd n _ hx1 HI2.out);rw[hres]at KD;refine KD.out.mono ?_;rintro en w3 ⟨L3,rfl,hf1,hb⟩;obtain⟨a0r,a0f,a0n,a0c,a0z,a0l⟩:=kp (w.heap.size) (worA Wor.zero WLoc.zero) hb;obtain⟨a1r,a1f,a1n,a1c,a1z,a1l⟩:=kp g1 (worA x L) hb;have hs3:wr.heap.size+1<=w3.heap.size:=by have:=hb.size;simpa using this
   have hbx1:Below wr.heap.size wr w3:=(bL _).trans (hb.mono (by simp));have HF3:=qH hf1;have HB3:=qH hbx1;have HSTEP:Hid (stoStep x (kd,n)=(if e'=0 then x' else x)∧Inv l (1+(k:Int)+1) (stoStep x (kd,n))∧x.d.rec_.floor<=(stoStep x (kd,n)).d.rec_.floor):=qH (by
    have h1:=step_inv HX.out.1 (kd,n);refine⟨?_,h1.1,h1.2⟩;unfold stoStep;dsimp only;rw[hres])
   clear hb hf1 hbx1 KD hres hx1;by_cases c1:e'=0
   ·subst c1;have q:((0:Int)==0)=true:=rfl;rw[if_pos rfl]at HSTEP;have hp2:0<(rowOf w3 g1).size:=by rw[a1r];simp[worA]
    go_wp2_with fail;obtain⟨wc,hwc⟩:=eX ((w3.setRow g1 (worA x' L3)).alloc (.cells (worA x' L3) 41));have hsc:wc.heap.size=w3.heap.size+1:=by rw[<-hwc];simp[World.setRow]
    have hkc:∀q,q<w3.heap.size->q≠g1->wc.heap[q]?=w3.heap[q]?:=fun q h1 h2=>by rw[<-hwc];exact(Below.heap_alloc (w3.setRow g1 (worA x' L3)) _ q (by simpa[World.setRow]using h1)).trans (setRow_other _ _ _ _ h2)
    have hrc:rowOf wc w.heap.size=worA Wor.zero WLoc.zero∧frOf wc w.heap.size=(0,0):=by
     have h1:=rowOf_heap (hkc w.heap.size (by omega) (by omega));exact⟨h1.1.trans a0r,h1.2.trans a0f⟩
    have hrd:rowOf wc g1=worA x' L3∧frOf wc g1=(0,0):=by
     have h1:wc.heap[g1]?=(w3.setRow g1 (worA x' L3)).heap[g1]?:=by rw[<-hwc];exact Below.heap_alloc (w3.setRow g1 (worA x' L3)) _ g1 (by simp[World.setRow];omega)
     have h2:=rowOf_heap h1;exact⟨h2.1.trans (by rw[rowOf_setRow _ _ _ _ hp2,if_pos rfl]),h2.2.trans (by rw[frOf_setRow];exact a1f)⟩
    have hbc:Bx g w.heap.size w wc:=by
     rw[<-hwc];exact((HB.out.1.below HB3.out (by omega)).row (by omega) _).below (bL _) (by simp[World.setRow];omega)
    have hic:∀v:World,(∀q,g≠some q->q<wc.heap.size->v.heap[q]?=wc.heap[q]?)->WorIn v x' L3:=fun v hv=>HF3.out v (fun k h1 h2=>by
     simp at h1;exact(hv k (fun h=>by have:=HGL.out _ h;omega) (by omega)).trans (hkc k h2 (by omega)))
    have hsc1:St wc f:=HST.out wr wc f (fun k h=>by
     have:=HGL.out k h;exact(hkc k (by omega) (by omega)).trans (HB3.out.block k (by omega))) HSt.out
    have HKC:=qH hkc;have HSTEP1:Hid (Inv l (1+(k:Int)+1) x'∧x.d.rec_.floor<=x'.d.rec_.floor):=qH (by
     have h1:=HSTEP.out;rw[h1.1]at h1;exact h1.2)
    have HRC:=qH (And.intro hrc hrd);have HBC:=qH hbc;rw[hwc];refine(HCL.out x' L3 wc (1+(k:Int)+1) f HSTEP1.out.1 (by omega) (by omega) (Int.le_trans HX.out.2 HSTEP1.out.2) hic hsc1 hbc).mono ?_;clear hwc hkc hrc hrd hbc hic hsc1 HSTEP HRR HCL a0r a0f a0n a0c a0z a0l a1r a1f a1n a1c a1z a1l;rintro en w4 ⟨rfl,hst1,hbx1⟩;have HB4:=qH hbx1;have HS1:=qH hst1;have hs4:=hbx1.size;clear hst1 hbx1;go_wp2_with fail;go_roundw
    case rel=>
     refine⟨k+1,x',L3,x'.d.rec_.floor,by omega,by go_num,qH ⟨?_,Int.le_refl _⟩,qH ?_,qH ?_,HS1,qH ⟨HBC.out.trans HB4.out (by omega),by omega⟩⟩
     ·have h1:=HSTEP1.out.1;rwa [show (1:Int)+(k:Int)+1=1+((k+1:Nat):Int) by omega]at h1
     ·have e2:=HB4.out.rowBelow (by omega) (fun h=>by have:=HGL.out _ h;omega) HRC.out.1.1 HRC.out.1.2;have e1:=HB4.out.rowBelow (by omega) (fun h=>by have:=HGL.out _ h;omega) HRC.out.2.1 HRC.out.2.2;exact⟨e2.1,e2.2,e1.1,e1.2⟩
     intro v hv;refine HF3.out v (fun k h1 h2=>?_);simp at h1;refine(hv k (by omega) (by omega) (by omega)).trans ((HB4.out.2 k (by omega) (fun h=>by have:=HGL.out _ h;omega)).trans (HKC.out k h2 (by omega)))
    case measure=>simp[intOf];omega
   have q:(e'==0)=false:=by simp[c1]
   have HC1:=qH c1;rw[if_neg c1]at HSTEP;clear c1;go_wp2_with fail;have hkd:∀q,q<w3.heap.size->(w3.alloc (.cells (worA x' L3) 41)).heap[q]?=w3.heap[q]?:=fun q h1=>Below.heap_alloc w3 _ q h1;have hrd:=rowOf_heap (hkd w.heap.size a0l);have hre:=rowOf_heap (hkd g1 a1l);have HKD:=qH hkd;have HRD:=qH (And.intro hrd hre);have HRO:=qH (And.intro (And.intro a0r a0f) (And.intro a1r a1f));clear hkd hrd hre a0r a0f a0n a0c a0z a0l a1r a1f a1n a1c a1z a1l;go_roundw
   case rel=>
    refine⟨k+1,x,L,f,by omega,by go_num,qH ⟨?_,HX.out.2⟩,qH ?_,qH ?_,qH ?_,qH ⟨?_,by simp;omega⟩⟩
    ·have h1:=HSTEP.out.2.1;rw[HSTEP.out.1]at h1;rwa [show (1:Int)+(k:Int)+1=1+((k+1:Nat):Int) by omega]at h1
    ·exact⟨HRD.out.1.1.trans HRO.out.1.1,HRD.out.1.2.trans HRO.out.1.2,HRD.out.2.1.trans HRO.out.2.1,HRD.out.2.2.trans HRO.out.2.2⟩
    ·intro v hv;exact HWI.out v (fun q h1 h2 h3=>(hv q h1 h2 (by simp;omega)).trans ((HKD.out q (by omega)).trans (HB3.out.block q h3)))
    ·exact HST.out wr _ f (fun k h=>by
      have:=HGL.out k h;exact(HKD.out k (by omega)).trans (HB3.out.block k (by omega))) HSt.out
    exact HB.out.1.below (HB3.out.alloc (by omega) _) (by omega)
   case measure=>simp[intOf];omega
  obtain rfl:k=m:=by omega
  have dl:decide ((k:Int)<(k:Int))=false:=by simp
  go_wp2_with fail;refine bodyPost_ret (rC (worA x L)) rfl ⟨x,L,rfl,.inr ⟨1+(k:Int),HR.out,HX.out.1,by omega,by omega⟩,?_,?_⟩
  ·intro v hv;refine HWI.out v (fun q h1 h2 h3=>?_);refine(hv q (by omega) (by simp[World.setRow];omega)).trans (setRow_other _ _ _ _ (by omega))
  exact HB.out.1.row nl _):Y:=h
def Bx(g:Option Nat)(base:Nat)(w w':World):Prop:=Below 0 w w'∧∀k,k<base->g≠some k->w'.heap[k]?=w.heap[k]?
section
variable {g:Option Nat} {base:Nat} {w w' w2:World}
theorem Bx.trans(h:Bx g base w w')(h2:Bx g b2 w' w2)(hb:base<=b2):Bx g base w w2:=⟨h.1.trans h2.1,fun k h3 h4=>(h2.2 k (by omega) h4).trans (h.2 k h3 h4)⟩
theorem Bx.of(h:Below b2 w w')(hb:base<=b2):Bx g base w w':=⟨h.mono (Nat.zero_le _),fun k h1 _=>h.block k (by omega)⟩
theorem Bx.below(h:Bx g base w w')(hb:Below b2 w' w2)(hs:base<=b2):Bx g base w w2:=h.trans (Bx.of hb nl) hs
theorem Bx.size(h:Bx g base w w'):w.heap.size<=w'.heap.size:=h.1.size
theorem Bx.row(h:Bx g base w w'){q:Nat}(hq:base<=q)(cs:Array Value):Bx g base w (w'.setRow q cs):=⟨below_row h.1 (Nat.zero_le _) _,fun k h1 h2=>(setRow_other _ _ _ _ (by omega)).trans (h.2 k h1 h2)⟩
theorem Bx.to(h:Bx none base w w'):Below base w w':=⟨h.1.os,h.1.tape,h.1.output,h.1.size,fun k hk=>h.2 k hk (by simp)⟩
theorem Bx.alloc(h:Bx g base w w')(hs:base<=w'.heap.size)(o:Obj):Bx g base w (w'.alloc o):=h.below (bL o) hs
theorem Bx.belowTop'{o:Obj}(h:Bx none (w.heap.size+1) (w.alloc o) w'):Below w.heap.size w w':=
 (bL o).trans (h.to.mono (Nat.le_succ _))
theorem Bx.rowBelow{cs:Array Value}(h:Bx g base w w'){k:Nat}(hk:k<base)(hg:g≠some k)(hr:rowOf w k=cs)(hf:frOf w k=(0,0)):rowOf w' k=cs∧frOf w' k=(0,0):=by
 have e:=rowOf_heap (h.2 k hk hg);exact⟨e.1.trans hr,e.2.trans hf⟩
end
theorem run_min150(n:Nat)(w:World):(Builtin.min_ #[3,3] 3 #[iv (n:Int),iv 150]).run Try.prog w=.ok (iv ((min n 150:Nat):Int)) w:=by
 by_cases h:(150:Int)<(n:Int)
 ·have e:min n 150=150:=by omega
  rw[e];go_simp
 have e:min n 150=n:=by omega
 rw[e];go_simp
def PlRet(w:World)(g:Option Nat)(l:List (List UInt8))(scr:List (Int×Int)):Ending->World->Prop:=fun en w'=>
 ∃x L,en=.returned (.tuple #[.agg (worA x L),.bool true])∧((relCheck l≠0∧x=Wor.zero)∨(∃k:Int,relCheck l=0∧Inv l k x∧1<=k∧k<=151))∧
  Fresh w.heap.size w' (fun v=>WorIn v x L)∧Bx g w.heap.size w w'
@[go_sem] theorem aggSzHap:aggSz Try.prog 52=2:=by kernel_rfl
theorem ims_three{g0 g1 g2 g3:Nat}(h0:∃t f,w.heap[g0]?=some (.cells (im0.map bv).toArray t f))(h1:∃t f,w.heap[g1]?=some (.cells (im1.map bv).toArray t f))(h2:∃t f,w.heap[g2]?=some (.cells (im2.map bv).toArray t f))
  (h3:∃t f,w.heap[g3]?=some (.cells #[.slice (some ⟨g0,0,none⟩) 8 8,.slice (some ⟨g1,0,none⟩) 9 9,.slice (some ⟨g2,0,none⟩) 11 11] t f)):Ims w (some ⟨g3,0,none⟩) ims:=by
 obtain⟨_,_,h4⟩:=h0;obtain⟨_,_,h1⟩:=h1;obtain⟨_,_,h2⟩:=h2;obtain⟨_,_,h3⟩:=h3;intro i hi;have hi1:i<3:=hi;refine⟨g3,0,rfl,blk_lt h3,?_⟩;have hc:=fun j=>cell_of_row w g3 j _ _ _ h3
 match i,hi1 with
 |0,_=>exact⟨[.slice (some ⟨g0,0,none⟩) 8 8],rfl,(fun j hj=>by
  obtain rfl:j=0:=by simpa using hj
  simp[hc]),⟨_,8,rfl,nl,Nat.le_of_ble_eq_true rfl,bts_blk h4 rfl⟩⟩
 |1,_=>exact⟨[.slice (some ⟨g1,0,none⟩) 9 9],rfl,(fun j hj=>by
  obtain rfl:j=0:=by simpa using hj
  simp[hc]),⟨_,9,rfl,nl,Nat.le_of_ble_eq_true rfl,bts_blk h1 rfl⟩⟩
 |2,_=>exact⟨[.slice (some ⟨g2,0,none⟩) 11 11],rfl,(fun j hj=>by
  obtain rfl:j=0:=by simpa using hj
  simp[hc]),⟨_,11,rfl,nl,Nat.le_of_ble_eq_true rfl,bts_blk h2 rfl⟩⟩
def IsRet(w:World):Ending->World->Prop:=fun en w'=>
 ∃A c,en=.returned (.slice A ims.length c)∧ims.length<=c∧Ims w' A ims∧Below w.heap.size w w'
theorem lawImages_calls(w:World):Calls Try.prog 19 #[] w (IsRet w):=by
 have kc:=convert_const (P:=Try.prog) 24 5 Try.underlying24 Try.underlying5;go_enter Try.func19,Try.ntmps19;go_wp2_with fail;go_ret;refine⟨some ⟨w.heap.size+1+1+1,0,none⟩,3,rfl,nl,ims_three (g0:=w.heap.size) (g1:=w.heap.size+1) (g2:=w.heap.size+1+1) ?_ ?_ ?_ ?_,?_⟩
 ·exact⟨_,_,blk_old (blk_old (blk_old (blk_top (by simp))))⟩
 ·exact⟨_,_,blk_old (blk_old (blk_top (by simp)))⟩
 ·exact⟨_,_,blk_old (blk_top (by simp))⟩
 ·exact⟨_,_,blk_top (by simp)⟩
 exact((((Below.refl _ _).alloc (by simp) _).alloc (by simp) _).alloc (by simp;omega) _).alloc (by simp;omega) _
theorem x7ce(h:Y:=by
 go_enter Try.func11,Try.ntmps11;go_wp2_with fail;refine(K1.out _ (HIN.out.stays HBA.out)).mono ?_;rintro e w1 ⟨rfl,hb⟩;have a1:=kp (w.heap.size) (worA x L) hb;have hs1:w.heap.size+1<=w1.heap.size:=by have:=hb.size;simpa using this
 have HB1:=bT HBA hb;clear hb;go_wp2_with fail
 go_ret3
 exact⟨none,0,rfl,nl,fun _ _=>bts_nil _ _,HB1.out⟩):Y:=h
theorem stoRuns_bad(h:worCheck x≠0):stoRuns x=(0,[],worCheck x):=by unfold stoRuns;rw[if_pos h]
theorem stoRuns_off(h:worCheck x=0)(hu:x.d.up=false):stoRuns x=(0,[],5):=by unfold stoRuns;rw[if_neg (by omega),if_pos hu]
theorem stoRuns_up(h:worCheck x=0)(hu:x.d.up=true):stoRuns x=((x.d.rec_.at_ x.d.running).ver,x.d.image x.d.running x.d.rec_,0):=by unfold stoRuns;rw[if_neg (by omega),if_neg (by rw[hu];simp)]
def SrRet(w:World)(v:Int)(b:LU)(n:Int):Ending->World->Prop:=fun en w'=>
 ∃A c,en=.returned (.tuple #[iv v,.slice A b.length c,iv n])∧b.length<=c∧Fresh w.heap.size w' (fun v=>Bts v A b)∧Below w.heap.size w w'
def srJ(w0:World)(b:LU):Nat->(Nat->Value)->World->Prop
 |0,_,w=>w=w0.drew
 |1,cv,w=>∃A c,cv 12=.slice A b.length c∧Own w w0.heap.size 5 1 A b.length c (b.map bv)∧Below w0.heap.size w0 w
 |_,cv,w=>∃A c,cv 14=.slice A b.length c∧Own w w0.heap.size 5 1 A b.length c (b.map bv)∧Below w0.heap.size w0 w
theorem srJ_bel{w0:World}{b:LU}{k:Nat}{cv:Nat->Value}(hJ:srJ w0 b k cv w):Below w0.heap.size w0 w:=by
 match k,hJ with
 |0,hJ=>obtain rfl:w=w0.drew:=hJ;exact(Below.refl _ _).drew
 |1,⟨_,_,_,_,h⟩=>exact h
 |n+2,⟨_,_,_,_,h⟩=>exact h
theorem stoRuns_calls(x:Wor)(L:WLoc)(w:World)(h:WorIn w x L):Calls Try.prog 11 #[.agg (worA x L)] w (SrRet w (stoRuns x).1 (stoRuns x).2.1 (stoRuns x).2.2):=by
 have HBA:Hid (Below w.heap.size w (w.alloc (.cells (worA x L) 41))):=qH (bL _);have HIN:=qH h;have K1:=qH (fun w h=>worCheck_calls x L w h);by_cases hc:worCheck x≠0
 ·rw[stoRuns_bad hc];have q:(worCheck x !=0)=true:=by simp[hc]
  generalize worCheck x=n at *
  clear hc h;exact x7ce
 have hc:=Decidable.not_not.1 hc;have hok:=(worCheck_ok.1 hc).dev;rw[hc]at K1
 cases hu:x.d.up
 ·rw[stoRuns_off hc hu];clear hc h hok;exact x7ce
 rw[stoRuns_up hc hu];have hrec:=rec_ok hok;have K2:=qH (fun w=>read_ok x.d.c0 x.d.c1 w hok.cops);obtain⟨rk,hrk⟩:=eX ((recRead x.d.c0 x.d.c1).2);have hre:(recRead x.d.c0 x.d.c1).1=x.d.rec_:=rfl;rw[hrk,hre]at K2;have hrun:=(hok.run hu).1;clear hc h hrk hre;rcases hrun with hk|hk
 first|case' inl=>have T2:Hid True:=qH trivial|case' pos=>have T2:Hid True:=qH trivial|case' refine_1=>have T2:Hid True:=qH trivial
 iterate 2
  ·first
    |
     revert T2;intro T2;have hver:(x.d.rec_.at_ x.d.running).ver=x.d.rec_.a.ver:=by rw[hk,at_0]
    |have hver:(x.d.rec_.at_ x.d.running).ver=x.d.rec_.b.ver:=by rw[hk,at_1]
   first
    |
     revert T2;intro T2;have himg:x.d.image x.d.running x.d.rec_=x.d.s0.take x.d.rec_.a.size.toNat:=by rw[hk];unfold Dev.image;rw[at_0];simp[Dev.slot]
    |have himg:x.d.image x.d.running x.d.rec_=x.d.s1.take x.d.rec_.b.size.toNat:=by rw[hk];unfold Dev.image;rw[at_1];simp[Dev.slot]
   first
    |
     revert T2;intro T2;have hsz:=(recCheck_parts hrec).2.1
    |have hsz:=(recCheck_parts hrec).2.2.1
   first
    |
     revert T2;intro T2;have hsz2:0<=x.d.rec_.a.size∧x.d.rec_.a.size<=64:=by
      unfold infCheck at hsz;by_cases hh:InfRange x.d.rec_.a
      ·unfold InfRange at hh;omega
      rw[if_neg hh]at hsz;exact absurd hsz (by decide)
    |
     have hsz2:0<=x.d.rec_.b.size∧x.d.rec_.b.size<=64:=by
      unfold infCheck at hsz;by_cases hh:InfRange x.d.rec_.b
      ·unfold InfRange at hh;omega
      rw[if_neg hh]at hsz;exact absurd hsz (by decide)
   first
    |
     revert T2;intro T2;obtain⟨y,hy⟩:∃y:Nat,x.d.rec_.a.size=(y:Int):=⟨x.d.rec_.a.size.toNat,by omega⟩
    |obtain⟨y,hy⟩:∃y:Nat,x.d.rec_.b.size=(y:Int):=⟨x.d.rec_.b.size.toNat,by omega⟩
   first
    |
     revert T2;intro T2;rw[show x.d.rec_.a.size.toNat=y by omega]at himg
    |rw[show x.d.rec_.b.size.toNat=y by omega]at himg
   first
    |
     revert T2;intro T2;obtain⟨b,hb⟩:=eX (x.d.s0.take y)
    |obtain⟨b,hb⟩:∃b,x.d.s1.take y=b:=⟨_,rfl⟩
   rw[hver,himg,hb]
   first
    |
     revert T2;intro T2;have hbl:b.length=y:=by rw[<-hb,List.length_take,hok.l0];omega
    |have hbl:b.length=y:=by rw[<-hb,List.length_take,hok.l1];omega
   have HBL:=qH hbl
   first
    |
     revert T2;intro T2;have HBT:Hid (Bts w L.l.a0 b):=qH (by rw[<-hb];exact mid_take HIN.out.dev.b0 y)
    |have HBT:Hid (Bts w L.l.a1 b):=qH (by rw[<-hb];exact mid_take HIN.out.dev.b1 y)
   first
    |
     revert T2;intro T2;obtain⟨ba,oa,hAa,-⟩:=HIN.out.dev.b0 0 (by rw[hok.l0];decide)
    |obtain⟨ba,oa,hAa,-⟩:=HIN.out.dev.b1 0 (by rw[hok.l1];decide)
   first
    |
     revert T2;intro T2;have HSL:Hid (∀W,(Instr.slice 24 (.slice L.l.a0 x.d.s0.length L.l.c0) none (some (iv x.d.rec_.a.size)) none).run Try.prog W=.ok (.slice L.l.a0 b.length L.l.c0) W):=qH (by rw[hbl];exact pre_slice y hy HIN.out.dev.k0 (by rw[hok.l0];omega) (by rw[hok.l0];decide) ⟨ba,oa,hAa⟩)
    |have HSL:Hid (∀W,(Instr.slice 24 (.slice L.l.a1 x.d.s1.length L.l.c1) none (some (iv x.d.rec_.b.size)) none).run Try.prog W=.ok (.slice L.l.a1 b.length L.l.c1) W):=qH (by rw[hbl];exact pre_slice y hy HIN.out.dev.k1 (by rw[hok.l1];omega) (by rw[hok.l1];decide) ⟨ba,oa,hAa⟩)
   have HB64:Hid (b.length<=64):=qH (by omega);have HK:=qH hk;clear hver himg hsz hsz2 hy hb hbl hAa hrec hok;go_enter Try.func11,Try.ntmps11;go_wp2_with fail;refine(K1.out _ (HIN.out.stays HBA.out)).mono ?_;rintro e w1 ⟨rfl,hb⟩;have a0:=kp (w.heap.size) (worA x L) hb;have hs1:w.heap.size+1<=w1.heap.size:=by have:=hb.size;simpa using this
   have HB1:=bT HBA hb;clear hb;go_wp2_with fail;refine(K2.out _).mono ?_;rintro e w2 ⟨rfl,hb⟩;have a0:=kr a0 hb;have hs2:w1.heap.size<=w2.heap.size:=hb.size;have HB2:=bT HB1 hb;clear hb;go_wp2_with fail
   first
    |
     revert T2;intro T2;obtain⟨w3,hw3⟩:=eX ((w2.alloc (.cells (recA x.d.rec_) 30)).alloc (.cells (infA x.d.rec_.a) 27))
    |obtain⟨w3,hw3⟩:∃w3,(w2.alloc (.cells (recA x.d.rec_) 30)).alloc (.cells (infA x.d.rec_.b) 27)=w3:=⟨_,rfl⟩
   have z1:rowOf w3 w.heap.size=worA x L:=by rw[<-hw3,rowOf_alloc,if_neg (by simp;omega),rowOf_alloc,if_neg (by omega)];exact a0.1
   have z2:frOf w3 w.heap.size=(0,0):=by rw[<-hw3,frOf_alloc,if_neg (by simp;omega),frOf_alloc,if_neg (by omega)];exact a0.2.1
   first
    |
     revert T2;intro T2;have z3:rowOf w3 (w2.heap.size+1)=infA x.d.rec_.a:=by rw[<-hw3,rowOf_alloc,if_pos (by simp)]
    |have z3:rowOf w3 (w2.heap.size+1)=infA x.d.rec_.b:=by rw[<-hw3,rowOf_alloc,if_pos (by simp)]
   have z4:frOf w3 (w2.heap.size+1)=(0,0):=by rw[<-hw3,frOf_alloc,if_pos (by simp)]
   have HB3:Hid (Below w.heap.size w w3):=qH (by rw[<-hw3];exact(HB2.out.alloc HB2.out.size _).alloc (by simp;omega) _);try rw[hw3]
   have RW:=qH z1;have FW:=qH z2;have RX:=qH z3;have FX:=qH z4;clear hw3 z1 z2 z3 z4 a0 hk
   first
    |
     revert T2;intro T2;refine wp_region_mix (by kernel_rfl) (some 33::some 34::some 35::some 36::some 37::some 38::some 39::some 40::some 41::some 42::some 43::some 44::some 45::some 2::some 3::some 4::[]) (none::none::none::none::none::none::none::none::none::none::none::none::some 0::none::some 1::none::[]) (.pointer (some ⟨w2.heap.size+1,0,none⟩)::iv x.d.rec_.a.ver::.pointer (some ⟨w.heap.size,1,none⟩)::.pointer (some ⟨w.heap.size,28,none⟩)::iv 0::.pointer (some ⟨w.heap.size,1,none⟩)::.pointer (some ⟨w.heap.size,1,none⟩)::.pointer (some ⟨w.heap.size,1,none⟩)::.slice L.l.a0 x.d.s0.length L.l.c0::.pointer (some ⟨w2.heap.size+1,1,none⟩)::iv x.d.rec_.a.size::.slice L.l.a0 b.length L.l.c0::undef::iv x.d.rec_.a.ver::undef::iv 0::[]) 2 (srJ w3 b) 46 rfl rfl (by decide+kernel) (by decide+kernel) (by decide+kernel) (by decide+kernel) rfl rfl (by decide+kernel) (by decide+kernel) (rfl) ?_ ?_
    |refine wp_region_mix (by kernel_rfl) (some 33::some 34::some 35::some 36::some 37::some 38::some 39::some 40::some 41::some 42::some 43::some 44::some 45::some 2::some 3::some 4::[]) (none::none::none::none::none::none::none::none::none::none::none::none::some 0::none::some 1::none::[]) (.pointer (some ⟨w2.heap.size+1,0,none⟩)::iv x.d.rec_.b.ver::.pointer (some ⟨w.heap.size,1,none⟩)::.pointer (some ⟨w.heap.size,28,none⟩)::iv 1::.pointer (some ⟨w.heap.size,1,none⟩)::.pointer (some ⟨w.heap.size,1,none⟩)::.pointer (some ⟨w.heap.size,2,none⟩)::.slice L.l.a1 x.d.s1.length L.l.c1::.pointer (some ⟨w2.heap.size+1,1,none⟩)::iv x.d.rec_.b.size::.slice L.l.a1 b.length L.l.c1::undef::iv x.d.rec_.b.ver::undef::iv 0::[]) 2 (srJ w3 b) 46 rfl rfl (by decide+kernel) (by decide+kernel) (by decide+kernel) (by decide+kernel) rfl rfl (by decide+kernel) (by decide+kernel) (rfl) ?_ ?_
   ·refine⟨?_,?_,?_,?_,?_,?_,?_,?_,?_,?_,?_,?_,?_,?_,?_,?_,trivial⟩
    ·intro done cv k0 a wq hw h hJ hn;have e9:=mO 9 (.pointer (some ⟨w2.heap.size+1,0,none⟩)) h;go_simp
    ·intro done cv k0 a wq hw h hJ hn;have e33:=mN 0 33 h hw;have y_:=kq (srJ_bel hJ) RX FX;go_simp
    ·intro done cv k0 a wq hw h hJ hn;have e1:=mO 1 (.pointer (some ⟨w.heap.size,0,none⟩)) h;go_simp
    ·intro done cv k0 a wq hw h hJ hn;have e35:=mN 2 35 h hw;go_simp
    ·intro done cv k0 a wq hw h hJ hn;have e36:=mN 3 36 h hw;have y_:=kq (srJ_bel hJ) RW FW;have hk_:=HK.out;go_simp
    ·intro done cv k0 a wq hw h hJ hn;have e1:=mO 1 (.pointer (some ⟨w.heap.size,0,none⟩)) h;go_simp
    ·intro done cv k0 a wq hw h hJ hn;have e38:=mN 5 38 h hw;go_simp
    ·intro done cv k0 a wq hw h hJ hn;have e39:=mN 6 39 h hw;have e37:=mN 4 37 h hw;go_simp
    ·intro done cv k0 a wq hw h hJ hn;have e40:=mN 7 40 h hw;have y_:=kq (srJ_bel hJ) RW FW;go_simp
    ·intro done cv k0 a wq hw h hJ hn;have e9:=mO 9 (.pointer (some ⟨w2.heap.size+1,0,none⟩)) h;go_simp
    ·intro done cv k0 a wq hw h hJ hn;have e42:=mN 9 42 h hw;have y_:=kq (srJ_bel hJ) RX FX;go_simp
    ·intro done cv k0 a wq hw h hJ hn;have e41:=mN 8 41 h hw;have e43:=mN 10 43 h hw;have hs_:=HSL.out;go_simp
    ·intro done cv a wq hw h hJ;have e44:=mN 11 44 h hw;obtain rfl:wq=w3.drew:=hJ
     first
      |
       revert T2;intro T2;refine wp_call (vals:=#[.slice L.l.a0 b.length L.l.c0]) (by rw[List.map_toArray,List.map_cons,List.map_nil,ch_ev e44]) (enters_of Try.func26 (by kernel_rfl) rfl _ _) (cloneBytes_calls _ b.length _ (b.map bv) _ (by simp) (by have:=HB64.out;omega) ((HBT.out.stays HB3.out).stays ((Below.refl _ _).drew)).src (bv_one _)) ?_
      |refine wp_call (vals:=#[.slice L.l.a1 b.length L.l.c1]) (by rw[List.map_toArray,List.map_cons,List.map_nil,ch_ev e44]) (enters_of Try.func26 (by kernel_rfl) rfl _ _) (cloneBytes_calls _ b.length _ (b.map bv) _ (by simp) (by have:=HB64.out;omega) ((HBT.out.stays HB3.out).stays ((Below.refl _ _).drew)).src (bv_one _)) ?_
     rintro e w' ⟨A5,c5,rfl,hown,hbel⟩;exact⟨_,rfl,_,rfl,A5,c5,by simp,hown,(Below.refl _ _).drew.trans hbel⟩
    ·intro done cv k0 a wq hw h hJ hn;have e34:=mN 1 34 h hw;exact mx_assign (ch_ev e34)
    ·intro done cv a wq hw h hJ;have e45:=mx_cv (i:=12) (t:=45) h (hw 12 (by decide)) rfl rfl;obtain⟨A5,c5,y1,hown,hbel⟩:=hJ;rw[y1]at e45;exact wp_asg (ch_ev e45) ⟨_,rfl,A5,c5,by simp,hown,hbel⟩
    ·intro done cv k0 a wq hw h hJ hn;exact mx_assign rfl
   intro cv4 w4 hJ;obtain⟨A5,c5,y14,hown,hbel⟩:=hJ;simp only[mixAll,putAll_some,putAll_none,putAll_nil,List.getElem?_cons_zero,List.getElem?_cons_succ,Nat.zero_add,Nat.reduceAdd,List.setIfInBounds_toArray,List.set_cons_zero,List.set_cons_succ];rw[y14];have HB4:=bT HB3 hbel;have HO:=qH hown;clear hown hbel y14;go_wp2_with fail
   go_ret3
   exact⟨A5,c5,rfl,HO.out.le,fun v hv=>(own_fresh (HO.out.mono HB3.out.size) hv).src.bts,HB4.out⟩
theorem x10v(h:Y:=by
 have HV:=qH hv;clear hv;go_wp2_with fail;go_ret2;refine⟨by first|rfl|(dsimp only;rw[HV.out];rfl)|(rw[HV.out];rfl),?_⟩;exact bZ HB3):Y:=h
theorem x3di(h:Y:=by
 refine Below.trans ?_ (hb.mono (by first|omega|(simp[World.setRow]<;>omega)));repeat (first|exact hA|refine bR ?_ _|refine bA ?_ _)):Y:=h
theorem x5ms(h:Y:=by
 have HV:=qH hv;clear hv;go_wp2_with fail;go_ret2;refine⟨by first|rfl|(dsimp only;rw[HV.out];rfl)|(rw[HV.out];rfl),?_⟩;exact bZ HB4):Y:=h
theorem stoNext_bad(h:worCheck x≠0):stoNext x=(0,worCheck x):=by unfold stoNext;rw[if_pos h]
theorem stoNext_ok(h:worCheck x=0):stoNext x=if (devBoot x.d.off).2≠0 then (0,(devBoot x.d.off).2)else (((devBoot x.d.off).1.rec_.at_ (devBoot x.d.off).1.running).ver,0):=by unfold stoNext;rw[if_neg (by omega)]
theorem booted_ok{d:Dev}(h:(devBoot d).2=0):DevOk (devBoot d).1∧((devBoot d).1.running=0∨(devBoot d).1.running=1):=by
 obtain⟨h1,h2⟩:=boot_parts h;rw[h2];have h3:=boot_ok_dev h1;exact⟨h3,(h3.run (by unfold Dev.boots;split<;>rfl)).1⟩
theorem stoNext_calls(x:Wor)(L:WLoc)(w:World)(h:WorIn w x L):Calls Try.prog 9 #[.agg (worA x L)] w (RetB w (.tuple #[iv (stoNext x).1,iv (stoNext x).2])):=by
 have HBA:Hid (Below w.heap.size w (w.alloc (.cells (worA x L) 41))):=qH (bL _);have HIN:=qH h;have K1:=qH (fun w h=>worCheck_calls x L w h);by_cases hc:worCheck x≠0
 ·rw[stoNext_bad hc];have q:(worCheck x !=0)=true:=by simp[hc]
  generalize worCheck x=n at *
  clear hc h;go_enter Try.func9,Try.ntmps9;go_wp2_with fail;refine(K1.out _ (HIN.out.stays HBA.out)).mono ?_;rintro e w1 ⟨rfl,hb⟩;have a1:=kp (w.heap.size) (worA x L) hb;have hs1:w.heap.size+1<=w1.heap.size:=by have:=hb.size;simpa using this
  have HB1:=bT HBA hb;clear hb;go_wp2_with fail;go_ret2;refine⟨rfl,?_⟩;exact bZ HB1
 have hc:=Decidable.not_not.1 hc;have hdef:=stoNext_ok hc;have hok:=(worCheck_ok.1 hc).dev;obtain⟨res,hres⟩:=eX (stoNext x);rw[hres]at hdef⊢;have HD:=qH hdef;rw[hc]at K1;have KB:=qH (fun L w h=>devBoot_calls x.d.off L w h);clear hc h hdef hres
 cases hu:x.d.up
 ·have hoff:x.d.off=x.d:=by unfold Dev.off;rw[hu];rfl
  rw[hoff]at HD KB;clear hok hoff;go_enter Try.func9,Try.ntmps9;go_wp2_with fail;refine(K1.out _ (HIN.out.stays HBA.out)).mono ?_;rintro e w1 ⟨rfl,hb⟩;have a1:=kp (w.heap.size) (worA x L) hb;have hs1:w.heap.size+1<=w1.heap.size:=by have:=hb.size;simpa using this
  have HB1:=bT HBA hb;clear hb;obtain⟨⟨d1,e1⟩,hd1⟩:∃z,devBoot x.d=z:=⟨_,rfl⟩;have hbk:=@booted_ok x.d;rw[hd1]at HD KB hbk;go_wp2_with fail;refine(KB.out _ _ ?_).mono ?_
  ·refine HIN.out.dev.stays ?_;exact bZ HB1
  rintro e w2 ⟨L1,rfl,hfr1,hb⟩;have a1:=kp (w1.heap.size) (devA x.d L.l) hb;have hs2:w1.heap.size+1<=w2.heap.size:=by have:=hb.size;first|omega|(simp[World.setRow]at this;omega)
  have HB2:Hid (Below w.heap.size w w2):=qH (by
   exact x3di)
  clear hb hd1 hfr1;by_cases c2:e1≠0
  ·have hz:res=(0,e1):=HD.out.trans (if_pos c2);subst hz;have q:(e1 !=0)=true:=by simp[c2]
   clear c2 hbk;go_wp2_with fail;go_ret2;refine⟨rfl,?_⟩;exact bZ HB2
  have c2:=Decidable.not_not.1 c2;subst c2;have hz:res=((d1.rec_.at_ d1.running).ver,0):=HD.out.trans (if_neg (by simp));subst hz;obtain⟨hok1,hrun⟩:=hbk rfl;try dsimp only at hok1 hrun
  have K2:=qH (fun w=>read_ok d1.c0 d1.c1 w hok1.cops);obtain⟨rk,hrk⟩:=eX ((recRead d1.c0 d1.c1).2);have hre:(recRead d1.c0 d1.c1).1=d1.rec_:=rfl;rw[hrk,hre]at K2;clear hok1 hrk hre HD KB;go_wp2_with fail;refine(K2.out _).mono ?_;rintro e w3 ⟨rfl,hb⟩;have a1:=kp (w1.heap.size) (devA d1 L1) hb;have HB3:=bU HB2 hb;clear hb K2;rcases hrun with hk|hk
  ·have hv:(d1.rec_.at_ d1.running).ver=d1.rec_.a.ver:=by rw[hk,at_0]
   exact x10v
  have hv:(d1.rec_.at_ d1.running).ver=d1.rec_.b.ver:=by rw[hk,at_1]
  exact x10v
 have hoff:x.d.off=x.d.down:=by unfold Dev.off;rw[hu];rfl
 rw[hoff]at HD KB;have hcr:devCrash x.d=(x.d.down,0):=by
  unfold devCrash;rw[if_neg (by have:=devReady_ok.2 ⟨hok,hu⟩;omega)]
 have KC:=qH (fun w h=>devCrash_calls x.d L.l w h);rw[hcr]at KC;clear hok hoff hcr;go_enter Try.func9,Try.ntmps9;go_wp2_with fail;refine(K1.out _ (HIN.out.stays HBA.out)).mono ?_;rintro e w1 ⟨rfl,hb⟩;have a1:=kp (w.heap.size) (worA x L) hb;have hs1:w.heap.size+1<=w1.heap.size:=by have:=hb.size;simpa using this
 have HB1:=bT HBA hb;clear hb;go_wp2_with fail;refine(KC.out _ ?_).mono ?_
 ·refine HIN.out.dev.stays ?_;exact bZ HB1
 rintro e w2 ⟨L1,rfl,hfr,hb⟩;have a1:=kp (w1.heap.size) (devA x.d L.l) hb;have hs2:w1.heap.size+1<=w2.heap.size:=by have:=hb.size;simpa using this
 have HB2:Hid (Below w.heap.size w w2):=qH (by
  refine Below.trans ?_ (hb.mono (by first|omega|(simp<;>omega)));repeat (first|exact HB1.out|refine bA ?_ _))
 have HFR:Hid (Fresh (w1.heap.size+1) w2 (fun v=>DevIn v x.d.down L1)):=qH (by simpa using hfr);clear hb hfr KC;obtain⟨⟨d1,e1⟩,hd1⟩:∃z,devBoot x.d.down=z:=⟨_,rfl⟩;have hbk:=@booted_ok x.d.down;rw[hd1]at HD KB hbk;go_wp2_with fail;refine(KB.out _ _ ?_).mono ?_
 ·have hf1:Fresh (w1.heap.size+1) (w2.setRow w1.heap.size (devA x.d.down L1)) (fun v=>DevIn v x.d.down L1):=HFR.out.row (by omega) _
  first|exact hf1.now|exact(HFR.out.row (by omega) _).now
 rintro e w3 ⟨L2,rfl,hfr1,hb⟩;have a1:=kp (w1.heap.size) (devA x.d.down L1) hb;have hs3:w1.heap.size+1<=w3.heap.size:=by have:=hb.size;first|omega|(simp[World.setRow]at this;omega)
 have HB3:Hid (Below w.heap.size w w3):=qH (by
  exact x3di)
 clear hb hd1 hfr1;by_cases c2:e1≠0
 ·have hz:res=(0,e1):=HD.out.trans (if_pos c2);subst hz;have q:(e1 !=0)=true:=by simp[c2]
  clear c2 hbk;go_wp2_with fail;go_ret2;refine⟨rfl,?_⟩;exact bZ HB3
 have c2:=Decidable.not_not.1 c2;subst c2;have hz:res=((d1.rec_.at_ d1.running).ver,0):=HD.out.trans (if_neg (by simp));subst hz;obtain⟨hok1,hrun⟩:=hbk rfl;try dsimp only at hok1 hrun
 have K2:=qH (fun w=>read_ok d1.c0 d1.c1 w hok1.cops);obtain⟨rk,hrk⟩:=eX ((recRead d1.c0 d1.c1).2);have hre:(recRead d1.c0 d1.c1).1=d1.rec_:=rfl;rw[hrk,hre]at K2;clear hok1 hrk hre HD KB;go_wp2_with fail;refine(K2.out _).mono ?_;rintro e w4 ⟨rfl,hb⟩;have a1:=kp (w1.heap.size) (devA d1 L2) hb;have HB4:=bU HB3 hb;clear hb K2;rcases hrun with hk|hk
 ·have hv:(d1.rec_.at_ d1.running).ver=d1.rec_.a.ver:=by rw[hk,at_0]
  exact x5ms
 have hv:(d1.rec_.at_ d1.running).ver=d1.rec_.b.ver:=by rw[hk,at_1]
 exact x5ms
theorem hps_one{g:Nat}{t:TypeId}{f:Nat×Nat}{k n:Int}(h:w.heap[g]?=some (.cells #[iv k,iv n] t f))(h1:I64 k)(h2:I64 n):Hps w (some ⟨g,0,none⟩) [(k,n)]:=by
 intro i hi;obtain rfl:i=0:=by simpa using hi
 refine⟨g,0,rfl,blk_lt h,[iv k,iv n],rfl,fun j hj=>?_,rfl,h1,h2⟩;rw[cell_of_row w g _ _ _ _ h]
 match j,hj with
 |0,_=>rfl
 |1,_=>rfl
theorem runs_calls(W:World):Calls Try.prog 8 #[] W (RetB W (.bool true)):=by
 obtain⟨x2,hx2⟩:=eX ((worNew ims).1);obtain⟨x1,hx1⟩:=eX ((worRun x2 [(9,0)]).1);obtain⟨v1,hv1⟩:∃v,(stoRuns x1).1=v:=⟨_,rfl⟩;obtain⟨b1,hb1⟩:∃v,(stoRuns x1).2.1=v:=⟨_,rfl⟩;have f1:=runs_runs;have f2:=runs_next;have f3:=runs_run;have f4:=runs_late;rw[hx2]at f1 f2 f3 f4;rw[hx1]at f4;have K1:Hid (∀A c w,ims.length<=c->Ims w A ims->Calls Try.prog 18 #[.slice A ims.length c] w (WvRet w x2 0)):=qH (fun A c w hc h=>by
  have:=worNew_calls A c ims w hc (by decide) h;rwa [gone_new,hx2]at this)
 have K2:Hid (∀L w,WorIn w x2 L->Calls Try.prog 11 #[.agg (worA x2 L)] w (SrRet w 1 im0 0)):=qH (fun L w h=>by
  have:=stoRuns_calls x2 L w h;rwa [f1]at this)
 have K3:Hid (∀L w,WorIn w x2 L->Calls Try.prog 9 #[.agg (worA x2 L)] w (RetB w (.tuple #[iv 1,iv 0]))):=qH (fun L w h=>by
  have:=stoNext_calls x2 L w h;rwa [f2]at this)
 have K4:Hid (∀L B cl w,WorIn w x2 L->1<=cl->Hps w B [(9,0)]->Calls Try.prog 20 #[.agg (worA x2 L),.slice B 1 cl] w (WrRet w x1 [0] 0)):=qH (fun L B cl w h hc hh=>by
  have:=worRun_gen x2 L B cl [(9,0)] w h (by decide) hc hh (fun y hy=>(show y=(9,0) by simpa using hy)▸hapOk_9 0);rwa [f3,hx1]at this)
 have K5:Hid (∀L w,WorIn w x1 L->Calls Try.prog 11 #[.agg (worA x1 L)] w (SrRet w v1 b1 5)):=qH (fun L w h=>by
  have:=stoRuns_calls x1 L w h;rwa [f4,hv1,hb1]at this)
 clear f1 f2 f3 f4 hx2 hx1 hv1 hb1;have HL1:Hid (im0.length=8):=qH rfl;have HE1:Hid (∀(A:OA) (c:Nat) (w:World),im0.length<=c->Bts w A im0->(convert 24 9 (.slice A im0.length c)).run Try.prog w=.ok (.string ⟨#[97,98,99,100,101,102,103,104]⟩) w):=qH (fun A c w h1 h2=>conv_str A c im0 w h1 h2);generalize im0=i0 at *
 go_enter Try.func8,Try.ntmps8;go_wp2_with fail;refine(lawImages_calls _).mono ?_;rintro e w1 ⟨A,c,rfl,hc,hi,hb1⟩;have HB1:=qH hb1;have HI1:=qH hi;have HC1:=qH hc;clear hb1 hi hc;go_wp2_with fail;refine(K1.out _ _ _ HC1.out (by first|exact HI1.out|exact HI1.out.stays (Below.refl _ _))).mono ?_;rintro e w2 ⟨L,rfl,hf,hb1⟩;have HW1:=qH hf.now;have HB2:=bT HB1 hb1;clear hb1 hf;go_wp2_with fail;have hin1:WorIn (w2.alloc (.cells (worA x2 L) 41)) x2 L:=HW1.out.stays (bL _);refine(K2.out _ _ hin1).mono ?_;rintro e w3 ⟨A1,c1,rfl,hc1,hbt,hb⟩;have a1:=kp (w2.heap.size) (worA x2 L) hb;have HB3:Hid (Below W.heap.size W w3):=qH ((HB2.out.alloc HB2.out.size _).trans (hb.mono (by have:=HB2.out.size;simp;omega)));have HW2:=qH (hin1.stays hb);have HT1:=qH hbt.now;have HF1:=qH hbt;have HC2:=qH hc1;clear hb hbt hc1 hin1;go_wp2_with fail;refine(K3.out _ _ HW2.out).mono ?_;rintro e w4 ⟨rfl,hb⟩;have a1:=kr a1 hb;have HB4:=bT HB3 hb;have HB7:=qH hb;have HW3:=qH (HW2.out.stays hb);have HT2:=qH (HT1.out.stays hb);clear hb;go_wp2_with fail;refine(K4.out _ _ _ _ (HW3.out.stays (bL _)) nl (hps_one (blk_top rfl) ⟨by decide,by decide⟩ ⟨by decide,by decide⟩)).mono ?_;rintro e w5 ⟨L1,A2,c2,b5,rfl,ho1,hbs1,hw1,hb⟩;have a1:=kr a1 hb;have hbx:Below w4.heap.size w4 w5:=(bL _).trans (hb.mono (by simp));have HB5:=bT HB4 hbx;have HT3:=qH (HT2.out.stays hbx);have HB8:=bT HB7 hbx;have hp1:0<(rowOf w5 w2.heap.size).size:=by rw[a1.1];simp[worA]
 have hs1:w2.heap.size<b5:=by have:=hb.size;simp at hbs1;omega
 have HW4:Hid (WorIn (w5.setRow w2.heap.size (worA x1 L1)) x1 L1):=qH (hw1 _ (fun q h1 _ _=>setRow_other _ _ _ _ (by omega)));have HB5':Hid (Below W.heap.size W (w5.setRow w2.heap.size (worA x1 L1))):=qH (below_row HB5.out HB2.out.size _);have HT5':Hid (Bts (w5.setRow w2.heap.size (worA x1 L1)) A1 i0):=qH (HF1.out _ (fun k h1 h2=>by
  simp at h1;exact(setRow_other _ _ _ _ (by omega)).trans ((HB8.out.block k h2))))
 clear hb hbx ho1 hbs1 hw1;go_wp2_with fail;refine(K5.out _ _ HW4.out).mono ?_;rintro e w6 ⟨A3,c3,rfl,hc1,hbt1,hb⟩;have HB6:Hid (Below W.heap.size W w6):=qH (HB5'.out.trans (hb.mono HB5'.out.size));have ks:=HE1.out A1 c1 w6 HC2.out (HT5'.out.stays hb);clear hb hbt1 hc1 a1;go_wp2_with fail;go_ret;refine⟨rfl,?_⟩
 first|exact HB6.out|(repeat (first|exact HB6.out|refine below_drewN ?_ _|refine Below.drew ?_))
section
open Go.RowKit Go.WideShapes Go.ChangeShapes Go.ChangeAt
section
variable {H:Type} {enc:TypeId×Value->H} {P:Program} {w:World} {sp:Nat->Bool} {held:Bool} {t e:TypeId}
theorem readBy_img(ht:P.underlying t=some (.slice e))(he:P.underlying e=some (.int .u8))(hs:P.cellsOf e=1):ReadBy enc P w sp held t rImg:=by
 intro fuel cs d ps h hb;obtain⟨xs,A,c,hx,h1,h2,h3⟩:=readBy_slice ht hs (by omega) (readBy_byte he) fuel cs d ps h hb;exact⟨xs,A,c,hx,h1,h2,h3.bts⟩
end
section
variable {H:Type} {enc:TypeId×Value->H} {w:World} {sp:Nat->Bool} {held:Bool}
theorem reads_img:ReadBy enc Try.prog w sp held 24 rImg:=
 readBy_img Try.underlying24 Try.underlying5 (by kernel_rfl)
end
end
section
open Go.RowKit Go.WideShapes Go.ChangeShapes Go.ChangeAt
section
variable {H:Type} {enc:TypeId×Value->H} {P:Program} {w:World} {sp:Nat->Bool} {held:Bool} {t e:TypeId}
theorem readBy_hap{f0 f1:Field}(ht:P.underlying t=some (.struct #[f0,f1]))(hs:P.cellsOf t=2)(o0:f0.offset=0)(o1:f1.offset=1)(k0:P.cellsOf f0.type=1)(k1:P.cellsOf f1.type=1)
  (t0:P.underlying f0.type=some (.int .i64)) (t1:P.underlying f1.type=some (.int .i64)):ReadBy enc P w sp held t rHap:=by
 intro fuel cs d ps h hb;obtain⟨hl,hf⟩:=field_of ht h hb;obtain⟨a,ha⟩:=hf 0 f0 rfl (readBy_int t0);obtain⟨b,hb⟩:=hf 1 f1 rfl (readBy_int t1);rw[hs]at hl
 match cs,hl with
 |[x,y],_=>
  rw[o0,k0]at ha;rw[o1,k1]at hb;obtain⟨ha,ha'⟩:=ha;obtain⟨hb,hb'⟩:=hb;simp at ha hb;subst ha hb;exact⟨(a,b),rfl,ha',hb'⟩
end
section
variable {H:Type} {enc:TypeId×Value->H} {w:World} {sp:Nat->Bool} {held:Bool}
theorem reads_hap:ReadBy enc Try.prog w sp held 52 rHap:=
 readBy_hap Try.underlying52 (by kernel_rfl) rfl rfl (by kernel_rfl) (by kernel_rfl) Try.underlying3 Try.underlying3
end
def ArgHaps(W:World)(v:Value)(l:List (Int×Int)):Prop:=∃A c,v=.slice A l.length c∧l.length<=c∧l.length<=140737488351232∧Hps W A l
def ArgImgs(W:World)(v:Value)(l:List (List UInt8)):Prop:=∃A c,v=.slice A l.length c∧l.length<=c∧l.length<=5864062014634∧Ims W A l
section
variable {H:Type} {enc:TypeId×Value->H} {w:World} {base:Nat} {v:Value} {d:DataW H} {p:List MemPlace}
theorem argHaps_of(ho:Value.okWide Try.prog w .any base 23 v)(h:DataW.Trod enc Try.prog w 0 (fun _=>true) true 23 v d p)(hb:Wt Try.prog 23 d):∃xs,ArgHaps w v xs:=by
 obtain⟨xs,A,c,hv,h1,h2,h3⟩:=argSlice_of Try.underlying23 (by kernel_rfl:Try.prog.cellsOf 52=2) (by omega) reads_hap ho h hb;exact⟨xs,A,c,hv,h1,h2,h3⟩
theorem argImgs_of(ho:Value.okWide Try.prog w .any base 22 v)(h:DataW.Trod enc Try.prog w 0 (fun _=>true) true 22 v d p)(hb:Wt Try.prog 22 d):∃xs,ArgImgs w v xs:=by
 obtain⟨xs,A,c,hv,h1,h2,h3⟩:=argSliceM_of (M:=5864062014634) Try.underlying22 (by kernel_rfl:Try.prog.cellsOf 24=1) (by omega) reads_img ho h hb (fun n _ h=>by rw[(by kernel_rfl:Try.prog.bytesOf 24=24)]at h;omega);exact⟨xs,A,c,hv,h1,h2,h3⟩
end
end
theorem x3zi(h:Y:=by
 go_wp2_with fail;go_ret;exact⟨rfl,HB1.out⟩):Y:=h
theorem x61i(h:Y:=by
 go_wp2_with fail;go_ret;exact⟨rfl,by first|exact Below.refl _ _|exact bL _⟩):Y:=h
theorem x960(h:Y:=by
 rintro en w1 ⟨h1,h2⟩;exact⟨h1,trivial,Bx.of h2 nl⟩):Y:=h
theorem x9g5(h:Y:=by
 go_wp2_with fail;refine(KR.out _).mono ?_;rintro en w3 ⟨rfl,hb⟩;have HB3:=bT HB2 hb;clear hb;go_wp2_with fail;go_ret;exact⟨rfl,HB3.out⟩):Y:=h
theorem Ims.at_{A:OA}{l:List (List UInt8)}(h:Ims w A l){n:Nat}(hn:n<l.length):∃b o B m,A=some ⟨b,o,none⟩∧b<w.heap.size∧w.cell? ⟨b,o+n,none⟩=some (.slice B l[n].length m)∧l[n].length<=m∧Bts w B l[n]:=by
 obtain⟨b,o,rfl,hb,cs,h1,h2,B,m,h3,h4,h5,h6⟩:=h n hn;subst h3;refine⟨b,o,B,m,rfl,hb,?_,h4,h6⟩;have:=h2 0 (by simp);simpa using this
theorem relAt_get{l:List (List UInt8)}{n:Nat}(hn:n<l.length):relAt l ((n:Int)+1)=l[n]:=by
 unfold relAt;rw[show ((n:Int)+1-1).toNat=n by omega,List.getD_eq_getElem?_getD,List.getElem?_eq_getElem hn];rfl
end Go.Proofs.Ytefkfglkpebbmad
