/- Walks of functions, and plain words. No conditions. -/
import Derived.Test.YtefkfglkpebbmacP9
set_option linter.unusedVariables false
set_option linter.unusedSimpArgs false
set_option maxRecDepth 100000
set_option maxHeartbeats 40000000
namespace Go.Proofs.Ytefkfglkpebbmac
open Go.RowKit
variable {Y:Prop}
variable {l:List (Int×Int)} {x:Wor}
theorem x0yz(h:Y:=by
 rcases hor6 with h9|h9
 ·exact .inl (h9▸e)
 rw[h9]at e;injection e with e
 simp[World.setRow]at e;exact .inr (by omega)):Y:=h
theorem x7su(h:Y:=by
 go_enter Try.func71,Try.ntmps71;go_wp2_with fail;refine(K1.out _ (HIN.out.stays HBA.out)).mono ?_;rintro e w1 ⟨rfl,hb⟩;have a2:=kp (w.heap.size) (worA x0 L0) hb;have a1:=kp (w.heap.size+1) (worA Wor.zero WLoc.zero) hb;have hs1:w.heap.size+2<=w1.heap.size:=by have:=hb.size;simp at this;omega
 have HB1:=bT HBA hb;clear hb;go_wp2_with fail;refine bodyPost_ret (results_ctt rfl rfl (cs:=worA Wor.zero WLoc.zero) (by go_simp) (by go_simp) (by go_simp)) rfl ⟨WLoc.zero,none,0,w.heap.size,rfl,Own.nil_ _ _ _ _,nl,fun v _=>WorIn.zero v,bZ HB1⟩):Y:=h
theorem x8cd(h:Y:=by
 have h1:=rowOf_heap (hk1 (g+1) (by omega) (hgA _ (by omega)) (by omega));exact⟨h1.1.trans b1.1,h1.2.trans b1.2.1⟩):Y:=h
def rHap:CR (Int×Int):=fun w cs x=>cs=[iv x.1,iv x.2]∧I64 x.1∧I64 x.2
theorem stays_hap:Stays rHap:=fun w w' cs x h hb=>h
abbrev Hps (w:World) (A:OA) (l:List (Int×Int)):=Elems 2 rHap w A l
theorem Hps.stays{w w':World}{A:OA}(h:Hps w A l)(hb:Below w.heap.size w w'):Hps w' A l:=Elems.stays stays_hap h hb
def WrRet(w:World)(x:Wor)(said:List Int)(n:Int):Ending->World->Prop:=fun en w'=>
 ∃L A c b,en=.returned (.tuple #[.agg (worA x L),.slice A said.length c,iv n])∧Own w' b 24 1 A said.length c (said.map iv)∧w.heap.size<=b∧(∀v:World,(∀q,b<=q->A.map (·.block)≠some q->q<w'.heap.size->v.heap[q]?=w'.heap[q]?)->WorIn v x L)∧Below w.heap.size w w'
theorem said_len:∀(l:List (Int×Int)) (x:Wor),(worSaid l x).length=l.length
 |[],x=>rfl
 |y::l,x=>by simp[worSaid,said_len l]
theorem worRun_bad(h:worCheck x≠0):worRun x l=(Wor.zero,[],worCheck x):=by unfold worRun;rw[if_pos h]
theorem worRun_many(h:worCheck x=0)(g:200<l.length):worRun x l=(Wor.zero,[],1):=by unfold worRun;rw[if_neg (by omega),if_pos g]
theorem worRun_ok(h:worCheck x=0)(g:¬200<l.length):worRun x l=(worGo l x,worSaid l x,0):=by unfold worRun;rw[if_neg (by omega),if_neg g]
theorem worRun_gen(x0:Wor)(L0:WLoc)(B:OA)(cl:Nat)(l:List (Int×Int))(w:World)(h:WorIn w x0 L0)(hl:l.length<=140737488351232)(hcl:l.length<=cl)(hh:Hps w B l)(KHP:∀y∈l,HapOk y.1 y.2):Calls Try.prog 71 #[.agg (worA x0 L0),.slice B l.length cl] w (WrRet w (worRun x0 l).1 (worRun x0 l).2.1 (worRun x0 l).2.2):=by
 have hba:Below w.heap.size w ((w.alloc (.cells (worA x0 L0) 88)).alloc (.cells (worA Wor.zero WLoc.zero) 88)):=bA (bA (Below.refl _ _) _) _;have HBA:=qH hba;have HIN:=qH h;have HH:=qH hh;have HKP:=qH KHP;clear KHP;have K1:=qH (fun w h=>worCheck_calls x0 L0 w h);by_cases hc:worCheck x0≠0
 ·rw[worRun_bad hc];have q:(worCheck x0 !=0)=true:=by simp[hc]
  generalize worCheck x0=cc at *
  clear hc hba h hh;exact x7su
 have hc:=Decidable.not_not.1 hc;have hok:=worCheck_ok.1 hc;by_cases hm:200<l.length
 ·rw[worRun_many hc hm];rw[hc]at K1;have q:(200:Int)<(l.length:Int):=by omega
  clear hc hba h hh hok;exact x7su
 rw[worRun_ok hc hm];rw[hc]at K1;have q1:¬(200:Int)<(l.length:Int):=by omega
 have HOK:=qH hok;clear hc hba h hh hok;go_enter Try.func71,Try.ntmps71;go_wp2_with fail;refine(K1.out _ (HIN.out.stays HBA.out)).mono ?_;rintro e w1 ⟨rfl,hb⟩;have a3:=kp (w.heap.size) (worA x0 L0) hb;have a1:=kp (w.heap.size+1) (worA Wor.zero WLoc.zero) hb;have hs1:w.heap.size+2<=w1.heap.size:=by have:=hb.size;simp at this;omega
 have HB1:=bT HBA hb;clear hb;go_wp2_with fail;refine(worCopy_calls x0 L0 _ (HIN.out.stays HB1.out)).mono ?_;rintro e w2 ⟨L1,m,ds,rfl,hwa,hb⟩;have a3:=kr a3 hb;have a1:=kr a1 hb;have hs2:w1.heap.size<=w2.heap.size:=hb.size;have HB2:=bT HB1 hb;have hp1:0<(rowOf w2 w.heap.size).size:=by rw[a3.1];simp[worA]
 have HW1:Hid (∀v:World,(∀q,w.heap.size+2<=q->q<w2.heap.size->v.heap[q]?=w2.heap[q]?)->WorIn v x0 L1):=qH (fun v hv=>hwa.wex (fun k a b=>hv k (by omega) b));have HRW:Hid (rowOf (w2.setRow w.heap.size (worA x0 L1)) w.heap.size=worA x0 L1∧frOf (w2.setRow w.heap.size (worA x0 L1)) w.heap.size=(0,0)∧rowOf (w2.setRow w.heap.size (worA x0 L1)) (w.heap.size+1)=worA Wor.zero WLoc.zero∧frOf (w2.setRow w.heap.size (worA x0 L1)) (w.heap.size+1)=(0,0)):=qH
  ⟨by rw[rowOf_setRow _ _ _ _ hp1,if_pos rfl],by rw[frOf_setRow];exact a3.2.1,by rw[rowOf_setRow _ _ _ _ hp1,if_neg (by omega)];exact a1.1,by rw[frOf_setRow];exact a1.2.1⟩
 clear hb hwa;go_wp2_with fail;clear a3 a1 hp1;obtain⟨g,hg⟩:=eX (w.heap.size);have HG:=qH hg;rw[hg]at HRW HW1 hs1⊢;clear hg;go_loopw [8,27] (fun s i wr=>∃(k:Nat) (x:Wor) (L:WLoc) (A:OA) (c:Nat),k<=l.length∧i=iv k∧s=.slice A k c∧Hid (x=worGo (l.take k) x0∧WorOk x)∧Hid (rowOf wr g=worA x L∧frOf wr g=(0,0)∧rowOf wr (g+1)=worA Wor.zero WLoc.zero∧frOf wr (g+1)=(0,0))∧
  Hid (∀v:World,(∀q,g+2<=q->A.map (·.block)≠some q->q<wr.heap.size->v.heap[q]?=wr.heap[q]?)->WorIn v x L)∧Hid (Own wr (g+2) 24 1 A k c ((worSaid (l.take k) x0).map iv))∧Hid (Below g w wr∧g+2<=wr.heap.size)) (fun _ i _=>l.length-(intOf i).toNat)
 case atStart=>
  refine⟨0,x0,L1,none,0,Nat.zero_le _,rfl,rfl,qH ⟨rfl,HOK.out⟩,HRW,qH (fun v hv=>HW1.out v (fun q h1 h2=>(hv q h1 (by simp) (by simpa[World.setRow]using h2)).trans (setRow_other _ _ _ _ (by omega)))),qH (by simpa[worSaid]using Own.nil_ _ _ _ _),qH ⟨?_,by simp[World.setRow];omega⟩⟩;exact below_row (HG.out▸HB2.out) nl _
 case round=>
  rename World=>wr;obtain⟨k,x,L,A,c,hk,rfl,rfl,HX,HR,HI,HO,HB⟩:=hrel;clear HRW HW1;have hsz:=HB.out.2;by_cases hlt:k<l.length
  ·obtain⟨b,o,rfl,hbl,cs,hcs,hcc,rfl,hi1,hi2⟩:=HH.out k hlt;obtain⟨⟨kd,n⟩,hy⟩:∃y,l[k]=y:=⟨_,rfl⟩;rw[hy]at hcc hi1 hi2;have hb1:b<wr.heap.size:=Nat.lt_of_lt_of_le hbl (by rw[HG.out];omega);have hwb:∀j,wr.cell? ⟨b,j,none⟩=w.cell? ⟨b,j,none⟩:=fun j=>HB.out.1.cell (p:=⟨b,j,none⟩) (by rw[<-HG.out];exact hbl);have p2:wr.cell? ⟨b,o+k*2,none⟩=some (iv kd):=by rw[hwb];have:=hcc 0 (by simp);simpa using this
   have p1:wr.cell? ⟨b,o+k*2+1,none⟩=some (iv n):=by rw[hwb];have:=hcc 1 (by simp);simpa using this
   have HY:=qH hy;have HI1:Hid (I64 n):=qH hi2;have a3:=keep1 (bW wr) HR.out.1 (by go_simp) HR.out.2.1;have a1:=keep1 (bW wr) HR.out.2.2.1 (by go_simp) HR.out.2.2.2;have hwk:IntKind.i64.wrap ((k:Int)+1)=(k:Int)+1:=IntWalk.i64_in _ (by omega);have dl:decide ((k:Int)<(l.length:Int))=true:=decide_eq_true (by omega);have hcap:(l.length:Int)<=(cl:Int):=by omega
   clear hcc hi1 hi2 hcs hy hwb hbl;go_wp2_with fail;have hx1:WorIn (wr.alloc (.cells #[iv kd,iv n] 106)) x L:=HI.out _ (fun q _ _ h2=>Below.heap_alloc wr _ q h2);refine(worCopy_calls x L _ hx1).mono ?_;rintro e w2 ⟨L3,m1,ds1,rfl,hwa,hb⟩;have a3:=kp g (worA x L) hb;have a1:=kp (g+1) (worA Wor.zero WLoc.zero) hb;have a2:=kp (wr.heap.size) (#[iv kd,iv n]) hb;have hs3:wr.heap.size+1<=w2.heap.size:=by have:=hb.size;simpa using this
   have hkb:∀q,q<wr.heap.size->w2.heap[q]?=wr.heap[q]?:=fun q h=>(hb.block q (by simp;omega)).trans (Below.heap_alloc wr _ q h);have HB2':Hid (Below g w w2):=qH ((HB.out.1.alloc (by omega) _).trans (hb.mono (by simp;omega)));have HWA:Hid (WorAt w2 (wr.heap.size+1+2) m1 w2.heap.size ds1 x L3):=qH (by simpa using hwa);have hw1:wr.heap.size+1+2<=w2.heap.size:=by have:=HWA.out.h1;have:=HWA.out.h2;have:=HWA.out.h3;omega
   clear hb hwa hx1;go_wp2_with fail;obtain⟨w3,hw3e⟩:=eX (w2.alloc (.cells (worA x L3) 88));have z1:rowOf w3 w2.heap.size=worA x L3:=by rw[<-hw3e,rowOf_alloc,if_pos rfl]
   have z2:frOf w3 w2.heap.size=(0,0):=by rw[<-hw3e,frOf_alloc,if_pos rfl]
   have hs4:w3.heap.size=w2.heap.size+1:=by rw[<-hw3e];simp
   have hk1:∀q,q<w2.heap.size->w3.heap[q]?=w2.heap[q]?:=fun q h=>by rw[<-hw3e];exact Below.heap_alloc w2 _ q h
   have HW1:Hid (WorAt w3 (wr.heap.size+1+2) m1 w2.heap.size ds1 x L3):=qH (HWA.out.same (fun q a b=>hk1 q b) (by omega));have HB3:Hid (Below g w w3):=qH (by rw[<-hw3e];exact HB2'.out.alloc (by omega) _);try rw[hw3e]
   obtain⟨⟨x',e'⟩,hres⟩:∃res,worHappen x kd n=res:=⟨_,rfl⟩;have KH:=qH (HKP.out (kd,n) (by rw[<-HY.out];exact List.getElem_mem hlt) w2.heap.size (wr.heap.size+1+2) m1 w2.heap.size ds1 x L3 w3 z1 z2 (.inr nl) HW1.out HX.out.2 HI1.out);rw[hres]at KH;have HRES:=qH hres;have y6:=rowOf_heap (hk1 g (by omega));have y1:=rowOf_heap (hk1 (g+1) (by omega));have y2:=y6.1.trans a3.1;have y3:=y6.2.trans a3.2.1;have y4:=y1.1.trans a1.1;have y5:=y1.2.trans a1.2.1;clear hw3e hres z1 z2 y6 y1 a3 a1 a2;refine KH.out.mono ?_;rintro e w4 ⟨rfl,hz,hx,hs5⟩;have HZ:=qH hz;have HX1:=qH hx;have e2:=rowOf_heap (hx.2 g (by omega) (by omega));have e1:=rowOf_heap (hx.2 (g+1) (by omega) (by omega));have r2:=e2.1.trans y2;have f2:=e2.2.trans y3;have r1:=e1.1.trans y4;have f1:=e1.2.trans y5;have HB4:Hid (Below g w w4):=qH (HB3.out.trans (hx.to (by omega) (by omega)));have hk2:∀q,q<wr.heap.size->w4.heap[q]?=wr.heap[q]?:=fun q h=>(hx.2 q (by omega) (by omega)).trans ((hk1 q (by omega)).trans (hkb q h));have HK1:=qH hk2;have HO1:Hid (Own w4 (g+2) 24 1 A k c ((worSaid (l.take k) x0).map iv)):=qH (HO.out.same (fun q e=>hk2 q (HO.out.block q e).2));have HAB:Hid (∀q,A.map (·.block)=some q->g+2<=q∧q<wr.heap.size):=qH (fun q e=>HO.out.block q e);have HSD:Hid (worSaid (l.take (k+1)) x0=worSaid (l.take k) x0++[e']∧worGo (l.take (k+1)) x0=worTry x (kd,n)):=qH (by
    have h1:=worGo_append (l.take k) [(kd,n)] x0;rw[List.take_succ_eq_append_getElem hlt,HY.out,h1.1,h1.2,<-HX.out.1];refine⟨?_,rfl⟩;congr 1
    show [(worHappen x kd n).2]=[e'];rw[HRES.out])
   have b3:=keep1 (bW w4) r2 (by go_simp) f2;have b1:=keep1 (bW w4) r1 (by go_simp) f1;clear hz hx KH e2 e1 r2 f2 r1 f1 y2 y3 y4 y5 hk2 hk1 hkb;by_cases c1:e'=0
   ·subst c1;obtain⟨L2,r1,f1,hw2⟩:=HZ.out rfl;have b2:=keep1 (bW w4) r1 (by go_simp) f1;have HW2:=qH hw2;have q:((0:Int)==0)=true:=rfl;have hp1:0<(rowOf w4 g).size:=by rw[b3.1];simp[worA]
    have hg1:¬w2.heap.size=g:=by omega
    have hg2:¬g=w2.heap.size:=by omega
    have hg3:¬g+1=g:=by omega
    have hown1:Own ((w4.setRow g (worA x' L2)).alloc (.cells #[iv 0] 24)) (g+2) 24 1 A k c ((worSaid (l.take k) x0).map iv):=HO1.out.same (fun q e=>(Below.heap_alloc (w4.setRow g (worA x' L2)) _ q (by have:=(HO1.out.block q e).2;simpa[World.setRow]using this)).trans (setRow_other _ _ _ _ (by have:=(HAB.out q e).1;omega)));have hsrc:Src ((w4.setRow g (worA x' L2)).alloc (.cells #[iv 0] 24)) (some ⟨w4.heap.size,0,none⟩) [iv 0]:=src_blk (blk_top (by simp[World.setRow]));have hbase1:g+2<=((w4.setRow g (worA x' L2)).alloc (.cells #[iv 0] 24)).heap.size:=by simp[World.setRow];omega
    have hlim:k+1<=137438953472:=by omega
    clear hw2 r1 f1;go_wp2_with (at_builtin;go_must (refine wpList_app ((w4.setRow g (worA x' L2)).alloc (.cells #[iv 0] 24)) rfl _ _ 90 rfl elErrs (g+2) A k c ((worSaid (l.take k) x0).map iv) rfl hown1 (some ⟨w4.heap.size,0,none⟩) 1 1 [iv 0] rfl hsrc rfl (by simp[Value.oneCell']) hlim hbase1 ?_;intro A' c' w6 hown6 hg6 hb6 hor6));have hk1:∀q,q<w4.heap.size->A.map (·.block)≠some q->q≠g->w6.heap[q]?=w4.heap[q]?:=fun q h1 h2 h3=>(hg6.block q (by simp[World.setRow];omega) (fun e=>h2 e.symm)).trans ((Below.heap_alloc (w4.setRow g (worA x' L2)) _ q (by simpa[World.setRow]using h1)).trans (setRow_other _ _ _ _ h3));have hgA:∀q,q<g+2->A.map (·.block)≠some q:=fun q h e=>by have:=(HAB.out q e).1;omega
    have hs6:=hb6.size;have hs6':w4.heap.size+1<=w6.heap.size:=by simpa[World.setRow]using hs6
    have hA1:∀q,A'.map (·.block)=some q->A.map (·.block)=some q∨w4.heap.size<=q:=fun q e=>by
     exact x0yz
    have hrow1:rowOf w6 (g+1)=worA Wor.zero WLoc.zero∧frOf w6 (g+1)=(0,0):=by
     exact x8cd
    have hrow2:rowOf w6 g=worA x' L2∧frOf w6 g=(0,0):=by
     have h1:w6.heap[g]?=(w4.setRow g (worA x' L2)).heap[g]?:=(hg6.block g (by simp[World.setRow];omega) (fun e=>hgA g (by omega) e.symm)).trans (Below.heap_alloc (w4.setRow g (worA x' L2)) _ g (by simp[World.setRow];omega));have h2:=rowOf_heap h1;refine⟨h2.1.trans (by rw[rowOf_setRow _ _ _ _ hp1,if_pos rfl]),h2.2.trans (by rw[frOf_setRow];exact b3.2.1)⟩
    have hbel1:Below g w w6:=((below_row HB4.out nl _).alloc (by simp[World.setRow];omega) _).trans (hb6.mono (by omega));have HNEW:Hid (x'=worGo (l.take (k+1)) x0∧WorOk x'):=qH (by
     have h1:(worHappen x kd n).2=0:=by rw[HRES.out]
     have h2:=happen_keeps HX.out.2 h1;rw[HRES.out]at h2;refine⟨?_,h2.1⟩;rw[HSD.out.2];unfold worTry;dsimp only;rw[HRES.out,if_pos rfl])
    have HI2:Hid (∀v:World,(∀q,g+2<=q->A'.map (·.block)≠some q->q<w6.heap.size->v.heap[q]?=w6.heap[q]?)->WorIn v x' L2):=qH (fun v hv=>HW2.out v (fun q h1 h2 h3=>(hv q (by omega) (fun e=>by
      rcases hA1 q e with h9|h9
      ·have:=(HAB.out q h9).2;omega
      omega) (by omega)).trans (hk1 q h3 (fun e=>by have:=(HAB.out q e).2;omega) (by omega))))
    have HR1:Hid (rowOf w6 g=worA x' L2∧frOf w6 g=(0,0)∧rowOf w6 (g+1)=worA Wor.zero WLoc.zero∧frOf w6 (g+1)=(0,0)):=qH ⟨hrow2.1,hrow2.2,hrow1.1,hrow1.2⟩;have HO2:Hid (Own w6 (g+2) 24 1 A' (k+1) c' ((worSaid (l.take (k+1)) x0).map iv)):=qH (by rw[HSD.out.1,List.map_append];exact hown6);have HB5:Hid (Below g w w6∧g+2<=w6.heap.size):=qH ⟨hbel1,by omega⟩;clear hown6 hg6 hb6 hor6 hk1 hA1 hrow1 hrow2 hbel1 hown1 hsrc hs6 b3 b1;go_roundw
    case rel=>exact⟨k+1,x',L2,A',c',by omega,by go_num,by first|rfl|go_num,HNEW,HR1,HI2,HO2,HB5⟩
    case measure=>simp[intOf];omega
   have q:(e'==0)=false:=by simp[c1]
   have hown1:Own (w4.alloc (.cells #[iv e'] 24)) (g+2) 24 1 A k c ((worSaid (l.take k) x0).map iv):=HO1.out.same (fun q e=>Below.heap_alloc w4 _ q (HO1.out.block q e).2);have hsrc:Src (w4.alloc (.cells #[iv e'] 24)) (some ⟨w4.heap.size,0,none⟩) [iv e']:=src_blk (blk_top rfl);have hbase1:g+2<=(w4.alloc (.cells #[iv e'] 24)).heap.size:=by simp;omega
   have hlim:k+1<=137438953472:=by omega
   have HC1:=qH c1;clear c1;go_wp2_with (at_builtin;go_must (refine wpList_app (w4.alloc (.cells #[iv e'] 24)) rfl _ _ 90 rfl elErrs (g+2) A k c ((worSaid (l.take k) x0).map iv) rfl hown1 (some ⟨w4.heap.size,0,none⟩) 1 1 [iv e'] rfl hsrc rfl (by simp[Value.oneCell']) hlim hbase1 ?_;intro A' c' w6 hown6 hg6 hb6 hor6));have hk1:∀q,q<w4.heap.size->A.map (·.block)≠some q->q≠g->w6.heap[q]?=w4.heap[q]?:=fun q h1 h2 h3=>(hg6.block q (by simp[World.setRow];omega) (fun e=>h2 e.symm)).trans (Below.heap_alloc w4 _ q h1);have hgA:∀q,q<g+2->A.map (·.block)≠some q:=fun q h e=>by have:=(HAB.out q e).1;omega
   have hs6:=hb6.size;have hs6':w4.heap.size+1<=w6.heap.size:=by simpa[World.setRow]using hs6
   have hA1:∀q,A'.map (·.block)=some q->A.map (·.block)=some q∨w4.heap.size<=q:=fun q e=>by
    exact x0yz
   have hrow1:rowOf w6 (g+1)=worA Wor.zero WLoc.zero∧frOf w6 (g+1)=(0,0):=by
    exact x8cd
   have hrow2:rowOf w6 g=worA x L∧frOf w6 g=(0,0):=by
    have h1:=rowOf_heap (hg6.block g (by simp;omega) (fun e=>hgA g (by omega) e.symm));have h2:=rowOf_heap (Below.heap_alloc w4 (.cells #[iv e'] 24) g (by omega));exact⟨(h1.1.trans h2.1).trans b3.1,(h1.2.trans h2.2).trans b3.2.1⟩
   have hbel1:Below g w w6:=(HB4.out.alloc (by omega) _).trans (hb6.mono (by omega));have HNEW:Hid (x=worGo (l.take (k+1)) x0∧WorOk x):=qH (by
    refine⟨?_,HX.out.2⟩;rw[HSD.out.2];unfold worTry;dsimp only;rw[HRES.out,if_neg HC1.out])
   have HI2:Hid (∀v:World,(∀q,g+2<=q->A'.map (·.block)≠some q->q<w6.heap.size->v.heap[q]?=w6.heap[q]?)->WorIn v x L):=qH (fun v hv=>HI.out v (fun q h1 h2 h3=>(hv q h1 (fun e=>by
     rcases hA1 q e with h9|h9
     ·exact h2 h9
     omega) (by omega)).trans ((hk1 q (by omega) h2 (by omega)).trans (HK1.out q h3))))
   have HR1:Hid (rowOf w6 g=worA x L∧frOf w6 g=(0,0)∧rowOf w6 (g+1)=worA Wor.zero WLoc.zero∧frOf w6 (g+1)=(0,0)):=qH ⟨hrow2.1,hrow2.2,hrow1.1,hrow1.2⟩;have HO2:Hid (Own w6 (g+2) 24 1 A' (k+1) c' ((worSaid (l.take (k+1)) x0).map iv)):=qH (by rw[HSD.out.1,List.map_append];exact hown6);have HB5:Hid (Below g w w6∧g+2<=w6.heap.size):=qH ⟨hbel1,by omega⟩;clear hown6 hg6 hb6 hor6 hk1 hA1 hrow1 hrow2 hbel1 hown1 hsrc hs6 b3 b1;go_roundw
   case rel=>exact⟨k+1,x,L,A',c',by omega,by go_num,by first|rfl|go_num,HNEW,HR1,HI2,HO2,HB5⟩
   case measure=>simp[intOf];omega
  obtain rfl:k=l.length:=by omega
  have dl:decide ((l.length:Int)<(l.length:Int))=false:=by simp
  have hxx:=HX.out.1;rw[List.take_length]at hxx;have hoo:=HO.out;rw[List.take_length]at hoo;have HXX:=qH hxx;have HOO:=qH hoo;have a2:=keep1 (bW wr) HR.out.1 (by go_simp) HR.out.2.1;have a1:=keep1 (bW wr) HR.out.2.2.1 (by go_simp) HR.out.2.2.2;clear hxx hoo;go_wp2_with fail;refine bodyPost_ret (results_ctt rfl rfl (cs:=worA x L) (by go_simp) (by go_simp) (by go_simp)) rfl ?_;rw[<-HXX.out];refine⟨L,A,c,g+2,by rw[said_len];rfl,?_,by rw[HG.out];omega,?_,?_⟩
  ·rw[said_len];exact HOO.out.same (w':=wr.setRow (g+1) (worA x L)) (fun q e=>setRow_other _ _ _ _ (by have:=(HOO.out.block q e).1;omega))
  ·exact fun v hv=>HI.out v (fun q h1 h2 h3=>(hv q h1 h2 (by simpa[World.setRow]using h3)).trans (setRow_other _ _ _ _ (by omega)))
  rw[HG.out];exact below_row HB.out.1 (by omega) _
theorem worRun_calls(x0:Wor)(L0:WLoc)(B:OA)(cl:Nat)(l:List (Int×Int))(w:World)(h:WorIn w x0 L0)(hl:l.length<=140737488351232)(hcl:l.length<=cl)(hh:Hps w B l):Calls Try.prog 71 #[.agg (worA x0 L0),.slice B l.length cl] w (WrRet w (worRun x0 l).1 (worRun x0 l).2.1 (worRun x0 l).2.2):=worRun_gen x0 L0 B cl l w h hl hcl hh fun y _ g base m top ds x L w hr hf hg h hok hi=>happen_calls g base m top ds y.2 x L w hr hf hg h hok hi y.1
@[go_sem] theorem aggSzHap:aggSz Try.prog 106=2:=by kernel_rfl
theorem ims_three{w:World}{g0 g1 g2 g3:Nat}(h0:∃t f,w.heap[g0]?=some (.cells (im0.map bv).toArray t f))(h1:∃t f,w.heap[g1]?=some (.cells (im1.map bv).toArray t f))(h2:∃t f,w.heap[g2]?=some (.cells (im2.map bv).toArray t f))
  (h3:∃t f,w.heap[g3]?=some (.cells #[.slice (some ⟨g0,0,none⟩) 8 8,.slice (some ⟨g1,0,none⟩) 9 9,.slice (some ⟨g2,0,none⟩) 11 11] t f)):Ims w (some ⟨g3,0,none⟩) ims:=by
 obtain⟨_,_,h4⟩:=h0;obtain⟨_,_,h1⟩:=h1;obtain⟨_,_,h2⟩:=h2;obtain⟨_,_,h3⟩:=h3;intro i hi;have hi1:i<3:=hi;refine⟨g3,0,rfl,blk_lt h3,?_⟩;have hc:=fun j=>cell_of_row w g3 j _ _ _ h3
 match i,hi1 with
 |0,_=>exact⟨[.slice (some ⟨g0,0,none⟩) 8 8],rfl,(fun j hj=>by
  obtain rfl:j=0:=by simpa using hj
  simp[hc]),⟨_,8,rfl,nl,Nat.le_of_ble_eq_true rfl,bts_blk h4 rfl⟩⟩
 |1,_=>exact⟨[.slice (some ⟨g1,0,none⟩) 9 9],rfl,(fun j hj=>by
  obtain rfl:j=0:=by simpa using hj
  simp[hc]),⟨_,9,rfl,nl,Nat.le_of_ble_eq_true rfl,bts_blk h1 rfl⟩⟩
 |2,_=>exact⟨[.slice (some ⟨g2,0,none⟩) 11 11],rfl,(fun j hj=>by
  obtain rfl:j=0:=by simpa using hj
  simp[hc]),⟨_,11,rfl,nl,Nat.le_of_ble_eq_true rfl,bts_blk h2 rfl⟩⟩
def IsRet(w:World):Ending->World->Prop:=fun en w'=>
 ∃A c,en=.returned (.slice A ims.length c)∧ims.length<=c∧Ims w' A ims∧Below w.heap.size w w'
theorem lawImages_calls(w:World):Calls Try.prog 116 #[] w (IsRet w):=by
 have kc:=convert_const (P:=Try.prog) 22 5 Try.underlying22 Try.underlying5;go_enter Try.func116,Try.ntmps116;go_wp2_with fail;go_ret;refine⟨some ⟨w.heap.size+1+1+1,0,none⟩,3,rfl,nl,ims_three (g0:=w.heap.size) (g1:=w.heap.size+1) (g2:=w.heap.size+1+1) ?_ ?_ ?_ ?_,?_⟩
 ·exact⟨_,_,blk_old (blk_old (blk_old (blk_top (by simp))))⟩
 ·exact⟨_,_,blk_old (blk_old (blk_top (by simp)))⟩
 ·exact⟨_,_,blk_old (blk_top (by simp))⟩
 ·exact⟨_,_,blk_top (by simp)⟩
 exact((((Below.refl _ _).alloc (by simp) _).alloc (by simp) _).alloc (by simp;omega) _).alloc (by simp;omega) _
section
open Go.RowKit Go.WideShapes Go.ChangeShapes Go.ChangeAt
section
variable {H:Type} {enc:TypeId×Value->H} {P:Program} {w:World} {sp:Nat->Bool} {held:Bool} {t e:TypeId}
theorem readBy_img(ht:P.underlying t=some (.slice e))(he:P.underlying e=some (.int .u8))(hs:P.cellsOf e=1):ReadBy enc P w sp held t rImg:=by
 intro fuel cs d ps h hb;obtain⟨xs,A,c,hx,h1,h2,h3⟩:=readBy_slice ht hs (by omega) (readBy_byte he) fuel cs d ps h hb;exact⟨xs,A,c,hx,h1,h2,h3.bts⟩
end
section
variable {H:Type} {enc:TypeId×Value->H} {w:World} {sp:Nat->Bool} {held:Bool}
theorem reads_img:ReadBy enc Try.prog w sp held 22 rImg:=
 readBy_img Try.underlying22 Try.underlying5 (by kernel_rfl)
end
end
section
open Go.RowKit Go.WideShapes Go.ChangeShapes Go.ChangeAt
section
variable {H:Type} {enc:TypeId×Value->H} {P:Program} {w:World} {sp:Nat->Bool} {held:Bool} {t e:TypeId}
theorem readBy_hap{f0 f1:Field}(ht:P.underlying t=some (.struct #[f0,f1]))(hs:P.cellsOf t=2)(o0:f0.offset=0)(o1:f1.offset=1)(k0:P.cellsOf f0.type=1)(k1:P.cellsOf f1.type=1)
  (t0:P.underlying f0.type=some (.int .i64)) (t1:P.underlying f1.type=some (.int .i64)):ReadBy enc P w sp held t rHap:=by
 intro fuel cs d ps h hb;obtain⟨hl,hf⟩:=field_of ht h hb;obtain⟨a,ha⟩:=hf 0 f0 rfl (readBy_int t0);obtain⟨b,hb⟩:=hf 1 f1 rfl (readBy_int t1);rw[hs]at hl
 match cs,hl with
 |[x,y],_=>
  rw[o0,k0]at ha;rw[o1,k1]at hb;obtain⟨ha,ha'⟩:=ha;obtain⟨hb,hb'⟩:=hb;simp at ha hb;subst ha hb;exact⟨(a,b),rfl,ha',hb'⟩
end
section
variable {H:Type} {enc:TypeId×Value->H} {w:World} {sp:Nat->Bool} {held:Bool}
theorem reads_hap:ReadBy enc Try.prog w sp held 106 rHap:=
 readBy_hap Try.underlying106 (by kernel_rfl) rfl rfl (by kernel_rfl) (by kernel_rfl) Try.underlying3 Try.underlying3
end
def ArgHap(v:Value)(x:Int×Int):Prop:=v=.agg #[iv x.1,iv x.2]∧I64 x.1∧I64 x.2
def ArgHaps(W:World)(v:Value)(l:List (Int×Int)):Prop:=∃A c,v=.slice A l.length c∧l.length<=c∧l.length<=140737488351232∧Hps W A l
def ArgImgs(W:World)(v:Value)(l:List (List UInt8)):Prop:=∃A c,v=.slice A l.length c∧l.length<=c∧l.length<=5864062014634∧Ims W A l
section
variable {H:Type} {enc:TypeId×Value->H} {w:World} {base:Nat} {v:Value} {d:DataW H} {p:List MemPlace}
theorem argHap_of(ho:Value.okWide Try.prog w .any base 106 v)(h:DataW.Trod enc Try.prog w 0 (fun _=>true) true 106 v d p)(hb:Wt Try.prog 106 d):∃x,ArgHap v x:=by
 obtain⟨x,cs,hv,hp,h1,h2⟩:=argAgg_of (.inl ⟨_,Try.underlying106⟩) reads_hap ho h hb;exact⟨x,by rw[hv,hp],h1,h2⟩
theorem argHaps_of(ho:Value.okWide Try.prog w .any base 89 v)(h:DataW.Trod enc Try.prog w 0 (fun _=>true) true 89 v d p)(hb:Wt Try.prog 89 d):∃xs,ArgHaps w v xs:=by
 obtain⟨xs,A,c,hv,h1,h2,h3⟩:=argSlice_of Try.underlying89 (by kernel_rfl:Try.prog.cellsOf 106=2) (by omega) reads_hap ho h hb;exact⟨xs,A,c,hv,h1,h2,h3⟩
theorem argImgs_of(ho:Value.okWide Try.prog w .any base 86 v)(h:DataW.Trod enc Try.prog w 0 (fun _=>true) true 86 v d p)(hb:Wt Try.prog 86 d):∃xs,ArgImgs w v xs:=by
 obtain⟨xs,A,c,hv,h1,h2,h3⟩:=argSliceM_of (M:=5864062014634) Try.underlying86 (by kernel_rfl:Try.prog.cellsOf 22=1) (by omega) reads_img ho h hb (fun n _ h=>by rw[(by kernel_rfl:Try.prog.bytesOf 22=24)]at h;omega);exact⟨xs,A,c,hv,h1,h2,h3⟩
end
end
end Go.Proofs.Ytefkfglkpebbmac
