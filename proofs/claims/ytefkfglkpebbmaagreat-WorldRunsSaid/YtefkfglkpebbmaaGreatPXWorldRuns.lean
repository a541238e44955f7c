/- The walk of the law WorldRuns. Printed by gen_wruns.py. No conditions. -/
import Derived.Test.YtefkfglkpebbmaaGreatP24
import Derived.Test.YtefkfglkpebbmaaGreatP42
import Derived.Test.YtefkfglkpebbmaaGreatP33
set_option linter.unusedVariables false
set_option linter.unusedSimpArgs false
set_option maxRecDepth 100000
set_option maxHeartbeats 40000000
namespace Go.Proofs.YtefkfglkpebbmaaGreat
open Go.RowKit
variable {Y:Prop}
theorem x2n8(h:Y:=by
 clear HBD HBE HBAD HRES;go_wp2_with fail;go_meet
 case rel=>exact⟨by rw[<-HTB.out];simp[c1],rfl⟩):Y:=h
theorem x3ep(h:Y:=by
 clear c HBD HBE HBAD HRES HTB;go_wp2_with fail;go_meet
 case rel=>exact⟨by rw[<-hb1.out],rfl⟩):Y:=h
theorem x4j4(h:Y:=by
 have HB4:=bT HB2 hb;clear hb;go_wp2_with fail;go_ret;exact⟨rfl,HB4.out⟩):Y:=h
theorem WorldRuns_walk(W:World)(v0 v1:Value)(x0:Wor)(l:List (Int×Int))(g0:ArgWor W v0 x0)(g1:ArgHaps W v1 l)(hml:ML W):Calls Tryz.prog 3 #[v0,v1] W (RetB W (.bool true)):=by
 obtain⟨L,rfl,hin⟩:=g0;obtain⟨B,cl,rfl,hcl,hll,hh⟩:=g1;have KG:=qH (fun w=>gone_calls w);obtain⟨⟨y,said,e'⟩,hres⟩:∃res,worRun x0 l=res:=⟨_,rfl⟩;have K1:Hid (∀w,WorIn w x0 L->Hps w B l->Calls Tryz.prog 4 #[.agg (worA x0 L),.slice B l.length cl] w (WrRet w y said e')):=qH (fun w h hh=>by
  have:=worRun_calls x0 L B cl l w h hll hcl hh;rwa [hres]at this)
 have K2:=qH (fun w h=>refWorCheck_calls x0 L w h);obtain⟨bad,hbad⟩:=eX (worCheck x0);rw[hbad]at K2;have HIN:=qH hin;have HH:=qH hh;have HML:=qH hml;have HRES:=qH hres;have HBAD:=qH hbad;have HBA:Hid (Below W.heap.size W (W.alloc (.cells (worA x0 L) 40))):=qH (bL _);clear hin hres hh hbad hml;go_enter Tryz.func3,Tryz.ntmps3;go_wp2_with fail;refine(K1.out _ (HIN.out.stays HBA.out) (HH.out.stays HBA.out)).mono ?_;rintro e w1 ⟨L1,A1,c1,b1,rfl,ho1,hbs1,hw1,hb⟩;have a2:=kp (W.heap.size) (worA x0 L) hb;have HB1:=bT HBA hb;have hs1:W.heap.size+1<=w1.heap.size:=by have:=hb.size;simpa using this
 have hb1':W.heap.size+1<=b1:=by simpa using hbs1
 have HI1:Hid (On (fun q=>q≠W.heap.size∧q<w1.heap.size) w1 (fun v=>WorIn v y L1)):=qH (fun v h1 h2=>hw1 v (fun q h3 h4 h5=>h2 q ⟨by omega,h5⟩ h5));have HN1:Hid (On (fun q=>q≠W.heap.size∧q<w1.heap.size) w1 (fun v=>Nts v A1 said)):=qH (fun v h1 h2=>(ho1.same (fun q e=>h2 q ⟨by have:=(ho1.block q e).1;omega,(ho1.block q e).2⟩ (ho1.block q e).2)).src.nts);have hle1:=ho1.le;clear hb ho1 hbs1 hw1 K1;go_wp2_with fail;refine(K2.out _ ?_).mono ?_
 ·exact HIN.out.stays (HB1.out.alloc (by omega) _)
 rintro e w2 ⟨rfl,hb⟩;have a2:=kr a2 hb;have a1:=kp (w1.heap.size) (worA y L1) hb;have hbx:Below w1.heap.size w1 w2:=(bL _).trans (hb.mono (by simp));have HB2:=bT HB1 hbx;have HI2:=qH (HI1.out.below hbx);have HN2:=qH (HN1.out.below hbx);have hs2:w1.heap.size+1<=w2.heap.size:=by have:=hb.size;simpa using this
 clear hb hbx HI1 HN1;obtain⟨bd,hbd⟩:∃bd:Int,(if bad=0∧200<l.length then 1 else bad)=bd:=⟨_,rfl⟩;have hbd1:bd=e'∧(bd≠0->said=[]∧y=Wor.zero)∧(bd=0->worCheck x0=0∧l.length<=200∧y=worGo l x0∧said=worSaid l x0):=by
  have h1:=HRES.out;have h2:=HBAD.out;by_cases c1:worCheck x0=0
  ·rw[h2]at c1;subst c1;by_cases c2:200<l.length
   ·rw[worRun_many h2 c2]at h1;injection h1 with h3 h4;injection h4 with h4 h5;rw[<-hbd,if_pos ⟨rfl,c2⟩];exact⟨h5,fun _=>⟨h4.symm,h3.symm⟩,fun h=>absurd h (by decide)⟩
   rw[worRun_ok h2 c2]at h1;injection h1 with h3 h4;injection h4 with h4 h5;rw[<-hbd,if_neg (fun h=>c2 h.2)];exact⟨h5,fun h=>absurd rfl h,fun _=>⟨h2,by omega,h3.symm,h4.symm⟩⟩
  rw[worRun_bad c1]at h1;injection h1 with h3 h4;injection h4 with h4 h5;rw[h2]at c1 h5;rw[<-hbd,if_neg (fun h=>c1 h.1)];exact⟨h5,fun _=>⟨h4.symm,h3.symm⟩,fun h=>absurd h c1⟩
 have HBD:=qH hbd;have HBE:=qH hbd1;have hbe:=hbd1.1;clear hbd hbd1 K2;subst hbe;go_upto_region 3 with fail
 obtain⟨tb,htb⟩:=eX (decide (bad=0∧200<l.length));have HTB:=qH htb;clear htb;go_cut [29] (fun v wx=>v=.bool tb∧w2=wx)
 case first=>
  by_cases c1:bad=0
  ·have q:(bad==0)=true:=by simp[c1]
   have C1:=qH c1;clear c1;by_cases c1:200<l.length
   ·have d:(200:Int)<(l.length:Int):=by omega
    clear HBD HBE HBAD HRES;go_wp2_with fail;go_meet
    case rel=>exact⟨by rw[<-HTB.out];simp[C1.out,c1],rfl⟩
   have d:¬(200:Int)<(l.length:Int):=by omega
   exact x2n8
  have q:(bad==0)=false:=by simp[c1]
  exact x2n8
 case rest=>
 obtain⟨rfl,rfl⟩:=hcut
 apply_assumption
 go_cut [8] (fun v wx=>v=iv bd∧w2=wx)
 case first=>
  cases tb
  case true=>
   have c:=of_decide_eq_true HTB.out;have hb1:=qH (show (1:Int)=bd by rw[<-HBD.out,if_pos c]);exact x3ep
  case false=>
   have c:=of_decide_eq_false HTB.out;have hb1:=qH (show bad=bd by rw[<-HBD.out,if_neg c]);exact x3ep
 case rest=>
 obtain⟨rfl,rfl⟩:=hcut;go_wp2_with fail;refine(KG.out _).mono ?_;rintro e w3 ⟨rfl,hb⟩;have a2:=kr a2 hb;have a1:=kr a1 hb;have HB3:=bT HB2 hb;have HI1:=qH (HI2.out.below hb);have HN1:=qH (HN2.out.below hb);have hs3:w1.heap.size+1<=w3.heap.size:=by have:=hb.size;omega
 clear hb HI2 HN2 HB2;by_cases c3:bd≠0
 ·have q:(bd !=0)=true:=by simp[c3]
  obtain⟨rfl,rfl⟩:=HBE.out.2.1 c3;clear c3 HBE HBD HRES HBAD;go_wp2_with fail;refine(KG.out _).mono ?_;rintro e w4 ⟨rfl,hb⟩;have a1:=kp (w1.heap.size) (worA Wor.zero L1) hb;have HB2:=bT HB3 hb;have hi1:=HI1.out.at_ hb;have qq:(bd==bd)=true:=by simp
  have KS:=qH (refWorSame_calls Wor.zero Wor.zero L1 WLoc.zero w4 hi1 (WorIn.zero _));rw[decide_eq_true rfl]at KS;clear hb hi1;go_wp2_with fail;refine KS.out.mono ?_;rintro e w5 ⟨rfl,hb⟩;exact x4j4
 have c3:=Decidable.not_not.1 c3;obtain⟨hwc,hl1,hyy,hss⟩:=HBE.out.2.2 c3;subst c3;have HOK:Hid (WorOk x0):=qH (worCheck_ok.1 hwc);have HYY:=qH hyy;have HSS:=qH hss;have q:((0:Int) !=0)=false:=rfl;have RY:Hid (rowOf w3 w1.heap.size=worA y L1∧frOf w3 w1.heap.size=(0,0)):=qH ⟨a1.1,a1.2.1⟩;have RW:Hid (rowOf w3 W.heap.size=worA x0 L∧frOf w3 W.heap.size=(0,0)):=qH ⟨a2.1,a2.2.1⟩;clear HBE HBD HRES HBAD hwc hyy hss;go_wp2_with fail;clear a2 a1;go_loopw [9,54] (fun s i wr=>∃(k:Nat) (x:Wor) (L:WLoc) (A:OA) (c:Nat),k<=l.length∧i=iv k∧s=.slice A k c∧Hid (x=worGo (l.take k) x0∧WorOk x)∧Hid (rowOf wr W.heap.size=worA x L∧frOf wr W.heap.size=(0,0))∧Hid (∃S:Nat->Prop,On S wr (fun v=>WorIn v x L)∧∀q,S q->q<wr.heap.size∧q≠W.heap.size∧A.map (·.block)≠some q)∧Hid (Own wr w3.heap.size 43 1 A k c ((worSaid (l.take k) x0).map iv))∧Hid (Below W.heap.size W wr∧w3.heap.size<=wr.heap.size∧∀q,q<w3.heap.size->q≠W.heap.size->wr.heap[q]?=w3.heap[q]?)) (fun _ i _=>l.length-(intOf i).toNat)
 case atStart=>
  exact⟨0,x0,L,none,0,Nat.zero_le _,rfl,rfl,qH ⟨rfl,HOK.out⟩,RW,qH ⟨fun q=>q<W.heap.size,(On.of (P:=fun v=>WorIn v x0 L) fun v h=>HIN.out.stays h).below HB3.out,fun q h=>⟨by omega,by omega,by simp⟩⟩,qH (by simpa[worSaid]using Own.nil_ _ _ _ _),qH ⟨HB3.out,nl,fun _ _ _=>rfl⟩⟩
 case round=>
  rename World=>wr;obtain⟨k,x,Lk,A,c,hk,rfl,rfl,HX,HR,HS,HO,HB⟩:=hrel;have hsz:=HB.out.2.1;have hh1:=HR.out;have a2:=keep1 (g:=W.heap.size) (cs:=worA x Lk) (bW wr) hh1.1 (by first|(go_simp;done)|simp) hh1.2;by_cases hlt:k<l.length
  ·obtain⟨b,o,rfl,hbl,cs,hcs,hcc,rfl,hi1,hi2⟩:=HH.out k hlt;obtain⟨⟨kd,n⟩,hy⟩:∃y,l[k]=y:=⟨_,rfl⟩;rw[hy]at hcc hi1 hi2;have hb1:b<wr.heap.size:=by omega
   have hwb:∀j,wr.cell? ⟨b,j,none⟩=W.cell? ⟨b,j,none⟩:=fun j=>HB.out.1.cell (p:=⟨b,j,none⟩) hbl;have p2:wr.cell? ⟨b,o+k*2,none⟩=some (iv kd):=by rw[hwb];have:=hcc 0 (by simp);simpa using this
   have p1:wr.cell? ⟨b,o+k*2+1,none⟩=some (iv n):=by rw[hwb];have:=hcc 1 (by simp);simpa using this
   have HY:=qH hy;obtain⟨S,hon,hS⟩:=HS.out;have hwk:IntKind.i64.wrap ((k:Int)+1)=(k:Int)+1:=IntWalk.i64_in _ (by omega);have dl:decide ((k:Int)<(l.length:Int))=true:=decide_eq_true (by omega);have hcap:(l.length:Int)<=(cl:Int):=by omega
   obtain⟨⟨x2,e1⟩,hres⟩:∃res,worHappen x kd n=res:=⟨_,rfl⟩;have KH:=qH (refHap_calls S x Lk kd n (wr.alloc (.cells #[iv kd,iv n] 50)) HX.out.2 hi2 (hon.alloc _) ((HML.out.stays HB.out.1).stays (bL _)));rw[hres]at KH;have HRS:=qH hres;have HON:=qH hon;have HSQ:=qH hS;have hab:∀q,A.map (·.block)=some q->w3.heap.size<=q∧q<wr.heap.size:=HO.out.block;have HAB:=qH hab;clear hcc hi1 hi2 hcs hy hwb hbl hres hon hS hab hh1;go_wp2_with fail;refine KH.out.mono ?_;rintro e w4 ⟨L2,rfl,hon1,hb⟩;have a1:=kp (W.heap.size) (worA x Lk) hb;have hs4:wr.heap.size+1<=w4.heap.size:=by have:=hb.size;simpa using this
   have HB2:Hid (Below W.heap.size W w4):=qH ((HB.out.1.alloc (by omega) _).trans (hb.mono (by simp;omega)));have HK1:Hid (∀q,q<wr.heap.size->w4.heap[q]?=wr.heap[q]?):=qH (fun q h=>(hb.block q (by simp;omega)).trans (Below.heap_alloc wr _ q h));have HO1:Hid (On (fun q=>S q∨(wr.heap.size+1<=q∧q<w4.heap.size)) w4 (fun v=>WorIn v x2 L2)):=qH (hon1.sub fun q h1 h2=>by
    rcases h2 with h2|h2
    ·exact .inl h2.1
    exact .inr ⟨by simpa using h2,h1⟩)
   have HX1:Hid (On (fun q=>S q∨(wr.heap.size+1<=q∧q<w4.heap.size)) w4 (fun v=>WorIn v x Lk)):=qH (((HON.out.alloc _).below hb).sub fun q _ h=>.inl h);have HSD:Hid (worSaid (l.take (k+1)) x0=worSaid (l.take k) x0++[e1]∧worGo (l.take (k+1)) x0=worTry x (kd,n)):=qH (by
    have h1:=worGo_append (l.take k) [(kd,n)] x0;rw[List.take_succ_eq_append_getElem hlt,HY.out,h1.1,h1.2,<-HX.out.1];refine⟨?_,rfl⟩;congr 1
    show [(worHappen x kd n).2]=[e1];rw[HRS.out])
   obtain⟨x1,hx1⟩:=eX (worTry x (kd,n));have hx3':x1=if e1=0 then x2 else x:=by rw[<-hx1];unfold worTry;dsimp only;rw[HRS.out]
   have HX2:Hid (x1=if e1=0 then x2 else x):=qH hx3';have HOK1:Hid (x1=worGo (l.take (k+1)) x0∧WorOk x1):=qH (by
    refine⟨by rw[HSD.out.2,hx1],?_⟩;rw[hx3'];by_cases c:e1=0
    ·rw[if_pos c];have h1:=happen_keeps HX.out.2 (show (worHappen x kd n).2=0 by rw[HRS.out];exact c);rw[HRS.out]at h1;exact h1.1
    rw[if_neg c];exact HX.out.2)
   clear hb hon1 KH hx1 hx3' p2 p1;go_upto_if 65 with fail
   have hg1:¬w4.heap.size=W.heap.size:=by omega
   have hg2:¬W.heap.size=w4.heap.size:=by omega
   go_cut [] (fun wx=>∃L3,Hid (rowOf wx W.heap.size=worA x1 L3∧frOf wx W.heap.size=(0,0))∧Hid (On (fun q=>S q∨(wr.heap.size+1<=q∧q<w4.heap.size)) wx (fun v=>WorIn v x1 L3))∧Hid (∀q,q<wr.heap.size->q≠W.heap.size->wx.heap[q]?=wr.heap[q]?)∧Hid (Below W.heap.size W wx∧w4.heap.size+1<=wx.heap.size))
   case first=>
    have hp1:0<(rowOf w4 W.heap.size).size:=by rw[a1.1];simp[worA]
    by_cases c2:e1=0
    ·have q:(e1==0)=true:=by simp[c2]
     have hx:x1=x2:=by rw[HX2.out,if_pos c2]
     clear c2;go_wp2_with fail;go_meet
     case rel=>
      refine⟨L2,qH ⟨?_,?_⟩,qH ?_,qH fun q h1 h2=>?_,qH ⟨?_,?_⟩⟩
      ·rw[hx];go_simp
      ·go_simp
      ·rw[hx];exact(HO1.out.row (by rintro (h|h);exact(HSQ.out _ h).2.1 rfl;omega) _).alloc _
      ·exact(Below.heap_alloc _ _ q (by simp[World.setRow];omega)).trans ((setRow_other _ _ _ _ h2).trans (HK1.out q h1))
      ·exact(below_row HB2.out nl _).alloc (by simp[World.setRow];omega) _
      simp[World.setRow]
    have q:(e1==0)=false:=by simp[c2]
    have hx:x1=x:=by rw[HX2.out,if_neg c2]
    clear c2;go_wp2_with fail;go_meet
    case rel=>
     refine⟨Lk,qH ⟨?_,?_⟩,qH ?_,qH fun q h1 h2=>?_,qH ⟨?_,?_⟩⟩
     ·rw[hx];go_simp
     ·go_simp
     ·rw[hx];exact HX1.out.alloc _
     ·exact(Below.heap_alloc w4 _ q (by omega)).trans (HK1.out q h1)
     ·exact HB2.out.alloc (by omega) _
     simp
   case rest=>
   obtain⟨L3,h1,h2,h3,h4⟩:=hcut;have HR1:=h1;have HO2:=h2;have HK2:=h3;have HB3':=h4;have hs5:=h4.out.2;have hown:Own wc w3.heap.size 43 1 A k c ((worSaid (l.take k) x0).map iv):=HO.out.same (fun q e=>HK2.out q (HAB.out q e).2 (by have:=(HAB.out q e).1;omega));have hown1:Own (wc.alloc (.cells #[iv e1] 43)) w3.heap.size 43 1 A k c ((worSaid (l.take k) x0).map iv):=hown.same (fun q e=>Below.heap_alloc wc _ q (hown.block q e).2);have hsrc:Src (wc.alloc (.cells #[iv e1] 43)) (some ⟨wc.heap.size,0,none⟩) [iv e1]:=src_blk (blk_top rfl);have hbase1:w3.heap.size<=(wc.alloc (.cells #[iv e1] 43)).heap.size:=by simp;omega
   have hlim:k+1<=137438953472:=by omega
   clear h1 h2 h3 h4 hown a1;go_wp2_with (at_builtin;go_must (refine wpList_app (wc.alloc (.cells #[iv e1] 43)) rfl _ _ 42 rfl elErrs w3.heap.size A k c ((worSaid (l.take k) x0).map iv) rfl hown1 (some ⟨wc.heap.size,0,none⟩) 1 1 [iv e1] rfl hsrc rfl (by simp[Value.oneCell']) hlim hbase1 ?_;intro A' c' w6 hown6 hg6 hb6 hor6));have hk1:∀q,q<wc.heap.size->A.map (·.block)≠some q->w6.heap[q]?=wc.heap[q]?:=fun q h1 h2=>(hg6.block q (by simp;omega) (fun e=>h2 e.symm)).trans (Below.heap_alloc wc _ q h1);have hs6:wc.heap.size+1<=w6.heap.size:=by have:=hb6.size;simpa using this
   have hA1:∀q,A'.map (·.block)=some q->A.map (·.block)=some q∨wc.heap.size<=q:=fun q e=>by
    rcases hor6 with h9|h9
    ·exact .inl (h9▸e)
    rw[h9]at e;injection e with e
    simp at e;exact .inr (by omega)
   have HOW:Hid (Own w6 w3.heap.size 43 1 A' (k+1) c' ((worSaid (l.take (k+1)) x0).map iv)):=qH (by rw[HSD.out.1,List.map_append];exact hown6);have HR2:Hid (rowOf w6 W.heap.size=worA x1 L3∧frOf w6 W.heap.size=(0,0)):=qH (by
    have h1:=rowOf_heap (hk1 W.heap.size (by omega) (fun e=>by have:=(HAB.out _ e).1;omega));exact⟨h1.1.trans HR1.out.1,h1.2.trans HR1.out.2⟩)
   have HB4:Hid (Below W.heap.size W w6∧w3.heap.size<=w6.heap.size∧∀q,q<w3.heap.size->q≠W.heap.size->w6.heap[q]?=w3.heap[q]?):=qH ⟨(HB3'.out.1.alloc (by omega) _).trans (hb6.mono (by omega)),by omega,fun q h1 h2=>(hk1 q (by omega) (fun e=>by have:=(HAB.out q e).1;omega)).trans ((HK2.out q (by omega) h2).trans (HB.out.2.2 q h1 h2))⟩;have HS1:Hid (∃S:Nat->Prop,On S w6 (fun v=>WorIn v x1 L3)∧∀q,S q->q<w6.heap.size∧q≠W.heap.size∧A'.map (·.block)≠some q):=qH (by
    have hA:∀q,(S q∨(wr.heap.size+1<=q∧q<w4.heap.size))->A.map (·.block)≠some q:=fun q h e=>by
     rcases h with h|h
     ·exact(HSQ.out q h).2.2 e
     have:=(HAB.out q e).2;omega
    have hlt1:∀q,(S q∨(wr.heap.size+1<=q∧q<w4.heap.size))->q<wc.heap.size:=fun q h=>by
     rcases h with h|h
     ·have:=(HSQ.out q h).1;omega
     omega
    have hbc:Below 0 wc w6:=((Below.refl _ _).alloc (Nat.zero_le _) _).trans (hb6.mono (Nat.zero_le _));refine⟨_,fun v h1 h2=>HO2.out v (hbc.trans h1) (fun q h3 h4=>(h2 q h3 (by omega)).trans (hk1 q h4 (hA q h3))),fun q h=>⟨by have:=hlt1 q h;omega,?_,fun e=>?_⟩⟩
    ·rcases h with h|h
     ·exact(HSQ.out q h).2.1
     ·omega
    rcases hA1 q e with h9|h9
    ·exact hA q h h9
    have:=hlt1 q h;omega)
   clear hown6 hg6 hb6 hor6 hk1 hA1 hown1 hsrc;go_roundw
   case rel=>exact⟨k+1,x1,L3,A',c',by omega,by go_num,by first|rfl|go_num,HOK1,HR2,HS1,HOW,HB4⟩
   case measure=>simp[intOf];omega
  obtain rfl:k=l.length:=by omega
  have hx:x=y:=by rw[HX.out.1,List.take_length];exact HYY.out.symm
  subst hx;have hw:worSaid (l.take l.length) x0=said:=by rw[List.take_length];exact HSS.out.symm
  rw[hw]at HO;clear hw;obtain⟨S,hon,hS⟩:=HS.out;have hk:=HB.out.2.2;have hb1:Below 0 w3 wr:=⟨HB.out.1.os.trans HB3.out.os.symm,HB.out.1.tape.trans HB3.out.tape.symm,HB.out.1.output.trans HB3.out.output.symm,hsz,fun q h=>absurd h (Nat.not_lt_zero _)⟩;have hy1:WorIn wr x L1:=HI1.out wr hb1 (fun q h1 h2=>hk q h2 h1.1);have hn1:Nts wr A1 said:=HN1.out wr hb1 (fun q h1 h2=>hk q h2 h1.1);have hr2:=rowOf_heap (hk w1.heap.size (by omega) (by omega));have hr1:rowOf wr w1.heap.size=worA x L1:=hr2.1.trans RY.out.1;have hf1:frOf wr w1.heap.size=(0,0):=hr2.2.trans RY.out.2;have hsl:said.length=l.length:=by rw[HSS.out,said_len]
  have hdl:decide ((l.length:Int)<(l.length:Int))=false:=decide_eq_false (by omega);have a1:=keep1 (g:=w1.heap.size) (cs:=worA x L1) (bW wr) hr1 (by first|(go_simp;done)|simp) hf1;have KE:Hid (Calls Tryz.prog 9 #[.slice A1 said.length c1,.slice A l.length c] wr (RetN wr (.bool true))):=qH (by
   have h1:=equalErrs_calls A1 A c1 c said said wr (by omega) (by omega) hn1 HO.out.src.nts;rw[decide_eq_true rfl]at h1;rw[hsl]at h1⊢;exact h1)
  have KS:=qH (fun w2 h=>refWorSame_calls x x L1 Lk w2 (hy1.stays h) (hon.now.stays h));rw[decide_eq_true rfl]at KS;have q1:((0:Int)==0)=true:=rfl;have HBR:=qH HB.out.1;clear hon hS hk hb1 hy1 hn1 hr2 HI1 HN1 hsl;go_wp2_with fail;refine KE.out.mono ?_;rintro e w5 ⟨rfl,n1,hw1⟩;have hb:Below wr.heap.size wr w5:=by rw[<-hw1];exact below_drewN _ n1
  clear hw1;have a2:=keep1 (g:=W.heap.size) (cs:=worA x Lk) hb a2.1 (by first|(go_simp;done)|simp) a2.2.1;have a1:=keep1 (g:=w1.heap.size) (cs:=worA x L1) hb a1.1 (by first|(go_simp;done)|simp) a1.2.1;have HB2:=bT HBR hb;have KS1:=qH (KS.out w5 hb);clear hb;go_wp2_with fail;refine KS1.out.mono ?_;rintro e w4 ⟨rfl,hb⟩;exact x4j4
end Go.Proofs.YtefkfglkpebbmaaGreat
