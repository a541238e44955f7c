/- The walk of the law WorldDoes. Printed by gen_wdoes.py. No conditions. -/
import Derived.Test.YtefkfglkpebbmabGreatP16
import Derived.Test.YtefkfglkpebbmabGreatP18
import Derived.Test.YtefkfglkpebbmabGreatP25
set_option linter.all false
set_option maxRecDepth 100000
set_option maxHeartbeats 0
namespace Go.Proofs.YtefkfglkpebbmabGreat
open Go.RowKit
variable {Y:Prop}
theorem x2vx(h:Y:=by
 have e1:=cO 4 (.pointer (some ⟨W.heap.size,0,none⟩)) h;have y_:=kq h.bel RA FA;refine ch_pure ?_;go_simp):Y:=h
theorem WorldDoes_walk(W:World)(v0 v1 v2 v3:Value)(x0:Wor)(xh:Int×Int)(l:List (List UInt8))(z:Wor)(g0:ArgWor W v0 x0)(g1:ArgHap v1 xh)(g2:ArgImgs W v2 l)(g3:ArgWor W v3 z)(hml:ML W):Calls Tryz.prog 3 #[v0,v1,v2,v3] W (RetB W (.bool true)):=by
 obtain⟨L,rfl,hin⟩:=g0;obtain⟨rfl,hk1,hn⟩:=g1;obtain⟨A,ca,rfl,hca,hla,hA⟩:=g2;obtain⟨M,rfl,hz⟩:=g3;obtain⟨kd,n⟩:=xh;dsimp only at hk1 hn⊢;have KG:=qH (fun w=>gone_calls w);have HIN:=qH hin;have HZI:=qH hz;have HIA:=qH hA;have HML:=qH hml;have K1:=qH (fun w h=>worNew_calls A ca l w hca hla h);have K2:=qH (fun w h=>worDo_calls x0 L kd n w h hn);have K3:=qH (fun w h=>refWorCheck_calls x0 L w h);have K4:=qH (fun w h=>refReleases_calls A ca l w hla h);have K5:=qH (fun w h=>worCheck_calls x0 L w h);have hne:worNew l=if relCheck l≠0 then (Wor.zero,relCheck l)else (⟨l,newDev (l.headD []),[]⟩,0):=rfl
 obtain⟨⟨nw,ne⟩,hnw⟩:∃q,worNew l=q:=⟨_,rfl⟩;obtain⟨⟨y,f⟩,hy⟩:∃q,worDo x0 kd n=q:=⟨_,rfl⟩;obtain⟨bad,hbad⟩:∃q,worCheck x0=q:=⟨_,rfl⟩;rw[hnw]at K1 hne;rw[hy]at K2;rw[hbad]at K3 K5;have hrel:ne=relCheck l:=by
  by_cases c:relCheck l≠0
  ·rw[if_pos c]at hne;injection hne
  rw[if_neg c]at hne;injection hne with _ h;rw[h];exact(Decidable.not_not.1 c).symm
 rw[<-hrel]at K4;have HNE:=qH hne;have HREL:=qH hrel;have HY:=qH hy;have HBAD:=qH hbad;have HBA:Hid (Below W.heap.size W (((W.alloc (.cells (worA x0 L) 40)).alloc (.cells #[iv kd,iv n] 42)).alloc (.cells (worA z M) 40))):=qH (((bL _).alloc (by simp) _).alloc (by simp;omega) _);clear hin hz hA hml hne hnw hy hbad hrel hk1;go_enter Tryz.func3,Tryz.ntmps3;go_wp2_with fail;refine(K1.out _ (HIA.out.stays HBA.out)).mono ?_;rintro en w1 ⟨Ln,rfl,hf,hb⟩;have a6:=kp (W.heap.size) (worA x0 L) hb;have a1:=kp (W.heap.size+1) (#[iv kd,iv n]) hb;have a2:=kp (W.heap.size+1+1) (worA z M) hb;have HB1:=bT HBA hb;have HN1:=qH hf.now;have hs1:W.heap.size+3<=w1.heap.size:=by have:=hb.size;simpa using this
 clear hb hf K1;go_wp2_with fail;refine(K2.out _ (HIN.out.stays (HB1.out.alloc (by omega) _))).mono ?_;rintro en w2 ⟨Ly,rfl,hf,hb⟩;have a6:=kr a6 hb;have a1:=kr a1 hb;have a2:=kr a2 hb;have a3:=kp (w1.heap.size) (worA nw Ln) hb;have hbx:Below w1.heap.size w1 w2:=(bL _).trans (hb.mono (by simp));have HB2:=bT HB1 hbx;have HN2:=qH (HN1.out.stays hbx);have HY1:=qH hf.now;have hs2:w1.heap.size+1<=w2.heap.size:=by have:=hb.size;simpa using this
 clear hb hbx hf K2 HN1;go_wp2_with fail;refine(K3.out _ (HIN.out.stays (HB2.out.alloc (by omega) _))).mono ?_;rintro en w3 ⟨rfl,hb⟩;have a6:=kr a6 hb;have a1:=kr a1 hb;have a2:=kr a2 hb;have a3:=kr a3 hb;have a4:=kp (w2.heap.size) (worA y Ly) hb;have hbx:Below w2.heap.size w2 w3:=(bL _).trans (hb.mono (by simp));have HB3:=bT HB2 hbx;have HN1:=qH (HN2.out.stays hbx);have HY2:=qH (HY1.out.stays hbx);have hs3:w2.heap.size+1<=w3.heap.size:=by have:=hb.size;simpa using this
 clear hb hbx K3 HN2 HY1;go_wp2_with fail;refine(K4.out _ (HIA.out.stays HB3.out)).mono ?_;rintro en w4 ⟨rfl,hb⟩;have a6:=kr a6 hb;have a1:=kr a1 hb;have a2:=kr a2 hb;have a3:=kr a3 hb;have a4:=kr a4 hb;have HB4:=bT HB3 hb;have HN2:=qH (HN1.out.stays hb);have HY1:=qH (HY2.out.stays hb);have hs4:w2.heap.size+1<=w4.heap.size:=by have:=hb.size;omega
 clear hb K4 HN1 HY2;go_upto_if 35 with fail
 go_cut [] (fun wx=>∃Lf,Hid (rowOf wx w4.heap.size=worA nw Lf∧frOf wx w4.heap.size=(0,0))∧Hid (WorIn wx nw Lf)∧Hid (Below w4.heap.size w4 wx))
 case first=>
  by_cases c:ne=0
  ·have q:(ne==0)=true:=by simp[c]
   have hr1:relCheck l=0:=by rw[<-HREL.out];exact c
   obtain⟨hl1,hl2,hl3⟩:=relCheck_ok.1 hr1;have hnz:nw=⟨l,newDev (l.headD []),[]⟩:=by
    have h:=HNE.out;rw[if_neg (fun h=>h hr1)]at h;injection h
   have hlp:0<l.length:=List.length_pos_iff.2 hl1;obtain⟨bb,oo,hAe,hbl,cs,hcl,hcc,B1,e1,rfl,hd1,hd2,hd3⟩:=HIA.out 0 hlp;obtain⟨im,him⟩:=eX (l[0]);rw[him]at hcc hd1 hd3;have HHD:Hid (l.headD []=im):=qH (by
    cases l with
    |nil=>exact absurd rfl hl1
    |cons a b=>simpa using him)
   subst hAe;have hc1:w4.cell? ⟨bb,oo,none⟩=some (.slice B1 im.length e1):=(HB4.out.cell (p:=⟨bb,oo,none⟩) hbl).trans (by have:=hcc 0 (by simp);simpa using this);have KF:=qH (fun w h=>refFresh_calls B1 e1 im w (hl3 im (by rw[<-him];exact List.getElem_mem hlp)) h);have HD1:=qH hd3;have hlen:(0:Int)<(l.length:Int):=by omega
   have hcap:(l.length:Int)<=(ca:Int):=by omega
   have hbn:¬bb=w4.heap.size:=by have:=HB4.out.size;omega
   have hblt:bb<w4.heap.size:=by have:=HB4.out.size;omega
   clear c hr1 hl1 hl2 hl3 him hcl hcc hd1 hd2 hd3 hbl;go_wp2_with fail;refine(KF.out _ (HD1.out.stays (HB4.out.alloc HB4.out.size _))).mono ?_;rintro en w5 ⟨Kf,rfl,hdv,hb⟩;have a5:=kp (w4.heap.size) (worA Wor.zero WLoc.zero) hb;have HB5:Hid (Below w4.heap.size w4 w5):=qH ((bL _).trans (hb.mono (by simp)));have HDV:Hid (∀v:World,(∀k,w4.heap.size+1<=k->k<w5.heap.size->v.heap[k]?=w5.heap[k]?)->DevIn v (newDev im) Kf):=qH (fun v hv=>hdv v (fun k h1 h2=>hv k (by simpa using h1) h2));clear hb hdv;go_wp2_with fail;go_meet
   case rel=>
    have hp1:0<(rowOf w5 w4.heap.size).size:=by rw[a5.1];simp[worA]
    refine⟨⟨some ⟨bb,oo,none⟩,ca,Kf,none,0⟩,qH ⟨?_,by rw[frOf_setRow];exact a5.2.1⟩,qH ?_,qH (below_row HB5.out nl _)⟩
    ·rw[rowOf_setRow _ _ _ _ hp1,if_pos rfl,hnz,HHD.out]
    rw[hnz,HHD.out];have hb1:Below w4.heap.size w4 (w5.setRow w4.heap.size (worA ⟨l,newDev im,[]⟩ ⟨some ⟨bb,oo,none⟩,ca,Kf,none,0⟩)):=below_row HB5.out nl _;exact⟨hca,hla,HIA.out.stays (HB4.out.trans (hb1.mono HB4.out.size)),HDV.out _ (fun k h1 h2=>setRow_other _ _ _ _ (by omega)),nl,by simp,Chs.nil _ _⟩
  have q:(ne==0)=false:=by simp[c]
  have hnz:nw=Wor.zero:=by
   have h:=HNE.out;rw[if_pos (by rw[<-HREL.out];exact c)]at h;injection h
  go_wp2_with fail;go_meet
  case rel=>
   refine⟨WLoc.zero,qH ⟨?_,?_⟩,qH (by rw[hnz];exact WorIn.zero _),qH (bL _)⟩
   ·rw[hnz,rowOf_alloc,if_pos rfl]
   rw[frOf_alloc,if_pos rfl]
 case rest=>
 obtain⟨Lf,h1,h2,h3⟩:=hcut;have hb:=h3.out;have HF1:=h2;have r1:=h1.out;have a6:=keep1 (g:=W.heap.size) (cs:=worA x0 L) hb a6.1 (by first|(go_simp;done)|simp) a6.2.1;have a1:=keep1 (g:=W.heap.size+1) (cs:=#[iv kd,iv n]) hb a1.1 (by first|(go_simp;done)|simp) a1.2.1;have a2:=keep1 (g:=W.heap.size+1+1) (cs:=worA z M) hb a2.1 (by first|(go_simp;done)|simp) a2.2.1;have a3:=keep1 (g:=w1.heap.size) (cs:=worA nw Ln) hb a3.1 (by first|(go_simp;done)|simp) a3.2.1;have a4:=keep1 (g:=w2.heap.size) (cs:=worA y Ly) hb a4.1 (by first|(go_simp;done)|simp) a4.2.1;have a5:=keep1 (g:=w4.heap.size) (cs:=worA nw Lf) (bW wc) r1.1 (by first|(go_simp;done)|simp) r1.2;have HB5:=bT HB4 hb;have HN1:=qH (HN2.out.stays hb);have HY2:=qH (HY1.out.stays hb);have hs5:w4.heap.size<=wc.heap.size:=hb.size;clear hb h1 h2 h3 r1 HN2 HY1 HB4 HNE HREL;have KI:=qH (fun wq (h:Below wc.heap.size wc wq)=>gone_calls wq);have KC:=qH (fun wq (h:Below wc.heap.size wc wq)=>K5.out wq (HIN.out.stays (HB5.out.trans (h.mono HB5.out.size))));have KS:=qH (fun wq (h:Below wc.heap.size wc wq)=>worSame_calls x0 z L M wq (HIN.out.stays (HB5.out.trans (h.mono HB5.out.size))) (HZI.out.stays (HB5.out.trans (h.mono HB5.out.size))));have KR:=qH (fun wq (h:Below wc.heap.size wc wq)=>refWorSame_calls x0 z L M wq (HIN.out.stays (HB5.out.trans (h.mono HB5.out.size))) (HZI.out.stays (HB5.out.trans (h.mono HB5.out.size))));have KN:=qH (fun wq (h:Below wc.heap.size wc wq)=>refWorSame_calls nw nw Ln Lf wq (HN1.out.stays h) (HF1.out.stays h));rw[decide_eq_true rfl]at KN;generalize decide (x0=z)=bs at *
 have hmm:(bad !=bad)=false:=by simp
 have hbb:(bs !=bs)=false:=by simp
 have hnn:(ne !=ne)=false:=by simp
 go_wp2_with fail;have RA:Hid (rowOf wc.drew (W.heap.size)=worA x0 L):=qH (by rw[rowOf_drew];exact a6.1);have FA:Hid (frOf wc.drew (W.heap.size)=(0,0)):=qH (by rw[frOf_drew];exact a6.2.1);have RB:Hid (rowOf wc.drew (W.heap.size+1+1)=worA z M):=qH (by rw[rowOf_drew];exact a2.1);have FB:Hid (frOf wc.drew (W.heap.size+1+1)=(0,0)):=qH (by rw[frOf_drew];exact a2.2.1);have RN:Hid (rowOf wc.drew (w1.heap.size)=worA nw Ln):=qH (by rw[rowOf_drew];exact a3.1);have FN:Hid (frOf wc.drew (w1.heap.size)=(0,0)):=qH (by rw[frOf_drew];exact a3.2.1);have RF:Hid (rowOf wc.drew (w4.heap.size)=worA nw Lf):=qH (by rw[rowOf_drew];exact a5.1);have FF:Hid (frOf wc.drew (w4.heap.size)=(0,0)):=qH (by rw[frOf_drew];exact a5.2.1);refine wC (some 42::some 43::some 44::some 45::some 46::some 47::some 48::some 49::some 50::some 51::some 52::some 53::some 54::some 55::some 56::some 57::some 58::some 59::some 60::some 61::some 62::some 63::some 64::some 65::some 66::some 67::some 68::some 69::[]) (.bool true::.bool false::.bool false::.agg (worA x0 L)::iv bad::iv bad::.bool false::.bool false::.bool false::.agg (worA x0 L)::.agg (worA z M)::.bool bs::.agg (worA x0 L)::.agg (worA z M)::.bool bs::.bool false::.bool false::.bool false::iv ne::iv ne::.bool false::.bool false::.bool false::.agg (worA nw Ln)::.agg (worA nw Lf)::.bool true::.bool false::.bool false::[]) 94 ?_ ?_
 ·refine⟨.inl ⟨rfl,?_⟩,.inl ⟨rfl,?_⟩,.inl ⟨rfl,?_⟩,.inl ⟨rfl,?_⟩,.inl ⟨rfl,?_⟩,.inl ⟨rfl,?_⟩,.inl ⟨rfl,?_⟩,.inl ⟨rfl,?_⟩,.inl ⟨rfl,?_⟩,.inl ⟨rfl,?_⟩,.inl ⟨rfl,?_⟩,.inl ⟨rfl,?_⟩,.inl ⟨rfl,?_⟩,.inl ⟨rfl,?_⟩,.inl ⟨rfl,?_⟩,.inl ⟨rfl,?_⟩,.inl ⟨rfl,?_⟩,.inl ⟨rfl,?_⟩,.inl ⟨rfl,?_⟩,.inl ⟨rfl,?_⟩,.inl ⟨rfl,?_⟩,.inl ⟨rfl,?_⟩,.inl ⟨rfl,?_⟩,.inl ⟨rfl,?_⟩,.inl ⟨rfl,?_⟩,.inl ⟨rfl,?_⟩,.inl ⟨rfl,?_⟩,.inl ⟨rfl,?_⟩,trivial⟩;all_goals intro done a wq hw h
  ·exact ch_call (by go_simp) (by go_simp) (KI.out _ ((Below.refl _ _).drew.trans h.bel))
  ·have e1:=cN 0 42 h hw;refine ch_pure ?_;go_simp
  ·have e2:=cN 1 43 h hw;exact ch_move (ch_ev e2)
  ·exact x2vx
  ·have e2:=cN 3 45 h hw;exact ch_call (by go_simp) (by go_simp) (KC.out _ ((Below.refl _ _).drew.trans h.bel))
  ·have e1:=cO 13 (iv bad) h;exact ch_move (ch_ev e1)
  ·have e2:=cN 4 46 h hw;have e47:=cN 5 47 h hw;exact ch_neq_int (by kernel_rfl) (ch_ev e2) (ch_ev e47) (by simp)
  ·have e1:=cN 2 44 h hw;have e48:=cN 6 48 h hw;exact ch_pick_f e1 (ch_ev e48)
  ·have e2:=cN 7 49 h hw;exact ch_move (ch_ev e2)
  ·exact x2vx
  ·have e2:=cO 7 (.pointer (some ⟨W.heap.size+1+1,0,none⟩)) h;have y_:=kq h.bel RB FB;refine ch_pure ?_;go_simp
  ·have e1:=cN 9 51 h hw;have e52:=cN 10 52 h hw;exact ch_call (by go_simp) (by go_simp) (KS.out _ ((Below.refl _ _).drew.trans h.bel))
  ·have e2:=cO 4 (.pointer (some ⟨W.heap.size,0,none⟩)) h;have y_:=kq h.bel RA FA;refine ch_pure ?_;go_simp
  ·have e1:=cO 7 (.pointer (some ⟨W.heap.size+1+1,0,none⟩)) h;have y_:=kq h.bel RB FB;refine ch_pure ?_;go_simp
  ·have e2:=cN 12 54 h hw;have e55:=cN 13 55 h hw;exact ch_call (by go_simp) (by go_simp) (KR.out _ ((Below.refl _ _).drew.trans h.bel))
  ·have e1:=cN 11 53 h hw;have e56:=cN 14 56 h hw;refine ch_pure ?_;go_simp
  ·have e2:=cN 8 50 h hw;have e57:=cN 15 57 h hw;exact ch_pick_f e2 (ch_ev e57)
  ·have e1:=cN 16 58 h hw;exact ch_move (ch_ev e1)
  ·have e2:=cO 10 (iv ne) h;exact ch_move (ch_ev e2)
  ·have e1:=cO 14 (iv ne) h;exact ch_move (ch_ev e1)
  ·have e2:=cN 18 60 h hw;have e61:=cN 19 61 h hw;exact ch_neq_int (by kernel_rfl) (ch_ev e2) (ch_ev e61) (by simp)
  ·have e1:=cN 17 59 h hw;have e62:=cN 20 62 h hw;exact ch_pick_f e1 (ch_ev e62)
  ·have e2:=cN 21 63 h hw;exact ch_move (ch_ev e2)
  ·have e1:=cO 9 (.pointer (some ⟨w1.heap.size,0,none⟩)) h;have y_:=kq h.bel RN FN;refine ch_pure ?_;go_simp
  ·have e2:=cO 15 (.pointer (some ⟨w4.heap.size,0,none⟩)) h;have y_:=kq h.bel RF FF;refine ch_pure ?_;go_simp
  ·have e1:=cN 23 65 h hw;have e66:=cN 24 66 h hw;exact ch_call (by go_simp) (by go_simp) (KN.out _ ((Below.refl _ _).drew.trans h.bel))
  ·have e2:=cN 25 67 h hw;refine ch_pure ?_;go_simp
  ·have e1:=cN 22 64 h hw;have e68:=cN 26 68 h hw;exact ch_pick_f e1 (ch_ev e68)
 intro w6 hb;simp only[pA];have hb:Below wc.heap.size wc w6:=hb;have a6:=keep1 (g:=W.heap.size) (cs:=worA x0 L) hb a6.1 (by first|(go_simp;done)|simp) a6.2.1;have a1:=keep1 (g:=W.heap.size+1) (cs:=#[iv kd,iv n]) hb a1.1 (by first|(go_simp;done)|simp) a1.2.1;have a4:=keep1 (g:=w2.heap.size) (cs:=worA y Ly) hb a4.1 (by first|(go_simp;done)|simp) a4.2.1;have HB4:=bT HB5 hb;have HY1:=qH (HY2.out.stays hb);have hs6:wc.heap.size<=w6.heap.size:=hb.size;clear hb HN1 HY2 HF1 HB5 KI KC KS KR KN hmm hbb hnn RA FA RB FB RN FN RF FF K5;by_cases c:bad≠0
 ·have q:(bad !=0)=true:=by simp[c]
  have hyz:=HY.out;rw[worDo_bad (by rw[HBAD.out];exact c),HBAD.out]at hyz;injection hyz with h1 h2;subst h1 h2;have qq:(bad==bad)=true:=by simp
  have KS:=qH (refWorSame_calls Wor.zero Wor.zero Ly WLoc.zero w6 HY1.out (WorIn.zero _));rw[decide_eq_true rfl]at KS;clear c HY HBAD;go_wp2_with fail;refine KS.out.mono ?_;rintro en w5 ⟨rfl,hb⟩;have HB5:=bT HB4 hb;clear hb;go_wp2_with fail;go_ret;exact⟨rfl,HB5.out⟩
 have c:=Decidable.not_not.1 c;subst c;have q:((0:Int) !=0)=false:=rfl;have hyw:=HY.out;rw[worDo_fine HBAD.out]at hyw;have KH:=qH (refHap_calls (fun q=>q<W.heap.size) x0 L kd n w6 (worCheck_ok.1 HBAD.out) hn ((On.of (P:=fun v=>WorIn v x0 L) fun v h=>HIN.out.stays h).below HB4.out) (HML.out.stays HB4.out));rw[hyw]at KH;clear hyw HY HBAD hn;go_wp2_with fail;refine KH.out.mono ?_;rintro en w5 ⟨L1,rfl,hon,hb⟩;have a4:=keep1 (g:=w2.heap.size) (cs:=worA y Ly) hb a4.1 (by first|(go_simp;done)|simp) a4.2.1;have HB5:=bT HB4 hb;have HY2:=qH (HY1.out.stays hb);have HW1:=qH hon.now;have qq:(f==f)=true:=by simp
 have KS:=qH (fun wq (h:Below w5.heap.size w5 wq)=>refWorSame_calls y y Ly L1 wq (HY2.out.stays h) (HW1.out.stays h));rw[decide_eq_true rfl]at KS;clear hb hon KH;go_wp2_with fail;refine(KS.out _ (bL _)).mono ?_;rintro en w7 ⟨rfl,hb⟩;have HB6:Hid (Below W.heap.size W w7):=qH ((HB5.out.alloc HB5.out.size _).trans (hb.mono (by have:=HB5.out.size;simp;omega)));clear hb;go_wp2_with fail;go_ret;exact⟨rfl,HB6.out⟩
end Go.Proofs.YtefkfglkpebbmabGreat
