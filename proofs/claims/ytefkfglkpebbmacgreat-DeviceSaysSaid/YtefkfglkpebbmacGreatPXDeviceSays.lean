/- The walk of the law DeviceSays. Printed by gen_dsays.py. Condition: the library's variable holds some number. -/
import Derived.Test.YtefkfglkpebbmacGreatP19
set_option linter.unusedVariables false
set_option linter.unusedSimpArgs false
set_option maxRecDepth 100000
set_option maxHeartbeats 40000000
namespace Go.Proofs.YtefkfglkpebbmacGreat
open Go.RowKit
variable {Y:Prop}
theorem x0dk(h:Y:=by
 have e1:=cO 6 (.pointer (some ⟨W.heap.size,0,none⟩)) h;have y_:=kq h.bel RA FA;refine ch_pure ?_;go_simp):Y:=h
theorem x1f3(h:Y:=by
 rw[hyf]at K;have K:=qH K;clear hyf he;go_wp2_with fail;refine(K.out _ (HIN.out.stays HB1.out)).mono ?_;rintro en w7 ⟨Ly,rfl,hf,hb⟩;have z1:=keep1 (g:=gy) (cs:=devA Dev.zero DLoc.zero) hb y0r (by go_simp) y0f;have HY:=qH (YAt.of hf hb y0l (by rw[z1.1,devA_size];decide) z1.2.1);clear hb hf;go_wp2_with fail;go_meet
 case rel=>exact⟨rfl,HY.out⟩):Y:=h
theorem x1kk(h:Y:=by
 intro done cv a wq hn hw hcl h hJ;have e1:=fO 4 (.slice A b.length ca) h;exact mx_move (ch_ev e1)):Y:=h
theorem devActs_bad{d:Dev}(h:devCheck d≠0)(x:Chk){kd:Int}(n:Int)(hk:kd=2∨5<=kd∧kd<=12):devActs d x kd n=(Dev.zero,devCheck d):=by
 have hr:devReady d=devCheck d:=by unfold devReady;rw[if_pos h]
 have hr1:devReady d≠0:=by omega
 unfold devActs devAct;have e1:devHear d x=(Dev.zero,devCheck d):=by unfold devHear;rw[if_pos hr1,hr]
 have e2:devOpen d=(Dev.zero,devCheck d):=by unfold devOpen;rw[if_pos hr1,hr]
 have e3:∀b,devWrite d b n=(Dev.zero,devCheck d):=fun b=>by unfold devWrite;rw[if_pos hr1,hr]
 have e4:∀b,devFinish d b=(Dev.zero,devCheck d):=fun b=>by unfold devFinish;rw[if_pos hr1,hr]
 have e5:devConfirm d=(Dev.zero,devCheck d):=by unfold devConfirm;rw[if_pos hr1,hr]
 have e6:devCrash d=(Dev.zero,devCheck d):=by unfold devCrash;rw[if_pos hr1,hr]
 have e7:devBoot d=(Dev.zero,devCheck d):=by unfold devBoot;rw[if_pos h]
 rw[e1,e2,e3,e3,e4,e4,e5,e6,e7];rcases (show kd=2∨kd=5∨kd=6∨kd=7∨kd=8∨kd=9∨kd=10∨kd=11∨kd=12 by omega)with rfl|rfl|rfl|rfl|rfl|rfl|rfl|rfl|rfl<;>simp
def frJ(w0:World)(nb:Dev)(d:Nat->Bool)(cv:Nat->Value)(w:World):Prop:=
 (d 23=false->w=w0.drew)∧(d 23=true->∃L,cv 23=.agg (devA nb L)∧DevIn w nb L)∧(d 24=true->cv 24=.bool true)∧Below w0.heap.size w0 w
def YAt(w wx:World)(gy:Nat)(y:Dev):Prop:=∃Ly,rowOf wx gy=devA y Ly∧frOf wx gy=(0,0)∧DevIn wx y Ly∧Below gy w wx∧∀k,k<w.heap.size->k≠gy->wx.heap[k]?=w.heap[k]?
theorem YAt.of{w w':World}{gy:Nat}{y:Dev}{Ly:DLoc}(hf:Fresh w.heap.size w' (fun v=>DevIn v y Ly))(hb:Below w.heap.size w w')(hl:gy<w.heap.size)(hr:0<(rowOf w' gy).size)(h0:frOf w' gy=(0,0)):YAt w (w'.setRow gy (devA y Ly)) gy y:=
 ⟨Ly,by rw[rowOf_setRow _ _ _ _ hr,if_pos rfl],by rw[frOf_setRow];exact h0,(hf.row hl _).now,below_row (hb.mono (Nat.le_of_lt hl)) nl _,fun k h1 h2=>(setRow_other _ _ _ _ h2).trans (hb.block k h1)⟩
theorem DeviceSays_walk(W:World)(v0 v1 v2 v3 v4 v5:Value)(d:Dev)(c:Chk)(kz n:Int)(b:LU)(g:Dev)(g0:ArgDev W v0 d)(g1:ArgChk W v1 c)(g2:v2=iv kz∧I64 kz)(g3:v3=iv n∧I64 n)(g4:ArgBytes W v4 b)(g5:ArgDev W v5 g)(hml:ML W):Calls Tryz.prog 3 #[v0,v1,v2,v3,v4,v5] W (RetB W (.bool true)):=by
 obtain⟨L,rfl,hin⟩:=g0;obtain⟨B,e,rfl,hck⟩:=g1;obtain⟨rfl,hz1,hz2⟩:=g2;obtain⟨rfl,hn⟩:=g3;obtain⟨A,ca,rfl,hca,hla,hA⟩:=g4;obtain⟨M,rfl,hgn⟩:=g5;have HML:=qH hml;have HIN:=qH hin;have HCK:=qH hck;have HGN:=qH hgn;have HAB:=qH hA;have HN:=qH hn;have KNW:=qH (fun w h=>devNew_calls A ca b w hla h);have hxe:devNew b=if 64<b.length then (Dev.zero,1)else (newDev b,0):=rfl
 obtain⟨⟨x,xe⟩,hx⟩:∃q,devNew b=q:=⟨_,rfl⟩;rw[hx]at KNW hxe;have HXE:=qH hxe;clear hin hck hgn hA hn hml hx hxe;have HBA:Hid (Below W.heap.size W (((W.alloc (.cells (devA d L) 37)).alloc (.cells (chkA c.from_ c.to_ c.n c.of_ B c.data.length e) 39)).alloc (.cells (devA g M) 37))):=qH (((bL _).alloc (by simp) _).alloc (by simp;omega) _);go_enter Tryz.func3,Tryz.ntmps3;go_wp2_with fail;refine(KNW.out _ (HAB.out.stays HBA.out)).mono ?_;rintro en w1 ⟨Lx,rfl,hf,hb⟩;have a1:=keep1 (g:=W.heap.size) (cs:=devA d L) hb (by first|(go_simp;done)|(go_simp;rfl)) (by first|(go_simp;done)|simp[chkA]) (by go_simp);have b1:=keep1 (g:=(W.heap.size+1)) (cs:=chkA c.from_ c.to_ c.n c.of_ B c.data.length e) hb (by first|(go_simp;done)|(go_simp;rfl)) (by first|(go_simp;done)|simp[chkA]) (by go_simp);have c1:=keep1 (g:=(W.heap.size+2)) (cs:=devA g M) hb (by first|(go_simp;done)|(go_simp;rfl)) (by first|(go_simp;done)|simp[chkA]) (by go_simp);have HB1:=bT HBA hb;have HX1:Hid (DevIn w1 x Lx):=qH hf.now;have hs1:W.heap.size+3<=w1.heap.size:=by have:=hb.size;simp at this;omega
 clear hb hf KNW HBA;have KCR:=qH (fun w h=>refDevCheck_calls d L w h);have KCD:=qH (fun w h=>devCheck_calls d L w h);obtain⟨m,hm⟩:=eX (devCheck d);rw[hm]at KCR KCD;have HM:=qH hm;clear hm;go_upto_region 2 with fail
 obtain⟨w2,hw1⟩:=eX (w1.alloc (.cells (devA x Lx) 37));have hb:Below w1.heap.size w1 w2:=by rw[<-hw1];exact bL _
 have x1:rowOf w2 w1.heap.size=devA x Lx∧frOf w2 w1.heap.size=(0,0):=by rw[<-hw1];exact⟨by rw[rowOf_alloc,if_pos rfl],by rw[frOf_alloc,if_pos rfl]⟩
 have a1:=keep1 (g:=W.heap.size) (cs:=devA d L) hb a1.1 (by first|(go_simp;done)|simp[chkA]) a1.2.1;have b1:=keep1 (g:=(W.heap.size+1)) (cs:=chkA c.from_ c.to_ c.n c.of_ B c.data.length e) hb b1.1 (by first|(go_simp;done)|simp[chkA]) b1.2.1;have c1:=keep1 (g:=(W.heap.size+2)) (cs:=devA g M) hb c1.1 (by first|(go_simp;done)|simp[chkA]) c1.2.1;have x0k:=keep1 (bW w2) x1.1 (by go_simp) x1.2;have HB2:=bT HB1 hb;have HX2:=qH (HX1.out.stays hb);rw[hw1];clear hw1 hb x1 HB1 HX1;go_wp2_with fail;refine(KCR.out _ (HIN.out.stays HB2.out)).mono ?_;rintro en w3 ⟨rfl,hb⟩;have a1:=keep1 (g:=W.heap.size) (cs:=devA d L) hb a1.1 (by first|(go_simp;done)|simp[chkA]) a1.2.1;have b1:=keep1 (g:=(W.heap.size+1)) (cs:=chkA c.from_ c.to_ c.n c.of_ B c.data.length e) hb b1.1 (by first|(go_simp;done)|simp[chkA]) b1.2.1;have c1:=keep1 (g:=(W.heap.size+2)) (cs:=devA g M) hb c1.1 (by first|(go_simp;done)|simp[chkA]) c1.2.1;have x0k:=keep1 (g:=w1.heap.size) (cs:=devA x Lx) hb x0k.1 (by first|(go_simp;done)|simp[chkA]) x0k.2.1;have HB1:=bT HB2 hb;have HX1:=qH (HX2.out.stays hb);clear hb HX2 HB2 KCR;have KI:=qH (fun wq (h:Below w3.heap.size w3 wq)=>installed_calls wq (HML.out.stays (HB1.out.trans (h.mono HB1.out.size))));have KC:=qH (fun wq (h:Below w3.heap.size w3 wq)=>KCD.out wq (HIN.out.stays (HB1.out.trans (h.mono HB1.out.size))));have KS:=qH (fun wq (h:Below w3.heap.size w3 wq)=>devSame_calls d g L M wq (HIN.out.stays (HB1.out.trans (h.mono HB1.out.size))) (HGN.out.stays (HB1.out.trans (h.mono HB1.out.size))));have KR:=qH (fun wq (h:Below w3.heap.size w3 wq)=>refDevSame_calls d g L M wq (HIN.out.stays (HB1.out.trans (h.mono HB1.out.size))) (HGN.out.stays (HB1.out.trans (h.mono HB1.out.size))));generalize decide (d=g)=bs at *
 have hmm:(m !=m)=false:=by simp
 have hbb:(bs !=bs)=false:=by simp
 go_wp2_with fail;have RA:Hid (rowOf w3.drew W.heap.size=devA d L):=qH (by rw[rowOf_drew];exact a1.1);have FA:Hid (frOf w3.drew W.heap.size=(0,0)):=qH (by rw[frOf_drew];exact a1.2.1);have RC:Hid (rowOf w3.drew (W.heap.size+2)=devA g M):=qH (by rw[rowOf_drew];exact c1.1);have FC:Hid (frOf w3.drew (W.heap.size+2)=(0,0)):=qH (by rw[frOf_drew];exact c1.2.1);refine wp_region_chain (by kernel_rfl) (some 27::some 28::some 29::some 30::some 31::some 32::some 33::some 34::some 35::some 36::some 37::some 38::some 39::some 40::some 41::some 42::some 43::[]) (.bool true::.bool false::.bool false::.agg (devA d L)::iv m::iv m::.bool false::.bool false::.bool false::.agg (devA d L)::.agg (devA g M)::.bool bs::.agg (devA d L)::.agg (devA g M)::.bool bs::.bool false::.bool false::[]) 163 rfl rfl (by decide+kernel) (by decide+kernel) (by decide+kernel) rfl ?_ ?_
 ·refine⟨.inl ⟨rfl,?_⟩,.inl ⟨rfl,?_⟩,.inl ⟨rfl,?_⟩,.inl ⟨rfl,?_⟩,.inl ⟨rfl,?_⟩,.inl ⟨rfl,?_⟩,.inl ⟨rfl,?_⟩,.inl ⟨rfl,?_⟩,.inl ⟨rfl,?_⟩,.inl ⟨rfl,?_⟩,.inl ⟨rfl,?_⟩,.inl ⟨rfl,?_⟩,.inl ⟨rfl,?_⟩,.inl ⟨rfl,?_⟩,.inl ⟨rfl,?_⟩,.inl ⟨rfl,?_⟩,.inl ⟨rfl,?_⟩,trivial⟩;all_goals intro done a wq hw h
  ·exact ch_call (by go_simp) (by go_simp) (KI.out _ ((Below.refl _ _).drew.trans h.bel))
  ·have e1:=cN 0 27 h hw;refine ch_pure ?_;go_simp
  ·have e2:=cN 1 28 h hw;exact ch_move (ch_ev e2)
  ·exact x0dk
  ·have e2:=cN 3 30 h hw;exact ch_call (by go_simp) (by go_simp) (KC.out _ ((Below.refl _ _).drew.trans h.bel))
  ·have e1:=cO 15 (iv m) h;exact ch_move (ch_ev e1)
  ·have e2:=cN 4 31 h hw;have e32:=cN 5 32 h hw;exact ch_neq_int (by kernel_rfl) (ch_ev e2) (ch_ev e32) (by simp)
  ·have e1:=cN 2 29 h hw;have e33:=cN 6 33 h hw;exact ch_pick_f e1 (ch_ev e33)
  ·have e2:=cN 7 34 h hw;exact ch_move (ch_ev e2)
  ·exact x0dk
  ·have e2:=cO 11 (.pointer (some ⟨(W.heap.size+2),0,none⟩)) h;have y_:=kq h.bel RC FC;refine ch_pure ?_;go_simp
  ·have e1:=cN 9 36 h hw;have e37:=cN 10 37 h hw;exact ch_call (by go_simp) (by go_simp) (KS.out _ ((Below.refl _ _).drew.trans h.bel))
  ·have e2:=cO 6 (.pointer (some ⟨W.heap.size,0,none⟩)) h;have y_:=kq h.bel RA FA;refine ch_pure ?_;go_simp
  ·have e1:=cO 11 (.pointer (some ⟨(W.heap.size+2),0,none⟩)) h;have y_:=kq h.bel RC FC;refine ch_pure ?_;go_simp
  ·have e2:=cN 12 39 h hw;have e40:=cN 13 40 h hw;exact ch_call (by go_simp) (by go_simp) (KR.out _ ((Below.refl _ _).drew.trans h.bel))
  ·have e1:=cN 11 38 h hw;have e41:=cN 14 41 h hw;refine ch_pure ?_;go_simp
  ·have e2:=cN 8 35 h hw;have e42:=cN 15 42 h hw;exact ch_pick_f e2 (ch_ev e42)
 intro w4 hb;simp only[putAll_some,putAll_none,putAll_nil,List.setIfInBounds_toArray,List.set_cons_zero,List.set_cons_succ];have hb:Below w3.heap.size w3 w4:=hb;have a1:=keep1 (g:=W.heap.size) (cs:=devA d L) hb a1.1 (by first|(go_simp;done)|simp[chkA]) a1.2.1;have b1:=keep1 (g:=(W.heap.size+1)) (cs:=chkA c.from_ c.to_ c.n c.of_ B c.data.length e) hb b1.1 (by first|(go_simp;done)|simp[chkA]) b1.2.1;have c1:=keep1 (g:=(W.heap.size+2)) (cs:=devA g M) hb c1.1 (by first|(go_simp;done)|simp[chkA]) c1.2.1;have x0k:=keep1 (g:=w1.heap.size) (cs:=devA x Lx) hb x0k.1 (by first|(go_simp;done)|simp[chkA]) x0k.2.1;have HB2:=bT HB1 hb;have HX2:=qH (HX1.out.stays hb);clear hb HX1 HB1 KI KC KS KR hmm hbb RA FA RC FC KCD;go_upto_region 5 with fail
 go_cut [72] (fun v wx=>v=.bool false∧Hid (Below w4.heap.size w4 wx))
 case first=>
  clear a1 b1 c1 hs1;by_cases h3:64<b.length
  ·have hxz:=HXE.out.trans (if_pos h3);obtain⟨rfl,rfl⟩:x=Dev.zero∧xe=1:=by injection hxz with h1 h2;exact⟨h1,h2⟩
   have q1:((b.length:Int)<=64)=False:=by simp;omega
   have q2:decide ((b.length:Int)<=64)=false:=decide_eq_false (by omega);have q3:decide ((64:Int)<(b.length:Int))=true:=decide_eq_true (by omega);have KS:=qH (fun wq (h:Below w4.heap.size w4 wq)=>refDevSame_calls Dev.zero Dev.zero Lx DLoc.zero wq (HX2.out.stays h) (DevIn.zero wq));rw[decide_eq_true rfl]at KS;go_wp2_with fail;have RX:Hid (rowOf w4.drew w1.heap.size=devA Dev.zero Lx):=qH (by rw[rowOf_drew];exact x0k.1);have FX:Hid (frOf w4.drew w1.heap.size=(0,0)):=qH (by rw[frOf_drew];exact x0k.2.1);refine wp_region_chain (by kernel_rfl) (some 44::some 45::some 46::some 47::some 48::some 49::some 50::some 51::some 52::some 53::some 54::some 55::some 56::some 57::some 58::some 59::some 60::some 61::some 62::some 63::some 64::some 65::some 66::some 67::some 68::some 69::some 70::some 71::some 72::[]) (.slice A b.length ca::iv (b.length:Int)::.bool true::.bool true::iv 1::.bool false::.bool false::.agg (devA Dev.zero Lx)::.agg (devA Dev.zero DLoc.zero)::.bool true::.bool false::.bool false::.bool false::.bool false::.slice A b.length ca::iv (b.length:Int)::.bool false::.bool false::undef::undef::undef::undef::undef::undef::undef::undef::undef::.bool false::.bool false::[]) 163 rfl rfl (by decide+kernel) (by decide+kernel) (by decide+kernel) rfl ?_ ?_
   ·refine⟨.inl ⟨rfl,?_⟩,.inl ⟨rfl,?_⟩,.inl ⟨rfl,?_⟩,.inl ⟨rfl,?_⟩,.inl ⟨rfl,?_⟩,.inl ⟨rfl,?_⟩,.inl ⟨rfl,?_⟩,.inl ⟨rfl,?_⟩,.inl ⟨rfl,?_⟩,.inl ⟨rfl,?_⟩,.inl ⟨rfl,?_⟩,.inl ⟨rfl,?_⟩,.inl ⟨rfl,?_⟩,.inl ⟨rfl,?_⟩,.inl ⟨rfl,?_⟩,.inl ⟨rfl,?_⟩,.inl ⟨rfl,?_⟩,.inl ⟨rfl,?_⟩,.inr ⟨rfl,rfl⟩,.inr ⟨rfl,rfl⟩,.inr ⟨rfl,rfl⟩,.inr ⟨rfl,rfl⟩,.inr ⟨rfl,rfl⟩,.inr ⟨rfl,rfl⟩,.inr ⟨rfl,rfl⟩,.inr ⟨rfl,rfl⟩,.inr ⟨rfl,rfl⟩,.inl ⟨rfl,?_⟩,.inl ⟨rfl,?_⟩,trivial⟩;all_goals intro done a wq hw h
    ·have e1:=cO 4 (.slice A b.length ca) h;exact ch_move (ch_ev e1)
    ·have e2:=cN 0 44 h hw;refine ch_pure ?_;go_simp
    ·have e1:=cN 1 45 h hw;refine ch_pure ?_;go_simp
    ·have e2:=cN 2 46 h hw;exact ch_move (ch_ev e2)
    ·have e1:=cO 14 (iv 1) h;exact ch_move (ch_ev e1)
    ·have e2:=cN 4 48 h hw;exact ch_neq_int (by kernel_rfl) (ch_ev e2) rfl (by simp)
    ·have e1:=cN 5 49 h hw;exact ch_move (ch_ev e1)
    ·have e2:=cO 13 (.pointer (some ⟨w1.heap.size,0,none⟩)) h;have y_:=kq h.bel RX FX;refine ch_pure ?_;go_simp
    ·refine ch_pure ?_;first|(go_simp;done)|(go_simp;rfl)
    ·have e1:=cN 7 51 h hw;have e52:=cN 8 52 h hw;exact ch_call (by go_simp) (by go_simp) (KS.out _ ((Below.refl _ _).drew.trans h.bel))
    ·have e2:=cN 9 53 h hw;refine ch_pure ?_;go_simp
    ·have e1:=cN 6 50 h hw;have e54:=cN 10 54 h hw;exact ch_pick_f e1 (ch_ev e54)
    ·have e2:=cN 3 47 h hw;have e55:=cN 11 55 h hw;exact ch_pick_t e2 (ch_ev e55)
    ·have e1:=cN 12 56 h hw;exact ch_move (ch_ev e1)
    ·have e2:=cO 4 (.slice A b.length ca) h;exact ch_move (ch_ev e2)
    ·have e1:=cN 14 58 h hw;refine ch_pure ?_;go_simp
    ·have e2:=cN 15 59 h hw;refine ch_pure ?_;go_simp
    ·have e1:=cN 16 60 h hw;exact ch_move (ch_ev e1)
    ·have e2:=cN 17 61 h hw;exact ch_pick_f e2 rfl
    ·have e1:=cN 13 57 h hw;have e71:=cN 27 71 h hw;exact ch_pick_f e1 (ch_ev e71)
   intro w5 hb;simp only[putAll_some,putAll_none,putAll_nil,List.setIfInBounds_toArray,List.set_cons_zero,List.set_cons_succ];have HB1:Hid (Below w4.heap.size w4 w5):=qH hb;clear hb;go_wp2_with fail;go_meet
   case rel=>exact⟨rfl,HB1⟩
  have hxz:=HXE.out.trans (if_neg h3);obtain⟨rfl,rfl⟩:x=newDev b∧xe=0:=by injection hxz with h1 h2;exact⟨h1,h2⟩
  have q1:decide ((b.length:Int)<=64)=true:=decide_eq_true (by omega);have q2:decide ((64:Int)<(b.length:Int))=false:=decide_eq_false (by omega);have KF:=qH (fun wq (h:Below w4.heap.size w4 wq)=>refFresh_calls A ca b wq (by omega) (HAB.out.stays (HB2.out.trans (h.mono HB2.out.size))));have KS:=qH (fun wq Ly (h:Below w4.heap.size w4 wq) (hy:DevIn wq (newDev b) Ly)=>refDevSame_calls (newDev b) (newDev b) Lx Ly wq (HX2.out.stays h) hy);rw[decide_eq_true rfl]at KS;generalize newDev b=nb at *
  clear h3 hxz;go_wp2_with fail;refine wp_region_freeG (by kernel_rfl) (some 44::some 45::some 46::some 47::some 48::some 49::some 50::some 51::some 52::some 53::some 54::some 55::some 56::some 57::some 58::some 59::some 60::some 61::some 62::some 63::some 64::some 65::some 66::some 67::some 68::some 69::some 70::some 71::some 72::[]) (false::false::false::false::false::false::false::false::false::false::false::false::false::false::false::false::false::false::false::false::false::false::false::true::true::false::false::false::false::[]) (.slice A b.length ca::iv (b.length:Int)::.bool false::.bool false::undef::undef::undef::undef::undef::undef::undef::undef::.bool false::.bool false::.slice A b.length ca::iv (b.length:Int)::.bool true::.bool true::iv 0::.bool false::.bool false::.agg (devA nb Lx)::.slice A b.length ca::undef::undef::.bool false::.bool false::.bool false::.bool false::[]) (frJ w4 nb) 163 rfl rfl (by decide+kernel) (by decide+kernel) (by decide+kernel) rfl rfl ⟨fun _=>rfl,fun h=>absurd h (by decide),fun h=>absurd h (by decide),(Below.refl _ _).drew⟩ ?_ ?_
  ·refine⟨.inl ⟨rfl,?_⟩,?_⟩
   ·exact x1kk
   refine⟨.inl ⟨rfl,?_⟩,?_⟩
   ·intro done cv a wq hn hw hcl h hJ;have e1:=fN 0 44 h hw;go_simp
   refine⟨.inl ⟨rfl,?_⟩,?_⟩
   ·intro done cv a wq hn hw hcl h hJ;have e1:=fN 1 45 h hw;go_simp
   refine⟨.inl ⟨rfl,?_⟩,?_⟩
   ·intro done cv a wq hn hw hcl h hJ;have e1:=fN 2 46 h hw;exact mx_move (ch_ev e1)
   refine⟨.inr ⟨rfl,rfl,rfl⟩,?_⟩;refine⟨.inr ⟨rfl,rfl,rfl⟩,?_⟩;refine⟨.inr ⟨rfl,rfl,rfl⟩,?_⟩;refine⟨.inr ⟨rfl,rfl,rfl⟩,?_⟩;refine⟨.inr ⟨rfl,rfl,rfl⟩,?_⟩;refine⟨.inr ⟨rfl,rfl,rfl⟩,?_⟩;refine⟨.inr ⟨rfl,rfl,rfl⟩,?_⟩;refine⟨.inr ⟨rfl,rfl,rfl⟩,?_⟩;refine⟨.inl ⟨rfl,?_⟩,?_⟩
   ·intro done cv a wq hn hw hcl h hJ;have e1:=fN 3 47 h hw;exact mx_pick_f e1 rfl
   refine⟨.inl ⟨rfl,?_⟩,?_⟩
   ·intro done cv a wq hn hw hcl h hJ;have e1:=fN 12 56 h hw;exact mx_move (ch_ev e1)
   refine⟨.inl ⟨rfl,?_⟩,?_⟩
   ·exact x1kk
   refine⟨.inl ⟨rfl,?_⟩,?_⟩
   ·intro done cv a wq hn hw hcl h hJ;have e1:=fN 14 58 h hw;go_simp
   refine⟨.inl ⟨rfl,?_⟩,?_⟩
   ·intro done cv a wq hn hw hcl h hJ;have e1:=fN 15 59 h hw;go_simp
   refine⟨.inl ⟨rfl,?_⟩,?_⟩
   ·intro done cv a wq hn hw hcl h hJ;have e1:=fN 16 60 h hw;exact mx_move (ch_ev e1)
   refine⟨.inl ⟨rfl,?_⟩,?_⟩
   ·intro done cv a wq hn hw hcl h hJ;have e1:=fO 14 (iv 0) h;exact mx_move (ch_ev e1)
   refine⟨.inl ⟨rfl,?_⟩,?_⟩
   ·intro done cv a wq hn hw hcl h hJ;have e1:=fN 18 62 h hw;go_simp
   refine⟨.inl ⟨rfl,?_⟩,?_⟩
   ·intro done cv a wq hn hw hcl h hJ;have e1:=fN 19 63 h hw;exact mx_move (ch_ev e1)
   refine⟨.inl ⟨rfl,?_⟩,?_⟩
   ·intro done cv a wq hn hw hcl h hJ;have e1:=fO 13 (.pointer (some ⟨w1.heap.size,0,none⟩)) h;have y_:=keep1 hJ.2.2.2 x0k.1 (by go_simp) x0k.2.1;go_simp
   refine⟨.inl ⟨rfl,?_⟩,?_⟩
   ·exact x1kk
   refine⟨.inl ⟨rfl,?_⟩,?_⟩
   ·intro done cv a wq hn hw hcl h hJ;have e1:=fN 22 66 h hw;have n1:=hn;have n2:=nW 24 23 hcl n1;obtain rfl:wq=w4.drew:=hJ.1 (by simp[maskB,n1]);refine wp_call (vals:=#[.slice A b.length ca]) (by rw[List.map_toArray,List.map_cons,List.map_nil,ch_ev e1]) (enters_of Tryz.func10 (by kernel_rfl) rfl _ _) (KF.out _ ((Below.refl _ _).drew)) ?_;rintro e w' ⟨Ly,rfl,hy,hb⟩;exact⟨_,rfl,_,rfl,fun h=>absurd h (by simp),fun _=>⟨Ly,by simp,hy.now⟩,fun h=>absurd h (by simp[maskB,n2]),(Below.refl _ _).drew.trans hb⟩
   refine⟨.inl ⟨rfl,?_⟩,?_⟩
   ·intro done cv a wq hn hw hcl h hJ;have e1:=fN 21 65 h hw;have e2:=fr_cv (i:=23) (t:=67) h (hw 23 (by decide)) rfl rfl;have n1:=hn;have m1:=hw 23 (by decide);obtain⟨Ly,y,hy⟩:=hJ.2.1 (by simp[maskB,m1]);rw[y]at e2;refine wp_call (vals:=#[.agg (devA nb Lx),.agg (devA nb Ly)]) (by rw[List.map_toArray,List.map_cons,List.map_cons,List.map_nil,ch_ev e1,ch_ev e2]) (enters_of Tryz.func9 (by kernel_rfl) rfl _ _) (KS.out _ Ly hJ.2.2.2 hy) ?_;rintro e w' ⟨rfl,hb⟩;exact⟨_,rfl,_,rfl,fun h=>absurd h (by simp[maskB,m1]),fun _=>⟨Ly,by simpa using y,hy.stays hb⟩,fun _=>by simp,hJ.2.2.2.trans (hb.mono hJ.2.2.2.size)⟩
   refine⟨.inl ⟨rfl,?_⟩,?_⟩
   ·intro done cv a wq hn hw hcl h hJ;have e1:=fr_cv (i:=24) (t:=68) h (hw 24 (by decide)) rfl rfl;have m1:=hw 24 (by decide);rw[hJ.2.2.1 (by simp[maskB,m1])]at e1;go_simp
   refine⟨.inl ⟨rfl,?_⟩,?_⟩
   ·intro done cv a wq hn hw hcl h hJ;have e1:=fN 20 64 h hw;have e2:=fN 25 69 h hw;exact mx_pick_f e1 (ch_ev e2)
   refine⟨.inl ⟨rfl,?_⟩,?_⟩
   ·intro done cv a wq hn hw hcl h hJ;have e1:=fN 17 61 h hw;have e2:=fN 26 70 h hw;exact mx_pick_t e1 (ch_ev e2)
   refine⟨.inl ⟨rfl,?_⟩,?_⟩
   ·intro done cv a wq hn hw hcl h hJ;have e1:=fN 13 57 h hw;have e2:=fN 27 71 h hw;exact mx_pick_f e1 (ch_ev e2)
   exact trivial
  intro dn cv w5 hall hJ;simp only[freeAll,putAll_some,putAll_none,putAll_nil,List.getD_cons_zero,List.getD_cons_succ,Bool.false_eq_true,if_true,if_false,reduceIte,Nat.zero_add,Nat.reduceAdd,List.setIfInBounds_toArray,List.set_cons_zero,List.set_cons_succ];have HB1:Hid (Below w4.heap.size w4 w5):=qH hJ.2.2.2;clear hJ hall;go_wp2_with fail;go_meet
  case rel=>exact⟨rfl,HB1⟩
 case rest=>
 obtain⟨rfl,hb⟩:=hcut;have a1:=keep1 (g:=W.heap.size) (cs:=devA d L) hb.out a1.1 (by first|(go_simp;done)|simp[chkA]) a1.2.1;have b1:=keep1 (g:=(W.heap.size+1)) (cs:=chkA c.from_ c.to_ c.n c.of_ B c.data.length e) hb.out b1.1 (by first|(go_simp;done)|simp[chkA]) b1.2.1;have c1:=keep1 (g:=(W.heap.size+2)) (cs:=devA g M) hb.out c1.1 (by first|(go_simp;done)|simp[chkA]) c1.2.1;have HB1:=bT HB2 hb.out;have hs2:W.heap.size+3<=wc.heap.size:=by have:=hb.out.size;have:=HB1.out.size;omega
 clear hb HX2 HB2 x0k HXE;have hk1:=Int.emod_nonneg kz (show (9:Int)≠0 by omega);have hk2:=Int.emod_lt_of_pos kz (show (0:Int)<9 by omega);have KAT:=qH (fun w=>at2_calls kz 9 w hz1 hz2 (by omega) (by omega));obtain⟨k,hk⟩:∃k:Nat,kz%9=(k:Int):=⟨(kz%9).toNat,by omega⟩;rw[hk]at KAT;have hk2:k<9:=by omega
 obtain⟨KD,hKD⟩:∃KD:Array Value,#[iv 2,iv 5,iv 6,iv 7,iv 8,iv 9,iv 10,iv 11,iv 12]=KD:=⟨_,rfl⟩;obtain⟨kd,hkd,hkr⟩:∃kd:Int,KD[k]?=some (iv kd)∧(kd=2∨5<=kd∧kd<=12):=by
  rw[<-hKD]
  match k,hk2 with
  |0,_=>exact⟨2,rfl,by omega⟩
  |1,_=>exact⟨5,rfl,by omega⟩
  |2,_=>exact⟨6,rfl,by omega⟩
  |3,_=>exact⟨7,rfl,by omega⟩
  |4,_=>exact⟨8,rfl,by omega⟩
  |5,_=>exact⟨9,rfl,by omega⟩
  |6,_=>exact⟨10,rfl,by omega⟩
  |7,_=>exact⟨11,rfl,by omega⟩
  |8,_=>exact⟨12,rfl,by omega⟩
 have HKD:=qH hkd;have HKR:=qH hkr;have HKE:=qH hKD;have hksz:KD.size=9:=by rw[<-hKD];rfl
 clear hkd hkr hk hk1;clear hKD;go_wp2_with fail;rw[HKE.out];obtain⟨w6,hw1⟩:=eX (wc.alloc (.cells KD 3));have hb:Below wc.heap.size wc w6:=by rw[<-hw1];exact bL _
 have k1:rowOf w6 wc.heap.size=KD∧frOf w6 wc.heap.size=(0,0):=by rw[<-hw1];exact⟨by rw[rowOf_alloc,if_pos rfl],by rw[frOf_alloc,if_pos rfl]⟩
 have a1:=keep1 (g:=W.heap.size) (cs:=devA d L) hb a1.1 (by first|(go_simp;done)|simp[chkA]) a1.2.1;have b1:=keep1 (g:=(W.heap.size+1)) (cs:=chkA c.from_ c.to_ c.n c.of_ B c.data.length e) hb b1.1 (by first|(go_simp;done)|simp[chkA]) b1.2.1;have c1:=keep1 (g:=(W.heap.size+2)) (cs:=devA g M) hb c1.1 (by first|(go_simp;done)|simp[chkA]) c1.2.1;obtain⟨k0r,k0f,k0n,k0c,k0z,k0l⟩:=keep1 (bW w6) k1.1 (by omega) k1.2;have HB2:=bT HB1 hb;have hs3:wc.heap.size<w6.heap.size:=k0l;rw[hw1];clear hw1 hb k1 HB1;refine(KAT.out _).mono ?_;rintro en w5 ⟨rfl,rfl⟩;have hp:=k0c k;rw[HKD.out]at hp;have i1:(0:Int)<=(k:Int):=by omega
 have i2:(k:Int)<9:=by omega
 have i3:¬(9:Int)<=(k:Int):=by omega
 clear k0r k0c k0f KAT;go_upto_region 9 with fail
 obtain⟨w8,hw1⟩:=eX (w6.alloc (.cells (devA Dev.zero DLoc.zero) 37));have hb:Below w6.heap.size w6 w8:=by rw[<-hw1];exact bL _
 have y3:rowOf w8 w6.heap.size=devA Dev.zero DLoc.zero∧frOf w8 w6.heap.size=(0,0):=by rw[<-hw1];exact⟨by rw[rowOf_alloc,if_pos rfl],by rw[frOf_alloc,if_pos rfl]⟩
 have a1:=keep1 (g:=W.heap.size) (cs:=devA d L) hb a1.1 (by first|(go_simp;done)|simp[chkA]) a1.2.1;have b1:=keep1 (g:=(W.heap.size+1)) (cs:=chkA c.from_ c.to_ c.n c.of_ B c.data.length e) hb b1.1 (by first|(go_simp;done)|simp[chkA]) b1.2.1;have c1:=keep1 (g:=(W.heap.size+2)) (cs:=devA g M) hb c1.1 (by first|(go_simp;done)|simp[chkA]) c1.2.1;obtain⟨y0r,y0f,y0n,y0c,y0z,y0l⟩:=keep1 (bW w8) y3.1 (by go_simp) y3.2;have HB1:=bT HB2 hb;rw[hw1];obtain⟨gy,hgy⟩:=eX (w6.heap.size);rw[hgy]at y0r y0f y0n y0c y0z y0l hs3⊢;clear hw1 hb y3 HB2 hgy hp k0n k0z k0l;obtain⟨⟨y,f⟩,hyf⟩:∃q,devActs d c kd n=q:=⟨_,rfl⟩;have HYF:=qH hyf;clear hyf;go_cut [17] (fun v wx=>v=iv 0∧w8=wx)
 case first=>
  exact x3dq
 case rest=>
 obtain⟨rfl,rfl⟩:=hcut
 apply_assumption
 refine wp_seq_k (fun K9 hK9=>?_);go_cut [17] (fun v wx=>v=iv f∧YAt w8 wx gy y)
 case first=>
  rcases (show kd=2∨kd=5∨kd=6∨kd=7∨kd=8∨kd=9∨kd=10∨kd=11∨kd=12 by have:=HKR.out;omega)with rfl|rfl|rfl|rfl|rfl|rfl|rfl|rfl|rfl
  ·have he:devActs d c 2 n=devHear d c:=by simp[devActs,devAct]
   have hyf:=HYF.out;rw[he]at hyf;have K:=fun w h h2=>devHear_calls d L c B e w h h2;rw[hyf]at K;have K:=qH K;clear hyf he;go_wp2_with fail;refine(K.out _ (HIN.out.stays HB1.out) (HCK.out.stays HB1.out)).mono ?_;rintro en w7 ⟨Ly,rfl,hf,hb⟩;have z1:=keep1 (g:=gy) (cs:=devA Dev.zero DLoc.zero) hb y0r (by go_simp) y0f;have HY:=qH (YAt.of hf hb y0l (by rw[z1.1,devA_size];decide) z1.2.1);clear hb hf;go_wp2_with fail;go_meet
   case rel=>exact⟨rfl,HY.out⟩
  ·have he:devActs d c 5 n=devOpen d:=by simp[devActs,devAct]
   have hyf:=HYF.out;rw[he]at hyf;have K:=fun w h=>devOpen_calls d L w h;exact x1f3
  ·have he:devActs d c 6 n=devWrite d false n:=by simp[devActs,devAct]
   have hyf:=HYF.out;rw[he]at hyf;have K:=fun w h=>devWrite_calls d L false n w h;exact x1f3
  ·have he:devActs d c 7 n=devFinish d false:=by simp[devActs,devAct]
   have hyf:=HYF.out;rw[he]at hyf;have K:=fun w h=>devFinish_calls d L false w h;exact x1f3
  ·have he:devActs d c 8 n=devConfirm d:=by simp[devActs,devAct]
   have hyf:=HYF.out;rw[he]at hyf;have K:=fun w h=>devConfirm_calls d L w h;exact x1f3
  ·have he:devActs d c 9 n=devCrash d:=by simp[devActs,devAct]
   have hyf:=HYF.out;rw[he]at hyf;have K:=fun w h=>devCrash_calls d L w h;exact x1f3
  ·have he:devActs d c 10 n=devBoot d:=by simp[devActs,devAct]
   have hyf:=HYF.out;rw[he]at hyf;have K:=fun w h=>devBoot_calls d L w h;exact x1f3
  ·have he:devActs d c 11 n=devWrite d true n:=by simp[devActs,devAct]
   have hyf:=HYF.out;rw[he]at hyf;have K:=fun w h=>devWrite_calls d L true n w h;exact x1f3
  have he:devActs d c 12 n=devFinish d true:=by simp[devActs,devAct]
  have hyf:=HYF.out;rw[he]at hyf;have K:=fun w h=>devFinish_calls d L true w h;exact x1f3
 case rest=>
 obtain⟨rfl,Ly,y1,y2,hyin,hby,hk1⟩:=hcut;have HB2:Hid (Below W.heap.size W wc):=qH (HB1.out.trans ((hby).mono (by omega)));have a1:=keepH (hk1 _ (by omega) (by omega)) a1.1 (by go_simp) a1.2.1;have b1:=keepH (hk1 _ (by omega) (by omega)) b1.1 (by simp[chkA]) b1.2.1;obtain⟨y0r,y0f,y0n,y0c,y0z,y0l⟩:=keep1 (bW wc) y1 (by go_simp) y2;have HYI:=qH hyin;clear hby hk1 y1 y2 hyin c1 HB1;by_cases hz:m=0
 case neg=>
  have he:=devActs_bad (d:=d) (by rw[HM.out];exact hz) c n HKR.out;rw[HM.out,HYF.out]at he;obtain⟨rfl,rfl⟩:y=Dev.zero∧f=m:=by injection he with h1 h2;exact⟨h1,h2⟩
  have q:(f !=0)=true:=by simp[hz]
  have KS:=qH (fun wq (h:Below wc.heap.size wc wq)=>refDevSame_calls Dev.zero Dev.zero Ly DLoc.zero wq (HYI.out.stays h) (DevIn.zero wq));rw[decide_eq_true rfl]at KS;clear he hz HYF;go_wp2_with fail;refine(KS.out _ (by repeat (first|exact Below.refl _ _|refine bA ?_ _))).mono ?_;rintro en w7 ⟨rfl,hb⟩;have HB1:=bU HB2 hb;clear hb;go_wp2_with fail;go_ret;refine⟨rfl,?_⟩;exact bZ HB1
 subst hz;have hok:=devCheck_ok.1 HM.out;have KA:=qH (fun wq (h:Below wc.heap.size wc wq)=>acts_calls (fun k=>k<wq.heap.size) d L kd n c B e wq HKR.out hok HN.out (On.of fun v hv=>(HIN.out.stays (HB2.out.trans (h.mono HB2.out.size))).stays hv) (On.of fun v hv=>(HCK.out.stays (HB2.out.trans (h.mono HB2.out.size))).stays hv));rw[HYF.out]at KA;clear hok;go_wp2_with fail;refine(KA.out _ (by repeat (first|exact Below.refl _ _|refine bA ?_ _))).mono ?_;rintro en w10 ⟨L1,rfl,hon,hb⟩;have hb2:Below wc.heap.size wc w10:=Below.trans (by repeat (first|exact Below.refl _ _|refine bA ?_ _)) (hb.mono (by first|omega|(simp<;>omega)));obtain⟨y0r,y0f,y0n,y0c,y0z,y0l⟩:=keep1 (g:=gy) (cs:=devA y Ly) hb2 y0r (by go_simp) y0f;have HB1:=bT HB2 hb2;have H1:=qH hon.now;have HYI:=qH (HYI.out.stays hb2);clear hb hb2 hon KA HB2;have KS:=qH (fun wq (h:Below w10.heap.size w10 wq)=>refDevSame_calls y y Ly L1 wq (HYI.out.stays h) (H1.out.stays h));rw[decide_eq_true rfl]at KS;go_wp2_with fail;refine(KS.out _ (by repeat (first|exact Below.refl _ _|refine bA ?_ _))).mono ?_;rintro en w7 ⟨rfl,hb⟩;have HB2:=bU HB1 hb;clear hb;go_wp2_with fail;go_ret;refine⟨rfl,?_⟩;exact bZ HB2
end Go.Proofs.YtefkfglkpebbmacGreat
