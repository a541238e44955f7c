/- Walks. No conditions. -/
import Derived.Test.YtefkfglkpebbmabGreatPE3
import Derived.Test.YtefkfglkpebbmabGreatP10
set_option linter.all false
set_option maxRecDepth 100000
set_option maxHeartbeats 0
namespace Go.Proofs.YtefkfglkpebbmabGreat
open Go.RowKit
variable {Y:Prop}
variable {w:World} {c:Nat}
theorem x0n2(h:Y:=by
 unfold devWrite;rw[if_neg (by omega),if_pos h]):Y:=h
theorem x1za(h:Y:=by
 have hlt:dn+k<(room b').length:=by omega
 obtain⟨x,hx⟩:=eX ((room b')[dn+k]);have hps:=putU_succ (sl:=sl) hlt (by omega);rw[hx]at hps;have HPS:=qH hps;have hgx:(room b')[dn+k]?=some x:=by rw[<-hx];exact List.getElem?_eq_getElem hlt
 have HGX:=qH hgx;have hwr:IntKind.i64.wrap ((dn:Int)+(k:Int))=(dn:Int)+(k:Int):=IntWalk.i64_in _ (by omega);have hj4:(0:Int)<=(dn:Int)+(k:Int):=by omega
 have hj1:(dn:Int)+(k:Int)<64:=by omega
 have hj2:((dn:Int)+(k:Int)).toNat=dn+k:=by omega
 have hj3:¬(64:Int)<=(dn:Int)+(k:Int):=by omega
 have hoc:=HO.out.cellAt (dn+k) (by omega);have hof:=HO.out.frozenAt (dn+k);have hol:g3<wr.heap.size:=(HO.out.block g3 rfl).2;have HOC:Hid (∃u,wr.cell? ⟨g3,dn+k,none⟩=some u):=qH (by
  rw[hoc];exact⟨_,List.getElem?_eq_getElem (by rw[List.length_map,putU_len (by omega) (by omega),hsl];omega)⟩)
 have HOF:=qH hof;have HBr:=qH (HBB.out.stays HX.out);have RD:Hid (rowOf wr w.heap.size=devA d L∧frOf wr w.heap.size=(0,0)):=qH (by
  obtain⟨q1,q2,_⟩:=keep1 (g:=w.heap.size) (cs:=devA d L) HX.out RA.out.1 (by go_simp) RA.out.2;exact⟨q1,q2⟩)
 have HL1:Hid (b'.length<=64):=qH hb1;clear hx hps hgx hoc hof;go_wp2_with fail;refine wM (some 193::some 194::some 195::some 196::some 197::some 198::some 199::some 200::some 201::some 202::some 203::some 204::some 205::some 206::none::[]) (none::none::none::none::none::none::some 0::none::none::none::none::some 1::some 2::none::some 3::[]) (.slice (some ⟨g3,0,none⟩) 64 c7::.pointer (some ⟨w.heap.size,36,none⟩)::iv d.done::iv (k:Int)::iv ((dn:Int)+(k:Int))::.slice A5 b'.length c5'::undef::.pointer (some ⟨w.heap.size,36,none⟩)::iv d.done::iv (k:Int)::iv ((dn:Int)+(k:Int))::undef::undef::.pointer (some ⟨g3,dn+k,none⟩)::undef::[]) 4 (wtJ wr (room b') g3 (dn+k) x) 327 (rfl) ?_ ?_
 ·refine⟨?_,?_,?_,?_,?_,?_,?_,?_,?_,?_,?_,?_,?_,?_,?_,trivial⟩
  ·intro done cv k1 a wq hw h hJ hn;have e1:=mO 22 (.slice (some ⟨g3,0,none⟩) 64 c7) h;exact mx_move (ch_ev e1)
  ·intro done cv k2 a wq hw h hJ hn;have e1:=mO 3 (.pointer (some ⟨w.heap.size,0,none⟩)) h;go_simp
  ·intro done cv k1 a wq hw h hJ hn;have e1:=mN 1 194 h hw;have hk_:=hn 14 _ 3 rfl rfl (by decide);have y_:=keep1 (wtJ_bel hk_ hJ) RD.out.1 (by go_simp) RD.out.2;go_simp
  ·intro done cv k2 a wq hw h hJ hn;have e1:=mO 23 (iv (k:Int)) h;exact mx_move (ch_ev e1)
  ·intro done cv k1 a wq hw h hJ hn;have e1:=mN 2 195 h hw;have e196:=mN 3 196 h hw;go_simp
  ·intro done cv k2 a wq hw h hJ hn;have e1:=mO 19 (.slice A5 b'.length c5') h;exact mx_move (ch_ev e1)
  ·intro done cv a wq hw h hJ;have e1:=mN 5 198 h hw;obtain rfl:wq=wr.drew:=hJ;refine wp_call (vals:=#[.slice A5 b'.length c5']) (by rw[List.map_toArray,List.map_cons,List.map_nil,ch_ev e1]) (enters_of Tryz.func24 (by kernel_rfl) rfl _ _) (filled_calls A5 c5' b' _ HL1.out (HBr.out.stays (Below.refl _ _).drew)) ?_;rintro e w' ⟨A3,c5,rfl,hown,hbel⟩;exact⟨_,rfl,_,rfl,A3,c5,by simp,hown.src.bts,(Below.refl _ _).drew.trans hbel⟩
  ·intro done cv k1 a wq hw h hJ hn;have e1:=mO 3 (.pointer (some ⟨w.heap.size,0,none⟩)) h;go_simp
  ·intro done cv k2 a wq hw h hJ hn;have e1:=mN 7 200 h hw;have hk_:=hn 14 _ 3 rfl rfl (by decide);have y_:=keep1 (wtJ_bel hk_ hJ) RD.out.1 (by go_simp) RD.out.2;go_simp
  ·intro done cv k1 a wq hw h hJ hn;have e1:=mO 23 (iv (k:Int)) h;exact mx_move (ch_ev e1)
  ·intro done cv k2 a wq hw h hJ hn;have e1:=mN 8 201 h hw;have e202:=mN 9 202 h hw;go_simp
  ·intro done cv a wq hw h hJ;have e1:=mx_cv (i:=6) (t:=199) h (hw 6 (by decide)) rfl rfl;have e203:=mN 10 203 h hw;obtain⟨A3,c5,y1,g1,g2⟩:=hJ;rw[y1]at e1;have hgx:=HGX.out;obtain⟨bb,oo,rfl,hll,hcc⟩:=g1 (dn+k) hlt;have hcc1:wq.cell? ⟨bb,oo+(dn+k),none⟩=some (bv x):=by
    rw[hcc];rw[List.getElem?_eq_getElem hlt]at hgx;injection hgx with hgx;rw[hgx]
   refine wp_val (v:=.pointer (some ⟨bb,oo+(dn+k),none⟩)) (by go_simp) ⟨_,rfl,bb,oo+(dn+k),by simp,hcc1,g2⟩
  ·intro done cv a wq hw h hJ;have e1:=mx_cv (i:=11) (t:=204) h (hw 11 (by decide)) rfl rfl;obtain⟨bb,oo,y1,hcc,g1⟩:=hJ;rw[y1]at e1;refine wp_val (v:=bv x) (by go_simp) ⟨_,rfl,by simp,g1⟩
  ·intro done cv k1 a wq hw h hJ hn;have e1:=mN 0 193 h hw;have e197:=mN 4 197 h hw;go_simp
  ·intro done cv a wq hw h hJ;have e1:=mN 13 206 h hw;have e205:=mx_cv (i:=12) (t:=205) h (hw 12 (by decide)) rfl rfl;obtain⟨y1,g1⟩:=hJ;rw[y1]at e205;obtain⟨u,hu⟩:=HOC.out;have hf_:wq.frozen? ⟨g3,dn+k,none⟩=false:=by
    have:=HOF.out;unfold World.frozen? at this⊢;rw[g1.block g3 hol];exact this
   refine wp_stu e1 e205 ((g1.cell (p:=⟨g3,dn+k,none⟩) hol).trans hu) hf_ ⟨undef,rfl,wq,g1,rfl⟩
 intro cv w5 hJ;obtain⟨w',hbw,rfl⟩:∃w',Below wr.heap.size wr w'∧w5=w'.setCell ⟨g3,dn+k,none⟩ (bv x):=hJ;simp only[mixAll,pA,mA,Nat.reduceAdd];have hst:=Own.stored (Own.below HO.out hbw) (dn+k) (bv x);rw[<-List.map_set,HPS.out]at hst;have HO2:=qH hst;have HX2:Hid (Below w3.heap.size w3 (w'.setCell ⟨g3,dn+k,none⟩ (bv x))):=qH ((HX.out.trans (hbw.mono HX.out.size)).setCell hg1 _);have hwk:IntKind.i64.wrap ((k:Int)+1)=(k:Int)+1:=IntWalk.i64_in _ (by omega);clear hst;go_wp2_with fail;go_roundw
 case rel=>exact⟨k+1,by omega,rfl,HO2,HX2⟩
 case measure=>simp[intOf]<;>omega):Y:=h
theorem x219(h:Y:=by
 have hbo:=hok.work hu hb;exact⟨hbo.does,hbo.d0,hbo.d8,(busy_len hbo).1,(busy_len hbo).2⟩):Y:=h
theorem x29x(h:Y:=by
 unfold Dev.put putU;rw[HRR.out,ha,show (1:Int)-(a:Int)=(a':Int) by omega,hgs,hdn];rfl):Y:=h
theorem x3ft(h:Y:=by
 have hq:=refDone_calls L.aj A L.cj c d.job im wq hc hil hb (HI.out.at_ (HB2.out.trans (h.mono HB2.out.size))).job;rw[hpd]at hq;exact hq):Y:=h
theorem x9sb(h:Y:=by
 have hbo:=hok.work hu hb;unfold devWrite;rw[if_neg (by omega),if_neg (by rw[hb];simp;omega),if_neg (by rw[hbo.does];simp)];rfl):Y:=h
theorem On.cell2{S:Nat->Prop}{P:World->Prop}(h:On S w P){g j:Nat}(hg:¬S g)(u:Value):On S (w.setCell ⟨g,j,none⟩ u) P:=h.cell (p:=⟨g,j,none⟩) hg u
def DLoc.setS(L:DLoc)(a:Nat)(A:OA)(c:Nat):DLoc:=if a=0 then {L with a0:=A,c0:=c} else {L with a1:=A,c1:=c}
theorem devA_setS(d:Dev)(L:DLoc){a:Nat}(ha:a<=1){A:OA}{n:Nat}{nb:LU}(hn:nb.length=n):(devA d L).setIfInBounds a (.slice A n c)=devA (d.setSlot (a:Int) nb) (L.setS a A c):=by
 subst hn
 match a,ha with
 |0,_=>rfl
 |1,_=>rfl
theorem DevIn.put{d:Dev}{L:DLoc}(h:DevIn w d L){a:Nat}(ha:a<=1){A:OA}{nb:LU}{z:Int}(hb:Bts w A nb)(hl:nb.length=64)(hc:64<=c)(hi:I64 z):DevIn w {d.setSlot (a:Int) nb with done:=z} (L.setS a A c):=by
 match a,ha with
 |0,_=>exact⟨by show nb.length<=c;omega,by show nb.length<=_;omega,hb,h.k1,h.l1,h.b1,h.kg,h.lg,h.got,h.job,h.ir,hi⟩
 |1,_=>exact⟨h.k0,h.l0,h.b0,by show nb.length<=c;omega,by show nb.length<=_;omega,hb,h.kg,h.lg,h.got,h.job,h.ir,hi⟩
theorem acts_write_bad(S:Nat->Prop)(d:Dev)(L:DLoc)(kd n f t m o:Int)(B:OA)(bl bc:Nat)(w:World)(hok:DevOk d)(hu:d.up=true)(hd:On S w (fun v=>DevIn v d L))(hin:I64 n)(hk:kd=6∨kd=11)(c1:d.busy=false∨d.job.size<=d.done):Calls Tryz.prog 48 #[.agg (devA d L),.agg #[iv kd,iv n],.agg (chkA f t m o B bl bc)] w (AcRet S w (devWrite d (decide (kd=11)) n).1 (devWrite d (decide (kd=11)) n).2):=by
 have hrec:=rec_ok hok;have hrd:devReady d=0:=by unfold devReady;rw[if_neg (by simpa using devCheck_ok.2 hok),if_neg (by rw[hu];decide)]
 have KN:=qH (fun w=>newest_calls d.c0 d.c1 w);rw[refNewest_ok hok.cops]at KN;obtain⟨rk,hrk⟩:=eX ((recRead d.c0 d.c1).2);have hre:(recRead d.c0 d.c1).1=d.rec_:=rfl;rw[hrk,hre]at KN;clear hrk hre;obtain⟨tn,htn⟩:=eX (decide (kd=11));rw[htn];have HTN:=qH htn;have hq10:(kd==(10:Int))=false:=by rcases hk with rfl|rfl<;>rfl
 have hq2:(kd==(2:Int))=false:=by rcases hk with rfl|rfl<;>rfl
 have hq5:(kd==(5:Int))=false:=by rcases hk with rfl|rfl<;>rfl
 have HK:=qH hk;have hact:=rec_active hrec;have hdef:d.busy=true->¬d.job.size<=d.done->devWrite d tn n=(if tn=true then Dev.down {d.setSlot (1-d.rec_.active) (d.put (patDo (sumOn 1) d.job (d.image d.rec_.active d.rec_)).1 (keepN tn n).toNat)with done:=d.done+keepN tn n} else {d.setSlot (1-d.rec_.active) (d.put (patDo (sumOn 1) d.job (d.image d.rec_.active d.rec_)).1 (keepN tn n).toNat)with done:=d.done+keepN tn n},0):=fun hb hs=>by
  have hbo:=hok.work hu hb;unfold devWrite;rw[if_neg (by omega),if_neg (by rw[hb];simp;omega),if_neg (by rw[hbo.does];simp)]
 have hdef1:(d.busy=false∨d.job.size<=d.done)->devWrite d tn n=(Dev.zero,5):=fun h=>by
  exact x0n2
 have hfacts:d.busy=true->(patDo (sumOn 1) d.job (d.image d.rec_.active d.rec_)).2=0∧0<=d.done∧d.done%8=0∧((patDo (sumOn 1) d.job (d.image d.rec_.active d.rec_)).1.length:Int)=d.job.size∧d.job.size<=64:=fun hb=>by
  exact x219
 have HD:=qH hdef;have HD1:=qH hdef1;have HFA:=qH hfacts;have HI:=qH hd;have K1:=qH (fun v (hb:Below w.heap.size w v)=>imageOf_calls d L v (hd.at_ hb) hok.l0 hok.l1 hok.cops);have hil:(d.image d.rec_.active d.rec_).length<=140737488351232:=by unfold Dev.image;rw[List.length_take];have:=slot_len hok.l0 hok.l1 d.rec_.active;omega
 have hl2:=hok.l0;have hl1:=hok.l1;generalize devWrite d tn n=res at *
 clear hrec hrd hok hdef hdef1 hfacts hd hk htn;generalize hrr:d.rec_=r at *
 have HRR:=qH hrr;clear hrr;go_enter Tryz.func48,Tryz.ntmps48;go_wp2_with fail;refine(KN.out _).mono ?_;rintro e w1 ⟨rfl,hb⟩;have a2:=kp (w.heap.size) (devA d L) hb;have a1:=kp (w.heap.size+1) (#[iv kd,iv n]) hb;have a3:=kp (w.heap.size+1+1+1) (devA Dev.zero DLoc.zero) hb;have a4:=kp (w.heap.size+1+1+1+1) (#[.func (Fn.func 88) #[] #[]]) hb;have HB1:Hid (Below w.heap.size w w1):=qH (((((((bW w).alloc nl (.cells (devA d L) 38)).alloc (by simp) (.cells #[iv kd,iv n] 42)).alloc (by simp;omega) (.cells (chkA f t m o B bl bc) 61)).alloc (by simp;omega) (.cells (devA Dev.zero DLoc.zero) 38)).alloc (by simp;omega) _).trans (hb.mono (by simp;omega)));clear hb;go_upto_region 7 with fail
 obtain⟨w2,hw1⟩:=eX (w1.alloc (.cells (recA r) 29));have hb:Below w1.heap.size w1 w2:=by rw[<-hw1];exact bL _
 have hrr:rowOf w2 w1.heap.size=recA r∧frOf w2 w1.heap.size=(0,0):=by rw[<-hw1];exact⟨by rw[rowOf_alloc,if_pos rfl],by rw[frOf_alloc,if_pos rfl]⟩
 have a2:=keep1 (g:=w.heap.size) (cs:=devA d L) hb a2.1 (by first|(go_simp;done)|simp[recA]) a2.2.1;have a1:=keep1 (g:=w.heap.size+1) (cs:=#[iv kd,iv n]) hb a1.1 (by first|(go_simp;done)|simp[recA]) a1.2.1;have a3:=keep1 (g:=w.heap.size+1+1+1) (cs:=devA Dev.zero DLoc.zero) hb a3.1 (by first|(go_simp;done)|simp[recA]) a3.2.1;have a4:=keep1 (g:=w.heap.size+1+1+1+1) (cs:=#[.func (Fn.func 88) #[] #[]]) hb a4.1 (by first|(go_simp;done)|simp[recA]) a4.2.1;have r1:=keep1 (bW w2) hrr.1 (by simp[recA]) hrr.2;have HB2:=bT HB1 hb;have hs1:w.heap.size+5<=w1.heap.size:=by omega
 have hs2:w1.heap.size<w2.heap.size:=r1.2.2.2.2.2;rw[hw1];clear hw1 hb hrr HB1;go_upto_if 148 with fail
 go_cut [148] (fun v wx=>v=.bool true∧w2=wx)
 case first=>
  rcases HK.out with e|e
  ·have q1:(kd==(6:Int))=true:=by rw[e];rfl
   clear e;go_wp2_with fail;go_meet
   case rel=>exact⟨by rw[q1],rfl⟩
  have q1:(kd==(6:Int))=false:=by rw[e];rfl
  have q2:(kd==(11:Int))=true:=by rw[e];rfl
  clear e;exact x3dq
 case rest=>
 obtain⟨rfl,rfl⟩:=hcut;have hz:=HD1.out c1;subst hz;clear HD HD1 HFA K1 KN hact
 cases c2:d.busy
 case false=>
  go_wp2_with fail;refine(actsBad_calls 5 _).mono ?_;rintro e wz ⟨rfl,hb⟩;have z1:=kp (w.heap.size+1+1+1) (devA Dev.zero DLoc.zero) hb;have HBZ:=bU HB2 hb;exact x92q
 case true=>
  have q:d.job.size<=d.done:=c1.resolve_left (by rw[c2];decide);clear c1;go_wp2_with fail;refine(actsBad_calls 5 _).mono ?_;rintro e wz ⟨rfl,hb⟩;have z1:=kp (w.heap.size+1+1+1) (devA Dev.zero DLoc.zero) hb;have HBZ:=bU HB2 hb;exact x92q
theorem acts_write6_ok(S:Nat->Prop)(d:Dev)(L:DLoc)(n f t m o:Int)(B:OA)(bl bc:Nat)(w:World)(hok:DevOk d)(hu:d.up=true)(hd:On S w (fun v=>DevIn v d L))(hin:I64 n)(c1:¬(d.busy=false∨d.job.size<=d.done)):Calls Tryz.prog 48 #[.agg (devA d L),.agg #[iv 6,iv n],.agg (chkA f t m o B bl bc)] w (AcRet S w (devWrite d false n).1 (devWrite d false n).2):=by
 have hrec:=rec_ok hok;have hrd:devReady d=0:=by unfold devReady;rw[if_neg (by simpa using devCheck_ok.2 hok),if_neg (by rw[hu];decide)]
 have KN:=qH (fun w=>newest_calls d.c0 d.c1 w);rw[refNewest_ok hok.cops]at KN;obtain⟨rk,hrk⟩:=eX ((recRead d.c0 d.c1).2);have hre:(recRead d.c0 d.c1).1=d.rec_:=rfl;rw[hrk,hre]at KN;clear hrk hre;have hact:=rec_active hrec;have hdef:d.busy=true->¬d.job.size<=d.done->devWrite d false n=({d.setSlot (1-d.rec_.active) (d.put (patDo (sumOn 1) d.job (d.image d.rec_.active d.rec_)).1 (keepN false n).toNat)with done:=d.done+keepN false n},0):=fun hb hs=>by
  exact x9sb
 have hdef1:(d.busy=false∨d.job.size<=d.done)->devWrite d false n=(Dev.zero,5):=fun h=>by
  exact x0n2
 have hfacts:d.busy=true->(patDo (sumOn 1) d.job (d.image d.rec_.active d.rec_)).2=0∧0<=d.done∧d.done%8=0∧((patDo (sumOn 1) d.job (d.image d.rec_.active d.rec_)).1.length:Int)=d.job.size∧d.job.size<=64:=fun hb=>by
  exact x219
 have HD:=qH hdef;have HD1:=qH hdef1;have HFA:=qH hfacts;have HI:=qH hd;have K1:=qH (fun v (hb:Below w.heap.size w v)=>imageOf_calls d L v (hd.at_ hb) hok.l0 hok.l1 hok.cops);have hil:(d.image d.rec_.active d.rec_).length<=140737488351232:=by unfold Dev.image;rw[List.length_take];have:=slot_len hok.l0 hok.l1 d.rec_.active;omega
 have hl2:=hok.l0;have hl1:=hok.l1;generalize devWrite d false n=res at *
 clear hrec hrd hok hdef hdef1 hfacts hd;generalize hrr:d.rec_=r at *
 have HRR:=qH hrr;clear hrr;go_enter Tryz.func48,Tryz.ntmps48;go_wp2_with fail;refine(KN.out _).mono ?_;rintro e w1 ⟨rfl,hb⟩;obtain⟨a0r,a0f,a0n,a0c,a0z,a0l⟩:=kp (w.heap.size) (devA d L) hb;obtain⟨a1r,a1f,a1n,a1c,a1z,a1l⟩:=kp (w.heap.size+1) (#[iv 6,iv n]) hb;obtain⟨a3r,a3f,a3n,a3c,a3z,a3l⟩:=kp (w.heap.size+1+1+1) (devA Dev.zero DLoc.zero) hb;have a1:=kp (w.heap.size+1+1+1+1) (#[.func (Fn.func 88) #[] #[]]) hb;have HB1:Hid (Below w.heap.size w w1):=qH (((((((bW w).alloc nl (.cells (devA d L) 38)).alloc (by simp) (.cells #[iv 6,iv n] 42)).alloc (by simp;omega) (.cells (chkA f t m o B bl bc) 61)).alloc (by simp;omega) (.cells (devA Dev.zero DLoc.zero) 38)).alloc (by simp;omega) _).trans (hb.mono (by simp;omega)));clear hb;go_upto_region 7 with fail
 obtain⟨w2,hw2⟩:=eX (w1.alloc (.cells (recA r) 29));have hb:Below w1.heap.size w1 w2:=by rw[<-hw2];exact bL _
 have hrr:rowOf w2 w1.heap.size=recA r∧frOf w2 w1.heap.size=(0,0):=by rw[<-hw2];exact⟨by rw[rowOf_alloc,if_pos rfl],by rw[frOf_alloc,if_pos rfl]⟩
 obtain⟨a0r,a0f,a0n,a0c,a0z,a0l⟩:=keep1 (g:=w.heap.size) (cs:=devA d L) hb a0r (by first|(go_simp;done)|simp[recA]) a0f;obtain⟨a1r,a1f,a1n,a1c,a1z,a1l⟩:=keep1 (g:=w.heap.size+1) (cs:=#[iv 6,iv n]) hb a1r (by first|(go_simp;done)|simp[recA]) a1f;obtain⟨a3r,a3f,a3n,a3c,a3z,a3l⟩:=keep1 (g:=w.heap.size+1+1+1) (cs:=devA Dev.zero DLoc.zero) hb a3r (by first|(go_simp;done)|simp[recA]) a3f;have a1:=keep1 (g:=w.heap.size+1+1+1+1) (cs:=#[.func (Fn.func 88) #[] #[]]) hb a1.1 (by first|(go_simp;done)|simp[recA]) a1.2.1;obtain⟨r0r,r0f,r0n,r0c,r0z,r0l⟩:=keep1 (bW w2) hrr.1 (by simp[recA]) hrr.2;have HB2:=bT HB1 hb;have hs1:w.heap.size+5<=w1.heap.size:=by omega
 have hs2:w1.heap.size<w2.heap.size:=r0l;rw[hw2];clear hw2 hb hrr HB1;have c2:d.busy=true:=by cases h:d.busy;exact absurd (.inl h) c1;rfl
 have c3:¬d.job.size<=d.done:=fun h=>c1 (.inr h);have hz:=HD.out c2 (by omega);obtain⟨f1,f2,f3,f4,f5⟩:=HFA.out c2;clear c1 HD HD1 HFA KN hu a1;generalize hri:d.image r.active r=im at *
 obtain⟨⟨b',en⟩,hpd⟩:∃x,patDo (sumOn 1) d.job im=x:=⟨_,rfl⟩;rw[hpd]at hz f1 f4;dsimp only at hz f1 f4;subst f1;have KI:Hid (∀wq,Below w2.heap.size w2 wq->Calls Tryz.prog 67 #[.agg (devA d L)] wq (ImRet wq im)):=qH (fun wq h=>K1.out wq (HB2.out.trans (h.mono HB2.out.size)));have KD:Hid (∀wq A c,Below w2.heap.size w2 wq->im.length<=c->Bts wq A im->Calls Tryz.prog 66 #[.agg (patA d.job.from_ d.job.to_ d.job.old d.job.new_ d.job.size L.aj d.job.ops.length L.cj),.slice A im.length c] wq (ByRet2 wq b' 0)):=qH (fun wq A c h hc hb=>by
  exact x3ft)
 have HZ:=qH hz;clear hpd K1 hz hri hil;have RD:Hid (rowOf w2 w.heap.size=devA d L):=qH a0r;have FD:Hid (frOf w2 w.heap.size=(0,0)):=qH a0f;go_wp2_with fail;have hq1:=fun v (h:Below w2.heap.size w2 v)=>keep1 h RD.out (by go_simp) FD.out
 go_region_held3 (fun v=>Below w2.heap.size w2 v) (first|exact hbb|exact(Below.refl _ _).drew)
  (first
    |(go_at_call 67;refine(KI.out _ (by assumption)).mono ?_;rintro e wj ⟨Aj,cj,rfl,h3,h4,h5⟩;have hbb:=(bW w2).drew.trans (h5.mono (by simp)))
    |(go_at_call 66;refine(KD.out _ _ _ (by assumption) h3 h4).mono ?_;rintro e w3 ⟨A5,c5',rfl,g1,g2,g9⟩;have hbb:=hbb.trans (g9.mono hbb.size)))
 have g3:=hbb;clear hbb g9 h3 h4 h5 hq1;obtain⟨a0r,a0f,a0n,a0c,a0z,a0l⟩:=keep1 (g:=w.heap.size) (cs:=devA d L) g3 a0r (by first|(go_simp;done)|simp[recA]) a0f;obtain⟨a1r,a1f,a1n,a1c,a1z,a1l⟩:=keep1 (g:=w.heap.size+1) (cs:=#[iv 6,iv n]) g3 a1r (by first|(go_simp;done)|simp[recA]) a1f;obtain⟨a3r,a3f,a3n,a3c,a3z,a3l⟩:=keep1 (g:=w.heap.size+1+1+1) (cs:=devA Dev.zero DLoc.zero) g3 a3r (by first|(go_simp;done)|simp[recA]) a3f;obtain⟨r0r,r0f,r0n,r0c,r0z,r0l⟩:=keep1 (g:=w1.heap.size) (cs:=recA r) g3 r0r (by first|(go_simp;done)|simp[recA]) r0f;have HB1:Hid (Below w.heap.size w w3):=qH (HB2.out.trans (g3.mono HB2.out.size));have hs4:w2.heap.size<=w3.heap.size:=g3.size;have HBB:=qH g1;have HC1:=qH g2;clear g1 g2 g3 KI KD RD FD HB2;obtain⟨N,hN⟩:∃N:Nat,keepN false n=(N:Int):=⟨(keepN false n).toNat,by have:=(keepN_bd false n).1;omega⟩;have hN1:N<=8:=by have:=(keepN_bd false n).2;omega
 rw[hN]at HZ;have HN:=qH hN;clear hN;go_upto_if 176 with fail
 go_cut [21] (fun v wx=>v=iv (N:Int)∧w3=wx)
 case first=>
  have h3x:Hid ((8:Int)=(N:Int)):=qH (by rw[<-HN.out];simp[keepN]);go_wp2_with fail;go_meet
  case rel=>exact⟨by rw[<-h3x.out],rfl⟩
 case rest=>
 obtain⟨rfl,rfl⟩:=hcut;obtain⟨a,ha⟩:∃a:Nat,r.active=(a:Int):=⟨r.active.toNat,by omega⟩;obtain⟨a',haa⟩:∃a':Nat,a+a'=1:=⟨1-a,by omega⟩;have ha1:a'<=1:=by omega
 have hw1:IntKind.i64.wrap ((1:Int)-(a:Int))=(a':Int):=by rw[IntWalk.i64_in _ (by omega)];omega
 have i1:(0:Int)<=(a':Int):=by omega
 have i2:(a':Int)<2:=by omega
 have i3:¬(2:Int)<=(a':Int):=by omega
 obtain⟨A1,c4,p1,p2,p3⟩:=devSlotA (HI.out.at_ HB1.out) ha1;have hsl:=slot_len hl2 hl1 (a':Int);generalize hgs:d.slot (a':Int)=sl at *
 have HP1:=qH p3;clear p3;have HOZ:Hid (Own (w3.alloc (.cells #[] 5)) w3.heap.size 5 1 (some ⟨w3.heap.size,0,none⟩) 0 0 []):=qH (own_zero w3 5 1);have HSR:Hid (Src (w3.alloc (.cells #[] 5)) A1 (sl.map bv)):=qH ((HP1.out.stays (bL _)).src);rw[hsl]at p1 p2;go_wp2_with (at_builtin;go_must (refine wpList_app _ rfl (.tmp 181) (.tmp 187) 23 rfl elBytes w3.heap.size (some ⟨w3.heap.size,0,none⟩) 0 0 [] rfl HOZ.out A1 64 c4 (sl.map bv) rfl HSR.out (by simp[hsl]) (by simp[Value.oneCell',bv]) (by omega) (by simp) ?_));intro A2 c7 w4 hown _ hbel _;have hbx:Below w3.heap.size w3 w4:=(bL _).trans hbel;have RA:=qH (And.intro a0r a0f);have RH:=qH (And.intro a1r a1f);have RZ:=qH (And.intro a3r a3f);have RR:=qH (And.intro r0r r0f);obtain⟨a0r,a0f,a0n,a0c,a0z,a0l⟩:=keep1 (g:=w.heap.size) (cs:=devA d L) hbx a0r (by first|(go_simp;done)|simp[recA]) a0f;obtain⟨a1r,a1f,a1n,a1c,a1z,a1l⟩:=keep1 (g:=w.heap.size+1) (cs:=#[iv 6,iv n]) hbx a1r (by first|(go_simp;done)|simp[recA]) a1f;obtain⟨a3r,a3f,a3n,a3c,a3z,a3l⟩:=keep1 (g:=w.heap.size+1+1+1) (cs:=devA Dev.zero DLoc.zero) hbx a3r (by first|(go_simp;done)|simp[recA]) a3f;obtain⟨r0r,r0f,r0n,r0c,r0z,r0l⟩:=keep1 (g:=w1.heap.size) (cs:=recA r) hbx r0r (by first|(go_simp;done)|simp[recA]) r0f;have HB2:=bT HB1 hbx;obtain⟨g3,rfl,hg1,hg2⟩:=hown.form (by omega);obtain⟨dn,hdn⟩:∃dn:Nat,d.done=(dn:Int):=⟨d.done.toNat,by omega⟩;have hd1:dn+8<=64:=by omega
 have hb1:b'.length<=64:=by omega
 have hrl:=room_len hb1;have HO1:Hid (Own w4 w3.heap.size 5 1 (some ⟨g3,0,none⟩) 64 c7 ((putU sl (room b') dn 0).map bv)):=qH (by rw[putU_0];simpa using hown);have HX1:=qH hbx;clear hown hbel hbx HOZ HSR;go_wp2_with fail;go_loopw [190] (fun i wr=>∃k:Nat,k<=N∧i=iv k∧Hid (Own wr w3.heap.size 5 1 (some ⟨g3,0,none⟩) 64 c7 ((putU sl (room b') dn k).map bv))∧Hid (Below w3.heap.size w3 wr)) (fun i _=>N-(intOf i).toNat)
 case atStart=>exact⟨0,Nat.zero_le _,rfl,HO1,HX1⟩
 case round=>
  rename World=>wr;obtain⟨k,hk,rfl,HO,HX⟩:=hrel;by_cases hlk:k<N
  ·exact x1za
  obtain rfl:k=N:=by omega
  obtain⟨a0r,a0f,a0n,a0c,a0z,a0l⟩:=keep1 (g:=w.heap.size) (cs:=devA d L) HX.out RA.out.1 (by first|(go_simp;done)|simp[recA]) RA.out.2;obtain⟨a1r,a1f,a1n,a1c,a1z,a1l⟩:=keep1 (g:=w.heap.size+1) (cs:=#[iv 6,iv n]) HX.out RH.out.1 (by first|(go_simp;done)|simp[recA]) RH.out.2;obtain⟨a3r,a3f,a3n,a3c,a3z,a3l⟩:=keep1 (g:=w.heap.size+1+1+1) (cs:=devA Dev.zero DLoc.zero) HX.out RZ.out.1 (by first|(go_simp;done)|simp[recA]) RZ.out.2;obtain⟨r0r,r0f,r0n,r0c,r0z,r0l⟩:=keep1 (g:=w1.heap.size) (cs:=recA r) HX.out RR.out.1 (by first|(go_simp;done)|simp[recA]) RR.out.2;have HBr:Hid (Below w.heap.size w wr):=qH (HB1.out.trans (HX.out.mono HB1.out.size));have HF:=qH HO.out.fresh;have hc1:64<=c7:=HO.out.le;have hnl:(putU sl (room b') dn k).length=64:=by rw[putU_len (by omega) (by omega),hsl]
  have hput:d.put b' ((k:Int)).toNat=putU sl (room b') dn k:=by
   exact x29x
  have hz:=HZ.out;rw[ha,show (1:Int)-(a:Int)=(a':Int) by omega,hput,hdn]at hz;have hin:∀v,DevIn v d L->Bts v (some ⟨g3,0,none⟩) (putU sl (room b') dn k)->DevIn v {d.setSlot (a':Int) (putU sl (room b') dn k)with done:=(dn:Int)+(k:Int)} (L.setS a' (some ⟨g3,0,none⟩) c7):=fun v h g=>h.put ha1 g hnl hc1 ⟨by omega,by omega⟩;have h3:w.heap.size<w3.heap.size:=by omega
  have hs3:=HX.out.size;have o1:On (fun q=>S q∧q<w.heap.size∨w3.heap.size<=q) wr (fun v=>DevIn v d L):=((HI.out.sub (fun q h1 h2=>.inl ⟨h2,h1⟩)).below HBr.out);have o2:On (fun q=>S q∧q<w.heap.size∨w3.heap.size<=q) wr (fun v=>Bts v (some ⟨g3,0,none⟩) (putU sl (room b') dn k)):=(On.fresh HF.out).sub fun q _ h=>.inr h;have HON:=qH ((o1.and o2).imp fun v ⟨h,g⟩=>hin v h g);have hds:=devA_setS d L ha1 (A:=some ⟨g3,0,none⟩) (c:=c7) hnl;have hdo:(d.setSlot (a':Int) (putU sl (room b') dn k)).done=(dn:Int):=by unfold Dev.setSlot;split<;>exact hdn
  generalize d.setSlot (a':Int) (putU sl (room b') dn k)=d2 at *
  generalize L.setS a' (some ⟨g3,0,none⟩) c7=L2 at *
  have hds1:(devA d2 L2).setIfInBounds 36 (iv ((dn:Int)+(k:Int)))=devA {d2 with done:=(dn:Int)+(k:Int)} L2:=rfl;have hwn:IntKind.i64.wrap ((dn:Int)+(k:Int))=(dn:Int)+(k:Int):=IntWalk.i64_in _ (by omega);clear hput hin o1 o2 HF HO HI HO1 HX1 HBB hgs HZ;subst hz;go_wp2_with fail;refine bodyPost_ret (rC (devA {d2 with done:=(dn:Int)+(k:Int)} L2)) rfl ⟨L2,rfl,?_,?_⟩
  ·have ho:On (fun q=>S q∧q<w.heap.size∨w3.heap.size<=q) wr (fun v=>DevIn v {d2 with done:=(dn:Int)+(k:Int)} L2):=HON.out;refine On.sub (S:=fun q=>S q∧q<w.heap.size∨w3.heap.size<=q) ?_ (fun q _ h=>h.elim .inl (fun h=>.inr (by omega)));repeat (first|exact ho|refine On.row ?_ (by rintro (h|h)<;>omega) _|refine On.cell2 ?_ (by rintro (h|h)<;>omega) _)
  exact bZ HBr
theorem acts_write11_ok(S:Nat->Prop)(d:Dev)(L:DLoc)(n f t m o:Int)(B:OA)(bl bc:Nat)(w:World)(hok:DevOk d)(hu:d.up=true)(hd:On S w (fun v=>DevIn v d L))(hin:I64 n)(c1:¬(d.busy=false∨d.job.size<=d.done)):Calls Tryz.prog 48 #[.agg (devA d L),.agg #[iv 11,iv n],.agg (chkA f t m o B bl bc)] w (AcRet S w (devWrite d true n).1 (devWrite d true n).2):=by
 have hrec:=rec_ok hok;have hrd:devReady d=0:=by unfold devReady;rw[if_neg (by simpa using devCheck_ok.2 hok),if_neg (by rw[hu];decide)]
 have KN:=qH (fun w=>newest_calls d.c0 d.c1 w);rw[refNewest_ok hok.cops]at KN;obtain⟨rk,hrk⟩:=eX ((recRead d.c0 d.c1).2);have hre:(recRead d.c0 d.c1).1=d.rec_:=rfl;rw[hrk,hre]at KN;clear hrk hre;have hact:=rec_active hrec;have hdef:d.busy=true->¬d.job.size<=d.done->devWrite d true n=(Dev.down {d.setSlot (1-d.rec_.active) (d.put (patDo (sumOn 1) d.job (d.image d.rec_.active d.rec_)).1 (keepN true n).toNat)with done:=d.done+keepN true n},0):=fun hb hs=>by
  exact x9sb
 have hdef1:(d.busy=false∨d.job.size<=d.done)->devWrite d true n=(Dev.zero,5):=fun h=>by
  exact x0n2
 have hfacts:d.busy=true->(patDo (sumOn 1) d.job (d.image d.rec_.active d.rec_)).2=0∧0<=d.done∧d.done%8=0∧((patDo (sumOn 1) d.job (d.image d.rec_.active d.rec_)).1.length:Int)=d.job.size∧d.job.size<=64:=fun hb=>by
  exact x219
 have HD:=qH hdef;have HD1:=qH hdef1;have HFA:=qH hfacts;have HI:=qH hd;have K1:=qH (fun v (hb:Below w.heap.size w v)=>imageOf_calls d L v (hd.at_ hb) hok.l0 hok.l1 hok.cops);have hil:(d.image d.rec_.active d.rec_).length<=140737488351232:=by unfold Dev.image;rw[List.length_take];have:=slot_len hok.l0 hok.l1 d.rec_.active;omega
 have hl2:=hok.l0;have hl1:=hok.l1;generalize devWrite d true n=res at *
 clear hrec hrd hok hdef hdef1 hfacts hd;generalize hrr:d.rec_=r at *
 have HRR:=qH hrr;clear hrr;go_enter Tryz.func48,Tryz.ntmps48;go_wp2_with fail;refine(KN.out _).mono ?_;rintro e w1 ⟨rfl,hb⟩;obtain⟨a0r,a0f,a0n,a0c,a0z,a0l⟩:=kp (w.heap.size) (devA d L) hb;obtain⟨a1r,a1f,a1n,a1c,a1z,a1l⟩:=kp (w.heap.size+1) (#[iv 11,iv n]) hb;obtain⟨a3r,a3f,a3n,a3c,a3z,a3l⟩:=kp (w.heap.size+1+1+1) (devA Dev.zero DLoc.zero) hb;have a1:=kp (w.heap.size+1+1+1+1) (#[.func (Fn.func 88) #[] #[]]) hb;have HB1:Hid (Below w.heap.size w w1):=qH (((((((bW w).alloc nl (.cells (devA d L) 38)).alloc (by simp) (.cells #[iv 11,iv n] 42)).alloc (by simp;omega) (.cells (chkA f t m o B bl bc) 61)).alloc (by simp;omega) (.cells (devA Dev.zero DLoc.zero) 38)).alloc (by simp;omega) _).trans (hb.mono (by simp;omega)));clear hb;go_upto_region 7 with fail
 obtain⟨w2,hw2⟩:=eX (w1.alloc (.cells (recA r) 29));have hb:Below w1.heap.size w1 w2:=by rw[<-hw2];exact bL _
 have hrr:rowOf w2 w1.heap.size=recA r∧frOf w2 w1.heap.size=(0,0):=by rw[<-hw2];exact⟨by rw[rowOf_alloc,if_pos rfl],by rw[frOf_alloc,if_pos rfl]⟩
 obtain⟨a0r,a0f,a0n,a0c,a0z,a0l⟩:=keep1 (g:=w.heap.size) (cs:=devA d L) hb a0r (by first|(go_simp;done)|simp[recA]) a0f;obtain⟨a1r,a1f,a1n,a1c,a1z,a1l⟩:=keep1 (g:=w.heap.size+1) (cs:=#[iv 11,iv n]) hb a1r (by first|(go_simp;done)|simp[recA]) a1f;obtain⟨a3r,a3f,a3n,a3c,a3z,a3l⟩:=keep1 (g:=w.heap.size+1+1+1) (cs:=devA Dev.zero DLoc.zero) hb a3r (by first|(go_simp;done)|simp[recA]) a3f;have a1:=keep1 (g:=w.heap.size+1+1+1+1) (cs:=#[.func (Fn.func 88) #[] #[]]) hb a1.1 (by first|(go_simp;done)|simp[recA]) a1.2.1;obtain⟨r0r,r0f,r0n,r0c,r0z,r0l⟩:=keep1 (bW w2) hrr.1 (by simp[recA]) hrr.2;have HB2:=bT HB1 hb;have hs1:w.heap.size+5<=w1.heap.size:=by omega
 have hs2:w1.heap.size<w2.heap.size:=r0l;rw[hw2];clear hw2 hb hrr HB1;have c2:d.busy=true:=by cases h:d.busy;exact absurd (.inl h) c1;rfl
 have c3:¬d.job.size<=d.done:=fun h=>c1 (.inr h);have hz:=HD.out c2 (by omega);obtain⟨f1,f2,f3,f4,f5⟩:=HFA.out c2;clear c1 HD HD1 HFA KN hu a1;generalize hri:d.image r.active r=im at *
 obtain⟨⟨b',en⟩,hpd⟩:∃x,patDo (sumOn 1) d.job im=x:=⟨_,rfl⟩;rw[hpd]at hz f1 f4;dsimp only at hz f1 f4;subst f1;have KI:Hid (∀wq,Below w2.heap.size w2 wq->Calls Tryz.prog 67 #[.agg (devA d L)] wq (ImRet wq im)):=qH (fun wq h=>K1.out wq (HB2.out.trans (h.mono HB2.out.size)));have KD:Hid (∀wq A c,Below w2.heap.size w2 wq->im.length<=c->Bts wq A im->Calls Tryz.prog 66 #[.agg (patA d.job.from_ d.job.to_ d.job.old d.job.new_ d.job.size L.aj d.job.ops.length L.cj),.slice A im.length c] wq (ByRet2 wq b' 0)):=qH (fun wq A c h hc hb=>by
  exact x3ft)
 have HZ:=qH hz;clear hpd K1 hz hri hil;have RD:Hid (rowOf w2 w.heap.size=devA d L):=qH a0r;have FD:Hid (frOf w2 w.heap.size=(0,0)):=qH a0f;go_wp2_with fail;have hq1:=fun v (h:Below w2.heap.size w2 v)=>keep1 h RD.out (by go_simp) FD.out
 go_region_held3 (fun v=>Below w2.heap.size w2 v) (first|exact hbb|exact(Below.refl _ _).drew)
  (first
    |(go_at_call 67;refine(KI.out _ (by assumption)).mono ?_;rintro e wj ⟨Aj,cj,rfl,h3,h4,h5⟩;have hbb:=(bW w2).drew.trans (h5.mono (by simp)))
    |(go_at_call 66;refine(KD.out _ _ _ (by assumption) h3 h4).mono ?_;rintro e w3 ⟨A5,c5',rfl,g1,g2,g9⟩;have hbb:=hbb.trans (g9.mono hbb.size)))
 have g3:=hbb;clear hbb g9 h3 h4 h5 hq1;obtain⟨a0r,a0f,a0n,a0c,a0z,a0l⟩:=keep1 (g:=w.heap.size) (cs:=devA d L) g3 a0r (by first|(go_simp;done)|simp[recA]) a0f;obtain⟨a1r,a1f,a1n,a1c,a1z,a1l⟩:=keep1 (g:=w.heap.size+1) (cs:=#[iv 11,iv n]) g3 a1r (by first|(go_simp;done)|simp[recA]) a1f;obtain⟨a3r,a3f,a3n,a3c,a3z,a3l⟩:=keep1 (g:=w.heap.size+1+1+1) (cs:=devA Dev.zero DLoc.zero) g3 a3r (by first|(go_simp;done)|simp[recA]) a3f;obtain⟨r0r,r0f,r0n,r0c,r0z,r0l⟩:=keep1 (g:=w1.heap.size) (cs:=recA r) g3 r0r (by first|(go_simp;done)|simp[recA]) r0f;have HB1:Hid (Below w.heap.size w w3):=qH (HB2.out.trans (g3.mono HB2.out.size));have hs4:w2.heap.size<=w3.heap.size:=g3.size;have HBB:=qH g1;have HC1:=qH g2;clear g1 g2 g3 KI KD RD FD HB2;obtain⟨N,hN⟩:∃N:Nat,keepN true n=(N:Int):=⟨(keepN true n).toNat,by have:=(keepN_bd true n).1;omega⟩;have hN1:N<=8:=by have:=(keepN_bd true n).2;omega
 rw[hN]at HZ;have HN:=qH hN;clear hN;go_upto_if 176 with fail
 go_cut [21] (fun v wx=>v=iv (N:Int)∧w3=wx)
 case first=>
  have h3x:max 0 (min 8 n)=(N:Int):=by rw[<-HN.out];simp[keepN]
  have h1x:=run_min8 n;have h2x:=run_max0 (min 8 n);go_wp2_with fail;go_meet
  case rel=>exact⟨by rw[<-h3x],rfl⟩
 case rest=>
 obtain⟨rfl,rfl⟩:=hcut;obtain⟨a,ha⟩:∃a:Nat,r.active=(a:Int):=⟨r.active.toNat,by omega⟩;obtain⟨a',haa⟩:∃a':Nat,a+a'=1:=⟨1-a,by omega⟩;have ha1:a'<=1:=by omega
 have hw1:IntKind.i64.wrap ((1:Int)-(a:Int))=(a':Int):=by rw[IntWalk.i64_in _ (by omega)];omega
 have i1:(0:Int)<=(a':Int):=by omega
 have i2:(a':Int)<2:=by omega
 have i3:¬(2:Int)<=(a':Int):=by omega
 obtain⟨A1,c4,p1,p2,p3⟩:=devSlotA (HI.out.at_ HB1.out) ha1;have hsl:=slot_len hl2 hl1 (a':Int);generalize hgs:d.slot (a':Int)=sl at *
 have HP1:=qH p3;clear p3;have HOZ:Hid (Own (w3.alloc (.cells #[] 5)) w3.heap.size 5 1 (some ⟨w3.heap.size,0,none⟩) 0 0 []):=qH (own_zero w3 5 1);have HSR:Hid (Src (w3.alloc (.cells #[] 5)) A1 (sl.map bv)):=qH ((HP1.out.stays (bL _)).src);rw[hsl]at p1 p2;go_wp2_with (at_builtin;go_must (refine wpList_app _ rfl (.tmp 181) (.tmp 187) 23 rfl elBytes w3.heap.size (some ⟨w3.heap.size,0,none⟩) 0 0 [] rfl HOZ.out A1 64 c4 (sl.map bv) rfl HSR.out (by simp[hsl]) (by simp[Value.oneCell',bv]) (by omega) (by simp) ?_));intro A2 c7 w4 hown _ hbel _;have hbx:Below w3.heap.size w3 w4:=(bL _).trans hbel;have RA:=qH (And.intro a0r a0f);have RH:=qH (And.intro a1r a1f);have RZ:=qH (And.intro a3r a3f);have RR:=qH (And.intro r0r r0f);obtain⟨a0r,a0f,a0n,a0c,a0z,a0l⟩:=keep1 (g:=w.heap.size) (cs:=devA d L) hbx a0r (by first|(go_simp;done)|simp[recA]) a0f;obtain⟨a1r,a1f,a1n,a1c,a1z,a1l⟩:=keep1 (g:=w.heap.size+1) (cs:=#[iv 11,iv n]) hbx a1r (by first|(go_simp;done)|simp[recA]) a1f;obtain⟨a3r,a3f,a3n,a3c,a3z,a3l⟩:=keep1 (g:=w.heap.size+1+1+1) (cs:=devA Dev.zero DLoc.zero) hbx a3r (by first|(go_simp;done)|simp[recA]) a3f;obtain⟨r0r,r0f,r0n,r0c,r0z,r0l⟩:=keep1 (g:=w1.heap.size) (cs:=recA r) hbx r0r (by first|(go_simp;done)|simp[recA]) r0f;have HB2:=bT HB1 hbx;obtain⟨g3,rfl,hg1,hg2⟩:=hown.form (by omega);obtain⟨dn,hdn⟩:∃dn:Nat,d.done=(dn:Int):=⟨d.done.toNat,by omega⟩;have hd1:dn+8<=64:=by omega
 have hb1:b'.length<=64:=by omega
 have hrl:=room_len hb1;have HO1:Hid (Own w4 w3.heap.size 5 1 (some ⟨g3,0,none⟩) 64 c7 ((putU sl (room b') dn 0).map bv)):=qH (by rw[putU_0];simpa using hown);have HX1:=qH hbx;clear hown hbel hbx HOZ HSR;go_wp2_with fail;go_loopw [190] (fun i wr=>∃k:Nat,k<=N∧i=iv k∧Hid (Own wr w3.heap.size 5 1 (some ⟨g3,0,none⟩) 64 c7 ((putU sl (room b') dn k).map bv))∧Hid (Below w3.heap.size w3 wr)) (fun i _=>N-(intOf i).toNat)
 case atStart=>exact⟨0,Nat.zero_le _,rfl,HO1,HX1⟩
 case round=>
  rename World=>wr;obtain⟨k,hk,rfl,HO,HX⟩:=hrel;by_cases hlk:k<N
  ·exact x1za
  obtain rfl:k=N:=by omega
  obtain⟨a0r,a0f,a0n,a0c,a0z,a0l⟩:=keep1 (g:=w.heap.size) (cs:=devA d L) HX.out RA.out.1 (by first|(go_simp;done)|simp[recA]) RA.out.2;obtain⟨a1r,a1f,a1n,a1c,a1z,a1l⟩:=keep1 (g:=w.heap.size+1) (cs:=#[iv 11,iv n]) HX.out RH.out.1 (by first|(go_simp;done)|simp[recA]) RH.out.2;obtain⟨a3r,a3f,a3n,a3c,a3z,a3l⟩:=keep1 (g:=w.heap.size+1+1+1) (cs:=devA Dev.zero DLoc.zero) HX.out RZ.out.1 (by first|(go_simp;done)|simp[recA]) RZ.out.2;obtain⟨r0r,r0f,r0n,r0c,r0z,r0l⟩:=keep1 (g:=w1.heap.size) (cs:=recA r) HX.out RR.out.1 (by first|(go_simp;done)|simp[recA]) RR.out.2;have HBr:Hid (Below w.heap.size w wr):=qH (HB1.out.trans (HX.out.mono HB1.out.size));have HF:=qH HO.out.fresh;have hc1:64<=c7:=HO.out.le;have hnl:(putU sl (room b') dn k).length=64:=by rw[putU_len (by omega) (by omega),hsl]
  have hput:d.put b' ((k:Int)).toNat=putU sl (room b') dn k:=by
   exact x29x
  have hz:=HZ.out;rw[ha,show (1:Int)-(a:Int)=(a':Int) by omega,hput,hdn]at hz;have hin:∀v,DevIn v d L->Bts v (some ⟨g3,0,none⟩) (putU sl (room b') dn k)->DevIn v {d.setSlot (a':Int) (putU sl (room b') dn k)with done:=(dn:Int)+(k:Int)} (L.setS a' (some ⟨g3,0,none⟩) c7):=fun v h g=>h.put ha1 g hnl hc1 ⟨by omega,by omega⟩;have h3:w.heap.size<w3.heap.size:=by omega
  have hs3:=HX.out.size;have o1:On (fun q=>S q∧q<w.heap.size∨w3.heap.size<=q) wr (fun v=>DevIn v d L):=((HI.out.sub (fun q h1 h2=>.inl ⟨h2,h1⟩)).below HBr.out);have o2:On (fun q=>S q∧q<w.heap.size∨w3.heap.size<=q) wr (fun v=>Bts v (some ⟨g3,0,none⟩) (putU sl (room b') dn k)):=(On.fresh HF.out).sub fun q _ h=>.inr h;have HON:=qH ((o1.and o2).imp fun v ⟨h,g⟩=>hin v h g);have hds:=devA_setS d L ha1 (A:=some ⟨g3,0,none⟩) (c:=c7) hnl;have hdo:(d.setSlot (a':Int) (putU sl (room b') dn k)).done=(dn:Int):=by unfold Dev.setSlot;split<;>exact hdn
  generalize d.setSlot (a':Int) (putU sl (room b') dn k)=d2 at *
  generalize L.setS a' (some ⟨g3,0,none⟩) c7=L2 at *
  have hds1:(devA d2 L2).setIfInBounds 36 (iv ((dn:Int)+(k:Int)))=devA {d2 with done:=(dn:Int)+(k:Int)} L2:=rfl;have hwn:IntKind.i64.wrap ((dn:Int)+(k:Int))=(dn:Int)+(k:Int):=IntWalk.i64_in _ (by omega);clear hput hin o1 o2 HF HO HI HO1 HX1 HBB hgs HZ;subst hz;go_wp2_with fail;refine(without_calls _ _ _).mono ?_;rintro e w5 ⟨rfl,hb⟩;have c5:=kp (w.heap.size) (devA {d2 with done:=(dn:Int)+(k:Int)} L2) hb;have c3k:=kp (w.heap.size+1+1+1) (devA Dev.zero DLoc.zero) hb;have HON1:Hid (On (fun q=>S q∧q<w.heap.size∨w3.heap.size<=q) w5 (fun v=>DevIn v {d2 with done:=(dn:Int)+(k:Int)} L2)):=qH (by
   refine On.below ?_ hb;repeat (first|exact HON.out|refine On.row ?_ (by rintro (h|h)<;>omega) _|refine On.cell2 ?_ (by rintro (h|h)<;>omega) _))
  have HB3:=bU HBr hb;clear hb;go_wp2_with fail;refine bodyPost_ret (rC (devA (Dev.down {d2 with done:=(dn:Int)+(k:Int)}) L2.down)) rfl ⟨L2.down,rfl,?_,?_⟩
  ·refine On.sub (S:=fun q=>S q∧q<w.heap.size∨w3.heap.size<=q) ?_ (fun q _ h=>h.elim .inl (fun h=>.inr (by omega)));refine On.imp (P:=fun v=>DevIn v {d2 with done:=(dn:Int)+(k:Int)} L2) ?_ (fun v h=>h.down);repeat (first|exact HON1.out|refine On.row ?_ (by rintro (h|h)<;>omega) _|refine On.cell2 ?_ (by rintro (h|h)<;>omega) _)
  exact bZ HB3
theorem acts_late(d:Dev)(L:DLoc)(kind n f t m o:Int)(B:OA)(bl bc:Nat)(w:World)(h:d.up=decide (kind=10)):Calls Tryz.prog 48 #[.agg (devA d L),.agg #[iv kind,iv n],.agg (chkA f t m o B bl bc)] w (RetB w (.tuple #[.agg (devA Dev.zero DLoc.zero),iv 5])):=by
 have HBA:Hid (Below w.heap.size w (((((w.alloc (.cells (devA d L) 38)).alloc (.cells #[iv kind,iv n] 42)).alloc (.cells (chkA f t m o B bl bc) 61)).alloc (.cells (devA Dev.zero DLoc.zero) 38)).alloc (.cells #[.func (Fn.func 88) #[] #[]] 122))):=qH ((((((bW w).alloc nl _).alloc (by simp) _).alloc (by simp;omega) _).alloc (by simp;omega) _).alloc (by simp;omega) _);have q:(d.up==(kind==(10:Int)))=true:=by
  rw[h];by_cases e:kind=10<;>simp[e]
 clear h;go_enter Tryz.func48,Tryz.ntmps48;go_wp2_with fail;refine(actsBad_calls 5 _).mono ?_;rintro e w1 ⟨rfl,hb⟩;have a1:=kp (w.heap.size+1+1+1) (devA Dev.zero DLoc.zero) hb;have HB1:=bT HBA hb;clear hb;go_wp2_with fail;refine bodyPost_ret (rC (devA Dev.zero DLoc.zero)) rfl ⟨rfl,bZ HB1⟩
def devActs(d:Dev)(x:Chk)(kind n:Int):Dev×Int:=if kind=2 then devHear d x else devAct d kind n
theorem ActRet.on{S:Nat->Prop}{w':World}{d d2:Dev}{L:DLoc}{n:Int}{e:Ending}(hd:On S w (fun v=>DevIn v d L))(h:ActRet w d L d2 n e w'):AcRet S w d2 n e w':=by
 obtain⟨L1,e1,h2,hb⟩:=h;exact⟨L1,e1,((hd.sub fun k h1 h2=>.inl ⟨h2,h1⟩).below hb).imp h2,hb⟩
theorem acts_calls(S:Nat->Prop)(d:Dev)(L:DLoc)(kind n:Int)(x:Chk)(B:OA)(bc:Nat)(w:World)(hk:kind=2∨5<=kind∧kind<=12)(hok:DevOk d)(hn:I64 n)(hd:On S w (fun v=>DevIn v d L))(hx:On S w (fun v=>ChkIn v x B bc)):
  Calls Tryz.prog 48 #[.agg (devA d L),.agg #[iv kind,iv n],.agg (chkA x.from_ x.to_ x.n x.of_ B x.data.length bc)] w (AcRet S w (devActs d x kind n).1 (devActs d x kind n).2):=by
 have hdc:devCheck d=0:=devCheck_ok.2 hok;by_cases hl:d.up=decide (kind=10)
 ·have he:devActs d x kind n=(Dev.zero,5):=by
   unfold devActs devAct;by_cases k1:kind=10
   ·subst k1;have hu:d.up=true:=by simpa using hl
    simp only[show ¬(10:Int)=2 by decide,show ¬(10:Int)=5 by decide,show ¬(10:Int)=6 by decide,show ¬(10:Int)=7 by decide,show ¬(10:Int)=8 by decide,show ¬(10:Int)=9 by decide,if_false,if_true];unfold devBoot;rw[if_neg (by omega),if_pos hu]
   have hu:d.up=false:=by simpa[k1]using hl
   have hr:devReady d=5:=by unfold devReady;rw[if_neg (by omega),if_pos hu]
   have hr1:devReady d≠0:=by omega
   have e1:devHear d x=(Dev.zero,5):=by unfold devHear;rw[if_pos hr1,hr]
   have e2:devOpen d=(Dev.zero,5):=by unfold devOpen;rw[if_pos hr1,hr]
   have e3:∀b,devWrite d b n=(Dev.zero,5):=fun b=>by unfold devWrite;rw[if_pos hr1,hr]
   have e4:∀b,devFinish d b=(Dev.zero,5):=fun b=>by unfold devFinish;rw[if_pos hr1,hr]
   have e5:devConfirm d=(Dev.zero,5):=by unfold devConfirm;rw[if_pos hr1,hr]
   have e6:devCrash d=(Dev.zero,5):=by unfold devCrash;rw[if_pos hr1,hr]
   rw[e1,e2,e3,e3,e4,e4,e5,e6];repeat (first|rfl|(split<;>first|rfl|omega)|split)
  rw[he];refine(acts_late d L kind n _ _ _ _ B _ bc w hl).mono ?_;rintro e w' ⟨rfl,hb⟩;exact⟨DLoc.zero,rfl,.const fun v=>DevIn.zero v,hb⟩
 have hu:d.up=!decide (kind=10):=by cases h:d.up<;>rw[h]at hl<;>simp at hl⊢<;>exact hl
 rcases hk with rfl|⟨h5,h12⟩
 ·exact acts_hear S d L n x B bc w hok hu hd hx
 have hc:kind=5∨kind=6∨kind=7∨kind=8∨kind=9∨kind=10∨kind=11∨kind=12:=by omega
 rcases hc with rfl|rfl|rfl|rfl|rfl|rfl|rfl|rfl
 ·exact acts_open S d L n _ _ _ _ B _ bc w hok hu hd
 ·by_cases c1:d.busy=false∨d.job.size<=d.done
  ·exact acts_write_bad S d L 6 n _ _ _ _ B _ bc w hok hu hd hn (.inl rfl) c1
  ·exact acts_write6_ok S d L n _ _ _ _ B _ bc w hok hu hd hn c1
 ·exact(acts_finish7 d L n _ _ _ _ B _ bc w hok hu).mono fun _ _ h=>h.on hd
 ·exact(acts_confirm d L n _ _ _ _ B _ bc w hok hu).mono fun _ _ h=>h.on hd
 ·refine(acts_crash d L n _ _ _ _ B _ bc w hu).mono ?_;rintro e w' ⟨rfl,hb⟩;have hr:devReady d=0:=by unfold devReady;rw[if_neg (by omega),if_neg (by rw[hu];decide)]
  have hz:devActs d x 9 n=(d.down,0):=by show devCrash d=_;unfold devCrash;rw[if_neg (by omega)]
  rw[hz];exact⟨L.down,rfl,((hd.sub fun k h1 h2=>.inl ⟨h2,h1⟩).below hb).imp fun v h=>h.down,hb⟩
 ·exact(acts_boot d L n _ _ _ _ B _ bc w hok hu).mono fun _ _ h=>h.on hd
 ·by_cases c1:d.busy=false∨d.job.size<=d.done
  ·exact acts_write_bad S d L 11 n _ _ _ _ B _ bc w hok hu hd hn (.inr rfl) c1
  ·exact acts_write11_ok S d L n _ _ _ _ B _ bc w hok hu hd hn c1
 exact(acts_finish12 d L n _ _ _ _ B _ bc w hok hu).mono fun _ _ h=>h.on hd
theorem On.alloc{S:Nat->Prop}{P:World->Prop}(h:On S w P)(o:Obj):On S (w.alloc o) P:=h.below (bL _)
section
variable {S T:Nat->Prop} {w w':World} {A B:OA} {l m:List Chk}
theorem On.chk_on(h:On S w (fun v=>Chs v A l)){j b o:Nat}{D:OA}{e:Nat}(hj:j<l.length)(hA:A=some ⟨b,o,none⟩)(hat:ChkAt w b (o+j*5) l[j] D e)(hin:ChkIn w l[j] D e):On S w (fun v=>ChkIn v l[j] D e):=fun v h1 h2=>
 ⟨hin.cap,hin.len,bts_keep hin.data h1.size fun hx k hlt hk=>h2 k (h.chk_in hj hA hat hx hin k hk).1 hlt,hin.i0,hin.i1,hin.i2,hin.i3⟩
theorem On.gsrc(h:On S w (fun v=>Chs v A l)):∃ds,GSrc kChk w A l ds∧Each kChk l ds S:=by
 obtain⟨ds,hg⟩:=h.now.gsrc;refine⟨ds,hg,fun i o d h1 h2 hx k hk=>?_⟩;obtain⟨hi,rfl⟩:=List.getElem?_eq_some_iff.1 h1;obtain⟨b,o1,B,c,hA,hb,hat,hin⟩:=h.now.chk hi;have hcl:=cells_len (K:=kChk) l ds hg.len;have hi1:i*5+4<(kChk.cells l ds).length:=by rw[hcl];show _<l.length*5;omega
 obtain⟨b',o',e1,hl',hc'⟩:=hg.row (i*5+4) hi1;have e2:=cells_at (K:=kChk) l ds hg.len i 4 _ d h1 h2 (by decide);have e3:(kChk.cells l ds)[i*5+4]?=some (.slice d.1 (l[i].data).length d.2):=e2;rw[List.getElem?_eq_getElem hi1]at e3;injection e3 with e3;rw[hA]at e1;injection e1 with e1;injection e1 with e4 e5;subst e4 e5;have hc1:=hat.2.2.2.2;rw[show o1+i*5+4=o1+(i*5+4) by omega,hc',e3]at hc1;injection hc1 with hc1;injection hc1 with e6 _ _;exact(h.chk_in hi hA hat hx hin k (by rw[<-e6];exact hk)).1
def CsRet(S:Nat->Prop)(w:World)(l:List Chk):Ending->World->Prop:=fun en w'=>
 ∃A c,en=.returned (.slice A l.length c)∧l.length<=c∧On (fun k=>S k∧k<w.heap.size∨w.heap.size<=k) w' (fun v=>Chs v A l)∧Below w.heap.size w w'
theorem csrc_ok{ds:List (Option Addr×Nat)}(h:GSrc kChk w A l ds)(c:Nat):(SrcOf.mk A l.length c (kChk.cells l ds)).ok w 5:=⟨cells_len (K:=kChk) l ds h.len,h.row,cells_oneCell (K:=kChk) l ds⟩
theorem chkConcat_calls{g d:Nat}{t:TypeId}{fr:Nat×Nat}(h:w.heap[g]?=some (.cells #[.slice A l.length c,.slice B m.length d] t fr))(hl:l.length+m.length<=2513169434843)(ha:On S w (fun v=>Chs v A l))(hb:On S w (fun v=>Chs v B m)):
  Calls Tryz.prog 47 #[.slice (some ⟨g,0,none⟩) 2 2] w (CsRet S w (l++m)):=by
 obtain⟨ds,hg,he⟩:=ha.gsrc;obtain⟨es,kg,ke⟩:=hb.gsrc;refine(concatChunks_calls [⟨A,l.length,c,kChk.cells l ds⟩,⟨B,m.length,d,kChk.cells m es⟩] (some ⟨g,0,none⟩) 2 w (by simp) (by simp[sumN];omega) (src_blk h) (fun s hs=>?_)).mono ?_
 ·simp only[List.mem_cons,List.not_mem_nil,or_false]at hs;rcases hs with rfl|rfl
  ·exact csrc_ok hg c
  exact csrc_ok kg d
 rintro e w' ⟨A',c',rfl,ho,hbel⟩;have e1:sumN [⟨A,l.length,c,kChk.cells l ds⟩,⟨B,m.length,d,kChk.cells m es⟩]=(l++m).length:=by simp[sumN]
 have e2:[(⟨A,l.length,c,kChk.cells l ds⟩:SrcOf),⟨B,m.length,d,kChk.cells m es⟩].flatMap SrcOf.cells=kChk.cells (l++m) (ds++es):=by
  rw[cells_append (K:=kChk) _ _ _ _ hg.len];simp
 rw[e1,e2]at ho;rw[e1];have hbd:∀x∈l++m,ChkB x:=fun x hx=>by
  rcases List.mem_append.1 hx with hx|hx
  ·exact ha.now.bound x hx
  exact hb.now.bound x hx
 have hlen:(ds++es).length=(l++m).length:=by simp[hg.len,kg.len]
 have key:∀(i:Nat) (o:Chk) (q:Option Addr×Nat),(l++m)[i]?=some o->(ds++es)[i]?=some q->(Bts w q.1 o.data∧o.data.length<=q.2)∧(o.data≠[]->∀k,q.1.map (·.block)=some k->S k):=fun i o q h1 h2=>by
  by_cases hil:i<l.length
  ·rw[List.getElem?_append_left hil]at h1;rw[List.getElem?_append_left (by rw[hg.len];exact hil)]at h2;exact⟨hg.data _ _ _ h1 h2,he _ _ _ h1 h2⟩
  rw[List.getElem?_append_right (by omega)]at h1;rw[List.getElem?_append_right (by rw[hg.len];omega),hg.len]at h2;exact⟨kg.data _ _ _ h1 h2,ke _ _ _ h1 h2⟩
 refine⟨A',c',rfl,ho.le,fun v h1 h2=>GSrc.chs (ds:=ds++es) ⟨hlen,?_,fun i o q h3 h4=>?_⟩ hbd,hbel⟩
 ·refine(ho.same (w':=v) fun k hk=>h2 k (.inr (ho.block k hk).1) (ho.block k hk).2).src
 obtain⟨⟨k1,k2⟩,k3⟩:=key i o q h3 h4;refine⟨bts_keep (k1.stays hbel) h1.size fun hx k hlt hk=>?_,k2⟩;have hk':=bts_block k1 hx k hk;exact h2 k (.inl ⟨k3 hx k hk,hk'⟩) hlt
end
