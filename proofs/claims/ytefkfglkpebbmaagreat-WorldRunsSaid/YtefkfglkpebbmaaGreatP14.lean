/- Walks of functions, and plain words. No conditions. -/
import Derived.Test.YtefkfglkpebbmaaGreatP13
set_option linter.unusedVariables false
set_option linter.unusedSimpArgs false
set_option maxRecDepth 100000
set_option maxHeartbeats 40000000
namespace Go.Proofs.YtefkfglkpebbmaaGreat
open Go.RowKit
variable {Y:Prop}
variable {w:World}
theorem acts_write6_ok(S:Nat->Prop)(d:Dev)(L:DLoc)(n f t m o:Int)(B:OA)(bl bc:Nat)(w:World)(hok:DevOk d)(hu:d.up=true)(hd:On S w (fun v=>DevIn v d L))(hin:I64 n)(c1:¬(d.busy=false∨d.job.size<=d.done)):Calls Tryz.prog 33 #[.agg (devA d L),.agg #[iv 6,iv n],.agg (chkA f t m o B bl bc)] w (AcRet S w (devWrite d false n).1 (devWrite d false n).2):=by
 have hrec:=rec_ok hok;have hrd:devReady d=0:=by unfold devReady;rw[if_neg (by simpa using devCheck_ok.2 hok),if_neg (by rw[hu];decide)]
 have KN:=qH (fun w=>newest_calls d.c0 d.c1 w);rw[refNewest_ok hok.cops]at KN;obtain⟨rk,hrk⟩:=eX ((recRead d.c0 d.c1).2);have hre:(recRead d.c0 d.c1).1=d.rec_:=rfl;rw[hrk,hre]at KN;clear hrk hre;have hact:=rec_active hrec;have hdef:d.busy=true->¬d.job.size<=d.done->devWrite d false n=({d.setSlot (1-d.rec_.active) (d.put (patDo (sumOn 1) d.job (d.image d.rec_.active d.rec_)).1 (keepN false n).toNat)with done:=d.done+keepN false n},0):=fun hb hs=>by
  exact x9sb
 have hdef1:(d.busy=false∨d.job.size<=d.done)->devWrite d false n=(Dev.zero,5):=fun h=>by
  exact x0n2
 have hfacts:d.busy=true->(patDo (sumOn 1) d.job (d.image d.rec_.active d.rec_)).2=0∧0<=d.done∧d.done%8=0∧((patDo (sumOn 1) d.job (d.image d.rec_.active d.rec_)).1.length:Int)=d.job.size∧d.job.size<=64:=fun hb=>by
  exact x219
 have HD:=qH hdef;have HD1:=qH hdef1;have HFA:=qH hfacts;have HI:=qH hd;have K1:=qH (fun v (hb:Below w.heap.size w v)=>imageOf_calls d L v (hd.at_ hb) hok.l0 hok.l1 hok.cops);have hil:(d.image d.rec_.active d.rec_).length<=140737488351232:=by unfold Dev.image;rw[List.length_take];have:=slot_len hok.l0 hok.l1 d.rec_.active;omega
 have hl2:=hok.l0;have hl1:=hok.l1;generalize devWrite d false n=res at *
 clear hrec hrd hok hdef hdef1 hfacts hd;generalize hrr:d.rec_=r at *
 have HRR:=qH hrr;clear hrr;go_enter Tryz.func33,Tryz.ntmps33;go_wp2_with fail;refine(KN.out _).mono ?_;rintro e w1 ⟨rfl,hb⟩;obtain⟨a0r,a0f,a0n,a0c,a0z,a0l⟩:=kp (w.heap.size) (devA d L) hb;obtain⟨a1r,a1f,a1n,a1c,a1z,a1l⟩:=kp (w.heap.size+1) (#[iv 6,iv n]) hb;obtain⟨a3r,a3f,a3n,a3c,a3z,a3l⟩:=kp (w.heap.size+1+1+1) (devA Dev.zero DLoc.zero) hb;have a1:=kp (w.heap.size+1+1+1+1) (#[.func (Fn.func 69) #[] #[]]) hb;have HB1:Hid (Below w.heap.size w w1):=qH (((((((bW w).alloc nl (.cells (devA d L) 38)).alloc (by simp) (.cells #[iv 6,iv n] 50)).alloc (by simp;omega) (.cells (chkA f t m o B bl bc) 61)).alloc (by simp;omega) (.cells (devA Dev.zero DLoc.zero) 38)).alloc (by simp;omega) _).trans (hb.mono (by simp;omega)));clear hb;go_upto_region 7 with fail
 obtain⟨w2,hw2⟩:=eX (w1.alloc (.cells (recA r) 29));have hb:Below w1.heap.size w1 w2:=by rw[<-hw2];exact bL _
 have hrr:rowOf w2 w1.heap.size=recA r∧frOf w2 w1.heap.size=(0,0):=by rw[<-hw2];exact⟨by rw[rowOf_alloc,if_pos rfl],by rw[frOf_alloc,if_pos rfl]⟩
 obtain⟨a0r,a0f,a0n,a0c,a0z,a0l⟩:=keep1 (g:=w.heap.size) (cs:=devA d L) hb a0r (by first|(go_simp;done)|simp[recA]) a0f;obtain⟨a1r,a1f,a1n,a1c,a1z,a1l⟩:=keep1 (g:=w.heap.size+1) (cs:=#[iv 6,iv n]) hb a1r (by first|(go_simp;done)|simp[recA]) a1f;obtain⟨a3r,a3f,a3n,a3c,a3z,a3l⟩:=keep1 (g:=w.heap.size+1+1+1) (cs:=devA Dev.zero DLoc.zero) hb a3r (by first|(go_simp;done)|simp[recA]) a3f;have a1:=keep1 (g:=w.heap.size+1+1+1+1) (cs:=#[.func (Fn.func 69) #[] #[]]) hb a1.1 (by first|(go_simp;done)|simp[recA]) a1.2.1;obtain⟨r0r,r0f,r0n,r0c,r0z,r0l⟩:=keep1 (bW w2) hrr.1 (by simp[recA]) hrr.2;have HB2:=bT HB1 hb;have hs1:w.heap.size+5<=w1.heap.size:=by omega
 have hs2:w1.heap.size<w2.heap.size:=r0l;rw[hw2];clear hw2 hb hrr HB1;have c2:d.busy=true:=by cases h:d.busy;exact absurd (.inl h) c1;rfl
 have c3:¬d.job.size<=d.done:=fun h=>c1 (.inr h);have hz:=HD.out c2 (by omega);obtain⟨f1,f2,f3,f4,f5⟩:=HFA.out c2;clear c1 HD HD1 HFA KN hu a1;generalize hri:d.image r.active r=im at *
 obtain⟨⟨b',en⟩,hpd⟩:∃x,patDo (sumOn 1) d.job im=x:=⟨_,rfl⟩;rw[hpd]at hz f1 f4;dsimp only at hz f1 f4;subst f1;have KI:Hid (∀wq,Below w2.heap.size w2 wq->Calls Tryz.prog 54 #[.agg (devA d L)] wq (ImRet wq im)):=qH (fun wq h=>K1.out wq (HB2.out.trans (h.mono HB2.out.size)));have KD:Hid (∀wq A c,Below w2.heap.size w2 wq->im.length<=c->Bts wq A im->Calls Tryz.prog 53 #[.agg (patA d.job.from_ d.job.to_ d.job.old d.job.new_ d.job.size L.aj d.job.ops.length L.cj),.slice A im.length c] wq (ByRet2 wq b' 0)):=qH (fun wq A c h hc hb=>by
  exact x3ft)
 have HZ:=qH hz;clear hpd K1 hz hri hil;have RD:Hid (rowOf w2 w.heap.size=devA d L):=qH a0r;have FD:Hid (frOf w2 w.heap.size=(0,0)):=qH a0f;go_wp2_with fail;have hq1:=fun v (h:Below w2.heap.size w2 v)=>keep1 h RD.out (by go_simp) FD.out
 go_region_held3 (fun v=>Below w2.heap.size w2 v) (first|exact hbb|exact(Below.refl _ _).drew)
  (first
    |(go_at_call 54;refine(KI.out _ (by assumption)).mono ?_;rintro e wj ⟨Aj,cj,rfl,h3,h4,h5⟩;have hbb:=(bW w2).drew.trans (h5.mono (by simp)))
    |(go_at_call 53;refine(KD.out _ _ _ (by assumption) h3 h4).mono ?_;rintro e w3 ⟨A5,c5',rfl,g1,g2,g9⟩;have hbb:=hbb.trans (g9.mono hbb.size)))
 have g3:=hbb;clear hbb g9 h3 h4 h5 hq1;obtain⟨a0r,a0f,a0n,a0c,a0z,a0l⟩:=keep1 (g:=w.heap.size) (cs:=devA d L) g3 a0r (by first|(go_simp;done)|simp[recA]) a0f;obtain⟨a1r,a1f,a1n,a1c,a1z,a1l⟩:=keep1 (g:=w.heap.size+1) (cs:=#[iv 6,iv n]) g3 a1r (by first|(go_simp;done)|simp[recA]) a1f;obtain⟨a3r,a3f,a3n,a3c,a3z,a3l⟩:=keep1 (g:=w.heap.size+1+1+1) (cs:=devA Dev.zero DLoc.zero) g3 a3r (by first|(go_simp;done)|simp[recA]) a3f;obtain⟨r0r,r0f,r0n,r0c,r0z,r0l⟩:=keep1 (g:=w1.heap.size) (cs:=recA r) g3 r0r (by first|(go_simp;done)|simp[recA]) r0f;have HB1:Hid (Below w.heap.size w w3):=qH (HB2.out.trans (g3.mono HB2.out.size));have hs4:w2.heap.size<=w3.heap.size:=g3.size;have HBB:=qH g1;have HC1:=qH g2;clear g1 g2 g3 KI KD RD FD HB2;obtain⟨N,hN⟩:∃N:Nat,keepN false n=(N:Int):=⟨(keepN false n).toNat,by have:=(keepN_bd false n).1;omega⟩;have hN1:N<=8:=by have:=(keepN_bd false n).2;omega
 rw[hN]at HZ;have HN:=qH hN;clear hN;go_upto_if 176 with fail
 go_cut [21] (fun v wx=>v=iv (N:Int)∧w3=wx)
 case first=>
  have h3x:Hid ((8:Int)=(N:Int)):=qH (by rw[<-HN.out];simp[keepN]);go_wp2_with fail;go_meet
  case rel=>exact⟨by rw[<-h3x.out],rfl⟩
 case rest=>
 obtain⟨rfl,rfl⟩:=hcut;obtain⟨a,ha⟩:∃a:Nat,r.active=(a:Int):=⟨r.active.toNat,by omega⟩;obtain⟨a',haa⟩:∃a':Nat,a+a'=1:=⟨1-a,by omega⟩;have ha1:a'<=1:=by omega
 have hw1:IntKind.i64.wrap ((1:Int)-(a:Int))=(a':Int):=by rw[IntWalk.i64_in _ (by omega)];omega
 have i1:(0:Int)<=(a':Int):=by omega
 have i2:(a':Int)<2:=by omega
 have i3:¬(2:Int)<=(a':Int):=by omega
 obtain⟨A1,c4,p1,p2,p3⟩:=devSlotA (HI.out.at_ HB1.out) ha1;have hsl:=slot_len hl2 hl1 (a':Int);generalize hgs:d.slot (a':Int)=sl at *
 have HP1:=qH p3;clear p3;have HOZ:Hid (Own (w3.alloc (.cells #[] 5)) w3.heap.size 5 1 (some ⟨w3.heap.size,0,none⟩) 0 0 []):=qH (own_zero w3 5 1);have HSR:Hid (Src (w3.alloc (.cells #[] 5)) A1 (sl.map bv)):=qH ((HP1.out.stays (bL _)).src);rw[hsl]at p1 p2;go_wp2_with (at_builtin;go_must (refine wpList_app _ rfl (.tmp 181) (.tmp 187) 23 rfl elBytes w3.heap.size (some ⟨w3.heap.size,0,none⟩) 0 0 [] rfl HOZ.out A1 64 c4 (sl.map bv) rfl HSR.out (by simp[hsl]) (by simp[Value.oneCell',bv]) (by omega) (by simp) ?_));intro A2 c7 w4 hown _ hbel _;have hbx:Below w3.heap.size w3 w4:=(bL _).trans hbel;have RA:=qH (And.intro a0r a0f);have RH:=qH (And.intro a1r a1f);have RZ:=qH (And.intro a3r a3f);have RR:=qH (And.intro r0r r0f);obtain⟨a0r,a0f,a0n,a0c,a0z,a0l⟩:=keep1 (g:=w.heap.size) (cs:=devA d L) hbx a0r (by first|(go_simp;done)|simp[recA]) a0f;obtain⟨a1r,a1f,a1n,a1c,a1z,a1l⟩:=keep1 (g:=w.heap.size+1) (cs:=#[iv 6,iv n]) hbx a1r (by first|(go_simp;done)|simp[recA]) a1f;obtain⟨a3r,a3f,a3n,a3c,a3z,a3l⟩:=keep1 (g:=w.heap.size+1+1+1) (cs:=devA Dev.zero DLoc.zero) hbx a3r (by first|(go_simp;done)|simp[recA]) a3f;obtain⟨r0r,r0f,r0n,r0c,r0z,r0l⟩:=keep1 (g:=w1.heap.size) (cs:=recA r) hbx r0r (by first|(go_simp;done)|simp[recA]) r0f;have HB2:=bT HB1 hbx;obtain⟨g3,rfl,hg1,hg2⟩:=hown.form (by omega);obtain⟨dn,hdn⟩:∃dn:Nat,d.done=(dn:Int):=⟨d.done.toNat,by omega⟩;have hd1:dn+8<=64:=by omega
 have hb1:b'.length<=64:=by omega
 have hrl:=room_len hb1;have HO1:Hid (Own w4 w3.heap.size 5 1 (some ⟨g3,0,none⟩) 64 c7 ((putU sl (room b') dn 0).map bv)):=qH (by rw[putU_0];simpa using hown);have HX1:=qH hbx;clear hown hbel hbx HOZ HSR;go_wp2_with fail;go_loopw [190] (fun i wr=>∃k:Nat,k<=N∧i=iv k∧Hid (Own wr w3.heap.size 5 1 (some ⟨g3,0,none⟩) 64 c7 ((putU sl (room b') dn k).map bv))∧Hid (Below w3.heap.size w3 wr)) (fun i _=>N-(intOf i).toNat)
 case atStart=>exact⟨0,Nat.zero_le _,rfl,HO1,HX1⟩
 case round=>
  rename World=>wr;obtain⟨k,hk,rfl,HO,HX⟩:=hrel;by_cases hlk:k<N
  ·exact x9nj
  obtain rfl:k=N:=by omega
  obtain⟨a0r,a0f,a0n,a0c,a0z,a0l⟩:=keep1 (g:=w.heap.size) (cs:=devA d L) HX.out RA.out.1 (by first|(go_simp;done)|simp[recA]) RA.out.2;obtain⟨a1r,a1f,a1n,a1c,a1z,a1l⟩:=keep1 (g:=w.heap.size+1) (cs:=#[iv 6,iv n]) HX.out RH.out.1 (by first|(go_simp;done)|simp[recA]) RH.out.2;obtain⟨a3r,a3f,a3n,a3c,a3z,a3l⟩:=keep1 (g:=w.heap.size+1+1+1) (cs:=devA Dev.zero DLoc.zero) HX.out RZ.out.1 (by first|(go_simp;done)|simp[recA]) RZ.out.2;obtain⟨r0r,r0f,r0n,r0c,r0z,r0l⟩:=keep1 (g:=w1.heap.size) (cs:=recA r) HX.out RR.out.1 (by first|(go_simp;done)|simp[recA]) RR.out.2;have HBr:Hid (Below w.heap.size w wr):=qH (HB1.out.trans (HX.out.mono HB1.out.size));have HF:=qH HO.out.fresh;have hc1:64<=c7:=HO.out.le;have hnl:(putU sl (room b') dn k).length=64:=by rw[putU_len (by omega) (by omega),hsl]
  have hput:d.put b' ((k:Int)).toNat=putU sl (room b') dn k:=by
   exact x29x
  have hz:=HZ.out;rw[ha,show (1:Int)-(a:Int)=(a':Int) by omega,hput,hdn]at hz;have hin:∀v,DevIn v d L->Bts v (some ⟨g3,0,none⟩) (putU sl (room b') dn k)->DevIn v {d.setSlot (a':Int) (putU sl (room b') dn k)with done:=(dn:Int)+(k:Int)} (L.setS a' (some ⟨g3,0,none⟩) c7):=fun v h g=>h.put ha1 g hnl hc1 ⟨by omega,by omega⟩;have h3:w.heap.size<w3.heap.size:=by omega
  have hs3:=HX.out.size;have o1:On (fun q=>S q∧q<w.heap.size∨w3.heap.size<=q) wr (fun v=>DevIn v d L):=((HI.out.sub (fun q h1 h2=>.inl ⟨h2,h1⟩)).below HBr.out);have o2:On (fun q=>S q∧q<w.heap.size∨w3.heap.size<=q) wr (fun v=>Bts v (some ⟨g3,0,none⟩) (putU sl (room b') dn k)):=(On.fresh HF.out).sub fun q _ h=>.inr h;have HON:=qH ((o1.and o2).imp fun v ⟨h,g⟩=>hin v h g);have hds:=devA_setS d L ha1 (A:=some ⟨g3,0,none⟩) (c:=c7) hnl;have hdo:(d.setSlot (a':Int) (putU sl (room b') dn k)).done=(dn:Int):=by unfold Dev.setSlot;split<;>exact hdn
  generalize d.setSlot (a':Int) (putU sl (room b') dn k)=d2 at *
  generalize L.setS a' (some ⟨g3,0,none⟩) c7=L2 at *
  have hds1:(devA d2 L2).setIfInBounds 36 (iv ((dn:Int)+(k:Int)))=devA {d2 with done:=(dn:Int)+(k:Int)} L2:=rfl;have hwn:IntKind.i64.wrap ((dn:Int)+(k:Int))=(dn:Int)+(k:Int):=IntWalk.i64_in _ (by omega);clear hput hin o1 o2 HF HO HI HO1 HX1 HBB hgs HZ;subst hz;go_wp2_with fail;refine bodyPost_ret (rC (devA {d2 with done:=(dn:Int)+(k:Int)} L2)) rfl ⟨L2,rfl,?_,?_⟩
  ·have ho:On (fun q=>S q∧q<w.heap.size∨w3.heap.size<=q) wr (fun v=>DevIn v {d2 with done:=(dn:Int)+(k:Int)} L2):=HON.out;refine On.sub (S:=fun q=>S q∧q<w.heap.size∨w3.heap.size<=q) ?_ (fun q _ h=>h.elim .inl (fun h=>.inr (by omega)));repeat (first|exact ho|refine On.row ?_ (by rintro (h|h)<;>omega) _|refine On.cell2 ?_ (by rintro (h|h)<;>omega) _)
  exact bZ HBr
theorem acts_write11_ok(S:Nat->Prop)(d:Dev)(L:DLoc)(n f t m o:Int)(B:OA)(bl bc:Nat)(w:World)(hok:DevOk d)(hu:d.up=true)(hd:On S w (fun v=>DevIn v d L))(hin:I64 n)(c1:¬(d.busy=false∨d.job.size<=d.done)):Calls Tryz.prog 33 #[.agg (devA d L),.agg #[iv 11,iv n],.agg (chkA f t m o B bl bc)] w (AcRet S w (devWrite d true n).1 (devWrite d true n).2):=by
 have hrec:=rec_ok hok;have hrd:devReady d=0:=by unfold devReady;rw[if_neg (by simpa using devCheck_ok.2 hok),if_neg (by rw[hu];decide)]
 have KN:=qH (fun w=>newest_calls d.c0 d.c1 w);rw[refNewest_ok hok.cops]at KN;obtain⟨rk,hrk⟩:=eX ((recRead d.c0 d.c1).2);have hre:(recRead d.c0 d.c1).1=d.rec_:=rfl;rw[hrk,hre]at KN;clear hrk hre;have hact:=rec_active hrec;have hdef:d.busy=true->¬d.job.size<=d.done->devWrite d true n=(Dev.down {d.setSlot (1-d.rec_.active) (d.put (patDo (sumOn 1) d.job (d.image d.rec_.active d.rec_)).1 (keepN true n).toNat)with done:=d.done+keepN true n},0):=fun hb hs=>by
  exact x9sb
 have hdef1:(d.busy=false∨d.job.size<=d.done)->devWrite d true n=(Dev.zero,5):=fun h=>by
  exact x0n2
 have hfacts:d.busy=true->(patDo (sumOn 1) d.job (d.image d.rec_.active d.rec_)).2=0∧0<=d.done∧d.done%8=0∧((patDo (sumOn 1) d.job (d.image d.rec_.active d.rec_)).1.length:Int)=d.job.size∧d.job.size<=64:=fun hb=>by
  exact x219
 have HD:=qH hdef;have HD1:=qH hdef1;have HFA:=qH hfacts;have HI:=qH hd;have K1:=qH (fun v (hb:Below w.heap.size w v)=>imageOf_calls d L v (hd.at_ hb) hok.l0 hok.l1 hok.cops);have hil:(d.image d.rec_.active d.rec_).length<=140737488351232:=by unfold Dev.image;rw[List.length_take];have:=slot_len hok.l0 hok.l1 d.rec_.active;omega
 have hl2:=hok.l0;have hl1:=hok.l1;generalize devWrite d true n=res at *
 clear hrec hrd hok hdef hdef1 hfacts hd;generalize hrr:d.rec_=r at *
 have HRR:=qH hrr;clear hrr;go_enter Tryz.func33,Tryz.ntmps33;go_wp2_with fail;refine(KN.out _).mono ?_;rintro e w1 ⟨rfl,hb⟩;obtain⟨a0r,a0f,a0n,a0c,a0z,a0l⟩:=kp (w.heap.size) (devA d L) hb;obtain⟨a1r,a1f,a1n,a1c,a1z,a1l⟩:=kp (w.heap.size+1) (#[iv 11,iv n]) hb;obtain⟨a3r,a3f,a3n,a3c,a3z,a3l⟩:=kp (w.heap.size+1+1+1) (devA Dev.zero DLoc.zero) hb;have a1:=kp (w.heap.size+1+1+1+1) (#[.func (Fn.func 69) #[] #[]]) hb;have HB1:Hid (Below w.heap.size w w1):=qH (((((((bW w).alloc nl (.cells (devA d L) 38)).alloc (by simp) (.cells #[iv 11,iv n] 50)).alloc (by simp;omega) (.cells (chkA f t m o B bl bc) 61)).alloc (by simp;omega) (.cells (devA Dev.zero DLoc.zero) 38)).alloc (by simp;omega) _).trans (hb.mono (by simp;omega)));clear hb;go_upto_region 7 with fail
 obtain⟨w2,hw2⟩:=eX (w1.alloc (.cells (recA r) 29));have hb:Below w1.heap.size w1 w2:=by rw[<-hw2];exact bL _
 have hrr:rowOf w2 w1.heap.size=recA r∧frOf w2 w1.heap.size=(0,0):=by rw[<-hw2];exact⟨by rw[rowOf_alloc,if_pos rfl],by rw[frOf_alloc,if_pos rfl]⟩
 obtain⟨a0r,a0f,a0n,a0c,a0z,a0l⟩:=keep1 (g:=w.heap.size) (cs:=devA d L) hb a0r (by first|(go_simp;done)|simp[recA]) a0f;obtain⟨a1r,a1f,a1n,a1c,a1z,a1l⟩:=keep1 (g:=w.heap.size+1) (cs:=#[iv 11,iv n]) hb a1r (by first|(go_simp;done)|simp[recA]) a1f;obtain⟨a3r,a3f,a3n,a3c,a3z,a3l⟩:=keep1 (g:=w.heap.size+1+1+1) (cs:=devA Dev.zero DLoc.zero) hb a3r (by first|(go_simp;done)|simp[recA]) a3f;have a1:=keep1 (g:=w.heap.size+1+1+1+1) (cs:=#[.func (Fn.func 69) #[] #[]]) hb a1.1 (by first|(go_simp;done)|simp[recA]) a1.2.1;obtain⟨r0r,r0f,r0n,r0c,r0z,r0l⟩:=keep1 (bW w2) hrr.1 (by simp[recA]) hrr.2;have HB2:=bT HB1 hb;have hs1:w.heap.size+5<=w1.heap.size:=by omega
 have hs2:w1.heap.size<w2.heap.size:=r0l;rw[hw2];clear hw2 hb hrr HB1;have c2:d.busy=true:=by cases h:d.busy;exact absurd (.inl h) c1;rfl
 have c3:¬d.job.size<=d.done:=fun h=>c1 (.inr h);have hz:=HD.out c2 (by omega);obtain⟨f1,f2,f3,f4,f5⟩:=HFA.out c2;clear c1 HD HD1 HFA KN hu a1;generalize hri:d.image r.active r=im at *
 obtain⟨⟨b',en⟩,hpd⟩:∃x,patDo (sumOn 1) d.job im=x:=⟨_,rfl⟩;rw[hpd]at hz f1 f4;dsimp only at hz f1 f4;subst f1;have KI:Hid (∀wq,Below w2.heap.size w2 wq->Calls Tryz.prog 54 #[.agg (devA d L)] wq (ImRet wq im)):=qH (fun wq h=>K1.out wq (HB2.out.trans (h.mono HB2.out.size)));have KD:Hid (∀wq A c,Below w2.heap.size w2 wq->im.length<=c->Bts wq A im->Calls Tryz.prog 53 #[.agg (patA d.job.from_ d.job.to_ d.job.old d.job.new_ d.job.size L.aj d.job.ops.length L.cj),.slice A im.length c] wq (ByRet2 wq b' 0)):=qH (fun wq A c h hc hb=>by
  exact x3ft)
 have HZ:=qH hz;clear hpd K1 hz hri hil;have RD:Hid (rowOf w2 w.heap.size=devA d L):=qH a0r;have FD:Hid (frOf w2 w.heap.size=(0,0)):=qH a0f;go_wp2_with fail;have hq1:=fun v (h:Below w2.heap.size w2 v)=>keep1 h RD.out (by go_simp) FD.out
 go_region_held3 (fun v=>Below w2.heap.size w2 v) (first|exact hbb|exact(Below.refl _ _).drew)
  (first
    |(go_at_call 54;refine(KI.out _ (by assumption)).mono ?_;rintro e wj ⟨Aj,cj,rfl,h3,h4,h5⟩;have hbb:=(bW w2).drew.trans (h5.mono (by simp)))
    |(go_at_call 53;refine(KD.out _ _ _ (by assumption) h3 h4).mono ?_;rintro e w3 ⟨A5,c5',rfl,g1,g2,g9⟩;have hbb:=hbb.trans (g9.mono hbb.size)))
 have g3:=hbb;clear hbb g9 h3 h4 h5 hq1;obtain⟨a0r,a0f,a0n,a0c,a0z,a0l⟩:=keep1 (g:=w.heap.size) (cs:=devA d L) g3 a0r (by first|(go_simp;done)|simp[recA]) a0f;obtain⟨a1r,a1f,a1n,a1c,a1z,a1l⟩:=keep1 (g:=w.heap.size+1) (cs:=#[iv 11,iv n]) g3 a1r (by first|(go_simp;done)|simp[recA]) a1f;obtain⟨a3r,a3f,a3n,a3c,a3z,a3l⟩:=keep1 (g:=w.heap.size+1+1+1) (cs:=devA Dev.zero DLoc.zero) g3 a3r (by first|(go_simp;done)|simp[recA]) a3f;obtain⟨r0r,r0f,r0n,r0c,r0z,r0l⟩:=keep1 (g:=w1.heap.size) (cs:=recA r) g3 r0r (by first|(go_simp;done)|simp[recA]) r0f;have HB1:Hid (Below w.heap.size w w3):=qH (HB2.out.trans (g3.mono HB2.out.size));have hs4:w2.heap.size<=w3.heap.size:=g3.size;have HBB:=qH g1;have HC1:=qH g2;clear g1 g2 g3 KI KD RD FD HB2;obtain⟨N,hN⟩:∃N:Nat,keepN true n=(N:Int):=⟨(keepN true n).toNat,by have:=(keepN_bd true n).1;omega⟩;have hN1:N<=8:=by have:=(keepN_bd true n).2;omega
 rw[hN]at HZ;have HN:=qH hN;clear hN;go_upto_if 176 with fail
 go_cut [21] (fun v wx=>v=iv (N:Int)∧w3=wx)
 case first=>
  have h3x:max 0 (min 8 n)=(N:Int):=by rw[<-HN.out];simp[keepN]
  have h1x:=run_min8 n;have h2x:=run_max0 (min 8 n);go_wp2_with fail;go_meet
  case rel=>exact⟨by rw[<-h3x],rfl⟩
 case rest=>
 obtain⟨rfl,rfl⟩:=hcut;obtain⟨a,ha⟩:∃a:Nat,r.active=(a:Int):=⟨r.active.toNat,by omega⟩;obtain⟨a',haa⟩:∃a':Nat,a+a'=1:=⟨1-a,by omega⟩;have ha1:a'<=1:=by omega
 have hw1:IntKind.i64.wrap ((1:Int)-(a:Int))=(a':Int):=by rw[IntWalk.i64_in _ (by omega)];omega
 have i1:(0:Int)<=(a':Int):=by omega
 have i2:(a':Int)<2:=by omega
 have i3:¬(2:Int)<=(a':Int):=by omega
 obtain⟨A1,c4,p1,p2,p3⟩:=devSlotA (HI.out.at_ HB1.out) ha1;have hsl:=slot_len hl2 hl1 (a':Int);generalize hgs:d.slot (a':Int)=sl at *
 have HP1:=qH p3;clear p3;have HOZ:Hid (Own (w3.alloc (.cells #[] 5)) w3.heap.size 5 1 (some ⟨w3.heap.size,0,none⟩) 0 0 []):=qH (own_zero w3 5 1);have HSR:Hid (Src (w3.alloc (.cells #[] 5)) A1 (sl.map bv)):=qH ((HP1.out.stays (bL _)).src);rw[hsl]at p1 p2;go_wp2_with (at_builtin;go_must (refine wpList_app _ rfl (.tmp 181) (.tmp 187) 23 rfl elBytes w3.heap.size (some ⟨w3.heap.size,0,none⟩) 0 0 [] rfl HOZ.out A1 64 c4 (sl.map bv) rfl HSR.out (by simp[hsl]) (by simp[Value.oneCell',bv]) (by omega) (by simp) ?_));intro A2 c7 w4 hown _ hbel _;have hbx:Below w3.heap.size w3 w4:=(bL _).trans hbel;have RA:=qH (And.intro a0r a0f);have RH:=qH (And.intro a1r a1f);have RZ:=qH (And.intro a3r a3f);have RR:=qH (And.intro r0r r0f);obtain⟨a0r,a0f,a0n,a0c,a0z,a0l⟩:=keep1 (g:=w.heap.size) (cs:=devA d L) hbx a0r (by first|(go_simp;done)|simp[recA]) a0f;obtain⟨a1r,a1f,a1n,a1c,a1z,a1l⟩:=keep1 (g:=w.heap.size+1) (cs:=#[iv 11,iv n]) hbx a1r (by first|(go_simp;done)|simp[recA]) a1f;obtain⟨a3r,a3f,a3n,a3c,a3z,a3l⟩:=keep1 (g:=w.heap.size+1+1+1) (cs:=devA Dev.zero DLoc.zero) hbx a3r (by first|(go_simp;done)|simp[recA]) a3f;obtain⟨r0r,r0f,r0n,r0c,r0z,r0l⟩:=keep1 (g:=w1.heap.size) (cs:=recA r) hbx r0r (by first|(go_simp;done)|simp[recA]) r0f;have HB2:=bT HB1 hbx;obtain⟨g3,rfl,hg1,hg2⟩:=hown.form (by omega);obtain⟨dn,hdn⟩:∃dn:Nat,d.done=(dn:Int):=⟨d.done.toNat,by omega⟩;have hd1:dn+8<=64:=by omega
 have hb1:b'.length<=64:=by omega
 have hrl:=room_len hb1;have HO1:Hid (Own w4 w3.heap.size 5 1 (some ⟨g3,0,none⟩) 64 c7 ((putU sl (room b') dn 0).map bv)):=qH (by rw[putU_0];simpa using hown);have HX1:=qH hbx;clear hown hbel hbx HOZ HSR;go_wp2_with fail;go_loopw [190] (fun i wr=>∃k:Nat,k<=N∧i=iv k∧Hid (Own wr w3.heap.size 5 1 (some ⟨g3,0,none⟩) 64 c7 ((putU sl (room b') dn k).map bv))∧Hid (Below w3.heap.size w3 wr)) (fun i _=>N-(intOf i).toNat)
 case atStart=>exact⟨0,Nat.zero_le _,rfl,HO1,HX1⟩
 case round=>
  rename World=>wr;obtain⟨k,hk,rfl,HO,HX⟩:=hrel;by_cases hlk:k<N
  ·exact x9nj
  obtain rfl:k=N:=by omega
  obtain⟨a0r,a0f,a0n,a0c,a0z,a0l⟩:=keep1 (g:=w.heap.size) (cs:=devA d L) HX.out RA.out.1 (by first|(go_simp;done)|simp[recA]) RA.out.2;obtain⟨a1r,a1f,a1n,a1c,a1z,a1l⟩:=keep1 (g:=w.heap.size+1) (cs:=#[iv 11,iv n]) HX.out RH.out.1 (by first|(go_simp;done)|simp[recA]) RH.out.2;obtain⟨a3r,a3f,a3n,a3c,a3z,a3l⟩:=keep1 (g:=w.heap.size+1+1+1) (cs:=devA Dev.zero DLoc.zero) HX.out RZ.out.1 (by first|(go_simp;done)|simp[recA]) RZ.out.2;obtain⟨r0r,r0f,r0n,r0c,r0z,r0l⟩:=keep1 (g:=w1.heap.size) (cs:=recA r) HX.out RR.out.1 (by first|(go_simp;done)|simp[recA]) RR.out.2;have HBr:Hid (Below w.heap.size w wr):=qH (HB1.out.trans (HX.out.mono HB1.out.size));have HF:=qH HO.out.fresh;have hc1:64<=c7:=HO.out.le;have hnl:(putU sl (room b') dn k).length=64:=by rw[putU_len (by omega) (by omega),hsl]
  have hput:d.put b' ((k:Int)).toNat=putU sl (room b') dn k:=by
   exact x29x
  have hz:=HZ.out;rw[ha,show (1:Int)-(a:Int)=(a':Int) by omega,hput,hdn]at hz;have hin:∀v,DevIn v d L->Bts v (some ⟨g3,0,none⟩) (putU sl (room b') dn k)->DevIn v {d.setSlot (a':Int) (putU sl (room b') dn k)with done:=(dn:Int)+(k:Int)} (L.setS a' (some ⟨g3,0,none⟩) c7):=fun v h g=>h.put ha1 g hnl hc1 ⟨by omega,by omega⟩;have h3:w.heap.size<w3.heap.size:=by omega
  have hs3:=HX.out.size;have o1:On (fun q=>S q∧q<w.heap.size∨w3.heap.size<=q) wr (fun v=>DevIn v d L):=((HI.out.sub (fun q h1 h2=>.inl ⟨h2,h1⟩)).below HBr.out);have o2:On (fun q=>S q∧q<w.heap.size∨w3.heap.size<=q) wr (fun v=>Bts v (some ⟨g3,0,none⟩) (putU sl (room b') dn k)):=(On.fresh HF.out).sub fun q _ h=>.inr h;have HON:=qH ((o1.and o2).imp fun v ⟨h,g⟩=>hin v h g);have hds:=devA_setS d L ha1 (A:=some ⟨g3,0,none⟩) (c:=c7) hnl;have hdo:(d.setSlot (a':Int) (putU sl (room b') dn k)).done=(dn:Int):=by unfold Dev.setSlot;split<;>exact hdn
  generalize d.setSlot (a':Int) (putU sl (room b') dn k)=d2 at *
  generalize L.setS a' (some ⟨g3,0,none⟩) c7=L2 at *
  have hds1:(devA d2 L2).setIfInBounds 36 (iv ((dn:Int)+(k:Int)))=devA {d2 with done:=(dn:Int)+(k:Int)} L2:=rfl;have hwn:IntKind.i64.wrap ((dn:Int)+(k:Int))=(dn:Int)+(k:Int):=IntWalk.i64_in _ (by omega);clear hput hin o1 o2 HF HO HI HO1 HX1 HBB hgs HZ;subst hz;go_wp2_with fail;refine(without_calls _ _ _).mono ?_;rintro e w5 ⟨rfl,hb⟩;have c5:=kp (w.heap.size) (devA {d2 with done:=(dn:Int)+(k:Int)} L2) hb;have c3k:=kp (w.heap.size+1+1+1) (devA Dev.zero DLoc.zero) hb;have HON1:Hid (On (fun q=>S q∧q<w.heap.size∨w3.heap.size<=q) w5 (fun v=>DevIn v {d2 with done:=(dn:Int)+(k:Int)} L2)):=qH (by
   refine On.below ?_ hb;repeat (first|exact HON.out|refine On.row ?_ (by rintro (h|h)<;>omega) _|refine On.cell2 ?_ (by rintro (h|h)<;>omega) _))
  have HB3:=bU HBr hb;clear hb;go_wp2_with fail;refine bodyPost_ret (rC (devA (Dev.down {d2 with done:=(dn:Int)+(k:Int)}) L2.down)) rfl ⟨L2.down,rfl,?_,?_⟩
  ·refine On.sub (S:=fun q=>S q∧q<w.heap.size∨w3.heap.size<=q) ?_ (fun q _ h=>h.elim .inl (fun h=>.inr (by omega)));refine On.imp (P:=fun v=>DevIn v {d2 with done:=(dn:Int)+(k:Int)} L2) ?_ (fun v h=>h.down);repeat (first|exact HON1.out|refine On.row ?_ (by rintro (h|h)<;>omega) _|refine On.cell2 ?_ (by rintro (h|h)<;>omega) _)
  exact bZ HB3
theorem acts_late(d:Dev)(L:DLoc)(kind n f t m o:Int)(B:OA)(bl bc:Nat)(w:World)(h:d.up=decide (kind=10)):Calls Tryz.prog 33 #[.agg (devA d L),.agg #[iv kind,iv n],.agg (chkA f t m o B bl bc)] w (RetB w (.tuple #[.agg (devA Dev.zero DLoc.zero),iv 5])):=by
 have HBA:Hid (Below w.heap.size w (((((w.alloc (.cells (devA d L) 38)).alloc (.cells #[iv kind,iv n] 50)).alloc (.cells (chkA f t m o B bl bc) 61)).alloc (.cells (devA Dev.zero DLoc.zero) 38)).alloc (.cells #[.func (Fn.func 69) #[] #[]] 117))):=qH ((((((bW w).alloc nl _).alloc (by simp) _).alloc (by simp;omega) _).alloc (by simp;omega) _).alloc (by simp;omega) _);have q:(d.up==(kind==(10:Int)))=true:=by
  rw[h];by_cases e:kind=10<;>simp[e]
 clear h;go_enter Tryz.func33,Tryz.ntmps33;go_wp2_with fail;refine(actsBad_calls 5 _).mono ?_;rintro e w1 ⟨rfl,hb⟩;have a1:=kp (w.heap.size+1+1+1) (devA Dev.zero DLoc.zero) hb;have HB1:=bT HBA hb;clear hb;go_wp2_with fail;refine bodyPost_ret (rC (devA Dev.zero DLoc.zero)) rfl ⟨rfl,bZ HB1⟩
def devActs(d:Dev)(x:Chk)(kind n:Int):Dev×Int:=if kind=2 then devHear d x else devAct d kind n
theorem ActRet.on{S:Nat->Prop}{w':World}{d d2:Dev}{L:DLoc}{n:Int}{e:Ending}(hd:On S w (fun v=>DevIn v d L))(h:ActRet w d L d2 n e w'):AcRet S w d2 n e w':=by
 obtain⟨L1,e1,h2,hb⟩:=h;exact⟨L1,e1,((hd.sub fun k h1 h2=>.inl ⟨h2,h1⟩).below hb).imp h2,hb⟩
theorem acts_calls(S:Nat->Prop)(d:Dev)(L:DLoc)(kind n:Int)(x:Chk)(B:OA)(bc:Nat)(w:World)(hk:kind=2∨5<=kind∧kind<=12)(hok:DevOk d)(hn:I64 n)(hd:On S w (fun v=>DevIn v d L))(hx:On S w (fun v=>ChkIn v x B bc)):
  Calls Tryz.prog 33 #[.agg (devA d L),.agg #[iv kind,iv n],.agg (chkA x.from_ x.to_ x.n x.of_ B x.data.length bc)] w (AcRet S w (devActs d x kind n).1 (devActs d x kind n).2):=by
 have hdc:devCheck d=0:=devCheck_ok.2 hok;by_cases hl:d.up=decide (kind=10)
 ·have he:devActs d x kind n=(Dev.zero,5):=by
   unfold devActs devAct;by_cases k1:kind=10
   ·subst k1;have hu:d.up=true:=by simpa using hl
    simp only[show ¬(10:Int)=2 by decide,show ¬(10:Int)=5 by decide,show ¬(10:Int)=6 by decide,show ¬(10:Int)=7 by decide,show ¬(10:Int)=8 by decide,show ¬(10:Int)=9 by decide,if_false,if_true];unfold devBoot;rw[if_neg (by omega),if_pos hu]
   have hu:d.up=false:=by simpa[k1]using hl
   have hr:devReady d=5:=by unfold devReady;rw[if_neg (by omega),if_pos hu]
   have hr1:devReady d≠0:=by omega
   have e1:devHear d x=(Dev.zero,5):=by unfold devHear;rw[if_pos hr1,hr]
   have e2:devOpen d=(Dev.zero,5):=by unfold devOpen;rw[if_pos hr1,hr]
   have e3:∀b,devWrite d b n=(Dev.zero,5):=fun b=>by unfold devWrite;rw[if_pos hr1,hr]
   have e4:∀b,devFinish d b=(Dev.zero,5):=fun b=>by unfold devFinish;rw[if_pos hr1,hr]
   have e5:devConfirm d=(Dev.zero,5):=by unfold devConfirm;rw[if_pos hr1,hr]
   have e6:devCrash d=(Dev.zero,5):=by unfold devCrash;rw[if_pos hr1,hr]
   rw[e1,e2,e3,e3,e4,e4,e5,e6];repeat (first|rfl|(split<;>first|rfl|omega)|split)
  rw[he];refine(acts_late d L kind n _ _ _ _ B _ bc w hl).mono ?_;rintro e w' ⟨rfl,hb⟩;exact⟨DLoc.zero,rfl,.const fun v=>DevIn.zero v,hb⟩
 have hu:d.up=!decide (kind=10):=by cases h:d.up<;>rw[h]at hl<;>simp at hl⊢<;>exact hl
 rcases hk with rfl|⟨h5,h12⟩
 ·exact acts_hear S d L n x B bc w hok hu hd hx
 have hc:kind=5∨kind=6∨kind=7∨kind=8∨kind=9∨kind=10∨kind=11∨kind=12:=by omega
 rcases hc with rfl|rfl|rfl|rfl|rfl|rfl|rfl|rfl
 ·exact acts_open S d L n _ _ _ _ B _ bc w hok hu hd
 ·by_cases c1:d.busy=false∨d.job.size<=d.done
  ·exact acts_write_bad S d L 6 n _ _ _ _ B _ bc w hok hu hd hn (.inl rfl) c1
  ·exact acts_write6_ok S d L n _ _ _ _ B _ bc w hok hu hd hn c1
 ·exact(acts_finish7 d L n _ _ _ _ B _ bc w hok hu).mono fun _ _ h=>h.on hd
 ·exact(acts_confirm d L n _ _ _ _ B _ bc w hok hu).mono fun _ _ h=>h.on hd
 ·refine(acts_crash d L n _ _ _ _ B _ bc w hu).mono ?_;rintro e w' ⟨rfl,hb⟩;have hr:devReady d=0:=by unfold devReady;rw[if_neg (by omega),if_neg (by rw[hu];decide)]
  have hz:devActs d x 9 n=(d.down,0):=by show devCrash d=_;unfold devCrash;rw[if_neg (by omega)]
  rw[hz];exact⟨L.down,rfl,((hd.sub fun k h1 h2=>.inl ⟨h2,h1⟩).below hb).imp fun v h=>h.down,hb⟩
 ·exact(acts_boot d L n _ _ _ _ B _ bc w hok hu).mono fun _ _ h=>h.on hd
 ·by_cases c1:d.busy=false∨d.job.size<=d.done
  ·exact acts_write_bad S d L 11 n _ _ _ _ B _ bc w hok hu hd hn (.inr rfl) c1
  ·exact acts_write11_ok S d L n _ _ _ _ B _ bc w hok hu hd hn c1
 exact(acts_finish12 d L n _ _ _ _ B _ bc w hok hu).mono fun _ _ h=>h.on hd
theorem On.alloc{S:Nat->Prop}{P:World->Prop}(h:On S w P)(o:Obj):On S (w.alloc o) P:=h.below (bL _)
section
variable {S T:Nat->Prop} {w w':World} {A B:OA} {l m:List Chk}
theorem On.chk_on(h:On S w (fun v=>Chs v A l)){j b o:Nat}{D:OA}{e:Nat}(hj:j<l.length)(hA:A=some ⟨b,o,none⟩)(hat:ChkAt w b (o+j*5) l[j] D e)(hin:ChkIn w l[j] D e):On S w (fun v=>ChkIn v l[j] D e):=fun v h1 h2=>
 ⟨hin.cap,hin.len,bts_keep hin.data h1.size fun hx k hlt hk=>h2 k (h.chk_in hj hA hat hx hin k hk).1 hlt,hin.i0,hin.i1,hin.i2,hin.i3⟩
theorem On.gsrc(h:On S w (fun v=>Chs v A l)):∃ds,GSrc kChk w A l ds∧Each kChk l ds S:=by
 obtain⟨ds,hg⟩:=h.now.gsrc;refine⟨ds,hg,fun i o d h1 h2 hx k hk=>?_⟩;obtain⟨hi,rfl⟩:=List.getElem?_eq_some_iff.1 h1;obtain⟨b,o1,B,c,hA,hb,hat,hin⟩:=h.now.chk hi;have hcl:=cells_len (K:=kChk) l ds hg.len;have hi1:i*5+4<(kChk.cells l ds).length:=by rw[hcl];show _<l.length*5;omega
 obtain⟨b',o',e1,hl',hc'⟩:=hg.row (i*5+4) hi1;have e2:=cells_at (K:=kChk) l ds hg.len i 4 _ d h1 h2 (by decide);have e3:(kChk.cells l ds)[i*5+4]?=some (.slice d.1 (l[i].data).length d.2):=e2;rw[List.getElem?_eq_getElem hi1]at e3;injection e3 with e3;rw[hA]at e1;injection e1 with e1;injection e1 with e4 e5;subst e4 e5;have hc1:=hat.2.2.2.2;rw[show o1+i*5+4=o1+(i*5+4) by omega,hc',e3]at hc1;injection hc1 with hc1;injection hc1 with e6 _ _;exact(h.chk_in hi hA hat hx hin k (by rw[<-e6];exact hk)).1
def CsRet(S:Nat->Prop)(w:World)(l:List Chk):Ending->World->Prop:=fun en w'=>
 ∃A c,en=.returned (.slice A l.length c)∧l.length<=c∧On (fun k=>S k∧k<w.heap.size∨w.heap.size<=k) w' (fun v=>Chs v A l)∧Below w.heap.size w w'
theorem csrc_ok{ds:List (Option Addr×Nat)}(h:GSrc kChk w A l ds)(c:Nat):(SrcOf.mk A l.length c (kChk.cells l ds)).ok w 5:=⟨cells_len (K:=kChk) l ds h.len,h.row,cells_oneCell (K:=kChk) l ds⟩
theorem chkConcat_calls{g c d:Nat}{t:TypeId}{fr:Nat×Nat}(h:w.heap[g]?=some (.cells #[.slice A l.length c,.slice B m.length d] t fr))(hl:l.length+m.length<=2513169434843)(ha:On S w (fun v=>Chs v A l))(hb:On S w (fun v=>Chs v B m)):
  Calls Tryz.prog 32 #[.slice (some ⟨g,0,none⟩) 2 2] w (CsRet S w (l++m)):=by
 obtain⟨ds,hg,he⟩:=ha.gsrc;obtain⟨es,kg,ke⟩:=hb.gsrc;refine(concatChunks_calls [⟨A,l.length,c,kChk.cells l ds⟩,⟨B,m.length,d,kChk.cells m es⟩] (some ⟨g,0,none⟩) 2 w (by simp) (by simp[sumN];omega) (src_blk h) (fun s hs=>?_)).mono ?_
 ·simp only[List.mem_cons,List.not_mem_nil,or_false]at hs;rcases hs with rfl|rfl
  ·exact csrc_ok hg c
  exact csrc_ok kg d
 rintro e w' ⟨A',c',rfl,ho,hbel⟩;have e1:sumN [⟨A,l.length,c,kChk.cells l ds⟩,⟨B,m.length,d,kChk.cells m es⟩]=(l++m).length:=by simp[sumN]
 have e2:[(⟨A,l.length,c,kChk.cells l ds⟩:SrcOf),⟨B,m.length,d,kChk.cells m es⟩].flatMap SrcOf.cells=kChk.cells (l++m) (ds++es):=by
  rw[cells_append (K:=kChk) _ _ _ _ hg.len];simp
 rw[e1,e2]at ho;rw[e1];have hbd:∀x∈l++m,ChkB x:=fun x hx=>by
  rcases List.mem_append.1 hx with hx|hx
  ·exact ha.now.bound x hx
  exact hb.now.bound x hx
 have hlen:(ds++es).length=(l++m).length:=by simp[hg.len,kg.len]
 have key:∀(i:Nat) (o:Chk) (q:Option Addr×Nat),(l++m)[i]?=some o->(ds++es)[i]?=some q->(Bts w q.1 o.data∧o.data.length<=q.2)∧(o.data≠[]->∀k,q.1.map (·.block)=some k->S k):=fun i o q h1 h2=>by
  by_cases hil:i<l.length
  ·rw[List.getElem?_append_left hil]at h1;rw[List.getElem?_append_left (by rw[hg.len];exact hil)]at h2;exact⟨hg.data _ _ _ h1 h2,he _ _ _ h1 h2⟩
  rw[List.getElem?_append_right (by omega)]at h1;rw[List.getElem?_append_right (by rw[hg.len];omega),hg.len]at h2;exact⟨kg.data _ _ _ h1 h2,ke _ _ _ h1 h2⟩
 refine⟨A',c',rfl,ho.le,fun v h1 h2=>GSrc.chs (ds:=ds++es) ⟨hlen,?_,fun i o q h3 h4=>?_⟩ hbd,hbel⟩
 ·refine(ho.same (w':=v) fun k hk=>h2 k (.inr (ho.block k hk).1) (ho.block k hk).2).src
 obtain⟨⟨k1,k2⟩,k3⟩:=key i o q h3 h4;refine⟨bts_keep (k1.stays hbel) h1.size fun hx k hlt hk=>?_,k2⟩;have hk':=bts_block k1 hx k hk;exact h2 k (.inl ⟨k3 hx k hk,hk'⟩) hlt
end
structure WLoc where
 ar:Option Addr
 cr:Nat
 l:DLoc
 an:Option Addr
 cn:Nat
def WLoc.zero:WLoc:=⟨none,0,DLoc.zero,none,0⟩
def worA(x:Wor)(L:WLoc):Array Value:=#[.slice L.ar x.rel.length L.cr,.slice L.l.a0 x.d.s0.length L.l.c0,.slice L.l.a1 x.d.s1.length L.l.c1,.bool x.d.c0.ok,iv x.d.c0.r.gen,iv x.d.c0.r.active,.bool x.d.c0.r.trying,iv x.d.c0.r.tries,iv x.d.c0.r.floor,iv x.d.c0.r.a.ver,iv x.d.c0.r.a.size,iv x.d.c0.r.a.sum,iv x.d.c0.r.b.ver,iv x.d.c0.r.b.size,iv x.d.c0.r.b.sum,.bool x.d.c1.ok,iv x.d.c1.r.gen,iv x.d.c1.r.active,.bool x.d.c1.r.trying,iv x.d.c1.r.tries,iv x.d.c1.r.floor,iv x.d.c1.r.a.ver,iv x.d.c1.r.a.size,iv x.d.c1.r.a.sum,iv x.d.c1.r.b.ver,iv x.d.c1.r.b.size,iv x.d.c1.r.b.sum,.bool x.d.up,iv x.d.running,.slice L.l.ag x.d.got.length L.l.cg,.bool x.d.busy,iv x.d.job.from_,iv x.d.job.to_,iv x.d.job.old,iv x.d.job.new_,iv x.d.job.size,.slice L.l.aj x.d.job.ops.length L.l.cj,iv x.d.done,.slice L.an x.net.length L.cn]
@[go_sem] theorem worA_size(x:Wor)(L:WLoc):(worA x L).size=39:=by simp[worA]
@[go_sem] theorem worA_one(x:Wor)(L:WLoc):allOne (worA x L)=true:=by simp[worA,allOne,Value.oneCell']
@[go_sem] theorem worA_at0(x:Wor)(L:WLoc)(h:0<(worA x L).size):(worA x L)[0]'h=.slice L.ar x.rel.length L.cr:=by simp[worA]
@[go_sem] theorem worA_at2(x:Wor)(L:WLoc)(h:2<(worA x L).size):(worA x L)[2]'h=.slice L.l.a1 x.d.s1.length L.l.c1:=by simp[worA]
@[go_sem] theorem worA_at28(x:Wor)(L:WLoc)(h:28<(worA x L).size):(worA x L)[28]'h=iv x.d.running:=by simp[worA]
@[go_sem] theorem worA_at38(x:Wor)(L:WLoc)(h:38<(worA x L).size):(worA x L)[38]'h=.slice L.an x.net.length L.cn:=by simp[worA]
@[go_sem] theorem worA_all(x:Wor)(L:WLoc):(worA x L).extract 0 39=worA x L:=by simp[worA]
@[go_sem] theorem worA_ex1_38(x:Wor)(L:WLoc):(worA x L).extract 1 38=devA x.d L.l:=by simp[worA,devA]
@[go_sem] theorem worA_ex3_27(x:Wor)(L:WLoc):(worA x L).extract 3 27=copsA x.d.c0 x.d.c1:=by simp[worA,copsA]
@[go_sem] theorem worA_set_net(x:Wor)(L:WLoc)(l:List Chk)(A:OA)(c:Nat):(worA x L).setIfInBounds 38 (.slice A l.length c)=worA {x with net:=l} {L with an:=A,cn:=c}:=by simp[worA]
@[go_sem] theorem worA_splice_dev(x:Wor)(L:WLoc)(d:Dev)(K:DLoc):splice (worA x L) 1 (devA d K)=worA {x with d:=d} {L with l:=K}:=by simp[splice,worA,devA]
@[go_sem] theorem aggSzWor:aggSz Tryz.prog 40=39:=by kernel_rfl
@[go_sem] theorem zero_wor:Value.agg #[.slice none 0 0,.slice none 0 0,.slice none 0 0,.bool false,iv 0,iv 0,.bool false,iv 0,iv 0,iv 0,iv 0,iv 0,iv 0,iv 0,iv 0,.bool false,iv 0,iv 0,.bool false,iv 0,iv 0,iv 0,iv 0,iv 0,iv 0,iv 0,iv 0,.bool false,iv 0,.slice none 0 0,.bool false,iv 0,iv 0,iv 0,iv 0,iv 0,.slice none 0 0,iv 0,.slice none 0 0]=Value.agg (worA Wor.zero WLoc.zero):=by simp[worA,Wor.zero,WLoc.zero,Dev.zero,DLoc.zero,Cop.zero,Rec.zero,Inf.zero,Pat.zero]
structure WorIn(w:World)(x:Wor)(L:WLoc):Prop where
 kr:x.rel.length<=L.cr
 lr:x.rel.length<=5864062014634
 rel:Ims w L.ar x.rel
 dev:DevIn w x.d L.l
 kn:x.net.length<=L.cn
 ln:x.net.length<=2513169434843
 net:Chs w L.an x.net
theorem WorIn.stays{w':World}{x:Wor}{L:WLoc}(h:WorIn w x L)(hb:Below w.heap.size w w'):WorIn w' x L:=
 ⟨h.kr,h.lr,h.rel.stays hb,h.dev.stays hb,h.kn,h.ln,h.net.stays hb⟩
theorem WorIn.zero(w:World):WorIn w Wor.zero WLoc.zero:=
 ⟨nl,by simp[Wor.zero],fun i hi=>absurd hi (by simp[Wor.zero]),DevIn.zero w,nl,by simp[Wor.zero],Chs.nil _ _⟩
def FrIn(base m:Nat)(w:World)(P:World->Prop):Prop:=∀v:World,(∀k,base<=k->k<m->v.heap[k]?=w.heap[k]?)->P v
section
variable {base m:Nat} {w v:World} {P Q:World->Prop}
theorem Fresh.frIn(h:Fresh base w P):FrIn base w.heap.size w P:=fun v hv=>h v hv
theorem FrIn.of(h:FrIn base m w P)(hv:∀k,base<=k->k<m->v.heap[k]?=w.heap[k]?):FrIn base m v P:=fun u hu=>h u fun k h1 h2=>(hu k h1 h2).trans (hv k h1 h2)
theorem FrIn.wider{b2 m2:Nat}(h:FrIn base m w P)(hb:b2<=base)(hm:m<=m2):FrIn b2 m2 w P:=fun v hv=>h v fun k h1 h2=>hv k (by omega) (by omega)
theorem FrIn.now(h:FrIn base m w P):P w:=h w fun _ _ _=>rfl
end
structure WorAt(w:World)(base m top:Nat)(ds:List (Option Addr×Nat))(x:Wor)(L:WLoc):Prop where
 h1:base<=m
 h2:m<=top
 h3:top<=w.heap.size
 rel:FrIn base m w (fun v=>Ims v L.ar x.rel)
 dev:FrIn base m w (fun v=>DevIn v x.d L.l)
 net:GRow kChk w m x.net ds L.an L.cn
 each:Each kChk x.net ds (fun k=>m<=k∧k<top)
 blk:∀k,L.an.map (·.block)=some k->k<top
 bd:∀y∈x.net,ChkB y
 kr:x.rel.length<=L.cr
 lr:x.rel.length<=5864062014634
 ln:x.net.length<=2513169434843
theorem GRow.ex{α:Type}{K:Kd α}{v:World}{base c:Nat}{l:List α}{ds:List (Option Addr×Nat)}{A:OA}(h:GRow K w base l ds A c)(hA:∀k,A.map (·.block)=some k->v.heap[k]?=w.heap[k]?)(hd:Each K l ds (fun k=>v.heap[k]?=w.heap[k]?)):GRow K v base l ds A c:=by
 refine⟨h.len,h.row.same hA,fun i o d h1 h2=>⟨fun j hj=>?_,(h.data i o d h1 h2).2⟩,h.off⟩;obtain⟨b,o1,e1,hl1,hc⟩:=(h.data i o d h1 h2).1 j hj;have hx:K.dat o≠[]:=fun e=>by rw[e]at hj;simp at hj
 have hb:v.heap[b]?=w.heap[b]?:=hd i o d h1 h2 hx b (by rw[e1];rfl);have hlt:b<v.heap.size:=by
  rcases Nat.lt_or_ge b v.heap.size with h|h
  ·exact h
  rw[Array.getElem?_eq_none h,Array.getElem?_eq_getElem hl1]at hb;cases hb
 exact⟨b,o1,e1,hlt,(World.cell?_of_block hb).trans hc⟩
section
variable {w v:World} {base m top:Nat} {ds:List (Option Addr×Nat)} {x:Wor} {L:WLoc}
theorem WorAt.netEx(h:WorAt w base m top ds x L)(hv:∀k,base<=k->k<top->v.heap[k]?=w.heap[k]?):GRow kChk v m x.net ds L.an L.cn:=by
 have h1:=h.h1;exact h.net.ex (fun k e=>hv k (by have:=(h.net.row.block k e).1;omega) (h.blk k e)) (h.each.imp fun k hk=>hv k (by omega) hk.2)
theorem WorAt.same(h:WorAt w base m top ds x L)(hv:∀k,base<=k->k<top->v.heap[k]?=w.heap[k]?)(hm:top<=v.heap.size):WorAt v base m top ds x L:=by
 have h2:=h.h2;exact⟨h.h1,h.h2,hm,h.rel.of fun k a b=>hv k a (by omega),h.dev.of fun k a b=>hv k a (by omega),h.netEx hv,h.each,h.blk,h.bd,h.kr,h.lr,h.ln⟩
theorem WorAt.wex(h:WorAt w base m top ds x L)(hv:∀k,base<=k->k<top->v.heap[k]?=w.heap[k]?):WorIn v x L:=by
 have h1:=h.h2;exact⟨h.kr,h.lr,h.rel v (fun k a b=>hv k a (by omega)),h.dev v (fun k a b=>hv k a (by omega)),h.net.row.le,h.ln,(h.netEx hv).src.chs h.bd⟩
end
def WcRet(w:World)(x:Wor):Ending->World->Prop:=fun en w'=>
 ∃L m ds,en=.returned (.agg (worA x L))∧WorAt w' (w.heap.size+2) m w'.heap.size ds x L∧Below w.heap.size w w'
def WvRet(w:World)(x:Wor)(n:Int):Ending->World->Prop:=fun en w'=>
 ∃L,en=.returned (.tuple #[.agg (worA x L),iv n])∧Fresh w.heap.size w' (fun v=>WorIn v x L)∧Below w.heap.size w w'
theorem big_wor'(n:Nat)(h:0<n):bigBuild Tryz.prog 40 n:=by
 obtain⟨i,hi,_⟩:=info_parts (P:=Tryz.prog) (e:=40) (z:=.agg (worA Wor.zero WLoc.zero)) (size:=39) (bytes:=408) (by kernel_rfl);exact⟨i,hi,h⟩
@[go_sem] theorem big_wor2:bigBuild Tryz.prog 40 2:=big_wor' 2 (by decide)
@[go_sem] theorem big_wor3:bigBuild Tryz.prog 40 3:=big_wor' 3 (by decide)
@[go_sem] theorem build_wor2(a:OA)(c:Nat)(l:List (List UInt8))(d:Dev)(K:DLoc)(w:World):runBuild Tryz.prog 40 #[(0,.slice a l.length c),(1,.agg (devA d K))] w=.ok (.agg (worA ⟨l,d,[]⟩ ⟨a,c,K,none,0⟩)) w:=by kernel_rfl
@[go_sem] theorem build_wor3(a:OA)(c:Nat)(l:List (List UInt8))(d:Dev)(K:DLoc)(b:OA)(e:Nat)(t:List Chk)(w:World):runBuild Tryz.prog 40 #[(0,.slice a l.length c),(1,.agg (devA d K)),(2,.slice b t.length e)] w=.ok (.agg (worA ⟨l,d,t⟩ ⟨a,c,K,b,e⟩)) w:=by kernel_rfl
theorem relCheck_bad{l:List (List UInt8)}(h:l=[]∨30<l.length∨∃b∈l,64<b.length):relCheck l=1:=by unfold relCheck;rw[if_pos h]
theorem relCheck_fine{l:List (List UInt8)}(h:¬(l=[]∨30<l.length∨∃b∈l,64<b.length)):relCheck l=0:=by unfold relCheck;rw[if_neg h]
theorem releases_calls(A:OA)(c:Nat)(l:List (List UInt8))(w:World)(hc:l.length<=c)(hl:l.length<=5864062014634)(hs:Ims w A l):
  Calls Tryz.prog 34 #[.slice A l.length c] w (Ret w (iv (relCheck l))):=by
 by_cases h1:l=[]
 ·subst h1;rw[relCheck_bad (.inl rfl)];go_enter Tryz.func34,Tryz.ntmps34;exact x1gi
 have hpos:0<l.length:=List.length_pos_iff.2 h1;by_cases h2:30<l.length
 ·rw[relCheck_bad (.inr (.inl h2))];have q1:¬((l.length:Int)=0):=by omega
  have q2:(30:Int)<(l.length:Int):=by omega
  have q3:((l.length:Int)==0)=false:=by simp;omega
  clear h1;go_enter Tryz.func34,Tryz.ntmps34;exact x1gi
 obtain⟨r,hr⟩:=eX (relCheck l);rw[hr];have HR:Hid (r=if ∃b∈l,64<b.length then 1 else 0):=qH (by
  rw[<-hr];by_cases h3:∃b∈l,64<b.length
  ·rw[relCheck_bad (.inr (.inr h3)),if_pos h3]
  rw[relCheck_fine (fun h=>h.elim h1 (fun h=>h.elim h2 h3)),if_neg h3])
 have HS:=qH hs;have q1:¬((l.length:Int)=0):=by omega
 have q2:¬(30:Int)<(l.length:Int):=by omega
 have q3:((l.length:Int)==0)=false:=by simp;omega
 have hcap:(l.length:Int)<=(c:Int):=by omega
 clear hr hs h1 hpos;go_enter Tryz.func34,Tryz.ntmps34;go_wp2_with fail;go_loopw [15] (fun i wr=>∃k:Nat,k<=l.length∧i=iv k∧wr=w∧Hid (∀b∈l.take k,b.length<=64)) (fun i _=>l.length-(intOf i).toNat)
 case atStart=>exact⟨0,Nat.zero_le _,rfl,rfl,qH (by simp)⟩
 case round=>
  obtain⟨k,hk,rfl,rfl,HB⟩:=hrel;by_cases hlt:k<l.length
  ·obtain⟨b,o,rfl,hb,cs,hcl,hcc,B,d,rfl,hd1,hd2,hd3⟩:=HS.out k hlt;obtain⟨x,hx⟩:=eX (l[k]);have q4:wr.cell? ⟨b,o+k,none⟩=some (.slice B x.length d):=by have:=hcc 0 (by simp);rw[hx]at this;simpa using this
   have hwk:IntKind.i64.wrap ((k:Int)+1)=(k:Int)+1:=IntWalk.i64_in _ (by omega);have HX:=qH hx;by_cases h1:64<x.length
   ·have hz:r=1:=by rw[HR.out,if_pos ⟨x,by rw[<-HX.out];exact List.getElem_mem hlt,h1⟩]
    subst hz;have q:(64:Int)<(x.length:Int):=by omega
    clear hcc hcl hd1 hd2 hd3 hx;exact x1gi
   have q:¬(64:Int)<(x.length:Int):=by omega
   have HB1:Hid (∀b∈l.take (k+1),b.length<=64):=qH (fun y hy=>by
    rw[List.take_succ_eq_append_getElem hlt,List.mem_append]at hy;rcases hy with hy|hy
    ·exact HB.out y hy
    have e:y=l[k]:=by simpa using hy
    rw[e,HX.out];omega)
   clear hcc hcl hd1 hd2 hd3 hx;go_wp2_with fail;go_roundw
   case rel=>exact⟨k+1,by omega,by go_num,by first|rfl|trivial,HB1⟩
   case measure=>simp[intOf];omega
  obtain rfl:k=l.length:=by omega
  have hz:r=0:=by
   rw[HR.out,if_neg];rintro⟨b,hb,h⟩;have:=HB.out b (by rw[List.take_length];exact hb);omega
  subst hz;exact x1gi
end Go.Proofs.YtefkfglkpebbmaaGreat
