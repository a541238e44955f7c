/- Walks of functions, and plain words. No conditions. -/
import Derived.Test.YtefkfglkpebbmacGreatP15
import Derived.Test.YtefkfglkpebbmacGreatP18
set_option linter.unusedVariables false
set_option linter.unusedSimpArgs false
set_option maxRecDepth 100000
set_option maxHeartbeats 40000000
namespace Go.Proofs.YtefkfglkpebbmacGreat
open Go.RowKit
variable {Y:Prop}
theorem acts_write6_ok(S:Nat->Prop)(d:Dev)(L:DLoc)(n f t m o:Int)(B:OA)(bl bc:Nat)(w:World)(hok:DevOk d)(hu:d.up=true)(hd:On S w (fun v=>DevIn v d L))(hin:I64 n)(c1:¬(d.busy=false∨d.job.size<=d.done)):Calls Tryz.prog 19 #[.agg (devA d L),.agg #[iv 6,iv n],.agg (chkA f t m o B bl bc)] w (AcRet S w (devWrite d false n).1 (devWrite d false n).2):=by
 have hrec:=rec_ok hok;have hrd:devReady d=0:=by unfold devReady;rw[if_neg (by simpa using devCheck_ok.2 hok),if_neg (by rw[hu];decide)]
 have KN:=qH (fun w=>newest_calls d.c0 d.c1 w);rw[refNewest_ok hok.cops]at KN;obtain⟨rk,hrk⟩:=eX ((recRead d.c0 d.c1).2);have hre:(recRead d.c0 d.c1).1=d.rec_:=rfl;rw[hrk,hre]at KN;clear hrk hre;have hact:=rec_active hrec;have hdef:d.busy=true->¬d.job.size<=d.done->devWrite d false n=({d.setSlot (1-d.rec_.active) (d.put (patDo (sumOn 1) d.job (d.image d.rec_.active d.rec_)).1 (keepN false n).toNat)with done:=d.done+keepN false n},0):=fun hb hs=>by
  exact x9sb
 have hdef1:(d.busy=false∨d.job.size<=d.done)->devWrite d false n=(Dev.zero,5):=fun h=>by
  exact x0n2
 have hfacts:d.busy=true->(patDo (sumOn 1) d.job (d.image d.rec_.active d.rec_)).2=0∧0<=d.done∧d.done%8=0∧((patDo (sumOn 1) d.job (d.image d.rec_.active d.rec_)).1.length:Int)=d.job.size∧d.job.size<=64:=fun hb=>by
  exact x219
 have HD:=qH hdef;have HD1:=qH hdef1;have HFA:=qH hfacts;have HI:=qH hd;have K1:=qH (fun v (hb:Below w.heap.size w v)=>imageOf_calls d L v (hd.at_ hb) hok.l0 hok.l1 hok.cops);have hil:(d.image d.rec_.active d.rec_).length<=140737488351232:=by unfold Dev.image;rw[List.length_take];have:=slot_len hok.l0 hok.l1 d.rec_.active;omega
 have hl2:=hok.l0;have hl1:=hok.l1;generalize devWrite d false n=res at *
 clear hrec hrd hok hdef hdef1 hfacts hd;generalize hrr:d.rec_=r at *
 have HRR:=qH hrr;clear hrr;go_enter Tryz.func19,Tryz.ntmps19;go_wp2_with fail;refine(KN.out _).mono ?_;rintro e w1 ⟨rfl,hb⟩;obtain⟨a0r,a0f,a0n,a0c,a0z,a0l⟩:=kp (w.heap.size) (devA d L) hb;obtain⟨a1r,a1f,a1n,a1c,a1z,a1l⟩:=kp (w.heap.size+1) (#[iv 6,iv n]) hb;obtain⟨a3r,a3f,a3n,a3c,a3z,a3l⟩:=kp (w.heap.size+1+1+1) (devA Dev.zero DLoc.zero) hb;have a1:=kp (w.heap.size+1+1+1+1) (#[.func (Fn.func 51) #[] #[]]) hb;have HB1:Hid (Below w.heap.size w w1):=qH (((((((bW w).alloc nl (.cells (devA d L) 37)).alloc (by simp) (.cells #[iv 6,iv n] 55)).alloc (by simp;omega) (.cells (chkA f t m o B bl bc) 39)).alloc (by simp;omega) (.cells (devA Dev.zero DLoc.zero) 37)).alloc (by simp;omega) _).trans (hb.mono (by simp;omega)));clear hb;go_upto_region 7 with fail
 obtain⟨w2,hw2⟩:=eX (w1.alloc (.cells (recA r) 28));have hb:Below w1.heap.size w1 w2:=by rw[<-hw2];exact bL _
 have hrr:rowOf w2 w1.heap.size=recA r∧frOf w2 w1.heap.size=(0,0):=by rw[<-hw2];exact⟨by rw[rowOf_alloc,if_pos rfl],by rw[frOf_alloc,if_pos rfl]⟩
 obtain⟨a0r,a0f,a0n,a0c,a0z,a0l⟩:=keep1 (g:=w.heap.size) (cs:=devA d L) hb a0r (by first|(go_simp;done)|simp[recA]) a0f;obtain⟨a1r,a1f,a1n,a1c,a1z,a1l⟩:=keep1 (g:=w.heap.size+1) (cs:=#[iv 6,iv n]) hb a1r (by first|(go_simp;done)|simp[recA]) a1f;obtain⟨a3r,a3f,a3n,a3c,a3z,a3l⟩:=keep1 (g:=w.heap.size+1+1+1) (cs:=devA Dev.zero DLoc.zero) hb a3r (by first|(go_simp;done)|simp[recA]) a3f;have a1:=keep1 (g:=w.heap.size+1+1+1+1) (cs:=#[.func (Fn.func 51) #[] #[]]) hb a1.1 (by first|(go_simp;done)|simp[recA]) a1.2.1;obtain⟨r0r,r0f,r0n,r0c,r0z,r0l⟩:=keep1 (bW w2) hrr.1 (by simp[recA]) hrr.2;have HB2:=bT HB1 hb;have hs1:w.heap.size+5<=w1.heap.size:=by omega
 have hs2:w1.heap.size<w2.heap.size:=r0l;rw[hw2];clear hw2 hb hrr HB1;have c2:d.busy=true:=by cases h:d.busy;exact absurd (.inl h) c1;rfl
 have c3:¬d.job.size<=d.done:=fun h=>c1 (.inr h);have hz:=HD.out c2 (by omega);obtain⟨f1,f2,f3,f4,f5⟩:=HFA.out c2;clear c1 HD HD1 HFA KN hu a1;generalize hri:d.image r.active r=im at *
 obtain⟨⟨b',en⟩,hpd⟩:∃x,patDo (sumOn 1) d.job im=x:=⟨_,rfl⟩;rw[hpd]at hz f1 f4;dsimp only at hz f1 f4;subst f1;have KI:Hid (∀wq,Below w2.heap.size w2 wq->Calls Tryz.prog 28 #[.agg (devA d L)] wq (ImRet wq im)):=qH (fun wq h=>K1.out wq (HB2.out.trans (h.mono HB2.out.size)));have KD:Hid (∀wq A c,Below w2.heap.size w2 wq->im.length<=c->Bts wq A im->Calls Tryz.prog 27 #[.agg (patA d.job.from_ d.job.to_ d.job.old d.job.new_ d.job.size L.aj d.job.ops.length L.cj),.slice A im.length c] wq (ByRet2 wq b' 0)):=qH (fun wq A c h hc hb=>by
  exact x3ft)
 have HZ:=qH hz;clear hpd K1 hz hri hil;have RD:Hid (rowOf w2 w.heap.size=devA d L):=qH a0r;have FD:Hid (frOf w2 w.heap.size=(0,0)):=qH a0f;go_wp2_with fail;have hq1:=fun v (h:Below w2.heap.size w2 v)=>keep1 h RD.out (by go_simp) FD.out
 go_region_held3 (fun v=>Below w2.heap.size w2 v) (first|exact hbb|exact(Below.refl _ _).drew)
  (first
    |(go_at_call 28;refine(KI.out _ (by assumption)).mono ?_;rintro e wj ⟨Aj,cj,rfl,h3,h4,h5⟩;have hbb:=(bW w2).drew.trans (h5.mono (by simp)))
    |(go_at_call 27;refine(KD.out _ _ _ (by assumption) h3 h4).mono ?_;rintro e w3 ⟨A5,c5',rfl,g1,g2,g9⟩;have hbb:=hbb.trans (g9.mono hbb.size)))
 have g3:=hbb;clear hbb g9 h3 h4 h5 hq1;obtain⟨a0r,a0f,a0n,a0c,a0z,a0l⟩:=keep1 (g:=w.heap.size) (cs:=devA d L) g3 a0r (by first|(go_simp;done)|simp[recA]) a0f;obtain⟨a1r,a1f,a1n,a1c,a1z,a1l⟩:=keep1 (g:=w.heap.size+1) (cs:=#[iv 6,iv n]) g3 a1r (by first|(go_simp;done)|simp[recA]) a1f;obtain⟨a3r,a3f,a3n,a3c,a3z,a3l⟩:=keep1 (g:=w.heap.size+1+1+1) (cs:=devA Dev.zero DLoc.zero) g3 a3r (by first|(go_simp;done)|simp[recA]) a3f;obtain⟨r0r,r0f,r0n,r0c,r0z,r0l⟩:=keep1 (g:=w1.heap.size) (cs:=recA r) g3 r0r (by first|(go_simp;done)|simp[recA]) r0f;have HB1:Hid (Below w.heap.size w w3):=qH (HB2.out.trans (g3.mono HB2.out.size));have hs4:w2.heap.size<=w3.heap.size:=g3.size;have HBB:=qH g1;have HC1:=qH g2;clear g1 g2 g3 KI KD RD FD HB2;obtain⟨N,hN⟩:∃N:Nat,keepN false n=(N:Int):=⟨(keepN false n).toNat,by have:=(keepN_bd false n).1;omega⟩;have hN1:N<=8:=by have:=(keepN_bd false n).2;omega
 rw[hN]at HZ;have HN:=qH hN;clear hN;go_upto_if 176 with fail
 go_cut [21] (fun v wx=>v=iv (N:Int)∧w3=wx)
 case first=>
  have h3x:Hid ((8:Int)=(N:Int)):=qH (by rw[<-HN.out];simp[keepN]);go_wp2_with fail;go_meet
  case rel=>exact⟨by rw[<-h3x.out],rfl⟩
 case rest=>
 obtain⟨rfl,rfl⟩:=hcut;obtain⟨a,ha⟩:∃a:Nat,r.active=(a:Int):=⟨r.active.toNat,by omega⟩;obtain⟨a',haa⟩:∃a':Nat,a+a'=1:=⟨1-a,by omega⟩;have ha1:a'<=1:=by omega
 have hw1:IntKind.i64.wrap ((1:Int)-(a:Int))=(a':Int):=by rw[IntWalk.i64_in _ (by omega)];omega
 have i1:(0:Int)<=(a':Int):=by omega
 have i2:(a':Int)<2:=by omega
 have i3:¬(2:Int)<=(a':Int):=by omega
 obtain⟨A1,c4,p1,p2,p3⟩:=devSlotA (HI.out.at_ HB1.out) ha1;have hsl:=slot_len hl2 hl1 (a':Int);generalize hgs:d.slot (a':Int)=sl at *
 have HP1:=qH p3;clear p3;have HOZ:Hid (Own (w3.alloc (.cells #[] 5)) w3.heap.size 5 1 (some ⟨w3.heap.size,0,none⟩) 0 0 []):=qH (own_zero w3 5 1);have HSR:Hid (Src (w3.alloc (.cells #[] 5)) A1 (sl.map bv)):=qH ((HP1.out.stays (bL _)).src);rw[hsl]at p1 p2;go_wp2_with (at_builtin;go_must (refine wpList_app _ rfl (.tmp 181) (.tmp 187) 22 rfl elBytes w3.heap.size (some ⟨w3.heap.size,0,none⟩) 0 0 [] rfl HOZ.out A1 64 c4 (sl.map bv) rfl HSR.out (by simp[hsl]) (by simp[Value.oneCell',bv]) (by omega) (by simp) ?_));intro A2 c7 w4 hown _ hbel _;have hbx:Below w3.heap.size w3 w4:=(bL _).trans hbel;have RA:=qH (And.intro a0r a0f);have RH:=qH (And.intro a1r a1f);have RZ:=qH (And.intro a3r a3f);have RR:=qH (And.intro r0r r0f);obtain⟨a0r,a0f,a0n,a0c,a0z,a0l⟩:=keep1 (g:=w.heap.size) (cs:=devA d L) hbx a0r (by first|(go_simp;done)|simp[recA]) a0f;obtain⟨a1r,a1f,a1n,a1c,a1z,a1l⟩:=keep1 (g:=w.heap.size+1) (cs:=#[iv 6,iv n]) hbx a1r (by first|(go_simp;done)|simp[recA]) a1f;obtain⟨a3r,a3f,a3n,a3c,a3z,a3l⟩:=keep1 (g:=w.heap.size+1+1+1) (cs:=devA Dev.zero DLoc.zero) hbx a3r (by first|(go_simp;done)|simp[recA]) a3f;obtain⟨r0r,r0f,r0n,r0c,r0z,r0l⟩:=keep1 (g:=w1.heap.size) (cs:=recA r) hbx r0r (by first|(go_simp;done)|simp[recA]) r0f;have HB2:=bT HB1 hbx;obtain⟨g3,rfl,hg1,hg2⟩:=hown.form (by omega);obtain⟨dn,hdn⟩:∃dn:Nat,d.done=(dn:Int):=⟨d.done.toNat,by omega⟩;have hd1:dn+8<=64:=by omega
 have hb1:b'.length<=64:=by omega
 have hrl:=room_len hb1;have HO1:Hid (Own w4 w3.heap.size 5 1 (some ⟨g3,0,none⟩) 64 c7 ((putU sl (room b') dn 0).map bv)):=qH (by rw[putU_0];simpa using hown);have HX1:=qH hbx;clear hown hbel hbx HOZ HSR;go_wp2_with fail;go_loopw [190] (fun i wr=>∃k:Nat,k<=N∧i=iv k∧Hid (Own wr w3.heap.size 5 1 (some ⟨g3,0,none⟩) 64 c7 ((putU sl (room b') dn k).map bv))∧Hid (Below w3.heap.size w3 wr)) (fun i _=>N-(intOf i).toNat)
 case atStart=>exact⟨0,Nat.zero_le _,rfl,HO1,HX1⟩
 case round=>
  rename World=>wr;obtain⟨k,hk,rfl,HO,HX⟩:=hrel;by_cases hlk:k<N
  ·exact x70e
  obtain rfl:k=N:=by omega
  obtain⟨a0r,a0f,a0n,a0c,a0z,a0l⟩:=keep1 (g:=w.heap.size) (cs:=devA d L) HX.out RA.out.1 (by first|(go_simp;done)|simp[recA]) RA.out.2;obtain⟨a1r,a1f,a1n,a1c,a1z,a1l⟩:=keep1 (g:=w.heap.size+1) (cs:=#[iv 6,iv n]) HX.out RH.out.1 (by first|(go_simp;done)|simp[recA]) RH.out.2;obtain⟨a3r,a3f,a3n,a3c,a3z,a3l⟩:=keep1 (g:=w.heap.size+1+1+1) (cs:=devA Dev.zero DLoc.zero) HX.out RZ.out.1 (by first|(go_simp;done)|simp[recA]) RZ.out.2;obtain⟨r0r,r0f,r0n,r0c,r0z,r0l⟩:=keep1 (g:=w1.heap.size) (cs:=recA r) HX.out RR.out.1 (by first|(go_simp;done)|simp[recA]) RR.out.2;have HBr:Hid (Below w.heap.size w wr):=qH (HB1.out.trans (HX.out.mono HB1.out.size));have HF:=qH HO.out.fresh;have hc1:64<=c7:=HO.out.le;have hnl:(putU sl (room b') dn k).length=64:=by rw[putU_len (by omega) (by omega),hsl]
  have hput:d.put b' ((k:Int)).toNat=putU sl (room b') dn k:=by
   exact x29x
  have hz:=HZ.out;rw[ha,show (1:Int)-(a:Int)=(a':Int) by omega,hput,hdn]at hz;have hin:∀v,DevIn v d L->Bts v (some ⟨g3,0,none⟩) (putU sl (room b') dn k)->DevIn v {d.setSlot (a':Int) (putU sl (room b') dn k)with done:=(dn:Int)+(k:Int)} (L.setS a' (some ⟨g3,0,none⟩) c7):=fun v h g=>h.put ha1 g hnl hc1 ⟨by omega,by omega⟩;have h3:w.heap.size<w3.heap.size:=by omega
  have hs3:=HX.out.size;have o1:On (fun q=>S q∧q<w.heap.size∨w3.heap.size<=q) wr (fun v=>DevIn v d L):=((HI.out.sub (fun q h1 h2=>.inl ⟨h2,h1⟩)).below HBr.out);have o2:On (fun q=>S q∧q<w.heap.size∨w3.heap.size<=q) wr (fun v=>Bts v (some ⟨g3,0,none⟩) (putU sl (room b') dn k)):=(On.fresh HF.out).sub fun q _ h=>.inr h;have HON:=qH ((o1.and o2).imp fun v ⟨h,g⟩=>hin v h g);have hds:=devA_setS d L ha1 (A:=some ⟨g3,0,none⟩) (c:=c7) hnl;have hdo:(d.setSlot (a':Int) (putU sl (room b') dn k)).done=(dn:Int):=by unfold Dev.setSlot;split<;>exact hdn
  generalize d.setSlot (a':Int) (putU sl (room b') dn k)=d2 at *
  generalize L.setS a' (some ⟨g3,0,none⟩) c7=L2 at *
  have hds1:(devA d2 L2).setIfInBounds 36 (iv ((dn:Int)+(k:Int)))=devA {d2 with done:=(dn:Int)+(k:Int)} L2:=rfl;have hwn:IntKind.i64.wrap ((dn:Int)+(k:Int))=(dn:Int)+(k:Int):=IntWalk.i64_in _ (by omega);clear hput hin o1 o2 HF HO HI HO1 HX1 HBB hgs HZ;subst hz;go_wp2_with fail;refine bodyPost_ret (rC (devA {d2 with done:=(dn:Int)+(k:Int)} L2)) rfl ⟨L2,rfl,?_,?_⟩
  ·have ho:On (fun q=>S q∧q<w.heap.size∨w3.heap.size<=q) wr (fun v=>DevIn v {d2 with done:=(dn:Int)+(k:Int)} L2):=HON.out;refine On.sub (S:=fun q=>S q∧q<w.heap.size∨w3.heap.size<=q) ?_ (fun q _ h=>h.elim .inl (fun h=>.inr (by omega)));repeat (first|exact ho|refine On.row ?_ (by rintro (h|h)<;>omega) _|refine On.cell2 ?_ (by rintro (h|h)<;>omega) _)
  exact bZ HBr
theorem acts_write11_ok(S:Nat->Prop)(d:Dev)(L:DLoc)(n f t m o:Int)(B:OA)(bl bc:Nat)(w:World)(hok:DevOk d)(hu:d.up=true)(hd:On S w (fun v=>DevIn v d L))(hin:I64 n)(c1:¬(d.busy=false∨d.job.size<=d.done)):Calls Tryz.prog 19 #[.agg (devA d L),.agg #[iv 11,iv n],.agg (chkA f t m o B bl bc)] w (AcRet S w (devWrite d true n).1 (devWrite d true n).2):=by
 have hrec:=rec_ok hok;have hrd:devReady d=0:=by unfold devReady;rw[if_neg (by simpa using devCheck_ok.2 hok),if_neg (by rw[hu];decide)]
 have KN:=qH (fun w=>newest_calls d.c0 d.c1 w);rw[refNewest_ok hok.cops]at KN;obtain⟨rk,hrk⟩:=eX ((recRead d.c0 d.c1).2);have hre:(recRead d.c0 d.c1).1=d.rec_:=rfl;rw[hrk,hre]at KN;clear hrk hre;have hact:=rec_active hrec;have hdef:d.busy=true->¬d.job.size<=d.done->devWrite d true n=(Dev.down {d.setSlot (1-d.rec_.active) (d.put (patDo (sumOn 1) d.job (d.image d.rec_.active d.rec_)).1 (keepN true n).toNat)with done:=d.done+keepN true n},0):=fun hb hs=>by
  exact x9sb
 have hdef1:(d.busy=false∨d.job.size<=d.done)->devWrite d true n=(Dev.zero,5):=fun h=>by
  exact x0n2
 have hfacts:d.busy=true->(patDo (sumOn 1) d.job (d.image d.rec_.active d.rec_)).2=0∧0<=d.done∧d.done%8=0∧((patDo (sumOn 1) d.job (d.image d.rec_.active d.rec_)).1.length:Int)=d.job.size∧d.job.size<=64:=fun hb=>by
  exact x219
 have HD:=qH hdef;have HD1:=qH hdef1;have HFA:=qH hfacts;have HI:=qH hd;have K1:=qH (fun v (hb:Below w.heap.size w v)=>imageOf_calls d L v (hd.at_ hb) hok.l0 hok.l1 hok.cops);have hil:(d.image d.rec_.active d.rec_).length<=140737488351232:=by unfold Dev.image;rw[List.length_take];have:=slot_len hok.l0 hok.l1 d.rec_.active;omega
 have hl2:=hok.l0;have hl1:=hok.l1;generalize devWrite d true n=res at *
 clear hrec hrd hok hdef hdef1 hfacts hd;generalize hrr:d.rec_=r at *
 have HRR:=qH hrr;clear hrr;go_enter Tryz.func19,Tryz.ntmps19;go_wp2_with fail;refine(KN.out _).mono ?_;rintro e w1 ⟨rfl,hb⟩;obtain⟨a0r,a0f,a0n,a0c,a0z,a0l⟩:=kp (w.heap.size) (devA d L) hb;obtain⟨a1r,a1f,a1n,a1c,a1z,a1l⟩:=kp (w.heap.size+1) (#[iv 11,iv n]) hb;obtain⟨a3r,a3f,a3n,a3c,a3z,a3l⟩:=kp (w.heap.size+1+1+1) (devA Dev.zero DLoc.zero) hb;have a1:=kp (w.heap.size+1+1+1+1) (#[.func (Fn.func 51) #[] #[]]) hb;have HB1:Hid (Below w.heap.size w w1):=qH (((((((bW w).alloc nl (.cells (devA d L) 37)).alloc (by simp) (.cells #[iv 11,iv n] 55)).alloc (by simp;omega) (.cells (chkA f t m o B bl bc) 39)).alloc (by simp;omega) (.cells (devA Dev.zero DLoc.zero) 37)).alloc (by simp;omega) _).trans (hb.mono (by simp;omega)));clear hb;go_upto_region 7 with fail
 obtain⟨w2,hw2⟩:=eX (w1.alloc (.cells (recA r) 28));have hb:Below w1.heap.size w1 w2:=by rw[<-hw2];exact bL _
 have hrr:rowOf w2 w1.heap.size=recA r∧frOf w2 w1.heap.size=(0,0):=by rw[<-hw2];exact⟨by rw[rowOf_alloc,if_pos rfl],by rw[frOf_alloc,if_pos rfl]⟩
 obtain⟨a0r,a0f,a0n,a0c,a0z,a0l⟩:=keep1 (g:=w.heap.size) (cs:=devA d L) hb a0r (by first|(go_simp;done)|simp[recA]) a0f;obtain⟨a1r,a1f,a1n,a1c,a1z,a1l⟩:=keep1 (g:=w.heap.size+1) (cs:=#[iv 11,iv n]) hb a1r (by first|(go_simp;done)|simp[recA]) a1f;obtain⟨a3r,a3f,a3n,a3c,a3z,a3l⟩:=keep1 (g:=w.heap.size+1+1+1) (cs:=devA Dev.zero DLoc.zero) hb a3r (by first|(go_simp;done)|simp[recA]) a3f;have a1:=keep1 (g:=w.heap.size+1+1+1+1) (cs:=#[.func (Fn.func 51) #[] #[]]) hb a1.1 (by first|(go_simp;done)|simp[recA]) a1.2.1;obtain⟨r0r,r0f,r0n,r0c,r0z,r0l⟩:=keep1 (bW w2) hrr.1 (by simp[recA]) hrr.2;have HB2:=bT HB1 hb;have hs1:w.heap.size+5<=w1.heap.size:=by omega
 have hs2:w1.heap.size<w2.heap.size:=r0l;rw[hw2];clear hw2 hb hrr HB1;have c2:d.busy=true:=by cases h:d.busy;exact absurd (.inl h) c1;rfl
 have c3:¬d.job.size<=d.done:=fun h=>c1 (.inr h);have hz:=HD.out c2 (by omega);obtain⟨f1,f2,f3,f4,f5⟩:=HFA.out c2;clear c1 HD HD1 HFA KN hu a1;generalize hri:d.image r.active r=im at *
 obtain⟨⟨b',en⟩,hpd⟩:∃x,patDo (sumOn 1) d.job im=x:=⟨_,rfl⟩;rw[hpd]at hz f1 f4;dsimp only at hz f1 f4;subst f1;have KI:Hid (∀wq,Below w2.heap.size w2 wq->Calls Tryz.prog 28 #[.agg (devA d L)] wq (ImRet wq im)):=qH (fun wq h=>K1.out wq (HB2.out.trans (h.mono HB2.out.size)));have KD:Hid (∀wq A c,Below w2.heap.size w2 wq->im.length<=c->Bts wq A im->Calls Tryz.prog 27 #[.agg (patA d.job.from_ d.job.to_ d.job.old d.job.new_ d.job.size L.aj d.job.ops.length L.cj),.slice A im.length c] wq (ByRet2 wq b' 0)):=qH (fun wq A c h hc hb=>by
  exact x3ft)
 have HZ:=qH hz;clear hpd K1 hz hri hil;have RD:Hid (rowOf w2 w.heap.size=devA d L):=qH a0r;have FD:Hid (frOf w2 w.heap.size=(0,0)):=qH a0f;go_wp2_with fail;have hq1:=fun v (h:Below w2.heap.size w2 v)=>keep1 h RD.out (by go_simp) FD.out
 go_region_held3 (fun v=>Below w2.heap.size w2 v) (first|exact hbb|exact(Below.refl _ _).drew)
  (first
    |(go_at_call 28;refine(KI.out _ (by assumption)).mono ?_;rintro e wj ⟨Aj,cj,rfl,h3,h4,h5⟩;have hbb:=(bW w2).drew.trans (h5.mono (by simp)))
    |(go_at_call 27;refine(KD.out _ _ _ (by assumption) h3 h4).mono ?_;rintro e w3 ⟨A5,c5',rfl,g1,g2,g9⟩;have hbb:=hbb.trans (g9.mono hbb.size)))
 have g3:=hbb;clear hbb g9 h3 h4 h5 hq1;obtain⟨a0r,a0f,a0n,a0c,a0z,a0l⟩:=keep1 (g:=w.heap.size) (cs:=devA d L) g3 a0r (by first|(go_simp;done)|simp[recA]) a0f;obtain⟨a1r,a1f,a1n,a1c,a1z,a1l⟩:=keep1 (g:=w.heap.size+1) (cs:=#[iv 11,iv n]) g3 a1r (by first|(go_simp;done)|simp[recA]) a1f;obtain⟨a3r,a3f,a3n,a3c,a3z,a3l⟩:=keep1 (g:=w.heap.size+1+1+1) (cs:=devA Dev.zero DLoc.zero) g3 a3r (by first|(go_simp;done)|simp[recA]) a3f;obtain⟨r0r,r0f,r0n,r0c,r0z,r0l⟩:=keep1 (g:=w1.heap.size) (cs:=recA r) g3 r0r (by first|(go_simp;done)|simp[recA]) r0f;have HB1:Hid (Below w.heap.size w w3):=qH (HB2.out.trans (g3.mono HB2.out.size));have hs4:w2.heap.size<=w3.heap.size:=g3.size;have HBB:=qH g1;have HC1:=qH g2;clear g1 g2 g3 KI KD RD FD HB2;obtain⟨N,hN⟩:∃N:Nat,keepN true n=(N:Int):=⟨(keepN true n).toNat,by have:=(keepN_bd true n).1;omega⟩;have hN1:N<=8:=by have:=(keepN_bd true n).2;omega
 rw[hN]at HZ;have HN:=qH hN;clear hN;go_upto_if 176 with fail
 go_cut [21] (fun v wx=>v=iv (N:Int)∧w3=wx)
 case first=>
  have h3x:max 0 (min 8 n)=(N:Int):=by rw[<-HN.out];simp[keepN]
  have h1x:=run_min8 n;have h2x:=run_max0 (min 8 n);go_wp2_with fail;go_meet
  case rel=>exact⟨by rw[<-h3x],rfl⟩
 case rest=>
 obtain⟨rfl,rfl⟩:=hcut;obtain⟨a,ha⟩:∃a:Nat,r.active=(a:Int):=⟨r.active.toNat,by omega⟩;obtain⟨a',haa⟩:∃a':Nat,a+a'=1:=⟨1-a,by omega⟩;have ha1:a'<=1:=by omega
 have hw1:IntKind.i64.wrap ((1:Int)-(a:Int))=(a':Int):=by rw[IntWalk.i64_in _ (by omega)];omega
 have i1:(0:Int)<=(a':Int):=by omega
 have i2:(a':Int)<2:=by omega
 have i3:¬(2:Int)<=(a':Int):=by omega
 obtain⟨A1,c4,p1,p2,p3⟩:=devSlotA (HI.out.at_ HB1.out) ha1;have hsl:=slot_len hl2 hl1 (a':Int);generalize hgs:d.slot (a':Int)=sl at *
 have HP1:=qH p3;clear p3;have HOZ:Hid (Own (w3.alloc (.cells #[] 5)) w3.heap.size 5 1 (some ⟨w3.heap.size,0,none⟩) 0 0 []):=qH (own_zero w3 5 1);have HSR:Hid (Src (w3.alloc (.cells #[] 5)) A1 (sl.map bv)):=qH ((HP1.out.stays (bL _)).src);rw[hsl]at p1 p2;go_wp2_with (at_builtin;go_must (refine wpList_app _ rfl (.tmp 181) (.tmp 187) 22 rfl elBytes w3.heap.size (some ⟨w3.heap.size,0,none⟩) 0 0 [] rfl HOZ.out A1 64 c4 (sl.map bv) rfl HSR.out (by simp[hsl]) (by simp[Value.oneCell',bv]) (by omega) (by simp) ?_));intro A2 c7 w4 hown _ hbel _;have hbx:Below w3.heap.size w3 w4:=(bL _).trans hbel;have RA:=qH (And.intro a0r a0f);have RH:=qH (And.intro a1r a1f);have RZ:=qH (And.intro a3r a3f);have RR:=qH (And.intro r0r r0f);obtain⟨a0r,a0f,a0n,a0c,a0z,a0l⟩:=keep1 (g:=w.heap.size) (cs:=devA d L) hbx a0r (by first|(go_simp;done)|simp[recA]) a0f;obtain⟨a1r,a1f,a1n,a1c,a1z,a1l⟩:=keep1 (g:=w.heap.size+1) (cs:=#[iv 11,iv n]) hbx a1r (by first|(go_simp;done)|simp[recA]) a1f;obtain⟨a3r,a3f,a3n,a3c,a3z,a3l⟩:=keep1 (g:=w.heap.size+1+1+1) (cs:=devA Dev.zero DLoc.zero) hbx a3r (by first|(go_simp;done)|simp[recA]) a3f;obtain⟨r0r,r0f,r0n,r0c,r0z,r0l⟩:=keep1 (g:=w1.heap.size) (cs:=recA r) hbx r0r (by first|(go_simp;done)|simp[recA]) r0f;have HB2:=bT HB1 hbx;obtain⟨g3,rfl,hg1,hg2⟩:=hown.form (by omega);obtain⟨dn,hdn⟩:∃dn:Nat,d.done=(dn:Int):=⟨d.done.toNat,by omega⟩;have hd1:dn+8<=64:=by omega
 have hb1:b'.length<=64:=by omega
 have hrl:=room_len hb1;have HO1:Hid (Own w4 w3.heap.size 5 1 (some ⟨g3,0,none⟩) 64 c7 ((putU sl (room b') dn 0).map bv)):=qH (by rw[putU_0];simpa using hown);have HX1:=qH hbx;clear hown hbel hbx HOZ HSR;go_wp2_with fail;go_loopw [190] (fun i wr=>∃k:Nat,k<=N∧i=iv k∧Hid (Own wr w3.heap.size 5 1 (some ⟨g3,0,none⟩) 64 c7 ((putU sl (room b') dn k).map bv))∧Hid (Below w3.heap.size w3 wr)) (fun i _=>N-(intOf i).toNat)
 case atStart=>exact⟨0,Nat.zero_le _,rfl,HO1,HX1⟩
 case round=>
  rename World=>wr;obtain⟨k,hk,rfl,HO,HX⟩:=hrel;by_cases hlk:k<N
  ·exact x70e
  obtain rfl:k=N:=by omega
  obtain⟨a0r,a0f,a0n,a0c,a0z,a0l⟩:=keep1 (g:=w.heap.size) (cs:=devA d L) HX.out RA.out.1 (by first|(go_simp;done)|simp[recA]) RA.out.2;obtain⟨a1r,a1f,a1n,a1c,a1z,a1l⟩:=keep1 (g:=w.heap.size+1) (cs:=#[iv 11,iv n]) HX.out RH.out.1 (by first|(go_simp;done)|simp[recA]) RH.out.2;obtain⟨a3r,a3f,a3n,a3c,a3z,a3l⟩:=keep1 (g:=w.heap.size+1+1+1) (cs:=devA Dev.zero DLoc.zero) HX.out RZ.out.1 (by first|(go_simp;done)|simp[recA]) RZ.out.2;obtain⟨r0r,r0f,r0n,r0c,r0z,r0l⟩:=keep1 (g:=w1.heap.size) (cs:=recA r) HX.out RR.out.1 (by first|(go_simp;done)|simp[recA]) RR.out.2;have HBr:Hid (Below w.heap.size w wr):=qH (HB1.out.trans (HX.out.mono HB1.out.size));have HF:=qH HO.out.fresh;have hc1:64<=c7:=HO.out.le;have hnl:(putU sl (room b') dn k).length=64:=by rw[putU_len (by omega) (by omega),hsl]
  have hput:d.put b' ((k:Int)).toNat=putU sl (room b') dn k:=by
   exact x29x
  have hz:=HZ.out;rw[ha,show (1:Int)-(a:Int)=(a':Int) by omega,hput,hdn]at hz;have hin:∀v,DevIn v d L->Bts v (some ⟨g3,0,none⟩) (putU sl (room b') dn k)->DevIn v {d.setSlot (a':Int) (putU sl (room b') dn k)with done:=(dn:Int)+(k:Int)} (L.setS a' (some ⟨g3,0,none⟩) c7):=fun v h g=>h.put ha1 g hnl hc1 ⟨by omega,by omega⟩;have h3:w.heap.size<w3.heap.size:=by omega
  have hs3:=HX.out.size;have o1:On (fun q=>S q∧q<w.heap.size∨w3.heap.size<=q) wr (fun v=>DevIn v d L):=((HI.out.sub (fun q h1 h2=>.inl ⟨h2,h1⟩)).below HBr.out);have o2:On (fun q=>S q∧q<w.heap.size∨w3.heap.size<=q) wr (fun v=>Bts v (some ⟨g3,0,none⟩) (putU sl (room b') dn k)):=(On.fresh HF.out).sub fun q _ h=>.inr h;have HON:=qH ((o1.and o2).imp fun v ⟨h,g⟩=>hin v h g);have hds:=devA_setS d L ha1 (A:=some ⟨g3,0,none⟩) (c:=c7) hnl;have hdo:(d.setSlot (a':Int) (putU sl (room b') dn k)).done=(dn:Int):=by unfold Dev.setSlot;split<;>exact hdn
  generalize d.setSlot (a':Int) (putU sl (room b') dn k)=d2 at *
  generalize L.setS a' (some ⟨g3,0,none⟩) c7=L2 at *
  have hds1:(devA d2 L2).setIfInBounds 36 (iv ((dn:Int)+(k:Int)))=devA {d2 with done:=(dn:Int)+(k:Int)} L2:=rfl;have hwn:IntKind.i64.wrap ((dn:Int)+(k:Int))=(dn:Int)+(k:Int):=IntWalk.i64_in _ (by omega);clear hput hin o1 o2 HF HO HI HO1 HX1 HBB hgs HZ;subst hz;go_wp2_with fail;refine(without_calls _ _ _).mono ?_;rintro e w5 ⟨rfl,hb⟩;have c5:=kp (w.heap.size) (devA {d2 with done:=(dn:Int)+(k:Int)} L2) hb;have c3k:=kp (w.heap.size+1+1+1) (devA Dev.zero DLoc.zero) hb;have HON1:Hid (On (fun q=>S q∧q<w.heap.size∨w3.heap.size<=q) w5 (fun v=>DevIn v {d2 with done:=(dn:Int)+(k:Int)} L2)):=qH (by
   refine On.below ?_ hb;repeat (first|exact HON.out|refine On.row ?_ (by rintro (h|h)<;>omega) _|refine On.cell2 ?_ (by rintro (h|h)<;>omega) _))
  have HB3:=bU HBr hb;clear hb;go_wp2_with fail;refine bodyPost_ret (rC (devA (Dev.down {d2 with done:=(dn:Int)+(k:Int)}) L2.down)) rfl ⟨L2.down,rfl,?_,?_⟩
  ·refine On.sub (S:=fun q=>S q∧q<w.heap.size∨w3.heap.size<=q) ?_ (fun q _ h=>h.elim .inl (fun h=>.inr (by omega)));refine On.imp (P:=fun v=>DevIn v {d2 with done:=(dn:Int)+(k:Int)} L2) ?_ (fun v h=>h.down);repeat (first|exact HON1.out|refine On.row ?_ (by rintro (h|h)<;>omega) _|refine On.cell2 ?_ (by rintro (h|h)<;>omega) _)
  exact bZ HB3
theorem acts_late(d:Dev)(L:DLoc)(kind n f t m o:Int)(B:OA)(bl bc:Nat)(w:World)(h:d.up=decide (kind=10)):Calls Tryz.prog 19 #[.agg (devA d L),.agg #[iv kind,iv n],.agg (chkA f t m o B bl bc)] w (RetB w (.tuple #[.agg (devA Dev.zero DLoc.zero),iv 5])):=by
 have HBA:Hid (Below w.heap.size w (((((w.alloc (.cells (devA d L) 37)).alloc (.cells #[iv kind,iv n] 55)).alloc (.cells (chkA f t m o B bl bc) 39)).alloc (.cells (devA Dev.zero DLoc.zero) 37)).alloc (.cells #[.func (Fn.func 51) #[] #[]] 90))):=qH ((((((bW w).alloc nl _).alloc (by simp) _).alloc (by simp;omega) _).alloc (by simp;omega) _).alloc (by simp;omega) _);have q:(d.up==(kind==(10:Int)))=true:=by
  rw[h];by_cases e:kind=10<;>simp[e]
 clear h;go_enter Tryz.func19,Tryz.ntmps19;go_wp2_with fail;refine(actsBad_calls 5 _).mono ?_;rintro e w1 ⟨rfl,hb⟩;have a1:=kp (w.heap.size+1+1+1) (devA Dev.zero DLoc.zero) hb;have HB1:=bT HBA hb;clear hb;go_wp2_with fail;refine bodyPost_ret (rC (devA Dev.zero DLoc.zero)) rfl ⟨rfl,bZ HB1⟩
def devActs(d:Dev)(x:Chk)(kind n:Int):Dev×Int:=if kind=2 then devHear d x else devAct d kind n
theorem ActRet.on{S:Nat->Prop}{w w':World}{d d2:Dev}{L:DLoc}{n:Int}{e:Ending}(hd:On S w (fun v=>DevIn v d L))(h:ActRet w d L d2 n e w'):AcRet S w d2 n e w':=by
 obtain⟨L1,e1,h2,hb⟩:=h;exact⟨L1,e1,((hd.sub fun k h1 h2=>.inl ⟨h2,h1⟩).below hb).imp h2,hb⟩
theorem acts_calls(S:Nat->Prop)(d:Dev)(L:DLoc)(kind n:Int)(x:Chk)(B:OA)(bc:Nat)(w:World)(hk:kind=2∨5<=kind∧kind<=12)(hok:DevOk d)(hn:I64 n)(hd:On S w (fun v=>DevIn v d L))(hx:On S w (fun v=>ChkIn v x B bc)):
  Calls Tryz.prog 19 #[.agg (devA d L),.agg #[iv kind,iv n],.agg (chkA x.from_ x.to_ x.n x.of_ B x.data.length bc)] w (AcRet S w (devActs d x kind n).1 (devActs d x kind n).2):=by
 have hdc:devCheck d=0:=devCheck_ok.2 hok;by_cases hl:d.up=decide (kind=10)
 ·have he:devActs d x kind n=(Dev.zero,5):=by
   unfold devActs devAct;by_cases k1:kind=10
   ·subst k1;have hu:d.up=true:=by simpa using hl
    simp only[show ¬(10:Int)=2 by decide,show ¬(10:Int)=5 by decide,show ¬(10:Int)=6 by decide,show ¬(10:Int)=7 by decide,show ¬(10:Int)=8 by decide,show ¬(10:Int)=9 by decide,if_false,if_true];unfold devBoot;rw[if_neg (by omega),if_pos hu]
   have hu:d.up=false:=by simpa[k1]using hl
   have hr:devReady d=5:=by unfold devReady;rw[if_neg (by omega),if_pos hu]
   have hr1:devReady d≠0:=by omega
   have e1:devHear d x=(Dev.zero,5):=by unfold devHear;rw[if_pos hr1,hr]
   have e2:devOpen d=(Dev.zero,5):=by unfold devOpen;rw[if_pos hr1,hr]
   have e3:∀b,devWrite d b n=(Dev.zero,5):=fun b=>by unfold devWrite;rw[if_pos hr1,hr]
   have e4:∀b,devFinish d b=(Dev.zero,5):=fun b=>by unfold devFinish;rw[if_pos hr1,hr]
   have e5:devConfirm d=(Dev.zero,5):=by unfold devConfirm;rw[if_pos hr1,hr]
   have e6:devCrash d=(Dev.zero,5):=by unfold devCrash;rw[if_pos hr1,hr]
   rw[e1,e2,e3,e3,e4,e4,e5,e6];repeat (first|rfl|(split<;>first|rfl|omega)|split)
  rw[he];refine(acts_late d L kind n _ _ _ _ B _ bc w hl).mono ?_;rintro e w' ⟨rfl,hb⟩;exact⟨DLoc.zero,rfl,.const fun v=>DevIn.zero v,hb⟩
 have hu:d.up=!decide (kind=10):=by cases h:d.up<;>rw[h]at hl<;>simp at hl⊢<;>exact hl
 rcases hk with rfl|⟨h5,h12⟩
 ·exact acts_hear S d L n x B bc w hok hu hd hx
 have hc:kind=5∨kind=6∨kind=7∨kind=8∨kind=9∨kind=10∨kind=11∨kind=12:=by omega
 rcases hc with rfl|rfl|rfl|rfl|rfl|rfl|rfl|rfl
 ·exact acts_open S d L n _ _ _ _ B _ bc w hok hu hd
 ·by_cases c1:d.busy=false∨d.job.size<=d.done
  ·exact acts_write_bad S d L 6 n _ _ _ _ B _ bc w hok hu hd hn (.inl rfl) c1
  ·exact acts_write6_ok S d L n _ _ _ _ B _ bc w hok hu hd hn c1
 ·exact(acts_finish7 d L n _ _ _ _ B _ bc w hok hu).mono fun _ _ h=>h.on hd
 ·exact(acts_confirm d L n _ _ _ _ B _ bc w hok hu).mono fun _ _ h=>h.on hd
 ·refine(acts_crash d L n _ _ _ _ B _ bc w hu).mono ?_;rintro e w' ⟨rfl,hb⟩;have hr:devReady d=0:=by unfold devReady;rw[if_neg (by omega),if_neg (by rw[hu];decide)]
  have hz:devActs d x 9 n=(d.down,0):=by show devCrash d=_;unfold devCrash;rw[if_neg (by omega)]
  rw[hz];exact⟨L.down,rfl,((hd.sub fun k h1 h2=>.inl ⟨h2,h1⟩).below hb).imp fun v h=>h.down,hb⟩
 ·exact(acts_boot d L n _ _ _ _ B _ bc w hok hu).mono fun _ _ h=>h.on hd
 ·by_cases c1:d.busy=false∨d.job.size<=d.done
  ·exact acts_write_bad S d L 11 n _ _ _ _ B _ bc w hok hu hd hn (.inr rfl) c1
  ·exact acts_write11_ok S d L n _ _ _ _ B _ bc w hok hu hd hn c1
 exact(acts_finish12 d L n _ _ _ _ B _ bc w hok hu).mono fun _ _ h=>h.on hd
section
open Go.RowKit Go.WideShapes Go.ChangeShapes Go.ChangeAt
section
variable {H:Type} {enc:TypeId×Value->H} {P:Program} {w:World} {sp:Nat->Bool} {held:Bool} {t e:TypeId}
theorem readBy_img(ht:P.underlying t=some (.slice e))(he:P.underlying e=some (.int .u8))(hs:P.cellsOf e=1):ReadBy enc P w sp held t rImg:=by
 intro fuel cs d ps h hb;obtain⟨xs,A,c,hx,h1,h2,h3⟩:=readBy_slice ht hs (by omega) (readBy_byte he) fuel cs d ps h hb;exact⟨xs,A,c,hx,h1,h2,h3.bts⟩
end
section
variable {H:Type} {enc:TypeId×Value->H} {w:World} {sp:Nat->Bool} {held:Bool}
theorem reads_img:ReadBy enc Tryz.prog w sp held 22 rImg:=
 readBy_img Tryz.underlying22 Tryz.underlying5 (by kernel_rfl)
end
end
section
open Go.RowKit Go.WideShapes Go.ChangeShapes Go.ChangeAt
def rInf:CR Inf:=fun _ cs x=>cs=(infA x).toList
def rInfs:CR (Inf×Inf):=fun _ cs x=>cs=(infA x.1).toList++(infA x.2).toList
def rRec:CR Rec:=fun _ cs x=>cs=(recA x).toList
def rCop:CR Cop:=fun _ cs x=>cs=(copA x).toList
def rCops:CR (Cop×Cop):=fun _ cs x=>cs=(copA x.1).toList++(copA x.2).toList
section
variable {H:Type} {enc:TypeId×Value->H} {P:Program} {w:World} {sp:Nat->Bool} {held:Bool} {t e:TypeId}
theorem readBy_inf{f0 f1 f2:Field}(ht:P.underlying t=some (.struct #[f0,f1,f2]))(hs:P.cellsOf t=3)
  (o0:f0.offset=0) (o1:f1.offset=1) (o2:f2.offset=2) (k0:P.cellsOf f0.type=1) (k1:P.cellsOf f1.type=1) (k2:P.cellsOf f2.type=1)
  (t0:P.underlying f0.type=some (.int .i64)) (t1:P.underlying f1.type=some (.int .i64)) (t2:P.underlying f2.type=some (.int .i64)):ReadBy enc P w sp held t rInf:=by
 intro fuel cs d ps h hb;obtain⟨hl,hf⟩:=field_of ht h hb;obtain⟨a,ha⟩:=hf 0 f0 rfl (readBy_int t0);obtain⟨b,hb⟩:=hf 1 f1 rfl (readBy_int t1);obtain⟨c,hc⟩:=hf 2 f2 rfl (readBy_int t2);rw[hs]at hl
 match cs,hl with
 |[x,y,z],_=>
  rw[o0,k0]at ha;rw[o1,k1]at hb;rw[o2,k2]at hc;obtain⟨ha,ha'⟩:=ha;obtain⟨hb,hb'⟩:=hb;obtain⟨hc,hc'⟩:=hc;simp at ha hb hc;subst ha hb hc;exact⟨⟨a,b,c⟩,rfl⟩
theorem readBy_infs(ht:P.underlying t=some (.array 2 e))(hs:P.cellsOf t=6)(h1:P.cellsOf e=3)(hR:ReadBy enc P w sp held e rInf):ReadBy enc P w sp held t rInfs:=by
 intro fuel cs d ps h hb;obtain⟨hl,hf⟩:=place_of ht h hb;obtain⟨a,ha⟩:=hf 0 (by omega) hR;obtain⟨b,hb⟩:=hf 1 (by omega) hR;rw[hs]at hl;rw[h1]at ha hb;refine⟨(a,b),?_⟩;unfold rInf at ha hb
 show cs=_;rw[<-ha,<-hb];have e:(cs.drop (1*3)).take 3=cs.drop 3:=by rw[Nat.one_mul];exact List.take_of_length_le (by rw[List.length_drop];omega)
 rw[e,Nat.zero_mul,List.drop_zero,List.take_append_drop]
theorem readBy_rec{f0 f1 f2 f3 f4 f5:Field}(ht:P.underlying t=some (.struct #[f0,f1,f2,f3,f4,f5]))(hs:P.cellsOf t=11)
  (o0:f0.offset=0) (o1:f1.offset=1) (o2:f2.offset=2) (o3:f3.offset=3) (o4:f4.offset=4) (o5:f5.offset=5)
  (k0:P.cellsOf f0.type=1) (k1:P.cellsOf f1.type=1) (k2:P.cellsOf f2.type=1) (k3:P.cellsOf f3.type=1) (k4:P.cellsOf f4.type=1) (k5:P.cellsOf f5.type=6)
  (t0:P.underlying f0.type=some (.int .i64)) (t1:P.underlying f1.type=some (.int .i64)) (t2:P.underlying f2.type=some .bool) (t3:P.underlying f3.type=some (.int .i64)) (t4:P.underlying f4.type=some (.int .i64)) (t5:ReadBy enc P w sp held f5.type rInfs):ReadBy enc P w sp held t rRec:=by
 intro fuel cs d ps h hb;obtain⟨hl,hf⟩:=field_of ht h hb;obtain⟨a6,h6⟩:=hf 0 f0 rfl (readBy_int t0);obtain⟨a1,h1⟩:=hf 1 f1 rfl (readBy_int t1);obtain⟨a2,h2⟩:=hf 2 f2 rfl (readBy_bool t2);obtain⟨a3,h3⟩:=hf 3 f3 rfl (readBy_int t3);obtain⟨a4,h4⟩:=hf 4 f4 rfl (readBy_int t4);obtain⟨a5,h5⟩:=hf 5 f5 rfl t5;rw[hs]at hl;rw[o0,k0]at h6;rw[o1,k1]at h1;rw[o2,k2]at h2;rw[o3,k3]at h3;rw[o4,k4]at h4;rw[o5,k5]at h5
 match cs,hl with
 |[c0,c1,c2,c3,c4,c5,c6,c7,c8,c9,c10],_=>
  obtain⟨h6,_⟩:=h6;obtain⟨h1,_⟩:=h1;obtain⟨h3,_⟩:=h3;obtain⟨h4,_⟩:=h4;unfold rBool at h2;unfold rInfs infA at h5;simp at h6 h1 h2 h3 h4 h5;obtain⟨e5,e6,e7,e8,e9,e10⟩:=h5;subst h6 h1 h2 h3 h4 e5 e6 e7 e8 e9 e10;exact⟨⟨a6,a1,a2,a3,a4,a5.1,a5.2⟩,rfl⟩
theorem readBy_cop{f0 f1:Field}(ht:P.underlying t=some (.struct #[f0,f1]))(hs:P.cellsOf t=12)(o0:f0.offset=0)(o1:f1.offset=1)(k0:P.cellsOf f0.type=1)(k1:P.cellsOf f1.type=11)
  (t0:P.underlying f0.type=some .bool) (t1:ReadBy enc P w sp held f1.type rRec):ReadBy enc P w sp held t rCop:=by
 intro fuel cs d ps h hb;obtain⟨hl,hf⟩:=field_of ht h hb;obtain⟨a0,h2⟩:=hf 0 f0 rfl (readBy_bool t0);obtain⟨a1,h1⟩:=hf 1 f1 rfl t1;rw[hs]at hl;rw[o0,k0]at h2;rw[o1,k1]at h1;unfold rRec at h1
 match cs,hl with
 |c::r,hl=>
  unfold rBool at h2;have h0':c=.bool a0:=by simpa using h2
  have h1':r=(recA a1).toList:=by rw[<-h1];show r=(r.take 11);rw[List.take_of_length_le (by simp at hl;omega)]
  subst h0' h1';exact⟨⟨a0,a1⟩,rfl⟩
theorem readBy_cops(ht:P.underlying t=some (.array 2 e))(hs:P.cellsOf t=24)(h1:P.cellsOf e=12)(hR:ReadBy enc P w sp held e rCop):ReadBy enc P w sp held t rCops:=by
 intro fuel cs d ps h hb;obtain⟨hl,hf⟩:=place_of ht h hb;obtain⟨a,ha⟩:=hf 0 (by omega) hR;obtain⟨b,hb⟩:=hf 1 (by omega) hR;rw[hs]at hl;rw[h1]at ha hb;refine⟨(a,b),?_⟩;unfold rCop at ha hb
 show cs=_;rw[<-ha,<-hb];have e:(cs.drop (1*12)).take 12=cs.drop 12:=by rw[Nat.one_mul];exact List.take_of_length_le (by rw[List.length_drop];omega)
 rw[e,Nat.zero_mul,List.drop_zero,List.take_append_drop]
end
section
variable {H:Type} {enc:TypeId×Value->H} {w:World} {sp:Nat->Bool} {held:Bool}
theorem reads_infs:ReadBy enc Tryz.prog w sp held 26 rInfs:=
 readBy_infs Tryz.underlying26 (by kernel_rfl) (by kernel_rfl) (readBy_inf Tryz.underlying25 (by kernel_rfl) rfl rfl rfl (by kernel_rfl) (by kernel_rfl) (by kernel_rfl) Tryz.underlying3 Tryz.underlying3 Tryz.underlying3)
theorem reads_rec:ReadBy enc Tryz.prog w sp held 28 rRec:=
 readBy_rec Tryz.underlying28 (by kernel_rfl) rfl rfl rfl rfl rfl rfl (by kernel_rfl) (by kernel_rfl) (by kernel_rfl) (by kernel_rfl) (by kernel_rfl) (by kernel_rfl)
  Tryz.underlying3 Tryz.underlying3 Tryz.underlying4 Tryz.underlying3 Tryz.underlying3 reads_infs
theorem reads_cop:ReadBy enc Tryz.prog w sp held 30 rCop:=
 readBy_cop Tryz.underlying30 (by kernel_rfl) rfl rfl (by kernel_rfl) (by kernel_rfl) Tryz.underlying4 reads_rec
theorem reads_cops:ReadBy enc Tryz.prog w sp held 31 rCops:=
 readBy_cops Tryz.underlying31 (by kernel_rfl) (by kernel_rfl) reads_cop
end
section
variable {H:Type} {enc:TypeId×Value->H} {w:World} {base:Nat} {v:Value} {d:DataW H} {p:List MemPlace}
end
end
section
open Go.RowKit Go.WideShapes Go.ChangeShapes Go.ChangeAt
def rSlots:CR (List UInt8×List UInt8):=fun w cs x=>∃A c B e,cs=[.slice A x.1.length c,.slice B x.2.length e]∧(x.1.length<=c∧x.1.length<=140737488351232∧Bts w A x.1)∧x.2.length<=e∧x.2.length<=140737488351232∧Bts w B x.2
def rDev:CR Dev:=fun w cs d=>∃L,cs=(devA d L).toList∧DevIn w d L
theorem part_of{cs ys:List Value}{a n:Nat}(h:(cs.drop a).take n=ys):cs.drop a=ys++cs.drop (a+n):=by rw[<-h,<-List.drop_drop,List.take_append_drop]
section
variable {H:Type} {enc:TypeId×Value->H} {P:Program} {w:World} {sp:Nat->Bool} {held:Bool} {t e:TypeId}
theorem readBy_slots(ht:P.underlying t=some (.array 2 e))(hs:P.cellsOf t=2)(h1:P.cellsOf e=1)(hR:ReadBy enc P w sp held e rImg):ReadBy enc P w sp held t rSlots:=by
 intro fuel cs d ps h hb;obtain⟨hl,hf⟩:=place_of ht h hb;obtain⟨x,A,c,hx,g1,g2,g3⟩:=hf 0 (by omega) hR;obtain⟨y,B,e,hy,k1,k2,k3⟩:=hf 1 (by omega) hR;rw[hs]at hl;rw[h1]at hx hy
 match cs,hl with
 |[u,v],_=>
  simp at hx hy;subst hx hy;exact⟨(x,y),A,c,B,e,rfl,⟨g1,g2,g3⟩,k1,k2,k3⟩
theorem readBy_dev{f0 f1 f2 f3 f4 f5 f6 f7:Field}{tc:TypeId}(ht:P.underlying t=some (.struct #[f0,f1,f2,f3,f4,f5,f6,f7]))(hs:P.cellsOf t=37)
  (o0:f0.offset=0) (o1:f1.offset=2) (o2:f2.offset=26) (o3:f3.offset=27) (o4:f4.offset=28) (o5:f5.offset=29) (o6:f6.offset=30) (o7:f7.offset=36)
  (k0:P.cellsOf f0.type=2) (k1:P.cellsOf f1.type=24) (k2:P.cellsOf f2.type=1) (k3:P.cellsOf f3.type=1) (k4:P.cellsOf f4.type=1) (k5:P.cellsOf f5.type=1) (k6:P.cellsOf f6.type=6) (k7:P.cellsOf f7.type=1)
  (t0:ReadBy enc P w sp held f0.type rSlots) (t1:ReadBy enc P w sp held f1.type rCops) (t2:P.underlying f2.type=some .bool) (t3:P.underlying f3.type=some (.int .i64))
  (t4:P.underlying f4.type=some (.slice tc)) (hc:P.cellsOf tc=5) (hB:P.bytesOf tc=56) (hR:ReadBy enc P w sp held tc rChk) (t5:P.underlying f5.type=some .bool) (t6:ReadBy enc P w sp held f6.type rPat) (t7:P.underlying f7.type=some (.int .i64)):ReadBy enc P w sp held t rDev:=by
 intro fuel cs d ps h hb;obtain⟨hl,hf⟩:=field_of ht h hb;obtain⟨⟨s2,s1⟩,A2,c2,A1,c1,h8,⟨x1,x2,x3⟩,x4,x5,x6⟩:=hf 0 f0 rfl t0;obtain⟨⟨cp2,cp1⟩,h1⟩:=hf 1 f1 rfl t1;obtain⟨up,h2⟩:=hf 2 f2 rfl (readBy_bool t2);obtain⟨ru,h3,i1⟩:=hf 3 f3 rfl (readBy_int t3);obtain⟨got,A3,c3,h4,y1,y2,y3⟩:=hf 4 f4 rfl (readBy_sliceM (M:=2513169434843) t4 hc (by omega) hR (fun n _ h=>by rw[hB]at h;omega));obtain⟨bz,h5⟩:=hf 5 f5 rfl (readBy_bool t5);obtain⟨p,A4,c4,h6,z⟩:=hf 6 f6 rfl t6;obtain⟨dn,h7,i2⟩:=hf 7 f7 rfl (readBy_int t7);rw[hs]at hl;rw[o0,k0]at h8;rw[o1,k1]at h1;rw[o2,k2]at h2;rw[o3,k3]at h3;rw[o4,k4]at h4;rw[o5,k5]at h5;rw[o6,k6]at h6;rw[o7,k7]at h7;unfold rCops at h1;unfold rBool at h2 h5;have e9:=part_of h8;have e1:=part_of h1;have e2:=part_of h2;have e3:=part_of h3;have e4:=part_of h4;have e5:=part_of h5;have e6:=part_of h6;have e7:=part_of h7;have e8:cs.drop (36+1)=[]:=List.drop_eq_nil_of_le (by omega);refine⟨⟨s2,s1,cp2,cp1,up,ru,got,bz,p,dn⟩,⟨A2,c2,A1,c1,A3,c3,A4,c4⟩,?_,⟨x1,x2,x3,x4,x5,x6,y1,y2,y3,z,i1,i2⟩⟩;have e:cs=cs.drop 0:=rfl;rw[e,e9];rw[show 0+2=2 from rfl,e1,show 2+24=26 from rfl,e2,show 26+1=27 from rfl,e3,show 27+1=28 from rfl,e4,show 28+1=29 from rfl,e5,show 29+1=30 from rfl,e6,show 30+6=36 from rfl,e7,e8];rfl
end
section
variable {H:Type} {enc:TypeId×Value->H} {w:World} {sp:Nat->Bool} {held:Bool}
theorem reads_slots:ReadBy enc Tryz.prog w sp held 23 rSlots:=readBy_slots Tryz.underlying23 (by kernel_rfl) (by kernel_rfl) reads_img
theorem reads_pat:ReadBy enc Tryz.prog w sp held 35 rPat:=
 readBy_pat Tryz.underlying35 (by kernel_rfl) rfl rfl rfl rfl rfl rfl (by kernel_rfl) (by kernel_rfl) (by kernel_rfl) (by kernel_rfl) (by kernel_rfl) (by kernel_rfl)
  Tryz.underlying3 Tryz.underlying3 Tryz.underlying3 Tryz.underlying3 Tryz.underlying3 Tryz.underlying33 (by kernel_rfl) (by kernel_rfl) reads_op
theorem reads_dev:ReadBy enc Tryz.prog w sp held 37 rDev:=
 readBy_dev Tryz.underlying37 (by kernel_rfl) rfl rfl rfl rfl rfl rfl rfl rfl (by kernel_rfl) (by kernel_rfl) (by kernel_rfl) (by kernel_rfl) (by kernel_rfl) (by kernel_rfl) (by kernel_rfl) (by kernel_rfl)
  reads_slots reads_cops Tryz.underlying4 Tryz.underlying3 Tryz.underlying32 (by kernel_rfl) (by kernel_rfl) reads_chk Tryz.underlying4 reads_pat Tryz.underlying3
end
def ArgDev(W:World)(v:Value)(d:Dev):Prop:=∃L,v=.agg (devA d L)∧DevIn W d L
section
variable {H:Type} {enc:TypeId×Value->H} {w:World} {base:Nat} {v:Value} {d:DataW H} {p:List MemPlace}
theorem argDev_of(ho:Value.okWide Tryz.prog w .any base 37 v)(h:DataW.Trod enc Tryz.prog w 0 (fun _=>true) true 37 v d p)(hb:Wt Tryz.prog 37 d):∃x,ArgDev w v x:=by
 obtain⟨x,cs,hv,L,hp,h1⟩:=argAgg_of (.inl ⟨_,Tryz.underlying37⟩) reads_dev ho h hb;exact⟨x,L,by rw[hv,hp],h1⟩
end
end
end Go.Proofs.YtefkfglkpebbmacGreat
