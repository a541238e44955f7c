/- Walks of functions, and plain words. No conditions. -/
import Derived.Test.YtefkfglkpebbmaaGreatP12
import Derived.Laws.OwnMore
set_option linter.unusedVariables false
set_option linter.unusedSimpArgs false
set_option maxRecDepth 100000
set_option maxHeartbeats 40000000
namespace Go.Proofs.YtefkfglkpebbmaaGreat
open Go.RowKit
variable {Y:Prop}
variable {a g k:Nat} {w:World} {rm:LU}
theorem x2tc(h:Y:=by
 intro done cv k a wq hw h hJ hn;have e3:=mO 3 (.pointer (some ⟨w.heap.size,0,none⟩)) h;go_simp):Y:=h
theorem x30j(h:Y:=by
 go_quiet (fail)
 go_wp2_with fail;go_meet
 case rel=>exact⟨by rw[hres],qH (below_drewN _ _)⟩):Y:=h
theorem splice_other(r:Rec){a':Nat}(ha:r.active=(a:Int))(h:a+a'=1):splice (recA r) (5+a'*3) (infA Inf.zero)=recA (r.setOther Inf.zero):=by
 exact x7dr
theorem acts_open(S:Nat->Prop)(d:Dev)(L:DLoc)(n f t m o:Int)(B:OA)(bl bc:Nat)(w:World)(hok:DevOk d)(hu:d.up=true)(hd:On S w (fun v=>DevIn v d L)):Calls Tryz.prog 33 #[.agg (devA d L),.agg #[iv 5,iv n],.agg (chkA f t m o B bl bc)] w (AcRet S w (devOpen d).1 (devOpen d).2):=by
 have hrec:=rec_ok hok;have hrd:devReady d=0:=by unfold devReady;rw[if_neg (by simpa using devCheck_ok.2 hok),if_neg (by rw[hu];decide)]
 have KN:=qH (fun w=>newest_calls d.c0 d.c1 w);rw[refNewest_ok hok.cops]at KN;obtain⟨rk,hrk⟩:=eX ((recRead d.c0 d.c1).2);have hre:(recRead d.c0 d.c1).1=d.rec_:=rfl;rw[hrk,hre]at KN;clear hrk hre;have hact:=rec_active hrec;have hdef:devOpen d=if d.busy=true∨d.rec_.trying=true then (Dev.zero,5)else if (chkJoin d.got).2≠0 then (Dev.zero,(chkJoin d.got).2)
   else if (chkJoin d.got).1.from_≠(d.rec_.at_ d.rec_.active).ver∨(chkJoin d.got).1.to_<d.rec_.floor then (Dev.zero,4)
   else if (patDo (sumOn 1) (chkJoin d.got).1 (d.image d.rec_.active d.rec_)).2≠0 then (Dev.zero,(patDo (sumOn 1) (chkJoin d.got).1 (d.image d.rec_.active d.rec_)).2)
   else if (recWrite d.c0 d.c1 (d.rec_.setOther Inf.zero) false).2≠0 then (Dev.zero,(recWrite d.c0 d.c1 (d.rec_.setOther Inf.zero) false).2)
   else ({d.write (d.rec_.setOther Inf.zero) false with busy:=true,job:=(chkJoin d.got).1,done:=0,got:=[]},0):=by
  unfold devOpen;rw[if_neg (by omega)]
 have HD:=qH hdef;have HI:=qH hd;have K1:=qH (fun v (hb:Below w.heap.size w v)=>refJoined_calls L.ag L.cg d.got v hd.now.lg (hd.at_ hb).got);have K2:=qH (fun v (hb:Below w.heap.size w v)=>imageOf_calls d L v (hd.at_ hb) hok.l0 hok.l1 hok.cops);have K3:=qH (fun B A dd c p old w hc ho hA hp=>refDone_calls B A dd c p old w hc ho hA hp);have K4:=qH (fun gd w h1 h2=>actsWrite_calls d L (d.rec_.setOther Inf.zero) false gd w hok.cops h1 h2);have hil:(d.image d.rec_.active d.rec_).length<=140737488351232:=by unfold Dev.image;rw[List.length_take];have:=slot_len hok.l0 hok.l1 d.rec_.active;omega
 generalize d.image d.rec_.active d.rec_=im at *
 obtain⟨⟨p,e1⟩,hp⟩:∃y,chkJoin d.got=y:=⟨_,rfl⟩;rw[hp]at K1 HD;dsimp only at K1 HD;generalize devOpen d=res at *
 clear hrec hrd hok hdef hd hp;generalize d.rec_=r at *
 go_enter Tryz.func33,Tryz.ntmps33;go_wp2_with fail;refine(KN.out _).mono ?_;rintro e w1 ⟨rfl,hb⟩;have a2:=kp (w.heap.size) (devA d L) hb;have a1:=kp (w.heap.size+1) (#[iv 5,iv n]) hb;have a3:=kp (w.heap.size+1+1+1) (devA Dev.zero DLoc.zero) hb;have a4:=kp (w.heap.size+1+1+1+1) (#[.func (Fn.func 69) #[] #[]]) hb;have HB1:Hid (Below w.heap.size w w1):=qH (((((((bW w).alloc nl (.cells (devA d L) 38)).alloc (by simp) (.cells #[iv 5,iv n] 50)).alloc (by simp;omega) (.cells (chkA f t m o B bl bc) 61)).alloc (by simp;omega) (.cells (devA Dev.zero DLoc.zero) 38)).alloc (by simp;omega) _).trans (hb.mono (by simp;omega)));clear hb;by_cases c1:d.busy=true∨r.trying=true
 ·have hz:=HD.out.trans (if_pos c1);subst hz;clear HD K1 K2 K3 K4 KN hact
  cases c2:d.busy
  case true=>
   go_wp2_with fail;refine(actsBad_calls 5 _).mono ?_;rintro e wz ⟨rfl,hb⟩;have z1:=kp (w.heap.size+1+1+1) (devA Dev.zero DLoc.zero) hb;have HBZ:=bU HB1 hb;exact x92q
  case false=>
   have q:r.trying=true:=c1.resolve_left (by rw[c2];decide);clear c1;go_wp2_with fail;refine(actsBad_calls 5 _).mono ?_;rintro e wz ⟨rfl,hb⟩;have z1:=kp (w.heap.size+1+1+1) (devA Dev.zero DLoc.zero) hb;have HBZ:=bU HB1 hb;exact x92q
 have c2:d.busy=false:=by cases h:d.busy;rfl;exact absurd (.inl h) c1
 have c3:r.trying=false:=by cases h:r.trying;rfl;exact absurd (.inr h) c1
 have HD1:=qH (HD.out.trans (if_neg c1));clear c1 HD KN hu;go_wp2_with fail;refine(K1.out _ (by have hs:=HB1.out.size;repeat (first|exact HB1.out|refine bA ?_ _))).mono ?_;rintro e w2 ⟨A1,c2',rfl,hf1,hb⟩;have a2:=kr a2 hb;have a3:=kr a3 hb;have a4:=kr a4 hb;have r1:=kp (w1.heap.size) (recA r) hb;have HB2:=bU HB1 hb;have hs1:w.heap.size+5<=w1.heap.size:=by omega
 have HF1:Hid (Fresh (w1.heap.size+1) w2 (fun v=>PatIn v p A1 c2')):=qH (by simpa using hf1);have hs2:w1.heap.size+1<=w2.heap.size:=by have:=hb.size;simpa using this
 clear hb hf1 K1;by_cases c4:e1≠0
 ·have hz:=HD1.out.trans (if_pos c4);subst hz;have q:(e1 !=0)=true:=by simp[c4]
  clear c4 HD1 K2 K3 K4 HF1 hact;go_wp2_with fail;refine(actsBad_calls e1 _).mono ?_;rintro e wz ⟨rfl,hb⟩;have z1:=kp (w.heap.size+1+1+1) (devA Dev.zero DLoc.zero) hb;have HBZ:=bU HB2 hb;exact x92q
 have c4:=Decidable.not_not.1 c4;subst c4;have HD2:=qH (HD1.out.trans (if_neg (by decide)));clear HD1;go_upto_region 20 with fail
 obtain⟨w3,hw2⟩:=eX (w2.alloc (.cells (patA p.from_ p.to_ p.old p.new_ p.size A1 p.ops.length c2') 36));have hb:Below w2.heap.size w2 w3:=by rw[<-hw2];exact bL _
 have hrr:rowOf w3 w2.heap.size=patA p.from_ p.to_ p.old p.new_ p.size A1 p.ops.length c2'∧frOf w3 w2.heap.size=(0,0):=by rw[<-hw2];exact⟨by rw[rowOf_alloc,if_pos rfl],by rw[frOf_alloc,if_pos rfl]⟩
 have a2:=keep1 (g:=w.heap.size) (cs:=devA d L) hb a2.1 (by first|(go_simp;done)|simp[recA]|simp[patA]) a2.2.1;have a3:=keep1 (g:=w.heap.size+1+1+1) (cs:=devA Dev.zero DLoc.zero) hb a3.1 (by first|(go_simp;done)|simp[recA]|simp[patA]) a3.2.1;have a4:=keep1 (g:=w.heap.size+1+1+1+1) (cs:=#[.func (Fn.func 69) #[] #[]]) hb a4.1 (by first|(go_simp;done)|simp[recA]|simp[patA]) a4.2.1;have r1:=keep1 (g:=w1.heap.size) (cs:=recA r) hb r1.1 (by first|(go_simp;done)|simp[recA]|simp[patA]) r1.2.1;have p1:=keep1 (bW w3) hrr.1 (by simp[patA]) hrr.2;have HB3:=bT HB2 hb;have HF2:Hid (Fresh (w1.heap.size+1) w3 (fun v=>PatIn v p A1 c2')):=qH (HF1.out.below hb nl);have hs3:w2.heap.size<w3.heap.size:=p1.2.2.2.2.2;rw[hw2];clear hw2 hb hrr HB2 HF1;obtain⟨a,ha⟩:∃a:Nat,r.active=(a:Int):=⟨r.active.toNat,by omega⟩;have ha1:a<=1:=by omega
 have pv:=recA_ver r ha1;have HA:=qH ha;rw[ha]at HD2;obtain⟨bad1,hbad⟩:∃b,decide (p.from_≠(r.at_ (a:Int)).ver∨p.to_<r.floor)=b:=⟨_,rfl⟩;have HBAD:=qH hbad;clear hbad;go_cut [110] (fun v wx=>v=.bool bad1∧Hid (Below w3.heap.size w3 wx))
 case first=>
  have k1:(0:Int)<=(a:Int):=by omega
  have k2:(a:Int)<2:=by omega
  have k3:¬(2:Int)<=(a:Int):=by omega
  by_cases c1:p.from_=(r.at_ (a:Int)).ver
  ·have q1:(p.from_ !=(r.at_ (a:Int)).ver)=false:=by simp[c1]
   by_cases c5:p.to_<r.floor
   ·have hres:bad1=true:=by rw[<-HBAD.out];exact decide_eq_true (.inr c5)
    clear c1;exact x30j
   have hres:bad1=false:=by rw[<-HBAD.out];exact decide_eq_false (fun h=>h.elim (fun h=>h c1) c5)
   clear c1;exact x30j
  have q1:(p.from_ !=(r.at_ (a:Int)).ver)=true:=by simp[c1]
  have hres:bad1=true:=by rw[<-HBAD.out];exact decide_eq_true (.inl c1)
  clear c1;exact x30j
 case rest=>
 obtain⟨rfl,hb⟩:=hcut;have a2:=keep1 (g:=w.heap.size) (cs:=devA d L) hb.out a2.1 (by first|(go_simp;done)|simp[recA]|simp[patA]) a2.2.1;have a3:=keep1 (g:=w.heap.size+1+1+1) (cs:=devA Dev.zero DLoc.zero) hb.out a3.1 (by first|(go_simp;done)|simp[recA]|simp[patA]) a3.2.1;have a4:=keep1 (g:=w.heap.size+1+1+1+1) (cs:=#[.func (Fn.func 69) #[] #[]]) hb.out a4.1 (by first|(go_simp;done)|simp[recA]|simp[patA]) a4.2.1;have r1:=keep1 (g:=w1.heap.size) (cs:=recA r) hb.out r1.1 (by first|(go_simp;done)|simp[recA]|simp[patA]) r1.2.1;have p1:=keep1 (g:=w2.heap.size) (cs:=patA p.from_ p.to_ p.old p.new_ p.size A1 p.ops.length c2') hb.out p1.1 (by first|(go_simp;done)|simp[recA]|simp[patA]) p1.2.1;have HB2:=bT HB3 hb.out;have HF1:Hid (Fresh (w1.heap.size+1) wc (fun v=>PatIn v p A1 c2')):=qH (HF2.out.below hb.out nl);have hs4:w3.heap.size<=wc.heap.size:=hb.out.size;clear hb HB3 HF2
 cases hbd:bad1
 case true=>
  have hz:=HD2.out.trans (if_pos (of_decide_eq_true (HBAD.out.trans hbd)));subst hz;clear hbd HD2 K2 K3 K4 HF1 hact;go_wp2_with fail;refine(actsBad_calls 4 _).mono ?_;rintro e wz ⟨rfl,hb⟩;have z1:=kp (w.heap.size+1+1+1) (devA Dev.zero DLoc.zero) hb;have HBZ:=bU HB2 hb;exact x92q
 have HD1:=qH (HD2.out.trans (if_neg (of_decide_eq_false (HBAD.out.trans hbd))));clear HD2 HBAD hbd;obtain⟨⟨b',en⟩,hpd⟩:∃x,patDo (sumOn 1) p im=x:=⟨_,rfl⟩;have KI:Hid (∀wq,Below wc.heap.size wc wq->Calls Tryz.prog 54 #[.agg (devA d L)] wq (ImRet wq im)):=qH (fun wq h=>K2.out wq (HB2.out.trans (h.mono HB2.out.size)));have KD:Hid (∀wq A c,Below wc.heap.size wc wq->im.length<=c->Bts wq A im->Calls Tryz.prog 53 #[.agg (patA p.from_ p.to_ p.old p.new_ p.size A1 p.ops.length c2'),.slice A im.length c] wq (ByRet2 wq b' en)):=qH (fun wq A c h hc hb=>by
  have hq:=K3.out A1 A c2' c p im wq hc hil hb (HF1.out.now.stays h);rw[hpd]at hq;exact hq)
 rw[hpd]at HD1;dsimp only at HD1;clear hpd K2 K3;have RD:Hid (rowOf wc w.heap.size=devA d L):=qH a2.1;have FD:Hid (frOf wc w.heap.size=(0,0)):=qH a2.2.1;have RP:Hid (rowOf wc w2.heap.size=patA p.from_ p.to_ p.old p.new_ p.size A1 p.ops.length c2'):=qH p1.1;have FP:Hid (frOf wc w2.heap.size=(0,0)):=qH p1.2.1;go_wp2_with fail;have hq2:=fun v (h:Below wc.heap.size wc v)=>keep1 h RP.out (by simp[patA]) FP.out;have hq1:=fun v (h:Below wc.heap.size wc v)=>keep1 h RD.out (by go_simp) FD.out
 go_region_held3 (fun v=>Below wc.heap.size wc v) (first|exact hbb|exact(Below.refl _ _).drew)
  (first
    |(go_at_call 54;refine(KI.out _ (by assumption)).mono ?_;rintro e wj ⟨Aj,cj,rfl,h3,h4,h5⟩;have hbb:=(bW wc).drew.trans (h5.mono (by simp)))
    |(go_at_call 53;refine(KD.out _ _ _ (by assumption) h3 h4).mono ?_;rintro e w5 ⟨A5,c5',rfl,g1,g2,g9⟩;have hbb:=hbb.trans (g9.mono hbb.size)))
 have g3:=hbb;clear hbb g9 h3 h4 h5 hq2 hq1;have a2:=keep1 (g:=w.heap.size) (cs:=devA d L) g3 a2.1 (by first|(go_simp;done)|simp[recA]|simp[patA]) a2.2.1;have a3:=keep1 (g:=w.heap.size+1+1+1) (cs:=devA Dev.zero DLoc.zero) g3 a3.1 (by first|(go_simp;done)|simp[recA]|simp[patA]) a3.2.1;have a4:=keep1 (g:=w.heap.size+1+1+1+1) (cs:=#[.func (Fn.func 69) #[] #[]]) g3 a4.1 (by first|(go_simp;done)|simp[recA]|simp[patA]) a4.2.1;have r1:=keep1 (g:=w1.heap.size) (cs:=recA r) g3 r1.1 (by first|(go_simp;done)|simp[recA]|simp[patA]) r1.2.1;have p1:=keep1 (g:=w2.heap.size) (cs:=patA p.from_ p.to_ p.old p.new_ p.size A1 p.ops.length c2') g3 p1.1 (by first|(go_simp;done)|simp[recA]|simp[patA]) p1.2.1;have HB3:Hid (Below w.heap.size w w5):=qH (HB2.out.trans (g3.mono HB2.out.size));have HF2:Hid (Fresh (w1.heap.size+1) w5 (fun v=>PatIn v p A1 c2')):=qH (HF1.out.below g3 nl);have hs5:wc.heap.size<=w5.heap.size:=g3.size;clear g1 g2 g3 KI KD RD FD RP FP HB2 HF1;by_cases c5:en≠0
 ·have hz:=HD1.out.trans (if_pos c5);subst hz;have q:(en !=0)=true:=by simp[c5]
  clear c5 HD1 K4 HF2 hact;go_wp2_with fail;refine(actsBad_calls en _).mono ?_;rintro e wz ⟨rfl,hb⟩;have z1:=kp (w.heap.size+1+1+1) (devA Dev.zero DLoc.zero) hb;have HBZ:=bU HB3 hb;exact x92q
 have c5:=Decidable.not_not.1 c5;subst c5;have HD2:=qH (HD1.out.trans (if_neg (by decide)));clear HD1;obtain⟨a',haa⟩:∃a':Nat,a+a'=1:=⟨1-a,by omega⟩;have hsp:=splice_other r ha haa;generalize r.setOther Inf.zero=r2 at *
 have hle:5+a'*3+3<=11:=by omega
 have hw1:IntKind.i64.wrap ((1:Int)-(a:Int))=(a':Int):=by rw[IntWalk.i64_in _ (by omega)];omega
 have i1:(0:Int)<=(a':Int):=by omega
 have i2:(a':Int)<2:=by omega
 have i3:¬(2:Int)<=(a':Int):=by omega
 clear hact;go_upto_region 26 with fail
 have hp1:0<(rowOf w5 w1.heap.size).size:=by rw[r1.1];simp[recA]
 obtain⟨w4,hw2⟩:=eX (w5.setRow w1.heap.size (recA r2));have hk1:∀k,k≠w1.heap.size->w4.heap[k]?=w5.heap[k]?:=fun k hk=>by rw[<-hw2];exact setRow_other _ _ _ _ hk
 have hs6:w4.heap.size=w5.heap.size:=by rw[<-hw2];simp
 have hrr:rowOf w4 w1.heap.size=recA r2∧frOf w4 w1.heap.size=(0,0):=by rw[<-hw2,rowOf_setRow _ _ _ _ hp1,if_pos rfl,frOf_setRow];exact⟨rfl,r1.2.1⟩
 have HB2:Hid (Below w.heap.size w w4):=qH (by rw[<-hw2];exact below_row HB3.out (by omega) _);have HF1:Hid (Fresh (w1.heap.size+1) w4 (fun v=>PatIn v p A1 c2')):=qH (by rw[<-hw2];exact HF2.out.row (by omega) _);rw[hw2];have a2:=keepH (g:=w.heap.size) (cs:=devA d L) (hk1 _ (by omega)) a2.1 (by first|(go_simp;done)|simp[patA]) a2.2.1;have a3:=keepH (g:=w.heap.size+1+1+1) (cs:=devA Dev.zero DLoc.zero) (hk1 _ (by omega)) a3.1 (by first|(go_simp;done)|simp[patA]) a3.2.1;have a4:=keepH (g:=w.heap.size+1+1+1+1) (cs:=#[.func (Fn.func 69) #[] #[]]) (hk1 _ (by omega)) a4.1 (by first|(go_simp;done)|simp[patA]) a4.2.1;have p1:=keepH (g:=w2.heap.size) (cs:=patA p.from_ p.to_ p.old p.new_ p.size A1 p.ops.length c2') (hk1 _ (by omega)) p1.1 (by first|(go_simp;done)|simp[patA]) p1.2.1;have r1:=keep1 (bW w4) hrr.1 (by simp[recA]) hrr.2;clear hw2 hk1 hp1 hrr hsp hle hw1 i1 i2 i3 haa HB3 HF2 pv;go_wp2_with fail;refine(K4.out _ _ (by go_simp) (by go_simp)).mono ?_;intro e w5 hwt;obtain⟨rfl,⟨x0r,x0f⟩,hbx,hkx⟩:=hwt.row a2.1 a2.2.1;have a3:=keepH (g:=w.heap.size+1+1+1) (cs:=devA Dev.zero DLoc.zero) (hkx _ (by omega) (by omega)) a3.1 (by first|(go_simp;done)|simp[patA]) a3.2.1;have a4:=keepH (g:=w.heap.size+1+1+1+1) (cs:=#[.func (Fn.func 69) #[] #[]]) (hkx _ (by omega) (by omega)) a4.1 (by first|(go_simp;done)|simp[patA]) a4.2.1;have p1:=keepH (g:=w2.heap.size) (cs:=patA p.from_ p.to_ p.old p.new_ p.size A1 p.ops.length c2') (hkx _ (by omega) (by omega)) p1.1 (by first|(go_simp;done)|simp[patA]) p1.2.1;have HB3:Hid (Below w.heap.size w w5):=qH (HB2.out.trans hbx);have HF2:Hid (Fresh (w1.heap.size+1) w5 (fun v=>PatIn v p A1 c2')):=qH (HF1.out.fresh fun k h1 h2=>hkx k h2 (by omega));have hs7:w4.heap.size<=w5.heap.size:=hbx.size;clear hwt hbx hkx HB2 HF1 K4;obtain⟨e2,he1⟩:=eX ((recWrite d.c0 d.c1 r2 false).2);rw[he1]at x0r HD2⊢;obtain⟨dX,hdX⟩:=eX ((if e2=0 then d.write r2 false else d));rw[hdX]at x0r;have HDX:=qH hdX;clear he1 hdX;have RD:Hid (rowOf w5 w.heap.size=devA dX L):=qH x0r;have FD:Hid (frOf w5 w.heap.size=(0,0)):=qH x0f;have RP:Hid (rowOf w5 w2.heap.size=patA p.from_ p.to_ p.old p.new_ p.size A1 p.ops.length c2'):=qH p1.1;have FP:Hid (frOf w5 w2.heap.size=(0,0)):=qH p1.2.1;have HQ1:Hid (w2.heap.size≠w.heap.size):=qH (by omega);have HP1:Hid (0<(rowOf w5 w.heap.size).size):=qH (by rw[RD.out,devA_size];decide);clear x0r x0f;go_wp2_with fail;refine wp_region_mix (by kernel_rfl) (some 138::some 139::none::some 140::none::some 141::none::some 142::none::[]) (none::none::some 0::none::some 1::none::some 2::none::some 3::[]) (.agg (patA p.from_ p.to_ p.old p.new_ p.size A1 p.ops.length c2')::.pointer (some ⟨w.heap.size,29,none⟩)::undef::.pointer (some ⟨w.heap.size,30,none⟩)::undef::.pointer (some ⟨w.heap.size,36,none⟩)::undef::.pointer (some ⟨w.heap.size,28,none⟩)::undef::[]) 4 (opJ w5 w.heap.size dX L p A1 c2') 327 rfl rfl (by decide+kernel) (by decide+kernel) (by decide+kernel) (by decide+kernel) rfl rfl (by decide+kernel) (by decide+kernel) (rfl) ?_ ?_
 ·refine⟨?_,?_,?_,?_,?_,?_,?_,?_,?_,trivial⟩
  ·intro done cv k a wq hw h hJ hn;have e3:=mO 15 (.pointer (some ⟨w2.heap.size,0,none⟩)) h;obtain⟨r_,f_⟩:=opJ_row hJ HQ1.out RP.out FP.out HP1.out;go_simp
  ·exact x2tc
  ·intro done cv a wq hw h hJ;have e3:=mN 1 139 h hw;obtain rfl:wq=w5.drew:=hJ;refine wp_sb1c e3 (cs:=devA dX L) (by rw[rowOf_drew];exact RD.out) (by go_simp) (by rw[frOf_drew];exact FD.out) ⟨undef,rfl,?_⟩
   show _=_;rw[devA_set_busy]
  ·exact x2tc
  ·intro done cv a wq hw h hJ;have e3:=mN 3 140 h hw;have e138:=mN 0 138 h hw;have hJ':wq=w5.drew.setRow w.heap.size (devA {dX with busy:=true} L):=hJ;subst hJ';refine wp_srow e3 e138 (by go_simp) (by go_simp) (cs:=devA {dX with busy:=true} L) (by rw[rowOf_setRow _ _ _ _ (by rw[rowOf_drew];exact HP1.out),if_pos rfl]) (by go_simp) (by rw[frOf_setRow,frOf_drew];exact FD.out) (by go_simp) ⟨undef,rfl,?_⟩
   show _=_;rw[devA_splice_job,setRow_setRow]
  ·exact x2tc
  ·intro done cv a wq hw h hJ;have e3:=mN 5 141 h hw;have hJ':wq=w5.drew.setRow w.heap.size (devA {dX with busy:=true,job:=p} {L with aj:=A1,cj:=c2'}):=hJ;subst hJ';refine wp_si1c e3 (cs:=devA {dX with busy:=true,job:=p} {L with aj:=A1,cj:=c2'}) (by rw[rowOf_setRow _ _ _ _ (by rw[rowOf_drew];exact HP1.out),if_pos rfl]) (by go_simp) (by rw[frOf_setRow,frOf_drew];exact FD.out) ⟨undef,rfl,?_⟩
   show _=_;rw[devA_set_done,setRow_setRow]
  ·exact x2tc
  ·intro done cv a wq hw h hJ;have e3:=mN 7 142 h hw;have hJ':wq=w5.drew.setRow w.heap.size (devA {dX with busy:=true,job:=p,done:=0} {L with aj:=A1,cj:=c2'}):=hJ;subst hJ';refine wp_sn1c e3 (cs:=devA {dX with busy:=true,job:=p,done:=0} {L with aj:=A1,cj:=c2'}) (by rw[rowOf_setRow _ _ _ _ (by rw[rowOf_drew];exact HP1.out),if_pos rfl]) (by go_simp) (by rw[frOf_setRow,frOf_drew];exact FD.out) ⟨undef,rfl,?_⟩
   show _=_;rw[devA_set_got0,setRow_setRow]
 intro cv1 w6 hJ;have hw1:w6=w5.drew.setRow w.heap.size (devA {dX with busy:=true,job:=p,done:=0,got:=[]} {L with aj:=A1,cj:=c2',ag:=none,cg:=0}):=hJ;simp only[mixAll,putAll_some,putAll_none,putAll_nil,List.getElem?_cons_zero,List.getElem?_cons_succ,Nat.zero_add,Nat.reduceAdd,List.setIfInBounds_toArray,List.set_cons_zero,List.set_cons_succ];have r3:rowOf w6 w.heap.size=devA {dX with busy:=true,job:=p,done:=0,got:=[]} {L with aj:=A1,cj:=c2',ag:=none,cg:=0}∧frOf w6 w.heap.size=(0,0):=by rw[hw1,rowOf_setRow _ _ _ _ (by rw[rowOf_drew];exact HP1.out),if_pos rfl,frOf_setRow,frOf_drew];exact⟨rfl,FD.out⟩
 have hk1:∀k,k≠w.heap.size->w6.heap[k]?=w5.heap[k]?:=fun k hk=>by rw[hw1];exact setRow_other w5.drew _ _ _ hk
 have hs8:w6.heap.size=w5.heap.size:=by
  have h1:w6.heap.size=w5.drew.heap.size:=by rw[hw1];simp[World.setRow]
  exact h1
 have HB2:Hid (Below w.heap.size w w6):=qH (by rw[hw1];exact below_row HB3.out.drew nl _);have HF1:Hid (Fresh (w1.heap.size+1) w6 (fun v=>PatIn v p A1 c2')):=qH (HF2.out.fresh fun k h1 h2=>hk1 k (by omega));have a3:=keepH (g:=w.heap.size+1+1+1) (cs:=devA Dev.zero DLoc.zero) (hk1 _ (by omega)) a3.1 (by go_simp) a3.2.1;have a4:=keepH (g:=w.heap.size+1+1+1+1) (cs:=#[.func (Fn.func 69) #[] #[]]) (hk1 _ (by omega)) a4.1 (by go_simp) a4.2.1;clear hJ hw1 hk1 RD FD RP FP HP1 HB3 HF2;obtain⟨x0r,x0f,x0n,x0c,x0z,x0l⟩:=keep1 (bW w6) r3.1 (by go_simp) r3.2;clear r3;by_cases c1:e2≠0
 ·have hz:=HD2.out.trans (if_pos c1);subst hz;have KD:=qH (fun gb gd w h1 h2=>actsDone_bad e2 gb gd w c1 h1 h2);clear c1 HD2 HDX HF1;go_wp2_with fail;refine(KD.out _ _ _ (by go_simp) (by go_simp)).mono ?_;rintro e w7 ⟨rfl,hb⟩;have c3k:=kp (w.heap.size+1+1+1) (devA Dev.zero DLoc.zero) hb;have HB3:=bT HB2 hb;clear hb;go_wp2_with fail;refine bodyPost_ret (rC (devA Dev.zero DLoc.zero)) rfl ⟨DLoc.zero,rfl,.const fun v=>DevIn.zero v,?_⟩;exact below_row HB3.out (by omega) _
 have c1:=Decidable.not_not.1 c1;subst c1;have hz:=HD2.out.trans (if_neg (by decide));have hX:d.write r2 false=dX:=by have:=HDX.out;rwa [if_pos rfl]at this
 rw[hX]at hz;subst hz;have hin:∀v,DevIn v d L->PatIn v p A1 c2'->DevIn v {dX with busy:=true,job:=p,done:=0,got:=[]} {L with aj:=A1,cj:=c2',ag:=none,cg:=0}:=fun v h g=>by
  rw[<-hX];exact⟨h.k0,h.l0,h.b0,h.k1,h.l1,h.b1,nl,Nat.zero_le _,Chs.nil _ _,g,h.ir,i64_0⟩
 have HIN:=qH hin;clear hin hX HDX HD2;go_wp2_with fail;refine(actsDone_ok {dX with busy:=true,job:=p,done:=0,got:=[]} {L with aj:=A1,cj:=c2',ag:=none,cg:=0} _ _ _ (by go_simp) (by go_simp)).mono ?_;rintro e w7 ⟨rfl,hb⟩;have c3k:=kp (w.heap.size+1+1+1) (devA Dev.zero DLoc.zero) hb;have HB3:=bT HB2 hb;have HF2:Hid (Fresh (w1.heap.size+1) w7 (fun v=>PatIn v p A1 c2')):=qH (HF1.out.below hb nl);clear hb HF1;have hn2:¬(S (w.heap.size+1+1+1)∧w.heap.size+1+1+1<w.heap.size∨w1.heap.size+1<=w.heap.size+1+1+1):=by rintro (h|h)<;>omega
 have o1:On (fun k=>S k∧k<w.heap.size∨w1.heap.size+1<=k) w7 (fun v=>DevIn v d L):=(HI.out.sub (fun k h1 h2=>.inl ⟨h2,h1⟩)).below HB3.out;have o2:On (fun k=>S k∧k<w.heap.size∨w1.heap.size+1<=k) w7 (fun v=>PatIn v p A1 c2'):=(On.fresh HF2.out).sub fun k _ h=>.inr h;have HON:=qH ((o1.and o2).imp fun v ⟨h,g⟩=>HIN.out v h g);clear o1 o2 HF2 HIN;go_wp2_with fail;refine bodyPost_ret (rC (devA {dX with busy:=true,job:=p,done:=0,got:=[]} {L with aj:=A1,cj:=c2',ag:=none,cg:=0})) rfl ⟨_,rfl,?_,below_row HB3.out (by omega) _⟩;exact(HON.out.row hn2 _).sub fun k _ h=>h.elim .inl fun h=>.inr (by omega)
theorem bts_zeros{n:Nat}{t:TypeId}{fr:Nat×Nat}(h:w.heap[g]?=some (.cells (Array.replicate n (.int .u8 0)) t fr)):Bts w (some ⟨g,0,none⟩) (List.replicate n 0):=by
 intro j hj;refine⟨g,0,rfl,blk_lt h,?_⟩;rw[cell_of_row _ _ _ _ _ _ h];have hj':j<n:=by simpa using hj
 simp[hj',bv]
theorem made_zeros(n:Nat):madeCells #[Value.int .u8 0] n=Array.replicate n (.int .u8 0):=by
 apply Array.ext'
 rw[toList_madeCells_one];simp
theorem room_calls(A:OA)(c:Nat)(b:LU)(w:World)(hb:b.length<=64)(hB:Bts w A b):
  Calls Tryz.prog 84 #[.slice A b.length c] w (BtRet w (room b)):=by
 obtain⟨m,hm⟩:∃m:Nat,64-b.length=m:=⟨_,rfl⟩;have hm1:(64:Int)-(b.length:Int)=(m:Int):=by omega
 have hwr:IntKind.i64.wrap ((64:Int)-(b.length:Int))=(m:Int):=by rw[hm1];exact IntWalk.i64_in _ (by omega)
 have hmk:∀w:World,(Instr.makeSlice 23 (iv (m:Int)) (iv (m:Int))).run Tryz.prog w=.ok (.slice (some ⟨w.heap.size,0,none⟩) m m) (w.alloc (.cells (Array.replicate m (.int .u8 0)) 5)):=fun w=>by
  have:=run_make_row' (P:=Tryz.prog) 23 5 (.int .u8 0) 1 Tryz.underlying23 (by kernel_rfl) rfl .i64 .i64 m (by omega) (by omega) w;rw[made_zeros]at this;exact this
 have HM:Hid (room b=b++List.replicate m 0):=qH (by unfold room;rw[hm]);have HMB:Hid (b.length+m<=64):=qH (by omega);have hba:=((bW w).alloc nl (.cells (Array.replicate m (.int .u8 0)) 5)).alloc (by simp) (.cells #[.slice A b.length c,.slice (some ⟨w.heap.size,0,none⟩) m m] 23);have K:=qH (concat2_calls (w:=(w.alloc (.cells (Array.replicate m (.int .u8 0)) 5)).alloc (.cells #[.slice A b.length c,.slice (some ⟨w.heap.size,0,none⟩) m m] 23)) (g:=w.heap.size+1) (A:=A) (B:=some ⟨w.heap.size,0,none⟩) (a:=b) (b:=List.replicate m 0) (c:=c) (d:=m)
  (t:=23) (fr:=(0,0)) (by rw[List.length_replicate];exact blk_top (by simp)) (by rw[List.length_replicate];omega) (hB.stays hba) ((bts_zeros (n:=m) (w:=w.alloc (.cells (Array.replicate m (.int .u8 0)) 5)) (blk_top rfl)).stays (bL _)))
 have HBA:=qH hba;rw[HM.out];clear hm hm1 hb hB hba;go_enter Tryz.func84,Tryz.ntmps84;go_wp2_with fail;refine K.out.mono ?_;rintro e w1 ⟨A1,c1,rfl,hown,hb1⟩;have HO:=qH hown;have HB1:=bT HBA hb1;clear hown hb1;go_wp2_with fail;go_ret;exact⟨A1,c1,by simp,HO.out.mono (by simp;omega),HB1.out⟩
def filB(b:LU)(k:Nat):List Value:=(b.take k).map bv++List.replicate (64-k) (.int .u8 0)
theorem filB_len(b:LU)(h:k<=b.length)(hb:b.length<=64):(filB b k).length=64:=by unfold filB;simp;omega
theorem filB_zero(b:LU):filB b 0=List.replicate 64 (.int .u8 0):=by unfold filB;simp
theorem filB_set(b:LU)(h:k<b.length)(hb:b.length<=64):(filB b k).set k (bv b[k])=filB b (k+1):=by
 unfold filB;obtain⟨m,hm⟩:∃m,64-k=m+1:=⟨63-k,by omega⟩;have hl:((b.take k).map bv).length=k:=by simp;omega
 rw[List.set_append_right _ _ (by omega),hl,Nat.sub_self,hm,List.replicate_succ,List.set_cons_zero,List.take_succ_eq_append_getElem h,List.map_append,List.append_assoc,show 64-(k+1)=m by omega];rfl
theorem filB_at(b:LU)(h:k<=b.length)(hk:k<64):(filB b k)[k]?=some (.int .u8 0):=by
 unfold filB;have hl:((b.take k).map bv).length=k:=by simp;omega
 rw[List.getElem?_append_right (by omega),hl,Nat.sub_self,List.getElem?_replicate,if_pos (by omega)]
theorem filB_all(b:LU)(hb:b.length<=64):filB b b.length=(room b).map bv:=by
 unfold filB room;rw[List.take_length,List.map_append,List.map_replicate];rfl
theorem filled_calls(A:OA)(c:Nat)(b:LU)(w:World)(hb:b.length<=64)(hB:Bts w A b):
  Calls Tryz.prog 55 #[.slice A b.length c] w (BtRet w (room b)):=by
 have HB1:=qH hB;have hmk:∀w:World,(Instr.makeSlice 23 (iv 64) (iv 64)).run Tryz.prog w=.ok (.slice (some ⟨w.heap.size,0,none⟩) 64 64) (w.alloc (.cells (filB b 0).toArray 5)):=fun w=>by
  have:=run_make_row' (P:=Tryz.prog) 23 5 (.int .u8 0) 1 Tryz.underlying23 (by kernel_rfl) rfl .i64 .i64 64 (by omega) (by omega) w;rw[made_zeros]at this;rw[filB_zero,List.toArray_replicate];exact this
 clear hB;go_enter Tryz.func55,Tryz.ntmps55;go_wp2_with fail;have HF1:Hid ((w.alloc (.cells (filB b 0).toArray 5)).heap[w.heap.size]?=some (.cells (filB b 0).toArray 5 (0,0))):=qH (blk_top rfl);have HBA:Hid (Below w.heap.size w (w.alloc (.cells (filB b 0).toArray 5))):=qH (bL _);clear hmk;generalize w.alloc (.cells (filB b 0).toArray 5)=w1 at *
 obtain⟨g,hg⟩:=eX (w.heap.size);have HG:=qH hg;rw[hg]at HF1 HBA⊢;clear hg;go_loopw [9] (fun i wr=>∃k:Nat,k<=b.length∧i=iv k∧Hid (wr.heap[g]?=some (.cells (filB b k).toArray 5 (0,0)))∧Hid (Below g w wr)) (fun i _=>b.length-(intOf i).toNat)
 case atStart=>exact⟨0,Nat.zero_le _,rfl,HF1,HBA⟩
 case round=>
  clear HF1 HBA;rename World=>wr;obtain⟨k,hk,rfl,HF,HB⟩:=hrel;by_cases hlt:k<b.length
  ·obtain⟨b',o',rfl,hlt',hcc⟩:=(HB1.out.stays (HG.out.symm▸HB.out)) k hlt;obtain⟨q1,q2,q3,q4,q5⟩:=blkFacts HF.out (by rw[List.size_toArray,filB_len b hk hb];decide);have dl:decide ((k:Int)<(b.length:Int))=true:=decide_eq_true (by omega);have nb:¬(64:Int)<=(k:Int):=by omega
   have hck:=filB_at b hk (by omega);have nb1:¬(b.length:Int)<=(k:Int):=by omega
   have HS:Hid (filB b (k+1)=(filB b k).set k (bv b[k])):=qH (filB_set b hlt hb).symm;generalize b[k]=x at *
   have hw1:IntKind.i64.wrap ((k:Int)+1)=(k:Int)+1:=IntWalk.i64_in _ (by omega);go_wp2_with fail;go_roundw
   case rel=>exact⟨k+1,by omega,by go_num,qH (by rw[HS.out];have:=set_blk (j:=k) (v:=bv x) HF.out;simpa using this),qH (HB.out.setCell (p:=⟨g,k,none⟩) nl _)⟩
   case measure=>simp[intOf];omega
  obtain rfl:k=b.length:=by omega
  have dl:decide ((b.length:Int)<(b.length:Int))=false:=by simp
  go_wp2_with fail;go_ret;have hf:=HF.out;rw[filB_all b hb]at hf;have hl:=room_len hb;have hgo:=HG.out;refine⟨some ⟨g,0,none⟩,64,by rw[hl];rfl,?_,hgo.symm▸HB.out⟩;rw[hl,hgo];exact⟨by simp[hl],Or.inr ⟨g,64,_,rfl,nl,hf,nl,by unfold maxLen;omega,by simp[hl],by simp[List.take_of_length_le,hl]⟩⟩
theorem wp_stu{a:Act}{K:Act->World->Prop}{Q:Exit->Act->World->Prop}{t:TypeId}{p:String}{af:Array Edge}{gd:Option (Nat×Bool)}{x y:Tmp}{j:Nat}{b:UInt8}{u:Value}(hx:a.tmps[x]?=some (.pointer (some ⟨g,j,none⟩)))(hy:a.tmps[y]?=some (bv b))
  (hc:w.cell? ⟨g,j,none⟩=some u) (hf:w.frozen? ⟨g,j,none⟩=false) (h:K a (w.setCell ⟨g,j,none⟩ (bv b))):
  Oper.wp Tryz.prog ⟨none,.store 5 (.tmp x) (.tmp y),t,p,af,gd⟩ a w K Q:=by
 have e1:a.eval (.tmp x)=.pointer (some ⟨g,j,none⟩):=by simp[Act.eval,hx]
 have e2:a.eval (.tmp y)=bv b:=by simp[Act.eval,hy]
 unfold Oper.wp execOp;simp only[e1,e2];go_simp;exact h
def putU(sl rm:LU)(dn k:Nat):List UInt8:=sl.take dn++(rm.drop dn).take k++sl.drop (dn+k)
theorem putU_0(sl rm:LU)(dn:Nat):putU sl rm dn 0=sl:=by unfold putU;simp
theorem putU_len{sl:LU}{dn:Nat}(h:dn+k<=sl.length)(hr:rm.length=sl.length):(putU sl rm dn k).length=sl.length:=by
 unfold putU;simp;omega
theorem putU_succ{sl:LU}{dn:Nat}(h:dn+k<rm.length)(hr:rm.length=sl.length):(putU sl rm dn k).set (dn+k) rm[dn+k]=putU sl rm dn (k+1):=by
 unfold putU;have h1:(sl.take dn++(rm.drop dn).take k).length=dn+k:=by simp;omega
 rw[List.set_append_right _ _ (by omega),h1,Nat.sub_self,List.drop_eq_getElem_cons (show dn+k<sl.length by omega),List.set_cons_zero,List.take_succ_eq_append_getElem (show k<(rm.drop dn).length by simp;omega),List.getElem_drop];simp[Nat.add_assoc]
def wtJ(w0:World)(rm:LU)(g p:Nat)(x:UInt8):Nat->(Nat->Value)->World->Prop
 |0,_,w=>w=w0.drew
 |1,cv,w=>∃A c,cv 6=.slice A rm.length c∧Bts w A rm∧Below w0.heap.size w0 w
 |2,cv,w=>∃b o,cv 11=.pointer (some ⟨b,o,none⟩)∧w.cell? ⟨b,o,none⟩=some (bv x)∧Below w0.heap.size w0 w
 |3,cv,w=>cv 12=bv x∧Below w0.heap.size w0 w
 |_,_,w=>∃w',Below w0.heap.size w0 w'∧w=w'.setCell ⟨g,p,none⟩ (bv x)
theorem wtJ_bel{w0:World}{p:Nat}{x:UInt8}{cv:Nat->Value}(hk:k<=3)(h:wtJ w0 rm g p x k cv w):Below w0.heap.size w0 w:=by
 match k,hk,h with
 |0,_,h=>obtain rfl:w=w0.drew:=h;exact(Below.refl _ _).drew
 |1,_,⟨_,_,_,_,h⟩=>exact h
 |2,_,⟨_,_,_,_,h⟩=>exact h
 |3,_,⟨_,h⟩=>exact h
theorem x0n2(h:Y:=by
 unfold devWrite;rw[if_neg (by omega),if_pos h]):Y:=h
theorem x219(h:Y:=by
 have hbo:=hok.work hu hb;exact⟨hbo.does,hbo.d0,hbo.d8,(busy_len hbo).1,(busy_len hbo).2⟩):Y:=h
theorem x29x(h:Y:=by
 unfold Dev.put putU;rw[HRR.out,ha,show (1:Int)-(a:Int)=(a':Int) by omega,hgs,hdn];rfl):Y:=h
theorem x3ft(h:Y:=by
 have hq:=refDone_calls L.aj A L.cj c d.job im wq hc hil hb (HI.out.at_ (HB2.out.trans (h.mono HB2.out.size))).job;rw[hpd]at hq;exact hq):Y:=h
theorem x9nj(h:Y:=by
 have hlt:dn+k<(room b').length:=by omega
 obtain⟨x,hx⟩:=eX ((room b')[dn+k]);have hps:=putU_succ (sl:=sl) hlt (by omega);rw[hx]at hps;have HPS:=qH hps;have hgx:(room b')[dn+k]?=some x:=by rw[<-hx];exact List.getElem?_eq_getElem hlt
 have HGX:=qH hgx;have hwr:IntKind.i64.wrap ((dn:Int)+(k:Int))=(dn:Int)+(k:Int):=IntWalk.i64_in _ (by omega);have hj4:(0:Int)<=(dn:Int)+(k:Int):=by omega
 have hj1:(dn:Int)+(k:Int)<64:=by omega
 have hj2:((dn:Int)+(k:Int)).toNat=dn+k:=by omega
 have hj3:¬(64:Int)<=(dn:Int)+(k:Int):=by omega
 have hoc:=HO.out.cellAt (dn+k) (by omega);have hof:=HO.out.frozenAt (dn+k);have hol:g3<wr.heap.size:=(HO.out.block g3 rfl).2;have HOC:Hid (∃u,wr.cell? ⟨g3,dn+k,none⟩=some u):=qH (by
  rw[hoc];exact⟨_,List.getElem?_eq_getElem (by rw[List.length_map,putU_len (by omega) (by omega),hsl];omega)⟩)
 have HOF:=qH hof;have HBr:=qH (HBB.out.stays HX.out);have RD:Hid (rowOf wr w.heap.size=devA d L∧frOf wr w.heap.size=(0,0)):=qH (by
  obtain⟨q1,q2,_⟩:=keep1 (g:=w.heap.size) (cs:=devA d L) HX.out RA.out.1 (by go_simp) RA.out.2;exact⟨q1,q2⟩)
 have HL1:Hid (b'.length<=64):=qH hb1;clear hx hps hgx hoc hof;go_wp2_with fail;refine wp_region_mix (by kernel_rfl) (some 193::some 194::some 195::some 196::some 197::some 198::some 199::some 200::some 201::some 202::some 203::some 204::some 205::some 206::none::[]) (none::none::none::none::none::none::some 0::none::none::none::none::some 1::some 2::none::some 3::[]) (.slice (some ⟨g3,0,none⟩) 64 c7::.pointer (some ⟨w.heap.size,36,none⟩)::iv d.done::iv (k:Int)::iv ((dn:Int)+(k:Int))::.slice A5 b'.length c5'::undef::.pointer (some ⟨w.heap.size,36,none⟩)::iv d.done::iv (k:Int)::iv ((dn:Int)+(k:Int))::undef::undef::.pointer (some ⟨g3,dn+k,none⟩)::undef::[]) 4 (wtJ wr (room b') g3 (dn+k) x) 327 rfl rfl (by decide+kernel) (by decide+kernel) (by decide+kernel) (by decide+kernel) rfl rfl (by decide+kernel) (by decide+kernel) (rfl) ?_ ?_
 ·refine⟨?_,?_,?_,?_,?_,?_,?_,?_,?_,?_,?_,?_,?_,?_,?_,trivial⟩
  ·intro done cv k1 a wq hw h hJ hn;have e1:=mO 22 (.slice (some ⟨g3,0,none⟩) 64 c7) h;exact mx_move (ch_ev e1)
  ·intro done cv k2 a wq hw h hJ hn;have e1:=mO 3 (.pointer (some ⟨w.heap.size,0,none⟩)) h;go_simp
  ·intro done cv k1 a wq hw h hJ hn;have e1:=mN 1 194 h hw;have hk_:=hn 14 _ 3 rfl rfl (by decide);have y_:=keep1 (wtJ_bel hk_ hJ) RD.out.1 (by go_simp) RD.out.2;go_simp
  ·intro done cv k2 a wq hw h hJ hn;have e1:=mO 23 (iv (k:Int)) h;exact mx_move (ch_ev e1)
  ·intro done cv k1 a wq hw h hJ hn;have e1:=mN 2 195 h hw;have e196:=mN 3 196 h hw;go_simp
  ·intro done cv k2 a wq hw h hJ hn;have e1:=mO 19 (.slice A5 b'.length c5') h;exact mx_move (ch_ev e1)
  ·intro done cv a wq hw h hJ;have e1:=mN 5 198 h hw;obtain rfl:wq=wr.drew:=hJ;refine wp_call (vals:=#[.slice A5 b'.length c5']) (by rw[List.map_toArray,List.map_cons,List.map_nil,ch_ev e1]) (enters_of Tryz.func55 (by kernel_rfl) rfl _ _) (filled_calls A5 c5' b' _ HL1.out (HBr.out.stays (Below.refl _ _).drew)) ?_;rintro e w' ⟨A3,c5,rfl,hown,hbel⟩;exact⟨_,rfl,_,rfl,A3,c5,by simp,hown.src.bts,(Below.refl _ _).drew.trans hbel⟩
  ·intro done cv k1 a wq hw h hJ hn;have e1:=mO 3 (.pointer (some ⟨w.heap.size,0,none⟩)) h;go_simp
  ·intro done cv k2 a wq hw h hJ hn;have e1:=mN 7 200 h hw;have hk_:=hn 14 _ 3 rfl rfl (by decide);have y_:=keep1 (wtJ_bel hk_ hJ) RD.out.1 (by go_simp) RD.out.2;go_simp
  ·intro done cv k1 a wq hw h hJ hn;have e1:=mO 23 (iv (k:Int)) h;exact mx_move (ch_ev e1)
  ·intro done cv k2 a wq hw h hJ hn;have e1:=mN 8 201 h hw;have e202:=mN 9 202 h hw;go_simp
  ·intro done cv a wq hw h hJ;have e1:=mx_cv (i:=6) (t:=199) h (hw 6 (by decide)) rfl rfl;have e203:=mN 10 203 h hw;obtain⟨A3,c5,y1,g1,g2⟩:=hJ;rw[y1]at e1;have hgx:=HGX.out;obtain⟨bb,oo,rfl,hll,hcc⟩:=g1 (dn+k) hlt;have hcc1:wq.cell? ⟨bb,oo+(dn+k),none⟩=some (bv x):=by
    rw[hcc];rw[List.getElem?_eq_getElem hlt]at hgx;injection hgx with hgx;rw[hgx]
   refine wp_val (v:=.pointer (some ⟨bb,oo+(dn+k),none⟩)) (by go_simp) ⟨_,rfl,bb,oo+(dn+k),by simp,hcc1,g2⟩
  ·intro done cv a wq hw h hJ;have e1:=mx_cv (i:=11) (t:=204) h (hw 11 (by decide)) rfl rfl;obtain⟨bb,oo,y1,hcc,g1⟩:=hJ;rw[y1]at e1;refine wp_val (v:=bv x) (by go_simp) ⟨_,rfl,by simp,g1⟩
  ·intro done cv k1 a wq hw h hJ hn;have e1:=mN 0 193 h hw;have e197:=mN 4 197 h hw;go_simp
  ·intro done cv a wq hw h hJ;have e1:=mN 13 206 h hw;have e205:=mx_cv (i:=12) (t:=205) h (hw 12 (by decide)) rfl rfl;obtain⟨y1,g1⟩:=hJ;rw[y1]at e205;obtain⟨u,hu⟩:=HOC.out;have hf_:wq.frozen? ⟨g3,dn+k,none⟩=false:=by
    have:=HOF.out;unfold World.frozen? at this⊢;rw[g1.block g3 hol];exact this
   refine wp_stu e1 e205 ((g1.cell (p:=⟨g3,dn+k,none⟩) hol).trans hu) hf_ ⟨undef,rfl,wq,g1,rfl⟩
 intro cv w5 hJ;obtain⟨w',hbw,rfl⟩:∃w',Below wr.heap.size wr w'∧w5=w'.setCell ⟨g3,dn+k,none⟩ (bv x):=hJ;simp only[mixAll,putAll_some,putAll_none,putAll_nil,List.getElem?_cons_zero,List.getElem?_cons_succ,Nat.zero_add,Nat.reduceAdd,List.setIfInBounds_toArray,List.set_cons_zero,List.set_cons_succ];have hst:=Own.stored (Own.below HO.out hbw) (dn+k) (bv x);rw[<-List.map_set,HPS.out]at hst;have HO2:=qH hst;have HX2:Hid (Below w3.heap.size w3 (w'.setCell ⟨g3,dn+k,none⟩ (bv x))):=qH ((HX.out.trans (hbw.mono HX.out.size)).setCell hg1 _);have hwk:IntKind.i64.wrap ((k:Int)+1)=(k:Int)+1:=IntWalk.i64_in _ (by omega);clear hst;go_wp2_with fail;go_roundw
 case rel=>exact⟨k+1,by omega,rfl,HO2,HX2⟩
 case measure=>simp[intOf]<;>omega):Y:=h
theorem x9sb(h:Y:=by
 have hbo:=hok.work hu hb;unfold devWrite;rw[if_neg (by omega),if_neg (by rw[hb];simp;omega),if_neg (by rw[hbo.does];simp)];rfl):Y:=h
theorem On.cell2{S:Nat->Prop}{P:World->Prop}(h:On S w P){j:Nat}(hg:¬S g)(u:Value):On S (w.setCell ⟨g,j,none⟩ u) P:=h.cell (p:=⟨g,j,none⟩) hg u
def DLoc.setS(L:DLoc)(a:Nat)(A:OA)(c:Nat):DLoc:=if a=0 then {L with a0:=A,c0:=c} else {L with a1:=A,c1:=c}
theorem devA_setS(d:Dev)(L:DLoc)(ha:a<=1){A:OA}{c n:Nat}{nb:LU}(hn:nb.length=n):(devA d L).setIfInBounds a (.slice A n c)=devA (d.setSlot (a:Int) nb) (L.setS a A c):=by
 subst hn
 match a,ha with
 |0,_=>rfl
 |1,_=>rfl
theorem DevIn.put{d:Dev}{L:DLoc}(h:DevIn w d L)(ha:a<=1){A:OA}{c:Nat}{nb:LU}{z:Int}(hb:Bts w A nb)(hl:nb.length=64)(hc:64<=c)(hi:I64 z):DevIn w {d.setSlot (a:Int) nb with done:=z} (L.setS a A c):=by
 match a,ha with
 |0,_=>exact⟨by show nb.length<=c;omega,by show nb.length<=_;omega,hb,h.k1,h.l1,h.b1,h.kg,h.lg,h.got,h.job,h.ir,hi⟩
 |1,_=>exact⟨h.k0,h.l0,h.b0,by show nb.length<=c;omega,by show nb.length<=_;omega,hb,h.kg,h.lg,h.got,h.job,h.ir,hi⟩
theorem acts_write_bad(S:Nat->Prop)(d:Dev)(L:DLoc)(kd n f t m o:Int)(B:OA)(bl bc:Nat)(w:World)(hok:DevOk d)(hu:d.up=true)(hd:On S w (fun v=>DevIn v d L))(hin:I64 n)(hk:kd=6∨kd=11)(c1:d.busy=false∨d.job.size<=d.done):Calls Tryz.prog 33 #[.agg (devA d L),.agg #[iv kd,iv n],.agg (chkA f t m o B bl bc)] w (AcRet S w (devWrite d (decide (kd=11)) n).1 (devWrite d (decide (kd=11)) n).2):=by
 have hrec:=rec_ok hok;have hrd:devReady d=0:=by unfold devReady;rw[if_neg (by simpa using devCheck_ok.2 hok),if_neg (by rw[hu];decide)]
 have KN:=qH (fun w=>newest_calls d.c0 d.c1 w);rw[refNewest_ok hok.cops]at KN;obtain⟨rk,hrk⟩:=eX ((recRead d.c0 d.c1).2);have hre:(recRead d.c0 d.c1).1=d.rec_:=rfl;rw[hrk,hre]at KN;clear hrk hre;obtain⟨tn,htn⟩:=eX (decide (kd=11));rw[htn];have HTN:=qH htn;have hq10:(kd==(10:Int))=false:=by rcases hk with rfl|rfl<;>rfl
 have hq2:(kd==(2:Int))=false:=by rcases hk with rfl|rfl<;>rfl
 have hq5:(kd==(5:Int))=false:=by rcases hk with rfl|rfl<;>rfl
 have HK:=qH hk;have hact:=rec_active hrec;have hdef:d.busy=true->¬d.job.size<=d.done->devWrite d tn n=(if tn=true then Dev.down {d.setSlot (1-d.rec_.active) (d.put (patDo (sumOn 1) d.job (d.image d.rec_.active d.rec_)).1 (keepN tn n).toNat)with done:=d.done+keepN tn n} else {d.setSlot (1-d.rec_.active) (d.put (patDo (sumOn 1) d.job (d.image d.rec_.active d.rec_)).1 (keepN tn n).toNat)with done:=d.done+keepN tn n},0):=fun hb hs=>by
  have hbo:=hok.work hu hb;unfold devWrite;rw[if_neg (by omega),if_neg (by rw[hb];simp;omega),if_neg (by rw[hbo.does];simp)]
 have hdef1:(d.busy=false∨d.job.size<=d.done)->devWrite d tn n=(Dev.zero,5):=fun h=>by
  exact x0n2
 have hfacts:d.busy=true->(patDo (sumOn 1) d.job (d.image d.rec_.active d.rec_)).2=0∧0<=d.done∧d.done%8=0∧((patDo (sumOn 1) d.job (d.image d.rec_.active d.rec_)).1.length:Int)=d.job.size∧d.job.size<=64:=fun hb=>by
  exact x219
 have HD:=qH hdef;have HD1:=qH hdef1;have HFA:=qH hfacts;have HI:=qH hd;have K1:=qH (fun v (hb:Below w.heap.size w v)=>imageOf_calls d L v (hd.at_ hb) hok.l0 hok.l1 hok.cops);have hil:(d.image d.rec_.active d.rec_).length<=140737488351232:=by unfold Dev.image;rw[List.length_take];have:=slot_len hok.l0 hok.l1 d.rec_.active;omega
 have hl2:=hok.l0;have hl1:=hok.l1;generalize devWrite d tn n=res at *
 clear hrec hrd hok hdef hdef1 hfacts hd hk htn;generalize hrr:d.rec_=r at *
 have HRR:=qH hrr;clear hrr;go_enter Tryz.func33,Tryz.ntmps33;go_wp2_with fail;refine(KN.out _).mono ?_;rintro e w1 ⟨rfl,hb⟩;have a2:=kp (w.heap.size) (devA d L) hb;have a1:=kp (w.heap.size+1) (#[iv kd,iv n]) hb;have a3:=kp (w.heap.size+1+1+1) (devA Dev.zero DLoc.zero) hb;have a4:=kp (w.heap.size+1+1+1+1) (#[.func (Fn.func 69) #[] #[]]) hb;have HB1:Hid (Below w.heap.size w w1):=qH (((((((bW w).alloc nl (.cells (devA d L) 38)).alloc (by simp) (.cells #[iv kd,iv n] 50)).alloc (by simp;omega) (.cells (chkA f t m o B bl bc) 61)).alloc (by simp;omega) (.cells (devA Dev.zero DLoc.zero) 38)).alloc (by simp;omega) _).trans (hb.mono (by simp;omega)));clear hb;go_upto_region 7 with fail
 obtain⟨w2,hw1⟩:=eX (w1.alloc (.cells (recA r) 29));have hb:Below w1.heap.size w1 w2:=by rw[<-hw1];exact bL _
 have hrr:rowOf w2 w1.heap.size=recA r∧frOf w2 w1.heap.size=(0,0):=by rw[<-hw1];exact⟨by rw[rowOf_alloc,if_pos rfl],by rw[frOf_alloc,if_pos rfl]⟩
 have a2:=keep1 (g:=w.heap.size) (cs:=devA d L) hb a2.1 (by first|(go_simp;done)|simp[recA]) a2.2.1;have a1:=keep1 (g:=w.heap.size+1) (cs:=#[iv kd,iv n]) hb a1.1 (by first|(go_simp;done)|simp[recA]) a1.2.1;have a3:=keep1 (g:=w.heap.size+1+1+1) (cs:=devA Dev.zero DLoc.zero) hb a3.1 (by first|(go_simp;done)|simp[recA]) a3.2.1;have a4:=keep1 (g:=w.heap.size+1+1+1+1) (cs:=#[.func (Fn.func 69) #[] #[]]) hb a4.1 (by first|(go_simp;done)|simp[recA]) a4.2.1;have r1:=keep1 (bW w2) hrr.1 (by simp[recA]) hrr.2;have HB2:=bT HB1 hb;have hs1:w.heap.size+5<=w1.heap.size:=by omega
 have hs2:w1.heap.size<w2.heap.size:=r1.2.2.2.2.2;rw[hw1];clear hw1 hb hrr HB1;go_upto_if 148 with fail
 go_cut [148] (fun v wx=>v=.bool true∧w2=wx)
 case first=>
  rcases HK.out with e|e
  ·have q1:(kd==(6:Int))=true:=by rw[e];rfl
   clear e;go_wp2_with fail;go_meet
   case rel=>exact⟨by rw[q1],rfl⟩
  have q1:(kd==(6:Int))=false:=by rw[e];rfl
  have q2:(kd==(11:Int))=true:=by rw[e];rfl
  clear e;exact x3dq
 case rest=>
 obtain⟨rfl,rfl⟩:=hcut;have hz:=HD1.out c1;subst hz;clear HD HD1 HFA K1 KN hact
 cases c2:d.busy
 case false=>
  go_wp2_with fail;refine(actsBad_calls 5 _).mono ?_;rintro e wz ⟨rfl,hb⟩;have z1:=kp (w.heap.size+1+1+1) (devA Dev.zero DLoc.zero) hb;have HBZ:=bU HB2 hb;exact x92q
 case true=>
  have q:d.job.size<=d.done:=c1.resolve_left (by rw[c2];decide);clear c1;go_wp2_with fail;refine(actsBad_calls 5 _).mono ?_;rintro e wz ⟨rfl,hb⟩;have z1:=kp (w.heap.size+1+1+1) (devA Dev.zero DLoc.zero) hb;have HBZ:=bU HB2 hb;exact x92q
end Go.Proofs.YtefkfglkpebbmaaGreat
