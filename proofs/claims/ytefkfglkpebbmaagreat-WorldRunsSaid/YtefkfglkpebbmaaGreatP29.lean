/- Walks of functions, and plain words. No conditions. -/
import Derived.Test.YtefkfglkpebbmaaGreatP26
set_option linter.unusedVariables false
set_option linter.unusedSimpArgs false
set_option maxRecDepth 100000
set_option maxHeartbeats 40000000
namespace Go.Proofs.YtefkfglkpebbmaaGreat
open Go.RowKit
variable {Y:Prop}
theorem x05s(h:Y:=by
 intro done cv k1 a wq hw h hJ hn;have e1:=mO 1 (.pointer (some ⟨w.heap.size,0,none⟩)) h;go_simp):Y:=h
theorem splice_oth(r:Rec){a a':Nat}(ha:r.active=(a:Int))(h:a+a'=1):splice (recA r) (5+a'*3) (infA Inf.zero)=recA (r.setOther Inf.zero):=by
 exact x7dr
theorem devOpen_bad(d:Dev)(L:DLoc)(w:World)(h:DevIn w d L)  (hne:devReady d≠0):Calls Tryz.prog 42 #[.agg (devA d L)] w (DvRet w Dev.zero (devReady d)):=by
 have hba:Below w.heap.size w ((w.alloc (.cells (devA d L) 38)).alloc (.cells (devA Dev.zero DLoc.zero) 38)):=bA (bA (Below.refl _ _) _) _;have HBA:=qH hba;have HIN:=qH h;have KB:=qH (fun w h=>ready_bad d L w h hne);have q:(devReady d !=0)=true:=by simp[hne]
 generalize devReady d=n at *
 clear hne h hba;go_enter Tryz.func42,Tryz.ntmps42;go_wp2_with fail;refine(KB.out _ (HIN.out.stays HBA.out)).mono ?_;rintro e w1 ⟨rfl,hb1⟩;have a2:=kp (w.heap.size) (devA d L) hb1;have a1:=kp (w.heap.size+1) (devA Dev.zero DLoc.zero) hb1;have HB1:=bT HBA hb1;clear hb1;exact x5r8
theorem devOpen_ok(d:Dev)(L:DLoc)(w:World)(h:DevIn w d L)  (hz:devReady d=0):Calls Tryz.prog 42 #[.agg (devA d L)] w (DvRet w (devOpen d).1 (devOpen d).2):=by
 have hba:Below w.heap.size w ((w.alloc (.cells (devA d L) 38)).alloc (.cells (devA Dev.zero DLoc.zero) 38)):=bA (bA (Below.refl _ _) _) _;have HBA:=qH hba;have HIN:=qH h;have KR:=qH (fun w h=>ready_ok d L w h hz);have hdef:devOpen d=if d.busy=true∨d.rec_.trying=true then (Dev.zero,5)
   else if (chkJoin d.got).2≠0 then (Dev.zero,(chkJoin d.got).2)
   else if (chkJoin d.got).1.from_≠(d.rec_.at_ d.rec_.active).ver∨(chkJoin d.got).1.to_<d.rec_.floor then (Dev.zero,4)
   else if (patDo (sumOn 1) (chkJoin d.got).1 (d.image d.rec_.active d.rec_)).2≠0 then (Dev.zero,(patDo (sumOn 1) (chkJoin d.got).1 (d.image d.rec_.active d.rec_)).2)
   else if (recWrite d.c0 d.c1 (d.rec_.setOther Inf.zero) false).2≠0 then (Dev.zero,(recWrite d.c0 d.c1 (d.rec_.setOther Inf.zero) false).2)
   else ({d with c0:=(recWrite d.c0 d.c1 (d.rec_.setOther Inf.zero) false).1.1,c1:=(recWrite d.c0 d.c1 (d.rec_.setOther Inf.zero) false).1.2,busy:=true,job:=(chkJoin d.got).1,done:=0,got:=[]},0):=by unfold devOpen;rw[if_neg (by omega)];rfl
 obtain⟨hok,hup⟩:=devReady_ok.1 hz;have hrec:=rec_ok hok;have hact:=rec_active hrec;have HOK:=qH hok;have HREC:=qH hrec;have HLG:=qH h.lg;have KJ:=qH (fun A c w hs=>chkJoin_calls A c d.got w HLG.out hs);obtain⟨⟨p,e2⟩,hq⟩:∃y,chkJoin d.got=y:=⟨_,rfl⟩;rw[hq]at hdef KJ;dsimp only at hdef KJ;obtain⟨⟨⟨p1,p2⟩,e3⟩,hw⟩:∃y,recWrite d.c0 d.c1 (d.rec_.setOther Inf.zero) false=y:=⟨_,rfl⟩;have KW:=qH (fun w=>write_calls d.c0 d.c1 (d.rec_.setOther Inf.zero) false w);rw[hw]at hdef KW;dsimp only at hdef KW;have HD:=qH hdef;generalize devOpen d=res at *
 clear hz h hba hdef hok hrec hup hq hw;go_enter Tryz.func42,Tryz.ntmps42;go_wp2_with fail;refine(KR.out _ (HIN.out.stays HBA.out)).mono ?_;rintro e w1 ⟨L1,rfl,hfr,hb1⟩;have a4:=kp (w.heap.size) (devA d L) hb1;have a1:=kp (w.heap.size+1) (devA Dev.zero DLoc.zero) hb1;have HFR:Hid (Fresh (w.heap.size+2) w1 (fun v=>DvOwn v (w.heap.size+2) d L1)):=qH (by simpa[Nat.add_assoc]using hfr);have HB1:=bT HBA hb1;have hsz1:w.heap.size+2<=w1.heap.size:=by have:=hb1.size;simp at this;omega
 have HK1:Hid (Kp (w.heap.size+2) w1 w1):=qH (Kp.refl _ _);clear hb1 hfr
 cases hbz:d.busy
 case true=>
  have hz:res=(Dev.zero,5):=HD.out.trans (if_pos (.inl hbz));subst hz;exact x5r8
 cases ht:d.rec_.trying
 case true=>
  have hz:res=(Dev.zero,5):=HD.out.trans (if_pos (.inr ht));subst hz;exact x5r8
 have HD1:=qH (HD.out.trans (if_neg (by rw[hbz,ht];decide)));clear HD;go_wp2_with fail;refine(KJ.out L1.ag L1.cg _ ?_).mono ?_
 ·refine(Fresh.kp (B:=w.heap.size+2) HFR.out ?_ nl (by first|omega|(simp<;>omega))).now.devIn.got;exact x84a
 rintro en w2 ⟨A1,c2,rfl,hfr1,hb⟩;have HS1:Hid (w1.heap.size+1<=w2.heap.size):=qH (by have:=hb.size;simpa using this);have a4:=kp (w.heap.size) (devA d L1) hb;have a1:=kr a1 hb;have a2:=kp (w1.heap.size) (recA d.rec_) hb;have hbs1:=hb.size;have hsz2:w1.heap.size<=w2.heap.size:=by first|omega|(simp at hbs1;omega)
 have HK2:Hid (Kp (w.heap.size+2) w1 w2):=qH (by
  refine Kp.below ?_ (by first|omega|(simp<;>omega)) hb;exact x84a)
 have HB2:=bU HB1 hb;clear hb hbs1;have HGP:Hid (Fresh (w1.heap.size+1) w2 (fun v=>PatIn v p A1 c2)):=qH (by simpa using hfr1);have hsz2b:=HS1.out;clear hfr1 hbz ht;by_cases c2':e2≠0
 ·have hz:res=(Dev.zero,e2):=HD1.out.trans (if_pos c2');subst hz;have q:(e2 !=0)=true:=by simp[c2']
  clear c2';exact x2uc
 have c2':=Decidable.not_not.1 c2';subst c2';have HD2:=qH (HD1.out.trans (if_neg (by decide)));clear HD1;have q2:((0:Int) !=0)=false:=rfl;obtain⟨ka,ha⟩:∃ka:Nat,d.rec_.active=(ka:Int):=⟨d.rec_.active.toNat,by omega⟩;have ha1:ka<=1:=by omega
 obtain⟨kb,hab⟩:∃kb:Nat,ka+kb=1:=⟨1-ka,by omega⟩;have HA:=qH ha;have hsp:=splice_oth d.rec_ ha hab;have pv:=recA_ver d.rec_ ha1;rw[ha]at HD2;obtain⟨img,himg⟩:=eX (d.image (ka:Int) d.rec_);rw[himg]at HD2;obtain⟨⟨b,en⟩,hpd⟩:∃y,patDo (sumOn 1) p img=y:=⟨_,rfl⟩;rw[hpd]at HD2;have HIL:Hid (img.length<=64):=qH (by
  exact x0ss)
 have KI1:Hid (∀wq,DevIn wq d L1->Calls Tryz.prog 82 #[.agg (devA d L1),iv (ka:Int),.agg (recA d.rec_)] wq (ImRet wq img)):=qH (fun wq h=>by
  exact x7r2)
 have HPD:=qH hpd;generalize d.rec_.setOther Inf.zero=r2 at *
 generalize d.rec_=r at *
 clear himg hpd hact;go_upto_region 9 with fail
 obtain⟨w2p,hw2p⟩:=eX (w2.alloc (.cells (patA p.from_ p.to_ p.old p.new_ p.size A1 p.ops.length c2) 36));have r4:rowOf w2p w.heap.size=devA d L1:=by rw[<-hw2p,rowOf_alloc,if_neg a4.2.2.1];exact a4.1
 have r0f:frOf w2p w.heap.size=(0,0):=by rw[<-hw2p,frOf_alloc,if_neg a4.2.2.1];exact a4.2.1
 have r1:rowOf w2p (w.heap.size+1)=devA Dev.zero DLoc.zero:=by rw[<-hw2p,rowOf_alloc,if_neg a1.2.2.1];exact a1.1
 have r1f:frOf w2p (w.heap.size+1)=(0,0):=by rw[<-hw2p,frOf_alloc,if_neg a1.2.2.1];exact a1.2.1
 have r2_:rowOf w2p w1.heap.size=recA r:=by rw[<-hw2p,rowOf_alloc,if_neg a2.2.2.1];exact a2.1
 have r2f:frOf w2p w1.heap.size=(0,0):=by rw[<-hw2p,frOf_alloc,if_neg a2.2.2.1];exact a2.2.1
 have r3:rowOf w2p w2.heap.size=patA p.from_ p.to_ p.old p.new_ p.size A1 p.ops.length c2:=by rw[<-hw2p,rowOf_alloc,if_pos rfl]
 have r3f:frOf w2p w2.heap.size=(0,0):=by rw[<-hw2p,frOf_alloc,if_pos rfl]
 have hszp:w2p.heap.size=w2.heap.size+1:=by rw[<-hw2p];simp
 have HBP:Hid (Below w.heap.size w w2p):=qH (by rw[<-hw2p];exact HB2.out.alloc HB2.out.size _);have HKP:Hid (Kp (w.heap.size+2) w1 w2p):=qH (by rw[<-hw2p];exact HK2.out.alloc (by omega) _);have HGQ:Hid (Kp (w1.heap.size+1) w2 w2p):=qH (by rw[<-hw2p];exact(Kp.refl _ _).alloc nl _);rw[hw2p];have a4:=keep1 (bW w2p) r4 (by go_simp) r0f;have a1:=keep1 (bW w2p) r1 (by go_simp) r1f;have a2:=keep1 (bW w2p) r2_ (by simp[recA]) r2f;have a3:=keep1 (bW w2p) r3 (by simp[patA]) r3f;clear hw2p r4 r0f r1 r1f r2_ r2f r3 r3f;obtain⟨bad1,hbad⟩:∃b,decide (p.from_≠(r.at_ (ka:Int)).ver∨p.to_<r.floor)=b:=⟨_,rfl⟩;have HBAD:=qH hbad;clear hbad;go_cut [51] (fun v wx=>v=.bool bad1∧Hid (Below w2p.heap.size w2p wx))
 case first=>
  have k1:(0:Int)<=(ka:Int):=by omega
  have k2:(ka:Int)<2:=by omega
  have k3:¬(2:Int)<=(ka:Int):=by omega
  have ha:=HA.out;by_cases c1:p.from_=(r.at_ (ka:Int)).ver
  ·have q1:(p.from_ !=(r.at_ (ka:Int)).ver)=false:=by simp[c1]
   by_cases c3:p.to_<r.floor
   ·have hres:bad1=true:=by rw[<-HBAD.out];exact decide_eq_true (.inr c3)
    clear c1;exact x0af
   have hres:bad1=false:=by rw[<-HBAD.out];exact decide_eq_false (fun h=>h.elim (fun h=>h c1) c3)
   clear c1;exact x0af
  have q1:(p.from_ !=(r.at_ (ka:Int)).ver)=true:=by simp[c1]
  have hres:bad1=true:=by rw[<-HBAD.out];exact decide_eq_true (.inl c1)
  clear c1;exact x0af
 case rest=>
 obtain⟨rfl,hb⟩:=hcut;have hb1:=hb.out;have a4:=keep1 hb1 a4.1 (by go_simp) a4.2.1;have a1:=keep1 hb1 a1.1 (by go_simp) a1.2.1;have a2:=keep1 hb1 a2.1 (by simp[recA]) a2.2.1;have a3:=keep1 hb1 a3.1 (by simp[patA]) a3.2.1;have hs1:=hb1.size;have HB3:=bT HBP hb1;have HK3:Hid (Kp (w.heap.size+2) w1 wc):=qH (HKP.out.below (by omega) hb1);have HG1:Hid (Kp (w1.heap.size+1) w2 wc):=qH (HGQ.out.below (by omega) hb1);clear hb hb1
 cases hbd:bad1
 case true=>
  have hz:res=(Dev.zero,4):=HD2.out.trans (if_pos (of_decide_eq_true (HBAD.out.trans hbd)));subst hz;clear hbd;exact x52i
 have HD1:=qH (HD2.out.trans (if_neg (of_decide_eq_false (HBAD.out.trans hbd))));clear HD2 HBAD hbd;obtain⟨w3,hw2⟩:=eX (wc);subst hw2;go_wp2_with fail;have RD:=qH a4.1;have FD:=qH a4.2.1;have RZ:=qH a1.1;have FZ:=qH a1.2.1;have RR:=qH a2.1;have FR:=qH a2.2.1;have RP:=qH a3.1;have FP:=qH a3.2.1;have HI1:Hid (DevIn wc d L1):=qH (Fresh.kp HFR.out HK3.out nl (by omega)).now.devIn;have HP1:Hid (PatIn wc p A1 c2):=qH (Fresh.kp HGP.out HG1.out nl (by omega)).now;have KI:Hid (∀wq,Below wc.heap.size wc wq->Calls Tryz.prog 82 #[.agg (devA d L1),iv (ka:Int),.agg (recA r)] wq (ImRet wq img)):=qH (fun wq h=>KI1.out wq (HI1.out.stays h));have KD:Hid (∀wq A c,Below wc.heap.size wc wq->img.length<=c->Bts wq A img->Calls Tryz.prog 81 #[.agg (patA p.from_ p.to_ p.old p.new_ p.size A1 p.ops.length c2),.slice A img.length c] wq (ByRet2 wq b en)):=qH (fun wq A c h hc hb=>by
  have hq:=patDo_calls A1 A c2 c p img wq hc (by have:=HIL.out;omega) hb (HP1.out.stays h);rw[HPD.out]at hq;exact hq)
 have hq3:=fun v (h:Below wc.heap.size wc v)=>keep1 h RP.out (by go_simp) FP.out;have hq1:=fun v (h:Below wc.heap.size wc v)=>keep1 h RD.out (by go_simp) FD.out;have hq2:=fun v (h:Below wc.heap.size wc v)=>keep1 h RR.out (by go_simp) FR.out;have hf1:=HA.out
 go_region_held3 (fun v=>Below wc.heap.size wc v) (first|exact hbb|exact(Below.refl _ _).drew)
  (first
    |(go_at_call 82;refine(KI.out _ (by assumption)).mono ?_;rintro e wj ⟨Aj,cj,rfl,h3,h4,h5⟩;have hbb:=(bW wc).drew.trans (h5.mono (by simp)))
    |(go_at_call 81;refine(KD.out _ _ _ (by assumption) h3 h4).mono ?_;rintro e w4 ⟨A5,c5,rfl,g1,g2,g9⟩;have hbb:=hbb.trans (g9.mono hbb.size)))
 have g3:=hbb;clear hbb g9 h3 h4 h5 hq3 hq1 hq2 hf1;have a4:=keep1 g3 RD.out (by go_simp) FD.out;have a1:=keep1 g3 RZ.out (by go_simp) FZ.out;have a2:=keep1 g3 RR.out (by go_simp) FR.out;have a3:=keep1 g3 RP.out (by go_simp) FP.out;have hs2:=g3.size;have HB4:Hid (Below w.heap.size w w4):=qH (HB3.out.trans (g3.mono HB3.out.size));have HK4:Hid (Kp (w.heap.size+2) w1 w4):=qH (HK3.out.below (by omega) g3);have HG2:Hid (Kp (w1.heap.size+1) w2 w4):=qH (HG1.out.below (by omega) g3);clear g1 g2 g3 KI KD RD FD RZ FZ RR FR RP FP KI1 HI1 HP1;by_cases e1:en≠0
 ·have hz:res=(Dev.zero,en):=HD1.out.trans (if_pos e1);subst hz;have q:(en !=0)=true:=by simp[e1]
  clear e1;exact x8lt
 have e1:=Decidable.not_not.1 e1;subst e1;have HD2:=qH (HD1.out.trans (if_neg (by decide)));clear HD1;have hle:5+kb*3+3<=11:=by omega
 have hw1:IntKind.i64.wrap ((1:Int)-(ka:Int))=(kb:Int):=by rw[IntWalk.i64_in _ (by omega)];omega
 have i1:(0:Int)<=(kb:Int):=by omega
 have i2:(kb:Int)<2:=by omega
 have i3:¬(2:Int)<=(kb:Int):=by omega
 have ha:=HA.out;go_wp2_with fail;refine(KW.out _).mono ?_;rintro e w5 ⟨rfl,hb⟩;have hbs:=hb.size;have hsz3:w4.heap.size<=w5.heap.size:=by simpa[World.setRow]using hbs
 have a4:=kp (w.heap.size) (devA d L1) hb;have a1:=kp (w.heap.size+1) (devA Dev.zero DLoc.zero) hb;have hne1:¬w2.heap.size=w1.heap.size:=by omega
 have a3:=kp (w2.heap.size) (patA p.from_ p.to_ p.old p.new_ p.size A1 p.ops.length c2) hb;have HB5:=bU HB4 hb;have HK5:Hid (Kp (w.heap.size+2) w1 w5):=qH (by
  refine Kp.below ?_ (by first|omega|(simp[World.setRow]<;>omega)) hb;exact x7of)
 have HG3:Hid (Kp (w1.heap.size+1) w2 w5):=qH (by
  refine Kp.below ?_ (by first|omega|(simp[World.setRow]<;>omega)) hb;repeat (first|exact HG2.out|exact Kp.refl _ _|refine Kp.row ?_ (by omega) _|refine Kp.cell ?_ (by first|(show _<_∨_<=_;omega)|(simp<;>omega)) _|refine Kp.alloc ?_ (by first|omega|(simp<;>omega)) _))
 clear hb hbs hle hw1 i1 i2 i3 ha a2;by_cases c3:e3≠0
 ·have hz:res=(Dev.zero,e3):=HD2.out.trans (if_pos c3);subst hz;have q:(e3 !=0)=true:=by simp[c3]
  exact x80n
 have c3:=Decidable.not_not.1 c3;subst c3;have hz:res=({d with c0:=p1,c1:=p2,busy:=true,job:=p,done:=0,got:=[]},0):=HD2.out.trans (if_neg (by decide));subst hz;clear HD2;go_wp2_with fail;have hp1:0<(rowOf w5 w.heap.size).size:=by rw[a4.1];simp[devA]
 obtain⟨w4,hw1⟩:=eX (w5.setRow w.heap.size (devA {d with c0:=p1,c1:=p2} L1));have RD:Hid (rowOf w4 w.heap.size=devA {d with c0:=p1,c1:=p2} L1):=qH (by rw[<-hw1,rowOf_setRow _ _ _ _ hp1,if_pos rfl]);have FD:Hid (frOf w4 w.heap.size=(0,0)):=qH (by rw[<-hw1,frOf_setRow];exact a4.2.1);have RZ:Hid (rowOf w4 (w.heap.size+1)=devA Dev.zero DLoc.zero):=qH (by rw[<-hw1,rowOf_setRow _ _ _ _ hp1,if_neg (by omega)];exact a1.1);have FZ:Hid (frOf w4 (w.heap.size+1)=(0,0)):=qH (by rw[<-hw1,frOf_setRow];exact a1.2.1);have RP:Hid (rowOf w4 w2.heap.size=patA p.from_ p.to_ p.old p.new_ p.size A1 p.ops.length c2):=qH (by rw[<-hw1,rowOf_setRow _ _ _ _ hp1,if_neg (by omega)];exact a3.1);have FP:Hid (frOf w4 w2.heap.size=(0,0)):=qH (by rw[<-hw1,frOf_setRow];exact a3.2.1);have hsz4:w4.heap.size=w5.heap.size:=by rw[<-hw1];simp[World.setRow]
 have HB6:Hid (Below w.heap.size w w4):=qH (by rw[<-hw1];exact below_row HB5.out nl _);have HK6:Hid (Kp (w.heap.size+2) w1 w4):=qH (by rw[<-hw1];exact HK5.out.row (.inl (by omega)) _);have HG4:Hid (Kp (w1.heap.size+1) w2 w4):=qH (by rw[<-hw1];exact HG3.out.row (.inl (by omega)) _);have HQ1:Hid (w2.heap.size≠w.heap.size):=qH (by omega);have HP1:Hid (0<(rowOf w4 w.heap.size).size):=qH (by rw[RD.out];simp[devA]);rw[hw1];clear hw1 hp1 a4 a1 a3;refine wp_region_mix (by kernel_rfl) (some 85::some 86::none::some 87::none::some 88::none::some 89::none::[]) (none::none::some 0::none::some 1::none::some 2::none::some 3::[]) (.agg (patA p.from_ p.to_ p.old p.new_ p.size A1 p.ops.length c2)::.pointer (some ⟨w.heap.size,29,none⟩)::undef::.pointer (some ⟨w.heap.size,30,none⟩)::undef::.pointer (some ⟨w.heap.size,36,none⟩)::undef::.pointer (some ⟨w.heap.size,28,none⟩)::undef::[]) 4 (opJ w4 w.heap.size {d with c0:=p1,c1:=p2} L1 p A1 c2) 91 rfl rfl (by decide+kernel) (by decide+kernel) (by decide+kernel) (by decide+kernel) rfl rfl (by decide+kernel) (by decide+kernel) (rfl) ?_ ?_
 ·refine⟨?_,?_,?_,?_,?_,?_,?_,?_,?_,trivial⟩
  ·intro done cv k1 a wq hw h hJ hn;have e4:=mO 6 (.pointer (some ⟨w2.heap.size,0,none⟩)) h;obtain⟨r_,f_⟩:=opJ_row hJ HQ1.out RP.out FP.out HP1.out;go_simp
  ·intro done cv k2 a wq hw h hJ hn;have e1:=mO 1 (.pointer (some ⟨w.heap.size,0,none⟩)) h;go_simp
  ·intro done cv a wq hw h hJ;have e4:=mN 1 86 h hw;obtain rfl:wq=w4.drew:=hJ;refine wp_sb1c e4 (cs:=devA {d with c0:=p1,c1:=p2} L1) (by rw[rowOf_drew];exact RD.out) (by go_simp) (by rw[frOf_drew];exact FD.out) ⟨undef,rfl,?_⟩
   show _=_;rw[devA_set_busy]
  ·exact x05s
  ·intro done cv a wq hw h hJ;have e4:=mN 3 87 h hw;have e85:=mN 0 85 h hw;have hJ':wq=w4.drew.setRow w.heap.size (devA {{d with c0:=p1,c1:=p2} with busy:=true} L1):=hJ;subst hJ';refine wp_srow e4 e85 (by go_simp) (by go_simp) (cs:=devA {{d with c0:=p1,c1:=p2} with busy:=true} L1) (by rw[rowOf_setRow _ _ _ _ (by rw[rowOf_drew];exact HP1.out),if_pos rfl]) (by go_simp) (by rw[frOf_setRow,frOf_drew];exact FD.out) (by go_simp) ⟨undef,rfl,?_⟩
   show _=_;rw[devA_splice_job,setRow_setRow]
  ·exact x05s
  ·intro done cv a wq hw h hJ;have e4:=mN 5 88 h hw;have hJ':wq=w4.drew.setRow w.heap.size (devA {{d with c0:=p1,c1:=p2} with busy:=true,job:=p} {L1 with aj:=A1,cj:=c2}):=hJ;subst hJ';refine wp_si1c e4 (cs:=devA {{d with c0:=p1,c1:=p2} with busy:=true,job:=p} {L1 with aj:=A1,cj:=c2}) (by rw[rowOf_setRow _ _ _ _ (by rw[rowOf_drew];exact HP1.out),if_pos rfl]) (by go_simp) (by rw[frOf_setRow,frOf_drew];exact FD.out) ⟨undef,rfl,?_⟩
   show _=_;rw[devA_set_done,setRow_setRow]
  ·exact x05s
  ·intro done cv a wq hw h hJ;have e4:=mN 7 89 h hw;have hJ':wq=w4.drew.setRow w.heap.size (devA {{d with c0:=p1,c1:=p2} with busy:=true,job:=p,done:=0} {L1 with aj:=A1,cj:=c2}):=hJ;subst hJ';refine wp_sn1c e4 (cs:=devA {{d with c0:=p1,c1:=p2} with busy:=true,job:=p,done:=0} {L1 with aj:=A1,cj:=c2}) (by rw[rowOf_setRow _ _ _ _ (by rw[rowOf_drew];exact HP1.out),if_pos rfl]) (by go_simp) (by rw[frOf_setRow,frOf_drew];exact FD.out) ⟨undef,rfl,?_⟩
   show _=_;rw[devA_set_got0,setRow_setRow]
 intro cv1 w6 hJ;have hw1:w6=w4.drew.setRow w.heap.size (devA {d with c0:=p1,c1:=p2,busy:=true,job:=p,done:=0,got:=[]} {L1 with aj:=A1,cj:=c2,ag:=none,cg:=0}):=hJ;simp only[mixAll,putAll_some,putAll_none,putAll_nil,List.getElem?_cons_zero,List.getElem?_cons_succ,Nat.zero_add,Nat.reduceAdd,List.setIfInBounds_toArray,List.set_cons_zero,List.set_cons_succ];have r1:rowOf w6 w.heap.size=devA {d with c0:=p1,c1:=p2,busy:=true,job:=p,done:=0,got:=[]} {L1 with aj:=A1,cj:=c2,ag:=none,cg:=0}:=by rw[hw1,rowOf_setRow _ _ _ _ (by rw[rowOf_drew];exact HP1.out),if_pos rfl]
 have r7f:frOf w6 w.heap.size=(0,0):=by rw[hw1,frOf_setRow,frOf_drew];exact FD.out
 have r7z:rowOf w6 (w.heap.size+1)=devA Dev.zero DLoc.zero:=by rw[hw1,rowOf_setRow _ _ _ _ (by rw[rowOf_drew];exact HP1.out),if_neg (by omega),rowOf_drew];exact RZ.out
 have r7zf:frOf w6 (w.heap.size+1)=(0,0):=by rw[hw1,frOf_setRow,frOf_drew];exact FZ.out
 have hsz5:w6.heap.size=w4.heap.size:=by
  have h1:w6.heap.size=w4.drew.heap.size:=by rw[hw1];simp[World.setRow]
  exact h1
 have HB7:Hid (Below w.heap.size w w6):=qH (by rw[hw1];exact below_row HB6.out.drew nl _);have HK7:Hid (Kp (w.heap.size+2) w1 w6):=qH (by rw[hw1];exact Kp.row (w:=w4.drew) HK6.out (.inl (by omega)) _);have HG5:Hid (Kp (w1.heap.size+1) w2 w6):=qH (by rw[hw1];exact Kp.row (w:=w4.drew) HG4.out (.inl (by omega)) _);clear hJ hw1 RD FD RZ FZ RP FP HP1;go_wp2_with fail;refine bodyPost_ret (rC (devA {d with c0:=p1,c1:=p2,busy:=true,job:=p,done:=0,got:=[]} {L1 with aj:=A1,cj:=c2,ag:=none,cg:=0})) rfl ⟨{L1 with aj:=A1,cj:=c2,ag:=none,cg:=0},rfl,?_,?_⟩
 ·refine Fresh.imp (P:=fun v=>DvOwn v (w.heap.size+2) d L1∧PatIn v p A1 c2) (Fresh.and' (Fresh.kp HFR.out ?_ (by omega) (by first|omega|(simp[World.setRow]<;>omega))) (Fresh.kp HGP.out ?_ (by omega) (by first|omega|(simp[World.setRow]<;>omega)))) (fun v hv=>hv.1.devIn.opened p1 p2 hv.2)
  ·repeat (first|exact HK7.out|exact Kp.refl _ _|refine Kp.row ?_ (by omega) _|refine Kp.cell ?_ (by first|(show _<_∨_<=_;omega)|(simp<;>omega)) _|refine Kp.alloc ?_ (by first|omega|(simp<;>omega)) _)
  ·repeat (first|exact HG5.out|exact Kp.refl _ _|refine Kp.row ?_ (by omega) _|refine Kp.cell ?_ (by first|(show _<_∨_<=_;omega)|(simp<;>omega)) _|refine Kp.alloc ?_ (by first|omega|(simp<;>omega)) _)
 exact bZ HB7
theorem devOpen_calls(d:Dev)(L:DLoc)(w:World)(h:DevIn w d L):Calls Tryz.prog 42 #[.agg (devA d L)] w (DvRet w (devOpen d).1 (devOpen d).2):=by
 by_cases hz:devReady d=0
 ·exact devOpen_ok d L w h hz
 have e:devOpen d=(Dev.zero,devReady d):=by unfold devOpen;rw[if_pos hz]
 rw[e];exact devOpen_bad d L w h hz
theorem DevIn.booted{w:World}{d:Dev}{L:DLoc}(h:DevIn w d L)(p q:Cop)(k:Int)(hk:k=0∨k=1):DevIn w {d with c0:=p,c1:=q,up:=true,running:=k} L:=⟨h.k0,h.l0,h.b0,h.k1,h.l1,h.b1,h.kg,h.lg,h.got,h.job,⟨by show -9223372036854775808<=k;omega,by show k<=9223372036854775807;omega⟩,h.id⟩
theorem start_slot{r:Rec}(h:recCheck r=0):(recStart r).1=0∨(recStart r).1=1:=by
 have:=rec_active h;unfold recStart;repeat' split
 all_goals (try dsimp only)
 all_goals first|omega|(unfold nowAt;omega)
theorem devBoot_bad(d:Dev)(L:DLoc)(w:World)(h:DevIn w d L)(hne:devCheck d≠0):Calls Tryz.prog 47 #[.agg (devA d L)] w (DvRet w Dev.zero (devCheck d)):=by
 have hba:Below w.heap.size w ((w.alloc (.cells (devA d L) 38)).alloc (.cells (devA Dev.zero DLoc.zero) 38)):=bA (bA (Below.refl _ _) _) _;have HBA:=qH hba;have HIN:=qH h;have K1:=qH (fun w h=>devCheck_calls d L w h);have q:(devCheck d !=0)=true:=by simp[hne]
 generalize devCheck d=n at *
 clear hne h hba;go_enter Tryz.func47,Tryz.ntmps47;go_wp2_with fail;refine(K1.out _ (HIN.out.stays HBA.out)).mono ?_;rintro e w1 ⟨rfl,hb1⟩;have a2:=kp (w.heap.size) (devA d L) hb1;have a1:=kp (w.heap.size+1) (devA Dev.zero DLoc.zero) hb1;have HB1:=bT HBA hb1;have hsz1:w.heap.size+2<=w1.heap.size:=by have:=hb1.size;simp at this;omega
 clear hb1;exact x5r8
theorem devBoot_late(d:Dev)(L:DLoc)(w:World)(h:DevIn w d L)(hz:devCheck d=0)(hu:d.up=true):Calls Tryz.prog 47 #[.agg (devA d L)] w (DvRet w Dev.zero 5):=by
 have hba:Below w.heap.size w ((w.alloc (.cells (devA d L) 38)).alloc (.cells (devA Dev.zero DLoc.zero) 38)):=bA (bA (Below.refl _ _) _) _;have HBA:=qH hba;have HIN:=qH h;have K1:=qH (fun w h=>devCheck_calls d L w h);rw[hz]at K1;clear hz h hba;go_enter Tryz.func47,Tryz.ntmps47;go_wp2_with fail;refine(K1.out _ (HIN.out.stays HBA.out)).mono ?_;rintro e w1 ⟨rfl,hb1⟩;have a2:=kp (w.heap.size) (devA d L) hb1;have a1:=kp (w.heap.size+1) (devA Dev.zero DLoc.zero) hb1;have HB1:=bT HBA hb1;have hsz1:w.heap.size+2<=w1.heap.size:=by have:=hb1.size;simp at this;omega
 clear hb1;exact x5r8
theorem devBoot_ok(d:Dev)(L:DLoc)(w:World)(h:DevIn w d L)(hz:devCheck d=0)(hu:d.up=false):Calls Tryz.prog 47 #[.agg (devA d L)] w (DvRet w (devBoot d).1 (devBoot d).2):=by
 have hba:Below w.heap.size w ((w.alloc (.cells (devA d L) 38)).alloc (.cells (devA Dev.zero DLoc.zero) 38)):=bA (bA (Below.refl _ _) _) _;have HBA:=qH hba;have HIN:=qH h;have K1:=qH (fun w h=>devCheck_calls d L w h);have hdef:devBoot d=if (recStart d.rec_).2.2≠0 then (Dev.zero,(recStart d.rec_).2.2)
   else if (recStart d.rec_).2.1≠d.rec_ then
    (if (recWrite d.c0 d.c1 (recStart d.rec_).2.1 false).2≠0 then (Dev.zero,(recWrite d.c0 d.c1 (recStart d.rec_).2.1 false).2)
    else ({d with c0:=(recWrite d.c0 d.c1 (recStart d.rec_).2.1 false).1.1,c1:=(recWrite d.c0 d.c1 (recStart d.rec_).2.1 false).1.2,up:=true,running:=(recStart d.rec_).1},0))
   else ({d with c0:=d.c0,c1:=d.c1,up:=true,running:=(recStart d.rec_).1},0):=by unfold devBoot;rw[if_neg (by omega),if_neg (by rw[hu];decide)];rfl
 have hok:=devCheck_ok.1 hz;have hrec:=rec_ok hok;have HSL:=qH (start_slot hrec);have KC:=qH (fun w h=>devCopy_calls d L w h);have K2:=qH (fun w=>read_ok d.c0 d.c1 w hok.cops);obtain⟨rk,hrk⟩:=eX ((recRead d.c0 d.c1).2);have hre:(recRead d.c0 d.c1).1=d.rec_:=rfl;rw[hrk,hre]at K2;have K3:=qH (fun w=>start_calls d.rec_ w);obtain⟨⟨k,nx,e1⟩,hq⟩:∃x,recStart d.rec_=x:=⟨_,rfl⟩;rw[hq]at hdef K3 HSL;dsimp only at hdef K3 HSL;have K4:=qH (fun w=>write_calls d.c0 d.c1 nx false w);obtain⟨⟨⟨p1,p2⟩,e2⟩,hw⟩:∃x,recWrite d.c0 d.c1 nx false=x:=⟨_,rfl⟩;rw[hw]at hdef K4;dsimp only at hdef;have HD:=qH hdef;rw[hz]at K1;generalize devBoot d=res at *
 clear hdef hok hrec hrk hre hq hw hz h hba;go_enter Tryz.func47,Tryz.ntmps47;go_wp2_with fail;refine(K1.out _ (HIN.out.stays HBA.out)).mono ?_;rintro e w1 ⟨rfl,hb1⟩;have a3:=kp (w.heap.size) (devA d L) hb1;have a1:=kp (w.heap.size+1) (devA Dev.zero DLoc.zero) hb1;have HB1:=bT HBA hb1;have hsz1:w.heap.size+2<=w1.heap.size:=by have:=hb1.size;simp at this;omega
 clear hb1;go_wp2_with fail;refine(KC.out _ (HIN.out.stays HB1.out)).mono ?_;rintro e w2 ⟨L1,rfl,hfr,hb⟩;have a3:=kr a3 hb;have a1:=kr a1 hb;have HFR:=qH hfr;have hsz2:w1.heap.size<=w2.heap.size:=hb.size;have HB2:=bT HB1 hb;have HK1:Hid (Kp w1.heap.size w2 w2):=qH (Kp.refl _ _);clear hb hfr;go_wp2_with fail;refine(K2.out _).mono ?_;rintro e w3 ⟨rfl,hb⟩;have a3:=kp (w.heap.size) (devA d L1) hb;have a1:=kr a1 hb;have hbs1:=hb.size;have hsz3:w2.heap.size<=w3.heap.size:=by first|omega|(simp[World.setRow]at hbs1;omega)
 have HK2:Hid (Kp w1.heap.size w2 w3):=qH (by
  refine Kp.below ?_ (by first|omega|(simp[World.setRow]<;>omega)) hb;exact x84a)
 have HB3:=bU HB2 hb;clear hb hbs1;go_wp2_with fail;refine(K3.out _).mono ?_;rintro e w4 ⟨rfl,hb⟩;have a3:=kr a3 hb;have a1:=kr a1 hb;have a2:=kp (w3.heap.size) (recA d.rec_) hb;have hbs1:=hb.size;have hsz4:w2.heap.size<=w4.heap.size:=by first|omega|(simp[World.setRow]at hbs1;omega)
 have HK3:Hid (Kp w1.heap.size w2 w4):=qH (by
  refine Kp.below ?_ (by first|omega|(simp[World.setRow]<;>omega)) hb;exact x9su)
 have HB4:=bU HB3 hb;clear hb hbs1;have hsz6:w3.heap.size<w4.heap.size:=a2.2.2.2.2.2;by_cases c2:e1≠0
 ·have hz:res=(Dev.zero,e1):=HD.out.trans (if_pos c2);subst hz;have q:(e1 !=0)=true:=by simp[c2]
  clear c2;exact x8lt
 have c2:=Decidable.not_not.1 c2;subst c2;have HD1:=qH (HD.out.trans (if_neg (by decide)));clear HD;by_cases c3:nx≠d.rec_
 ·have HD2:=qH (HD1.out.trans (if_pos c3));have q1:decide (nx=d.rec_)=false:=decide_eq_false c3;clear HD1 c3;go_wp2_with fail;refine(K4.out _).mono ?_;rintro e w5 ⟨rfl,hb⟩;have a3:=kr a3 hb;have a1:=kr a1 hb;have hbs1:=hb.size;have hsz5:w2.heap.size<=w5.heap.size:=by first|omega|(simp[World.setRow]at hbs1;omega)
  have HK4:Hid (Kp w1.heap.size w2 w5):=qH (by
   refine Kp.below ?_ (by first|omega|(simp[World.setRow]<;>omega)) hb;exact x17f)
  have HB5:=bU HB4 hb;clear hb hbs1;by_cases c3:e2≠0
  ·have hz:res=(Dev.zero,e2):=HD2.out.trans (if_pos c3);subst hz;have q:(e2 !=0)=true:=by simp[c3]
   exact x80n
  have c3:=Decidable.not_not.1 c3;subst c3;have hz:res=({d with c0:=p1,c1:=p2,up:=true,running:=k},0):=HD2.out.trans (if_neg (by decide));subst hz;clear hu;go_wp2_with fail;refine bodyPost_ret (rC (devA {d with c0:=p1,c1:=p2,up:=true,running:=k} L1)) rfl ⟨L1,rfl,?_,?_⟩
  ·refine Fresh.imp (P:=fun v=>DvOwn v w1.heap.size d L1) (Fresh.kp HFR.out ?_ (by omega) (by first|omega|(simp[World.setRow]<;>omega))) (fun v hv=>hv.devIn.booted p1 p2 k HSL.out);exact x7of
  exact bZ HB5
 have hz:res=({d with c0:=d.c0,c1:=d.c1,up:=true,running:=k},0):=HD1.out.trans (if_neg c3);have q1:decide (nx=d.rec_)=true:=decide_eq_true (Decidable.not_not.1 c3);subst hz;clear c3 hu;go_wp2_with fail;refine bodyPost_ret (rC (devA {d with c0:=d.c0,c1:=d.c1,up:=true,running:=k} L1)) rfl ⟨L1,rfl,?_,?_⟩
 ·refine Fresh.imp (P:=fun v=>DvOwn v w1.heap.size d L1) (Fresh.kp HFR.out ?_ (by omega) (by first|omega|(simp[World.setRow]<;>omega))) (fun v hv=>hv.devIn.booted d.c0 d.c1 k HSL.out);exact x17f
 exact bZ HB4
theorem devBoot_calls(d:Dev)(L:DLoc)(w:World)(h:DevIn w d L):Calls Tryz.prog 47 #[.agg (devA d L)] w (DvRet w (devBoot d).1 (devBoot d).2):=by
 by_cases hz:devCheck d=0
 ·cases hu:d.up
  ·exact devBoot_ok d L w h hz hu
  ·have e:devBoot d=(Dev.zero,5):=by unfold devBoot;rw[if_neg (by omega),if_pos hu]
   rw[e];exact devBoot_late d L w h hz hu
 have e:devBoot d=(Dev.zero,devCheck d):=by unfold devBoot;rw[if_pos hz]
 rw[e];exact devBoot_bad d L w h hz
theorem devCrash_bad(d:Dev)(L:DLoc)(w:World)(h:DevIn w d L)  (hne:devReady d≠0):Calls Tryz.prog 46 #[.agg (devA d L)] w (DvRet w Dev.zero (devReady d)):=by
 have hba:Below w.heap.size w ((w.alloc (.cells (devA d L) 38)).alloc (.cells (devA Dev.zero DLoc.zero) 38)):=bA (bA (Below.refl _ _) _) _;have HBA:=qH hba;have HIN:=qH h;have KB:=qH (fun w h=>ready_bad d L w h hne);have q:(devReady d !=0)=true:=by simp[hne]
 generalize devReady d=n at *
 clear hne h hba;go_enter Tryz.func46,Tryz.ntmps46;go_wp2_with fail;refine(KB.out _ (HIN.out.stays HBA.out)).mono ?_;rintro e w1 ⟨rfl,hb1⟩;have a2:=kp (w.heap.size) (devA d L) hb1;have a1:=kp (w.heap.size+1) (devA Dev.zero DLoc.zero) hb1;have HB1:=bT HBA hb1;clear hb1;exact x5r8
theorem devCrash_ok(d:Dev)(L:DLoc)(w:World)(h:DevIn w d L)  (hz:devReady d=0):Calls Tryz.prog 46 #[.agg (devA d L)] w (DvRet w d.down 0):=by
 have hba:Below w.heap.size w ((w.alloc (.cells (devA d L) 38)).alloc (.cells (devA Dev.zero DLoc.zero) 38)):=bA (bA (Below.refl _ _) _) _;have HBA:=qH hba;have HIN:=qH h;have KR:=qH (fun w h=>ready_ok d L w h hz);clear hz h hba;go_enter Tryz.func46,Tryz.ntmps46;go_wp2_with fail;refine(KR.out _ (HIN.out.stays HBA.out)).mono ?_;rintro e w1 ⟨L1,rfl,hfr,hb1⟩;have a2:=kp (w.heap.size) (devA d L) hb1;have a1:=kp (w.heap.size+1) (devA Dev.zero DLoc.zero) hb1;have HFR:Hid (Fresh (w.heap.size+2) w1 (fun v=>DvOwn v (w.heap.size+2) d L1)):=qH (by simpa[Nat.add_assoc]using hfr);have HB1:=bT HBA hb1;have hsz1:w.heap.size+2<=w1.heap.size:=by have:=hb1.size;simp at this;omega
 have HK1:Hid (Kp (w.heap.size+2) w1 w1):=qH (Kp.refl _ _);clear hb1 hfr;go_wp2_with fail;refine(down_calls d L1 _).mono ?_;rintro e w2 ⟨rfl,hb1⟩;have a2:=kp (w.heap.size) (devA d L1) hb1;have a1:=kr a1 hb1;have HB3:Hid (Below w1.heap.size w1 w2∨True):=qH (.inr trivial);have hs1:=HB1.out.size;have HX:Hid (Fresh (w.heap.size+2) w2 (fun v=>DvOwn v (w.heap.size+2) d L1)):=qH (by
  refine Fresh.below ?_ hb1 nl;repeat (first|exact HFR.out|refine Fresh.row ?_ (by omega) _|refine Fresh.alloc ?_ _))
 have HB2:Hid (Below w.heap.size w w2):=qH (by
  refine Below.trans ?_ (hb1.mono (by first|omega|(simp<;>omega)));exact x0ap)
 clear hb1 HFR;go_wp2_with fail;refine bodyPost_ret (rC (devA d.down L1.down)) rfl ⟨L1.down,rfl,?_,?_⟩
 ·refine Fresh.imp (P:=fun v=>DvOwn v (w.heap.size+2) d L1) (Fresh.mono (base:=w.heap.size+2) ?_ (by omega)) (fun v hv=>hv.devIn.down);repeat (first|exact HX.out|refine Fresh.row ?_ (by omega) _)
 exact bZ HB2
theorem devCrash_calls(d:Dev)(L:DLoc)(w:World)(h:DevIn w d L):Calls Tryz.prog 46 #[.agg (devA d L)] w (DvRet w (devCrash d).1 (devCrash d).2):=by
 unfold devCrash;by_cases hz:devReady d=0
 ·rw[if_neg (by omega)];exact devCrash_ok d L w h hz
 rw[if_pos hz];exact devCrash_bad d L w h hz
theorem x44o(h:Y:=by
 rw[hd1]at KD⊢;obtain⟨res,hres⟩:=eX (worDevice x (d1,e1));rw[hres];have HD:Hid (res=if e1≠0 then (Wor.zero,e1)else ({x with d:=d1},0)):=qH (by rw[<-hres];unfold worDevice;rfl);clear hd1 hres hr hf h;go_enter Tryz.func12,Tryz.ntmps12;go_wp2_with fail;refine KD.out.mono ?_;rintro e w1 ⟨L1,rfl,hfr,hb⟩;have hg1:¬w.heap.size+1=g:=by omega
 have hg2:¬g=w.heap.size+1:=by omega
 have a2:=kp g (worA x L) hb;have a1:=kp (w.heap.size+1) (devA x.d L.l) hb;have hs2:w.heap.size+2<=w1.heap.size:=by have:=hb.size;omega
 have HX2:Hid (Bex g base w w1):=qH (HX1.out.below hb (by omega) (by omega));have HW2:Hid (WorAt w1 base m top ds x L):=qH (HW1.out.same (fun k a b=>hb.block k (by omega)) (by omega));have HFR:Hid (Fresh (w.heap.size+2) w1 (fun v=>DevIn v d1 L1)):=qH (by simpa[Nat.add_assoc]using hfr);clear hb hfr KD HX1 HW1;by_cases c1:e1≠0
 ·have hz:res=(Wor.zero,e1):=HD.out.trans (if_pos c1);subst hz;have q:(e1==0)=false:=by simp[c1]
  have HC:=qH c1;clear c1;go_wp2_with fail;go_ret;refine⟨rfl,fun e=>absurd e HC.out,HX2.out.row (.inr (by omega)) _,by simp[World.setRow];omega⟩
 have c1:=Decidable.not_not.1 c1;subst c1;have hz:res=({x with d:=d1},0):=HD.out.trans (if_neg (by simp));subst hz;go_wp2_with fail;have hp1:0<(rowOf w1 (w.heap.size+1)).size:=by rw[a1.1];simp[devA]
 have hp2:0<(rowOf (w1.setRow (w.heap.size+1) (devA d1 L1)) g).size:=by rw[rowOf_setRow _ _ _ _ hp1,if_neg (by omega),a2.1];simp[worA]
 go_ret;refine⟨rfl,fun _=>⟨{L with l:=L1},?_,?_,?_⟩,?_,?_⟩
 ·rw[rowOf_setRow _ _ _ _ hp2,if_pos rfl]
 ·rw[frOf_setRow,frOf_setRow];exact a2.2.1
 ·intro v hv;have hb1:∀k,base<=k->k≠g->k≠w.heap.size+1->k<w1.heap.size->v.heap[k]?=w1.heap[k]?:=fun k h1 h0 h3 h2=>(hv k h1 h0 (by simp[World.setRow];omega)).trans ((setRow_other _ _ _ _ h0).trans (setRow_other _ _ _ _ h3));have hi:=HW2.out.wex (v:=v) (fun k h1 h2=>hb1 k h1 (by omega) (by omega) (by omega));exact⟨hi.kr,hi.lr,hi.rel,HFR.out v (fun k h1 h2=>hb1 k (by omega) (by omega) (by omega) h2),hi.kn,hi.ln,hi.net⟩
 ·exact(HX2.out.row (.inr (by omega)) _).row (.inl rfl) _
 simp[World.setRow];omega):Y:=h
theorem happen_box(g base m top:Nat)(ds:List (Option Addr×Nat))(n:Int)(x:Wor)(L:WLoc)(w:World)(hr:rowOf w g=worA x L)(hf:frOf w g=(0,0))(hg:g<base∨top<=g)(h:WorAt w base m top ds x L)(k:Int):g<w.heap.size∧base<=m∧m<=top∧top<=w.heap.size∧Hid (Below w.heap.size w ((w.alloc (.cells #[iv k,iv n] 50)).alloc (.cells (devA x.d L.l) 38)))∧Hid (WorAt ((w.alloc (.cells #[iv k,iv n] 50)).alloc (.cells (devA x.d L.l) 38)) base m top ds x L)∧Hid (Bex g base w ((w.alloc (.cells #[iv k,iv n] 50)).alloc (.cells (devA x.d L.l) 38)))∧((w.alloc (.cells #[iv k,iv n] 50)).alloc (.cells (devA x.d L.l) 38)).heap.size=w.heap.size+2∧rowOf ((w.alloc (.cells #[iv k,iv n] 50)).alloc (.cells (devA x.d L.l) 38)) g=worA x L∧frOf ((w.alloc (.cells #[iv k,iv n] 50)).alloc (.cells (devA x.d L.l) 38)) g=(0,0):=by
 have hlt:g<w.heap.size:=row_lt (w:=w) (by rw[hr];simp[worA]);have hm3:=h.h3;have hm2:=h.h2;have hm1:=h.h1;have HB:Below w.heap.size w ((w.alloc (.cells #[iv k,iv n] 50)).alloc (.cells (devA x.d L.l) 38)):=(bL _).alloc (by simp) _;exact⟨hlt,hm1,hm2,hm3,qH HB,qH (h.same (fun k a b=>HB.block k (by omega)) (by simp;omega)),qH ((Bex.refl g base w).below HB (by omega) (by omega)),by simp,
  by rw[rowOf_alloc,if_neg (by simp;omega),rowOf_alloc,if_neg (by omega)];exact hr,by rw[frOf_alloc,if_neg (by simp;omega),frOf_alloc,if_neg (by omega)];exact hf⟩
theorem happen_9(g base m top:Nat)(ds:List (Option Addr×Nat))(n:Int)(x:Wor)(L:WLoc)(w:World)(hr:rowOf w g=worA x L)(hf:frOf w g=(0,0))(hg:g<base∨top<=g)(h:WorAt w base m top ds x L):Calls Tryz.prog 12 #[.pointer (some ⟨g,0,none⟩),.agg #[iv 9,iv n]] w (HaRet w g base (worDevice x (devCrash x.d)).1 (worDevice x (devCrash x.d)).2):=by
 obtain⟨hlt,hm1,hm2,hm3,HBA,HW1,HX1,hs1,-,-⟩:=happen_box g base m top ds n x L w hr hf hg h 9;have a2:=keep1 (bW w) hr (by go_simp) hf;obtain⟨⟨d1,e1⟩,hd1⟩:∃z,devCrash x.d=z:=⟨_,rfl⟩;have KD:=qH (devCrash_calls x.d L.l _ HW1.out.dev.now);exact x44o
end Go.Proofs.YtefkfglkpebbmaaGreat
