/- Walks. No conditions. -/
import Derived.Test.YtefkfglkpebbmabGreatP41
set_option linter.all false
set_option maxRecDepth 100000
set_option maxHeartbeats 0
namespace Go.Proofs.YtefkfglkpebbmabGreat
open Go.RowKit
variable {Y:Prop}
variable {d:Dev} {w:World} {l:List Chk}
theorem x1ro(h:Y:=by
 have e1:=mO 3 (.pointer (some ⟨w.heap.size,0,none⟩)) h;go_simp):Y:=h
theorem x2uc(h:Y:=by
 go_wp2_with fail;refine bodyPost_ret (rC (devA Dev.zero DLoc.zero)) rfl ⟨DLoc.zero,rfl,.const fun v=>DevIn.zero v,bZ HB2⟩):Y:=h
theorem x5r8(h:Y:=by
 go_wp2_with fail;refine bodyPost_ret (rC (devA Dev.zero DLoc.zero)) rfl ⟨DLoc.zero,rfl,.const fun v=>DevIn.zero v,bZ HB1⟩):Y:=h
theorem x84a(h:Y:=by
 repeat (first|exact HK1.out|exact Kp.refl _ _|refine Kp.row ?_ (by omega) _|refine Kp.cell ?_ (by first|(show _<_∨_<=_;omega)|(simp<;>omega)) _|refine Kp.alloc ?_ (by first|omega|(simp<;>omega)) _)):Y:=h
theorem x9su(h:Y:=by
 repeat (first|exact HK2.out|exact Kp.refl _ _|refine Kp.row ?_ (by omega) _|refine Kp.cell ?_ (by first|(show _<_∨_<=_;omega)|(simp<;>omega)) _|refine Kp.alloc ?_ (by first|omega|(simp<;>omega)) _)):Y:=h
def RdRet(w:World)(d:Dev):Ending->World->Prop:=fun en w'=>
 ∃L,en=.returned (.tuple #[.agg (devA d L),.agg (recA d.rec_),iv 0])∧Fresh w.heap.size w' (fun v=>DvOwn v w.heap.size d L)∧Below w.heap.size w w'
theorem devReady_check(h:devCheck d≠0):devReady d=devCheck d:=by unfold devReady;rw[if_pos h]
theorem devReady_off(h:devCheck d=0)(hu:d.up=false):devReady d=5:=by unfold devReady;rw[if_neg (by omega),if_pos hu]
theorem devReady_up(h:devReady d=0):devCheck d=0∧d.up=true:=by
 have:=devReady_ok.1 h;exact⟨devCheck_ok.2 this.1,this.2⟩
theorem ready_bad(d:Dev)(L:DLoc)(w:World)(h:DevIn w d L)(hne:devReady d≠0):Calls Tryz.prog 104 #[.agg (devA d L)] w (RetB w (.tuple #[.agg (devA Dev.zero DLoc.zero),.agg (recA Rec.zero),iv (devReady d)])):=by
 have hba:=(((bW w).alloc nl (.cells (devA d L) 38)).alloc (by simp) (.cells (devA Dev.zero DLoc.zero) 38)).alloc (by simp;omega) (.cells (recA Rec.zero) 29);have HBA:=qH hba;have HIN:=qH h;have K1:=qH (fun w h=>devCheck_calls d L w h);by_cases hc:devCheck d≠0
 first|case' inl=>have T2:Hid True:=qH trivial|case' pos=>have T2:Hid True:=qH trivial|case' refine_1=>have T2:Hid True:=qH trivial
 iterate 2
  ·first
    |
     revert T2;intro T2;rw[devReady_check hc];have q:(devCheck d !=0)=true:=by simp[hc]
     generalize devCheck d=n at *
    |
     have hc:=Decidable.not_not.1 hc;have hu:d.up=false:=by
      cases hu:d.up
      ·rfl
      exact absurd (devReady_ok.2 ⟨devCheck_ok.1 hc,hu⟩) hne
     rw[devReady_off hc hu];rw[hc]at K1
   clear hne hc h hba;go_enter Tryz.func104,Tryz.ntmps104;go_wp2_with fail;refine(K1.out _ (HIN.out.stays HBA.out)).mono ?_;rintro e w1 ⟨rfl,hb1⟩;have a0:=kp (w.heap.size) (devA d L) hb1;have a1:=kp (w.heap.size+1) (devA Dev.zero DLoc.zero) hb1;have a2:=kp (w.heap.size+1+1) (recA Rec.zero) hb1;have HB1:=bT HBA hb1;clear hb1;go_wp2_with fail;refine bodyPost_ret (results_cct rfl rfl (cs:=devA Dev.zero DLoc.zero) (ds:=recA Rec.zero) (by go_simp) (by go_simp) (by go_simp) rfl (by go_simp) (by go_simp) (by go_simp)) rfl ⟨rfl,bZ HB1⟩
def rdJ(w0:World)(g:Nat)(d:Dev):Nat->(Nat->Value)->World->Prop
 |0,_,w=>w=w0.drew
 |1,cv,w=>∃L2,cv 1=.agg (devA d L2)∧Fresh w0.heap.size w (fun v=>DvOwn v w0.heap.size d L2)∧Below w0.heap.size w0 w
 |2,_,w=>∃L2 w2,Fresh w0.heap.size w2 (fun v=>DvOwn v w0.heap.size d L2)∧Below w0.heap.size w0 w2∧w=w2.setRow (g+1) (devA d L2)
 |_,_,w=>∃L2 w2,Fresh w0.heap.size w2 (fun v=>DvOwn v w0.heap.size d L2)∧Below w0.heap.size w0 w2∧w=(w2.setRow (g+1) (devA d L2)).setRow (g+1+1) (recA d.rec_)
theorem rdJ_bel{w0:World}{g k:Nat}{cv:Nat->Value}(hk:k<=1)(hJ:rdJ w0 g d k cv w):Below w0.heap.size w0 w:=by
 match k,hk,hJ with
 |0,_,hJ=>obtain rfl:w=w0.drew:=hJ;exact(Below.refl _ _).drew
 |1,_,⟨_,_,_,h⟩=>exact h
theorem rdJ_any{w0:World}{g g6 k:Nat}{cv:Nat->Value}(hk:k<=2)(hg:g6≠g+1)(hr:rowOf w0 g6=recA d.rec_)(hf:frOf w0 g6=(0,0))(hz:rowOf w0 (g+1)=devA Dev.zero DLoc.zero)(hJ:rdJ w0 g d k cv w):rowOf w g6=recA d.rec_∧frOf w g6=(0,0):=by
 have hlt:=row_lt (w:=w0) (g:=g6) (by rw[hr];simp[recA]);have hlt1:=row_lt (w:=w0) (g:=g+1) (by rw[hz];simp[devA])
 match k,hk,hJ with
 |0,_,hJ=>have hb:=rdJ_bel (k:=0) (by omega) hJ;exact⟨(rowOf_below hlt hb).trans hr,(frOf_below hlt hb).trans hf⟩
 |1,_,hJ=>have hb:=rdJ_bel (k:=1) (by omega) hJ;exact⟨(rowOf_below hlt hb).trans hr,(frOf_below hlt hb).trans hf⟩
 |2,_,⟨L2,w2,_,hb,e⟩=>
  subst e;rw[rowOf_setRow _ _ _ _ (by rw[rowOf_below hlt1 hb,hz];simp[devA]),if_neg hg,frOf_setRow];exact⟨(rowOf_below hlt hb).trans hr,(frOf_below hlt hb).trans hf⟩
theorem ready_ok(d:Dev)(L:DLoc)(w:World)(h:DevIn w d L)(hz:devReady d=0):Calls Tryz.prog 104 #[.agg (devA d L)] w (RdRet w d):=by
 have hba:=(((bW w).alloc nl (.cells (devA d L) 38)).alloc (by simp) (.cells (devA Dev.zero DLoc.zero) 38)).alloc (by simp;omega) (.cells (recA Rec.zero) 29);have HBA:=qH hba;have HIN:=qH h;have K1:=qH (fun w h=>devCheck_calls d L w h);obtain⟨hc,hu⟩:=devReady_up hz;have K2:=qH (fun w=>read_ok d.c0 d.c1 w (devCheck_ok.1 hc).cops);obtain⟨rk,hrk⟩:=eX ((recRead d.c0 d.c1).2);have hrec:(recRead d.c0 d.c1).1=d.rec_:=rfl;rw[hrk,hrec]at K2;rw[hc]at K1;clear hz hc h hba hrk hrec;go_enter Tryz.func104,Tryz.ntmps104;go_wp2_with fail;refine(K1.out _ (HIN.out.stays HBA.out)).mono ?_;rintro e w1 ⟨rfl,hb1⟩;have a3:=kp (w.heap.size) (devA d L) hb1;have a1:=kp (w.heap.size+1) (devA Dev.zero DLoc.zero) hb1;have a2:=kp (w.heap.size+1+1) (recA Rec.zero) hb1;have HB1:=bT HBA hb1;clear hb1;go_wp2_with fail;refine(K2.out _).mono ?_;rintro e w2 ⟨rfl,hb1⟩;have a3:=kr a3 hb1;have a1:=kr a1 hb1;have a2:=kr a2 hb1;have HB2:=bT HB1 hb1;clear hb1;go_wp2_with fail;have q1:rowOf (w2.alloc (.cells (recA d.rec_) 29)) w.heap.size=devA d L:=by rw[rowOf_alloc,if_neg a3.2.2.1];exact a3.1
 have q2:frOf (w2.alloc (.cells (recA d.rec_) 29)) w.heap.size=(0,0):=by rw[frOf_alloc,if_neg a3.2.2.1];exact a3.2.1
 have q3:rowOf (w2.alloc (.cells (recA d.rec_) 29)) (w.heap.size+1)=devA Dev.zero DLoc.zero:=by rw[rowOf_alloc,if_neg a1.2.2.1];exact a1.1
 have q4:frOf (w2.alloc (.cells (recA d.rec_) 29)) (w.heap.size+1)=(0,0):=by rw[frOf_alloc,if_neg a1.2.2.1];exact a1.2.1
 have q5:rowOf (w2.alloc (.cells (recA d.rec_) 29)) (w.heap.size+1+1)=recA Rec.zero:=by rw[rowOf_alloc,if_neg a2.2.2.1];exact a2.1
 have q6:frOf (w2.alloc (.cells (recA d.rec_) 29)) (w.heap.size+1+1)=(0,0):=by rw[frOf_alloc,if_neg a2.2.2.1];exact a2.2.1
 have q7:rowOf (w2.alloc (.cells (recA d.rec_) 29)) w2.heap.size=recA d.rec_:=by rw[rowOf_alloc,if_pos rfl]
 have q8:frOf (w2.alloc (.cells (recA d.rec_) 29)) w2.heap.size=(0,0):=by rw[frOf_alloc,if_pos rfl]
 have HB3:Hid (Below w.heap.size w (w2.alloc (.cells (recA d.rec_) 29))):=qH (HB2.out.alloc HB2.out.size _);have HSZ:Hid (w.heap.size+1+1<(w2.alloc (.cells (recA d.rec_) 29)).heap.size):=qH (by simp;omega);have HG1:Hid (w2.heap.size≠w.heap.size+1):=qH (by omega);obtain⟨g1,hg1⟩:=eX (w2.heap.size);obtain⟨w3,hw1⟩:=eX (w2.alloc (.cells (recA d.rec_) 29));obtain⟨g,hg⟩:=eX (w.heap.size);rw[hw1,hg]at q1 q2 q3 q4 q5 q6 HB3 HSZ;rw[hw1,hg1]at q7 q8;rw[hg1,hg]at HG1;rw[hw1,hg1,hg];have RD:=qH q1;have FD:=qH q2;have RZ:=qH q3;have FZ:=qH q4;have RY:=qH q5;have FY:=qH q6;have RR:=qH q7;have FR:=qH q8;have HG:=qH hg;have KC:Hid (∀wq,Below w3.heap.size w3 wq->Calls Tryz.prog 53 #[.agg (devA d L)] wq (DcRet wq d)):=qH (fun wq h=>devCopy_calls d L wq ((HIN.out.stays (HG.out▸HB3.out)).stays h));clear q1 q2 q3 q4 q5 q6 q7 q8 hw1 hg1 hg a3 a1 a2;refine wM (some 28::some 29::some 30::some 31::none::none::some 4::[]) (none::some 0::none::none::some 1::some 2::none::[]) (.agg (devA d L)::undef::.agg (recA d.rec_)::iv 0::undef::undef::iv 0::[]) 3 (rdJ w3 g d) 32 (rfl) ?_ ?_
 ·refine⟨?_,?_,?_,?_,?_,?_,?_,trivial⟩
  ·intro done cv k1 a wq hw h hJ hn;have e1:=mO 1 (.pointer (some ⟨g,0,none⟩)) h;have hk:=hn 4 _ 1 rfl rfl (by decide);have hb:=rdJ_bel hk hJ;obtain⟨r_,f_,n_,c_,z_,l_⟩:=keep1 hb RD.out (by go_simp) FD.out;go_simp
  ·intro done cv a wq hw h hJ;have e1:=mN 0 28 h hw;obtain rfl:wq=w3.drew:=hJ;refine wp_call (vals:=#[.agg (devA d L)]) (by rw[List.map_toArray,List.map_cons,List.map_nil,ch_ev e1]) (enters_of Tryz.func53 (by kernel_rfl) rfl _ _) (KC.out _ ((Below.refl _ _).drew)) ?_;rintro e w' ⟨L1,rfl,hfr,hbel⟩;exact⟨_,rfl,_,rfl,L1,by simp,hfr,(Below.refl _ _).drew.trans hbel⟩
  ·intro done cv k1 a wq hw h hJ hn;have e1:=mO 6 (.pointer (some ⟨g1,0,none⟩)) h;have hk:=hn 5 _ 2 rfl rfl (by decide);obtain⟨r_,f_⟩:=rdJ_any hk HG1.out RR.out FR.out RZ.out hJ;go_simp
  ·intro done cv k2 a wq hw h hJ hn;have e1:=mO 8 (iv 0) h;exact mx_move (ch_ev e1)
  ·intro done cv a wq hw h hJ;have e1:=mO 2 (.pointer (some ⟨g+1,0,none⟩)) h;have e29:=mx_cv (i:=1) (t:=29) h (hw 1 (by decide)) rfl rfl;obtain⟨L1,y1,hfr,hbel⟩:=hJ;rw[y1]at e29;obtain⟨r_,f_,n_,c_,z_,l_⟩:=keep1 hbel RZ.out (by go_simp) FZ.out;refine wp_srow e1 e29 (by go_simp) (by go_simp) r_ (by go_simp) f_ (by go_simp) ⟨undef,rfl,L1,wq,hfr,hbel,?_⟩;rw[splice_all _ _ (by simp[devA])]
  ·intro done cv a wq hw h hJ;have e1:=mO 3 (.pointer (some ⟨g+1+1,0,none⟩)) h;have e30:=mN 2 30 h hw;obtain⟨L1,w2,hfr,hbel,rfl⟩:=hJ;obtain⟨r_,f_,n_,c_,z_,l_⟩:=keep1 hbel RY.out (by go_simp) FY.out;have r2_:=keep1 hbel RZ.out (by go_simp) FZ.out;refine wp_srow e1 e30 (by go_simp) (by go_simp) (cs:=recA Rec.zero) (by rw[rowOf_setRow _ _ _ _ (by rw[r2_.1];simp[devA]),if_neg (by omega)];exact r_) (by go_simp) (by rw[frOf_setRow];exact f_) (by go_simp) ⟨undef,rfl,L1,w2,hfr,hbel,?_⟩;rw[splice_all _ _ (by simp[recA])]
  ·intro done cv k1 a wq hw h hJ hn;have e1:=mN 3 31 h hw;exact mx_assign (ch_ev e1)
 intro cv w4 hJ;obtain⟨L1,w5,hfr,hbel,rfl⟩:=hJ;simp only[mixAll,pA,mA,Nat.reduceAdd];have hsz:=HSZ.out;have hge:=HG.out;obtain⟨r_,f_,n_,c_,z_,l_⟩:=keep1 hbel RY.out (by go_simp) FY.out;have r2_:=keep1 hbel RZ.out (by go_simp) FZ.out;have HFR:=qH hfr;have HB4:=qH hbel;clear hfr hbel;go_wp2_with fail;refine bodyPost_ret (results_cct rfl rfl (cs:=devA d L1) (ds:=recA d.rec_) (by go_simp) (by go_simp) (by go_simp) rfl (by go_simp) (by go_simp) (by go_simp)) rfl ⟨L1,rfl,?_,?_⟩
 ·refine Fresh.imp (P:=fun v=>DvOwn v w3.heap.size d L1) (Fresh.mono (base:=w3.heap.size) ?_ (by omega)) (fun v hv=>hv.mono (by omega));repeat (first|exact HFR.out|refine Fresh.row ?_ (by omega) _)
 rw[hge];have hb1:=HB3.out.size;have hb:=HB3.out.trans (HB4.out.mono (by omega));repeat (first|exact hb|refine bR ?_ _)
theorem x0ss(h:Y:=by
 rw[<-himg];unfold Dev.image;rw[List.length_take];have:=(at_sizes HREC.out (ka:Int)).2.1;omega):Y:=h
theorem x17f(h:Y:=by
 repeat (first|exact HK3.out|exact Kp.refl _ _|refine Kp.row ?_ (by omega) _|refine Kp.cell ?_ (by first|(show _<_∨_<=_;omega)|(simp<;>omega)) _|refine Kp.alloc ?_ (by first|omega|(simp<;>omega)) _)):Y:=h
theorem x52i(h:Y:=by
 go_wp2_with fail;refine bodyPost_ret (rC (devA Dev.zero DLoc.zero)) rfl ⟨DLoc.zero,rfl,.const fun v=>DevIn.zero v,bZ HB3⟩):Y:=h
theorem x7of(h:Y:=by
 repeat (first|exact HK4.out|exact Kp.refl _ _|refine Kp.row ?_ (by omega) _|refine Kp.cell ?_ (by first|(show _<_∨_<=_;omega)|(simp<;>omega)) _|refine Kp.alloc ?_ (by first|omega|(simp<;>omega)) _)):Y:=h
theorem x7r2(h:Y:=by
 rw[<-himg];exact image_calls d L1 (ka:Int) d.rec_ wq (by omega) h (slot_len HOK.out.l0 HOK.out.l1 _) (at_sizes HREC.out _).1 (at_sizes HREC.out _).2.1):Y:=h
theorem x80n(h:Y:=by
 clear c3;go_wp2_with fail;refine bodyPost_ret (rC (devA Dev.zero DLoc.zero)) rfl ⟨DLoc.zero,rfl,.const fun v=>DevIn.zero v,bZ HB5⟩):Y:=h
theorem x8lt(h:Y:=by
 go_wp2_with fail;refine bodyPost_ret (rC (devA Dev.zero DLoc.zero)) rfl ⟨DLoc.zero,rfl,.const fun v=>DevIn.zero v,bZ HB4⟩):Y:=h
theorem DevIn.cops{L:DLoc}(h:DevIn w d L)(p q:Cop):DevIn w {d with c0:=p,c1:=q} L:=⟨h.k0,h.l0,h.b0,h.k1,h.l1,h.b1,h.kg,h.lg,h.got,h.job,h.ir,h.id⟩
theorem devConfirm_bad(d:Dev)(L:DLoc)(w:World)(h:DevIn w d L)  (hne:devReady d≠0):Calls Tryz.prog 60 #[.agg (devA d L)] w (DvRet w Dev.zero (devReady d)):=by
 have hba:Below w.heap.size w ((w.alloc (.cells (devA d L) 38)).alloc (.cells (devA Dev.zero DLoc.zero) 38)):=bA (bA (Below.refl _ _) _) _;have HBA:=qH hba;have HIN:=qH h;have KB:=qH (fun w h=>ready_bad d L w h hne);have q:(devReady d !=0)=true:=by simp[hne]
 generalize devReady d=n at *
 clear hne h hba;go_enter Tryz.func60,Tryz.ntmps60;go_wp2_with fail;refine(KB.out _ (HIN.out.stays HBA.out)).mono ?_;rintro e w1 ⟨rfl,hb1⟩;have a2:=kp (w.heap.size) (devA d L) hb1;have a1:=kp (w.heap.size+1) (devA Dev.zero DLoc.zero) hb1;have HB1:=bT HBA hb1;clear hb1;exact x5r8
theorem devConfirm_ok(d:Dev)(L:DLoc)(w:World)(h:DevIn w d L)  (hz:devReady d=0):Calls Tryz.prog 60 #[.agg (devA d L)] w (DvRet w (devConfirm d).1 (devConfirm d).2):=by
 have hba:Below w.heap.size w ((w.alloc (.cells (devA d L) 38)).alloc (.cells (devA Dev.zero DLoc.zero) 38)):=bA (bA (Below.refl _ _) _) _;have HBA:=qH hba;have HIN:=qH h;have KR:=qH (fun w h=>ready_ok d L w h hz);have hdef:devConfirm d=if d.running=d.rec_.active then (Dev.zero,5)
   else if (recConfirm d.rec_).2≠0 then (Dev.zero,(recConfirm d.rec_).2)
   else if (recWrite d.c0 d.c1 (recConfirm d.rec_).1 false).2≠0 then (Dev.zero,(recWrite d.c0 d.c1 (recConfirm d.rec_).1 false).2)
   else (d.write (recConfirm d.rec_).1 false,0):=by unfold devConfirm;rw[if_neg (by omega)]
 have K1:=qH (fun w=>confirm_calls d.rec_ w);obtain⟨⟨r1,e1⟩,hq⟩:∃x,recConfirm d.rec_=x:=⟨_,rfl⟩;unfold Dev.write at hdef;rw[hq]at hdef K1;dsimp only at hdef;have K2:=qH (fun w=>write_calls d.c0 d.c1 r1 false w);obtain⟨⟨⟨p1,p2⟩,e2⟩,hw⟩:∃x,recWrite d.c0 d.c1 r1 false=x:=⟨_,rfl⟩;rw[hw]at hdef K2;dsimp only at hdef;have HD:=qH hdef;generalize devConfirm d=res at *
 clear hz h hba hdef hq hw;go_enter Tryz.func60,Tryz.ntmps60;go_wp2_with fail;refine(KR.out _ (HIN.out.stays HBA.out)).mono ?_;rintro e w1 ⟨L1,rfl,hfr,hb1⟩;have a3:=kp (w.heap.size) (devA d L) hb1;have a1:=kp (w.heap.size+1) (devA Dev.zero DLoc.zero) hb1;have HFR:Hid (Fresh (w.heap.size+2) w1 (fun v=>DvOwn v (w.heap.size+2) d L1)):=qH (by simpa[Nat.add_assoc]using hfr);have HB1:=bT HBA hb1;have hsz1:w.heap.size+2<=w1.heap.size:=by have:=hb1.size;simp at this;omega
 have HK1:Hid (Kp (w.heap.size+2) w1 w1):=qH (Kp.refl _ _);clear hb1 hfr;by_cases c1:d.running=d.rec_.active
 ·have hz:res=(Dev.zero,5):=HD.out.trans (if_pos c1);subst hz;have q:(d.running==d.rec_.active)=true:=by simp[c1]
  clear c1;exact x5r8
 have q1:(d.running==d.rec_.active)=false:=by simp[c1]
 have HD1:=qH (HD.out.trans (if_neg c1));clear c1 HD;go_wp2_with fail;refine(K1.out _).mono ?_;rintro e w2 ⟨rfl,hb⟩;have a3:=kp (w.heap.size) (devA d L1) hb;have a1:=kr a1 hb;have a2:=kp (w1.heap.size) (recA d.rec_) hb;have hbs1:=hb.size;have hsz2:w1.heap.size<=w2.heap.size:=by first|omega|(simp at hbs1;omega)
 have HK2:Hid (Kp (w.heap.size+2) w1 w2):=qH (by
  refine Kp.below ?_ (by first|omega|(simp<;>omega)) hb;exact x84a)
 have HB2:=bU HB1 hb;clear hb hbs1;by_cases c2:e1≠0
 ·have hz:res=(Dev.zero,e1):=HD1.out.trans (if_pos c2);subst hz;have q:(e1 !=0)=true:=by simp[c2]
  clear c2;exact x2uc
 have c2:=Decidable.not_not.1 c2;subst c2;have HD2:=qH (HD1.out.trans (if_neg (by decide)));clear HD1;go_wp2_with fail;refine(K2.out _).mono ?_;rintro e w3 ⟨rfl,hb⟩;have a3:=kr a3 hb;have a1:=kr a1 hb;have hbs1:=hb.size;have hsz3:w1.heap.size<=w3.heap.size:=by first|omega|(simp at hbs1;omega)
 have HK3:Hid (Kp (w.heap.size+2) w1 w3):=qH (by
  refine Kp.below ?_ (by first|omega|(simp<;>omega)) hb;exact x9su)
 have HB3:=bU HB2 hb;clear hb hbs1;by_cases c3:e2≠0
 ·have hz:res=(Dev.zero,e2):=HD2.out.trans (if_pos c3);subst hz;have q:(e2 !=0)=true:=by simp[c3]
  clear c3;exact x52i
 have c3:=Decidable.not_not.1 c3;subst c3;have hz:res=({d with c0:=p1,c1:=p2},0):=HD2.out.trans (if_neg (by decide));subst hz;go_wp2_with fail;refine bodyPost_ret (rC (devA {d with c0:=p1,c1:=p2} L1)) rfl ⟨L1,rfl,?_,?_⟩
 ·refine Fresh.imp (P:=fun v=>DvOwn v (w.heap.size+2) d L1) (Fresh.kp HFR.out ?_ (by omega) (by first|omega|(simp<;>omega))) (fun v hv=>hv.devIn.cops p1 p2);exact x17f
 exact bZ HB3
theorem devConfirm_calls(d:Dev)(L:DLoc)(w:World)(h:DevIn w d L):Calls Tryz.prog 60 #[.agg (devA d L)] w (DvRet w (devConfirm d).1 (devConfirm d).2):=by
 by_cases hz:devReady d=0
 ·exact devConfirm_ok d L w h hz
 have e:devConfirm d=(Dev.zero,devReady d):=by unfold devConfirm;rw[if_pos hz]
 rw[e];exact devConfirm_bad d L w h hz
theorem DevIn.hear{L:DLoc}(h:DevIn w d L){A:OA}{c:Nat}(h1:l.length<=c)(h2:l.length<=2513169434843)(h3:Chs w A l):DevIn w {d with got:=l} {L with ag:=A,cg:=c}:=⟨h.k0,h.l0,h.b0,h.k1,h.l1,h.b1,h1,h2,h3,h.job,h.ir,h.id⟩
theorem chkAdd_all{c x:Chk}(h:x∈(chkAdd l c).1):x∈l∨x=c:=by
 unfold chkAdd at h;by_cases h1:chkList l≠0
 ·rw[if_pos h1]at h;simp at h
 rw[if_neg h1]at h;by_cases h2:chkCheck c≠0
 ·rw[if_pos h2]at h;simp at h
 rw[if_neg h2]at h;rcases l with _|⟨y,r⟩
 ·dsimp only at h;exact .inr (by simpa using h)
 dsimp only at h;by_cases h3:¬kin y c
 ·rw[if_pos h3]at h;exact .inr (by simpa using h)
 rw[if_neg h3]at h;by_cases h4:∃z∈y::r,z.n=c.n
 ·rw[if_pos h4]at h;exact .inl h
 rw[if_neg h4]at h;rcases List.mem_append.1 h with h|h
 ·exact .inl (List.mem_of_mem_take h)
 rcases List.mem_cons.1 h with h|h
 ·exact .inr h
 exact .inl (List.mem_of_mem_drop h)
theorem chkAdd_len{c:Chk}(h:(chkAdd l c).2=0):(chkAdd l c).1.length<=100:=by
 unfold chkAdd at h⊢;by_cases h1:chkList l≠0
 ·exact x4pw
 rw[if_neg h1]at h⊢;have hl:=chkList_len (Decidable.not_not.1 h1);by_cases h2:chkCheck c≠0
 ·exact x1va
 rw[if_neg h2]at h⊢;rcases l with _|⟨y,r⟩
 ·simp
 dsimp only;split
 ·simp
 split
 ·dsimp only;omega
 simp only[List.length_append,List.length_take,List.length_cons,List.length_drop]at hl⊢;omega
theorem Fresh.and{base:Nat}{P Q:World->Prop}(h:Fresh base w P)(g:Fresh base w Q):Fresh base w (fun v=>P v∧Q v):=fun v hv=>⟨h v hv,g v hv⟩
theorem devHear_bad(d:Dev)(L:DLoc)(x:Chk)(B:OA)(e:Nat)(w:World)(h:DevIn w d L)(hx:ChkIn w x B e)(hne:devReady d≠0):Calls Tryz.prog 102 #[.agg (devA d L),.agg (chkA x.from_ x.to_ x.n x.of_ B x.data.length e)] w (DvRet w Dev.zero (devReady d)):=by
 have hba:Below w.heap.size w (((w.alloc (.cells (devA d L) 38)).alloc (.cells (chkA x.from_ x.to_ x.n x.of_ B x.data.length e) 61)).alloc (.cells (devA Dev.zero DLoc.zero) 38)):=(((bW w).alloc (by first|omega|(simp<;>omega)) (.cells (devA d L) 38)).alloc (by first|omega|(simp<;>omega)) (.cells (chkA x.from_ x.to_ x.n x.of_ B x.data.length e) 61)).alloc (by first|omega|(simp<;>omega)) (.cells (devA Dev.zero DLoc.zero) 38);have HBA:=qH hba;have HIN:=qH h;have KB:=qH (fun w h=>ready_bad d L w h hne);have q:(devReady d !=0)=true:=by simp[hne]
 generalize devReady d=n at *
 clear hne h hba;go_enter Tryz.func102,Tryz.ntmps102;go_wp2_with fail;refine(KB.out _ (HIN.out.stays HBA.out)).mono ?_;rintro e w1 ⟨rfl,hb1⟩;have a3:=kp (w.heap.size) (devA d L) hb1;have a1:=kp (w.heap.size+1) (chkA x.from_ x.to_ x.n x.of_ B x.data.length e) hb1;have a2:=kp (w.heap.size+1+1) (devA Dev.zero DLoc.zero) hb1;have HB1:=bT HBA hb1;clear hb1;exact x5r8
theorem devHear_ok(d:Dev)(L:DLoc)(x:Chk)(B:OA)(e:Nat)(w:World)(h:DevIn w d L)(hx:ChkIn w x B e)(hz:devReady d=0):Calls Tryz.prog 102 #[.agg (devA d L),.agg (chkA x.from_ x.to_ x.n x.of_ B x.data.length e)] w (DvRet w (devHear d x).1 (devHear d x).2):=by
 have hba:Below w.heap.size w (((w.alloc (.cells (devA d L) 38)).alloc (.cells (chkA x.from_ x.to_ x.n x.of_ B x.data.length e) 61)).alloc (.cells (devA Dev.zero DLoc.zero) 38)):=(((bW w).alloc (by first|omega|(simp<;>omega)) (.cells (devA d L) 38)).alloc (by first|omega|(simp<;>omega)) (.cells (chkA x.from_ x.to_ x.n x.of_ B x.data.length e) 61)).alloc (by first|omega|(simp<;>omega)) (.cells (devA Dev.zero DLoc.zero) 38);have HBA:=qH hba;have HIN:=qH h;have KR:=qH (fun w h=>ready_ok d L w h hz);have hdef:devHear d x=if d.busy=true then (Dev.zero,5)else if (chkAdd d.got x).2≠0 then (Dev.zero,(chkAdd d.got x).2)else ({d with got:=(chkAdd d.got x).1},0):=by unfold devHear;rw[if_neg (by omega)]
 have HLG:=qH h.lg;have HBD:Hid (∀y∈(chkAdd d.got x).1,ChkB y):=qH (fun y hy=>by
  rcases chkAdd_all hy with hy|hy
  ·exact h.got.bound y hy
  subst hy;exact⟨hx.len,hx.i0,hx.i1,hx.i2,hx.i3⟩)
 have HLN:Hid ((chkAdd d.got x).2=0->(chkAdd d.got x).1.length<=100):=qH (fun e=>chkAdd_len e);have HX:=qH hx;have K1:=qH (fun A c w h1 h2=>chkAdd_calls A B c e d.got x w HLG.out h1 h2);obtain⟨⟨l1,e1⟩,hq⟩:∃y,chkAdd d.got x=y:=⟨_,rfl⟩;rw[hq]at hdef HBD HLN K1;dsimp only at hdef;have HD:=qH hdef;generalize devHear d x=res at *
 clear hz h hba hdef hq hx;go_enter Tryz.func102,Tryz.ntmps102;go_wp2_with fail;refine(KR.out _ (HIN.out.stays HBA.out)).mono ?_;rintro e w1 ⟨L1,rfl,hfr,hb1⟩;have a3:=kp (w.heap.size) (devA d L) hb1;have a1:=kp (w.heap.size+1) (chkA x.from_ x.to_ x.n x.of_ B x.data.length e) hb1;have a2:=kp (w.heap.size+1+1) (devA Dev.zero DLoc.zero) hb1;have HFR:Hid (Fresh (w.heap.size+3) w1 (fun v=>DvOwn v (w.heap.size+3) d L1)):=qH (by simpa[Nat.add_assoc]using hfr);have HB1:=bT HBA hb1;have hsz1:w.heap.size+3<=w1.heap.size:=by have:=hb1.size;simp at this;omega
 have HK1:Hid (Kp (w.heap.size+3) w1 w1):=qH (Kp.refl _ _);clear hb1 hfr;by_cases c1:d.busy=true
 ·have hz:res=(Dev.zero,5):=HD.out.trans (if_pos c1);subst hz;exact x5r8
 have HD1:=qH (HD.out.trans (if_neg c1));have c1:d.busy=false:=by simpa using c1
 clear HD;go_wp2_with fail;refine(K1.out L1.ag L1.cg _ ?_ ?_).mono ?_
 ·refine(Fresh.kp (B:=w.heap.size+3) HFR.out ?_ nl (by first|omega|(simp<;>omega))).now.devIn.got;exact x84a
 ·refine HX.out.stays ?_;exact bZ HB1
 rintro en w2 ⟨A1,c2,ds,rfl,hrow,heach,hb⟩;have HS1:Hid (w1.heap.size+1<=w2.heap.size):=qH (by have:=hb.size;simpa using this);have a3:=kp (w.heap.size) (devA d L1) hb;have a1:=kp (w.heap.size+1+1) (devA Dev.zero DLoc.zero) hb;have hbs1:=hb.size;have hsz2:w1.heap.size<=w2.heap.size:=by first|omega|(simp at hbs1;omega)
 have HK2:Hid (Kp (w.heap.size+3) w1 w2):=qH (by
  refine Kp.below ?_ (by first|omega|(simp<;>omega)) hb;exact x84a)
 have HB2:=bU HB1 hb;clear hb hbs1;have HGR:Hid (Fresh (w1.heap.size+1) w2 (fun v=>GRow kChk v (w1.heap.size+1) l1 ds A1 c2)):=qH (by
  have h1:=hrow.fresh heach;simpa using h1)
 have HC1:=qH hrow.row.le;have hsz3:w1.heap.size+1<=w2.heap.size:=HS1.out;clear hrow heach;by_cases c2':e1≠0
 ·have hz:res=(Dev.zero,e1):=HD1.out.trans (if_pos c2');subst hz;have q:(e1 !=0)=true:=by simp[c2']
  clear c2';exact x2uc
 have c2':=Decidable.not_not.1 c2';subst c2';have hz:res=({d with got:=l1},0):=HD1.out.trans (if_neg (by decide));subst hz;have HL1:Hid (l1.length<=2513169434843):=qH (by have:=HLN.out rfl;omega);clear HLN HD1;go_wp2_with fail;refine bodyPost_ret (rC (devA {d with got:=l1} {L1 with ag:=A1,cg:=c2})) rfl ⟨{L1 with ag:=A1,cg:=c2},rfl,?_,?_⟩
 ·refine Fresh.imp (P:=fun v=>DvOwn v (w.heap.size+3) d L1∧GRow kChk v (w1.heap.size+1) l1 ds A1 c2) (Fresh.and (Fresh.kp HFR.out ?_ (by omega) (by first|omega|(simp<;>omega))) (Fresh.kp HGR.out ?_ (by omega) (by first|omega|(simp<;>omega)))) (fun v hv=>hv.1.devIn.hear HC1.out HL1.out (hv.2.src.chs HBD.out))
  ·exact x9su
  ·exact x9su
 exact bZ HB2
theorem devHear_calls(d:Dev)(L:DLoc)(x:Chk)(B:OA)(e:Nat)(w:World)(h:DevIn w d L)(hx:ChkIn w x B e):Calls Tryz.prog 102 #[.agg (devA d L),.agg (chkA x.from_ x.to_ x.n x.of_ B x.data.length e)] w (DvRet w (devHear d x).1 (devHear d x).2):=by
 by_cases hz:devReady d=0
 ·exact devHear_ok d L x B e w h hx hz
 have e1:devHear d x=(Dev.zero,devReady d):=by unfold devHear;rw[if_pos hz]
 rw[e1];exact devHear_bad d L x B e w h hx hz
