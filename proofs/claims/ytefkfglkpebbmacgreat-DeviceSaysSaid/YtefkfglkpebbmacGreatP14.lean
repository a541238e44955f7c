/- Walks of functions, and plain words. No conditions. -/
import Derived.Test.YtefkfglkpebbmacGreatP12
import Derived.Test.YtefkfglkpebbmacGreatP13
import Derived.Laws.EntriesVeiled
set_option linter.unusedVariables false
set_option linter.unusedSimpArgs false
set_option maxRecDepth 100000
set_option maxHeartbeats 40000000
namespace Go.Proofs.YtefkfglkpebbmacGreat
open Go.RowKit
variable {Y:Prop}
variable {w:World}
theorem x0bh(h:Y:=by
 go_wp2_with fail;go_ret;have hgg:=HG.out;have hs:=HB3.out.size;refine⟨ret_int hz.out.symm,?_⟩;repeat (first|exact HB3.out|refine bA ?_ _)):Y:=h
theorem x59w(h:Y:=by
 go_quiet (fail)
 go_wp2_with fail;go_meet
 case rel=>exact⟨by rw[hres],qH (below_drewN _ _)⟩):Y:=h
theorem x5lm(h:Y:=by
 go_wp2_with fail;go_ret;have hgg:=HG.out;have hs:=HB2.out.size;refine⟨ret_int hz.out.symm,?_⟩;repeat (first|exact HB2.out|refine bA ?_ _)):Y:=h
theorem x75b(h:Y:=by
 go_wp2_with fail;go_ret;have hgg:=HG.out;have hs:=HBA.out.size;refine⟨ret_int hz.out.symm,?_⟩;repeat (first|exact HBA.out|refine bA ?_ _)):Y:=h
theorem refPatSameZ_calls(p:Pat)(B:OA)(c:Nat)(w:World)(hp:PatIn w p B c):Calls Tryz.prog 23 #[.agg (patA p.from_ p.to_ p.old p.new_ p.size B p.ops.length c),.agg (patA 0 0 0 0 0 none 0 0)] w (RetB w (.bool (decide (p=Pat.zero)))):=
 refPatSameA_calls B none c 0 p.from_ p.to_ p.old p.new_ p.size 0 0 0 0 0 p.ops [] w hp.len (by simp) hp.ops (Sps.nil _ _)
theorem run_min64(n:Int)(w:World):(Builtin.min_ #[3,3] 3 #[iv 64,iv n]).run Tryz.prog w=.ok (iv (min 64 n)) w:=by
 by_cases h:n<(64:Int)
 ·have e:min 64 n=n:=by omega
  rw[e];go_simp<;>omega
 have e:min 64 n=64:=by omega
 rw[e];go_simp<;>omega
theorem refDevCheck_calls(d:Dev)(L:DLoc)(w:World)(h:DevIn w d L):Calls Tryz.prog 5 #[.agg (devA d L)] w (RetB w (iv (devCheck d))):=by
 have HIN:=qH h;clear h;obtain⟨n,hn⟩:=eX (devCheck d);rw[hn];have HN:=qH hn;clear hn;have HBA:=qH ((bW w).alloc nl (.cells (devA d L) 37));obtain⟨g,hg⟩:=eX (w.heap.size);have HG:=qH hg;clear hg;go_enter Tryz.func5,Tryz.ntmps5;by_cases l2:d.s0.length=64
 case neg=>
  have q1:((d.s0.length:Int) !=64)=true:=by simp;omega
  have hz:Hid (n=3):=qH (HN.out.symm.trans (devCheck_is_len (.inl l2)));clear l2;exact x75b
 have q7:((d.s0.length:Int) !=64)=false:=by simp;omega
 by_cases l1:d.s1.length=64
 case neg=>
  have q1:((d.s1.length:Int) !=64)=true:=by simp;omega
  have hz:Hid (n=3):=qH (HN.out.symm.trans (devCheck_is_len (.inr l1)));clear l1 l2;exact x75b
 have q1:((d.s1.length:Int) !=64)=false:=by simp;omega
 have HL2:=qH l2;have HL1:=qH l1;clear l2 l1;go_wp2_with fail;refine(refCopies_calls d.c0 d.c1 _).mono ?_;rintro e w1 ⟨rfl,hb⟩;have a0r:rowOf (w.alloc (.cells (devA d L) 37)) w.heap.size=devA d L:=by rw[rowOf_alloc,if_pos rfl]
 have a0f:frOf (w.alloc (.cells (devA d L) 37)) w.heap.size=(0,0):=by rw[frOf_alloc,if_pos rfl]
 have HB1:=bT HBA hb;rw[HG.out]at a0r a0f⊢;obtain⟨a0r,a0f,a0n,a0c,a0z,a0l⟩:=keep1 (g:=g) (cs:=devA d L) hb a0r (by go_simp) a0f;clear hb q7 q1 HBA;by_cases hc:copCheck d.c0 d.c1=0
 case neg=>
  have q:(copCheck d.c0 d.c1 !=0)=true:=by simp[hc]
  have hz:Hid (n=copCheck d.c0 d.c1):=qH (HN.out.symm.trans (devCheck_is_cop HL2.out HL1.out hc));generalize copCheck d.c0 d.c1=e1 at *
  clear hc;go_wp2_with fail;go_ret;have hgg:=HG.out;have hs:=HB1.out.size;refine⟨ret_int hz.out.symm,?_⟩;repeat (first|exact HB1.out|refine bA ?_ _)
 rw[hc];have HC:=qH hc;clear hc;go_upto_region 6 with fail
 obtain⟨idle,hidle⟩:∃b,decide (d.done=0∧d.job=Pat.zero)=b:=⟨_,rfl⟩;have HID:=qH hidle;clear hidle;go_cut [4] (fun v wx=>v=.bool idle∧Hid (Below w1.heap.size w1 wx))
 case first=>
  by_cases hd:d.done=0
  ·have q1:(d.done==0)=true:=by simp[hd]
   have hres:decide (d.job=Pat.zero)=idle:=by rw[<-HID.out];simp[hd]
   clear hd;go_wp2_with fail;refine(refPatSameZ_calls d.job L.aj L.cj w1 (HIN.out.job.stays HB1.out)).mono ?_;rintro e w2 ⟨rfl,hb⟩;rw[hres];have HB2:=qH hb;clear hb;go_wp2_with fail;go_meet
   case rel=>exact⟨rfl,HB2⟩
  have q1:(d.done==0)=false:=by simp[hd]
  have hres:idle=false:=by rw[<-HID.out];simp[hd]
  clear hd;exact x74k
 case rest=>
 obtain⟨rfl,hb⟩:=hcut;obtain⟨a0r,a0f,a0n,a0c,a0z,a0l⟩:=keep1 (g:=g) (cs:=devA d L) hb.out a0r (by go_simp) a0f;have HB2:=bT HB1 hb.out;clear hb HB1;have HIZ:Hid (idle=false->d.done≠0∨d.job≠Pat.zero):=qH (fun e=>by
  have:=HID.out;rw[e]at this;by_cases h1:d.done=0
  ·exact .inr (fun h2=>of_decide_eq_false this ⟨h1,h2⟩)
  exact .inl h1)
 have HIO:Hid (idle=true->d.done=0∧d.job=Pat.zero):=qH (fun e=>by have:=HID.out;rw[e]at this;exact of_decide_eq_true this);clear HID
 cases hu:d.up
 ·have E:=qH (HN.out.symm.trans (devCheck_is_off HL2.out HL1.out HC.out hu));by_cases c1:d.running=0
  ·have q1:(d.running !=0)=false:=by simp[c1]
   by_cases c2:d.got=[]
   ·have q2:decide ((0:Int)<(d.got.length:Int))=false:=by rw[c2];simp
    cases c3:d.busy
    ·cases c4:idle
     ·have hz:Hid (n=3):=qH (E.out.trans (if_pos (.inr (.inr (.inr (HIZ.out c4))))));clear c1;exact x5lm
     ·have hz:Hid (n=0):=qH (E.out.trans (if_neg (by rintro (h|h|h|h|h);exact h c1;exact h c2;rw[c3]at h;cases h;exact h (HIO.out c4).1;exact h (HIO.out c4).2)));clear c1;exact x5lm
    have hz:Hid (n=3):=qH (E.out.trans (if_pos (.inr (.inr (.inl c3)))));clear c1;exact x5lm
   have q2:decide ((0:Int)<(d.got.length:Int))=true:=decide_eq_true (by have:=List.length_pos_iff.2 c2;omega);have hz:Hid (n=3):=qH (E.out.trans (if_pos (.inr (.inl c2))));have c2n:0<d.got.length:=List.length_pos_iff.2 c2;clear c1;exact x5lm
  have q1:(d.running !=0)=true:=by simp[c1]
  have hz:Hid (n=3):=qH (E.out.trans (if_pos (.inl c1)));clear c1;exact x5lm
 have hact:=rec_active (recRead_ok HC.out);have hok:=recRead_ok HC.out;have hnw:=refNewest_ok HC.out;have KN:=qH (fun w=>newest_calls d.c0 d.c1 w);rw[hnw]at KN;have HIM:=qH (fun w h=>imageOf_calls d L w h HL2.out HL1.out HC.out);have hrec:(recRead d.c0 d.c1).1=d.rec_:=rfl;have E:=qH (HN.out.symm.trans (devCheck_is_up HL2.out HL1.out HC.out hu));rw[hrec]at KN hact hok E;obtain⟨rk,hrk⟩:=eX ((recRead d.c0 d.c1).2);rw[hrk]at KN;generalize d.rec_=r at *
 obtain⟨a,ha,ha1⟩:∃a:Nat,r.active=(a:Int)∧a<=1:=⟨r.active.toNat,by omega,by omega⟩;have HOK:=qH hok;have HA:=qH ha;clear hrec hrk hnw hok hact ha HN;go_wp2_with fail;refine(KN.out _).mono ?_;rintro e w2 ⟨rfl,hb⟩;obtain⟨a0r,a0f,a0n,a0c,a0z,a0l⟩:=keep1 (g:=g) (cs:=devA d L) hb a0r (by go_simp) a0f;have HB3:=bT HB2 hb;clear hb KN HB2;go_upto_region 12 with fail
 obtain⟨w4,hw1⟩:=eX (w2.alloc (.cells (recA r) 28));have hb:Below w2.heap.size w2 w4:=by rw[<-hw1];exact bL _
 have r0r:rowOf w4 w2.heap.size=recA r:=by rw[<-hw1,rowOf_alloc,if_pos rfl]
 have r0f:frOf w4 w2.heap.size=(0,0):=by rw[<-hw1,frOf_alloc,if_pos rfl]
 obtain⟨a0r,a0f,a0n,a0c,a0z,a0l⟩:=keep1 (g:=g) (cs:=devA d L) hb a0r (by go_simp) a0f;have HB2:=bT HB3 hb;rw[hw1];obtain⟨gr,hgr⟩:=eX (w2.heap.size);rw[hgr]at r0r r0f⊢;clear hw1 hb hgr HB3;obtain⟨r0r,r0f,r0n,r0c,r0z,r0l⟩:=keep1 (bW w4) r0r (by simp[recA]) r0f;go_cut [78] (fun v wx=>v=.bool (decide (d.running<0∨1<d.running∨(d.running≠r.active∧r.trying=false)))∧Hid (Below w4.heap.size w4 wx))
 case first=>
  by_cases c1:0<=d.running∧d.running<=1
  ·have KI:=qH (fun w=>refIn_t (n:=d.running) (a:=0) (b:=1) c1 w)
   cases c2:r.trying
   ·by_cases c3:d.running=r.active
    ·have q1:(d.running !=r.active)=false:=by simp[c3]
     have hres:decide (d.running<0∨1<d.running∨(d.running≠r.active∧r.trying=false))=false:=decide_eq_false (by rintro (h|h|h);omega;omega;exact h.1 c3);clear c1 c3;go_wp2_with fail;refine(KI.out _).mono ?_;rintro e w3 ⟨rfl,rfl⟩;exact x74k
    ·have q2:(d.running !=r.active)=true:=by simp[c3]
     have hres:decide (d.running<0∨1<d.running∨(d.running≠r.active∧r.trying=false))=true:=decide_eq_true (.inr (.inr ⟨c3,c2⟩));clear c1 c3;go_wp2_with fail;refine(KI.out _).mono ?_;rintro e w3 ⟨rfl,rfl⟩;exact x74k
   have hres:decide (d.running<0∨1<d.running∨(d.running≠r.active∧r.trying=false))=false:=decide_eq_false (by rintro (h|h|h);omega;omega;rw[c2]at h;cases h.2);clear c1;go_wp2_with fail;refine(KI.out _).mono ?_;rintro e w3 ⟨rfl,rfl⟩;exact x74k
  have KI:=qH (fun w=>refIn_f (n:=d.running) (a:=0) (b:=1) (by omega) w);have hres:decide (d.running<0∨1<d.running∨(d.running≠r.active∧r.trying=false))=true:=decide_eq_true (by omega);clear c1;go_wp2_with fail;refine(KI.out _).mono ?_;rintro e w3 ⟨rfl,rfl⟩;exact x74k
 case rest=>
 obtain⟨rfl,hb⟩:=hcut;obtain⟨a0r,a0f,a0n,a0c,a0z,a0l⟩:=keep1 (g:=g) (cs:=devA d L) hb.out a0r (by go_simp) a0f;obtain⟨r0r,r0f,r0n,r0c,r0z,r0l⟩:=keep1 (g:=gr) (cs:=recA r) hb.out r0r (by simp[recA]) r0f;have HB3:=bT HB2 hb.out;clear hb HB2;by_cases c1:d.running<0∨1<d.running∨(d.running≠r.active∧r.trying=false)
 ·have q:decide (d.running<0∨1<d.running∨(d.running≠r.active∧r.trying=false))=true:=decide_eq_true c1;have hz:Hid (n=2):=qH (E.out.trans (devUp_range c1));rw[q];clear c1 q;exact x0bh
 have q:decide (d.running<0∨1<d.running∨(d.running≠r.active∧r.trying=false))=false:=decide_eq_false c1;have HRG:=qH c1;rw[q];clear c1 q;go_wp2_with fail;refine(refChkList_calls L.ag L.cg d.got _ HIN.out.lg (HIN.out.got.stays HB3.out)).mono ?_;rintro e w3 ⟨rfl,hb⟩;obtain⟨a0r,a0f,a0n,a0c,a0z,a0l⟩:=keep1 (g:=g) (cs:=devA d L) hb a0r (by go_simp) a0f;obtain⟨r0r,r0f,r0n,r0c,r0z,r0l⟩:=keep1 (g:=gr) (cs:=recA r) hb r0r (by simp[recA]) r0f;have HB2:=bT HB3 hb;clear hb HB3;by_cases c1:chkList d.got=0
 case neg=>
  have q:(chkList d.got !=0)=true:=by simp[c1]
  have hz:Hid (n=chkList d.got):=qH (E.out.trans (devUp_list HRG.out c1));generalize chkList d.got=e1 at *
  clear c1;exact x5lm
 rw[c1];have HGT:=qH c1;clear c1
 cases c2:d.busy
 ·have E1:=qH (E.out.trans (devUp_idle HRG.out HGT.out c2))
  cases c4:idle
  ·have hz:Hid (n=3):=qH (E1.out.trans (if_pos (HIZ.out c4)));clear c4;exact x5lm
  have hz:Hid (n=0):=qH (E1.out.trans (if_neg (by rintro (h|h);exact h (HIO.out c4).1;exact h (HIO.out c4).2)));clear c4;exact x5lm
 have E1:=qH (E.out.trans (devUp_busy HRG.out HGT.out c2));clear E HRG HGT HIZ HIO;go_upto_region 21 with fail
 obtain⟨a',ha',ha2⟩:∃a':Nat,a+a'=1∧a'<=1:=⟨1-a,by omega,by omega⟩;have hsub:(1:Int)-(a:Int)=(a':Int):=by omega
 have hwr:IntKind.i64.wrap ((1:Int)-(a:Int))=(a':Int):=by rw[hsub];exact IntWalk.i64_in _ (by omega)
 obtain⟨bad,hbad⟩:∃b,decide (r.trying=true∨d.job.to_<r.floor∨d.job.from_≠(r.at_ r.active).ver∨(r.at_ (1-r.active)).ver≠0)=b:=⟨_,rfl⟩;have HBAD:=qH hbad;have hbad1:=hbad;rw[HA.out,hsub]at hbad1;have HBAD1:=qH hbad1;clear hbad hbad1;go_cut [121] (fun v wx=>v=.bool bad∧Hid (Below w3.heap.size w3 wx))
 case first=>
  have ha:=HA.out;have pv:=recA_ver r ha1;have pv1:=recA_ver r ha2;have z1:=(at_sizes HOK.out (a':Int)).2.2;have k1:(0:Int)<=(a:Int):=by omega
  have k2:(a:Int)<2:=by omega
  have k3:¬(2:Int)<=(a:Int):=by omega
  have k4:(0:Int)<=(a':Int):=by omega
  have k5:(a':Int)<2:=by omega
  have k6:¬(2:Int)<=(a':Int):=by omega
  clear HBAD
  cases c3:r.trying
  ·by_cases c1:d.job.to_<r.floor
   ·have hres:bad=true:=by rw[<-HBAD1.out];exact decide_eq_true (.inr (.inl c1))
    have q1:decide (d.job.to_<r.floor)=true:=decide_eq_true c1;clear c1 pv pv1;exact x59w
   ·have q2:decide (d.job.to_<r.floor)=false:=decide_eq_false c1;generalize (r.at_ (a:Int)).ver=x1 at *
    generalize (r.at_ (a':Int)).ver=x2 at *
    by_cases c2:d.job.from_=x1
    ·have q1:(d.job.from_ !=x1)=false:=by simp[c2]
     by_cases c4:x2=0
     ·have hres:bad=false:=by rw[<-HBAD1.out];exact decide_eq_false (by rintro (h|h|h|h);rw[c3]at h;cases h;exact c1 h;exact h c2;exact h c4)
      have q3:decide (0<x2)=false:=decide_eq_false (by omega);clear c1 c2 c4;exact x59w
     have hres:bad=true:=by rw[<-HBAD1.out];exact decide_eq_true (.inr (.inr (.inr c4)))
     have q3:decide (0<x2)=true:=decide_eq_true (by omega);clear c1 c2 c4;exact x59w
    have q1:(d.job.from_ !=x1)=true:=by simp[c2]
    have hres:bad=true:=by rw[<-HBAD1.out];exact decide_eq_true (.inr (.inr (.inl c2)))
    clear c1 c2 pv1;exact x59w
  have hres:bad=true:=by rw[<-HBAD1.out];exact decide_eq_true (.inl c3)
  clear pv pv1;exact x59w
 case rest=>
 obtain⟨rfl,hb⟩:=hcut;obtain⟨a0r,a0f,a0n,a0c,a0z,a0l⟩:=keep1 (g:=g) (cs:=devA d L) hb.out a0r (by go_simp) a0f;obtain⟨r0r,r0f,r0n,r0c,r0z,r0l⟩:=keep1 (g:=gr) (cs:=recA r) hb.out r0r (by simp[recA]) r0f;have HB3:=bT HB2 hb.out;clear hb HB2 HBAD1
 cases hbd:bad
 case true=>
  have hz:Hid (n=3):=qH (E1.out.trans (devBusy_form (of_decide_eq_true (HBAD.out.trans hbd))));clear hbd;exact x0bh
 have hnf:=of_decide_eq_false (HBAD.out.trans hbd);have hrest:=E1.out.trans (devBusy_rest hnf);clear hbd HBAD E1 hnf;obtain⟨img,himg⟩:=eX (d.image r.active r);rw[himg]at hrest HIM;have hil:img.length<=64:=by
  exact x0wh
 rw[HA.out,hsub]at hrest;have hpok:=@patDo_ok (sumOn 1) d.job img;obtain⟨⟨b,en⟩,hpd⟩:∃x,patDo (sumOn 1) d.job img=x:=⟨_,rfl⟩;rw[hpd]at hrest hpok;have HBL:Hid (en=0->b.length<=64∧(b.length:Int)=d.job.size∧d.job.size<=64):=qH (fun e=>by
  exact x2v6)
 dsimp only at hrest;have HR1:=qH hrest;have HPD:=qH hpd;clear hrest hpok hpd himg hsub;have RD:Hid (rowOf wc g=devA d L):=qH a0r;have FD:Hid (frOf wc g=(0,0)):=qH a0f;have KI:Hid (∀wq,Below wc.heap.size wc wq->Calls Tryz.prog 28 #[.agg (devA d L)] wq (ImRet wq img)):=qH (fun wq h=>HIM.out wq ((HIN.out.stays HB3.out).stays h));have KD:Hid (∀wq A c,Below wc.heap.size wc wq->img.length<=c->Bts wq A img->Calls Tryz.prog 27 #[.agg (patA d.job.from_ d.job.to_ d.job.old d.job.new_ d.job.size L.aj d.job.ops.length L.cj),.slice A img.length c] wq (ByRet2 wq b en)):=qH (fun wq A c h hc hb=>by
  have hq:=refDone_calls L.aj A L.cj c d.job img wq hc (by omega) hb ((HIN.out.job.stays HB3.out).stays h);rw[HPD.out]at hq;exact hq)
 go_wp2_with fail;have hq1:=fun v (h:Below wc.heap.size wc v)=>keep1 h RD.out (by go_simp) FD.out
 go_region_held3 (fun v=>Below wc.heap.size wc v) (first|exact hbb|exact(Below.refl _ _).drew)
  (first
    |(go_at_call 28;refine(KI.out _ (by assumption)).mono ?_;rintro e wj ⟨Aj,cj,rfl,h3,h4,h5⟩;have hbb:=(bW wc).drew.trans (h5.mono (by simp)))
    |(go_at_call 27;refine(KD.out _ _ _ (by assumption) h3 h4).mono ?_;rintro e w8 ⟨A2,c2',rfl,g1,g2,g9⟩;have hbb:=hbb.trans (g9.mono hbb.size)))
 have g3:=hbb;clear hbb g9 h3 h4 h5 hq1;obtain⟨a0r,a0f,a0n,a0c,a0z,a0l⟩:=keep1 (g:=g) (cs:=devA d L) g3 a0r (by go_simp) a0f;obtain⟨r0r,r0f,r0n,r0c,r0z,r0l⟩:=keep1 (g:=gr) (cs:=recA r) g3 r0r (by simp[recA]) r0f;have HB2:Hid (Below w.heap.size w w8):=qH (HB3.out.trans (g3.mono HB3.out.size));have HBB:=qH g1;have HC1:=qH g2;clear g1 g2 g3 KI KD RD FD HIM HB3 HPD;by_cases c1:en=0
 case neg=>
  have q:(en !=0)=true:=by simp[c1]
  have hz:Hid (n=en):=qH (HR1.out.trans (if_pos c1));clear c1;exact x5lm
 subst c1;obtain⟨b1,b2,b3⟩:=HBL.out rfl;have HR2:=qH (HR1.out.trans (if_neg (by decide)));have hw1:IntKind.i64.wrap (d.job.size+7)=d.job.size+7:=IntWalk.i64_in _ (by omega);have hmn:=run_min64 (d.job.size+7);have HSZ:=qH b3;have HB1:=qH b1;clear HR1 HBL b2;go_upto_region 26 with fail
 obtain⟨bad1,hbad1⟩:∃b,decide (d.done<0∨64<d.done∨d.done%8≠0∨d.job.size+8<=d.done)=b:=⟨_,rfl⟩;have HBAD:=qH hbad1;clear hbad1 b1 b3;go_cut [147] (fun v wx=>v=.bool bad1∧Hid (Below w8.heap.size w8 wx))
 case first=>
  have hsz:=HSZ.out;by_cases c1:0<=d.done∧d.done<=min 64 (d.job.size+7)
  ·have KI:=qH (fun w=>refIn_t (n:=d.done) (a:=0) (b:=min 64 (d.job.size+7)) c1 w);have hmod:d.done.tmod 8=d.done%8:=Int.tmod_eq_emod_of_nonneg c1.1;by_cases c2:d.done%8=0
   ·have q1:(d.done.tmod 8 !=0)=false:=by rw[hmod];simp[c2]
    have hres:bad1=false:=by rw[<-HBAD.out];exact decide_eq_false (by omega)
    clear c1 c2 hmod hsz;go_wp2_with fail;refine(KI.out _).mono ?_;rintro e w5 ⟨rfl,rfl⟩;exact x74k
   have q1:(d.done.tmod 8 !=0)=true:=by rw[hmod];simp[c2]
   have hres:bad1=true:=by rw[<-HBAD.out];exact decide_eq_true (.inr (.inr (.inl c2)))
   clear c1 c2 hmod hsz;go_wp2_with fail;refine(KI.out _).mono ?_;rintro e w5 ⟨rfl,rfl⟩;exact x74k
  have KI:=qH (fun w=>refIn_f (n:=d.done) (a:=0) (b:=min 64 (d.job.size+7)) (by omega) w);have hres:bad1=true:=by rw[<-HBAD.out];exact decide_eq_true (by omega)
  clear c1 hsz;go_wp2_with fail;refine(KI.out _).mono ?_;rintro e w5 ⟨rfl,rfl⟩;exact x74k
 case rest=>
 obtain⟨rfl,hb⟩:=hcut;obtain⟨a0r,a0f,a0n,a0c,a0z,a0l⟩:=keep1 (g:=g) (cs:=devA d L) hb.out a0r (by go_simp) a0f;obtain⟨r0r,r0f,r0n,r0c,r0z,r0l⟩:=keep1 (g:=gr) (cs:=recA r) hb.out r0r (by simp[recA]) r0f;have HB3:=bT HB2 hb.out;have HBB:=qH (HBB.out.stays hb.out);clear hb HB2 hw1 hmn
 cases hbd:bad1
 case true=>
  have hz:Hid (n=2):=qH (HR2.out.trans (if_pos (of_decide_eq_true (HBAD.out.trans hbd))));clear hbd;exact x0bh
 have hnb:=of_decide_eq_false (HBAD.out.trans hbd);have HR1:=qH (HR2.out.trans (if_neg hnb));obtain⟨dn',hdn⟩:∃dn':Nat,d.done=(dn':Int):=⟨d.done.toNat,by omega⟩;have hdt:d.done.toNat=dn':=by omega
 rw[hdt]at HR1;have hd1:dn'<=64:=by omega
 have HDN:=qH hdn;clear hbd HBAD HR2 hnb hdt;have hsl:=slot_len HL2.out HL1.out (a':Int);obtain⟨A1,c2,p1,p2,p3⟩:=devSlotA (HIN.out.stays HB3.out) ha2;generalize d.slot (a':Int)=sl at *
 have HP1:=qH p1;have HX:=qH p3;obtain⟨bx,ox,hax,-⟩:=p3 0 (by omega);have HSL:=qH (pre_slice (A:=A1) (n:=sl.length) (c:=c2) dn' hdn p2 (by omega) (by omega) ⟨bx,ox,hax⟩);have hrl:=room_len HB1.out;obtain⟨eq,heq⟩:=eX (decide (sl.take dn'=(room b).take dn'));have hlt1:(sl.take dn').length=dn':=by rw[List.length_take,hsl];omega
 have hlt2:((room b).take dn').length=dn':=by rw[List.length_take,hrl];omega
 have KQ:Hid (∀wq A c,Below wc.heap.size wc wq->dn'<=c->Bts wq A ((room b).take dn')->Calls Tryz.prog 29 #[.slice A1 dn' c2,.slice A dn' c] wq (RetB wq (.bool eq))):=qH (fun wq A c h hc hb=>by
  have hq:=(bytesEqual_calls A1 A c2 c (sl.take dn') ((room b).take dn') wq (by omega) (by omega) (mid_take (HX.out.stays h) dn') hb).mono (fun _ _ h=>h.to);rw[heq,hlt1,hlt2]at hq;exact hq)
 have HQ:=qH heq;have HRL:=qH hrl;obtain⟨rb,hrb⟩:=eX (room b);rw[hrb]at KQ HQ HRL HR1;have HRB:=qH hrb;have HKS:Hid ((0:Int)<=(a':Int)∧(a':Int)<2∧¬(2:Int)<=(a':Int)∧IntKind.i64.wrap ((1:Int)-(a:Int))=(a':Int)):=qH ⟨by omega,by omega,by omega,hwr⟩;clear hsl p1 p2 p3 hax hrl heq hlt1 hlt2 hrb hwr hdn;go_wp2_with fail;have RD:Hid (rowOf wc g=devA d L):=qH a0r;have FD:Hid (frOf wc g=(0,0)):=qH a0f;have RR:Hid (rowOf wc gr=recA r):=qH r0r;have FR:Hid (frOf wc gr=(0,0)):=qH r0f;refine wp_region_mix (by kernel_rfl) (some 148::some 149::some 150::some 151::some 152::some 153::some 154::some 155::some 156::some 157::some 158::some 159::some 160::some 161::some 162::some 163::[]) (none::none::none::none::none::none::none::none::none::none::some 0::none::none::some 1::some 2::some 3::[]) (.pointer (some ⟨gr,1,none⟩)::iv (a:Int)::iv (a':Int)::.pointer (some ⟨g,0,none⟩)::.pointer (some ⟨g,a',none⟩)::.slice A1 sl.length c2::.pointer (some ⟨g,36,none⟩)::iv d.done::.slice A1 dn' c2::.slice A2 b.length c2'::undef::.pointer (some ⟨g,36,none⟩)::iv d.done::undef::undef::undef::[]) 4 (rmJ wc rb dn' eq) 164 rfl rfl (by decide+kernel) (by decide+kernel) (by decide+kernel) (by decide+kernel) rfl rfl (by decide+kernel) (by decide+kernel) (rfl) ?_ ?_
 ·refine⟨?_,?_,?_,?_,?_,?_,?_,?_,?_,?_,?_,?_,?_,?_,?_,?_,trivial⟩
  ·exact x1xc
  ·intro done cv k2 a wq hw h hJ hn;have e1:=mN 0 148 h hw;exact x0t0
  ·intro done cv k1 a wq hw h hJ hn;have e1:=mN 1 149 h hw;exact x2qu
  ·exact x4wi
  ·intro done cv k1 a wq hw h hJ hn;have e1:=mN 3 151 h hw;have e150:=mN 2 150 h hw;exact x2qu
  ·intro done cv k2 a wq hw h hJ hn;have e1:=mN 4 152 h hw;have y_:=kq (rmJ_bel hJ) RD FD;have e_:=HP1.out;go_simp
  ·exact x4qs
  ·intro done cv k2 a wq hw h hJ hn;have e1:=mN 6 154 h hw;exact x8u2
  ·intro done cv k1 a wq hw h hJ hn;have e1:=mN 5 153 h hw;have e155:=mN 7 155 h hw;have hs_:=HSL.out;go_simp
  ·intro done cv k2 a wq hw h hJ hn;have e1:=mO 8 (.slice A2 b.length c2') h;exact mx_move (ch_ev e1)
  ·intro done cv a wq hw h hJ;have e1:=mN 9 157 h hw;obtain rfl:wq=wc.drew:=hJ;refine wp_call (vals:=#[.slice A2 b.length c2']) (by rw[List.map_toArray,List.map_cons,List.map_nil,ch_ev e1]) (enters_of Tryz.func30 (by kernel_rfl) rfl _ _) (filled_calls A2 c2' b _ HB1.out (HBB.out.stays (Below.refl _ _).drew)) ?_;rintro e w' ⟨A2,c3,rfl,hown,hbel⟩;rw[HRB.out]at hown⊢;exact⟨_,rfl,_,rfl,A2,c3,by simp,hown.src.bts,hown.le,(Below.refl _ _).drew.trans hbel⟩
  ·exact x4qs
  ·intro done cv k2 a wq hw h hJ hn;have e1:=mN 11 159 h hw;exact x8u2
  ·intro done cv a wq hw h hJ;have e1:=mx_cv (i:=10) (t:=158) h (hw 10 (by decide)) rfl rfl;have e160:=mN 12 160 h hw;obtain⟨A2,c3,y1,g1,g2,g3⟩:=hJ;rw[y1]at e1;obtain⟨by_,oy_,hay,-⟩:=g1 0 (by rw[HRL.out];omega);have hs_:=pre_slice (z:=d.done) dn' HDN.out g2 (by rw[HRL.out];omega) (by rw[HRL.out];omega) ⟨by_,oy_,hay⟩;clear hay;refine wp_val (v:=.slice A2 dn' c3) (by go_simp) ⟨_,rfl,A2,c3,by simp,mid_take g1 dn',by rw[HRL.out]at g2;omega,g3⟩
  ·intro done cv a wq hw h hJ;have e1:=mN 8 156 h hw;have e161:=mx_cv (i:=13) (t:=161) h (hw 13 (by decide)) rfl rfl;obtain⟨A2,c3,y1,g1,g2,g3⟩:=hJ;rw[y1]at e161;refine wp_call (vals:=#[.slice A1 dn' c2,.slice A2 dn' c3]) (by rw[List.map_toArray,List.map_cons,List.map_cons,List.map_nil,ch_ev e1,ch_ev e161]) (enters_of Tryz.func29 (by kernel_rfl) rfl _ _) (KQ.out _ _ _ g3 g2 g1) ?_;rintro e w' ⟨rfl,hbel⟩;exact⟨_,rfl,_,rfl,by simp,g3.trans (hbel.mono g3.size)⟩
  ·intro done cv a wq hw h hJ;have e1:=mx_cv (i:=14) (t:=162) h (hw 14 (by decide)) rfl rfl;exact x8jo
 intro cv1 w5 hJ;obtain⟨y1,hb⟩:=hJ;simp only[mixAll,putAll_some,putAll_none,putAll_nil,List.getElem?_cons_zero,List.getElem?_cons_succ,Nat.zero_add,Nat.reduceAdd,List.setIfInBounds_toArray,List.set_cons_zero,List.set_cons_succ];rw[y1];have HB2:=bT HB3 hb;clear hb y1
 cases eq
 ·have hz:Hid (n=3):=qH (HR1.out.trans (if_pos (by have:=HQ.out;simpa using this)));exact x5lm
 have hz:Hid (n=0):=qH (HR1.out.trans (if_neg (by have:=HQ.out;simpa using this)));exact x5lm
theorem big_infs'(n:Nat)(h:0<n):bigBuild Tryz.prog 26 n:=by
 obtain⟨i,hi,_⟩:=info_parts (P:=Tryz.prog) (e:=26) (z:=.agg (infsA Inf.zero Inf.zero)) (size:=6) (bytes:=48) (by kernel_rfl);exact⟨i,hi,h⟩
theorem big_rec'(n:Nat)(h:0<n):bigBuild Tryz.prog 28 n:=by
 exact x0tr
theorem big_cops'(n:Nat)(h:0<n):bigBuild Tryz.prog 31 n:=by
 obtain⟨i,hi,_⟩:=info_parts (P:=Tryz.prog) (e:=31) (z:=.agg (copsA Cop.zero Cop.zero)) (size:=24) (bytes:=192) (by kernel_rfl);exact⟨i,hi,h⟩
@[go_sem] theorem big_infs1:bigBuild Tryz.prog 26 1:=big_infs' 1 (by decide)
@[go_sem] theorem big_rec3:bigBuild Tryz.prog 28 3:=big_rec' 3 (by decide)
@[go_sem] theorem big_rec4:bigBuild Tryz.prog 28 4:=big_rec' 4 (by decide)
@[go_sem] theorem big_cops1:bigBuild Tryz.prog 31 1:=big_cops' 1 (by decide)
@[go_sem] theorem big_cops2:bigBuild Tryz.prog 31 2:=big_cops' 2 (by decide)
@[go_sem] theorem build_inf1(a:Int)(w:World):runBuild Tryz.prog 25 #[(0,iv a)] w=.ok (.agg (infA ⟨a,0,0⟩)) w:=by kernel_rfl
@[go_sem] theorem build_infs1(x:Inf)(w:World):runBuild Tryz.prog 26 #[(0,.agg (infA x))] w=.ok (.agg (infsA x Inf.zero)) w:=by kernel_rfl
@[go_sem] theorem build_infs2(x y:Inf)(w:World):runBuild Tryz.prog 26 #[(0,.agg (infA x)),(1,.agg (infA y))] w=.ok (.agg (infsA x y)) w:=by kernel_rfl
@[go_sem] theorem build_rec3(g f:Int)(x y:Inf)(w:World):runBuild Tryz.prog 28 #[(0,iv g),(4,iv f),(5,.agg (infsA x y))] w=.ok (.agg (recA ⟨g,0,false,0,f,x,y⟩)) w:=by kernel_rfl
@[go_sem] theorem build_rec4(g k f:Int)(x y:Inf)(w:World):runBuild Tryz.prog 28 #[(0,iv g),(1,iv k),(4,iv f),(5,.agg (infsA x y))] w=.ok (.agg (recA ⟨g,k,false,0,f,x,y⟩)) w:=by kernel_rfl
@[go_sem] theorem build_cops1(c:Cop)(w:World):runBuild Tryz.prog 31 #[(0,.agg (copA c))] w=.ok (.agg (copsA c Cop.zero)) w:=by kernel_rfl
@[go_sem] theorem build_cops2(c d:Cop)(w:World):runBuild Tryz.prog 31 #[(0,.agg (copA c)),(1,.agg (copA d))] w=.ok (.agg (copsA c d)) w:=by kernel_rfl
theorem confirmed_calls(r:Rec)(w:World)(ha:0<=r.active∧r.active<=1):Calls Tryz.prog 58 #[.agg (recA r)] w (RetB w (.agg (recA (recDone r)))):=by
 go_enter Tryz.func58,Tryz.ntmps58;have hk:r.active=0∨r.active=1:=by omega
 obtain⟨ha1,ha2⟩:=ha;rcases hk with hk|hk
 ·have HE:=qH (show recDone r=(⟨r.gen,1,false,0,max r.floor r.b.ver,r.a,r.b⟩:Rec) by unfold recDone Rec.at_;simp[hk]);go_wp2_with fail;go_region
  all_goals go_wp2_with fail
  all_goals (
   refine bodyPost_ret (results_c rfl rfl (cs:=recA ⟨r.gen,1,false,0,max r.floor r.b.ver,r.a,r.b⟩) (by go_simp<;>(refine congrArg (fun z=>recA ⟨_,_,_,_,z,_,_⟩) ?_;omega)) (by go_simp) (by go_simp)) rfl ⟨by rw[HE.out],?_⟩;exact x8od)
 have HE:=qH (show recDone r=(⟨r.gen,0,false,0,max r.floor r.a.ver,r.a,r.b⟩:Rec) by unfold recDone Rec.at_;simp[hk]);go_wp2_with fail;go_region
 all_goals go_wp2_with fail
 all_goals (
  refine bodyPost_ret (results_c rfl rfl (cs:=recA ⟨r.gen,0,false,0,max r.floor r.a.ver,r.a,r.b⟩) (by go_simp<;>(refine congrArg (fun z=>recA ⟨_,_,_,_,z,_,_⟩) ?_;omega)) (by go_simp) (by go_simp)) rfl ⟨by rw[HE.out],?_⟩;exact x8od)
theorem written_calls(c d:Cop)(r:Rec)(torn:Bool)(w:World)(h:copCheck c d=0):Calls Tryz.prog 53 #[.agg (copsA c d),.agg (recA r),.bool torn] w
  (RetB w (.tuple #[.agg (copsA (recWrite c d r torn).1.1 (recWrite c d r torn).1.2),iv (recWrite c d r torn).2])):=by
 have hrg:=recCheck_range0 (recRead_ok h);have hk:(recRead c d).2=0∨(recRead c d).2=1:=by unfold recRead;split<;>simp
 have hw:recWrite c d r torn=if recCheck {r with gen:=(recRead c d).1.gen+1}=0 then (recPut c d r torn,0)else ((Cop.zero,Cop.zero),recCheck {r with gen:=(recRead c d).1.gen+1}):=by unfold recWrite;rw[if_pos h]
 have hp:recPut c d r torn=if (recRead c d).2=0 then (c,if torn=true then Cop.zero else ⟨true,{r with gen:=(recRead c d).1.gen+1}⟩)else (if torn=true then Cop.zero else ⟨true,{r with gen:=(recRead c d).1.gen+1}⟩,d):=rfl
 have hread:=newest_calls c d;rw[refNewest_ok h]at hread;generalize recRead c d=q at *
 obtain⟨was,k⟩:=q;simp only at hk hw hp hread hrg;have HW:=qH hw;have HP:=qH hp;have HRd:=qH hread;have hg1:=hrg.1;have hg1:=hrg.2.1;clear hw hp hread hrg h;go_enter Tryz.func53,Tryz.ntmps53;go_wp2_with fail;refine(HRd.out _).mono ?_;rintro e w1 ⟨rfl,hb1⟩;have r3:=keep1 (g:=w.heap.size) (cs:=copsA c d) hb1 (by go_simp) (by go_simp) (by go_simp);have r1:=keep1 (g:=w.heap.size+1) (cs:=recA r) hb1 (by go_simp) (by go_simp) (by go_simp);have r2:=keep1 (g:=w.heap.size+1+1) (cs:=copsA Cop.zero Cop.zero) hb1 (by go_simp) (by go_simp) (by go_simp);have HB:=qH ((((bL _).alloc (by simp) _).alloc (by simp;omega) _).trans (hb1.mono (B':=w.heap.size) (by simp;omega)));clear hb1;go_wp2_with fail;refine(refRecCheck_calls {r with gen:=was.gen+1} _).mono ?_;rintro e w1 ⟨rfl,hb1⟩;have r4:=keep1 (g:=w.heap.size) (cs:=copsA c d) hb1 (by go_simp) (by go_simp) (by go_simp);have r4:=keep1 (g:=w.heap.size+1) (cs:=recA {r with gen:=was.gen+1}) hb1 (by go_simp) (by go_simp) (by go_simp);have r4:=keep1 (g:=w.heap.size+1+1) (cs:=copsA Cop.zero Cop.zero) hb1 (by go_simp) (by go_simp) (by go_simp);have hs:=HB.out.size;have HB1:Hid (Below w.heap.size w w1):=((HB.out.setCell (p:=⟨w.heap.size+1,0,none⟩) (by simp) (iv (was.gen+1))).alloc (by simp;omega) (.cells (recA was) 28)).trans (hb1.mono (by simp;omega));have hs1:=HB1.out.size;clear hb1 r3 r1 r2 hs;by_cases hz:recCheck {r with gen:=was.gen+1}=0
 ·have hz':(recCheck {r with gen:=was.gen+1} !=0)=false:=by simp[hz]
  have HE:=qH (HW.out.trans (if_pos hz));clear hz HW;rcases hk with rfl|rfl
  ·have HP1:=qH (HP.out.trans (if_pos rfl))
   cases torn
   ·go_wp2_with fail;refine bodyPost_ret (rC (copsA c ⟨true,{r with gen:=was.gen+1}⟩)) rfl ⟨by rw[HE.out,HP1.out];rfl,?_⟩;exact x0ap
   go_wp2_with fail;refine bodyPost_ret (rC (copsA c Cop.zero)) rfl ⟨by rw[HE.out,HP1.out];rfl,?_⟩;exact x0ap
  have HP1:=qH (HP.out.trans (if_neg (by decide)))
  cases torn
  ·go_wp2_with fail;refine bodyPost_ret (rC (copsA ⟨true,{r with gen:=was.gen+1}⟩ d)) rfl ⟨by rw[HE.out,HP1.out];rfl,?_⟩;exact x0ap
  go_wp2_with fail;refine bodyPost_ret (rC (copsA Cop.zero d)) rfl ⟨by rw[HE.out,HP1.out];rfl,?_⟩;exact x0ap
 have hz':(recCheck {r with gen:=was.gen+1} !=0)=true:=by simp[hz]
 have HE:=qH (HW.out.trans (if_neg hz));clear hz HW HP hk;go_wp2_with fail;refine bodyPost_ret (rC (copsA Cop.zero Cop.zero)) rfl ⟨by rw[HE.out];rfl,?_⟩;exact x0ap
@[go_sem] theorem build_devF(a b:OA)(c e:Nat)(x y:LU)(p q:Cop)(w:World):runBuild Tryz.prog 37 #[(2,.bool true),(0,.agg (slotsA a x.length c b y.length e)),(1,.agg (copsA p q))] w=.ok (.agg (devA ⟨x,y,p,q,true,0,[],false,Pat.zero,0⟩ ⟨a,c,b,e,none,0,none,0⟩)) w:=by kernel_rfl
@[go_sem] theorem big_dev3F:bigBuild Tryz.prog 37 3:=big_dev' 3 (by decide)
def FdRet(w:World)(d:Dev):Ending->World->Prop:=fun en w'=>∃L,en=.returned (.agg (devA d L))∧Fresh w.heap.size w' (fun v=>DevIn v d L)∧Below w.heap.size w w'
theorem refFresh_calls(A:OA)(c:Nat)(b:LU)(w:World)(hl:b.length<=64)(hB:Bts w A b):Calls Tryz.prog 10 #[.slice A b.length c] w (FdRet w (newDev b)):=by
 have HBA:=qH ((bW w).alloc nl (.cells (devA Dev.zero DLoc.zero) 37));have HB:=qH hB;have KR:=qH (fun w h=>filled_calls A c b w hl h);have KN:=qH (fun w=>filled_calls none 0 [] w (by simp) (bts_nil w none));have KS:=qH (fun w h=>refSumOf_calls A c b w (by omega) h);have HRL:Hid ((room b).length=64∧(room []).length=64):=qH ⟨room_len hl,room_len (by simp)⟩;obtain⟨s,hs⟩:=eX (sumOn 1 b);rw[hs]at KS;obtain⟨rb,hrb⟩:=eX (room b);obtain⟨rn,hrn⟩:=eX (room []);rw[hrb]at KR HRL;rw[hrn]at KN HRL;have hnd:newDev b=⟨rb,rn,⟨true,⟨1,0,false,0,1,⟨1,b.length,s⟩,Inf.zero⟩⟩,Cop.zero,true,0,[],false,Pat.zero,0⟩:=by unfold newDev;rw[hrb,hrn,hs]
 rw[hnd];clear hnd hs hrb hrn hl hB;go_enter Tryz.func10,Tryz.ntmps10;go_wp2_with fail;refine(KR.out _ (HB.out.stays HBA.out)).mono ?_;rintro e w1 ⟨A1,c1,rfl,ho1,hb⟩;have a1:=kp (w.heap.size) (devA Dev.zero DLoc.zero) hb;have HB1:=bT HBA hb;have HO1:=qH ho1;have hs1:w.heap.size+1<=w1.heap.size:=by have:=hb.size;simpa using this
 clear hb ho1;go_wp2_with fail;refine(KN.out _).mono ?_;rintro e w2 ⟨A2,c2,rfl,ho1,hb⟩;have a1:=kr a1 hb;have HB2:=bT HB1 hb;have HX:Hid ((∀v:World,(∀k,w.heap.size+1<=k->k<w2.heap.size->v.heap[k]?=w2.heap[k]?)->Bts v A1 rb∧Bts v A2 rn)∧rb.length<=c1∧rn.length<=c2):=qH ⟨fun v hv=>⟨HO1.out.fresh v (fun k h1 h2=>(hv k (by simpa using h1) (by have:=hb.size;omega)).trans (hb.block k h2)),ho1.fresh v (fun k h1 h2=>hv k (by omega) h2)⟩,HO1.out.le,ho1.le⟩;clear hb ho1 HO1;go_wp2_with fail;refine(KS.out _ (HB.out.stays HB2.out)).mono ?_;rintro e w3 ⟨rfl,rfl⟩;go_wp2_with fail;refine bodyPost_ret (results_c rfl rfl (cs:=devA ⟨rb,rn,⟨true,⟨1,0,false,0,1,⟨1,b.length,s⟩,Inf.zero⟩⟩,Cop.zero,true,0,[],false,Pat.zero,0⟩ ⟨A1,c1,A2,c2,none,0,none,0⟩) (by go_simp;first|rfl|done) (by go_simp) (by go_simp)) rfl ⟨⟨A1,c1,A2,c2,none,0,none,0⟩,rfl,?_,?_⟩
 ·have hin:∀v,Bts v A1 rb->Bts v A2 rn->DevIn v ⟨rb,rn,⟨true,⟨1,0,false,0,1,⟨1,b.length,s⟩,Inf.zero⟩⟩,Cop.zero,true,0,[],false,Pat.zero,0⟩ ⟨A1,c1,A2,c2,none,0,none,0⟩:=fun v h1 h2=>⟨HX.out.2.1,by show rb.length<=_;rw[HRL.out.1];decide,h1,HX.out.2.2,by show rn.length<=_;rw[HRL.out.2];decide,h2,nl,Nat.zero_le _,Chs.nil _ _,pat_in_zero v,⟨by show -9223372036854775808<=(0:Int);omega,by show (0:Int)<=9223372036854775807;omega⟩,⟨by show -9223372036854775808<=(0:Int);omega,by show (0:Int)<=9223372036854775807;omega⟩⟩;intro v hv;obtain⟨h1,h2⟩:=HX.out.1 v (fun k h1 h2=>(hv k (by omega) (by simp[World.setRow];omega)).trans (setRow_other _ _ _ _ (by omega)));exact hin v h1 h2
 exact bZ HB2
def On(S:Nat->Prop)(w:World)(P:World->Prop):Prop:=∀v:World,Below 0 w v->(∀k,S k->k<w.heap.size->v.heap[k]?=w.heap[k]?)->P v
section
variable {S T:Nat->Prop} {w w':World} {P Q:World->Prop}
theorem On.now(h:On S w P):P w:=h w (Below.refl _ _) fun _ _ _=>rfl
theorem On.below(h:On S w P)(hb:Below w.heap.size w w'):On S w' P:=fun v h1 h2=>h v ((hb.mono (Nat.zero_le _)).trans h1) fun k hk hlt=>(h2 k hk (Nat.lt_of_lt_of_le hlt hb.size)).trans (hb.block k hlt)
theorem On.at_(h:On S w P)(hb:Below w.heap.size w w'):P w':=(h.below hb).now
theorem On.sub(h:On S w P)(hs:∀k,k<w.heap.size->S k->T k):On T w P:=fun v h1 h2=>h v h1 fun k hk hlt=>h2 k (hs k hlt hk) hlt
theorem On.imp(h:On S w P)(hq:∀v,P v->Q v):On S w Q:=fun v h1 h2=>hq v (h v h1 h2)
theorem On.and(h:On S w P)(g:On S w Q):On S w (fun v=>P v∧Q v):=fun v h1 h2=>⟨h v h1 h2,g v h1 h2⟩
theorem below0_row(w:World)(g:Nat)(cs:Array Value):Below 0 w (w.setRow g cs):=below_row (Below.refl _ _) (Nat.zero_le _) cs
theorem On.row(h:On S w P){g:Nat}(hg:¬S g)(cs:Array Value):On S (w.setRow g cs) P:=fun v h1 h2=>h v ((below0_row w g cs).trans h1) fun k hk hlt=>
 (h2 k hk (by simpa[World.setRow]using hlt)).trans (setRow_other _ _ _ _ (fun e=>hg (e▸hk)))
theorem On.cell(h:On S w P){p:Addr}(hg:¬S p.block)(u:Value):On S (w.setCell p u) P:=fun v h1 h2=>h v (((Below.refl 0 w).setCell (Nat.zero_le _) u).trans h1) fun k hk hlt=>
 (h2 k hk (by simpa using hlt)).trans (Below.heap_setCell _ _ _ _ (fun e=>hg (e▸hk)))
theorem On.of(hP:∀v,Below w.heap.size w v->P v):On (fun k=>k<w.heap.size) w P:=fun v h1 h2=>hP v ⟨h1.os,h1.tape,h1.output,h1.size,fun k hk=>h2 k hk hk⟩
theorem On.fresh{base:Nat}(h:Fresh base w P):On (fun k=>base<=k) w P:=fun v _ h2=>h v h2
theorem On.const(h:∀v,P v):On S w P:=fun v _ _=>h v
theorem cell_gone(w:World)(q j:Nat)(h:q<w.heap.size):(w.setRow q #[]).cell? ⟨q,j,none⟩=none∨∀i,w.cell? ⟨q,i,none⟩=none:=by
 cases ho:w.heap[q]? with
 |none=>rw[Array.getElem?_eq_getElem h]at ho;cases ho
 |some o=>
  cases o with
  |cells cs t fr=>
   left
   rw[cell_of_row _ _ _ _ _ _ (setRow_heap w q cs #[] t fr ho)];rfl
  |_=>right;intro i;unfold World.cell?;simp[ho]
theorem On.bts_in{B:OA}{x:LU}(h:On S w (fun v=>Bts v B x))(hx:x≠[]):∀k,B.map (·.block)=some k->S k∧k<w.heap.size:=by
 intro k hk;obtain⟨b,o,e1,hlt,hc⟩:=h.now 0 (List.length_pos_iff.2 hx);subst e1;injection hk with hk;have hk:b=k:=hk;subst hk;refine⟨Classical.byContradiction fun hn=>?_,hlt⟩;have hv:=(h.row hn #[]).now 0 (List.length_pos_iff.2 hx);obtain⟨b',o',e1,_,hc1⟩:=hv;injection e1 with e1;injection e1 with e3 e4;subst e3 e4;rcases cell_gone w b (o+0) hlt with h9|h9
 ·rw[h9]at hc1;cases hc1
 rw[h9]at hc;cases hc
theorem On.chk_in{A:OA}{l:List Chk}(h:On S w (fun v=>Chs v A l)){j b o:Nat}{D:OA}{e:Nat}(hj:j<l.length)(hA:A=some ⟨b,o,none⟩)(hat:ChkAt w b (o+j*5) l[j] D e)(hx:l[j].data≠[])(hin:ChkIn w l[j] D e):∀k,D.map (·.block)=some k->S k∧k<w.heap.size:=by
 intro k hk;obtain⟨bb,oo,e1,hlt,hc⟩:=hin.data 0 (List.length_pos_iff.2 hx);subst e1;injection hk with hk;have hk:bb=k:=hk;subst hk;refine⟨Classical.byContradiction fun hn=>?_,hlt⟩;obtain⟨b',o',D',e',hA',hbl',hat',hin'⟩:=(h.row hn #[]).now.chk hj;rw[hA]at hA';injection hA' with hA';injection hA' with h1 h2;subst h1 h2;obtain⟨_,_,_,_,c1⟩:=hat;obtain⟨_,_,_,_,c4'⟩:=hat';by_cases hb:b=bb
 ·subst hb;rcases cell_gone w b (o+j*5+4) hlt with h9|h9
  ·rw[h9]at c4';cases c4'
  rw[h9]at c1;cases c1
 have hs:(w.setRow bb #[]).cell? ⟨b,o+j*5+4,none⟩=w.cell? ⟨b,o+j*5+4,none⟩:=World.cell?_of_block (setRow_other _ _ _ _ hb);rw[hs,c1]at c4';injection c4' with c4';injection c4' with c5 _ _;subst c5;obtain⟨b1,o1,e1,_,hc1⟩:=hin'.data 0 (List.length_pos_iff.2 hx);injection e1 with e1;injection e1 with e4 e5;subst e4 e5;rcases cell_gone w bb (oo+0) hlt with h9|h9
 ·rw[h9]at hc1;cases hc1
 rw[h9]at hc;cases hc
end
theorem i64_0:I64 0:=⟨by decide,by decide⟩
def AcRet(S:Nat->Prop)(w:World)(d:Dev)(n:Int):Ending->World->Prop:=fun en w'=>
 ∃L,en=.returned (.tuple #[.agg (devA d L),iv n])∧On (fun k=>S k∧k<w.heap.size∨w.heap.size<=k) w' (fun v=>DevIn v d L)∧Below w.heap.size w w'
theorem actsBad_calls(n:Int)(w:World):Calls Tryz.prog 51 #[iv n] w (RetB w (.tuple #[.agg (devA Dev.zero DLoc.zero),iv n])):=by
 go_enter Tryz.func51,Tryz.ntmps51;go_wp2_with fail;refine bodyPost_ret (rC (devA Dev.zero DLoc.zero)) rfl ⟨rfl,?_⟩;exact x9w3
theorem actsDone_ok(d:Dev)(L:DLoc)(gb gd:Nat)(w:World)(hr:rowOf w gd=devA d L)(hf:frOf w gd=(0,0)):Calls Tryz.prog 54 #[iv 0,.pointer (some ⟨gb,0,none⟩),.pointer (some ⟨gd,0,none⟩)] w (RetB w (.tuple #[.agg (devA d L),iv 0])):=by
 have a1:=keep1 (bW w) hr (by go_simp) hf;go_enter Tryz.func54,Tryz.ntmps54;go_wp2_with fail;refine bodyPost_ret (rC (devA d L)) rfl ⟨rfl,?_⟩;exact x9w3
theorem actsDone_bad(n:Int)(gb gd:Nat)(w:World)(hn:n≠0)(hr:rowOf w gb=#[.func (Fn.func 51) #[] #[]])(hf:frOf w gb=(0,0)):Calls Tryz.prog 54 #[iv n,.pointer (some ⟨gb,0,none⟩),.pointer (some ⟨gd,0,none⟩)] w (RetB w (.tuple #[.agg (devA Dev.zero DLoc.zero),iv n])):=by
 have a1:=keep1 (bW w) hr (by go_simp) hf;have q:(n !=0)=true:=by simp[hn]
 clear hn;go_enter Tryz.func54,Tryz.ntmps54;go_wp2_with fail;refine(actsBad_calls n _).mono ?_;rintro e w1 ⟨rfl,hb⟩;have b1:=kp (w.heap.size) (devA Dev.zero DLoc.zero) hb;have HB1:Hid (Below w.heap.size w w1):=qH ((bL _).trans (hb.mono (by simp)));clear hb;go_wp2_with fail;refine bodyPost_ret (rC (devA Dev.zero DLoc.zero)) rfl ⟨rfl,?_⟩;repeat (first|exact hA|refine bR ?_ _)
def WtRet(w:World)(gd:Nat)(d:Dev)(L:DLoc)(n:Int):Ending->World->Prop:=fun en w'=>
 ∃w1 w2,en=.returned (iv n)∧Below w.heap.size w w1∧w2=(if n=0 then w1.setRow gd (devA d L)else w1)∧Below w2.heap.size w2 w'
theorem keepH{w':World}{g:Nat}{cs:Array Value}(h:w'.heap[g]?=w.heap[g]?)(hr:rowOf w g=cs)(hp:0<cs.size)(hf:frOf w g=(0,0)):rowOf w' g=cs∧frOf w' g=(0,0)∧¬g=w'.heap.size∧(∀j,w'.cell? ⟨g,j,none⟩=cs[j]?)∧(∀j,w'.frozen? ⟨g,j,none⟩=false)∧g<w'.heap.size:=
 keep1 (Below.refl w'.heap.size w') (g:=g) (cs:=cs) (by unfold rowOf at *;rw[h];exact hr) hp (by unfold frOf at *;rw[h];exact hf)
theorem WtRet.row{w':World}{gd:Nat}{d d2:Dev}{L:DLoc}{n:Int}{e:Ending}(h:WtRet w gd d2 L n e w')(hr:rowOf w gd=devA d L)(hf:frOf w gd=(0,0)):
  e=.returned (iv n)∧(rowOf w' gd=devA (if n=0 then d2 else d) L∧frOf w' gd=(0,0))∧Below gd w w'∧∀k,k<w.heap.size->k≠gd->w'.heap[k]?=w.heap[k]?:=by
 obtain⟨w1,w2,rfl,hb1,h1,hb2⟩:=h;have hp:0<(rowOf w gd).size:=by rw[hr,devA_size];decide
 have hlt:=row_lt hp;have hw1:w1.heap[gd]?=w.heap[gd]?:=hb1.block gd hlt;have r1:rowOf w1 gd=devA d L∧frOf w1 gd=(0,0):=by unfold rowOf frOf at *;rw[hw1];exact⟨hr,hf⟩
 have hp1:0<(rowOf w1 gd).size:=by rw[r1.1,devA_size];decide
 have hl1:=hb1.size;by_cases hn:n=0
 ·rw[if_pos hn]at h1⊢;have hz:w2.heap.size=w1.heap.size:=by rw[h1];simp
  have q1:rowOf w2 gd=devA d2 L∧frOf w2 gd=(0,0):=by rw[h1,rowOf_setRow _ _ _ _ hp1,if_pos rfl,frOf_setRow];exact⟨rfl,r1.2⟩
  have hw:w'.heap[gd]?=w2.heap[gd]?:=hb2.block gd (by omega);refine⟨rfl,by unfold rowOf frOf at *;rw[hw];exact q1,?_,fun k hk hne=>?_⟩
  ·refine((hb1.mono (Nat.le_of_lt hlt)).trans ?_).trans (hb2.mono (by omega));rw[h1];exact below_row (Below.refl _ _) nl _
  refine(hb2.block k (by omega)).trans (Eq.trans ?_ (hb1.block k hk));rw[h1];exact setRow_other _ _ _ _ hne
 rw[if_neg hn]at h1⊢;subst h1;have hw:w'.heap[gd]?=w2.heap[gd]?:=hb2.block gd (by omega);exact⟨rfl,by unfold rowOf frOf at *;rw[hw];exact r1,(hb1.mono (Nat.le_of_lt hlt)).trans (hb2.mono (by omega)),fun k hk hne=>(hb2.block k (by omega)).trans (hb1.block k hk)⟩
theorem actsWrite_calls(d:Dev)(L:DLoc)(r:Rec)(torn:Bool)(gd:Nat)(w:World)(hc:copCheck d.c0 d.c1=0)(hr:rowOf w gd=devA d L)(hf:frOf w gd=(0,0)):Calls Tryz.prog 52 #[.agg (recA r),.bool torn,.pointer (some ⟨gd,0,none⟩)] w (WtRet w gd (d.write r torn) L (recWrite d.c0 d.c1 r torn).2):=by
 have K:=qH (fun w=>written_calls d.c0 d.c1 r torn w hc);have a1:=keep1 (bW w) hr (by go_simp) hf;have hp:0<(rowOf w gd).size:=by rw[hr,devA_size];decide
 have hlt:=row_lt hp;have HD:Hid (d.write r torn={d with c0:=(recWrite d.c0 d.c1 r torn).1.1,c1:=(recWrite d.c0 d.c1 r torn).1.2}):=qH rfl;generalize d.write r torn=d2 at *
 obtain⟨⟨⟨p1,p2⟩,e1⟩,hw⟩:∃x,recWrite d.c0 d.c1 r torn=x:=⟨_,rfl⟩;rw[hw]at K HD⊢;dsimp only at HD⊢;clear hw hr hf hp hc;go_enter Tryz.func52,Tryz.ntmps52;go_wp2_with fail;refine(K.out _).mono ?_;rintro e w1 ⟨rfl,hb⟩;have b2:=kp gd (devA d L) hb;have b1:=kp (w.heap.size) (recA r) hb;have HB1:Hid (Below w.heap.size w w1):=qH ((bL _).trans (hb.mono (by simp)));clear hb;by_cases c2:e1=0
 ·subst c2;go_wp2_with fail;go_ret;refine⟨w1,_,rfl,HB1.out,rfl,?_⟩;rw[if_pos rfl,show devA d2 L=devA {d with c0:=p1,c1:=p2} L from by rw[HD.out]];exact(Below.refl _ _).alloc (by simp) _
 have q:(e1==0)=false:=by simp[c2]
 go_wp2_with fail;go_ret;refine⟨w1,_,rfl,HB1.out,rfl,?_⟩;rw[if_neg c2];exact(Below.refl _ _).alloc (by simp) _
theorem x1zo(h:Y:=by
 go_wp2_with fail;refine(actsBad_calls 5 _).mono ?_;rintro e wz ⟨rfl,hb⟩;have z1:=kp (w.heap.size+1+1+1) (devA Dev.zero DLoc.zero) hb;have HBZ:=bU HB1 hb;clear hb;go_wp2_with fail;refine bodyPost_ret (rC (devA Dev.zero DLoc.zero)) rfl ⟨DLoc.zero,rfl,fun v _=>DevIn.zero v,bZ HBZ⟩):Y:=h
theorem x20b(h:Y:=by
 have HB1:=bU HB1 hb;clear hb;go_wp2_with fail;refine bodyPost_ret (rC (devA Dev.zero DLoc.zero)) rfl ⟨DLoc.zero,rfl,fun v _=>DevIn.zero v,bZ HB1⟩):Y:=h
theorem x8hz(h:Y:=by
 clear hb;go_wp2_with fail;refine bodyPost_ret (rC (devA Dev.zero DLoc.zero)) rfl ⟨DLoc.zero,rfl,.const fun v=>DevIn.zero v,bZ HBZ⟩):Y:=h
theorem acts_crash(d:Dev)(L:DLoc)(n f t m o:Int)(B:OA)(bl bc:Nat)(w:World)(hu:d.up=true):Calls Tryz.prog 19 #[.agg (devA d L),.agg #[iv 9,iv n],.agg (chkA f t m o B bl bc)] w (RetB w (.tuple #[.agg (devA d.down L.down),iv 0])):=by
 have K1:=qH (fun w=>newest_calls d.c0 d.c1 w);generalize refNewest d.c0 d.c1=q at *
 obtain⟨r,k⟩:=q;have K2:=qH (fun w=>without_calls d L w);go_enter Tryz.func19,Tryz.ntmps19;go_wp2_with fail;refine(K1.out _).mono ?_;rintro e w1 ⟨rfl,hb⟩;have a2:=kp (w.heap.size) (devA d L) hb;have a1:=kp (w.heap.size+1) (#[iv 9,iv n]) hb;have a1:=kp (w.heap.size+1+1+1) (devA Dev.zero DLoc.zero) hb;have HBA:Hid (Below w.heap.size w w1):=qH (((((((bW w).alloc nl (.cells (devA d L) 37)).alloc (by simp) (.cells #[iv 9,iv n] 55)).alloc (by simp;omega) (.cells (chkA f t m o B bl bc) 39)).alloc (by simp;omega) (.cells (devA Dev.zero DLoc.zero) 37)).alloc (by simp;omega) _).trans (hb.mono (by simp;omega)));clear hb;go_wp2_with fail;refine(K2.out _).mono ?_;rintro e w1 ⟨rfl,hb⟩;have a2:=kr a2 hb;have a1:=kr a1 hb;have HB1:Hid (Below w.heap.size w w1):=qH ((HBA.out.alloc HBA.out.size _).trans (hb.mono (by have:=HBA.out.size;simp;omega)));clear hb;go_wp2_with fail;refine bodyPost_ret (rC (devA d.down L.down)) rfl ⟨rfl,bZ HB1⟩
def ActRet(w:World)(d:Dev)(L:DLoc)(d2:Dev)(n:Int):Ending->World->Prop:=fun en w'=>
 ∃L2,en=.returned (.tuple #[.agg (devA d2 L2),iv n])∧(∀v,DevIn v d L->DevIn v d2 L2)∧Below w.heap.size w w'
theorem DevIn.starts{d:Dev}{L:DLoc}(h:DevIn w d L)(p q:Cop)(k:Int)(hk:k=0∨k=1):DevIn w {d with c0:=p,c1:=q,up:=true,running:=k} L:=⟨h.k0,h.l0,h.b0,h.k1,h.l1,h.b1,h.kg,h.lg,h.got,h.job,⟨by show -9223372036854775808<=k;omega,by show k<=9223372036854775807;omega⟩,h.id⟩
theorem acts_boot(d:Dev)(L:DLoc)(n f t m o:Int)(B:OA)(bl bc:Nat)(w:World)(hok:DevOk d)(hu:d.up=false):Calls Tryz.prog 19 #[.agg (devA d L),.agg #[iv 10,iv n],.agg (chkA f t m o B bl bc)] w (ActRet w d L (devBoot d).1 (devBoot d).2):=by
 have hrec:=rec_ok hok;have hdef:devBoot d=if (recStart d.rec_).2.1≠d.rec_ then
    (if (recWrite d.c0 d.c1 (recStart d.rec_).2.1 false).2≠0 then (Dev.zero,(recWrite d.c0 d.c1 (recStart d.rec_).2.1 false).2)
    else ({d.write (recStart d.rec_).2.1 false with up:=true,running:=(recStart d.rec_).1},0))
   else ({d with up:=true,running:=(recStart d.rec_).1},0):=by unfold devBoot;rw[if_neg (by simpa using devCheck_ok.2 hok),if_neg (by rw[hu];decide),if_neg (by rw[refStart_ok hrec];simp)]
 have hsl:(recStart d.rec_).1=0∨(recStart d.rec_).1=1:=by
  rw[start_of hrec];exact(slot_floor hrec 0).1
 have K1:=qH (fun w=>newest_calls d.c0 d.c1 w);rw[refNewest_ok hok.cops]at K1;have hre:(recRead d.c0 d.c1).1=d.rec_:=rfl;have hrg:=(recCheck_parts hrec).1;unfold RangeOk at hrg;have K2:=qH (fun w=>started_calls d.rec_ w (by omega) (by omega));rw[hre]at K1;rw[refStart_ok hrec]at hdef hsl;obtain⟨⟨k,nx⟩,hq⟩:∃x,refStart d.rec_=x:=⟨_,rfl⟩;rw[hq]at hdef hsl K2;dsimp only at hdef hsl K2;have K3:=qH (fun gd w h1 h2=>actsWrite_calls d L nx false gd w hok.cops h1 h2);have HW:Hid (d.write nx false={d with c0:=(recWrite d.c0 d.c1 nx false).1.1,c1:=(recWrite d.c0 d.c1 nx false).1.2}):=qH rfl;obtain⟨⟨⟨p1,p2⟩,e1⟩,hw⟩:∃x,recWrite d.c0 d.c1 nx false=x:=⟨_,rfl⟩;rw[hw]at hdef K3 HW;dsimp only at hdef K3 HW;rw[HW.out]at hdef K3;have HD:=qH hdef;have HSL:=qH hsl;obtain⟨rk,hrk⟩:=eX ((recRead d.c0 d.c1).2);rw[hrk]at K1;generalize devBoot d=res at *
 generalize d.rec_=r at *
 clear hdef hrec hsl hok hq hw HW hre hrg hrk;go_enter Tryz.func19,Tryz.ntmps19;go_wp2_with fail;refine(K1.out _).mono ?_;rintro e w1 ⟨rfl,hb⟩;have a2:=kp (w.heap.size) (devA d L) hb;have a1:=kp (w.heap.size+1) (#[iv 10,iv n]) hb;have a1:=kp (w.heap.size+1+1+1) (devA Dev.zero DLoc.zero) hb;have a3:=kp (w.heap.size+1+1+1+1) (#[.func (Fn.func 51) #[] #[]]) hb;have HB1:Hid (Below w.heap.size w w1):=qH (((((((bW w).alloc nl (.cells (devA d L) 37)).alloc (by simp) (.cells #[iv 10,iv n] 55)).alloc (by simp;omega) (.cells (chkA f t m o B bl bc) 39)).alloc (by simp;omega) (.cells (devA Dev.zero DLoc.zero) 37)).alloc (by simp;omega) _).trans (hb.mono (by simp;omega)));clear hb;go_wp2_with fail;refine(K2.out _).mono ?_;rintro e w2 ⟨rfl,hb⟩;have a2:=kr a2 hb;have a1:=kr a1 hb;have a3:=kr a3 hb;have a4:=kp (w1.heap.size) (recA r) hb;have HB1:Hid (Below w.heap.size w w2):=qH ((HB1.out.alloc HB1.out.size _).trans (hb.mono (by have:=HB1.out.size;simp;omega)));clear hb;by_cases c2:nx≠r
 ·have HD1:=qH (HD.out.trans (if_pos c2));have q1:decide (nx=r)=false:=decide_eq_false c2;clear c2 HD;go_wp2_with fail;refine(K3.out _ _ (by go_simp) (by go_simp)).mono ?_;rintro e w1 ⟨wa,wb,rfl,hba,hwb,hbb⟩;have a1:=kr a1 hba;have a1:=kr a3 hba;have a1:=kr a2 hba;have HBa:=bU HB1 hba;clear hba;by_cases c2:e1≠0
  ·rw[if_neg c2]at hwb;subst hwb;have b1:=kp (w.heap.size+1+1+1) (devA Dev.zero DLoc.zero) hbb;have b1:=kp (w.heap.size+1+1+1+1) (#[.func (Fn.func 51) #[] #[]]) hbb;have b1:=kp (w.heap.size) (devA d L) hbb;have HB1:=bT HBa hbb;have hz:res=(Dev.zero,e1):=HD1.out.trans (if_pos c2);subst hz;have KD:=qH (fun gb gd w h1 h2=>actsDone_bad e1 gb gd w c2 h1 h2);clear hbb c2;go_wp2_with fail;refine(KD.out _ _ _ (by go_simp) (by go_simp)).mono ?_;rintro e w1 ⟨rfl,hb⟩;have c1:=kp (w.heap.size+1+1+1) (devA Dev.zero DLoc.zero) hb;exact x20b
  have c2:=Decidable.not_not.1 c2;subst c2;rw[if_pos rfl]at hwb;subst hwb;have b1:=kp (w.heap.size+1+1+1) (devA Dev.zero DLoc.zero) hbb;have b1:=kp (w.heap.size) (devA {d with c0:=p1,c1:=p2} L) hbb;have HB1:Hid (Below w.heap.size w w1):=qH ((below_row HBa.out (by omega) _).trans (hbb.mono (by have:=HBa.out.size;simp;omega)));clear hbb;have hz:res=({d with c0:=p1,c1:=p2,up:=true,running:=k},0):=HD1.out.trans (if_neg (by decide));clear hu;go_wp2_with fail;refine(actsDone_ok {d with c0:=p1,c1:=p2,up:=true,running:=k} L _ _ _ (by go_simp) (by go_simp)).mono ?_;rintro e w1 ⟨rfl,hb⟩;have c2:=kp (w.heap.size+1+1+1) (devA Dev.zero DLoc.zero) hb;have HB1:=bU HB1 hb;clear hb;go_wp2_with fail;rw[hz];refine bodyPost_ret (rC (devA {d with c0:=p1,c1:=p2,up:=true,running:=k} L)) rfl ⟨L,rfl,fun v h=>h.starts p1 p2 k HSL.out,bZ HB1⟩
 have HD1:=qH (HD.out.trans (if_neg c2));have q1:decide (nx=r)=true:=decide_eq_true (Decidable.not_not.1 c2);clear c2 HD hu;go_wp2_with fail;refine(actsDone_ok {d with up:=true,running:=k} L _ _ _ (by go_simp) (by go_simp)).mono ?_;rintro e w1 ⟨rfl,hb⟩;have a1:=kr a1 hb;have HB1:=bU HB1 hb;clear hb;go_wp2_with fail;rw[HD1.out];refine bodyPost_ret (rC (devA {d with up:=true,running:=k} L)) rfl ⟨L,rfl,fun v h=>h.starts d.c0 d.c1 k HSL.out,bZ HB1⟩
end Go.Proofs.YtefkfglkpebbmacGreat
