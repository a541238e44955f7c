/- Walks of functions, and plain words. No conditions. -/
import Derived.Test.YtefkfglkpebbmacP10
import Derived.Test.YtefkfglkpebbmacPMTriesLaw
import Derived.Test.YtefkfglkpebbmacPMDevBox
import Derived.Test.YtefkfglkpebbmacPMAux
import Derived.Deep.Cut
set_option linter.unusedVariables false
set_option linter.unusedSimpArgs false
set_option maxRecDepth 100000
set_option maxHeartbeats 40000000
namespace Go.Proofs.Ytefkfglkpebbmac
open Go.RowKit
variable {Y:Prop}
variable {d:Dev}
theorem x61i(h:Y:=by
 clear hr h1;go_wp2_with fail;go_roundw
 case rel=>exact⟨j+1,dn,Lb,by omega,by go_num,HT1,HSb⟩
 case measure=>simp[intOf];omega):Y:=h
theorem x82s(h:Y:=by
 have:=devNew_calls A c old w (by omega) h;rwa [show devNew old=(newDev old,0) by unfold devNew;rw[if_neg (by omega)]]at this):Y:=h
def devLeft(w:World)(g:Nat):Nat:=(80-intOf ((rowOf w g).getD 36 undef)).toNat
theorem devLeft_of{w:World}{g q:Nat}{L:DLoc}(h:DeB w g q d L):devLeft w g=(80-d.done).toNat:=by
 unfold devLeft;rw[h.row];simp[devA,intOf]
theorem trChunks_len(p:Pat)(b:LU):(chunksOf p b).length=nOf b:=by unfold chunksOf nOf;simp
theorem TrB.mono{old b:LU}{to_ G G':Int}{k:Nat}(h:TrB old b to_ G k d)(hG:G<=G'):TrB old b to_ G' k d:=
 ⟨h.fits,h.got,h.act,h.fl,h.s0,h.at0,Int.le_trans h.gen hG,h.run⟩
theorem TrW.done{old b:LU}{to_ G n:Int}(h:TrW old b to_ G n d):d.done=n:=by obtain⟨r0,hw,_⟩:=h;exact hw.done
theorem DeviceTries_walk(W:World)(v0 v1:Value)(old0 b0:LU)(g0:ArgBytes W v0 old0)(g1:ArgBytes W v1 b0)(hml:ML W):Calls Try.prog 10 #[v0,v1] W (RetB W (.bool true)):=by
 obtain⟨A,c,rfl,hc,hl,hr⟩:=g0;obtain⟨B,e0,rfl,hd,hm,hs⟩:=g1;have HI:=qH (lawImage_calls A c old0 W hc hl);have HJ:=qH (fun w=>lawImage_calls B e0 b0 w hd hm);have R1:=qH (img_bts hr);have R2:=qH (img_bts hs);have l1:=img_len old0;have l2:=img_len b0;have c1:(img old0).length<=c:=by unfold img;rw[List.length_take];omega
 have c2:(img b0).length<=e0:=by unfold img;rw[List.length_take];omega
 have HML:=qH hml;clear hr hs hl hm hc hd hml;generalize img old0=old at *
 generalize img b0=b at *
 obtain⟨m1,m2,m3⟩:=trP_ok (old:=old) (b:=b) (to_:=2) l1 l2 (by decide);obtain⟨k1,k2,k3⟩:=cut_ok m2;have HLN:=qH (trChunks_len (trP old b 2) (bytesOf (trP old b 2)));have K1:=qH (fun w h=>installed_calls w h);have KN:Hid (∀w,Bts w A old->Calls Try.prog 69 #[.slice A old.length c] w (DvRet w (newDev old) 0)):=qH (fun w h=>by
  exact x82s)
 have KM:Hid (∀w,Bts w A old->Bts w B b->Calls Try.prog 24 #[iv 1,iv 2,.slice A old.length c,.slice B b.length e0] w (PaRet w (trP old b 2) 0)):=qH (fun w h h2=>by
  have:=patMake_fit A B c e0 1 2 old b w ⟨by decide,by decide⟩ ⟨by decide,by decide⟩ (by omega) (by omega) h h2;rwa [m1]at this)
 have KC:Hid (∀E e w,PatIn w (trP old b 2) E e->Calls Try.prog 33 #[.agg (patA (trP old b 2).from_ (trP old b 2).to_ (trP old b 2).old (trP old b 2).new_ (trP old b 2).size E (trP old b 2).ops.length e)] w (ChkRet2 w (chunksOf (trP old b 2) (bytesOf (trP old b 2))) 0)):=qH (fun E e w h=>by
  have:=chkCut_calls E e (trP old b 2) w h;rwa [k1]at this)
 have HCB:Hid (∀x∈chunksOf (trP old b 2) (bytesOf (trP old b 2)),ChkB x):=qH (fun x hx=>cut_bound (p:=trP old b 2) (by rw[k1];exact hx));have T1:=qH (tr_start (to_:=2) l1 l2 (by decide));have TH:=qH (fun G k d=>@tr_hear old b 2 G k d);have TO:=qH (fun G k d=>@tr_open old b 2 G k d);have TF:=qH (fun (G:Int) (d:Dev) (n:Int) (h:TrW old b 2 G n d) hn hG=>tr_finish h hn hG l1 l2 (by decide));have TA:=qH (fun (G:Int) (r:Rec) (d:Dev) (h:TrT old b 2 G r 4 d) hG=>tr_again h hG l1 l2 (by decide));have HN1:Hid (1<=nOf (bytesOf (trP old b 2))∧nOf (bytesOf (trP old b 2))<=10):=qH ⟨k2,k3⟩;have HRM:=qH (tr_room (old:=old));clear m1 m2 m3 k1 k2 k3;obtain⟨P,hP⟩:=eX (trP old b 2);obtain⟨l,hl⟩:=eX (chunksOf P (bytesOf P));rw[hP]at KM KC HCB HN1 HLN;rw[hl]at HLN KC HCB;have TH1:Hid (∀G k d,TrB old b 2 G k d->∀hk:k<l.length,∃e,devHear d (l[k])=(e,0)∧TrB old b 2 G (k+1) e):=qH (fun G k d h hk=>by
  subst hP;subst hl;exact TH.out _ _ _ h hk)
 have TO1:Hid (∀G k d,TrB old b 2 G k d->l.length<=k->∃e,devOpen d=(e,0)∧TrW old b 2 G 0 e):=qH (fun G k d h hk=>by
  refine TO.out _ _ _ h ?_;rw[HLN.out]at hk;subst hP;exact hk)
 have hN:1<=l.length∧l.length<=10:=by rw[HLN.out];exact HN1.out
 obtain⟨hN1,hN2⟩:=hN;clear hP hl TH TO HLN HN1;go_enter Try.func10,Try.ntmps10;go_wp2_with fail;refine HI.out.mono ?_;rintro e w1 ⟨rfl,rfl⟩;go_wp2_with fail;refine(HJ.out _).mono ?_;rintro e w1 ⟨rfl,rfl⟩;go_wp2_with fail;refine(KN.out _ R1.out).mono ?_;rintro e w1 ⟨L1,rfl,hf1,hb1⟩;have HD1:Hid (DeB (w1.alloc (.cells (devA (newDev old) L1) 71)) w1.heap.size (w1.heap.size+1) (newDev old) L1):=qH (DeB.start hf1 (by rw[rowOf_alloc,if_pos rfl]) (by rw[frOf_alloc,if_pos rfl]) (by omega) (by simp) (fun k h=>Below.heap_alloc w1 _ k h));have HB1:Hid (Below W.heap.size W (w1.alloc (.cells (devA (newDev old) L1) 71))):=qH (hb1.alloc hb1.size _);have hg1:=hb1.size;clear hf1 hb1;go_wp2_with fail;obtain⟨g,hg⟩:=eX (w1.heap.size);rw[hg]at HD1 hg1⊢;have hsz1:(w1.alloc (.cells (devA (newDev old) L1) 71)).heap.size=g+1:=by rw[<-hg];simp
 clear hg;generalize w1.alloc (.cells (devA (newDev old) L1) 71)=w2 at *
 refine(KM.out _ (R1.out.stays HB1.out) (R2.out.stays HB1.out)).mono ?_;rintro e w3 ⟨A1,c3,rfl,hf1,hb1⟩;have HD2:=qH (HD1.out.below hb1);have HB2:=bT HB1 hb1;have hsz2:g+1<=w3.heap.size:=by have:=hb1.size;omega
 have HP1:=qH hf1.now;clear hb1 hf1 HD1 HB1;go_wp2_with fail;have hba:Below w3.heap.size w3 (w3.alloc (.cells (patA P.from_ P.to_ P.old P.new_ P.size A1 P.ops.length c3) 35)):=bL _;have HD1:=qH (HD2.out.below hba);have HB1:Hid (Below W.heap.size W (w3.alloc (.cells (patA P.from_ P.to_ P.old P.new_ P.size A1 P.ops.length c3) 35))):=qH (HB2.out.trans (hba.mono HB2.out.size));have HP2:=qH (HP1.out.stays hba);have hsz3:g+2<=(w3.alloc (.cells (patA P.from_ P.to_ P.old P.new_ P.size A1 P.ops.length c3) 35)).heap.size:=by simp;omega
 refine(KC.out _ _ _ HP2.out).mono ?_;clear hba;generalize w3.alloc (.cells (patA P.from_ P.to_ P.old P.new_ P.size A1 P.ops.length c3) 35)=w4 at *
 rintro e w5 ⟨A2,c4,ds,rfl,hgr,hea,hb1⟩;have HCH:Hid (Fresh w4.heap.size w5 (fun v=>Chs v A2 l)):=qH (Fresh.imp (hgr.fresh hea) (fun v hv=>hv.src.chs HCB.out));have HC1:=qH hgr.row.le;have HD3:=qH (HD1.out.below hb1);have HB3:=bT HB1 hb1;obtain⟨bs,hbs⟩:=eX (w4.heap.size);rw[hbs]at HCH hsz3;have hs1:bs<=w5.heap.size:=by have:=hb1.size;omega
 clear hgr hea hb1 hbs HD1 HB1 HP2 HD2 HB2 HP1 KM KC KN;obtain⟨ab,ao,_,_,rfl,-,-,-⟩:=HCH.out.now.chk (i:=0) hN1;go_wp2_with fail;refine(K1.out _ (HML.out.stays HB3.out)).mono ?_;rintro e w6 ⟨rfl,hb1⟩;have HDS:Hid (DS W w5 bs g (g+1) (newDev old) L1 w6):=qH ((DS.mk HD3.out HB3.out (Kp.refl _ _) nl).below hb1);clear hb1 HD3 HB3;go_wp2_with fail;go_loopw [52] (fun i wr=>∃(k:Nat) (d:Dev) (L:DLoc),k<=2∧i=iv k∧Hid (TrB old b 2 (1+10*k) 0 d)∧Hid (DS W w5 bs g (g+1) d L wr)) (fun i _=>2-(intOf i).toNat)
 case atStart=>exact⟨0,newDev old,L1,by omega,rfl,qH (by simpa using T1.out),HDS⟩
 case round=>
  clear HDS;rename World=>wo;obtain⟨k,d,L,hk,rfl,HT,HS⟩:=hrel;by_cases hlt:k<2
  ·have dl:decide ((k:Int)<2)=true:=decide_eq_true (by omega);have hwk:IntKind.i64.wrap ((k:Int)+1)=(k:Int)+1:=IntWalk.i64_in _ (by omega);have HK:=qH hlt;clear hlt;go_wp2_with fail;go_loopw [56] (fun i wr=>∃(j:Nat) (d:Dev) (L:DLoc),j<=l.length∧i=iv j∧Hid (TrB old b 2 (1+10*k) j d)∧Hid (DS W w5 bs g (g+1) d L wr)) (fun i _=>l.length-(intOf i).toNat)
   case atStart=>exact⟨0,d,L,by omega,rfl,HT,HS⟩
   case round=>
    clear HT HS;rename World=>wr;obtain⟨j,d,L,hj,rfl,HT,HS⟩:=hrel;by_cases hlj:j<l.length
    ·obtain⟨b',o',D,e,hAe,hbl,hat,hin⟩:=(HCH.out wr HS.out.kp).chk hlj;injection hAe with hAe;injection hAe with h1 h2;subst h1 h2;obtain⟨dn,h1,h2⟩:=TH1.out _ _ _ HT.out hlj;obtain⟨x,hx⟩:=eX (l[j]);rw[hx]at h1 hat hin;have HX:=qH h1;have HT1:=qH h2;obtain⟨q5,q1,q2,q3,q4⟩:=hat;have hba:Below wr.heap.size wr (wr.alloc (.cells (chkA x.from_ x.to_ x.n x.of_ D x.data.length e) 49)):=bL _;have HS1:=qH (HS.out.below hba);have HIN:=qH (hin.stays hba);have a1:=keep1 (bW wr) HS.out.box.row (by go_simp) HS.out.box.fr;have dj:decide ((j:Int)<(l.length:Int))=true:=decide_eq_true (by omega);have nb:¬(l.length:Int)<=(j:Int):=by omega
     have hwj:IntKind.i64.wrap ((j:Int)+1)=(j:Int)+1:=IntWalk.i64_in _ (by omega);clear h1 h2 hx hin hba HT HS;go_wp2_with fail;have KH:=qH (devHear_calls d L x D e _ HS1.out.box.now HIN.out);rw[HX.out]at KH;refine KH.out.mono ?_;rintro en w7 ⟨L2,rfl,hf1,hb1⟩;have HS2:=qH (HS1.out.step hg1 (by omega) hb1 hf1);have a1:=kp g (devA d L) hb1;clear hb1 hf1 KH HS1 HIN;go_wp2_with fail;go_roundw
     case rel=>exact⟨j+1,dn,L2,by omega,by go_num,HT1,HS2⟩
     case measure=>simp[intOf];omega
    obtain rfl:j=l.length:=by omega
    have dj:decide ((l.length:Int)<(l.length:Int))=false:=by simp
    obtain⟨dn,h3,h4⟩:=TO1.out _ _ _ HT.out nl;have HX:=qH h3;have HT1:=qH h4;have a1:=keep1 (bW wr) HS.out.box.row (by go_simp) HS.out.box.fr;clear h3 h4 HT;go_wp2_with fail;have KH:=qH (devOpen_calls d L _ HS.out.box.now);rw[HX.out]at KH;refine KH.out.mono ?_;rintro en w7 ⟨L2,rfl,hf1,hb1⟩;have HS1:=qH (HS.out.step hg1 (by omega) hb1 hf1);have a1:=kp g (devA d L) hb1;clear hb1 hf1 KH HS;go_wp2_with fail;go_loopw [6] (fun ev wr=>∃(er n:Int) (d:Dev) (L:DLoc),ev=iv er∧(er=0∨er=5∧(b.length:Int)<=n)∧n<=72∧Hid (TrW old b 2 (1+10*k) n d)∧Hid (DS W w5 bs g (g+1) d L wr)) (fun ev wr=>if intOf ev=0 then 1+devLeft wr g else 0)
    case atStart=>exact⟨0,0,dn,L2,rfl,.inl rfl,by omega,HT1,HS1⟩
    case round=>
     clear HT1 HS1 HX a1;rename World=>wr;obtain⟨er,n,d,L,rfl,her,hn1,HT,HS⟩:=hrel;have a1:=keep1 (bW wr) HS.out.box.row (by go_simp) HS.out.box.fr;have HDL:=qH (devLeft_of HS.out.box);have HDN:=qH HT.out.done;rcases her with rfl|⟨rfl,hnb⟩
     ·by_cases hn:n<b.length
      ·obtain⟨dn,h3,h4⟩:=tr_write HT.out hn 0;have HX:=qH h3;have HT1:=qH h4;clear h3 h4 HT;go_wp2_with fail;have KH:=qH (devWrite_calls d L false 0 _ HS.out.box.now);rw[HX.out]at KH;refine KH.out.mono ?_;rintro en w8 ⟨L3,rfl,hf1,hb1⟩;have HS1:=qH ((HS.out.step hg1 (by omega) hb1 hf1).below (bL (.cells (devA dn L3) 71)));have HDL1:=qH (devLeft_of HS1.out.box);have HDN1:=qH HT1.out.done;have a1:=kp g (devA d L) hb1;clear hb1 hf1 KH HS;go_wp2_with fail;go_roundw
       case rel=>exact⟨0,n+8,dn,L3,rfl,.inl rfl,by omega,HT1,HS1⟩
       case measure=>
        have h1:=HDL.out;have h2:=HDL1.out;rw[HDN.out]at h1;rw[HDN1.out]at h2;rw[h1,h2];simp[intOf];omega
      ·have HX:=qH (tr_stop HT.out hn false 0);go_wp2_with fail;have KH:=qH (devWrite_calls d L false 0 _ HS.out.box.now);rw[HX.out]at KH;refine KH.out.mono ?_;rintro en w8 ⟨L3,rfl,hf1,hb1⟩;have HS1:=qH (HS.out.below (w':=w8.alloc (.cells (devA Dev.zero L3) 71)) (hb1.alloc hb1.size _));have a1:=kp g (devA d L) hb1;clear hb1 hf1 KH HS;go_wp2_with fail;go_roundw
       case rel=>exact⟨5,n,d,L,rfl,.inr ⟨rfl,by omega⟩,hn1,HT,HS1⟩
       case measure=>simp[intOf];omega
     obtain⟨dn,h1,-,h2⟩:=TF.out _ _ _ HT.out hnb (by omega);have HX:=qH h1;obtain⟨rr,hrr⟩:=eX (dn.rec_);rw[hrr]at h2;have HT1:=qH h2;clear h1 h2 hrr HT;go_wp2_with fail;have KH:=qH (devFinish_calls d L false _ HS.out.box.now);rw[HX.out]at KH;refine KH.out.mono ?_;rintro en w8 ⟨L3,rfl,hf1,hb1⟩;have HS1:=qH (HS.out.step hg1 (by omega) hb1 hf1);have a1:=kp g (devA d L) hb1;clear hb1 hf1 KH HS;go_wp2_with fail;go_loopw [94] (fun i wr=>∃(j:Nat) (d:Dev) (L:DLoc),j<=4∧i=iv j∧Hid (TrT old b 2 (1+10*k+2) rr j d)∧Hid (DS W w5 bs g (g+1) d L wr)) (fun i _=>4-(intOf i).toNat)
     case atStart=>exact⟨0,dn,L3,by omega,rfl,HT1,HS1⟩
     case round=>
      clear HT1 HS1 HX HDL HDN a1;rename World=>wr;obtain⟨j,d,L,hj1,rfl,HT,HS⟩:=hrel;have a1:=keep1 (bW wr) HS.out.box.row (by go_simp) HS.out.box.fr;by_cases hlj:j<4
      ·have dj1:decide ((j:Int)<4)=true:=decide_eq_true (by omega);have hwj:IntKind.i64.wrap ((j:Int)+1)=(j:Int)+1:=IntWalk.i64_in _ (by omega);have HX:=qH (tr_crash HT.out).1;obtain⟨dn,h1,h3,h2⟩:=tr_boot HT.out (by omega) (by omega);have HX1:=qH h1;have HT1:=qH h3;have HRU:=qH h2;clear h1 h3 h2 HT;go_wp2_with fail;have KH:=qH (devCrash_calls d L _ HS.out.box.now);rw[HX.out]at KH;refine KH.out.mono ?_;rintro en w8 ⟨L3,rfl,hf1,hb1⟩;have HS1:=qH (HS.out.step hg1 (by omega) hb1 hf1);have a1:=kp g (devA d L) hb1;clear hb1 hf1 KH HS;go_upto_region 31 with fail
       generalize w8.setRow g (devA d.off L3)=wa at *
       have a1:=keep1 (bW wa) HS1.out.box.row (by go_simp) HS1.out.box.fr;go_wp2_with fail;have KH:=qH (devBoot_calls d.off L3 _ HS1.out.box.now);rw[HX1.out]at KH;refine KH.out.mono ?_;rintro en wb ⟨Lb,rfl,hfb,hbb⟩;have HSb:=qH (HS1.out.step hg1 (by omega) hbb hfb);have a1:=kp g (devA d.off L3) hbb;clear hbb hfb KH HS1;go_upto_region 34 with fail
       generalize wb.setRow g (devA dn Lb)=wc at *
       have a1:=keep1 (bW wc) HSb.out.box.row (by go_simp) HSb.out.box.fr;by_cases h1:j<3
       ·have hr:=HRU.out;rw[if_pos h1]at hr;have q1:(dn.running==1)=true:=by simp[hr]
        have q2:decide ((j:Int)<3)=true:=decide_eq_true (by omega);exact x61i
       have hr:=HRU.out;rw[if_neg h1]at hr;have q1:(dn.running==1)=false:=by simp[hr]
       have q2:decide ((j:Int)<3)=false:=decide_eq_false (by omega);exact x61i
      obtain rfl:j=4:=by omega
      have HTB:=qH ((TA.out _ _ _ HT.out (by omega)).1.mono (G':=1+10*((k+1:Nat):Int)) (by omega));clear HT;go_wp2_with fail;go_roundw
      case rel=>exact⟨k+1,d,L,by have:=HK.out;omega,by go_num,HTB,HS⟩
      case measure=>have:=HK.out;simp[intOf];omega
  obtain rfl:k=2:=by omega
  have hcp:=HT.out.fits.ok.cops;have KR:=qH (fun w=>read_ok d.c0 d.c1 w hcp);have hrec:(recRead d.c0 d.c1).1=d.rec_:=rfl;rw[hrec]at KR;have htr:=HT.out.fits.tr;have hfl:=HT.out.fl;obtain⟨r,hr⟩:=eX (d.rec_);rw[hr]at KR htr hfl;obtain⟨rk,hrk⟩:=eX ((recRead d.c0 d.c1).2);rw[hrk]at KR;have q1:(r.floor==1)=true:=by simp[hfl]
  clear hr hrk hfl hcp hrec;have a1:=keep1 (bW wo) HS.out.box.row (by go_simp) HS.out.box.fr;go_wp2_with fail;refine(KR.out _).mono ?_;rintro en w7 ⟨rfl,hb1⟩;have a1:=kp g (devA d L) hb1;have HS1:=qH (HS.out.below hb1);clear hb1 HS KR;have h1:=HT.out.fits.ok.l0;have HIN:=qH HS1.out.box.now;obtain⟨zb,zo,hA,-⟩:=HIN.out.b0 0 (by omega);have hsl:=pre_slice (A:=L.a0) (n:=d.s0.length) (c:=L.c0) old.length rfl HIN.out.k0 (by omega) (by omega) ⟨zb,zo,hA⟩;have hbw:Below w7.heap.size w7 (w7.alloc (.cells (recA r) 66)):=bL _;have KE:Hid (Calls Try.prog 23 #[.slice L.a0 old.length L.c0,.slice A old.length c] (w7.alloc (.cells (recA r) 66)) (RetB (w7.alloc (.cells (recA r) 66)) (.bool true))):=qH (by
   have h2:=(bytesEqual_calls L.a0 A L.c0 c (d.s0.take old.length) old (w7.alloc (.cells (recA r) 66)) (by rw[List.length_take];have:=HIN.out.k0;omega) c1 ((mid_take HIN.out.b0 _).stays hbw) (R1.out.stays (HS1.out.bel.trans (hbw.mono HS1.out.bel.size)))).mono (fun _ _ h=>h.to);rw[HT.out.s0,HRM.out]at h2;simpa using h2)
  have HB1:=qH (HS1.out.bel.trans (hbw.mono HS1.out.bel.size));clear hbw hA h1 HT;go_wp2_with fail;refine KE.out.mono ?_;rintro en wz ⟨rfl,hbz⟩;have HBZ:=bT HB1 hbz;clear hbz;go_wp2_with fail;go_ret;exact⟨rfl,HBZ.out⟩
end Go.Proofs.Ytefkfglkpebbmac
