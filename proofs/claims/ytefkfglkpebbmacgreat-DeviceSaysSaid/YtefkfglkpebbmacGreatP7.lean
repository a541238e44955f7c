/- Walks of functions, and plain words. No conditions. -/
import Derived.Test.YtefkfglkpebbmacGreatP6
set_option linter.unusedVariables false
set_option linter.unusedSimpArgs false
set_option maxRecDepth 100000
set_option maxHeartbeats 40000000
namespace Go.Proofs.YtefkfglkpebbmacGreat
open Go.RowKit
variable {Y:Prop}
variable {w0:World} {d:Dev}
theorem x0af(h:Y:=by
 go_quiet (fail)
 go_wp2_with fail;go_meet
 case rel=>exact⟨by rw[hres],qH (below_drewN _ _)⟩):Y:=h
theorem x35y(h:Y:=by
 clear c3;go_wp2_with fail;go_meet
 case rel=>exact⟨rfl,qH (Below.refl _ _)⟩):Y:=h
theorem devCheck_busy_(d:Dev)(L:DLoc)(w:World)(h:DevIn w d L)(h0:d.s0.length=64)(h1:d.s1.length=64)(hc:copCheck d.c0 d.c1=0)(hu:d.up=true)(hbz:d.busy=true)(hrg:¬(d.running<0∨1<d.running∨(d.running≠d.rec_.active∧d.rec_.trying=false)))(hgl:chkList d.got=0):Calls Tryz.prog 7 #[.agg (devA d L)] w (RetB w (iv (devCheck d))):=by
 have HIN:=qH h;clear h;obtain⟨n,hn⟩:=eX (devCheck d);rw[hn];have HN:=qH hn;clear hn;have i2:∀w,(Instr.index 23 (.agg (slotsA L.a0 d.s0.length L.c0 L.a1 d.s1.length L.c1)) (iv 0)).run Tryz.prog w=.ok (.slice L.a0 d.s0.length L.c0) w:=fun _=>by kernel_rfl
 have i1:∀w,(Instr.index 23 (.agg (slotsA L.a0 d.s0.length L.c0 L.a1 d.s1.length L.c1)) (iv 1)).run Tryz.prog w=.ok (.slice L.a1 d.s1.length L.c1) w:=fun _=>by kernel_rfl
 have l2:((d.s0.length:Int) !=64)=false:=by simp;omega
 have l1:((d.s1.length:Int) !=64)=false:=by simp;omega
 have HL2:=qH h0;have HL1:=qH h1;have HCC:=qH hc;have HUP:=qH hu;have HRG:=qH hrg;have HGT:=qH hgl;have HBZ:=qH hbz;clear hrg hgl hbz;clear h0 h1 hc hu;have HBA:=qH ((bW w).alloc nl (.cells (devA d L) 37));go_enter Tryz.func7,Tryz.ntmps7;go_wp2_with fail;go_loopw [12] (fun i wr=>∃k:Nat,k<=2∧i=iv k∧wr=w.alloc (.cells (devA d L) 37)) (fun i _=>(2-intOf i).toNat)
 case atStart=>exact⟨0,by omega,rfl,rfl⟩
 case round=>
 obtain⟨k,hk,rfl,rfl⟩:=hrel;by_cases hlt:k<2
 ·exact x1fz
 obtain rfl:k=2:=by omega
 clear hk hlt i2 i1 l2 l1;have a0r:rowOf (w.alloc (.cells (devA d L) 37)) w.heap.size=devA d L:=by rw[rowOf_alloc,if_pos rfl]
 have a0f:frOf (w.alloc (.cells (devA d L) 37)) w.heap.size=(0,0):=by rw[frOf_alloc,if_pos rfl]
 have a0l:w.heap.size<(w.alloc (.cells (devA d L) 37)).heap.size:=by simp
 have hc:=HCC.out;have KR:=qH (fun w=>read_ok d.c0 d.c1 w hc);have hact:=rec_active (recRead_ok hc);have hok:=recRead_ok hc;have hrec:(recRead d.c0 d.c1).1=d.rec_:=rfl;obtain⟨rk,hrk⟩:=eX ((recRead d.c0 d.c1).2);rw[hrk,hrec]at KR;have EUP:=qH (fun hu=>HN.out.symm.trans (devCheck_is_up HL2.out HL1.out hc hu));rw[hrec]at hact hok EUP;have himc:=fun w k hk h q1 q2=>image_calls d L k d.rec_ w hk h (slot_len HL2.out HL1.out k) q1 q2;have HIM:=qH himc;clear himc;generalize d.rec_=r at *
 obtain⟨ka,ha,ha1⟩:∃ka:Nat,r.active=(ka:Int)∧ka<=1:=⟨r.active.toNat,by omega,by omega⟩;have HOK:=qH hok;have HA:=qH ha;clear hrec hrk hok hact ha HN hc;go_wp2_with fail;refine(KR.out _).mono ?_;rintro e w1 ⟨rfl,hb⟩;have HB1:=bT HBA hb;obtain⟨a0r,a0f,a0n,a0c,a0z,a0l⟩:=keep1 (g:=w.heap.size) (cs:=devA d L) hb a0r (by go_simp) a0f;clear hb KR HBA;obtain⟨g,hg⟩:=eX (w.heap.size);rw[hg]at a0r a0f a0n a0c a0z a0l⊢;have HG:=qH hg;clear hg;go_upto_region 8 with fail
 obtain⟨w4,hw1⟩:=eX (w1.alloc (.cells (recA r) 28));have hb:Below w1.heap.size w1 w4:=by rw[<-hw1];exact bL _
 have r0r:rowOf w4 w1.heap.size=recA r:=by rw[<-hw1,rowOf_alloc,if_pos rfl]
 have r0f:frOf w4 w1.heap.size=(0,0):=by rw[<-hw1,frOf_alloc,if_pos rfl]
 obtain⟨a0r,a0f,a0n,a0c,a0z,a0l⟩:=keep1 (g:=g) (cs:=devA d L) hb a0r (by go_simp) a0f;have HB2:=bT HB1 hb;rw[hw1];obtain⟨gr,hgr⟩:=eX (w1.heap.size);rw[hgr]at r0r r0f⊢;clear hw1 hb hgr HB1;obtain⟨r0r,r0f,r0n,r0c,r0z,r0l⟩:=keep1 (bW w4) r0r (by simp[recA]) r0f;have hu:=HUP.out;have E:=qH (EUP.out hu);clear EUP;go_upto_region 14 with fail
 go_cut [76] (fun v wx=>v=.bool false∧Hid (Below w4.heap.size w4 wx))
 case first=>
  have c1:¬d.running<0:=fun h=>HRG.out (.inl h);have c2:¬1<d.running:=fun h=>HRG.out (.inr (.inl h));by_cases c3:d.running=r.active
  ·have q1:(d.running !=r.active)=false:=by simp[c3]
   exact x35y
  have q1:(d.running !=r.active)=true:=by simp[c3]
  have c4:r.trying=true:=by cases h:r.trying;exact absurd (.inr (.inr ⟨c3,h⟩)) HRG.out;rfl
  exact x35y
 case rest=>
 obtain⟨rfl,hb⟩:=hcut;obtain⟨a0r,a0f,a0n,a0c,a0z,a0l⟩:=keep1 (g:=g) (cs:=devA d L) hb.out a0r (by go_simp) a0f;obtain⟨r0r,r0f,r0n,r0c,r0z,r0l⟩:=keep1 (g:=gr) (cs:=recA r) hb.out r0r (by simp[recA]) r0f;have HB3:=bT HB2 hb.out;clear hb;go_wp2_with fail;refine(chkList_calls L.ag L.cg d.got _ HIN.out.lg (HIN.out.got.stays HB3.out)).mono ?_;rintro e w2 ⟨rfl,hb⟩;obtain⟨a0r,a0f,a0n,a0c,a0z,a0l⟩:=keep1 (g:=g) (cs:=devA d L) hb a0r (by go_simp) a0f;obtain⟨r0r,r0f,r0n,r0c,r0z,r0l⟩:=keep1 (g:=gr) (cs:=recA r) hb r0r (by simp[recA]) r0f;have HB4:=bT HB3 hb;clear hb HB3 HB2;rw[HGT.out];have c2:=HBZ.out;have E1:=qH (E.out.trans (devUp_busy HRG.out HGT.out c2));clear E HRG HGT;go_upto_region 23 with fail
 obtain⟨a',ha',ha2⟩:∃a':Nat,ka+a'=1∧a'<=1:=⟨1-ka,by omega,by omega⟩;have hsub:(1:Int)-(ka:Int)=(a':Int):=by omega
 have hwr:IntKind.i64.wrap ((1:Int)-(ka:Int))=(a':Int):=by rw[hsub];exact IntWalk.i64_in _ (by omega)
 obtain⟨bad,hbad⟩:∃b,decide (r.trying=true∨d.job.to_<r.floor∨d.job.from_≠(r.at_ r.active).ver∨(r.at_ (1-r.active)).ver≠0)=b:=⟨_,rfl⟩;have HBAD:=qH hbad;have hbad1:=hbad;rw[HA.out,hsub]at hbad1;have HBAD1:=qH hbad1;clear hbad hbad1;go_cut [127] (fun v wx=>v=.bool bad∧Hid (Below w2.heap.size w2 wx))
 case first=>
  have ha:=HA.out;have pv:=recA_ver r ha1;have pv1:=recA_ver r ha2;have z1:=(at_sizes HOK.out (a':Int)).2.2;have k1:(0:Int)<=(ka:Int):=by omega
  have k2:(ka:Int)<2:=by omega
  have k3:¬(2:Int)<=(ka:Int):=by omega
  have k4:(0:Int)<=(a':Int):=by omega
  have k5:(a':Int)<2:=by omega
  have k6:¬(2:Int)<=(a':Int):=by omega
  clear HBAD
  cases c3:r.trying
  ·by_cases c4:d.job.to_<r.floor
   ·have hres:bad=true:=by rw[<-HBAD1.out];exact decide_eq_true (.inr (.inl c4))
    have q1:decide (d.job.to_<r.floor)=true:=decide_eq_true c4;clear c4 pv pv1;exact x0af
   ·have q2:decide (d.job.to_<r.floor)=false:=decide_eq_false c4;generalize (r.at_ (ka:Int)).ver=x1 at *
    generalize (r.at_ (a':Int)).ver=x2 at *
    by_cases c5:d.job.from_=x1
    ·have q1:(d.job.from_ !=x1)=false:=by simp[c5]
     by_cases c6:x2=0
     ·have hres:bad=false:=by rw[<-HBAD1.out];exact decide_eq_false (by rintro (h|h|h|h);rw[c3]at h;cases h;exact c4 h;exact h c5;exact h c6)
      have q3:(x2 !=0)=false:=by simp[c6]
      clear c4 c5 c6;exact x0af
     have hres:bad=true:=by rw[<-HBAD1.out];exact decide_eq_true (.inr (.inr (.inr c6)))
     have q3:(x2 !=0)=true:=by simp[c6]
     clear c4 c5 c6;exact x0af
    have q1:(d.job.from_ !=x1)=true:=by simp[c5]
    have hres:bad=true:=by rw[<-HBAD1.out];exact decide_eq_true (.inr (.inr (.inl c5)))
    clear c4 c5 pv1;exact x0af
  have hres:bad=true:=by rw[<-HBAD1.out];exact decide_eq_true (.inl c3)
  clear pv pv1;exact x0af
 case rest=>
 obtain⟨rfl,hb⟩:=hcut;obtain⟨a0r,a0f,a0n,a0c,a0z,a0l⟩:=keep1 (g:=g) (cs:=devA d L) hb.out a0r (by go_simp) a0f;obtain⟨r0r,r0f,r0n,r0c,r0z,r0l⟩:=keep1 (g:=gr) (cs:=recA r) hb.out r0r (by simp[recA]) r0f;have HB2:=bT HB4 hb.out;clear hb HB4 HBAD1
 cases hbd:bad
 case true=>
  have hz:Hid (n=3):=qH (E1.out.trans (devBusy_form (of_decide_eq_true (HBAD.out.trans hbd))));clear hbd;exact x73o
 have hnf:=of_decide_eq_false (HBAD.out.trans hbd);have hrest:=E1.out.trans (devBusy_rest hnf);clear hbd HBAD E1 hnf;obtain⟨img,himg⟩:=eX (d.image r.active r);rw[himg]at hrest;have hil:img.length<=64:=by
  exact x0wh
 rw[HA.out]at himg;rw[HA.out,hsub]at hrest;have hpok:=@patDo_ok (sumOn 1) d.job img;obtain⟨⟨b,en⟩,hpd⟩:∃x,patDo (sumOn 1) d.job img=x:=⟨_,rfl⟩;rw[hpd]at hrest hpok;have HBL:Hid (en=0->b.length<=64∧(b.length:Int)=d.job.size∧d.job.size<=64):=qH (fun e=>by
  exact x2v6)
 dsimp only at hrest;have HR1:=qH hrest;have HPD:=qH hpd;have KI:Hid (∀wq,Below wc.heap.size wc wq->Calls Tryz.prog 38 #[.agg (devA d L),iv (ka:Int),.agg (recA r)] wq (ImRet wq img)):=qH (fun wq h=>by
  rw[<-himg];exact HIM.out wq (ka:Int) (by omega) ((HIN.out.stays HB2.out).stays h) (at_sizes HOK.out _).1 (at_sizes HOK.out _).2.1)
 clear hrest hpok hpd himg hsub;have RD:Hid (rowOf wc g=devA d L):=qH a0r;have FD:Hid (frOf wc g=(0,0)):=qH a0f;have RR:Hid (rowOf wc gr=recA r):=qH r0r;have FR:Hid (frOf wc gr=(0,0)):=qH r0f;have KD:Hid (∀wq A c,Below wc.heap.size wc wq->img.length<=c->Bts wq A img->Calls Tryz.prog 37 #[.agg (patA d.job.from_ d.job.to_ d.job.old d.job.new_ d.job.size L.aj d.job.ops.length L.cj),.slice A img.length c] wq (ByRet2 wq b en)):=qH (fun wq A c h hc hb=>by
  have hq:=patDo_calls L.aj A L.cj c d.job img wq hc (by omega) hb ((HIN.out.job.stays HB2.out).stays h);rw[HPD.out]at hq;exact hq)
 go_wp2_with fail;have hq2:=fun v (h:Below wc.heap.size wc v)=>keep1 h RD.out (by go_simp) FD.out;have hq1:=fun v (h:Below wc.heap.size wc v)=>keep1 h RR.out (by simp[recA]) FR.out;have hf1:=HA.out
 go_region_held3 (fun v=>Below wc.heap.size wc v) (first|exact hbb|exact(Below.refl _ _).drew)
  (first
    |(go_at_call 38;refine(KI.out _ (by assumption)).mono ?_;rintro e wj ⟨Aj,cj,rfl,h3,h4,h5⟩;have hbb:=(bW wc).drew.trans (h5.mono (by simp)))
    |(go_at_call 37;refine(KD.out _ _ _ (by assumption) h3 h4).mono ?_;rintro e w8 ⟨A2,c2',rfl,g1,g2,g9⟩;have hbb:=hbb.trans (g9.mono hbb.size)))
 have g3:=hbb;clear hbb g9 h3 h4 h5 hq2 hq1 hf1;obtain⟨a0r,a0f,a0n,a0c,a0z,a0l⟩:=keep1 (g:=g) (cs:=devA d L) g3 a0r (by go_simp) a0f;obtain⟨r0r,r0f,r0n,r0c,r0z,r0l⟩:=keep1 (g:=gr) (cs:=recA r) g3 r0r (by simp[recA]) r0f;have HB3:Hid (Below w.heap.size w w8):=qH (HB2.out.trans (g3.mono HB2.out.size));have HBB:=qH g1;have HC1:=qH g2;clear g1 g2 g3 KI KD RD FD RR FR HIM HB2 HPD;by_cases c1:en=0
 case neg=>
  have q:(en !=0)=true:=by simp[c1]
  have hz:Hid (n=en):=qH (HR1.out.trans (if_pos c1));clear c1;exact x73o
 subst c1;obtain⟨b1,b2,b3⟩:=HBL.out rfl;have HR2:=qH (HR1.out.trans (if_neg (by decide)));have hw1:IntKind.i64.wrap (d.job.size+8)=d.job.size+8:=IntWalk.i64_in _ (by omega);have HB1:=qH b1;clear HR1 HBL b2;go_upto_region 28 with fail
 obtain⟨bad1,hbad1⟩:∃b,decide (d.done<0∨64<d.done∨d.done%8≠0∨d.job.size+8<=d.done)=b:=⟨_,rfl⟩;have HBAD:=qH hbad1;clear hbad1 b1 b3;go_cut [168] (fun v wx=>v=.bool bad1∧Hid (Below w8.heap.size w8 wx))
 case first=>
  by_cases c1:d.done<0
  ·have hres:bad1=true:=by rw[<-HBAD.out];exact decide_eq_true (.inl c1)
   exact x74k
  have hmod:d.done.tmod 8=d.done%8:=Int.tmod_eq_emod_of_nonneg (by omega);by_cases c2:64<d.done
  ·have hres:bad1=true:=by rw[<-HBAD.out];exact decide_eq_true (.inr (.inl c2))
   have q:(d.s0.length:Int)<d.done:=by have:=HL2.out;omega
   clear c2;exact x74k
  have q1:¬(d.s0.length:Int)<d.done:=by have:=HL2.out;omega
  by_cases c3:d.done%8=0
  case neg=>
   have hres:bad1=true:=by rw[<-HBAD.out];exact decide_eq_true (.inr (.inr (.inl c3)))
   have q2:(d.done.tmod 8 !=0)=true:=by rw[hmod];simp[c3]
   clear hmod;exact x74k
  have q2:(d.done.tmod 8 !=0)=false:=by rw[hmod];simp[c3]
  by_cases c4:d.job.size+8<=d.done
  ·have hres:bad1=true:=by rw[<-HBAD.out];exact decide_eq_true (.inr (.inr (.inr c4)))
   clear hmod;exact x74k
  have hres:bad1=false:=by rw[<-HBAD.out];exact decide_eq_false (by omega)
  clear hmod;exact x74k
 case rest=>
 obtain⟨rfl,hb⟩:=hcut;obtain⟨a0r,a0f,a0n,a0c,a0z,a0l⟩:=keep1 (g:=g) (cs:=devA d L) hb.out a0r (by go_simp) a0f;obtain⟨r0r,r0f,r0n,r0c,r0z,r0l⟩:=keep1 (g:=gr) (cs:=recA r) hb.out r0r (by simp[recA]) r0f;have HB2:=bT HB3 hb.out;have HBB:=qH (HBB.out.stays hb.out);clear hb HB3 hw1
 cases hbd:bad1
 case true=>
  have hz:Hid (n=2):=qH (HR2.out.trans (if_pos (of_decide_eq_true (HBAD.out.trans hbd))));clear hbd;exact x73o
 have hnb:=of_decide_eq_false (HBAD.out.trans hbd);have HR1:=qH (HR2.out.trans (if_neg hnb));obtain⟨dn',hdn⟩:∃dn':Nat,d.done=(dn':Int):=⟨d.done.toNat,by omega⟩;have hdt:d.done.toNat=dn':=by omega
 rw[hdt]at HR1;have hd1:dn'<=64:=by omega
 have HDN:=qH hdn;clear hbd HBAD HR2 hnb hdt;have hsl:=slot_len HL2.out HL1.out (a':Int);obtain⟨A1,c3,p1,p2,p3⟩:=devSlotA (HIN.out.stays HB2.out) ha2;generalize d.slot (a':Int)=sl at *
 have HP1:=qH p1;have HX:=qH p3;obtain⟨bx,ox,hax,-⟩:=p3 0 (by omega);have HSL:=qH (pre_slice (A:=A1) (n:=sl.length) (c:=c3) dn' hdn p2 (by omega) (by omega) ⟨bx,ox,hax⟩);have hrl:=room_len HB1.out;obtain⟨eq,heq⟩:=eX (decide (sl.take dn'=(room b).take dn'));have hlt1:(sl.take dn').length=dn':=by rw[List.length_take,hsl];omega
 have hlt2:((room b).take dn').length=dn':=by rw[List.length_take,hrl];omega
 have KQ:Hid (∀wq A c,Below wc.heap.size wc wq->Bts wq A ((room b).take dn')->Calls Tryz.prog 39 #[.slice A1 dn' c3,.slice A dn' c] wq (RetN wq (.bool eq))):=qH (fun wq A c h hb=>by
  have hq:=equalBytes_calls A1 A c3 c (sl.take dn') ((room b).take dn') wq (by omega) (by omega) (mid_take (HX.out.stays h) dn') hb;rw[heq,hlt1,hlt2]at hq;exact hq)
 have HQ:=qH heq;have HRL:=qH hrl;obtain⟨rb,hrb⟩:=eX (room b);rw[hrb]at KQ HQ HRL HR1;have HRB:=qH hrb;have HKS:Hid ((0:Int)<=(a':Int)∧(a':Int)<2∧¬(2:Int)<=(a':Int)∧IntKind.i64.wrap ((1:Int)-(ka:Int))=(a':Int)):=qH ⟨by omega,by omega,by omega,hwr⟩;clear hsl p1 p2 p3 hax hrl heq hlt1 hlt2 hrb hwr hdn;go_wp2_with fail;have RD:Hid (rowOf wc g=devA d L):=qH a0r;have FD:Hid (frOf wc g=(0,0)):=qH a0f;have RR:Hid (rowOf wc gr=recA r):=qH r0r;have FR:Hid (frOf wc gr=(0,0)):=qH r0f;refine wp_region_mix (by kernel_rfl) (some 169::some 170::some 171::some 172::some 173::some 174::some 175::some 176::some 177::some 178::some 179::some 180::some 181::some 182::some 183::some 184::[]) (none::none::none::none::none::none::none::none::none::none::some 0::none::none::some 1::some 2::some 3::[]) (.pointer (some ⟨gr,1,none⟩)::iv (ka:Int)::iv (a':Int)::.pointer (some ⟨g,0,none⟩)::.pointer (some ⟨g,a',none⟩)::.slice A1 sl.length c3::.pointer (some ⟨g,36,none⟩)::iv d.done::.slice A1 dn' c3::.slice A2 b.length c2'::undef::.pointer (some ⟨g,36,none⟩)::iv d.done::undef::undef::undef::[]) 4 (rmJ wc rb dn' eq) 185 rfl rfl (by decide+kernel) (by decide+kernel) (by decide+kernel) (by decide+kernel) rfl rfl (by decide+kernel) (by decide+kernel) (rfl) ?_ ?_
 ·refine⟨?_,?_,?_,?_,?_,?_,?_,?_,?_,?_,?_,?_,?_,?_,?_,?_,trivial⟩
  ·exact x1xc
  ·intro done cv k2 a wq hw h hJ hn;have e1:=mN 0 169 h hw;exact x0t0
  ·intro done cv k1 a wq hw h hJ hn;have e1:=mN 1 170 h hw;exact x2qu
  ·exact x4wi
  ·intro done cv k1 a wq hw h hJ hn;have e1:=mN 3 172 h hw;have e171:=mN 2 171 h hw;exact x2qu
  ·intro done cv k2 a wq hw h hJ hn;have e1:=mN 4 173 h hw;have y_:=kq (rmJ_bel hJ) RD FD;have e_:=HP1.out;go_simp
  ·exact x4qs
  ·intro done cv k2 a wq hw h hJ hn;have e1:=mN 6 175 h hw;exact x8u2
  ·intro done cv k1 a wq hw h hJ hn;have e1:=mN 5 174 h hw;have e176:=mN 7 176 h hw;have hs_:=HSL.out;go_simp
  ·intro done cv k2 a wq hw h hJ hn;have e1:=mO 9 (.slice A2 b.length c2') h;exact mx_move (ch_ev e1)
  ·intro done cv a wq hw h hJ;have e1:=mN 9 178 h hw;obtain rfl:wq=wc.drew:=hJ;refine wp_call (vals:=#[.slice A2 b.length c2']) (by rw[List.map_toArray,List.map_cons,List.map_nil,ch_ev e1]) (enters_of Tryz.func21 (by kernel_rfl) rfl _ _) (room_calls A2 c2' b _ HB1.out (HBB.out.stays (Below.refl _ _).drew)) ?_;rintro e w' ⟨A2,c4,rfl,hown,hbel⟩;rw[HRB.out]at hown⊢;exact⟨_,rfl,_,rfl,A2,c4,by simp,hown.src.bts,hown.le,(Below.refl _ _).drew.trans hbel⟩
  ·exact x4qs
  ·intro done cv k2 a wq hw h hJ hn;have e1:=mN 11 180 h hw;exact x8u2
  ·intro done cv a wq hw h hJ;have e1:=mx_cv (i:=10) (t:=179) h (hw 10 (by decide)) rfl rfl;have e181:=mN 12 181 h hw;obtain⟨A2,c4,y1,g1,g2,g3⟩:=hJ;rw[y1]at e1;obtain⟨by_,oy_,hay,-⟩:=g1 0 (by rw[HRL.out];omega);have hs_:=pre_slice (z:=d.done) dn' HDN.out g2 (by rw[HRL.out];omega) (by rw[HRL.out];omega) ⟨by_,oy_,hay⟩;clear hay;refine wp_val (v:=.slice A2 dn' c4) (by go_simp) ⟨_,rfl,A2,c4,by simp,mid_take g1 dn',by rw[HRL.out]at g2;omega,g3⟩
  ·intro done cv a wq hw h hJ;have e1:=mN 8 177 h hw;have e182:=mx_cv (i:=13) (t:=182) h (hw 13 (by decide)) rfl rfl;obtain⟨A2,c4,y1,g1,g2,g3⟩:=hJ;rw[y1]at e182;refine wp_call (vals:=#[.slice A1 dn' c3,.slice A2 dn' c4]) (by rw[List.map_toArray,List.map_cons,List.map_cons,List.map_nil,ch_ev e1,ch_ev e182]) (enters_of Tryz.func39 (by kernel_rfl) rfl _ _) (KQ.out _ _ _ g3 g1) ?_;rintro e w' ⟨rfl,m,rfl⟩;exact⟨_,rfl,_,rfl,by simp,Below.drewN' g3 m⟩
  ·intro done cv a wq hw h hJ;have e1:=mx_cv (i:=14) (t:=183) h (hw 14 (by decide)) rfl rfl;exact x8jo
 intro cv1 w3 hJ;obtain⟨y1,hb⟩:=hJ;simp only[mixAll,putAll_some,putAll_none,putAll_nil,List.getElem?_cons_zero,List.getElem?_cons_succ,Nat.zero_add,Nat.reduceAdd,List.setIfInBounds_toArray,List.set_cons_zero,List.set_cons_succ];rw[y1];have HB3:=bT HB2 hb;clear hb y1
 cases eq
 ·have hz:Hid (n=3):=qH (HR1.out.trans (if_pos (by have:=HQ.out;simpa using this)));exact x73o
 have hz:Hid (n=0):=qH (HR1.out.trans (if_neg (by have:=HQ.out;simpa using this)));exact x73o
theorem devCheck_calls(d:Dev)(L:DLoc)(w:World)(h:DevIn w d L):Calls Tryz.prog 7 #[.agg (devA d L)] w (RetB w (iv (devCheck d))):=by
 by_cases hA:d.s0.length=64∧d.s1.length=64∧copCheck d.c0 d.c1=0∧d.up=true
 case neg=>exact devCheck_off_ d L w h hA
 obtain⟨h2,h1,hc,hu⟩:=hA;by_cases hB:d.busy=false∨(d.running<0∨1<d.running∨(d.running≠d.rec_.active∧d.rec_.trying=false))∨chkList d.got≠0
 ·exact devCheck_idle_ d L w h h2 h1 hc hu hB
 refine devCheck_busy_ d L w h h2 h1 hc hu ?_ (fun h=>hB (.inr (.inl h))) (Decidable.not_not.1 fun h=>hB (.inr (.inr h)))
 cases e:d.busy
 ·exact absurd (.inl e) hB
 rfl
theorem x6wy(h:Y:=by
 obtain rfl:k=l.length:=by omega
 have dl:decide ((l.length:Int)<(l.length:Int))=false:=by simp
 go_wp2_with fail;go_ret;exact⟨A1,c1,ds,rfl,HR.out,fun i o d h1 h2 hx q hq=>HN.out i o d (List.getElem?_eq_some_iff.1 h1).1 h1 h2 hx q hq,HB.out⟩):Y:=h
theorem x9r5(h:Y:=by
 rw[List.getElem?_set]at h2;by_cases hjk:k=j
 ·by_cases hdl:k<ds.length
  ·rw[if_pos hjk,if_pos hdl]at h2;injection h2 with h2;subst h2;have:=hgw q hq;omega
  ·rw[if_pos hjk,if_neg hdl]at h2;cases h2
 rw[if_neg hjk]at h2;exact HN.out j o d' (by omega) h1 h2 hx q hq):Y:=h
def KrRet{α:Type}(K:Kd α)(w:World)(l:List α):Ending->World->Prop:=fun en w'=>
 ∃A c ds,en=.returned (.slice A l.length c)∧GRow K w' w.heap.size l ds A c∧Each K l ds (fun k=>w.heap.size<=k)∧Below w.heap.size w w'
theorem opsCopy_calls(A:OA)(c:Nat)(l:List Stp)(w:World)(hl:l.length<=3518437208780)(hs:Sps w A l):
  Calls Tryz.prog 107 #[.slice A l.length c] w (KrRet kOp w l):=by
 obtain⟨ds1,hg⟩:=hs.gsrc;have hbd:=hs.bound;have HBD:=qH hbd;have HG:=qH hg;have K1:=qH (cloneOps_calls A l.length c (kOp.cells l ds1) w (cells_len _ _ hg.len) (by omega) hg.row (cells_oneCell _ _));clear hs hg hbd;go_enter Tryz.func107,Tryz.ntmps107;go_wp2_with fail;refine K1.out.mono ?_;rintro e w1 ⟨A1,c1,rfl,hown,hb1⟩;have hrow:GRow kOp w1 w.heap.size l ds1 A1 c1:=⟨HG.out.len,hown,(HG.out.stays hb1).data,fun i o d h1 h2 hx k hk e=>by
  have:=HG.out.each i o d h1 h2 hx k hk;have:=(hown.block k e).1;omega⟩
 have HR1:=qH hrow;have HB1:Hid (Below w.heap.size w w1):=qH hb1;clear hown hb1 hrow K1;go_wp2_with fail;go_loopw [9] (fun i wr=>∃(k:Nat) (ds:List (Option Addr×Nat)),k<=l.length∧i=iv k∧Hid (GRow kOp wr w.heap.size l ds A1 c1)∧Hid (∀(j:Nat) (o:Stp) (d:Option Addr×Nat),j<k->l[j]?=some o->ds[j]?=some d->kOp.dat o≠[]->∀q,d.1.map (·.block)=some q->w.heap.size<=q)∧Hid (Below w.heap.size w wr)) (fun i _=>l.length-(intOf i).toNat)
 case atStart=>exact⟨0,ds1,Nat.zero_le _,rfl,HR1,qH (fun j o d h=>by omega),HB1⟩
 case round=>
  clear HR1 HB1;rename World=>wr;obtain⟨k,ds,hk,rfl,HR,HN,HB⟩:=hrel;have hsz:=HB.out.size;by_cases hlt:k<l.length
  ·obtain⟨g,rfl,hg1,hg2⟩:=HR.out.row.form (by omega);have hlk:l[k]?=some l[k]:=List.getElem?_eq_getElem hlt;have hdk:ds[k]?=some (ds[k]'(by have:=HR.out.len;omega)):=List.getElem?_eq_getElem _;obtain⟨x,hx⟩:=eX (l[k]);obtain⟨e,he⟩:=eX (ds[k]'(by have:=HR.out.len;omega));rw[hx]at hlk;rw[he]at hdk;have hcell:∀j,j<3->wr.cell? ⟨g,k*3+j,none⟩=(kOp.cell x e)[j]?:=fun j hj=>by
    rw[HR.out.row.cellAt _ (show k*3+j<l.length*3 by omega)];exact cells_at (K:=kOp) l ds HR.out.len k j x e hlk hdk hj
   have q3:wr.cell? ⟨g,k*3,none⟩=some (iv x.at_):=hcell 0 (by decide);have q1:wr.cell? ⟨g,k*3+1,none⟩=some (iv x.len):=hcell 1 (by decide);have q2:wr.cell? ⟨g,k*3+2,none⟩=some (.slice e.1 x.data.length e.2):=hcell 2 (by decide);obtain⟨hd1,hd2⟩:=HR.out.data k x e hlk hdk;have hxl:x.data.length<=140737488351232:=(HBD.out x (List.mem_of_getElem? hlk)).2.2;have HD1:Hid (Bts wr e.1 x.data):=qH hd1;have HLK:=qH hlk;have HDK:=qH hdk;have K1:=qH (fun w h=>cloneBytes_calls e.1 x.data.length e.2 (x.data.map bv) w (by simp) (by omega) h (bv_one _));have hfr:wr.frozen? ⟨g,k*3+2,none⟩=false:=HR.out.row.frozenAt _;have dl:decide ((k:Int)<(l.length:Int))=true:=decide_eq_true (by omega);have hwk:IntKind.i64.wrap ((k:Int)+1)=(k:Int)+1:=IntWalk.i64_in _ (by omega);have hcap:(l.length:Int)<=(c1:Int):=by have:=HR.out.row.le;omega
   clear hcell hx he hlk hdk hd1 hd2;go_wp2_with fail;have hba:=(bW wr).alloc nl (.cells (#[iv x.at_,iv x.len,.slice e.1 x.data.length e.2]) 121);refine(K1.out _ (HD1.out.stays hba).src).mono ?_;rintro en w2 ⟨B,d,rfl,hob,hb1⟩;have hb2:=hba.trans (hb1.mono (by simp));have HR1:=qH (HR.out.below hb2);have hq1:w2.cell? ⟨g,k*3+2,none⟩=some (.slice e.1 x.data.length e.2):=(hb2.cell (p:=⟨g,k*3+2,none⟩) hg2).trans q2;have hf1:w2.frozen? ⟨g,k*3+2,none⟩=false:=(hb2.frozen (p:=⟨g,k*3+2,none⟩) hg2).trans hfr;have HBB:Hid (Below w.heap.size w (w2.setCell ⟨g,k*3+2,none⟩ (.slice B x.data.length d))):=qH ((HB.out.trans (hb2.mono hsz)).setCell (p:=⟨g,k*3+2,none⟩) hg1 _);have hgw:∀q,B.map (·.block)=some q->wr.heap.size+1<=q:=fun q h=>by have:=(hob.block q h).1;simpa using this
   have HR2:Hid (GRow kOp (w2.setCell ⟨g,k*3+2,none⟩ (.slice B x.data.length d)) w.heap.size l (ds.set k (B,d)) (some ⟨g,0,none⟩) c1):=qH (HR1.out.setData (e:=(B,d)) HLK.out hob.src.bts (by show x.data.length<=d;simpa using hob.le) (fun _ q h e2=>by have:=hgw q h;omega));have HN1:Hid (∀(j:Nat) (o:Stp) (d':Option Addr×Nat),j<k+1->l[j]?=some o->(ds.set k (B,d))[j]?=some d'->kOp.dat o≠[]->∀q,d'.1.map (·.block)=some q->w.heap.size<=q):=qH (fun j o d' hj h1 h2 hx q hq=>by
    exact x9r5)
   have a1:=kp (wr.heap.size) (#[iv x.at_,iv x.len,.slice e.1 x.data.length e.2]) hb1;clear hob hb1 hb2 hba q3 q1 q2 hfr hgw a1;go_wp2_with fail;go_roundw
   case rel=>exact⟨k+1,ds.set k (B,d),by omega,by go_num,HR2,HN1,HBB⟩
   case measure=>simp[intOf];omega
  exact x6wy
def PcRet(w:World)(p:Pat):Ending->World->Prop:=fun en w'=>
 ∃A c,en=.returned (.agg (patA p.from_ p.to_ p.old p.new_ p.size A p.ops.length c))∧Fresh w.heap.size w' (fun v=>PatIn v p A c)∧Below w.heap.size w w'
theorem patCopy_calls(B:OA)(d:Nat)(p:Pat)(w:World)(hp:PatIn w p B d):
  Calls Tryz.prog 88 #[.agg (patA p.from_ p.to_ p.old p.new_ p.size B p.ops.length d)] w (PcRet w p):=by
 obtain⟨f,t,o,n,sz,l⟩:=p;obtain⟨hcap,hlen,hops,j5,j1,j2,j3,j4⟩:=hp;dsimp only at *
 have hba:=((bW w).alloc nl (.cells (patA f t o n sz B l.length d) 35)).alloc (by simp) (.cells (patA 0 0 0 0 0 none 0 0) 35);have HBD:=qH hops.bound;have HS:=qH hops;have HI:Hid (I64 f∧I64 t∧I64 o∧I64 n∧I64 sz):=qH ⟨j5,j1,j2,j3,j4⟩;have HBA:=qH hba;clear hops hba j5 j1 j2 j3 j4;go_enter Tryz.func88,Tryz.ntmps88;go_wp2_with fail;refine(opsCopy_calls B d l _ hlen (HS.out.stays HBA.out)).mono ?_;rintro e w1 ⟨A1,c1,ds,rfl,hg,he,hb1⟩;have a2:=kp (w.heap.size) (patA f t o n sz B l.length d) hb1;have a1:=kp (w.heap.size+1) (patA 0 0 0 0 0 none 0 0) hb1;have HB1:=bT HBA hb1;have hfr:=hg.fresh he;have HF:Hid (Fresh (w.heap.size+2) w1 (fun v=>GRow kOp v (w.heap.size+2) l ds A1 c1)):=qH (by simpa using hfr);have HC:=qH hg.row.le;clear hb1 hg he hfr;go_wp2_with fail;refine bodyPost_ret (results_c rfl rfl (cs:=patA f t o n sz A1 l.length c1) (by go_simp) (by go_simp) (by go_simp)) rfl ?_;refine⟨A1,c1,rfl,?_,?_⟩
 ·refine Fresh.imp (P:=fun v=>GRow kOp v (w.heap.size+2) l ds A1 c1) (Fresh.mono (base:=w.heap.size+2) ?_ (by omega)) (fun v hv=>⟨HC.out,hlen,hv.src.sps HBD.out,HI.out.1,HI.out.2.1,HI.out.2.2.1,HI.out.2.2.2.1,HI.out.2.2.2.2⟩);repeat (first|exact HF.out|refine Fresh.row ?_ (by omega) _|refine Fresh.cell ?_ (by simp) _)
 exact bZ HB1
theorem chkCopy_calls(A:OA)(c:Nat)(l:List Chk)(w:World)(hl:l.length<=2513169434843)(hs:Chs w A l):
  Calls Tryz.prog 82 #[.slice A l.length c] w (KrRet kChk w l):=by
 obtain⟨ds1,hg⟩:=hs.gsrc;have hbd:=hs.bound;have HBD:=qH hbd;have HG:=qH hg;have K1:=qH (cloneChunks_calls A l.length c (kChk.cells l ds1) w (cells_len _ _ hg.len) (by omega) hg.row (cells_oneCell _ _));clear hs hg hbd;go_enter Tryz.func82,Tryz.ntmps82;go_wp2_with fail;refine K1.out.mono ?_;rintro e w1 ⟨A1,c1,rfl,hown,hb1⟩;have hrow:GRow kChk w1 w.heap.size l ds1 A1 c1:=⟨HG.out.len,hown,(HG.out.stays hb1).data,fun i o d h1 h2 hx k hk e=>by
  have:=HG.out.each i o d h1 h2 hx k hk;have:=(hown.block k e).1;omega⟩
 have HR1:=qH hrow;have HB1:Hid (Below w.heap.size w w1):=qH hb1;clear hown hb1 hrow K1;go_wp2_with fail;go_loopw [9] (fun i wr=>∃(k:Nat) (ds:List (Option Addr×Nat)),k<=l.length∧i=iv k∧Hid (GRow kChk wr w.heap.size l ds A1 c1)∧Hid (∀(j:Nat) (o:Chk) (d:Option Addr×Nat),j<k->l[j]?=some o->ds[j]?=some d->kChk.dat o≠[]->∀q,d.1.map (·.block)=some q->w.heap.size<=q)∧Hid (Below w.heap.size w wr)) (fun i _=>l.length-(intOf i).toNat)
 case atStart=>exact⟨0,ds1,Nat.zero_le _,rfl,HR1,qH (fun j o d h=>by omega),HB1⟩
 case round=>
  clear HR1 HB1;rename World=>wr;obtain⟨k,ds,hk,rfl,HR,HN,HB⟩:=hrel;have hsz:=HB.out.size;by_cases hlt:k<l.length
  ·obtain⟨g,rfl,hg1,hg2⟩:=HR.out.row.form (by omega);have hlk:l[k]?=some l[k]:=List.getElem?_eq_getElem hlt;have hdk:ds[k]?=some (ds[k]'(by have:=HR.out.len;omega)):=List.getElem?_eq_getElem _;obtain⟨x,hx⟩:=eX (l[k]);obtain⟨e,he⟩:=eX (ds[k]'(by have:=HR.out.len;omega));rw[hx]at hlk;rw[he]at hdk;have hcell:∀j,j<5->wr.cell? ⟨g,k*5+j,none⟩=(kChk.cell x e)[j]?:=fun j hj=>by
    rw[HR.out.row.cellAt _ (show k*5+j<l.length*5 by omega)];exact cells_at (K:=kChk) l ds HR.out.len k j x e hlk hdk hj
   have q5:wr.cell? ⟨g,k*5,none⟩=some (iv x.from_):=hcell 0 (by decide);have q1:wr.cell? ⟨g,k*5+1,none⟩=some (iv x.to_):=hcell 1 (by decide);have q2:wr.cell? ⟨g,k*5+2,none⟩=some (iv x.n):=hcell 2 (by decide);have q3:wr.cell? ⟨g,k*5+3,none⟩=some (iv x.of_):=hcell 3 (by decide);have q4:wr.cell? ⟨g,k*5+4,none⟩=some (.slice e.1 x.data.length e.2):=hcell 4 (by decide);obtain⟨hd1,hd2⟩:=HR.out.data k x e hlk hdk;have hxl:x.data.length<=140737488351232:=(HBD.out x (List.mem_of_getElem? hlk)).1;have HD1:Hid (Bts wr e.1 x.data):=qH hd1;have HLK:=qH hlk;have HDK:=qH hdk;have K1:=qH (fun w h=>cloneBytes_calls e.1 x.data.length e.2 (x.data.map bv) w (by simp) (by omega) h (bv_one _));have hfr:wr.frozen? ⟨g,k*5+4,none⟩=false:=HR.out.row.frozenAt _;have dl:decide ((k:Int)<(l.length:Int))=true:=decide_eq_true (by omega);have hwk:IntKind.i64.wrap ((k:Int)+1)=(k:Int)+1:=IntWalk.i64_in _ (by omega);have hcap:(l.length:Int)<=(c1:Int):=by have:=HR.out.row.le;omega
   clear hcell hx he hlk hdk hd1 hd2;go_wp2_with fail;have hba:=(bW wr).alloc nl (.cells (chkA x.from_ x.to_ x.n x.of_ e.1 x.data.length e.2) 39);refine(K1.out _ (HD1.out.stays hba).src).mono ?_;rintro en w1 ⟨B,d,rfl,hob,hb1⟩;have hb2:=hba.trans (hb1.mono (by simp));have HR1:=qH (HR.out.below hb2);have hq1:w1.cell? ⟨g,k*5+4,none⟩=some (.slice e.1 x.data.length e.2):=(hb2.cell (p:=⟨g,k*5+4,none⟩) hg2).trans q4;have hf1:w1.frozen? ⟨g,k*5+4,none⟩=false:=(hb2.frozen (p:=⟨g,k*5+4,none⟩) hg2).trans hfr;have HBB:Hid (Below w.heap.size w (w1.setCell ⟨g,k*5+4,none⟩ (.slice B x.data.length d))):=qH ((HB.out.trans (hb2.mono hsz)).setCell (p:=⟨g,k*5+4,none⟩) hg1 _);have hgw:∀q,B.map (·.block)=some q->wr.heap.size+1<=q:=fun q h=>by have:=(hob.block q h).1;simpa using this
   have HR1:Hid (GRow kChk (w1.setCell ⟨g,k*5+4,none⟩ (.slice B x.data.length d)) w.heap.size l (ds.set k (B,d)) (some ⟨g,0,none⟩) c1):=qH (HR1.out.setData (e:=(B,d)) HLK.out hob.src.bts (by show x.data.length<=d;simpa using hob.le) (fun _ q h e2=>by have:=hgw q h;omega));have HN1:Hid (∀(j:Nat) (o:Chk) (d':Option Addr×Nat),j<k+1->l[j]?=some o->(ds.set k (B,d))[j]?=some d'->kChk.dat o≠[]->∀q,d'.1.map (·.block)=some q->w.heap.size<=q):=qH (fun j o d' hj h1 h2 hx q hq=>by
    exact x9r5)
   have a1:=kp (wr.heap.size) (chkA x.from_ x.to_ x.n x.of_ e.1 x.data.length e.2) hb1;clear hob hb1 hb2 hba q5 q1 q2 q3 q4 hfr hgw a1;go_wp2_with fail;go_roundw
   case rel=>exact⟨k+1,ds.set k (B,d),by omega,by go_num,HR1,HN1,HBB⟩
   case measure=>simp[intOf];omega
  exact x6wy
theorem x5ed(h:Y:=by
 have hk:=hn 10 _ 3 rfl rfl (by decide);obtain⟨hr,hf⟩:=dcJ_row hk HR.out HF.out hJ;have hc:=cell_row (w:=wq) (g:=g) (by rw[hr];simp[devA]);go_simp):Y:=h
theorem x81i(h:Y:=by
 have hk:=hn 7 _ 2 rfl rfl (by decide);obtain⟨hr,hf⟩:=dcK_row hk HR1.out HF1.out HG1.out hJ;have hc:=cell_row (w:=wq) (g:=g) (by rw[hr];simp[devA]);go_simp):Y:=h
def dcJ(w0:World)(g:Nat)(d:Dev)(L:DLoc):Nat->(Nat->Value)->World->Prop
 |0,_,w=>w=w0.drew
 |1,cv,w=>∃A5 c5,cv 3=.slice A5 d.s0.length c5∧Own w w0.heap.size 5 1 A5 d.s0.length c5 (d.s0.map bv)∧Below w0.heap.size w0 w
 |2,cv,w=>∃A5 c5 w1 A6 c6,cv 3=.slice A5 d.s0.length c5∧Own w1 w0.heap.size 5 1 A5 d.s0.length c5 (d.s0.map bv)∧Below w0.heap.size w0 w1∧cv 7=.slice A6 d.s1.length c6∧Own w w1.heap.size 5 1 A6 d.s1.length c6 (d.s1.map bv)∧Below w1.heap.size w1 w
 |3,cv,w=>∃A5 c5 w1 A6 c6,cv 8=.agg (slotsA A5 d.s0.length c5 A6 d.s1.length c6)∧Own w1 w0.heap.size 5 1 A5 d.s0.length c5 (d.s0.map bv)∧Below w0.heap.size w0 w1∧Own w w1.heap.size 5 1 A6 d.s1.length c6 (d.s1.map bv)∧Below w1.heap.size w1 w
 |_,_,w=>∃A5 c5 w1 A6 c6 w2,Own w1 w0.heap.size 5 1 A5 d.s0.length c5 (d.s0.map bv)∧Below w0.heap.size w0 w1∧Own w2 w1.heap.size 5 1 A6 d.s1.length c6 (d.s1.map bv)∧Below w1.heap.size w1 w2∧w=w2.setRow g (devA d {L with a0:=A5,c0:=c5,a1:=A6,c1:=c6})
theorem dcJ_row{w:World}{g k:Nat}{L:DLoc}{cv:Nat->Value}(hk:k<=3)(hr:rowOf w0 g=devA d L)(hf:frOf w0 g=(0,0))(hJ:dcJ w0 g d L k cv w):rowOf w g=devA d L∧frOf w g=(0,0):=by
 have hg:g<w0.heap.size:=row_lt (w:=w0) (by rw[hr];simp[devA]);have key:Below w0.heap.size w0 w->rowOf w g=devA d L∧frOf w g=(0,0):=fun hb=>⟨(rowOf_below hg hb).trans hr,(frOf_below hg hb).trans hf⟩
 match k,hk,hJ with
 |0,_,hJ=>obtain rfl:w=w0.drew:=hJ;exact key (Below.refl _ _).drew
 |1,_,⟨_,_,_,_,h⟩=>exact key h
 |2,_,⟨_,_,w1,_,_,_,_,h,_,_,h2⟩=>exact key (h.trans (h2.mono h.size))
 |3,_,⟨_,_,w1,_,_,_,_,h,_,h2⟩=>exact key (h.trans (h2.mono h.size))
def dcK(w0:World)(g:Nat)(d:Dev)(L:DLoc):Nat->(Nat->Value)->World->Prop
 |0,_,w=>w=w0.drew
 |1,cv,w=>∃A5 c5 ds,cv 2=.slice A5 d.got.length c5∧GRow kChk w w0.heap.size d.got ds A5 c5∧Each kChk d.got ds (fun k=>w0.heap.size<=k)∧Below w0.heap.size w0 w
 |2,cv,w=>∃A5 c5 ds w4 A6 c6,cv 2=.slice A5 d.got.length c5∧cv 5=.agg (patA d.job.from_ d.job.to_ d.job.old d.job.new_ d.job.size A6 d.job.ops.length c6)∧GRow kChk w4 w0.heap.size d.got ds A5 c5∧Each kChk d.got ds (fun k=>w0.heap.size<=k)∧Below w0.heap.size w0 w4∧
  Fresh w4.heap.size w (fun v=>PatIn v d.job A6 c6)∧Below w4.heap.size w4 w
 |3,cv,w=>∃A5 c5 ds w4 A6 c6 w5,cv 5=.agg (patA d.job.from_ d.job.to_ d.job.old d.job.new_ d.job.size A6 d.job.ops.length c6)∧GRow kChk w4 w0.heap.size d.got ds A5 c5∧Each kChk d.got ds (fun k=>w0.heap.size<=k)∧Below w0.heap.size w0 w4∧
  Fresh w4.heap.size w5 (fun v=>PatIn v d.job A6 c6)∧Below w4.heap.size w4 w5∧w=w5.setRow g (devA d {L with ag:=A5,cg:=c5})
 |_,_,w=>∃A5 c5 ds w4 A6 c6 w5,GRow kChk w4 w0.heap.size d.got ds A5 c5∧Each kChk d.got ds (fun k=>w0.heap.size<=k)∧Below w0.heap.size w0 w4∧
  Fresh w4.heap.size w5 (fun v=>PatIn v d.job A6 c6)∧Below w4.heap.size w4 w5∧w=w5.setRow g (devA d {L with ag:=A5,cg:=c5,aj:=A6,cj:=c6})
theorem dcK_row{w:World}{g k:Nat}{L:DLoc}{cv:Nat->Value}(hk:k<=2)(hr:rowOf w0 g=devA d L)(hf:frOf w0 g=(0,0))(hg:g<w0.heap.size)(hJ:dcK w0 g d L k cv w):rowOf w g=devA d L∧frOf w g=(0,0):=by
 have key:Below w0.heap.size w0 w->rowOf w g=devA d L∧frOf w g=(0,0):=fun hb=>⟨(rowOf_below hg hb).trans hr,(frOf_below hg hb).trans hf⟩
 match k,hk,hJ with
 |0,_,hJ=>obtain rfl:w=w0.drew:=hJ;exact key (Below.refl _ _).drew
 |1,_,⟨_,_,_,_,_,_,h⟩=>exact key h
 |2,_,⟨_,_,_,w1,_,_,_,_,_,_,h,_,h2⟩=>exact key (h.trans (h2.mono h.size))
theorem dcEnd{w1 w3 w4 w5 w':World}{L2:DLoc}{A5 A6 A7 A8:OA}{c5 c6 c7 c8:Nat}{ds:List (Option Addr×Nat)}(HIN:DevIn w0 d L2∨True)
  (hl:d.s0.length<=140737488351232∧d.s1.length<=140737488351232∧d.got.length<=2513169434843) (hi:I64 d.running∧I64 d.done) (hbd:∀x∈d.got,ChkB x)
  (h0:Own w3 w0.heap.size 5 1 A5 d.s0.length c5 (d.s0.map bv)) (h1:Own w3 w1.heap.size 5 1 A6 d.s1.length c6 (d.s1.map bv))
  (hbk:(∀k,A5.map (·.block)=some k->k<w1.heap.size)∧(∀k,A6.map (·.block)=some k->k<w3.heap.size)∧w0.heap.size<=w1.heap.size∧w1.heap.size<=w3.heap.size)
  (hg:Fresh w3.heap.size w4 (fun v=>GRow kChk v w3.heap.size d.got ds A7 c7)) (hf:Fresh w4.heap.size w5 (fun v=>PatIn v d.job A8 c8)) (b4:Below w3.heap.size w3 w4) (b5:Below w4.heap.size w4 w5) (hc:d.got.length<=c7)
  (he:L2.a0=A5∧L2.c0=c5∧L2.a1=A6∧L2.c1=c6) (hw:∀k,w0.heap.size<=k->w'.heap[k]?=w5.heap[k]?):DvOwn w' w0.heap.size d {L2 with ag:=A7,cg:=c7,aj:=A8,cj:=c8}:=by
 obtain⟨e1,e2,e3,e4⟩:=he;have s1:=b4.size;have hk:∀k,w0.heap.size<=k->k<w3.heap.size->w'.heap[k]?=w3.heap[k]?:=fun k h1 h2=>(hw k h1).trans (((b5.block k (by omega))).trans (b4.block k h2));refine⟨w1.heap.size,w3.heap.size,hbk.2.2.1,hbk.2.2.2,?_,?_,?_,?_,?_,?_,hl.1,hl.2.1,hc,hl.2.2,hi.1,hi.2⟩
 ·show Own w' _ _ _ L2.a0 _ L2.c0 _;rw[e1,e2];exact own_fresh h0 hk
 ·show ∀k,L2.a0.map (·.block)=some k->_;rw[e1];exact hbk.1
 ·show Own w' _ _ _ L2.a1 _ L2.c1 _;rw[e3,e4];exact own_fresh h1 (fun k h=>hk k (by have:=hbk.2.2.1;omega))
 ·show ∀k,L2.a1.map (·.block)=some k->_;rw[e3];exact hbk.2.1
 ·have g1:Fresh w3.heap.size w5 (fun v=>GRow kChk v w3.heap.size d.got ds A7 c7):=hg.below b5 nl;exact(g1.fresh (fun k h1 h2=>hw k (by have:=hbk.2.2;omega))).imp fun v hv=>hv.src.chs hbd
 exact(hf.mono s1).fresh (fun k h1 h2=>hw k (by have:=hbk.2.2;omega))
@[go_sem] theorem build_slots(a:OA)(k c:Nat)(b:OA)(m e:Nat)(w:World):runBuild Tryz.prog 23 #[(0,.slice a k c),(1,.slice b m e)] w=.ok (.agg (slotsA a k c b m e)) w:=by kernel_rfl
theorem devCopy_calls(d:Dev)(L:DLoc)(w:World)(h:DevIn w d L):Calls Tryz.prog 49 #[.agg (devA d L)] w (DcRet w d):=by
 have HI:=qH h;have HL:Hid (d.s0.length<=140737488351232∧d.s1.length<=140737488351232∧d.got.length<=2513169434843):=qH ⟨h.l0,h.l1,h.lg⟩;have HI1:Hid (I64 d.running∧I64 d.done):=qH ⟨h.ir,h.id⟩;have HBD:Hid (∀x∈d.got,ChkB x):=qH h.got.bound;clear h;go_enter Tryz.func49,Tryz.ntmps49;go_wp2_with fail;have q1:rowOf ((w.alloc (.cells (devA d L) 37)).alloc (.cells (devA Dev.zero DLoc.zero) 37)) w.heap.size=devA d L:=by go_simp
 have q2:frOf ((w.alloc (.cells (devA d L) 37)).alloc (.cells (devA Dev.zero DLoc.zero) 37)) w.heap.size=(0,0):=by go_simp
 have q3:rowOf ((w.alloc (.cells (devA d L) 37)).alloc (.cells (devA Dev.zero DLoc.zero) 37)) (w.heap.size+1)=devA Dev.zero DLoc.zero:=by go_simp
 have q4:frOf ((w.alloc (.cells (devA d L) 37)).alloc (.cells (devA Dev.zero DLoc.zero) 37)) (w.heap.size+1)=(0,0):=by go_simp
 obtain⟨w7,hw1⟩:=eX ((w.alloc (.cells (devA d L) 37)).alloc (.cells (devA Dev.zero DLoc.zero) 37));have HB1:Hid (Below w.heap.size w w7):=qH (by rw[<-hw1];exact(bL _).alloc (by simp) _);obtain⟨g,hg⟩:=eX (w.heap.size);rw[hw1,hg]at q1 q2 q3 q4;have HR:=qH q1;have HF:=qH q2;have HRz:=qH q3;have HFz:=qH q4;have HSZ:Hid (w7.heap.size=g+2):=qH (by rw[<-hw1,<-hg];simp);have HG:Hid (g<w7.heap.size):=qH (by rw[HSZ.out];omega);rw[hw1];rw[hg]at HB1⊢;have HGE:=qH hg;clear hw1 hg q1 q2 q3 q4;have HIN:Hid (DevIn w7 d L):=qH (HI.out.stays (HGE.out▸HB1.out));have K4:Hid (∀wq,Below w7.heap.size w7 wq->Calls Tryz.prog 83 #[.slice L.a0 d.s0.length L.c0] wq (SlRet wq 5 1 d.s0.length (d.s0.map bv))):=qH (fun wq h=>cloneBytes_calls _ _ _ _ wq (by simp) (by have:=HL.out.1;omega) (HIN.out.b0.stays h).src (bv_one _));have K1:Hid (∀wq,Below w7.heap.size w7 wq->Calls Tryz.prog 83 #[.slice L.a1 d.s1.length L.c1] wq (SlRet wq 5 1 d.s1.length (d.s1.map bv))):=qH (fun wq h=>cloneBytes_calls _ _ _ _ wq (by simp) (by have:=HL.out.2.1;omega) (HIN.out.b1.stays h).src (bv_one _));refine wp_region_mix (by kernel_rfl) (some 3::some 4::some 5::some 6::some 7::some 8::some 9::some 10::some 11::some 12::none::[]) (none::none::none::some 0::none::none::none::some 1::some 2::none::some 3::[]) (.pointer (some ⟨g,0,none⟩)::.pointer (some ⟨g,0,none⟩)::.slice L.a0 d.s0.length L.c0::undef::.pointer (some ⟨g,0,none⟩)::.pointer (some ⟨g,1,none⟩)::.slice L.a1 d.s1.length L.c1::undef::undef::.pointer (some ⟨g,0,none⟩)::undef::[]) 4 (dcJ w7 g d L) 22 rfl rfl (by decide+kernel) (by decide+kernel) (by decide+kernel) (by decide+kernel) rfl rfl (by decide+kernel) (by decide+kernel) (rfl) ?_ ?_
 ·refine⟨?_,?_,?_,?_,?_,?_,?_,?_,?_,?_,?_,trivial⟩
  ·exact x4qs
  ·intro done cv k2 a wq hw h hJ hn;have e1:=mN 0 3 h hw;go_simp
  ·intro done cv k1 a wq hw h hJ hn;have e1:=mN 1 4 h hw;exact x5ed
  ·intro done cv a wq hw h hJ;have e1:=mN 2 5 h hw;obtain rfl:wq=w7.drew:=hJ;refine wp_call (vals:=#[.slice L.a0 d.s0.length L.c0]) (by rw[List.map_toArray,List.map_cons,List.map_nil,ch_ev e1]) (enters_of Tryz.func83 (by kernel_rfl) rfl _ _) (K4.out _ ((Below.refl _ _).drew)) ?_;rintro e w' ⟨A1,c1,rfl,hown,hbel⟩;exact⟨_,rfl,_,rfl,A1,c1,by simp,hown,(Below.refl _ _).drew.trans hbel⟩
  ·exact x4qs
  ·intro done cv k2 a wq hw h hJ hn;have e1:=mN 4 7 h hw;go_simp
  ·intro done cv k1 a wq hw h hJ hn;have e1:=mN 5 8 h hw;exact x5ed
  ·intro done cv a wq hw h hJ;have e1:=mN 6 9 h hw;obtain⟨A1,c2,y1,hown,hbel⟩:=hJ;refine wp_call (vals:=#[.slice L.a1 d.s1.length L.c1]) (by rw[List.map_toArray,List.map_cons,List.map_nil,ch_ev e1]) (enters_of Tryz.func83 (by kernel_rfl) rfl _ _) (K1.out _ hbel) ?_;rintro e w' ⟨A2,c1,rfl,hown1,hbel1⟩;exact⟨_,rfl,_,rfl,A1,c2,wq,A2,c1,by simpa using y1,hown,hbel,by simp,hown1,hbel1⟩
  ·intro done cv a wq hw h hJ;have e1:=mx_cv (i:=3) (t:=6) h (hw 3 (by decide)) rfl rfl;have e10:=mx_cv (i:=7) (t:=10) h (hw 7 (by decide)) rfl rfl;obtain⟨A1,c1,w1,A2,c2,y1,hown,hbel,y2,hown1,hbel1⟩:=hJ;rw[y1]at e1;rw[y2]at e10;refine wp_val (v:=.agg (slotsA A1 d.s0.length c1 A2 d.s1.length c2)) (by go_simp) ⟨_,rfl,A1,c1,w1,A2,c2,by simp,hown,hbel,hown1,hbel1⟩
  ·exact x4qs
  ·intro done cv a wq hw h hJ;have e1:=mN 9 12 h hw;have e11:=mx_cv (i:=8) (t:=11) h (hw 8 (by decide)) rfl rfl;obtain⟨A1,c1,w1,A2,c2,y1,hown,hbel,hown1,hbel1⟩:=hJ;rw[y1]at e11;have hbl:=hbel.trans (hbel1.mono hbel.size);refine wp_srow e1 e11 (by go_simp) (by go_simp) (cs:=devA d L) ((rowOf_below HG.out hbl).trans HR.out) (by go_simp) ((frOf_below HG.out hbl).trans HF.out) (by go_simp) ⟨undef,rfl,A1,c1,w1,A2,c2,wq,hown,hbel,hown1,hbel1,?_⟩;rw[devA_splice_slots]
 intro cv w3' hJ;obtain⟨A1,c2,w1,A2,c3,w2,hown,hbel,hown1,hbel1,rfl⟩:=hJ;simp only[mixAll,putAll_some,putAll_none,putAll_nil,List.getElem?_cons_zero,List.getElem?_cons_succ,Nat.zero_add,Nat.reduceAdd,List.setIfInBounds_toArray,List.set_cons_zero,List.set_cons_succ];obtain⟨L2,hL1⟩:∃L2:DLoc,{L with a0:=A1,c0:=c2,a1:=A2,c1:=c3}=L2:=⟨_,rfl⟩;have hbl:=hbel.trans (hbel1.mono hbel.size);have hr1:rowOf w2 g=devA d L:=(rowOf_below HG.out hbl).trans HR.out;obtain⟨w3,hw1⟩:=eX (w2.setRow g (devA d {L with a0:=A1,c0:=c2,a1:=A2,c1:=c3}));rw[hw1];rw[hL1]at hw1;have HR1:Hid (rowOf w3 g=devA d L2):=qH (by rw[<-hw1,rowOf_setRow _ _ _ _ (by rw[hr1];simp[devA]),if_pos rfl]);have HF1:Hid (frOf w3 g=(0,0)):=qH (by rw[<-hw1,frOf_setRow];exact(frOf_below HG.out hbl).trans HF.out);have HRz1:Hid (rowOf w3 (g+1)=devA Dev.zero DLoc.zero):=qH (by rw[<-hw1,rowOf_setRow _ _ _ _ (by rw[hr1];simp[devA]),if_neg (by omega)];exact(rowOf_below (by rw[HSZ.out];omega) hbl).trans HRz.out);have HFz1:Hid (frOf w3 (g+1)=(0,0)):=qH (by rw[<-hw1,frOf_setRow];exact(frOf_below (by rw[HSZ.out];omega) hbl).trans HFz.out);have hs3:w3.heap.size=w2.heap.size:=by rw[<-hw1];simp[World.setRow]
 have hs1:=hbel.size;have hs2:=hbel1.size;have hsz:=HSZ.out;have HG1:Hid (g<w3.heap.size):=qH (by omega);have HGz:Hid (g+1<w3.heap.size):=qH (by omega);have HB2:Hid (Below g w w3):=qH (by rw[<-hw1];exact below_row (HB1.out.trans (hbl.mono (by omega))) nl _);have HIN1:Hid (Chs w3 L.ag d.got∧PatIn w3 d.job L.aj L.cj):=qH (by have hi:=HI.out.stays (HGE.out▸HB2.out);exact⟨hi.got,hi.job⟩);have HO2:Hid (Own w3 w7.heap.size 5 1 A1 d.s0.length c2 (d.s0.map bv)):=qH (by rw[<-hw1];exact own_fresh (hown.below hbel1) fun k h1 h2=>setRow_other _ _ _ _ (by omega));have HO1:Hid (Own w3 w1.heap.size 5 1 A2 d.s1.length c3 (d.s1.map bv)):=qH (by rw[<-hw1];exact own_fresh hown1 fun k h1 h2=>setRow_other _ _ _ _ (by omega));have HBK:Hid ((∀k,A1.map (·.block)=some k->k<w1.heap.size)∧(∀k,A2.map (·.block)=some k->k<w3.heap.size)∧w7.heap.size<=w1.heap.size∧w1.heap.size<=w3.heap.size):=qH ⟨fun k hk=>(hown.block k hk).2,fun k hk=>by have:=(hown1.block k hk).2;omega,hs1,by omega⟩;have HE:Hid (L2.ag=L.ag∧L2.cg=L.cg∧L2.aj=L.aj∧L2.cj=L.cj∧L2.a0=A1∧L2.c0=c2∧L2.a1=A2∧L2.c1=c3):=qH (by rw[<-hL1];exact⟨rfl,rfl,rfl,rfl,rfl,rfl,rfl,rfl⟩);have K2:Hid (∀wq,Below w3.heap.size w3 wq->Calls Tryz.prog 82 #[.slice L2.ag d.got.length L2.cg] wq (KrRet kChk wq d.got)):=qH (fun wq h=>chkCopy_calls _ _ _ wq HL.out.2.2 (by rw[HE.out.1];exact HIN1.out.1.stays h));have K3:Hid (∀wq,Below w3.heap.size w3 wq->Calls Tryz.prog 88 #[.agg (patA d.job.from_ d.job.to_ d.job.old d.job.new_ d.job.size L2.aj d.job.ops.length L2.cj)] wq (PcRet wq d.job)):=qH (fun wq h=>patCopy_calls _ _ _ wq (by rw[HE.out.2.2.1,HE.out.2.2.2.1];exact HIN1.out.2.stays h));clear hown hown1 hbel hbel1 hbl hr1 hw1 hL1 hs3 hs1 hs2 hsz K4 K1 HB1 HR HF HRz HFz;go_wp2_with fail;refine wp_region_mix (by kernel_rfl) (some 13::some 14::some 15::some 16::some 17::some 18::some 19::none::some 20::none::[]) (none::none::some 0::none::none::some 1::none::some 2::none::some 3::[]) (.pointer (some ⟨g,28,none⟩)::.slice L2.ag d.got.length L2.cg::undef::.pointer (some ⟨g,30,none⟩)::.agg (patA d.job.from_ d.job.to_ d.job.old d.job.new_ d.job.size L2.aj d.job.ops.length L2.cj)::undef::.pointer (some ⟨g,28,none⟩)::undef::.pointer (some ⟨g,30,none⟩)::undef::[]) 4 (dcK w3 g d L2) 22 rfl rfl (by decide+kernel) (by decide+kernel) (by decide+kernel) (by decide+kernel) rfl rfl (by decide+kernel) (by decide+kernel) (rfl) ?_ ?_
 ·refine⟨?_,?_,?_,?_,?_,?_,?_,?_,?_,?_,trivial⟩
  ·exact x4qs
  ·intro done cv k2 a wq hw h hJ hn;have e1:=mN 0 13 h hw;exact x81i
  ·intro done cv a wq hw h hJ;have e1:=mN 1 14 h hw;obtain rfl:wq=w3.drew:=hJ;refine wp_call (vals:=#[.slice L2.ag d.got.length L2.cg]) (by rw[List.map_toArray,List.map_cons,List.map_nil,ch_ev e1]) (enters_of Tryz.func82 (by kernel_rfl) rfl _ _) (K2.out _ ((Below.refl _ _).drew)) ?_;rintro e w' ⟨A1,c1,ds,rfl,hrow,heach,hbel⟩;exact⟨_,rfl,_,rfl,A1,c1,ds,by simp,hrow,heach,(Below.refl _ _).drew.trans hbel⟩
  ·exact x4qs
  ·intro done cv k2 a wq hw h hJ hn;have e1:=mN 3 16 h hw;exact x81i
  ·intro done cv a wq hw h hJ;have e1:=mN 4 17 h hw;obtain⟨A1,c1,ds,y1,hrow,heach,hbel⟩:=hJ;refine wp_call (vals:=#[.agg (patA d.job.from_ d.job.to_ d.job.old d.job.new_ d.job.size L2.aj d.job.ops.length L2.cj)]) (by rw[List.map_toArray,List.map_cons,List.map_nil,ch_ev e1]) (enters_of Tryz.func88 (by kernel_rfl) rfl _ _) (K3.out _ hbel) ?_;rintro e w' ⟨A2,c3,rfl,hfr,hbel1⟩;exact⟨_,rfl,_,rfl,A1,c1,ds,wq,A2,c3,by simpa using y1,by simp,hrow,heach,hbel,hfr,hbel1⟩
  ·exact x4qs
  ·intro done cv a wq hw h hJ;have e1:=mN 6 19 h hw;have e15:=mx_cv (i:=2) (t:=15) h (hw 2 (by decide)) rfl rfl;obtain⟨A1,c1,ds,w4,A2,c3,y1,y2,hrow,heach,hbel,hfr,hbel1⟩:=hJ;rw[y1]at e15;have hbl:=hbel.trans (hbel1.mono hbel.size);refine wp_ssc e1 e15 (cs:=devA d L2) ((rowOf_below HG1.out hbl).trans HR1.out) (by go_simp) ((frOf_below HG1.out hbl).trans HF1.out) ⟨undef,rfl,A1,c1,ds,w4,A2,c3,wq,by simpa using y2,hrow,heach,hbel,hfr,hbel1,?_⟩;rw[devA_set_got]
  ·exact x4qs
  ·intro done cv a wq hw h hJ;have e1:=mN 8 20 h hw;have e18:=mx_cv (i:=5) (t:=18) h (hw 5 (by decide)) rfl rfl;obtain⟨A1,c1,ds,w4,A2,c3,w5,y1,hrow,heach,hbel,hfr,hbel1,rfl⟩:=hJ;rw[y1]at e18;have hbl:=hbel.trans (hbel1.mono hbel.size);have hr1:rowOf w5 g=devA d L2:=(rowOf_below HG1.out hbl).trans HR1.out;have hf1:frOf w5 g=(0,0):=(frOf_below HG1.out hbl).trans HF1.out;refine wp_srow e1 e18 (by go_simp) (by go_simp) (cs:=devA d {L2 with ag:=A1,cg:=c1}) (by rw[rowOf_setRow _ _ _ _ (by rw[hr1];simp[devA]),if_pos rfl]) (by go_simp) (by rw[frOf_setRow];exact hf1) (by go_simp) ⟨undef,rfl,A1,c1,ds,w4,A2,c3,w5,hrow,heach,hbel,hfr,hbel1,?_⟩;rw[devA_splice_job,setRow_setRow]
 intro cv w6 hJ;obtain⟨A3,c1,ds,w4,A4,c4,w5,hrow,heach,hbel,hfr,hbel1,rfl⟩:=hJ;simp only[mixAll,putAll_some,putAll_none,putAll_nil,List.getElem?_cons_zero,List.getElem?_cons_succ,Nat.zero_add,Nat.reduceAdd,List.setIfInBounds_toArray,List.set_cons_zero,List.set_cons_succ];have hbl:=hbel.trans (hbel1.mono hbel.size);have hr1:rowOf w5 g=devA d L2:=(rowOf_below HG1.out hbl).trans HR1.out;have hf1:frOf w5 g=(0,0):=(frOf_below HG1.out hbl).trans HF1.out;have hrz1:rowOf w5 (g+1)=devA Dev.zero DLoc.zero:=(rowOf_below HGz.out hbl).trans HRz1.out;have hfz1:frOf w5 (g+1)=(0,0):=(frOf_below HGz.out hbl).trans HFz1.out;have HGR:=qH (hrow.fresh heach);have HFR:=qH hfr;have HB1:=qH hbel;have HB3:=qH hbel1;have HC1:=qH hrow.row.le;clear hrow heach hfr hbel hbel1 hbl;go_wp2_with fail;refine bodyPost_ret (results_c rfl rfl (cs:=devA d {L2 with ag:=A3,cg:=c1,aj:=A4,cj:=c4}) (by go_simp) (by go_simp) (by go_simp)) rfl ?_;have hsz:=HSZ.out;have hge:=HGE.out;have s1:=HB1.out.size;have s2:=HB3.out.size;have hbk:=HBK.out.2.2;refine⟨_,rfl,DvOwn.fresh (DvOwn.mono (base:=w7.heap.size) (dcEnd (.inr trivial) HL.out HI1.out HBD.out HO2.out HO1.out HBK.out HGR.out HFR.out HB1.out HB3.out HC1.out HE.out.2.2.2.2 ?_) (by omega)),?_⟩
 ·intro k hk;repeat (first|rfl|refine(setRow_other _ _ _ _ (by omega)).trans ?_)
 rw[hge];repeat (first|exact HB2.out.trans ((HB1.out.trans (HB3.out.mono s1)).mono (by omega))|refine bR ?_ _)
end Go.Proofs.YtefkfglkpebbmacGreat
