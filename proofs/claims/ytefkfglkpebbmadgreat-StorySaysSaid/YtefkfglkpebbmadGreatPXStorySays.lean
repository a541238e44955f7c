/- The walk of the law StorySays. Printed by gen_stosays.py. No conditions. -/
import Derived.Test.YtefkfglkpebbmadGreatP6
set_option linter.unusedVariables false
set_option linter.unusedSimpArgs false
set_option maxRecDepth 100000
set_option maxHeartbeats 40000000
namespace Go.Proofs.YtefkfglkpebbmadGreat
open Go.RowKit
variable {Y:Prop}
theorem x6pu(h:Y:=by
 rw[e1];clear e1;go_wp2_with fail;go_ret;exact⟨rfl,below_row HB11.out (by omega) _⟩):Y:=h
theorem x8ds(h:Y:=by
 go_quiet ((go_at_call 9;with_reducible exact quietRet (HK1.out _)))
 go_wp2_with fail;go_meet
 case rel=>exact qH (Below.drewN' (bL _) nq)):Y:=h
theorem StorySays_walk(W:World)(v0:Value)(x:Wor)(g0:ArgWor W v0 x):Calls Tryz.prog 3 #[v0] W (RetB W (.bool true)):=by
 obtain⟨L,rfl,hin⟩:=g0;have HIN:=qH hin;have KR:=qH (fun w=>runs_calls w);have K1:=qH (fun w h=>stoRuns_calls x L w h);have K2:=qH (fun w h=>stoNext_calls x L w h);have K3:=qH (fun w h=>refWorCheck_calls x L w h);have HBA:Hid (Below W.heap.size W (W.alloc (.cells (worA x L) 40))):=qH (bL _);clear hin;obtain⟨n,hn⟩:=eX (worCheck x);obtain⟨⟨v,b,e5⟩,h1⟩:∃y,stoRuns x=y:=⟨_,rfl⟩;obtain⟨⟨nv,f⟩,h2⟩:∃y,stoNext x=y:=⟨_,rfl⟩;rw[hn]at K3;rw[h1]at K1;rw[h2]at K2;dsimp only at K1 K2;have HN:=qH hn;have H1:=qH h1;have H2:=qH h2;clear hn h1 h2;go_enter Tryz.func3,Tryz.ntmps3;go_wp2_with fail;refine(K1.out _ (HIN.out.stays HBA.out)).mono ?_;rintro e w1 ⟨A,c,rfl,hc,hf,hb⟩;obtain⟨a0r,a0f,a0n,a0c,a0z,a0l⟩:=kp (W.heap.size) (worA x L) hb;have HB1:Hid (Below W.heap.size W w1):=qH (HBA.out.trans (hb.mono (by simp)));have HT1:=qH hf.now;have HC:=qH hc;clear hb hf hc;go_wp2_with fail;refine(K2.out _ (HIN.out.stays HB1.out)).mono ?_;rintro e w2 ⟨rfl,hb⟩;obtain⟨a0r,a0f,a0n,a0c,a0z,a0l⟩:=kp (W.heap.size) (worA x L) hb;have HB2:=bT HB1 hb;have HT2:=qH (HT1.out.stays hb);clear hb;go_wp2_with fail;refine(K3.out _ (HIN.out.stays HB2.out)).mono ?_;rintro e w3 ⟨rfl,hb⟩;obtain⟨a0r,a0f,a0n,a0c,a0z,a0l⟩:=kp (W.heap.size) (worA x L) hb;have HB3:=bT HB2 hb;have HT3:=qH (HT2.out.stays hb);clear hb;go_wp2_with fail;refine(KR.out _).mono ?_;rintro e w4 ⟨rfl,hb⟩;obtain⟨a0r,a0f,a0n,a0c,a0z,a0l⟩:=kp (W.heap.size) (worA x L) hb;have HB4:=bT HB3 hb;have HT4:=qH (HT3.out.stays hb);clear hb HB1 HB2 HB3 HT1 HT2 HT3 K1 K2 K3;by_cases c1:n≠0
 ·have h1:=H1.out.symm.trans (stoRuns_bad (by rw[HN.out];exact c1));have h2:=H2.out.symm.trans (stoNext_bad (by rw[HN.out];exact c1));rw[HN.out]at h1 h2;injection h1 with hv h1;injection h1 with hbb he;injection h2 with hnv hff;subst hv hbb he hnv hff;have q:(f !=0)=true:=by simp[c1]
  clear c1 HN H1 H2 HIN HT4 HC;go_wp2_with fail;refine(KR.out _).mono ?_;rintro e w5 ⟨rfl,hb⟩;have HB5:=bT HB4 hb;clear hb;go_wp2_with fail;go_ret;exact⟨rfl,HB5.out⟩
 have c1:=Decidable.not_not.1 c1;subst c1;have hok:=(worCheck_ok.1 HN.out).dev;have hrec:=rec_ok hok;have KN:=qH (fun w=>newest_calls x.d.c0 x.d.c1 w);rw[refNewest_ok hok.cops]at KN;obtain⟨rk,hrk⟩:=eX ((recRead x.d.c0 x.d.c1).2);have hre:(recRead x.d.c0 x.d.c1).1=x.d.rec_:=rfl;rw[hrk,hre]at KN;have HOK:=qH hok;have HREC:=qH hrec;clear hok hrec hrk hre;go_wp2_with fail;refine(KN.out _).mono ?_;rintro e w5 ⟨rfl,hb⟩;obtain⟨a0r,a0f,a0n,a0c,a0z,a0l⟩:=kp (W.heap.size) (worA x L) hb;have HB5:=bT HB4 hb;have HT5:=qH (HT4.out.stays hb);clear hb HB4 HT4;go_upto_region 7 with fail
 obtain⟨w6,hw6⟩:=eX (w5.alloc (.cells (recA x.d.rec_) 29));have hb6:Below w5.heap.size w5 w6:=by rw[<-hw6];exact bL _
 have hrr:rowOf w6 w5.heap.size=recA x.d.rec_∧frOf w6 w5.heap.size=(0,0):=by rw[<-hw6];exact⟨by rw[rowOf_alloc,if_pos rfl],by rw[frOf_alloc,if_pos rfl]⟩
 obtain⟨a0r,a0f,a0n,a0c,a0z,a0l⟩:=keep1 (g:=W.heap.size) (cs:=worA x L) hb6 a0r (by go_simp) a0f;obtain⟨r0r,r0f,r0n,r0c,r0z,r0l⟩:=keep1 (bW w6) hrr.1 (by simp[recA]) hrr.2;have HB6:=bT HB5 hb6;have HT6:=qH (HT5.out.stays hb6);rw[hw6];have hs56:w5.heap.size<w6.heap.size:=r0l;generalize w5.heap.size=g9 at *
 clear hw6 hb6 hrr HB5 HT5;go_upto_if 67 with fail
 go_cut [] (fun wx=>Hid (Below w6.heap.size w6 wx))
 case first=>
  cases hup:x.d.up
  ·have h1:=H1.out.symm.trans (stoRuns_off HN.out hup);injection h1 with hv h1;injection h1 with hbb he;subst hv hbb he;go_wp2_with fail;go_meet
   case rel=>exact qH (Below.refl _ _)
  have h1:=H1.out.symm.trans (stoRuns_up HN.out hup);injection h1 with hv h1;injection h1 with hbb he;subst he;have hl0:=HOK.out.l0;have hl1:=HOK.out.l1;have hsz:=at_sizes HREC.out x.d.running;rcases (HOK.out.run hup).1 with hk|hk
  ·rw[hk]at hv hbb hsz;have e1:x.d.rec_.at_ 0=x.d.rec_.a:=at_0 _;rw[e1]at hv hsz;obtain⟨z1,z2,_⟩:=hsz;obtain⟨y,hy⟩:∃y:Nat,x.d.rec_.a.size=(y:Int):=⟨x.d.rec_.a.size.toNat,by omega⟩;have himg:x.d.image 0 x.d.rec_=x.d.s0.take y:=by unfold Dev.image;rw[e1,hy];simp[Dev.slot]
   rw[himg]at hbb;have hbl:b.length=y:=by rw[hbb,List.length_take,hl0];omega
   obtain⟨ba,oa,hAa,-⟩:=HIN.out.dev.b0 0 (by rw[hl0];decide);have hsl:∀W,(Instr.slice 23 (.slice L.l.a0 x.d.s0.length L.l.c0) none (some (iv x.d.rec_.a.size)) none).run Tryz.prog W=.ok (.slice L.l.a0 b.length L.l.c0) W:=by rw[hbl];exact pre_slice y hy HIN.out.dev.k0 (by rw[hl0];omega) (by rw[hl0];decide) ⟨ba,oa,hAa⟩
   have HSL:=qH hsl;have hcap:b.length<=L.l.c0:=by have:=HIN.out.dev.k0;omega
   have KQ:Hid (∀wq,Below w6.heap.size w6 wq->Calls Tryz.prog 9 #[.slice A b.length c,.slice L.l.a0 b.length L.l.c0] wq (Ret wq (.bool true))):=qH (fun wq h=>by
    have hB:Bts wq L.l.a0 b:=by rw[hbb];exact mid_take ((HIN.out.dev.b0.stays HB6.out).stays h) y
    have:=bytesEqual_calls A L.l.a0 c L.l.c0 b b wq HC.out hcap (HT6.out.stays h) hB;rwa [decide_eq_true rfl]at this)
   subst hv;clear hbb himg hbl hAa hsl z1 z2 hy e1 hl0 hl1 hcap HREC HOK;go_wp2_with fail;have hq:=HSL.out;have HK1:=qH (fun n=>KQ.out ((w6.alloc (.cells (infA x.d.rec_.a) 26)).drewN n) (Below.drewN' (bL _) n));exact x8ds
  rw[hk]at hv hbb hsz;have e1:x.d.rec_.at_ 1=x.d.rec_.b:=at_1 _;rw[e1]at hv hsz;obtain⟨z1,z2,_⟩:=hsz;obtain⟨y,hy⟩:∃y:Nat,x.d.rec_.b.size=(y:Int):=⟨x.d.rec_.b.size.toNat,by omega⟩;have himg:x.d.image 1 x.d.rec_=x.d.s1.take y:=by unfold Dev.image;rw[e1,hy];simp[Dev.slot]
  rw[himg]at hbb;have hbl:b.length=y:=by rw[hbb,List.length_take,hl1];omega
  obtain⟨ba,oa,hAa,-⟩:=HIN.out.dev.b1 0 (by rw[hl1];decide);have hsl:∀W,(Instr.slice 23 (.slice L.l.a1 x.d.s1.length L.l.c1) none (some (iv x.d.rec_.b.size)) none).run Tryz.prog W=.ok (.slice L.l.a1 b.length L.l.c1) W:=by rw[hbl];exact pre_slice y hy HIN.out.dev.k1 (by rw[hl1];omega) (by rw[hl1];decide) ⟨ba,oa,hAa⟩
  have HSL:=qH hsl;have hcap:b.length<=L.l.c1:=by have:=HIN.out.dev.k1;omega
  have KQ:Hid (∀wq,Below w6.heap.size w6 wq->Calls Tryz.prog 9 #[.slice A b.length c,.slice L.l.a1 b.length L.l.c1] wq (Ret wq (.bool true))):=qH (fun wq h=>by
   have hB:Bts wq L.l.a1 b:=by rw[hbb];exact mid_take ((HIN.out.dev.b1.stays HB6.out).stays h) y
   have:=bytesEqual_calls A L.l.a1 c L.l.c1 b b wq HC.out hcap (HT6.out.stays h) hB;rwa [decide_eq_true rfl]at this)
  subst hv;clear hbb himg hbl hAa hsl z1 z2 hy e1 hl0 hl1 hcap HREC HOK;go_wp2_with fail;have hq:=HSL.out;have HK1:=qH (fun n=>KQ.out ((w6.alloc (.cells (infA x.d.rec_.b) 26)).drewN n) (Below.drewN' (bL _) n));exact x8ds
 case rest=>
 have hb:=hcut.out;obtain⟨a0r,a0f,a0n,a0c,a0z,a0l⟩:=kp (W.heap.size) (worA x L) hb;obtain⟨r0r,r0f,r0n,r0c,r0z,r0l⟩:=kp g9 (recA x.d.rec_) hb;have HB7:=bT HB6 hb;have h9:=r0l;clear hb hcut HB6 HT6 HC H1 HREC hs56 KN KR;go_upto_region 14 with fail
 obtain⟨w8,hw8⟩:=eX (wc.alloc (.cells (devA x.d L.l) 38));have hb8:Below wc.heap.size wc w8:=by rw[<-hw8];exact bL _
 have hdd:rowOf w8 wc.heap.size=devA x.d L.l∧frOf w8 wc.heap.size=(0,0):=by rw[<-hw8];exact⟨by rw[rowOf_alloc,if_pos rfl],by rw[frOf_alloc,if_pos rfl]⟩
 obtain⟨r0r,r0f,r0n,r0c,r0z,r0l⟩:=keep1 (g:=g9) (cs:=recA x.d.rec_) hb8 r0r (by simp[recA]) r0f;obtain⟨d0r,d0f,d0n,d0c,d0z,d0l⟩:=keep1 (bW w8) hdd.1 (by go_simp) hdd.2;have HB8:=bT HB7 hb8;have hsW:W.heap.size<=wc.heap.size:=HB7.out.size;have hs9:¬g9=wc.heap.size:=by have:=h9;omega
 rw[hw8];generalize wc.heap.size=g12 at *
 clear hw8 hb8 hdd HB7 a0r a0f a0n a0c a0z a0l;go_upto_if 111 with fail
 go_cut [] (fun wx=>Hid ((∃L2,rowOf wx g12=devA x.d.off L2)∧frOf wx g12=(0,0)∧rowOf wx g9=recA x.d.rec_∧frOf wx g9=(0,0)∧Below W.heap.size W wx))
 case first=>
  cases hup:x.d.up
  ·have hoff:x.d.off=x.d:=by unfold Dev.off;rw[if_neg (by rw[hup];decide)]
   go_wp2_with fail;go_meet
   case rel=>rw[hoff];exact qH ⟨⟨L.l,d0r⟩,d0f,r0r,r0f,HB8.out⟩
  have hoff:x.d.off=x.d.down:=by unfold Dev.off;rw[if_pos hup]
  go_wp2_with fail;refine(acts_crash x.d L.l 0 0 0 0 0 none 0 0 _ hup).mono ?_;rintro e w9 ⟨rfl,hb⟩;obtain⟨r0r,r0f,r0n,r0c,r0z,r0l⟩:=kp g9 (recA x.d.rec_) hb;obtain⟨d0r,d0f,d0n,d0c,d0z,d0l⟩:=kp g12 (devA x.d L.l) hb;have HB9:=bT HB8 hb;clear hb;go_wp2_with fail;go_meet
  case rel=>rw[hoff];exact qH ⟨⟨L.l.down,by go_simp⟩,by go_simp,by go_simp,by go_simp,below_row HB9.out (by omega) _⟩
 case rest=>
 obtain⟨⟨L2,dr⟩,df,rr,rf,hbc⟩:=hcut.out;clear r0r r0f r0n r0c r0z r0l d0r d0f d0n d0c d0z d0l HB8 hcut;obtain⟨r0r,r0f,r0n,r0c,r0z,r0l⟩:=keep1 (bW wc) rr (by simp[recA]) rf;obtain⟨d0r,d0f,d0n,d0c,d0z,d0l⟩:=keep1 (bW wc) dr (by go_simp) df;have HB9:=qH hbc;obtain⟨hof,hofu,_⟩:=off_ok HOK.out;have KB:=qH (fun w=>acts_boot x.d.off L2 0 0 0 0 0 none 0 0 w hof hofu);have h2:=H2.out.symm.trans (stoNext_ok HN.out);have hbk:(devBoot x.d.off).2=0->DevOk (devBoot x.d.off).1∧((devBoot x.d.off).1.running=0∨(devBoot x.d.off).1.running=1):=booted_ok;generalize x.d.off=d1 at *
 obtain⟨⟨d2,F⟩,hdb⟩:∃y,devBoot d1=y:=⟨_,rfl⟩;rw[hdb]at KB h2 hbk;dsimp only at KB h2 hbk;have HH:=qH h2;have HBK:=qH hbk;clear hof hofu h2 hbk hdb H2 HN HOK rr rf dr df hbc;go_wp2_with fail;refine(KB.out _).mono ?_;rintro e w10 ⟨L3,rfl,-,hb⟩;obtain⟨r0r,r0f,r0n,r0c,r0z,r0l⟩:=kp g9 (recA x.d.rec_) hb;obtain⟨d0r,d0f,d0n,d0c,d0z,d0l⟩:=kp g12 (devA d1 L2) hb;have HB10:=bT HB9 hb;clear hb HB9 KB;by_cases c2:F≠0
 ·have h:=HH.out.trans (if_pos c2);injection h with h1 h2;subst h1 h2;have q:(f !=0)=true:=by simp[c2]
  clear c2 HH HBK;go_wp2_with fail;go_ret;exact⟨rfl,below_row HB10.out (by omega) _⟩
 have c2:=Decidable.not_not.1 c2;subst c2;have h:=HH.out.trans (if_neg (by decide));injection h with h1 h2;subst h1 h2;obtain⟨hok2,hrun⟩:=HBK.out rfl;have KN:=qH (fun w=>newest_calls d2.c0 d2.c1 w);rw[refNewest_ok hok2.cops]at KN;obtain⟨rk2,hrk⟩:∃rk,(recRead d2.c0 d2.c1).2=rk:=⟨_,rfl⟩;have hre:(recRead d2.c0 d2.c1).1=d2.rec_:=rfl;rw[hrk,hre]at KN;clear hrk hre hok2 HH HBK;go_upto_region 19 with fail
 have hda:rowOf (w10.setRow g12 (devA d2 L3)) g12=devA d2 L3∧frOf (w10.setRow g12 (devA d2 L3)) g12=(0,0)∧rowOf (w10.setRow g12 (devA d2 L3)) g9=recA x.d.rec_∧frOf (w10.setRow g12 (devA d2 L3)) g9=(0,0):=⟨by go_simp,by go_simp,by go_simp,by go_simp⟩;have HBa:Hid (Below W.heap.size W (w10.setRow g12 (devA d2 L3))):=qH (below_row HB10.out (by omega) _);generalize w10.setRow g12 (devA d2 L3)=wa at *
 clear r0r r0f r0n r0c r0z r0l d0r d0f d0n d0c d0z d0l HB10;obtain⟨r0r,r0f,r0n,r0c,r0z,r0l⟩:=keep1 (bW wa) hda.2.2.1 (by simp[recA]) hda.2.2.2;obtain⟨d0r,d0f,d0n,d0c,d0z,d0l⟩:=keep1 (bW wa) hda.1 (by go_simp) hda.2.1;clear hda;go_wp2_with fail;refine(KN.out _).mono ?_;rintro e w11 ⟨rfl,hb⟩;obtain⟨r0r,r0f,r0n,r0c,r0z,r0l⟩:=kp g9 (recA x.d.rec_) hb;obtain⟨d0r,d0f,d0n,d0c,d0z,d0l⟩:=kp g12 (devA d2 L3) hb;have HB11:=bT HBa hb;clear hb HBa;rcases hrun with hk|hk
 ·have e1:d2.rec_.at_ d2.running=d2.rec_.a:=by rw[hk];exact at_0 _
  exact x6pu
 have e1:d2.rec_.at_ d2.running=d2.rec_.b:=by rw[hk];exact at_1 _
 exact x6pu
end Go.Proofs.YtefkfglkpebbmadGreat
