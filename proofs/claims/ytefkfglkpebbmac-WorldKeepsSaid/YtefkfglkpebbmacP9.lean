/- Walks of functions, and plain words. No conditions. -/
import Derived.Test.YtefkfglkpebbmacP8
set_option linter.unusedVariables false
set_option linter.unusedSimpArgs false
set_option maxRecDepth 100000
set_option maxHeartbeats 40000000
namespace Go.Proofs.Ytefkfglkpebbmac
open Go.RowKit
variable {Y:Prop}
variable {w:World} {l:List (List UInt8)} {x:Wor}
theorem DevIn.booted{d:Dev}{L:DLoc}(h:DevIn w d L)(p q:Cop)(k:Int)(hk:k=0∨k=1):DevIn w {d with c0:=p,c1:=q,up:=true,running:=k} L:=⟨h.k0,h.l0,h.b0,h.k1,h.l1,h.b1,h.kg,h.lg,h.got,h.job,⟨by show -9223372036854775808<=k;omega,by show k<=9223372036854775807;omega⟩,h.id⟩
theorem start_slot{r:Rec}(h:recCheck r=0):(recStart r).1=0∨(recStart r).1=1:=by
 have:=rec_active h;unfold recStart;repeat' split
 all_goals (try dsimp only)
 all_goals first|omega|(unfold nowAt;omega)
theorem devBoot_bad(d:Dev)(L:DLoc)(w:World)(h:DevIn w d L)(hne:devCheck d≠0):Calls Try.prog 65 #[.agg (devA d L)] w (DvRet w Dev.zero (devCheck d)):=by
 have hba:Below w.heap.size w ((w.alloc (.cells (devA d L) 71)).alloc (.cells (devA Dev.zero DLoc.zero) 71)):=bA (bA (Below.refl _ _) _) _;have HBA:=qH hba;have HIN:=qH h;have K1:=qH (fun w h=>devCheck_calls d L w h);have q:(devCheck d !=0)=true:=by simp[hne]
 generalize devCheck d=n at *
 clear hne h hba;go_enter Try.func65,Try.ntmps65;go_wp2_with fail;refine(K1.out _ (HIN.out.stays HBA.out)).mono ?_;rintro e w1 ⟨rfl,hb1⟩;have a2:=kp (w.heap.size) (devA d L) hb1;have a1:=kp (w.heap.size+1) (devA Dev.zero DLoc.zero) hb1;have HB1:=bT HBA hb1;have hsz1:w.heap.size+2<=w1.heap.size:=by have:=hb1.size;simp at this;omega
 clear hb1;exact x5r8
theorem devBoot_late(d:Dev)(L:DLoc)(w:World)(h:DevIn w d L)(hz:devCheck d=0)(hu:d.up=true):Calls Try.prog 65 #[.agg (devA d L)] w (DvRet w Dev.zero 5):=by
 have hba:Below w.heap.size w ((w.alloc (.cells (devA d L) 71)).alloc (.cells (devA Dev.zero DLoc.zero) 71)):=bA (bA (Below.refl _ _) _) _;have HBA:=qH hba;have HIN:=qH h;have K1:=qH (fun w h=>devCheck_calls d L w h);rw[hz]at K1;clear hz h hba;go_enter Try.func65,Try.ntmps65;go_wp2_with fail;refine(K1.out _ (HIN.out.stays HBA.out)).mono ?_;rintro e w1 ⟨rfl,hb1⟩;have a2:=kp (w.heap.size) (devA d L) hb1;have a1:=kp (w.heap.size+1) (devA Dev.zero DLoc.zero) hb1;have HB1:=bT HBA hb1;have hsz1:w.heap.size+2<=w1.heap.size:=by have:=hb1.size;simp at this;omega
 clear hb1;exact x5r8
theorem devBoot_ok(d:Dev)(L:DLoc)(w:World)(h:DevIn w d L)(hz:devCheck d=0)(hu:d.up=false):Calls Try.prog 65 #[.agg (devA d L)] w (DvRet w (devBoot d).1 (devBoot d).2):=by
 have hba:Below w.heap.size w ((w.alloc (.cells (devA d L) 71)).alloc (.cells (devA Dev.zero DLoc.zero) 71)):=bA (bA (Below.refl _ _) _) _;have HBA:=qH hba;have HIN:=qH h;have K1:=qH (fun w h=>devCheck_calls d L w h);have hdef:devBoot d=if (recStart d.rec_).2.2≠0 then (Dev.zero,(recStart d.rec_).2.2)
   else if (recStart d.rec_).2.1≠d.rec_ then
    (if (recWrite d.c0 d.c1 (recStart d.rec_).2.1 false).2≠0 then (Dev.zero,(recWrite d.c0 d.c1 (recStart d.rec_).2.1 false).2)
    else ({d with c0:=(recWrite d.c0 d.c1 (recStart d.rec_).2.1 false).1.1,c1:=(recWrite d.c0 d.c1 (recStart d.rec_).2.1 false).1.2,up:=true,running:=(recStart d.rec_).1},0))
   else ({d with c0:=d.c0,c1:=d.c1,up:=true,running:=(recStart d.rec_).1},0):=by unfold devBoot;rw[if_neg (by omega),if_neg (by rw[hu];decide)];rfl
 have hok:=devCheck_ok.1 hz;have hrec:=rec_ok hok;have HSL:=qH (start_slot hrec);have KC:=qH (fun w h=>devCopy_calls d L w h);have K2:=qH (fun w=>read_ok d.c0 d.c1 w hok.cops);obtain⟨rk,hrk⟩:=eX ((recRead d.c0 d.c1).2);have hre:(recRead d.c0 d.c1).1=d.rec_:=rfl;rw[hrk,hre]at K2;have K3:=qH (fun w=>start_calls d.rec_ w);obtain⟨⟨k,nx,e1⟩,hq⟩:∃x,recStart d.rec_=x:=⟨_,rfl⟩;rw[hq]at hdef K3 HSL;dsimp only at hdef K3 HSL;have K4:=qH (fun w=>write_calls d.c0 d.c1 nx false w);obtain⟨⟨⟨p1,p2⟩,e2⟩,hw⟩:∃x,recWrite d.c0 d.c1 nx false=x:=⟨_,rfl⟩;rw[hw]at hdef K4;dsimp only at hdef;have HD:=qH hdef;rw[hz]at K1;generalize devBoot d=res at *
 clear hdef hok hrec hrk hre hq hw hz h hba;go_enter Try.func65,Try.ntmps65;go_wp2_with fail;refine(K1.out _ (HIN.out.stays HBA.out)).mono ?_;rintro e w1 ⟨rfl,hb1⟩;have a3:=kp (w.heap.size) (devA d L) hb1;have a1:=kp (w.heap.size+1) (devA Dev.zero DLoc.zero) hb1;have HB1:=bT HBA hb1;have hsz1:w.heap.size+2<=w1.heap.size:=by have:=hb1.size;simp at this;omega
 clear hb1;go_wp2_with fail;refine(KC.out _ (HIN.out.stays HB1.out)).mono ?_;rintro e w2 ⟨L1,rfl,hfr,hb⟩;have a3:=kr a3 hb;have a1:=kr a1 hb;have HFR:=qH hfr;have hsz2:w1.heap.size<=w2.heap.size:=hb.size;have HB2:=bT HB1 hb;have HK1:Hid (Kp w1.heap.size w2 w2):=qH (Kp.refl _ _);clear hb hfr;go_wp2_with fail;refine(K2.out _).mono ?_;rintro e w3 ⟨rfl,hb⟩;have a3:=kp (w.heap.size) (devA d L1) hb;have a1:=kr a1 hb;have hbs1:=hb.size;have hsz3:w2.heap.size<=w3.heap.size:=by first|omega|(simp[World.setRow]at hbs1;omega)
 have HK2:Hid (Kp w1.heap.size w2 w3):=qH (by
  refine Kp.below ?_ (by first|omega|(simp[World.setRow]<;>omega)) hb;exact x84a)
 have HB3:=bU HB2 hb;clear hb hbs1;go_wp2_with fail;refine(K3.out _).mono ?_;rintro e w4 ⟨rfl,hb⟩;have a3:=kr a3 hb;have a1:=kr a1 hb;have a2:=kp (w3.heap.size) (recA d.rec_) hb;have hbs1:=hb.size;have hsz4:w2.heap.size<=w4.heap.size:=by first|omega|(simp[World.setRow]at hbs1;omega)
 have HK3:Hid (Kp w1.heap.size w2 w4):=qH (by
  refine Kp.below ?_ (by first|omega|(simp[World.setRow]<;>omega)) hb;exact x9su)
 have HB4:=bU HB3 hb;clear hb hbs1;have hsz6:w3.heap.size<w4.heap.size:=a2.2.2.2.2.2;by_cases c2:e1≠0
 ·have hz:res=(Dev.zero,e1):=HD.out.trans (if_pos c2);subst hz;have q:(e1 !=0)=true:=by simp[c2]
  clear c2;exact x8lt
 have c2:=Decidable.not_not.1 c2;subst c2;have HD1:=qH (HD.out.trans (if_neg (by decide)));clear HD;by_cases c3:nx≠d.rec_
 ·have HD2:=qH (HD1.out.trans (if_pos c3));have q1:decide (nx=d.rec_)=false:=decide_eq_false c3;clear HD1 c3;go_wp2_with fail;refine(K4.out _).mono ?_;rintro e w5 ⟨rfl,hb⟩;have a3:=kr a3 hb;have a1:=kr a1 hb;have hbs1:=hb.size;have hsz5:w2.heap.size<=w5.heap.size:=by first|omega|(simp[World.setRow]at hbs1;omega)
  have HK4:Hid (Kp w1.heap.size w2 w5):=qH (by
   refine Kp.below ?_ (by first|omega|(simp[World.setRow]<;>omega)) hb;exact x17f)
  have HB5:=bU HB4 hb;clear hb hbs1;by_cases c3:e2≠0
  ·have hz:res=(Dev.zero,e2):=HD2.out.trans (if_pos c3);subst hz;have q:(e2 !=0)=true:=by simp[c3]
   exact x80n
  have c3:=Decidable.not_not.1 c3;subst c3;have hz:res=({d with c0:=p1,c1:=p2,up:=true,running:=k},0):=HD2.out.trans (if_neg (by decide));subst hz;clear hu;go_wp2_with fail;refine bodyPost_ret (rC (devA {d with c0:=p1,c1:=p2,up:=true,running:=k} L1)) rfl ⟨L1,rfl,?_,?_⟩
  ·refine Fresh.imp (P:=fun v=>DvOwn v w1.heap.size d L1) (Fresh.kp HFR.out ?_ (by omega) (by first|omega|(simp[World.setRow]<;>omega))) (fun v hv=>hv.devIn.booted p1 p2 k HSL.out);exact x7of
  exact bZ HB5
 have hz:res=({d with c0:=d.c0,c1:=d.c1,up:=true,running:=k},0):=HD1.out.trans (if_neg c3);have q1:decide (nx=d.rec_)=true:=decide_eq_true (Decidable.not_not.1 c3);subst hz;clear c3 hu;go_wp2_with fail;refine bodyPost_ret (rC (devA {d with c0:=d.c0,c1:=d.c1,up:=true,running:=k} L1)) rfl ⟨L1,rfl,?_,?_⟩
 ·refine Fresh.imp (P:=fun v=>DvOwn v w1.heap.size d L1) (Fresh.kp HFR.out ?_ (by omega) (by first|omega|(simp[World.setRow]<;>omega))) (fun v hv=>hv.devIn.booted d.c0 d.c1 k HSL.out);exact x17f
 exact bZ HB4
theorem devBoot_calls(d:Dev)(L:DLoc)(w:World)(h:DevIn w d L):Calls Try.prog 65 #[.agg (devA d L)] w (DvRet w (devBoot d).1 (devBoot d).2):=by
 by_cases hz:devCheck d=0
 ·cases hu:d.up
  ·exact devBoot_ok d L w h hz hu
  ·have e:devBoot d=(Dev.zero,5):=by unfold devBoot;rw[if_neg (by omega),if_pos hu]
   rw[e];exact devBoot_late d L w h hz hu
 have e:devBoot d=(Dev.zero,devCheck d):=by unfold devBoot;rw[if_pos hz]
 rw[e];exact devBoot_bad d L w h hz
theorem x9zo(h:Y:=by
 clear hr hf h z1 z2;go_enter Try.func128,Try.ntmps128;go_wp2_with fail;refine KS.out.mono ?_;rintro e w1 ⟨rfl,hz,hx,hs⟩;have HZ:=qH hz;have HX2:Hid (Bex g base w w1):=qH ⟨HX1.out.1.trans hx.1,fun k a b=>(hx.2 k a b).trans (HX1.out.2 k a b)⟩;have hs2:w.heap.size<=w1.heap.size:=by omega
 clear hz hx KS;go_wp2_with fail;go_ret;exact⟨rfl,HZ.out,HX2.out,hs2⟩):Y:=h
theorem happen_5(g base m top:Nat)(ds:List (Option Addr×Nat))(n:Int)(x:Wor)(L:WLoc)(w:World)(hr:rowOf w g=worA x L)(hf:frOf w g=(0,0))(hg:g<base∨top<=g)(h:WorAt w base m top ds x L):Calls Try.prog 128 #[.pointer (some ⟨g,0,none⟩),.agg #[iv 5,iv n]] w (HaRet w g base (worDevice x (devOpen x.d)).1 (worDevice x (devOpen x.d)).2):=by
 obtain⟨hlt,hm1,hm2,hm3,HBA,HW1,HX1,hs1,-,-⟩:=happen_box g base m top ds n x L w hr hf hg h 5;have a2:=keep1 (bW w) hr (by go_simp) hf;obtain⟨⟨d1,e1⟩,hd1⟩:∃z,devOpen x.d=z:=⟨_,rfl⟩;have KD:=qH (devOpen_calls x.d L.l _ HW1.out.dev.now);exact x2ku
theorem happen_6(g base m top:Nat)(ds:List (Option Addr×Nat))(n:Int)(x:Wor)(L:WLoc)(w:World)(hr:rowOf w g=worA x L)(hf:frOf w g=(0,0))(hg:g<base∨top<=g)(h:WorAt w base m top ds x L):Calls Try.prog 128 #[.pointer (some ⟨g,0,none⟩),.agg #[iv 6,iv n]] w (HaRet w g base (worDevice x (devWrite x.d false n)).1 (worDevice x (devWrite x.d false n)).2):=by
 obtain⟨hlt,hm1,hm2,hm3,HBA,HW1,HX1,hs1,-,-⟩:=happen_box g base m top ds n x L w hr hf hg h 6;have a2:=keep1 (bW w) hr (by go_simp) hf;obtain⟨⟨d1,e1⟩,hd1⟩:∃z,devWrite x.d false n=z:=⟨_,rfl⟩;have KD:=qH (devWrite_calls x.d L.l false n _ HW1.out.dev.now);exact x2ku
theorem happen_7(g base m top:Nat)(ds:List (Option Addr×Nat))(n:Int)(x:Wor)(L:WLoc)(w:World)(hr:rowOf w g=worA x L)(hf:frOf w g=(0,0))(hg:g<base∨top<=g)(h:WorAt w base m top ds x L):Calls Try.prog 128 #[.pointer (some ⟨g,0,none⟩),.agg #[iv 7,iv n]] w (HaRet w g base (worDevice x (devFinish x.d false)).1 (worDevice x (devFinish x.d false)).2):=by
 obtain⟨hlt,hm1,hm2,hm3,HBA,HW1,HX1,hs1,-,-⟩:=happen_box g base m top ds n x L w hr hf hg h 7;have a2:=keep1 (bW w) hr (by go_simp) hf;obtain⟨⟨d1,e1⟩,hd1⟩:∃z,devFinish x.d false=z:=⟨_,rfl⟩;have KD:=qH (devFinish_calls x.d L.l false _ HW1.out.dev.now);exact x2ku
theorem happen_8(g base m top:Nat)(ds:List (Option Addr×Nat))(n:Int)(x:Wor)(L:WLoc)(w:World)(hr:rowOf w g=worA x L)(hf:frOf w g=(0,0))(hg:g<base∨top<=g)(h:WorAt w base m top ds x L):Calls Try.prog 128 #[.pointer (some ⟨g,0,none⟩),.agg #[iv 8,iv n]] w (HaRet w g base (worDevice x (devConfirm x.d)).1 (worDevice x (devConfirm x.d)).2):=by
 obtain⟨hlt,hm1,hm2,hm3,HBA,HW1,HX1,hs1,-,-⟩:=happen_box g base m top ds n x L w hr hf hg h 8;have a2:=keep1 (bW w) hr (by go_simp) hf;obtain⟨⟨d1,e1⟩,hd1⟩:∃z,devConfirm x.d=z:=⟨_,rfl⟩;have KD:=qH (devConfirm_calls x.d L.l _ HW1.out.dev.now);exact x2ku
theorem happen_10(g base m top:Nat)(ds:List (Option Addr×Nat))(n:Int)(x:Wor)(L:WLoc)(w:World)(hr:rowOf w g=worA x L)(hf:frOf w g=(0,0))(hg:g<base∨top<=g)(h:WorAt w base m top ds x L):Calls Try.prog 128 #[.pointer (some ⟨g,0,none⟩),.agg #[iv 10,iv n]] w (HaRet w g base (worDevice x (devBoot x.d)).1 (worDevice x (devBoot x.d)).2):=by
 obtain⟨hlt,hm1,hm2,hm3,HBA,HW1,HX1,hs1,-,-⟩:=happen_box g base m top ds n x L w hr hf hg h 10;have a2:=keep1 (bW w) hr (by go_simp) hf;obtain⟨⟨d1,e1⟩,hd1⟩:∃z,devBoot x.d=z:=⟨_,rfl⟩;have KD:=qH (devBoot_calls x.d L.l _ HW1.out.dev.now);exact x2ku
theorem happen_11(g base m top:Nat)(ds:List (Option Addr×Nat))(n:Int)(x:Wor)(L:WLoc)(w:World)(hr:rowOf w g=worA x L)(hf:frOf w g=(0,0))(hg:g<base∨top<=g)(h:WorAt w base m top ds x L):Calls Try.prog 128 #[.pointer (some ⟨g,0,none⟩),.agg #[iv 11,iv n]] w (HaRet w g base (worDevice x (devWrite x.d true n)).1 (worDevice x (devWrite x.d true n)).2):=by
 obtain⟨hlt,hm1,hm2,hm3,HBA,HW1,HX1,hs1,-,-⟩:=happen_box g base m top ds n x L w hr hf hg h 11;have a2:=keep1 (bW w) hr (by go_simp) hf;obtain⟨⟨d1,e1⟩,hd1⟩:∃z,devWrite x.d true n=z:=⟨_,rfl⟩;have KD:=qH (devWrite_calls x.d L.l true n _ HW1.out.dev.now);exact x2ku
theorem happen_12(g base m top:Nat)(ds:List (Option Addr×Nat))(n:Int)(x:Wor)(L:WLoc)(w:World)(hr:rowOf w g=worA x L)(hf:frOf w g=(0,0))(hg:g<base∨top<=g)(h:WorAt w base m top ds x L):Calls Try.prog 128 #[.pointer (some ⟨g,0,none⟩),.agg #[iv 12,iv n]] w (HaRet w g base (worDevice x (devFinish x.d true)).1 (worDevice x (devFinish x.d true)).2):=by
 obtain⟨hlt,hm1,hm2,hm3,HBA,HW1,HX1,hs1,-,-⟩:=happen_box g base m top ds n x L w hr hf hg h 12;have a2:=keep1 (bW w) hr (by go_simp) hf;obtain⟨⟨d1,e1⟩,hd1⟩:∃z,devFinish x.d true=z:=⟨_,rfl⟩;have KD:=qH (devFinish_calls x.d L.l true _ HW1.out.dev.now);exact x2ku
theorem happen_1(g base m top:Nat)(ds:List (Option Addr×Nat))(n:Int)(x:Wor)(L:WLoc)(w:World)(hr:rowOf w g=worA x L)(hf:frOf w g=(0,0))(hg:g<base∨top<=g)(h:WorAt w base m top ds x L)(hok:WorOk x)(hi:I64 n):Calls Try.prog 128 #[.pointer (some ⟨g,0,none⟩),.agg #[iv 1,iv n]] w (HaRet w g base (worSend x n).1 (worSend x n).2):=by
 obtain⟨hlt,hm1,hm2,hm3,HBA,HW1,HX1,hs1,z1,z2⟩:=happen_box g base m top ds n x L w hr hf hg h 1;have a1:=keep1 (bW w) hr (by go_simp) hf;have KS:=qH (send_calls g base m top ds n x L _ z1 z2 hg HW1.out hok hi);generalize worSend x n=res at *
 exact x9zo
theorem hear_calls(g base m top:Nat)(ds:List (Option Addr×Nat))(n:Int)(x:Wor)(L:WLoc)(w:World)(hr:rowOf w g=worA x L)(hf:frOf w g=(0,0))(hg:g<base∨top<=g)(h:WorAt w base m top ds x L)(hok:WorOk x)(k:Int)(hk:k=2∨k=3∨k=4):Calls Try.prog 155 #[.pointer (some ⟨g,0,none⟩),.agg #[iv k,iv n]] w (HaRet w g base (worHear x k n).1 (worHear x k n).2):=by
 by_cases hn:n<0∨(x.net.length:Int)<=n
 ·have e:worHear x k n=(Wor.zero,4):=by unfold worHear;rw[if_pos hn]
  rw[e];exact hear_who g base m top ds n x L w hr hf hg h hok.few k hn
 obtain⟨i,hi⟩:∃i:Nat,n=(i:Int):=⟨n.toNat,by omega⟩;have hil:i<x.net.length:=by omega
 exact hear_at g base m top ds n x L w hr hf hg h hok.few k hk i hi hil
theorem happen_2(g base m top:Nat)(ds:List (Option Addr×Nat))(n:Int)(x:Wor)(L:WLoc)(w:World)(hr:rowOf w g=worA x L)(hf:frOf w g=(0,0))(hg:g<base∨top<=g)(h:WorAt w base m top ds x L)(hok:WorOk x)(hi:I64 n)(k:Int)(hk:k=2∨k=3∨k=4):Calls Try.prog 128 #[.pointer (some ⟨g,0,none⟩),.agg #[iv k,iv n]] w (HaRet w g base (worHear x k n).1 (worHear x k n).2):=by
 obtain⟨hlt,hm1,hm2,hm3,HBA,HW1,HX1,hs1,z1,z2⟩:=happen_box g base m top ds n x L w hr hf hg h k;have a1:=keep1 (bW w) hr (by go_simp) hf;have KS:=qH (hear_calls g base m top ds n x L _ z1 z2 hg HW1.out hok k hk);generalize worHear x k n=res at *
 rcases hk with rfl|rfl|rfl;iterate 3
  ·exact x9zo
theorem happen_none(g base m top:Nat)(ds:List (Option Addr×Nat))(n:Int)(x:Wor)(L:WLoc)(w:World)(hr:rowOf w g=worA x L)(hf:frOf w g=(0,0))(hg:g<base∨top<=g)(h:WorAt w base m top ds x L)(k:Int)(hk:k<1∨12<k):Calls Try.prog 128 #[.pointer (some ⟨g,0,none⟩),.agg #[iv k,iv n]] w (HaRet w g base Wor.zero 3):=by
 have hlt:g<w.heap.size:=row_lt (w:=w) (by rw[hr];simp[worA]);have hm3:=h.h3;have hm2:=h.h2;have hm1:=h.h1;have a1:=keep1 (bW w) hr (by go_simp) hf;have HBA:Hid (Below w.heap.size w ((w.alloc (.cells #[iv k,iv n] 106)).alloc (.cells (devA x.d L.l) 71))):=qH ((bL _).alloc (by simp) _);have HW1:Hid (WorAt ((w.alloc (.cells #[iv k,iv n] 106)).alloc (.cells (devA x.d L.l) 71)) base m top ds x L):=qH (h.same (fun k2 a b=>HBA.out.block k2 (by omega)) (by simp;omega));have HX1:Hid (Bex g base w ((w.alloc (.cells #[iv k,iv n] 106)).alloc (.cells (devA x.d L.l) 71))):=qH ((Bex.refl g base w).below HBA.out (by omega) (by omega));have hs1:((w.alloc (.cells #[iv k,iv n] 106)).alloc (.cells (devA x.d L.l) 71)).heap.size=w.heap.size+2:=by simp
 have q1:(k==1)=false:=by simp;omega
 have q2:(k==2)=false:=by simp;omega
 have q3:(k==3)=false:=by simp;omega
 have q4:(k==4)=false:=by simp;omega
 have q5:(k==5)=false:=by simp;omega
 have q6:(k==6)=false:=by simp;omega
 have q7:(k==7)=false:=by simp;omega
 have q8:(k==8)=false:=by simp;omega
 have q9:(k==9)=false:=by simp;omega
 have q10:(k==10)=false:=by simp;omega
 have q11:(k==11)=false:=by simp;omega
 have q12:(k==12)=false:=by simp;omega
 clear hr hf h hk;go_enter Try.func128,Try.ntmps128;go_wp2_with fail;go_ret;exact⟨rfl,fun e=>absurd e (by decide),HX1.out,by omega⟩
theorem happen_calls(g base m top:Nat)(ds:List (Option Addr×Nat))(n:Int)(x:Wor)(L:WLoc)(w:World)(hr:rowOf w g=worA x L)(hf:frOf w g=(0,0))(hg:g<base∨top<=g)(h:WorAt w base m top ds x L)(hok:WorOk x)(hi:I64 n)(k:Int):Calls Try.prog 128 #[.pointer (some ⟨g,0,none⟩),.agg #[iv k,iv n]] w (HaRet w g base (worHappen x k n).1 (worHappen x k n).2):=by
 by_cases h1:k<1∨12<k
 ·have e:worHappen x k n=(Wor.zero,3):=by
   have hd:devAct x.d k n=(Dev.zero,3):=by
    unfold devAct;rw[if_neg (by omega),if_neg (by omega),if_neg (by omega),if_neg (by omega),if_neg (by omega),if_neg (by omega),if_neg (by omega),if_neg (by omega)]
   unfold worHappen;rw[if_neg (by omega),if_neg (by omega),hd];rfl
  rw[e];exact happen_none g base m top ds n x L w hr hf hg h k h1
 rcases (show k=1∨k=2∨k=3∨k=4∨k=5∨k=6∨k=7∨k=8∨k=9∨k=10∨k=11∨k=12 by omega)with rfl|rfl|rfl|rfl|rfl|rfl|rfl|rfl|rfl|rfl|rfl|rfl
 ·exact happen_1 g base m top ds n x L w hr hf hg h hok hi
 ·exact happen_2 g base m top ds n x L w hr hf hg h hok hi 2 (by decide)
 ·exact happen_2 g base m top ds n x L w hr hf hg h hok hi 3 (by decide)
 ·exact happen_2 g base m top ds n x L w hr hf hg h hok hi 4 (by decide)
 ·exact happen_5 g base m top ds n x L w hr hf hg h
 ·exact happen_6 g base m top ds n x L w hr hf hg h
 ·exact happen_7 g base m top ds n x L w hr hf hg h
 ·exact happen_8 g base m top ds n x L w hr hf hg h
 ·exact happen_9 g base m top ds n x L w hr hf hg h
 ·exact happen_10 g base m top ds n x L w hr hf hg h
 ·exact happen_11 g base m top ds n x L w hr hf hg h
 exact happen_12 g base m top ds n x L w hr hf hg h
theorem x3uf(h:Y:=by
 go_wp2_with fail;go_ret;exact⟨rfl,rfl⟩):Y:=h
theorem relCheck_bad(h:l=[]∨30<l.length∨∃b∈l,64<b.length):relCheck l=1:=by unfold relCheck;rw[if_pos h]
theorem relCheck_fine(h:¬(l=[]∨30<l.length∨∃b∈l,64<b.length)):relCheck l=0:=by unfold relCheck;rw[if_neg h]
theorem releases_calls(A:OA)(c:Nat)(l:List (List UInt8))(w:World)(hc:l.length<=c)(hl:l.length<=5864062014634)(hs:Ims w A l):
  Calls Try.prog 137 #[.slice A l.length c] w (Ret w (iv (relCheck l))):=by
 by_cases h1:l=[]
 ·subst h1;rw[relCheck_bad (.inl rfl)];go_enter Try.func137,Try.ntmps137;exact x3uf
 have hpos:0<l.length:=List.length_pos_iff.2 h1;by_cases h2:30<l.length
 ·rw[relCheck_bad (.inr (.inl h2))];have q1:¬((l.length:Int)=0):=by omega
  have q2:(30:Int)<(l.length:Int):=by omega
  have q3:((l.length:Int)==0)=false:=by simp;omega
  clear h1;go_enter Try.func137,Try.ntmps137;exact x3uf
 obtain⟨r,hr⟩:=eX (relCheck l);rw[hr];have HR:Hid (r=if ∃b∈l,64<b.length then 1 else 0):=qH (by
  rw[<-hr];by_cases h3:∃b∈l,64<b.length
  ·rw[relCheck_bad (.inr (.inr h3)),if_pos h3]
  rw[relCheck_fine (fun h=>h.elim h1 (fun h=>h.elim h2 h3)),if_neg h3])
 have HS:=qH hs;have q1:¬((l.length:Int)=0):=by omega
 have q2:¬(30:Int)<(l.length:Int):=by omega
 have q3:((l.length:Int)==0)=false:=by simp;omega
 have hcap:(l.length:Int)<=(c:Int):=by omega
 clear hr hs h1 hpos;go_enter Try.func137,Try.ntmps137;go_wp2_with fail;go_loopw [15] (fun i wr=>∃k:Nat,k<=l.length∧i=iv k∧wr=w∧Hid (∀b∈l.take k,b.length<=64)) (fun i _=>l.length-(intOf i).toNat)
 case atStart=>exact⟨0,Nat.zero_le _,rfl,rfl,qH (by simp)⟩
 case round=>
  obtain⟨k,hk,rfl,rfl,HB⟩:=hrel;by_cases hlt:k<l.length
  ·obtain⟨b,o,rfl,hb,cs,hcl,hcc,B,d,rfl,hd1,hd2,hd3⟩:=HS.out k hlt;obtain⟨x,hx⟩:=eX (l[k]);have q4:wr.cell? ⟨b,o+k,none⟩=some (.slice B x.length d):=by have:=hcc 0 (by simp);rw[hx]at this;simpa using this
   have hwk:IntKind.i64.wrap ((k:Int)+1)=(k:Int)+1:=IntWalk.i64_in _ (by omega);have HX:=qH hx;by_cases h1:64<x.length
   ·have hz:r=1:=by rw[HR.out,if_pos ⟨x,by rw[<-HX.out];exact List.getElem_mem hlt,h1⟩]
    subst hz;have q:(64:Int)<(x.length:Int):=by omega
    clear hcc hcl hd1 hd2 hd3 hx;exact x3uf
   have q:¬(64:Int)<(x.length:Int):=by omega
   have HB1:Hid (∀b∈l.take (k+1),b.length<=64):=qH (fun y hy=>by
    rw[List.take_succ_eq_append_getElem hlt,List.mem_append]at hy;rcases hy with hy|hy
    ·exact HB.out y hy
    have e:y=l[k]:=by simpa using hy
    rw[e,HX.out];omega)
   clear hcc hcl hd1 hd2 hd3 hx;go_wp2_with fail;go_roundw
   case rel=>exact⟨k+1,by omega,by go_num,by first|rfl|trivial,HB1⟩
   case measure=>simp[intOf];omega
  obtain rfl:k=l.length:=by omega
  have hz:r=0:=by
   rw[HR.out,if_neg];rintro⟨b,hb,h⟩;have:=HB.out b (by rw[List.take_length];exact hb);omega
  subst hz;exact x3uf
theorem worCheck_rel(h:relCheck x.rel≠0):worCheck x=relCheck x.rel:=by unfold worCheck;rw[if_pos h]
theorem worCheck_dev(h:relCheck x.rel=0)(g:devCheck x.d≠0):worCheck x=devCheck x.d:=by unfold worCheck;rw[if_neg (by omega),if_pos g]
theorem worCheck_many(h:relCheck x.rel=0)(g:devCheck x.d=0)(i:120<x.net.length):worCheck x=1:=by unfold worCheck;rw[if_neg (by omega),if_neg (by omega),if_pos i]
theorem worCheck_net(h:relCheck x.rel=0)(g:devCheck x.d=0)(i:¬120<x.net.length):worCheck x=netCheck x.net:=by unfold worCheck;rw[if_neg (by omega),if_neg (by omega),if_neg i]
theorem netCheck_cons(y:Chk)(l:List Chk):netCheck (y::l)=if chkCheck y≠0 then chkCheck y else netCheck l:=rfl
theorem worCheck_calls(x:Wor)(L:WLoc)(w:World)(h:WorIn w x L):Calls Try.prog 84 #[.agg (worA x L)] w (RetB w (iv (worCheck x))):=by
 have HBA:=qH ((bW w).alloc nl (.cells (worA x L) 88));have HIN:=qH h;have K1:=qH (fun w h=>releases_calls L.ar L.cr x.rel w HIN.out.kr HIN.out.lr h);have K2:=qH (fun w h=>devCheck_calls x.d L.l w h);obtain⟨n,hn⟩:=eX (worCheck x);rw[hn];have HN:=qH hn;obtain⟨e1,he1⟩:∃e,relCheck x.rel=e:=⟨_,rfl⟩;obtain⟨e2,he2⟩:∃e,devCheck x.d=e:=⟨_,rfl⟩;rw[he1]at K1;rw[he2]at K2;have HE1:=qH he1;have HE2:=qH he2;clear h hn he1 he2;go_enter Try.func84,Try.ntmps84;go_wp2_with fail;refine(K1.out _ (HIN.out.rel.stays HBA.out)).mono ?_;rintro e w3 ⟨rfl,rfl⟩;by_cases c1:e1≠0
 ·have hz:Hid (n=e1):=qH (by rw[<-HN.out,worCheck_rel (by rw[HE1.out];exact c1),HE1.out]);have q:(e1 !=0)=true:=by simp[c1]
  clear c1;go_wp2_with fail;go_ret;have hs:=HBA.out.size;refine⟨ret_int hz.out.symm,?_⟩;exact x0ap
 have c1:=Decidable.not_not.1 c1;subst c1;go_wp2_with fail;refine(K2.out _ (HIN.out.dev.stays HBA.out)).mono ?_;rintro e w1 ⟨rfl,hb⟩;have a1:=kp (w.heap.size) (worA x L) hb;have HB1:=bT HBA hb;clear hb;by_cases c2:e2≠0
 ·have hz:Hid (n=e2):=qH (by rw[<-HN.out,worCheck_dev HE1.out (by rw[HE2.out];exact c2),HE2.out]);have q:(e2 !=0)=true:=by simp[c2]
  clear c2;go_wp2_with fail;go_ret;have hs:=HB1.out.size;refine⟨ret_int hz.out.symm,?_⟩;exact x0ap
 have c2:=Decidable.not_not.1 c2;subst c2;by_cases c3:120<x.net.length
 ·have hz:Hid (n=1):=qH (by rw[<-HN.out,worCheck_many HE1.out HE2.out c3]);have q:(120:Int)<(x.net.length:Int):=by omega
  go_wp2_with fail;go_ret;have hs:=HB1.out.size;refine⟨ret_int hz.out.symm,?_⟩;exact x0ap
 have q3:¬(120:Int)<(x.net.length:Int):=by omega
 have HN1:Hid (netCheck x.net=n):=qH (by rw[<-HN.out,worCheck_net HE1.out HE2.out c3]);have hcap:(x.net.length:Int)<=(L.cn:Int):=by have:=HIN.out.kn;omega
 have HNT:=qH HIN.out.net;go_wp2_with fail;generalize L.an=an at *
 go_loopw [27] (fun i wr=>∃k:Nat,k<=x.net.length∧i=iv k∧Hid (netCheck (x.net.drop k)=n)∧Hid (Below w.heap.size w wr)) (fun i _=>x.net.length-(intOf i).toNat)
 case atStart=>exact⟨0,Nat.zero_le _,rfl,qH (by rw[List.drop_zero];exact HN1.out),HB1⟩
 case round=>
  clear HB1 HN1 a1;rename World=>wr;obtain⟨k,hk,rfl,HE,HB⟩:=hrel;have hsz:=HB.out.size;by_cases hlt:k<x.net.length
  ·obtain⟨b,o,B,c,rfl,hb,hck,hin⟩:=(HNT.out.stays HB.out).chk hlt;obtain⟨y,hy⟩:=eX (x.net[k]);rw[hy]at hck hin;obtain⟨q6,q1,q2,q4,q5⟩:=hck;have hdr:x.net.drop k=y::x.net.drop (k+1):=by rw[List.drop_eq_getElem_cons hlt,hy]
   have hne:=HE.out;rw[hdr,netCheck_cons]at hne;have HNE:=qH hne;have KC:=qH (fun w=>chkCheckX_calls B c y w ⟨hin.i2,hin.i3⟩);have hwk:IntKind.i64.wrap ((k:Int)+1)=(k:Int)+1:=IntWalk.i64_in _ (by omega);have dl:decide ((k:Int)<(x.net.length:Int))=true:=decide_eq_true (by omega);obtain⟨e3,he1⟩:∃e,chkCheck y=e:=⟨_,rfl⟩;rw[he1]at KC HNE;clear hy hin hdr hne he1;go_wp2_with fail;refine(KC.out _).mono ?_;rintro e w2 ⟨rfl,hb1⟩;have HB1:Hid (Below w.heap.size w w2):=qH (by
    refine Below.trans ?_ (hb1.mono (by first|omega|(simp<;>omega)));repeat (first|exact HB.out|refine bA ?_ _))
   clear hb1;by_cases c4:e3≠0
   ·have hz:Hid (n=e3):=qH (by have:=HNE.out;rw[if_pos c4]at this;exact this.symm);have q:(e3 !=0)=true:=by simp[c4]
    clear c4;go_wp2_with fail;go_ret;have hs:=HB1.out.size;refine⟨ret_int hz.out.symm,?_⟩;exact x0ap
   have c4:=Decidable.not_not.1 c4;subst c4;have HE2':Hid (netCheck (x.net.drop (k+1))=n):=qH (by have:=HNE.out;rw[if_neg (by decide)]at this;exact this);go_wp2_with fail;go_roundw
   case rel=>exact⟨k+1,by omega,by go_num,HE2',HB1⟩
   case measure=>simp[intOf];omega
  obtain rfl:k=x.net.length:=by omega
  have dl:decide ((x.net.length:Int)<(x.net.length:Int))=false:=by simp
  have hz:Hid (n=0):=qH (by have:=HE.out;rw[List.drop_length]at this;exact this.symm);go_wp2_with fail;go_ret;have hs:=HB.out.size;refine⟨ret_int hz.out.symm,?_⟩;exact x0ap
theorem x27l(h:Y:=by
 obtain⟨A1,c1,ds,y1,g1,g2,h⟩:=hJ;exact key h):Y:=h
theorem images_calls(A:OA)(c:Nat)(l:List (List UInt8))(w:World)(hl:l.length<=5864062014634)(hs:Ims w A l):
  Calls Try.prog 153 #[.slice A l.length c] w (KrRet kImg w l):=by
 obtain⟨ds1,hg⟩:=hs.gsrc;have hbd:=hs.bound;have HBD:=qH hbd;have HG:=qH hg;have K1:=qH (cloneRows_calls A l.length c (kImg.cells l ds1) w (cells_len _ _ hg.len) (by omega) hg.row (cells_oneCell _ _));clear hs hg hbd;go_enter Try.func153,Try.ntmps153;go_wp2_with fail;refine K1.out.mono ?_;rintro e w1 ⟨A1,c1,rfl,hown,hb1⟩;have hrow:GRow kImg w1 w.heap.size l ds1 A1 c1:=⟨HG.out.len,hown,(HG.out.stays hb1).data,fun i o d h1 h2 hx k hk e=>by
  have:=HG.out.each i o d h1 h2 hx k hk;have:=(hown.block k e).1;omega⟩
 have HR1:=qH hrow;have HB1:Hid (Below w.heap.size w w1):=qH hb1;clear hown hb1 hrow K1;go_wp2_with fail;go_loopw [9] (fun i wr=>∃(k:Nat) (ds:List (Option Addr×Nat)),k<=l.length∧i=iv k∧Hid (GRow kImg wr w.heap.size l ds A1 c1)∧Hid (∀(j:Nat) (o:(List UInt8)) (d:Option Addr×Nat),j<k->l[j]?=some o->ds[j]?=some d->kImg.dat o≠[]->∀q,d.1.map (·.block)=some q->w.heap.size<=q)∧Hid (Below w.heap.size w wr)) (fun i _=>l.length-(intOf i).toNat)
 case atStart=>exact⟨0,ds1,Nat.zero_le _,rfl,HR1,qH (fun j o d h=>by omega),HB1⟩
 case round=>
  clear HR1 HB1;rename World=>wr;obtain⟨k,ds,hk,rfl,HR,HN,HB⟩:=hrel;have hsz:=HB.out.size;by_cases hlt:k<l.length
  ·obtain⟨g,rfl,hg1,hg2⟩:=HR.out.row.form (by omega);have hlk:l[k]?=some l[k]:=List.getElem?_eq_getElem hlt;have hdk:ds[k]?=some (ds[k]'(by have:=HR.out.len;omega)):=List.getElem?_eq_getElem _;obtain⟨x,hx⟩:=eX (l[k]);obtain⟨e,he⟩:=eX (ds[k]'(by have:=HR.out.len;omega));rw[hx]at hlk;rw[he]at hdk;have hcell:∀j,j<1->wr.cell? ⟨g,k+j,none⟩=(kImg.cell x e)[j]?:=fun j hj=>by
    rw[HR.out.row.cellAt _ (show k+j<l.length*1 by omega)];have h1:=cells_at (K:=kImg) l ds HR.out.len k j x e hlk hdk hj;rw[show k*kImg.size+j=k+j by show k*1+j=k+j;omega]at h1;exact h1
   have q1:wr.cell? ⟨g,k,none⟩=some (.slice e.1 x.length e.2):=by have:=hcell 0 (by decide);simpa[kImg]using this
   obtain⟨hd1,hd2⟩:=HR.out.data k x e hlk hdk;have hxl:x.length<=140737488351232:=(HBD.out x (List.mem_of_getElem? hlk));have HD1:Hid (Bts wr e.1 x):=qH hd1;have HLK:=qH hlk;have HDK:=qH hdk;have K1:=qH (fun w h=>cloneBytes_calls e.1 x.length e.2 (x.map bv) w (by simp) (by omega) h (bv_one _));have hfr:wr.frozen? ⟨g,k,none⟩=false:=HR.out.row.frozenAt _;have dl:decide ((k:Int)<(l.length:Int))=true:=decide_eq_true (by omega);have hwk:IntKind.i64.wrap ((k:Int)+1)=(k:Int)+1:=IntWalk.i64_in _ (by omega);have hcap:(l.length:Int)<=(c1:Int):=by have:=HR.out.row.le;omega
   clear hcell hx he hlk hdk hd1 hd2;go_wp2_with fail;refine(K1.out _ HD1.out.src).mono ?_;rintro en w2 ⟨B,d,rfl,hob,hb1⟩;have hb2:=hb1;have HR1:=qH (HR.out.below hb2);have hq1:w2.cell? ⟨g,k,none⟩=some (.slice e.1 x.length e.2):=(hb2.cell (p:=⟨g,k,none⟩) hg2).trans q1;have hf1:w2.frozen? ⟨g,k,none⟩=false:=(hb2.frozen (p:=⟨g,k,none⟩) hg2).trans hfr;have HBB:Hid (Below w.heap.size w (w2.setCell ⟨g,k,none⟩ (.slice B x.length d))):=qH ((HB.out.trans (hb2.mono hsz)).setCell (p:=⟨g,k,none⟩) hg1 _);have hgw:∀q,B.map (·.block)=some q->wr.heap.size<=q:=fun q h=>(hob.block q h).1;have HR2:Hid (GRow kImg (w2.setCell ⟨g,k,none⟩ (.slice B x.length d)) w.heap.size l (ds.set k (B,d)) (some ⟨g,0,none⟩) c1):=qH (by
    have h1:=HR1.out.setData (e:=(B,d)) HLK.out hob.src.bts (by show x.length<=d;simpa using hob.le) (fun _ q h e2=>by have:=hgw q h;omega);rw[show k*kImg.size+kImg.slot=k by show k*1+0=k;omega]at h1;exact h1)
   have HN1:Hid (∀(j:Nat) (o:(List UInt8)) (d':Option Addr×Nat),j<k+1->l[j]?=some o->(ds.set k (B,d))[j]?=some d'->kImg.dat o≠[]->∀q,d'.1.map (·.block)=some q->w.heap.size<=q):=qH (fun j o d' hj h1 h2 hx q hq=>by
    exact x9r5)
   clear hob hb1 hb2 q1 hfr hgw;exact x6bz
  exact x6wy
theorem x13e(h:Y:=by
 obtain⟨r_,f_⟩:=wcJ_row (by have hk:=hn 10 _ 4 rfl rfl (by decide);omega) HR.out HF.out hJ;have c_:=cell_row (w:=wq) (g:=g) (by rw[r_];simp[worA]);go_simp):Y:=h
def wcJ(w0:World)(g:Nat)(x:Wor):Nat->(Nat->Value)->World->Prop
 |0,_,w=>w=w0.drew
 |1,cv,w1=>∃A5 c5 ds,cv 2=.slice A5 x.rel.length c5∧GRow kImg w1 w0.heap.size x.rel ds A5 c5∧Each kImg x.rel ds (fun k=>w0.heap.size<=k)∧Below w0.heap.size w0 w1
 |2,cv,w2=>∃A5 c5 ds w1 L6,cv 2=.slice A5 x.rel.length c5∧cv 5=.agg (devA x.d L6)∧GRow kImg w1 w0.heap.size x.rel ds A5 c5∧Each kImg x.rel ds (fun k=>w0.heap.size<=k)∧Below w0.heap.size w0 w1∧Fresh w1.heap.size w2 (fun v=>DvOwn v w1.heap.size x.d L6)∧Below w1.heap.size w1 w2
 |3,cv,w=>∃A5 c5 ds w1 L6 w2 A7 c7 ds7,cv 2=.slice A5 x.rel.length c5∧cv 5=.agg (devA x.d L6)∧cv 8=.slice A7 x.net.length c7∧GRow kImg w1 w0.heap.size x.rel ds A5 c5∧Each kImg x.rel ds (fun k=>w0.heap.size<=k)∧Below w0.heap.size w0 w1∧Fresh w1.heap.size w2 (fun v=>DvOwn v w1.heap.size x.d L6)∧Below w1.heap.size w1 w2∧GRow kChk w w2.heap.size x.net ds7 A7 c7∧Each kChk x.net ds7 (fun k=>w2.heap.size<=k)∧Below w2.heap.size w2 w
 |4,cv,w=>∃A5 c5 ds w1 L6 w2 A7 c7 ds7,cv 9=.agg (worA ⟨x.rel,x.d,x.net⟩ ⟨A5,c5,L6,A7,c7⟩)∧GRow kImg w1 w0.heap.size x.rel ds A5 c5∧Each kImg x.rel ds (fun k=>w0.heap.size<=k)∧Below w0.heap.size w0 w1∧Fresh w1.heap.size w2 (fun v=>DvOwn v w1.heap.size x.d L6)∧Below w1.heap.size w1 w2∧GRow kChk w w2.heap.size x.net ds7 A7 c7∧Each kChk x.net ds7 (fun k=>w2.heap.size<=k)∧Below w2.heap.size w2 w
 |_,_,w=>∃A5 c5 ds w1 L6 w2 A7 c7 ds7 w3,GRow kImg w1 w0.heap.size x.rel ds A5 c5∧Each kImg x.rel ds (fun k=>w0.heap.size<=k)∧Below w0.heap.size w0 w1∧Fresh w1.heap.size w2 (fun v=>DvOwn v w1.heap.size x.d L6)∧Below w1.heap.size w1 w2∧GRow kChk w3 w2.heap.size x.net ds7 A7 c7∧Each kChk x.net ds7 (fun k=>w2.heap.size<=k)∧Below w2.heap.size w2 w3∧w=w3.setRow (g+1) (worA ⟨x.rel,x.d,x.net⟩ ⟨A5,c5,L6,A7,c7⟩)
theorem wcJ_row{w0:World}{g k:Nat}{L:WLoc}{cv:Nat->Value}(hk:k<=4)(hr:rowOf w0 g=worA x L)(hf:frOf w0 g=(0,0))(hJ:wcJ w0 g x k cv w):rowOf w g=worA x L∧frOf w g=(0,0):=by
 have hg:g<w0.heap.size:=row_lt (w:=w0) (by rw[hr];simp[worA]);have key:Below w0.heap.size w0 w->rowOf w g=worA x L∧frOf w g=(0,0):=fun hb=>⟨(rowOf_below hg hb).trans hr,(frOf_below hg hb).trans hf⟩;rcases (show k=0∨k=1∨k=2∨k=3∨k=4 by omega)with rfl|rfl|rfl|rfl|rfl
 ·have hJ':w=w0.drew:=hJ;subst hJ';exact key (Below.refl _ _).drew
 ·exact x27l
 ·obtain⟨A2,c2,ds,w1,L1,y1,y2,g1,g2,h,g3,h1⟩:=hJ;exact key (h.trans (h1.mono h.size))
 ·obtain⟨A1,c1,ds,w1,L2,w2,A3,c3,ds1,y1,y2,y3,g1,g2,h,g3,h2,g4,g5,h3⟩:=hJ;exact key (h.trans ((h2.trans (h3.mono h2.size)).mono h.size))
 obtain⟨A1,c1,ds,w1,L1,w2,A2,c2,ds1,y1,g1,g2,h,g3,h1,g4,g5,h3⟩:=hJ;exact key (h.trans ((h1.trans (h3.mono h1.size)).mono h.size))
theorem worCopy_calls(x:Wor)(L:WLoc)(w:World)(h:WorIn w x L):Calls Try.prog 127 #[.agg (worA x L)] w (WcRet w x):=by
 have HI:=qH h;have HBD:Hid ((∀y∈x.net,ChkB y)∧∀y∈x.rel,y.length<=140737488351232):=qH ⟨h.net.bound,h.rel.bound⟩;clear h;go_enter Try.func127,Try.ntmps127;go_wp2_with fail;have q1:rowOf ((w.alloc (.cells (worA x L) 88)).alloc (.cells (worA Wor.zero WLoc.zero) 88)) w.heap.size=worA x L:=by go_simp
 have q2:frOf ((w.alloc (.cells (worA x L) 88)).alloc (.cells (worA Wor.zero WLoc.zero) 88)) w.heap.size=(0,0):=by go_simp
 have q3:rowOf ((w.alloc (.cells (worA x L) 88)).alloc (.cells (worA Wor.zero WLoc.zero) 88)) (w.heap.size+1)=worA Wor.zero WLoc.zero:=by go_simp
 have q4:frOf ((w.alloc (.cells (worA x L) 88)).alloc (.cells (worA Wor.zero WLoc.zero) 88)) (w.heap.size+1)=(0,0):=by go_simp
 obtain⟨w5,hw1⟩:=eX ((w.alloc (.cells (worA x L) 88)).alloc (.cells (worA Wor.zero WLoc.zero) 88));have HB1:Hid (Below w.heap.size w w5):=qH (by rw[<-hw1];exact(bL _).alloc (by simp) _);have HSZ:Hid (w5.heap.size=w.heap.size+2):=qH (by rw[<-hw1];simp);obtain⟨g,hg⟩:=eX (w.heap.size);rw[hw1,hg]at q1 q2 q3 q4;have HR:=qH q1;have HF:=qH q2;have HRz:=qH q3;have HFz:=qH q4;rw[hg]at HSZ;have HGz:Hid (g+1<w5.heap.size):=qH (by rw[HSZ.out];omega);rw[hw1];rw[hg]at HB1⊢;have HGE:=qH hg;clear hw1 hg q1 q2 q3 q4;have HIN:Hid (WorIn w5 x L):=qH (HI.out.stays (HGE.out▸HB1.out));have KA:Hid (∀wq,Below w5.heap.size w5 wq->Calls Try.prog 153 #[.slice L.ar x.rel.length L.cr] wq (KrRet kImg wq x.rel)):=qH (fun wq h=>images_calls _ _ _ wq HI.out.lr (HIN.out.rel.stays h));have KB:Hid (∀wq,Below w5.heap.size w5 wq->Calls Try.prog 124 #[.agg (devA x.d L.l)] wq (DcRet wq x.d)):=qH (fun wq h=>devCopy_calls _ _ wq (HIN.out.dev.stays h));have KN:Hid (∀wq,Below w5.heap.size w5 wq->Calls Try.prog 101 #[.slice L.an x.net.length L.cn] wq (KrRet kChk wq x.net)):=qH (fun wq h=>chkCopy_calls _ _ _ wq HI.out.ln (HIN.out.net.stays h));refine wp_region_mix (by kernel_rfl) (some 3::some 4::some 5::some 6::some 7::some 8::some 9::some 10::some 11::some 12::none::[]) (none::none::some 0::none::none::some 1::none::none::some 2::some 3::some 4::[]) (.pointer (some ⟨g,0,none⟩)::.slice L.ar x.rel.length L.cr::undef::.pointer (some ⟨g,1,none⟩)::.agg (devA x.d L.l)::undef::.pointer (some ⟨g,38,none⟩)::.slice L.an x.net.length L.cn::undef::undef::undef::[]) 5 (wcJ w5 g x) 13 rfl rfl (by decide+kernel) (by decide+kernel) (by decide+kernel) (by decide+kernel) rfl rfl (by decide+kernel) (by decide+kernel) (rfl) ?_ ?_
 ·refine⟨?_,?_,?_,?_,?_,?_,?_,?_,?_,?_,?_,trivial⟩
  ·exact x9ik
  ·intro done cv k2 a wq hw h hJ hn;have e1:=mN 0 3 h hw;exact x13e
  ·intro done cv a wq hw h hJ;have e1:=mN 1 4 h hw;obtain rfl:wq=w5.drew:=hJ;refine wp_call (vals:=#[.slice L.ar x.rel.length L.cr]) (by rw[List.map_toArray,List.map_cons,List.map_nil,ch_ev e1]) (enters_of Try.func153 (by kernel_rfl) rfl _ _) (KA.out _ ((Below.refl _ _).drew)) ?_;exact x8e1
  ·exact x9ik
  ·intro done cv k2 a wq hw h hJ hn;have e1:=mN 3 6 h hw;exact x13e
  ·intro done cv a wq hw h hJ;have e1:=mN 4 7 h hw;obtain⟨A1,c1,ds,y1,hrow,heach,hbel⟩:=hJ;refine wp_call (vals:=#[.agg (devA x.d L.l)]) (by rw[List.map_toArray,List.map_cons,List.map_nil,ch_ev e1]) (enters_of Try.func124 (by kernel_rfl) rfl _ _) (KB.out _ hbel) ?_;rintro e w' ⟨L1,rfl,hfr,hbel1⟩;exact⟨_,rfl,_,rfl,A1,c1,ds,wq,L1,by simpa using y1,by simp,hrow,heach,hbel,hfr,hbel1⟩
  ·exact x9ik
  ·intro done cv k2 a wq hw h hJ hn;have e1:=mN 6 9 h hw;exact x13e
  ·intro done cv a wq hw h hJ;have e1:=mN 7 10 h hw;obtain⟨A1,c1,ds,w1,L1,y1,y2,hrow,heach,hbel,hfr,hbel1⟩:=hJ;refine wp_call (vals:=#[.slice L.an x.net.length L.cn]) (by rw[List.map_toArray,List.map_cons,List.map_nil,ch_ev e1]) (enters_of Try.func101 (by kernel_rfl) rfl _ _) (KN.out _ (hbel.trans (hbel1.mono hbel.size))) ?_;rintro e w' ⟨A2,c2,ds1,rfl,hrow1,heach1,hbel2⟩;exact⟨_,rfl,_,rfl,A1,c1,ds,w1,L1,wq,A2,c2,ds1,by simpa using y1,by simpa using y2,by simp,hrow,heach,hbel,hfr,hbel1,hrow1,heach1,hbel2⟩
  ·intro done cv a wq hw h hJ;have e1:=mx_cv (i:=2) (t:=5) h (hw 2 (by decide)) rfl rfl;have e8:=mx_cv (i:=5) (t:=8) h (hw 5 (by decide)) rfl rfl;have e11:=mx_cv (i:=8) (t:=11) h (hw 8 (by decide)) rfl rfl;obtain⟨A1,c1,ds,w1,L1,w2,A2,c2,ds1,y1,y2,y3,hrow,heach,hbel,hfr,hbel1,hrow1,heach1,hbel3⟩:=hJ;rw[y1]at e1;rw[y2]at e8;rw[y3]at e11;refine wp_val (v:=.agg (worA ⟨x.rel,x.d,x.net⟩ ⟨A1,c1,L1,A2,c2⟩)) (by go_simp) ⟨_,rfl,A1,c1,ds,w1,L1,w2,A2,c2,ds1,by simp,hrow,heach,hbel,hfr,hbel1,hrow1,heach1,hbel3⟩
  ·intro done cv a wq hw h hJ;have e1:=mO 2 (.pointer (some ⟨g+1,0,none⟩)) h;have e12:=mx_cv (i:=9) (t:=12) h (hw 9 (by decide)) rfl rfl;obtain⟨A1,c1,ds,w1,L1,w2,A2,c2,ds1,y1,hrow,heach,hbel,hfr,hbel1,hrow1,heach1,hbel3⟩:=hJ;rw[y1]at e12;have hbl:=hbel.trans ((hbel1.trans (hbel3.mono hbel1.size)).mono hbel.size);refine wp_srow e1 e12 (by go_simp) (by go_simp) (cs:=worA Wor.zero WLoc.zero) ((rowOf_below HGz.out hbl).trans HRz.out) (by go_simp) ((frOf_below HGz.out hbl).trans HFz.out) (by go_simp) ⟨undef,rfl,A1,c1,ds,w1,L1,w2,A2,c2,ds1,wq,hrow,heach,hbel,hfr,hbel1,hrow1,heach1,hbel3,?_⟩;rw[splice_all _ _ (by simp[worA])]
 intro cv w4 hJ;obtain⟨A1,c1,ds,w1,L1,w2,A2,c2,ds1,w3,hrow,heach,hbel,hfr,hbel1,hrow1,heach1,hbel3,rfl⟩:=hJ;simp only[mixAll,putAll_some,putAll_none,putAll_nil,List.getElem?_cons_zero,List.getElem?_cons_succ,Nat.zero_add,Nat.reduceAdd,List.setIfInBounds_toArray,List.set_cons_zero,List.set_cons_succ];have hbl:=hbel.trans ((hbel1.trans (hbel3.mono hbel1.size)).mono hbel.size);have r1:0<(rowOf w3 (g+1)).size:=by rw[rowOf_below HGz.out hbl,HRz.out];simp[worA]
 have hs4:=HSZ.out;have hs1:=hbel.size;have hs2:=hbel1.size;have hs3:=hbel3.size;have HW:Hid (WorAt w3 w5.heap.size w2.heap.size w3.heap.size ds1 x ⟨A1,c1,L1,A2,c2⟩):=qH ⟨by omega,hs3,nl,by
   have h1:FrIn w5.heap.size w1.heap.size w1 (fun v=>Ims v A1 x.rel):=((hrow.fresh heach).imp fun v hv=>hv.src.ims HBD.out.2).frIn;exact(h1.of (v:=w3) (fun k a b=>((hbel3.block k (by omega)).trans (hbel1.block k b)))).wider nl hs2,by
   have h2:FrIn w1.heap.size w2.heap.size w2 (fun v=>DevIn v x.d L1):=(hfr.imp fun v hv=>hv.devIn).frIn;exact(h2.wider hs1 nl).of (fun k a b=>hbel3.block k b),hrow1,(fun i o d e1 e2 hx k hk=>⟨heach1 i o d e1 e2 hx k hk,hrow1.src.each i o d e1 e2 hx k hk⟩),(fun k e=>(hrow1.row.block k e).2),HBD.out.1,hrow.row.le,HI.out.lr,HI.out.ln⟩
 have HB2:Hid (Below g w (w3.setRow (g+1) (worA ⟨x.rel,x.d,x.net⟩ ⟨A1,c1,L1,A2,c2⟩))):=qH (below_row (HB1.out.trans (hbl.mono (by omega))) (by omega) _);clear hrow heach hbel hfr hbel1 hrow1 heach1 hbel3 KA KB KN;have r2:rowOf (w3.setRow (g+1) (worA ⟨x.rel,x.d,x.net⟩ ⟨A1,c1,L1,A2,c2⟩)) (g+1)=worA ⟨x.rel,x.d,x.net⟩ ⟨A1,c1,L1,A2,c2⟩:=by rw[rowOf_setRow _ _ _ _ r1,if_pos rfl]
 go_wp2_with fail;refine bodyPost_ret (results_c rfl rfl (cs:=worA ⟨x.rel,x.d,x.net⟩ ⟨A1,c1,L1,A2,c2⟩) r2 (by go_simp) (by go_simp)) rfl ⟨⟨A1,c1,L1,A2,c2⟩,w2.heap.size,ds1,rfl,?_,?_⟩
 ·rw[HGE.out,<-hs4];have h1:=HW.out.same (v:=w3.setRow (g+1) (worA ⟨x.rel,x.d,x.net⟩ ⟨A1,c1,L1,A2,c2⟩)) (fun k a b=>setRow_other _ _ _ _ (by omega)) (by simp[World.setRow]);have e1:(w3.setRow (g+1) (worA ⟨x.rel,x.d,x.net⟩ ⟨A1,c1,L1,A2,c2⟩)).heap.size=w3.heap.size:=by simp[World.setRow]
  rw[e1];exact h1
 rw[HGE.out];exact HB2.out
theorem x5xy(h:Y:=by
 repeat (first|exact Below.refl _ _|refine bA ?_ _)):Y:=h
theorem big_recN(n:Nat)(h:0<n):bigBuild Try.prog 66 n:=by
 obtain⟨i,hi,_⟩:=info_parts (P:=Try.prog) (e:=66) (z:=.agg (recA Rec.zero)) (size:=11) (bytes:=88) (by kernel_rfl);exact⟨i,hi,h⟩
@[go_sem] theorem big_rec2N:bigBuild Try.prog 66 2:=big_recN 2 (by decide)
@[go_sem] theorem build_rec2N(g f:Int)(w:World):runBuild Try.prog 66 #[(0,iv g),(4,iv f)] w=.ok (.agg (recA ⟨g,0,false,0,f,Inf.zero,Inf.zero⟩)) w:=by kernel_rfl
@[go_sem] theorem build_devN(a b:OA)(c e:Nat)(x y:LU)(u:Bool)(w:World):runBuild Try.prog 71 #[(2,.bool u),(0,.agg (slotsA a x.length c b y.length e))] w=.ok (.agg (devA ⟨x,y,Cop.zero,Cop.zero,u,0,[],false,Pat.zero,0⟩ ⟨a,c,b,e,none,0,none,0⟩)) w:=by kernel_rfl
theorem devNew_calls(A:OA)(c:Nat)(b:LU)(w:World)(hl:b.length<=140737488351232)(hB:Bts w A b):Calls Try.prog 69 #[.slice A b.length c] w (DvRet w (devNew b).1 (devNew b).2):=by
 have hba:Below w.heap.size w (w.alloc (.cells (devA Dev.zero DLoc.zero) 71)):=bL _;have HBA:=qH hba;have HB:=qH hB;by_cases h1:64<b.length
 ·have hz:devNew b=(Dev.zero,1):=by unfold devNew;rw[if_pos h1]
  rw[hz];have q:(64:Int)<(b.length:Int):=by omega
  clear hB hba hz;go_enter Try.func69,Try.ntmps69;go_wp2_with fail;refine bodyPost_ret (rC (devA Dev.zero DLoc.zero)) rfl ⟨DLoc.zero,rfl,.const fun v=>DevIn.zero v,bZ HBA⟩
 have hz:devNew b=(newDev b,0):=by unfold devNew;rw[if_neg h1]
 rw[hz];have q:¬(64:Int)<(b.length:Int):=by omega
 have KS:=qH (fun w h=>sumOf_calls A c b w (by omega) h);have hb1:b.length<=64:=by omega
 have KR:=qH (fun w h=>room_calls A c b w hb1 h);have KN:=qH (fun w=>room_calls none 0 [] w (by simp) (bts_nil w none));have HRL:Hid ((room b).length=64∧(room []).length=64):=qH ⟨room_len hb1,room_len (by simp)⟩;obtain⟨s,hs⟩:=eX (sumOn 1 b);rw[hs]at KS;obtain⟨rb,hrb⟩:=eX (room b);obtain⟨rn,hrn⟩:=eX (room []);rw[hrb]at KR HRL;rw[hrn]at KN HRL;have hnd:newDev b=⟨rb,rn,⟨true,⟨1,0,false,0,1,⟨1,b.length,s⟩,Inf.zero⟩⟩,Cop.zero,true,0,[],false,Pat.zero,0⟩:=by unfold newDev;rw[hrb,hrn,hs]
 rw[hnd];clear hz hnd hs hrb hrn hb1 hB hba h1;go_enter Try.func69,Try.ntmps69;go_wp2_with fail;refine(KS.out _ (HB.out.stays ?_)).mono ?_
 ·exact x5xy
 rintro e w1 ⟨rfl,rfl⟩;go_wp2_with fail;refine(KR.out _ (HB.out.stays ?_)).mono ?_
 ·exact x5xy
 rintro e w2 ⟨A1,c1,rfl,ho1,hb⟩;have a2:=kp (w.heap.size) (devA Dev.zero DLoc.zero) hb;have a1:=kp (w.heap.size+1) (recA ⟨1,0,false,0,1,⟨1,(b.length:Int),s⟩,Inf.zero⟩) hb;have hsz1:w.heap.size+2<=w2.heap.size:=by have:=hb.size;simp at this;omega
 have HB1:Hid (Below w.heap.size w w2):=qH (by
  refine Below.trans ?_ (hb.mono (by first|omega|(simp<;>omega)));exact x5xy)
 have HO1:Hid (Own w2 (w.heap.size+2) 5 1 A1 rb.length c1 (rb.map bv)):=qH (by simpa using ho1);clear hb ho1;go_wp2_with fail;refine(KN.out _).mono ?_;rintro e w3 ⟨A2,c2,rfl,ho1,hb⟩;have a2:=kr a2 hb;have a1:=kr a1 hb;have hsz2:w2.heap.size<=w3.heap.size:=hb.size;have HB2:=bT HB1 hb;have HF:Hid (Fresh (w.heap.size+2) w3 (fun v=>Bts v A1 rb∧Bts v A2 rn)):=qH (fun v hv=>⟨(HO1.out.below hb).fresh v hv,(ho1.mono (base':=w.heap.size+2) (by omega)).fresh v hv⟩);have HC:Hid (rb.length<=c1∧rn.length<=c2):=qH ⟨HO1.out.le,ho1.le⟩;clear hb ho1;go_wp2_with fail;refine bodyPost_ret (rC (devA ⟨rb,rn,⟨true,⟨1,0,false,0,1,⟨1,b.length,s⟩,Inf.zero⟩⟩,Cop.zero,true,0,[],false,Pat.zero,0⟩ ⟨A1,c1,A2,c2,none,0,none,0⟩)) rfl ⟨⟨A1,c1,A2,c2,none,0,none,0⟩,rfl,?_,?_⟩
 ·refine Fresh.imp (P:=fun v=>Bts v A1 rb∧Bts v A2 rn) (Fresh.mono (base:=w.heap.size+2) ?_ (by omega)) (fun v hv=>⟨HC.out.1,by show rb.length<=_;rw[HRL.out.1];decide,hv.1,HC.out.2,by show rn.length<=_;rw[HRL.out.2];decide,hv.2,nl,Nat.zero_le _,Chs.nil _ _,pat_in_zero v,⟨by show -9223372036854775808<=(0:Int);omega,by show (0:Int)<=9223372036854775807;omega⟩,⟨by show -9223372036854775808<=(0:Int);omega,by show (0:Int)<=9223372036854775807;omega⟩⟩);repeat (first|exact HF.out|refine Fresh.row ?_ (by omega) _|refine Fresh.cell ?_ (by first|(show _<_;omega)|(simp<;>omega)) _|refine Fresh.alloc ?_ _)
 exact bZ HB2
def wnJ(w3:World)(g:Nat)(l:List (List UInt8))(d0:Dev)(L1:DLoc):Nat->(Nat->Value)->World->Prop
 |0,_,w=>w=w3.drew
 |1,cv,w=>∃A5 c5 ds,cv 1=.slice A5 l.length c5∧GRow kImg w w3.heap.size l ds A5 c5∧Each kImg l ds (fun k=>w3.heap.size<=k)∧Below w3.heap.size w3 w
 |2,cv,w=>∃A5 c5 ds,cv 3=.agg (worA ⟨l,d0,[]⟩ ⟨A5,c5,L1,none,0⟩)∧GRow kImg w w3.heap.size l ds A5 c5∧Each kImg l ds (fun k=>w3.heap.size<=k)∧Below w3.heap.size w3 w
 |_,_,w=>∃A5 c5 ds w4,GRow kImg w4 w3.heap.size l ds A5 c5∧Each kImg l ds (fun k=>w3.heap.size<=k)∧Below w3.heap.size w3 w4∧w=w4.setRow g (worA ⟨l,d0,[]⟩ ⟨A5,c5,L1,none,0⟩)
theorem wnJ_row{w3:World}{g q k:Nat}{d0:Dev}{L1:DLoc}{cv:Nat->Value}(hk:k<=2)(hr:rowOf w3 q=devA d0 L1)(hf:frOf w3 q=(0,0))(hJ:wnJ w3 g l d0 L1 k cv w):rowOf w q=devA d0 L1∧frOf w q=(0,0):=by
 have hg:q<w3.heap.size:=row_lt (w:=w3) (by rw[hr];simp[devA]);have key:Below w3.heap.size w3 w->rowOf w q=devA d0 L1∧frOf w q=(0,0):=fun hb=>⟨(rowOf_below hg hb).trans hr,(frOf_below hg hb).trans hf⟩;rcases (show k=0∨k=1∨k=2 by omega)with rfl|rfl|rfl
 ·have hJ':w=w3.drew:=hJ;subst hJ';exact key (Below.refl _ _).drew
 ·exact x27l
 exact x27l
theorem worNew_calls(A:OA)(c:Nat)(l:List (List UInt8))(w:World)(hc:l.length<=c)(hl:l.length<=5864062014634)(hs:Ims w A l):Calls Try.prog 130 #[.slice A l.length c] w (WvRet w (worNew l).1 (worNew l).2):=by
 have HS:=qH hs;have K1:=qH (fun w h=>releases_calls A c l w hc hl h);have HBA:Hid (Below w.heap.size w (w.alloc (.cells (worA Wor.zero WLoc.zero) 88))):=qH (bL _);by_cases h3:relCheck l≠0
 ·have hz:worNew l=(Wor.zero,relCheck l):=by unfold worNew;rw[if_pos h3]
  rw[hz];have q:(relCheck l !=0)=true:=by simp[h3]
  generalize relCheck l=n at *
  clear hz h3 hs;go_enter Try.func130,Try.ntmps130;go_wp2_with fail;refine(K1.out _ (HS.out.stays HBA.out)).mono ?_;rintro e w1 ⟨rfl,rfl⟩;go_wp2_with fail;refine bodyPost_ret (rC (worA Wor.zero WLoc.zero)) rfl ⟨WLoc.zero,rfl,.const fun v=>WorIn.zero v,?_⟩;exact x0ap
 have h3:=Decidable.not_not.1 h3;obtain⟨hne,hfew,hsm⟩:=relCheck_ok.1 h3;obtain⟨b0,hb1⟩:=eX (l[0]'(List.length_pos_iff.2 hne));have hb2:b0.length<=64:=by rw[<-hb1];exact hsm _ (List.getElem_mem _)
 have hhd:l.headD []=b0:=by
  rw[<-hb1]
  cases l with
  |nil=>exact absurd rfl hne
  |cons a r=>rfl
 have hz:worNew l=(⟨l,newDev b0,[]⟩,0):=by unfold worNew;rw[if_neg (by omega),hhd]
 have hdn:devNew b0=(newDev b0,0):=by unfold devNew;rw[if_neg (by omega)]
 rw[hz];rw[h3]at K1;obtain⟨ab,ao,rfl,hab,cs,hcl,hcc,B,e3,rfl,hd1,hd2,hd3⟩:=hs 0 (List.length_pos_iff.2 hne);have q1:w.cell? ⟨ab,ao,none⟩=some (.slice B b0.length e3):=by have:=hcc 0 (by simp);rw[hb1]at this;simpa using this
 have HB1:Hid (Bts w B b0):=qH (by rw[<-hb1];exact hd3);have KD:=qH (fun w h=>devNew_calls B e3 b0 w (by omega) h);rw[hdn]at KD;obtain⟨d1,hd4⟩:=eX (newDev b0);rw[hd4]at KD⊢;have HQ1:=qH q1;have HQA:=qH hab;have hpos:0<l.length:=List.length_pos_iff.2 hne;have hposz:(0:Int)<(l.length:Int):=by omega
 have hcapz:(l.length:Int)<=(c:Int):=by omega
 have HBD:Hid (∀y∈l,y.length<=140737488351232):=qH HS.out.bound;have q0a:(w.alloc (.cells (worA Wor.zero WLoc.zero) 88)).cell? ⟨ab,ao,none⟩=some (.slice B b0.length e3):=(((bW w).alloc nl (.cells (worA Wor.zero WLoc.zero) 88)).cell (p:=⟨ab,ao,none⟩) hab).trans q1;clear hz hdn h3 hne hfew hsm hhd hcl hcc hd1 hd2 hd3 hb1 hd4 hb2 hs q1 hab;go_enter Try.func130,Try.ntmps130;go_wp2_with fail;refine(K1.out _ (HS.out.stays HBA.out)).mono ?_;rintro e w1 ⟨rfl,rfl⟩;go_wp2_with fail;refine(KD.out _ (HB1.out.stays HBA.out)).mono ?_;rintro e w2 ⟨L1,rfl,hfr,hb⟩;have a1:=kp (w.heap.size) (worA Wor.zero WLoc.zero) hb;have hsz1:w.heap.size+1<=w2.heap.size:=by have:=hb.size;simpa using this
 have HB2:=bT HBA hb;have HFR:Hid (Fresh (w.heap.size+1) w2 (fun v=>DevIn v d1 L1)):=qH (by simpa using hfr);clear hb hfr;go_wp2_with fail;obtain⟨w3,hw1⟩:=eX (w2.alloc (.cells (devA d1 L1) 71));have HRz:Hid (rowOf w3 w.heap.size=worA Wor.zero WLoc.zero):=qH (by rw[<-hw1,rowOf_alloc,if_neg a1.2.2.1];exact a1.1);have HFz:Hid (frOf w3 w.heap.size=(0,0)):=qH (by rw[<-hw1,frOf_alloc,if_neg a1.2.2.1];exact a1.2.1);have HR1:Hid (rowOf w3 w2.heap.size=devA d1 L1):=qH (by rw[<-hw1,rowOf_alloc,if_pos rfl]);have HF1:Hid (frOf w3 w2.heap.size=(0,0)):=qH (by rw[<-hw1,frOf_alloc,if_pos rfl]);have hsz2:w3.heap.size=w2.heap.size+1:=by rw[<-hw1];simp
 have HB3:Hid (Below w.heap.size w w3):=qH (by rw[<-hw1];exact HB2.out.alloc HB2.out.size _);have HF2:Hid (Fresh (w.heap.size+1) w3 (fun v=>DevIn v d1 L1)):=qH (by rw[<-hw1];exact HFR.out.alloc _);rw[hw1];obtain⟨g,hg⟩:=eX (w.heap.size);obtain⟨g1,hg1⟩:=eX (w2.heap.size);have HG:=qH hg;have KA:Hid (∀wq,Below w3.heap.size w3 wq->Calls Try.prog 153 #[.slice (some ⟨ab,ao,none⟩) l.length c] wq (KrRet kImg wq l)):=qH (fun wq h=>images_calls _ _ _ wq hl ((HS.out.stays HB3.out).stays h));rw[hg]at HRz HFz hsz1⊢;rw[hg1]at HR1 HF1⊢;clear hw1 a1 hg hg1;generalize hAA:(some ⟨ab,ao,none⟩:Option Addr)=A at *
 clear hAA;refine wp_region_mix (by kernel_rfl) (some 24::some 25::some 26::some 27::none::some 3::[]) (none::some 0::none::some 1::some 2::none::[]) (.slice A l.length c::undef::.agg (devA d1 L1)::undef::undef::iv 0::[]) 3 (wnJ w3 g l d1 L1) 28 rfl rfl (by decide+kernel) (by decide+kernel) (by decide+kernel) (by decide+kernel) rfl rfl (by decide+kernel) (by decide+kernel) (rfl) ?_ ?_
 ·refine⟨?_,?_,?_,?_,?_,?_,trivial⟩
  ·intro done cv k1 a wq hw h hJ hn;have e1:=mO 0 (.slice A l.length c) h;exact mx_move (ch_ev e1)
  ·intro done cv a wq hw h hJ;have e1:=mN 0 24 h hw;obtain rfl:wq=w3.drew:=hJ;refine wp_call (vals:=#[.slice A l.length c]) (by rw[List.map_toArray,List.map_cons,List.map_nil,ch_ev e1]) (enters_of Try.func153 (by kernel_rfl) rfl _ _) (KA.out _ ((Below.refl _ _).drew)) ?_;exact x8e1
  ·intro done cv k1 a wq hw h hJ hn;have e1:=mO 5 (.pointer (some ⟨g1,0,none⟩)) h;have hk:=hn 4 _ 2 rfl rfl (by decide);obtain⟨r_,f_⟩:=wnJ_row hk HR1.out HF1.out hJ;go_simp
  ·intro done cv a wq hw h hJ;have e1:=mx_cv (i:=1) (t:=25) h (hw 1 (by decide)) rfl rfl;have e26:=mN 2 26 h hw;obtain⟨A1,c1,ds,y1,hrow,heach,hbel⟩:=hJ;rw[y1]at e1;refine wp_val (v:=.agg (worA ⟨l,d1,[]⟩ ⟨A1,c1,L1,none,0⟩)) (by go_simp) ⟨_,rfl,A1,c1,ds,by simp,hrow,heach,hbel⟩
  ·intro done cv a wq hw h hJ;have e1:=mO 2 (.pointer (some ⟨g,0,none⟩)) h;have e27:=mx_cv (i:=3) (t:=27) h (hw 3 (by decide)) rfl rfl;obtain⟨A1,c1,ds,y1,hrow,heach,hbel⟩:=hJ;rw[y1]at e27;obtain⟨r_,f_,n_,c_,z_,l_⟩:=keep1 hbel HRz.out (by go_simp) HFz.out;refine wp_srow e1 e27 (by go_simp) (by go_simp) (cs:=worA Wor.zero WLoc.zero) r_ (by go_simp) f_ (by go_simp) ⟨undef,rfl,A1,c1,ds,wq,hrow,heach,hbel,?_⟩;rw[splice_all _ _ (by simp[worA])]
  ·intro done cv k1 a wq hw h hJ hn;exact mx_assign rfl
 intro cv w5 hJ;obtain⟨A1,c1,ds,w4,hrow,heach,hbel,rfl⟩:=hJ;simp only[mixAll,putAll_some,putAll_none,putAll_nil,List.getElem?_cons_zero,List.getElem?_cons_succ,Nat.zero_add,Nat.reduceAdd,List.setIfInBounds_toArray,List.set_cons_zero,List.set_cons_succ];have hs1:=hbel.size;have r1:0<(rowOf w4 g).size:=by rw[rowOf_below (by omega) hbel,HRz.out];simp[worA]
 have r2:rowOf (w4.setRow g (worA ⟨l,d1,[]⟩ ⟨A1,c1,L1,none,0⟩)) g=worA ⟨l,d1,[]⟩ ⟨A1,c1,L1,none,0⟩:=by rw[rowOf_setRow _ _ _ _ r1,if_pos rfl]
 have HBL:=qH hbel;have HIM:Hid (Fresh w3.heap.size w4 (fun v=>Ims v A1 l)):=qH ((hrow.fresh heach).imp fun v hv=>hv.src.ims HBD.out);have HC1:=qH hrow.row.le;clear hrow heach hbel;go_wp2_with fail;refine bodyPost_ret (results_ct rfl rfl (cs:=worA ⟨l,d1,[]⟩ ⟨A1,c1,L1,none,0⟩) r2 (by go_simp) (by go_simp)) rfl ⟨⟨A1,c1,L1,none,0⟩,rfl,?_,?_⟩
 ·refine Fresh.imp (P:=fun v=>DevIn v d1 L1∧Ims v A1 l) ?_ (fun v hv=>⟨HC1.out,hl,hv.2,hv.1,nl,Nat.zero_le _,Chs.nil _ _⟩);have e1:Fresh (g+1) (w4.setRow g (worA ⟨l,d1,[]⟩ ⟨A1,c1,L1,none,0⟩)) (fun v=>DevIn v d1 L1):=(Fresh.below (by rw[<-HG.out];exact HF2.out) HBL.out nl).row (by omega) _;have e2:Fresh (g+1) (w4.setRow g (worA ⟨l,d1,[]⟩ ⟨A1,c1,L1,none,0⟩)) (fun v=>Ims v A1 l):=(HIM.out.mono (by omega)).row (by omega) _;rw[HG.out];exact fun v hv=>⟨e1 v (fun k h1 h2=>hv k (by omega) h2),e2 v (fun k h1 h2=>hv k (by omega) h2)⟩
 rw[HG.out];have hb1:Below g w w3:=by rw[<-HG.out];exact HB3.out
 exact below_row (hb1.trans (HBL.out.mono (by omega))) nl _
end Go.Proofs.Ytefkfglkpebbmac
