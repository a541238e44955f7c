/- The walk of story.Next. Printed by gen_devacts.py. No conditions. -/
import Derived.Test.YtefkfglkpebbmacP9
import Derived.Test.YtefkfglkpebbmacPXStoryMath
set_option linter.unusedVariables false
set_option linter.unusedSimpArgs false
set_option maxRecDepth 100000
set_option maxHeartbeats 40000000
namespace Go.Proofs.Ytefkfglkpebbmac
open Go.RowKit
variable {Y:Prop}
theorem x10v(h:Y:=by
 have HV:=qH hv;clear hv;go_wp2_with fail;go_ret2;refine⟨by first|rfl|(dsimp only;rw[HV.out];rfl)|(rw[HV.out];rfl),?_⟩;exact bZ HB3):Y:=h
theorem x3di(h:Y:=by
 refine Below.trans ?_ (hb.mono (by first|omega|(simp[World.setRow]<;>omega)));repeat (first|exact hA|refine bR ?_ _|refine bA ?_ _)):Y:=h
theorem x5ms(h:Y:=by
 have HV:=qH hv;clear hv;go_wp2_with fail;go_ret2;refine⟨by first|rfl|(dsimp only;rw[HV.out];rfl)|(rw[HV.out];rfl),?_⟩;exact bZ HB4):Y:=h
theorem stoNext_bad{x:Wor}(h:worCheck x≠0):stoNext x=(0,worCheck x):=by unfold stoNext;rw[if_pos h]
theorem stoNext_ok{x:Wor}(h:worCheck x=0):stoNext x=if (devBoot x.d.off).2≠0 then (0,(devBoot x.d.off).2)else (((devBoot x.d.off).1.rec_.at_ (devBoot x.d.off).1.running).ver,0):=by unfold stoNext;rw[if_neg (by omega)]
theorem booted_ok{d:Dev}(h:(devBoot d).2=0):DevOk (devBoot d).1∧((devBoot d).1.running=0∨(devBoot d).1.running=1):=by
 obtain⟨h1,h2⟩:=boot_parts h;rw[h2];have h3:=boot_ok_dev h1;exact⟨h3,(h3.run (by unfold Dev.boots;split<;>rfl)).1⟩
theorem stoNext_calls(x:Wor)(L:WLoc)(w:World)(h:WorIn w x L):Calls Try.prog 78 #[.agg (worA x L)] w (RetB w (.tuple #[iv (stoNext x).1,iv (stoNext x).2])):=by
 have HBA:Hid (Below w.heap.size w (w.alloc (.cells (worA x L) 88))):=qH (bL _);have HIN:=qH h;have K1:=qH (fun w h=>worCheck_calls x L w h);by_cases hc:worCheck x≠0
 ·rw[stoNext_bad hc];have q:(worCheck x !=0)=true:=by simp[hc]
  generalize worCheck x=n at *
  clear hc h;go_enter Try.func78,Try.ntmps78;go_wp2_with fail;refine(K1.out _ (HIN.out.stays HBA.out)).mono ?_;rintro e w1 ⟨rfl,hb⟩;have a1:=kp (w.heap.size) (worA x L) hb;have hs1:w.heap.size+1<=w1.heap.size:=by have:=hb.size;simpa using this
  have HB1:=bT HBA hb;clear hb;go_wp2_with fail;go_ret2;refine⟨rfl,?_⟩;exact bZ HB1
 have hc:=Decidable.not_not.1 hc;have hdef:=stoNext_ok hc;have hok:=(worCheck_ok.1 hc).dev;obtain⟨res,hres⟩:=eX (stoNext x);rw[hres]at hdef⊢;have HD:=qH hdef;rw[hc]at K1;have KB:=qH (fun L w h=>devBoot_calls x.d.off L w h);clear hc h hdef hres
 cases hu:x.d.up
 ·have hoff:x.d.off=x.d:=by unfold Dev.off;rw[hu];rfl
  rw[hoff]at HD KB;clear hok hoff;go_enter Try.func78,Try.ntmps78;go_wp2_with fail;refine(K1.out _ (HIN.out.stays HBA.out)).mono ?_;rintro e w1 ⟨rfl,hb⟩;have a1:=kp (w.heap.size) (worA x L) hb;have hs1:w.heap.size+1<=w1.heap.size:=by have:=hb.size;simpa using this
  have HB1:=bT HBA hb;clear hb;obtain⟨⟨d1,e1⟩,hd1⟩:∃z,devBoot x.d=z:=⟨_,rfl⟩;have hbk:=@booted_ok x.d;rw[hd1]at HD KB hbk;go_wp2_with fail;refine(KB.out _ _ ?_).mono ?_
  ·refine HIN.out.dev.stays ?_;exact bZ HB1
  rintro e w2 ⟨L1,rfl,hfr1,hb⟩;have a1:=kp (w1.heap.size) (devA x.d L.l) hb;have hs2:w1.heap.size+1<=w2.heap.size:=by have:=hb.size;first|omega|(simp[World.setRow]at this;omega)
  have HB2:Hid (Below w.heap.size w w2):=qH (by
   exact x3di)
  clear hb hd1 hfr1;by_cases c2:e1≠0
  ·have hz:res=(0,e1):=HD.out.trans (if_pos c2);subst hz;have q:(e1 !=0)=true:=by simp[c2]
   clear c2 hbk;go_wp2_with fail;go_ret2;refine⟨rfl,?_⟩;exact bZ HB2
  have c2:=Decidable.not_not.1 c2;subst c2;have hz:res=((d1.rec_.at_ d1.running).ver,0):=HD.out.trans (if_neg (by simp));subst hz;obtain⟨hok1,hrun⟩:=hbk rfl;try dsimp only at hok1 hrun
  have K2:=qH (fun w=>read_ok d1.c0 d1.c1 w hok1.cops);obtain⟨rk,hrk⟩:=eX ((recRead d1.c0 d1.c1).2);have hre:(recRead d1.c0 d1.c1).1=d1.rec_:=rfl;rw[hrk,hre]at K2;clear hok1 hrk hre HD KB;go_wp2_with fail;refine(K2.out _).mono ?_;rintro e w3 ⟨rfl,hb⟩;have a1:=kp (w1.heap.size) (devA d1 L1) hb;have HB3:=bU HB2 hb;clear hb K2;rcases hrun with hk|hk
  ·have hv:(d1.rec_.at_ d1.running).ver=d1.rec_.a.ver:=by rw[hk,at_0]
   exact x10v
  have hv:(d1.rec_.at_ d1.running).ver=d1.rec_.b.ver:=by rw[hk,at_1]
  exact x10v
 have hoff:x.d.off=x.d.down:=by unfold Dev.off;rw[hu];rfl
 rw[hoff]at HD KB;have hcr:devCrash x.d=(x.d.down,0):=by
  unfold devCrash;rw[if_neg (by have:=devReady_ok.2 ⟨hok,hu⟩;omega)]
 have KC:=qH (fun w h=>devCrash_calls x.d L.l w h);rw[hcr]at KC;clear hok hoff hcr;go_enter Try.func78,Try.ntmps78;go_wp2_with fail;refine(K1.out _ (HIN.out.stays HBA.out)).mono ?_;rintro e w1 ⟨rfl,hb⟩;have a1:=kp (w.heap.size) (worA x L) hb;have hs1:w.heap.size+1<=w1.heap.size:=by have:=hb.size;simpa using this
 have HB1:=bT HBA hb;clear hb;go_wp2_with fail;refine(KC.out _ ?_).mono ?_
 ·refine HIN.out.dev.stays ?_;exact bZ HB1
 rintro e w2 ⟨L1,rfl,hfr,hb⟩;have a1:=kp (w1.heap.size) (devA x.d L.l) hb;have hs2:w1.heap.size+1<=w2.heap.size:=by have:=hb.size;simpa using this
 have HB2:Hid (Below w.heap.size w w2):=qH (by
  refine Below.trans ?_ (hb.mono (by first|omega|(simp<;>omega)));repeat (first|exact HB1.out|refine bA ?_ _))
 have HFR:Hid (Fresh (w1.heap.size+1) w2 (fun v=>DevIn v x.d.down L1)):=qH (by simpa using hfr);clear hb hfr KC;obtain⟨⟨d1,e1⟩,hd1⟩:∃z,devBoot x.d.down=z:=⟨_,rfl⟩;have hbk:=@booted_ok x.d.down;rw[hd1]at HD KB hbk;go_wp2_with fail;refine(KB.out _ _ ?_).mono ?_
 ·have hf1:Fresh (w1.heap.size+1) (w2.setRow w1.heap.size (devA x.d.down L1)) (fun v=>DevIn v x.d.down L1):=HFR.out.row (by omega) _
  first|exact hf1.now|exact(HFR.out.row (by omega) _).now
 rintro e w3 ⟨L2,rfl,hfr1,hb⟩;have a1:=kp (w1.heap.size) (devA x.d.down L1) hb;have hs3:w1.heap.size+1<=w3.heap.size:=by have:=hb.size;first|omega|(simp[World.setRow]at this;omega)
 have HB3:Hid (Below w.heap.size w w3):=qH (by
  exact x3di)
 clear hb hd1 hfr1;by_cases c2:e1≠0
 ·have hz:res=(0,e1):=HD.out.trans (if_pos c2);subst hz;have q:(e1 !=0)=true:=by simp[c2]
  clear c2 hbk;go_wp2_with fail;go_ret2;refine⟨rfl,?_⟩;exact bZ HB3
 have c2:=Decidable.not_not.1 c2;subst c2;have hz:res=((d1.rec_.at_ d1.running).ver,0):=HD.out.trans (if_neg (by simp));subst hz;obtain⟨hok1,hrun⟩:=hbk rfl;try dsimp only at hok1 hrun
 have K2:=qH (fun w=>read_ok d1.c0 d1.c1 w hok1.cops);obtain⟨rk,hrk⟩:=eX ((recRead d1.c0 d1.c1).2);have hre:(recRead d1.c0 d1.c1).1=d1.rec_:=rfl;rw[hrk,hre]at K2;clear hok1 hrk hre HD KB;go_wp2_with fail;refine(K2.out _).mono ?_;rintro e w4 ⟨rfl,hb⟩;have a1:=kp (w1.heap.size) (devA d1 L2) hb;have HB4:=bU HB3 hb;clear hb K2;rcases hrun with hk|hk
 ·have hv:(d1.rec_.at_ d1.running).ver=d1.rec_.a.ver:=by rw[hk,at_0]
  exact x5ms
 have hv:(d1.rec_.at_ d1.running).ver=d1.rec_.b.ver:=by rw[hk,at_1]
 exact x5ms
end Go.Proofs.Ytefkfglkpebbmac
