/- Walks of functions, and plain words. No conditions. -/
import Derived.Test.YtefkfglkpebbmaaGreatP28
import Derived.Test.YtefkfglkpebbmaaGreatP29
import Derived.Test.YtefkfglkpebbmaaGreatP30
set_option linter.unusedVariables false
set_option linter.unusedSimpArgs false
set_option maxRecDepth 100000
set_option maxHeartbeats 40000000
namespace Go.Proofs.YtefkfglkpebbmaaGreat
open Go.RowKit
variable {Y:Prop}
theorem x0ko(h:Y:=by
 clear hr hf h z1 z2;go_enter Tryz.func12,Tryz.ntmps12;go_wp2_with fail;refine KS.out.mono ?_;rintro e w1 ⟨rfl,hz,hx,hs⟩;have HZ:=qH hz;have HX2:Hid (Bex g base w w1):=qH ⟨HX1.out.1.trans hx.1,fun k a b=>(hx.2 k a b).trans (HX1.out.2 k a b)⟩;have hs2:w.heap.size<=w1.heap.size:=by omega
 clear hz hx KS;go_wp2_with fail;go_ret;exact⟨rfl,HZ.out,HX2.out,hs2⟩):Y:=h
theorem happen_5(g base m top:Nat)(ds:List (Option Addr×Nat))(n:Int)(x:Wor)(L:WLoc)(w:World)(hr:rowOf w g=worA x L)(hf:frOf w g=(0,0))(hg:g<base∨top<=g)(h:WorAt w base m top ds x L):Calls Tryz.prog 12 #[.pointer (some ⟨g,0,none⟩),.agg #[iv 5,iv n]] w (HaRet w g base (worDevice x (devOpen x.d)).1 (worDevice x (devOpen x.d)).2):=by
 obtain⟨hlt,hm1,hm2,hm3,HBA,HW1,HX1,hs1,-,-⟩:=happen_box g base m top ds n x L w hr hf hg h 5;have a2:=keep1 (bW w) hr (by go_simp) hf;obtain⟨⟨d1,e1⟩,hd1⟩:∃z,devOpen x.d=z:=⟨_,rfl⟩;have KD:=qH (devOpen_calls x.d L.l _ HW1.out.dev.now);exact x44o
theorem happen_6(g base m top:Nat)(ds:List (Option Addr×Nat))(n:Int)(x:Wor)(L:WLoc)(w:World)(hr:rowOf w g=worA x L)(hf:frOf w g=(0,0))(hg:g<base∨top<=g)(h:WorAt w base m top ds x L):Calls Tryz.prog 12 #[.pointer (some ⟨g,0,none⟩),.agg #[iv 6,iv n]] w (HaRet w g base (worDevice x (devWrite x.d false n)).1 (worDevice x (devWrite x.d false n)).2):=by
 obtain⟨hlt,hm1,hm2,hm3,HBA,HW1,HX1,hs1,-,-⟩:=happen_box g base m top ds n x L w hr hf hg h 6;have a2:=keep1 (bW w) hr (by go_simp) hf;obtain⟨⟨d1,e1⟩,hd1⟩:∃z,devWrite x.d false n=z:=⟨_,rfl⟩;have KD:=qH (devWrite_calls x.d L.l false n _ HW1.out.dev.now);exact x44o
theorem happen_7(g base m top:Nat)(ds:List (Option Addr×Nat))(n:Int)(x:Wor)(L:WLoc)(w:World)(hr:rowOf w g=worA x L)(hf:frOf w g=(0,0))(hg:g<base∨top<=g)(h:WorAt w base m top ds x L):Calls Tryz.prog 12 #[.pointer (some ⟨g,0,none⟩),.agg #[iv 7,iv n]] w (HaRet w g base (worDevice x (devFinish x.d false)).1 (worDevice x (devFinish x.d false)).2):=by
 obtain⟨hlt,hm1,hm2,hm3,HBA,HW1,HX1,hs1,-,-⟩:=happen_box g base m top ds n x L w hr hf hg h 7;have a2:=keep1 (bW w) hr (by go_simp) hf;obtain⟨⟨d1,e1⟩,hd1⟩:∃z,devFinish x.d false=z:=⟨_,rfl⟩;have KD:=qH (devFinish_calls x.d L.l false _ HW1.out.dev.now);exact x44o
theorem happen_8(g base m top:Nat)(ds:List (Option Addr×Nat))(n:Int)(x:Wor)(L:WLoc)(w:World)(hr:rowOf w g=worA x L)(hf:frOf w g=(0,0))(hg:g<base∨top<=g)(h:WorAt w base m top ds x L):Calls Tryz.prog 12 #[.pointer (some ⟨g,0,none⟩),.agg #[iv 8,iv n]] w (HaRet w g base (worDevice x (devConfirm x.d)).1 (worDevice x (devConfirm x.d)).2):=by
 obtain⟨hlt,hm1,hm2,hm3,HBA,HW1,HX1,hs1,-,-⟩:=happen_box g base m top ds n x L w hr hf hg h 8;have a2:=keep1 (bW w) hr (by go_simp) hf;obtain⟨⟨d1,e1⟩,hd1⟩:∃z,devConfirm x.d=z:=⟨_,rfl⟩;have KD:=qH (devConfirm_calls x.d L.l _ HW1.out.dev.now);exact x44o
theorem happen_10(g base m top:Nat)(ds:List (Option Addr×Nat))(n:Int)(x:Wor)(L:WLoc)(w:World)(hr:rowOf w g=worA x L)(hf:frOf w g=(0,0))(hg:g<base∨top<=g)(h:WorAt w base m top ds x L):Calls Tryz.prog 12 #[.pointer (some ⟨g,0,none⟩),.agg #[iv 10,iv n]] w (HaRet w g base (worDevice x (devBoot x.d)).1 (worDevice x (devBoot x.d)).2):=by
 obtain⟨hlt,hm1,hm2,hm3,HBA,HW1,HX1,hs1,-,-⟩:=happen_box g base m top ds n x L w hr hf hg h 10;have a2:=keep1 (bW w) hr (by go_simp) hf;obtain⟨⟨d1,e1⟩,hd1⟩:∃z,devBoot x.d=z:=⟨_,rfl⟩;have KD:=qH (devBoot_calls x.d L.l _ HW1.out.dev.now);exact x44o
theorem happen_11(g base m top:Nat)(ds:List (Option Addr×Nat))(n:Int)(x:Wor)(L:WLoc)(w:World)(hr:rowOf w g=worA x L)(hf:frOf w g=(0,0))(hg:g<base∨top<=g)(h:WorAt w base m top ds x L):Calls Tryz.prog 12 #[.pointer (some ⟨g,0,none⟩),.agg #[iv 11,iv n]] w (HaRet w g base (worDevice x (devWrite x.d true n)).1 (worDevice x (devWrite x.d true n)).2):=by
 obtain⟨hlt,hm1,hm2,hm3,HBA,HW1,HX1,hs1,-,-⟩:=happen_box g base m top ds n x L w hr hf hg h 11;have a2:=keep1 (bW w) hr (by go_simp) hf;obtain⟨⟨d1,e1⟩,hd1⟩:∃z,devWrite x.d true n=z:=⟨_,rfl⟩;have KD:=qH (devWrite_calls x.d L.l true n _ HW1.out.dev.now);exact x44o
theorem happen_12(g base m top:Nat)(ds:List (Option Addr×Nat))(n:Int)(x:Wor)(L:WLoc)(w:World)(hr:rowOf w g=worA x L)(hf:frOf w g=(0,0))(hg:g<base∨top<=g)(h:WorAt w base m top ds x L):Calls Tryz.prog 12 #[.pointer (some ⟨g,0,none⟩),.agg #[iv 12,iv n]] w (HaRet w g base (worDevice x (devFinish x.d true)).1 (worDevice x (devFinish x.d true)).2):=by
 obtain⟨hlt,hm1,hm2,hm3,HBA,HW1,HX1,hs1,-,-⟩:=happen_box g base m top ds n x L w hr hf hg h 12;have a2:=keep1 (bW w) hr (by go_simp) hf;obtain⟨⟨d1,e1⟩,hd1⟩:∃z,devFinish x.d true=z:=⟨_,rfl⟩;have KD:=qH (devFinish_calls x.d L.l true _ HW1.out.dev.now);exact x44o
theorem happen_1(g base m top:Nat)(ds:List (Option Addr×Nat))(n:Int)(x:Wor)(L:WLoc)(w:World)(hr:rowOf w g=worA x L)(hf:frOf w g=(0,0))(hg:g<base∨top<=g)(h:WorAt w base m top ds x L)(hok:WorOk x)(hi:I64 n):Calls Tryz.prog 12 #[.pointer (some ⟨g,0,none⟩),.agg #[iv 1,iv n]] w (HaRet w g base (worSend x n).1 (worSend x n).2):=by
 obtain⟨hlt,hm1,hm2,hm3,HBA,HW1,HX1,hs1,z1,z2⟩:=happen_box g base m top ds n x L w hr hf hg h 1;have a1:=keep1 (bW w) hr (by go_simp) hf;have KS:=qH (send_calls g base m top ds n x L _ z1 z2 hg HW1.out hok hi);generalize worSend x n=res at *
 exact x0ko
theorem hear_calls(g base m top:Nat)(ds:List (Option Addr×Nat))(n:Int)(x:Wor)(L:WLoc)(w:World)(hr:rowOf w g=worA x L)(hf:frOf w g=(0,0))(hg:g<base∨top<=g)(h:WorAt w base m top ds x L)(hok:WorOk x)(k:Int)(hk:k=2∨k=3∨k=4):Calls Tryz.prog 41 #[.pointer (some ⟨g,0,none⟩),.agg #[iv k,iv n]] w (HaRet w g base (worHear x k n).1 (worHear x k n).2):=by
 by_cases hn:n<0∨(x.net.length:Int)<=n
 ·have e:worHear x k n=(Wor.zero,4):=by unfold worHear;rw[if_pos hn]
  rw[e];exact hear_who g base m top ds n x L w hr hf hg h hok.few k hn
 obtain⟨i,hi⟩:∃i:Nat,n=(i:Int):=⟨n.toNat,by omega⟩;have hil:i<x.net.length:=by omega
 exact hear_at g base m top ds n x L w hr hf hg h hok.few k hk i hi hil
theorem happen_2(g base m top:Nat)(ds:List (Option Addr×Nat))(n:Int)(x:Wor)(L:WLoc)(w:World)(hr:rowOf w g=worA x L)(hf:frOf w g=(0,0))(hg:g<base∨top<=g)(h:WorAt w base m top ds x L)(hok:WorOk x)(hi:I64 n)(k:Int)(hk:k=2∨k=3∨k=4):Calls Tryz.prog 12 #[.pointer (some ⟨g,0,none⟩),.agg #[iv k,iv n]] w (HaRet w g base (worHear x k n).1 (worHear x k n).2):=by
 obtain⟨hlt,hm1,hm2,hm3,HBA,HW1,HX1,hs1,z1,z2⟩:=happen_box g base m top ds n x L w hr hf hg h k;have a1:=keep1 (bW w) hr (by go_simp) hf;have KS:=qH (hear_calls g base m top ds n x L _ z1 z2 hg HW1.out hok k hk);generalize worHear x k n=res at *
 rcases hk with rfl|rfl|rfl;iterate 3
  ·exact x0ko
theorem happen_none(g base m top:Nat)(ds:List (Option Addr×Nat))(n:Int)(x:Wor)(L:WLoc)(w:World)(hr:rowOf w g=worA x L)(hf:frOf w g=(0,0))(hg:g<base∨top<=g)(h:WorAt w base m top ds x L)(k:Int)(hk:k<1∨12<k):Calls Tryz.prog 12 #[.pointer (some ⟨g,0,none⟩),.agg #[iv k,iv n]] w (HaRet w g base Wor.zero 3):=by
 have hlt:g<w.heap.size:=row_lt (w:=w) (by rw[hr];simp[worA]);have hm3:=h.h3;have hm2:=h.h2;have hm1:=h.h1;have a1:=keep1 (bW w) hr (by go_simp) hf;have HBA:Hid (Below w.heap.size w ((w.alloc (.cells #[iv k,iv n] 50)).alloc (.cells (devA x.d L.l) 38))):=qH ((bL _).alloc (by simp) _);have HW1:Hid (WorAt ((w.alloc (.cells #[iv k,iv n] 50)).alloc (.cells (devA x.d L.l) 38)) base m top ds x L):=qH (h.same (fun k2 a b=>HBA.out.block k2 (by omega)) (by simp;omega));have HX1:Hid (Bex g base w ((w.alloc (.cells #[iv k,iv n] 50)).alloc (.cells (devA x.d L.l) 38))):=qH ((Bex.refl g base w).below HBA.out (by omega) (by omega));have hs1:((w.alloc (.cells #[iv k,iv n] 50)).alloc (.cells (devA x.d L.l) 38)).heap.size=w.heap.size+2:=by simp
 have q1:(k==1)=false:=by simp;omega
 have q2:(k==2)=false:=by simp;omega
 have q3:(k==3)=false:=by simp;omega
 have q4:(k==4)=false:=by simp;omega
 have q5:(k==5)=false:=by simp;omega
 have q6:(k==6)=false:=by simp;omega
 have q7:(k==7)=false:=by simp;omega
 have q8:(k==8)=false:=by simp;omega
 have q9:(k==9)=false:=by simp;omega
 have q10:(k==10)=false:=by simp;omega
 have q11:(k==11)=false:=by simp;omega
 have q12:(k==12)=false:=by simp;omega
 clear hr hf h hk;go_enter Tryz.func12,Tryz.ntmps12;go_wp2_with fail;go_ret;exact⟨rfl,fun e=>absurd e (by decide),HX1.out,by omega⟩
theorem happen_calls(g base m top:Nat)(ds:List (Option Addr×Nat))(n:Int)(x:Wor)(L:WLoc)(w:World)(hr:rowOf w g=worA x L)(hf:frOf w g=(0,0))(hg:g<base∨top<=g)(h:WorAt w base m top ds x L)(hok:WorOk x)(hi:I64 n)(k:Int):Calls Tryz.prog 12 #[.pointer (some ⟨g,0,none⟩),.agg #[iv k,iv n]] w (HaRet w g base (worHappen x k n).1 (worHappen x k n).2):=by
 by_cases h1:k<1∨12<k
 ·have e:worHappen x k n=(Wor.zero,3):=by
   have hd:devAct x.d k n=(Dev.zero,3):=by
    unfold devAct;rw[if_neg (by omega),if_neg (by omega),if_neg (by omega),if_neg (by omega),if_neg (by omega),if_neg (by omega),if_neg (by omega),if_neg (by omega)]
   unfold worHappen;rw[if_neg (by omega),if_neg (by omega),hd];rfl
  rw[e];exact happen_none g base m top ds n x L w hr hf hg h k h1
 rcases (show k=1∨k=2∨k=3∨k=4∨k=5∨k=6∨k=7∨k=8∨k=9∨k=10∨k=11∨k=12 by omega)with rfl|rfl|rfl|rfl|rfl|rfl|rfl|rfl|rfl|rfl|rfl|rfl
 ·exact happen_1 g base m top ds n x L w hr hf hg h hok hi
 ·exact happen_2 g base m top ds n x L w hr hf hg h hok hi 2 (by decide)
 ·exact happen_2 g base m top ds n x L w hr hf hg h hok hi 3 (by decide)
 ·exact happen_2 g base m top ds n x L w hr hf hg h hok hi 4 (by decide)
 ·exact happen_5 g base m top ds n x L w hr hf hg h
 ·exact happen_6 g base m top ds n x L w hr hf hg h
 ·exact happen_7 g base m top ds n x L w hr hf hg h
 ·exact happen_8 g base m top ds n x L w hr hf hg h
 ·exact happen_9 g base m top ds n x L w hr hf hg h
 ·exact happen_10 g base m top ds n x L w hr hf hg h
 ·exact happen_11 g base m top ds n x L w hr hf hg h
 exact happen_12 g base m top ds n x L w hr hf hg h
end Go.Proofs.YtefkfglkpebbmaaGreat
