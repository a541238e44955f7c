/- The closures of DeviceHolds: what a device is told. Printed by gen_holdacts.py. No conditions. -/
import Derived.Test.YtefkfglkpebbmacP8
import Derived.Test.YtefkfglkpebbmacPXHoldsLaw
set_option linter.unusedVariables false
set_option linter.unusedSimpArgs false
set_option maxRecDepth 100000
set_option maxHeartbeats 40000000
namespace Go.Proofs.Ytefkfglkpebbmac
open Go.RowKit
variable {Y:Prop}
theorem x9wj(h:Y:=by
 rintro en w1 ⟨L1,rfl,hf1,hb⟩;have c1:=kp (w.heap.size) (devA Dev.zero DLoc.zero) hb;have HB1:=bT HBA hb;have HF1:=qH hf1;have hp1:0<(rowOf w1 w.heap.size).size:=by rw[c1.1];simp[devA]
 clear hb hf1;go_wp2_with fail;refine bodyPost_ret (rC (devA y.1 L1)) rfl ⟨L1,rfl,?_,?_⟩
 ·intro v hv;refine HF1.out v (fun k h1 h2=>?_);simp at h1;exact(hv k (by omega) (by simpa[World.setRow]using h2)).trans (setRow_other _ _ _ _ (by omega))
 exact bZ HB1):Y:=h
theorem tmod2(n:Int)(h1:-9223372036854775808<=n)(h2:n<=9223372036854775807):IntKind.i64.wrap (n.tmod 2)=n.tmod 2:=
 IntWalk.i64_in _ (by
  have h3:=Int.tmod_eq_emod (a:=n) (b:=2);split at h3<;>omega)
theorem hold0_calls(d:Dev)(L:DLoc)(c:Chk)(B:OA)(e:Nat)(gd gc:Nat)(w:World)(h:DevIn w d L)(hr:rowOf w gd=devA d L)(hf:frOf w gd=(0,0))(hc:ChkIn w c B e)(hr2:rowOf w gc=chkA c.from_ c.to_ c.n c.of_ B c.data.length e)(hf2:frOf w gc=(0,0)):Calls Try.prog 54 #[.pointer (some ⟨gd,0,none⟩),.pointer (some ⟨gc,0,none⟩)] w (DvRet w (devHear d c).1 (devHear d c).2):=by
 have H:=qH h;have HBA:Hid (Below w.heap.size w (w.alloc (.cells (devA Dev.zero DLoc.zero) 71))):=qH (bL _);have a1:=keep1 (bW w) hr (by go_simp) hf;have b1:=keep1 (bW w) hr2 (by simp[chkA]) hf2;have HC:=qH hc;clear hc;have K:=qH (fun w h h2=>devHear_calls d L c B e w h h2);obtain⟨y,hy⟩:=eX (devHear d c);rw[hy]at K⊢;clear hy h;go_enter Try.func54,Try.ntmps54;go_wp2_with fail;refine(K.out _ (H.out.stays HBA.out) (HC.out.stays HBA.out)).mono ?_;exact x9wj
theorem hold1_calls(d:Dev)(L:DLoc)(gd:Nat)(w:World)(h:DevIn w d L)(hr:rowOf w gd=devA d L)(hf:frOf w gd=(0,0)):Calls Try.prog 56 #[.pointer (some ⟨gd,0,none⟩)] w (DvRet w (devOpen d).1 (devOpen d).2):=by
 have H:=qH h;have HBA:Hid (Below w.heap.size w (w.alloc (.cells (devA Dev.zero DLoc.zero) 71))):=qH (bL _);have a1:=keep1 (bW w) hr (by go_simp) hf;have K:=qH (fun w h=>devOpen_calls d L w h);obtain⟨y,hy⟩:=eX (devOpen d);rw[hy]at K⊢;clear hy h;go_enter Try.func56,Try.ntmps56;go_wp2_with fail;refine(K.out _ (H.out.stays HBA.out)).mono ?_;exact x9wj
theorem hold2_calls(d:Dev)(L:DLoc)(n:Int)(gd gc:Nat)(w:World)(h:DevIn w d L)(hr:rowOf w gd=devA d L)(hf:frOf w gd=(0,0))(hr2:rowOf w gc=#[iv n])(hf2:frOf w gc=(0,0))(hn:I64 n):Calls Try.prog 58 #[.pointer (some ⟨gd,0,none⟩),.pointer (some ⟨gc,0,none⟩)] w (DvRet w (devWrite d (decide (n.tmod 2=0)) n).1 (devWrite d (decide (n.tmod 2=0)) n).2):=by
 have H:=qH h;have HBA:Hid (Below w.heap.size w (w.alloc (.cells (devA Dev.zero DLoc.zero) 71))):=qH (bL _);have a1:=keep1 (bW w) hr (by go_simp) hf;have b1:=keep1 (bW w) hr2 (by simp) hf2;have b0p:=b1.2.2.2.1 0;simp at b0p;obtain⟨hn1,hn2⟩:=hn;have hq:=tmod2 n hn1 hn2;have K:=qH (fun w h=>devWrite_calls d L (decide (n.tmod 2=0)) n w h);obtain⟨y,hy⟩:=eX (devWrite d (decide (n.tmod 2=0)) n);rw[hy]at K⊢;clear hy h;go_enter Try.func58,Try.ntmps58;go_wp2_with fail;refine(K.out _ (H.out.stays HBA.out)).mono ?_;exact x9wj
theorem hold3_calls(d:Dev)(L:DLoc)(n:Int)(gd gc:Nat)(w:World)(h:DevIn w d L)(hr:rowOf w gd=devA d L)(hf:frOf w gd=(0,0))(hr2:rowOf w gc=#[iv n])(hf2:frOf w gc=(0,0))(hn:I64 n):Calls Try.prog 60 #[.pointer (some ⟨gd,0,none⟩),.pointer (some ⟨gc,0,none⟩)] w (DvRet w (devFinish d (decide (n.tmod 2=0))).1 (devFinish d (decide (n.tmod 2=0))).2):=by
 have H:=qH h;have HBA:Hid (Below w.heap.size w (w.alloc (.cells (devA Dev.zero DLoc.zero) 71))):=qH (bL _);have a1:=keep1 (bW w) hr (by go_simp) hf;have b1:=keep1 (bW w) hr2 (by simp) hf2;have b0p:=b1.2.2.2.1 0;simp at b0p;obtain⟨hn1,hn2⟩:=hn;have hq:=tmod2 n hn1 hn2;have K:=qH (fun w h=>devFinish_calls d L (decide (n.tmod 2=0)) w h);obtain⟨y,hy⟩:=eX (devFinish d (decide (n.tmod 2=0)));rw[hy]at K⊢;clear hy h;go_enter Try.func60,Try.ntmps60;go_wp2_with fail;refine(K.out _ (H.out.stays HBA.out)).mono ?_;exact x9wj
theorem hold4_calls(d:Dev)(L:DLoc)(gd:Nat)(w:World)(h:DevIn w d L)(hr:rowOf w gd=devA d L)(hf:frOf w gd=(0,0)):Calls Try.prog 62 #[.pointer (some ⟨gd,0,none⟩)] w (DvRet w (devCrash d).1 (devCrash d).2):=by
 have H:=qH h;have HBA:Hid (Below w.heap.size w (w.alloc (.cells (devA Dev.zero DLoc.zero) 71))):=qH (bL _);have a1:=keep1 (bW w) hr (by go_simp) hf;have K:=qH (fun w h=>devCrash_calls d L w h);obtain⟨y,hy⟩:=eX (devCrash d);rw[hy]at K⊢;clear hy h;go_enter Try.func62,Try.ntmps62;go_wp2_with fail;refine(K.out _ (H.out.stays HBA.out)).mono ?_;exact x9wj
theorem hold5_calls(d:Dev)(L:DLoc)(gd:Nat)(w:World)(h:DevIn w d L)(hr:rowOf w gd=devA d L)(hf:frOf w gd=(0,0)):Calls Try.prog 64 #[.pointer (some ⟨gd,0,none⟩)] w (DvRet w (devBoot d).1 (devBoot d).2):=by
 have H:=qH h;have HBA:Hid (Below w.heap.size w (w.alloc (.cells (devA Dev.zero DLoc.zero) 71))):=qH (bL _);have a1:=keep1 (bW w) hr (by go_simp) hf;have K:=qH (fun w h=>devBoot_calls d L w h);obtain⟨y,hy⟩:=eX (devBoot d);rw[hy]at K⊢;clear hy h;go_enter Try.func64,Try.ntmps64;go_wp2_with fail;refine(K.out _ (H.out.stays HBA.out)).mono ?_;exact x9wj
theorem hold6_calls(d:Dev)(L:DLoc)(gd:Nat)(w:World)(h:DevIn w d L)(hr:rowOf w gd=devA d L)(hf:frOf w gd=(0,0)):Calls Try.prog 66 #[.pointer (some ⟨gd,0,none⟩)] w (DvRet w (devConfirm d).1 (devConfirm d).2):=by
 have H:=qH h;have HBA:Hid (Below w.heap.size w (w.alloc (.cells (devA Dev.zero DLoc.zero) 71))):=qH (bL _);have a1:=keep1 (bW w) hr (by go_simp) hf;have K:=qH (fun w h=>devConfirm_calls d L w h);obtain⟨y,hy⟩:=eX (devConfirm d);rw[hy]at K⊢;clear hy h;go_enter Try.func66,Try.ntmps66;go_wp2_with fail;refine(K.out _ (H.out.stays HBA.out)).mono ?_;exact x9wj
end Go.Proofs.Ytefkfglkpebbmac
