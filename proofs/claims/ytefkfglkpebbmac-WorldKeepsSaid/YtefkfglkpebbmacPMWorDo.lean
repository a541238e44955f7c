/- Walks of functions, and plain words. No conditions. -/
import Derived.Test.YtefkfglkpebbmacP9
set_option linter.unusedVariables false
set_option linter.unusedSimpArgs false
set_option maxRecDepth 100000
set_option maxHeartbeats 40000000
namespace Go.Proofs.Ytefkfglkpebbmac
open Go.RowKit
variable {Y:Prop}
variable {x:Wor} {k n:Int}
theorem worDo_bad(h:worCheck x≠0):worDo x k n=(Wor.zero,worCheck x):=by unfold worDo;rw[if_pos h]
theorem worDo_fine(h:worCheck x=0):worDo x k n=worHappen x k n:=by unfold worDo;rw[if_neg (by omega)]
theorem happen_err(h:(worHappen x k n).2≠0):worHappen x k n=(Wor.zero,(worHappen x k n).2):=by
 unfold worHappen at h⊢;split at h
 ·rename_i e;rw[if_pos e];unfold worSend at h⊢;split at h
  ·rename_i c;rw[if_pos c]
  rename_i c1;rw[if_neg c1];split at h
  ·rename_i c;rw[if_pos c]
  rename_i c2;rw[if_neg c2];split at h
  ·rename_i c;rw[if_pos c]
  rename_i c3;rw[if_neg c3];split at h
  ·rename_i c;rw[if_pos c]
  exact absurd rfl h
 rename_i e;rw[if_neg e];split at h
 ·rename_i e2;rw[if_pos e2];unfold worHear at h⊢;split at h
  ·rename_i c;rw[if_pos c]
  rename_i c1;rw[if_neg c1];split at h
  ·rename_i c;rw[if_pos c]
  exact absurd rfl h
 rename_i e2;rw[if_neg e2];unfold worDevice at h⊢;split at h
 ·rename_i c;rw[if_pos c]
 exact absurd rfl h
theorem worDo_calls(x:Wor)(L:WLoc)(kind n:Int)(w:World)(h:WorIn w x L)(hi:I64 n):Calls Try.prog 81 #[.agg (worA x L),.agg #[iv kind,iv n]] w (WvRet w (worDo x kind n).1 (worDo x kind n).2):=by
 have hba:Below w.heap.size w (((w.alloc (.cells (worA x L) 88)).alloc (.cells (#[iv kind,iv n]) 106)).alloc (.cells (worA Wor.zero WLoc.zero) 88)):=(((bW w).alloc (by first|omega|(simp<;>omega)) (.cells (worA x L) 88)).alloc (by first|omega|(simp<;>omega)) (.cells (#[iv kind,iv n]) 106)).alloc (by first|omega|(simp<;>omega)) (.cells (worA Wor.zero WLoc.zero) 88);have HBA:=qH hba;have HIN:=qH h;have K1:=qH (fun w h=>worCheck_calls x L w h);by_cases hc:worCheck x≠0
 ·rw[worDo_bad hc];have q:(worCheck x !=0)=true:=by simp[hc]
  generalize worCheck x=c at *
  clear hc hba h;go_enter Try.func81,Try.ntmps81;go_wp2_with fail;refine(K1.out _ (HIN.out.stays HBA.out)).mono ?_;rintro e w1 ⟨rfl,hb⟩;have a3:=kp (w.heap.size) (worA x L) hb;have a1:=kp (w.heap.size+1) (#[iv kind,iv n]) hb;have a2:=kp (w.heap.size+1+1) (worA Wor.zero WLoc.zero) hb;have HB1:=bT HBA hb;clear hb;go_wp2_with fail;refine bodyPost_ret (rC (worA Wor.zero WLoc.zero)) rfl ⟨WLoc.zero,rfl,.const fun v=>WorIn.zero v,bZ HB1⟩
 have hc:=Decidable.not_not.1 hc;rw[worDo_fine hc];rw[hc]at K1;have hok:=worCheck_ok.1 hc;have herr:=fun h=>happen_err (x:=x) (k:=kind) (n:=n) h;obtain⟨res,hres⟩:=eX (worHappen x kind n);rw[hres]at herr⊢;have HERR:=qH herr;have KH:=qH (fun g base m top ds L w hr hf hg h=>happen_calls g base m top ds n x L w hr hf hg h hok hi kind);rw[hres]at KH;have K2:=qH (fun w h=>worCopy_calls x L w h);clear hc hba h hres herr;go_enter Try.func81,Try.ntmps81;go_wp2_with fail;refine(K1.out _ (HIN.out.stays HBA.out)).mono ?_;rintro e w1 ⟨rfl,hb⟩;have a3:=kp (w.heap.size) (worA x L) hb;have a1:=kp (w.heap.size+1) (#[iv kind,iv n]) hb;have a2:=kp (w.heap.size+1+1) (worA Wor.zero WLoc.zero) hb;have hs1:w.heap.size+3<=w1.heap.size:=by have:=hb.size;simp at this;omega
 have HB1:=bT HBA hb;clear hb;go_wp2_with fail;refine(K2.out _ (HIN.out.stays HB1.out)).mono ?_;rintro e w2 ⟨L2,m,ds,rfl,hwa,hb⟩;have a3:=kr a3 hb;have a1:=kr a1 hb;have a2:=kr a2 hb;have hs2:w1.heap.size<=w2.heap.size:=hb.size;have HB2:=bT HB1 hb;clear hb;go_wp2_with fail;have hp1:0<(rowOf w2 w.heap.size).size:=by rw[a3.1];simp[worA]
 obtain⟨w3,hw1⟩:=eX (w2.setRow w.heap.size (worA x L2));have z1:rowOf w3 w.heap.size=worA x L2:=by rw[<-hw1,rowOf_setRow _ _ _ _ hp1,if_pos rfl]
 have z2:frOf w3 w.heap.size=(0,0):=by rw[<-hw1,frOf_setRow];exact a3.2.1
 have z3:rowOf w3 (w.heap.size+1+1)=worA Wor.zero WLoc.zero:=by rw[<-hw1,rowOf_setRow _ _ _ _ hp1,if_neg (by omega)];exact a2.1
 have z4:frOf w3 (w.heap.size+1+1)=(0,0):=by rw[<-hw1,frOf_setRow];exact a2.2.1
 have hs3:w3.heap.size=w2.heap.size:=by rw[<-hw1];simp[World.setRow]
 have HB3:Hid (Below w.heap.size w w3):=qH (by rw[<-hw1];exact below_row HB2.out nl _);have HW1:Hid (WorAt w3 (w1.heap.size+2) m w2.heap.size ds x L2):=qH (hwa.same (fun k a b=>by rw[<-hw1];exact setRow_other _ _ _ _ (by omega)) (by omega));try rw[hw1]
 have KHH:=qH (KH.out w.heap.size (w1.heap.size+2) m w2.heap.size ds L2 w3 z1 z2 (.inl (by omega)) HW1.out);clear hw1 hp1 hwa a3 a2;refine KHH.out.mono ?_;rintro e w4 ⟨rfl,hz,hx,hs4⟩;have HZ:=qH hz;have e1:=rowOf_heap (hx.2 (w.heap.size+1+1) (by omega) (by omega));have y1:=e1.1.trans z3;have y2:=e1.2.trans z4;have HB4:Hid (Below w.heap.size w w4):=qH (HB3.out.trans (hx.to nl (by omega)));have hl1:w.heap.size+1+1<w4.heap.size:=by omega
 clear hx KHH hz e1 z1 z2 z3 z4;obtain⟨x',e'⟩:=res;by_cases c1:e'≠0
 ·have hzz:=HERR.out c1;have hx':x'=Wor.zero:=congrArg Prod.fst hzz;subst hx';have q:(e' !=0)=true:=by simp[c1]
  clear hzz c1;go_wp2_with fail;refine bodyPost_ret (rC (worA Wor.zero WLoc.zero)) rfl ⟨WLoc.zero,rfl,.const fun v=>WorIn.zero v,bZ HB4⟩
 have c1:=Decidable.not_not.1 c1;have c2':e'=0:=c1;subst c2';obtain⟨L1,r1,f1,hfr1⟩:=HZ.out rfl;have HFR:Hid (Fresh (w1.heap.size+2) w4 (fun v=>WorIn v x' L1)):=qH (fun v hv=>hfr1 v (fun k h1 _ h2=>hv k h1 h2));have b1:=keep1 (bW w4) r1 (by go_simp) f1;clear hfr1 c1;go_wp2_with fail;refine bodyPost_ret (rC (worA x' L1)) rfl ⟨L1,rfl,?_,?_⟩
 ·refine Fresh.imp (P:=fun v=>WorIn v x' L1) (Fresh.mono (base:=w1.heap.size+2) ?_ (by omega)) (fun v hv=>hv);repeat (first|exact HFR.out|refine Fresh.row ?_ (by omega) _)
 exact bZ HB4
end Go.Proofs.Ytefkfglkpebbmac
