/- The walks of device.Same, where both are alike. No conditions. -/
import Derived.Test.YtefkfglkpebbmacPMChkSame
set_option linter.unusedVariables false
set_option linter.unusedSimpArgs false
set_option maxRecDepth 100000
set_option maxHeartbeats 40000000
namespace Go.Proofs.Ytefkfglkpebbmac
open Go.RowKit
variable {Y:Prop}
theorem devSame_self(d:Dev)(L L':DLoc)(w:World)(h:DevIn w d L)(h':DevIn w d L'):Calls Try.prog 117 #[.agg (devA d L),.agg (devA d L')] w (RetB w (.bool true)):=by
 have H:=qH h;have H':=qH h';have HBA:Hid (Below w.heap.size w ((w.alloc (.cells (devA d L) 71)).alloc (.cells (devA d L') 71))):=qH ((bL _).alloc (by simp) _);have K4:=qH (fun w ha hb=>equalBytes_calls L.a0 L'.a0 L.c0 L'.c0 d.s0 d.s0 w h.l0 h.l0 ha hb);have K1:=qH (fun w ha hb=>equalBytes_calls L.a1 L'.a1 L.c1 L'.c1 d.s1 d.s1 w h.l1 h.l1 ha hb);have K2:=qH (fun w ha hb=>chkSame_calls L.ag L'.ag L.cg L'.cg d.got d.got w h.lg h.lg ha hb);have K3:=qH (fun w ha hb=>patSameA_calls L.aj L'.aj L.cj L'.cj d.job.from_ d.job.to_ d.job.old d.job.new_ d.job.size d.job.from_ d.job.to_ d.job.old d.job.new_ d.job.size d.job.ops d.job.ops w h.job.len h.job.len ha hb);rw[decide_eq_true rfl]at K4 K1 K2 K3;clear h h';go_enter Try.func117,Try.ntmps117;go_wp2_with fail;refine(K4.out _ (H.out.b0.stays HBA.out) (H'.out.b0.stays HBA.out)).mono ?_;rintro e w1 ⟨rfl,n1,hw⟩;have hb:Below ((w.alloc (.cells (devA d L) 71)).alloc (.cells (devA d L') 71)).heap.size ((w.alloc (.cells (devA d L) 71)).alloc (.cells (devA d L') 71)) w1:=by rw[<-hw];exact below_drewN _ n1
 have a2:=kp (w.heap.size) (devA d L) hb;have a1:=kp (w.heap.size+1) (devA d L') hb;have HB1:=bT HBA hb;clear hb hw;go_wp2_with fail;refine(K1.out _ (H.out.b1.stays HB1.out) (H'.out.b1.stays HB1.out)).mono ?_;rintro e w2 ⟨rfl,n2,hw⟩;have hb:Below w1.heap.size w1 w2:=by rw[<-hw];exact below_drewN _ n2
 have a2:=kr a2 hb;have a1:=kr a1 hb;have HB2:=bT HB1 hb;clear hb hw;go_wp2_with fail;refine(K2.out _ (H.out.got.stays HB2.out) (H'.out.got.stays HB2.out)).mono ?_;rintro e w3 ⟨rfl,hb⟩;have a2:=kr a2 hb;have a1:=kr a1 hb;have HB3:=bT HB2 hb;clear hb;go_wp2_with fail;refine(K3.out _ (H.out.job.ops.stays HB3.out) (H'.out.job.ops.stays HB3.out)).mono ?_;rintro e w4 ⟨rfl,hb⟩;have a2:=kr a2 hb;have a1:=kr a1 hb;have HB4:=bT HB3 hb;clear hb;go_wp2_with fail;go_ret;exact⟨rfl,HB4.out⟩
end Go.Proofs.Ytefkfglkpebbmac
