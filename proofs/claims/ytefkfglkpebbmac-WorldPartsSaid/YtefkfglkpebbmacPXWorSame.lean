/- The walk of world.Same, where both are alike. No conditions. -/
import Derived.Test.YtefkfglkpebbmacPXEqImgsW
import Derived.Test.YtefkfglkpebbmacPXDevSame
set_option linter.unusedVariables false
set_option linter.unusedSimpArgs false
set_option maxRecDepth 100000
set_option maxHeartbeats 40000000
namespace Go.Proofs.Ytefkfglkpebbmac
open Go.RowKit
variable {Y:Prop}
theorem worSame_self(x:Wor)(L L':WLoc)(w:World)(h:WorIn w x L)(h':WorIn w x L'):Calls Try.prog 73 #[.agg (worA x L),.agg (worA x L')] w (RetB w (.bool true)):=by
 have H:=qH h;have H':=qH h';have HBA:Hid (Below w.heap.size w ((w.alloc (.cells (worA x L) 88)).alloc (.cells (worA x L') 88))):=qH ((bL _).alloc (by simp) _);have K3:=qH (fun w ha hb=>eqImgsW_calls L.ar L'.ar L.cr L'.cr x.rel x.rel w h.lr h.lr ha hb);have K1:=qH (fun w ha hb=>devSame_self x.d L.l L'.l w ha hb);have K2:=qH (fun w ha hb=>chkSame_calls L.an L'.an L.cn L'.cn x.net x.net w h.ln h.ln ha hb);rw[decide_eq_true rfl]at K3 K2;clear h h';go_enter Try.func73,Try.ntmps73;go_wp2_with fail;refine(K3.out _ (H.out.rel.stays HBA.out) (H'.out.rel.stays HBA.out)).mono ?_;rintro e w1 ⟨rfl,hb⟩;have a2:=kp (w.heap.size) (worA x L) hb;have a1:=kp (w.heap.size+1) (worA x L') hb;have HB1:=bT HBA hb;clear hb;go_wp2_with fail;refine(K1.out _ (H.out.dev.stays HB1.out) (H'.out.dev.stays HB1.out)).mono ?_;rintro e w2 ⟨rfl,hb⟩;have a2:=kr a2 hb;have a1:=kr a1 hb;have HB2:=bT HB1 hb;clear hb;go_wp2_with fail;refine(K2.out _ (H.out.net.stays HB2.out) (H'.out.net.stays HB2.out)).mono ?_;rintro e w3 ⟨rfl,hb⟩;have HB3:=bT HB2 hb;clear hb;go_wp2_with fail;go_ret;exact⟨rfl,HB3.out⟩
end Go.Proofs.Ytefkfglkpebbmac
