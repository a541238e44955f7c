/- The walk of cobblerlaw.played with the closure of StoryComes. Printed by gen_played.py. No conditions. -/
import Derived.Test.YtefkfglkpebbmadP10
set_option linter.unusedVariables false
set_option linter.unusedSimpArgs false
set_option maxRecDepth 100000
set_option maxHeartbeats 40000000
namespace Go.Proofs.Ytefkfglkpebbmad
open Go.RowKit
variable {Y:Prop}
theorem playedStoryComes_calls  (g:Option Nat) (St:World->Int->Prop) (f0:Int) (A:OA) (c:Nat) (l:List (List UInt8)) (B:OA) (e:Nat) (scr:List (Int×Int)) (w:World)
  (hc:l.length<=c) (hl:l.length<=5864062014634) (hi:Ims w A l) (he:scr.length<=e) (hsl:scr.length<=140737488351232) (hh:Hps w B scr) (hgl:∀k,g=some k->k<w.heap.size)
  (hst:∀(u v:World) f,(∀k,g=some k->v.heap[k]?=u.heap[k]?)->St u f->St v f) (h0:St w f0) (hf0:f0<=1) (hhb:0<scr.length->∀k,g=some k->∀b o,B=some ⟨b,o,none⟩->b≠k)
  (hcl:∀(x:Wor) (L:WLoc) (wr:World) (k f:Int),Inv l k x->1<=k->k<=151->f<=x.d.rec_.floor->(∀v:World,(∀q,g≠some q->q<wr.heap.size->v.heap[q]?=wr.heap[q]?)->WorIn v x L)->St wr f->Bx g w.heap.size w wr->
    Calls Try.prog 14 #[.agg (worA x L)] wr (fun en w2=>en=.returned (.bool true)∧St w2 x.d.rec_.floor∧Bx g wr.heap.size wr w2)):
  Calls Try.prog 6 #[.slice A l.length c,.slice B scr.length e,.func (Fn.func 14) #[] #[]] w (PlRet w g l scr):=by
 exact x4zw
end Go.Proofs.Ytefkfglkpebbmad
