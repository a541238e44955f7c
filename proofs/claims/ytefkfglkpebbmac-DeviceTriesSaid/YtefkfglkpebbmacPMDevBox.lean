/- Walks of functions, and plain words. No conditions. -/
import Derived.Test.YtefkfglkpebbmacP2
set_option linter.unusedVariables false
set_option linter.unusedSimpArgs false
set_option maxRecDepth 100000
set_option maxHeartbeats 40000000
namespace Go.Proofs.Ytefkfglkpebbmac
open Go.RowKit
variable {Y:Prop}
structure DeB(w:World)(g q:Nat)(d:Dev)(L:DLoc):Prop where
 row:rowOf w g=devA d L
 fr:frOf w g=(0,0)
 lt:g<q
 le:q<=w.heap.size
 in_:∀v:World,(∀k,k<g∨q<=k->k<w.heap.size->v.heap[k]?=w.heap[k]?)->DevIn v d L
theorem rowH{w w':World}{g:Nat}(h:w'.heap[g]?=w.heap[g]?):rowOf w' g=rowOf w g∧frOf w' g=frOf w g:=by unfold rowOf frOf;rw[h];exact⟨rfl,rfl⟩
section
variable {w w':World} {g q:Nat} {d e:Dev} {L L':DLoc}
theorem DeB.now(h:DeB w g q d L):DevIn w d L:=h.in_ w fun _ _ _=>rfl
theorem DeB.below(h:DeB w g q d L)(hb:Below w.heap.size w w'):DeB w' g q d L:=by
 have hg:g<w.heap.size:=Nat.lt_of_lt_of_le h.lt h.le;exact⟨(rowOf_below hg hb).trans h.row,(frOf_below hg hb).trans h.fr,h.lt,Nat.le_trans h.le hb.size,fun v hv=>h.in_ v fun k h1 h2=>(hv k h1 (Nat.lt_of_lt_of_le h2 hb.size)).trans (hb.block k h2)⟩
theorem DeB.put(h:DeB w g q d L)(hb:Below w.heap.size w w')(hf:Fresh w.heap.size w' (fun v=>DevIn v e L')):DeB (w'.setRow g (devA e L')) g q e L':=by
 have h':=h.below hb;have hp:0<(rowOf w' g).size:=by rw[h'.row];simp[devA]
 refine⟨by rw[rowOf_setRow _ _ _ _ hp,if_pos rfl],by rw[frOf_setRow];exact h'.fr,h.lt,by simpa[World.setRow]using h'.le,fun v hv=>hf v fun k h1 h2=>?_⟩;have hlt:=h.lt;have hle:=h.le;exact(hv k (.inr (by omega)) (by simpa[World.setRow]using h2)).trans (setRow_other _ _ _ _ (by omega))
theorem DeB.start{base:Nat}(hf:Fresh base w (fun v=>DevIn v d L))(hr:rowOf w' w.heap.size=devA d L)(h0:frOf w' w.heap.size=(0,0))(h1:w.heap.size<q)(h2:q<=w'.heap.size)(hk:∀k,k<w.heap.size->w'.heap[k]?=w.heap[k]?):DeB w' w.heap.size q d L:=
 ⟨hr,h0,h1,h2,fun v hv=>hf v fun k _ h4=>(hv k (.inl h4) (by omega)).trans (hk k h4)⟩
structure DS(W w5:World)(bs g q:Nat)(d:Dev)(L:DLoc)(wr:World):Prop where
 box:DeB wr g q d L
 bel:Below W.heap.size W wr
 kp:Kp bs w5 wr
 le:w5.heap.size<=wr.heap.size
variable {W w5 wr:World} {bs:Nat}
theorem DS.below(h:DS W w5 bs g q d L wr)(hb:Below wr.heap.size wr w'):DS W w5 bs g q d L w':=
 ⟨h.box.below hb,h.bel.trans (hb.mono h.bel.size),h.kp.below h.le hb,Nat.le_trans h.le hb.size⟩
theorem DS.step(h:DS W w5 bs g q d L wr)(hg:W.heap.size<=g)(hbs:g<bs)(hb:Below wr.heap.size wr w')(hf:Fresh wr.heap.size w' (fun v=>DevIn v e L')):DS W w5 bs g q e L' (w'.setRow g (devA e L')):=
 ⟨h.box.put hb hf,below_row (h.bel.trans (hb.mono h.bel.size)) hg _,((h.kp.below h.le hb).row (.inl hbs) _),by simpa[World.setRow]using Nat.le_trans h.le hb.size⟩
end
end Go.Proofs.Ytefkfglkpebbmac
