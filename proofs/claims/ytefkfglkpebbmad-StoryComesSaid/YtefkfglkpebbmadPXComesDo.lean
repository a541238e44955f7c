/- StoryComes's closure: a happening is tried on the world that it holds. No conditions. -/
import Derived.Test.YtefkfglkpebbmadP10
import Derived.Test.YtefkfglkpebbmadPXComesLaw
set_option linter.unusedVariables false
set_option linter.unusedSimpArgs false
set_option maxRecDepth 100000
set_option maxHeartbeats 40000000
namespace Go.Proofs.Ytefkfglkpebbmad
open Go.RowKit
variable {Y:Prop}
variable {w:World} {g:Nat} {x:Wor} {L:WLoc}
structure WoB(w:World)(g:Nat)(x:Wor)(L:WLoc):Prop where
 row:rowOf w g=worA x L
 fr:frOf w g=(0,0)
 lt:g<w.heap.size
 in_:∀v:World,(∀q,q≠g->q<w.heap.size->v.heap[q]?=w.heap[q]?)->WorIn v x L
theorem WoB.now(h:WoB w g x L):WorIn w x L:=h.in_ w (fun _ _ _=>rfl)
theorem WoB.below{w':World}(h:WoB w g x L)(hb:Below w.heap.size w w'):WoB w' g x L:=by
 have e:=rowOf_heap (hb.block g h.lt);exact⟨e.1.trans h.row,e.2.trans h.fr,Nat.lt_of_lt_of_le h.lt hb.size,fun v hv=>h.in_ v (fun q h1 h2=>(hv q h1 (Nat.lt_of_lt_of_le h2 hb.size)).trans (hb.block q h2))⟩
theorem WoB.new{b:Nat}(h:Fresh b w (fun v=>WorIn v x L)):WoB (w.alloc (.cells (worA x L) 41)) w.heap.size x L:=
 ⟨by rw[rowOf_alloc,if_pos rfl],by rw[frOf_alloc,if_pos rfl],by simp,fun v hv=>h v (fun k h1 h2=>(hv k (by omega) (by simp;omega)).trans (Below.heap_alloc w _ k h2))⟩
def DoRet(w:World)(g:Nat)(x:Wor)(kind n:Int):Ending->World->Prop:=fun en w2=>
 ∃L',en=.returned (.bool (decide ((worDo x kind n).2=0)))∧WoB w2 g (stoStep x (kind,n)) L'∧Bx (some g) w.heap.size w w2
theorem comesDo_calls(g:Nat)(x:Wor)(L:WLoc)(kind n:Int)(w:World)(h:WoB w g x L)(hi:I64 n):
  Calls Try.prog 15 #[iv kind,iv n,.pointer (some ⟨g,0,none⟩)] w (DoRet w g x kind n):=by
 have H:=qH h;obtain⟨⟨x',e'⟩,hres⟩:∃res,worDo x kind n=res:=⟨_,rfl⟩;have hst:stoStep x (kind,n)=if e'=0 then x' else x:=by unfold stoStep;dsimp only;rw[hres]
 unfold DoRet;rw[hst,hres];dsimp only;obtain⟨y,hy⟩:=eX ((if e'=0 then x' else x));obtain⟨r,hr⟩:=eX (decide (e'=0));rw[hy,hr];have HY:=qH hy;have HR:=qH hr;have HIN:=qH h.now;have HI:=qH hi;have K1:Hid (∀w,WorIn w x L->Calls Try.prog 10 #[.agg (worA x L),.agg #[iv kind,iv n]] w (WvRet w x' e')):=qH (fun w h=>by
  have:=worDo_calls x L kind n w h HI.out;rwa [hres]at this)
 have a1:=keep1 (bW w) h.row (by go_simp) h.fr;clear hst hres hi h hy hr;go_enter Try.func15,Try.ntmps15;go_wp2_with fail;refine(K1.out _ (by first|exact HIN.out|exact HIN.out.stays (bL _))).mono ?_;rintro en w1 ⟨L3,rfl,hf1,hb⟩;have HF1:=qH hf1;have HB1:=qH hb;have a1:=kp g (worA x L) hb;clear hb hf1;by_cases he:e'=0
 ·subst he;have q:((0:Int)==0)=true:=rfl;have hp1:0<(rowOf w1 g).size:=by rw[a1.1];simp[worA]
  go_wp2_with fail;refine bodyPost_ret (results_tmp rfl _ _ _) rfl ?_;have hw:WoB (w1.setRow g (worA x' L3)) g x' L3:=⟨by rw[rowOf_setRow _ _ _ _ hp1,if_pos rfl],by rw[frOf_setRow];exact a1.2.1,by simp[World.setRow];exact a1.2.2.2.2.2,
   fun v hv=>HF1.out v (fun k h1 h2=>(hv k (by omega) (by simp[World.setRow];omega)).trans (setRow_other _ _ _ _ (by omega)))⟩
  have hbx:Bx (some g) w.heap.size w (w1.setRow g (worA x' L3)):=⟨below_row (HB1.out.mono (Nat.zero_le _)) (Nat.zero_le _) _,fun k h1 h2=>(setRow_other _ _ _ _ (fun e=>h2 (by rw[e]))).trans (HB1.out.block k h1)⟩;have hs1:=HB1.out.size;refine⟨L3,by rw[<-HR.out];rfl,?_,?_⟩
  ·rw[<-HY.out];simp only[if_true]
   first|exact hw|exact hw.below (bL _)
  first|exact hbx|exact hbx.alloc (by simp[World.setRow];omega) _
 have q:(e'==0)=false:=by simpa using he
 have HE:=qH he;clear he;go_wp2_with fail;refine bodyPost_ret (results_tmp rfl _ _ _) rfl ?_;refine⟨L,?_,?_,?_⟩
 ·rw[<-HR.out,decide_eq_false HE.out];rfl
 ·rw[<-HY.out,if_neg HE.out]
  first|exact H.out.below HB1.out|exact(H.out.below HB1.out).below (bL _)
 have hs1:=HB1.out.size
 first|exact Bx.of HB1.out nl|exact(Bx.of HB1.out nl).alloc hs1 _
theorem Bx.low{base B:Nat}{w':World}(h:Bx (some g) base w w')(hB:B<=base)(hg:B<=g):Below B w w':=⟨h.1.os,h.1.tape,h.1.output,h.1.size,fun k hk=>h.2 k (by omega) (fun e=>by cases e;omega)⟩
theorem comesDo_fine(g:Nat)(x x':Wor)(L:WLoc)(kind n:Int)(w:World)(h:WoB w g x L)(hi:I64 n)(hx:worDo x kind n=(x',0)):
  Calls Try.prog 15 #[iv kind,iv n,.pointer (some ⟨g,0,none⟩)] w (fun en w2=>∃L',en=.returned (.bool true)∧WoB w2 g x' L'∧Bx (some g) w.heap.size w w2):=by
 refine(comesDo_calls g x L kind n w h hi).mono ?_;rintro en w1 ⟨L',h1,h2,h3⟩;have hs:stoStep x (kind,n)=x':=by
  unfold stoStep
  show (if (worDo x kind n).2=0 then (worDo x kind n).1 else x)=x';rw[hx,if_pos rfl]
 rw[hx]at h1;rw[hs]at h2;exact⟨L',h1,h2,h3⟩
theorem comesDo_stop(g:Nat)(x:Wor)(L:WLoc)(kind n:Int)(w:World)(h:WoB w g x L)(hi:I64 n)(hx:worDo x kind n=(Wor.zero,5)):
  Calls Try.prog 15 #[iv kind,iv n,.pointer (some ⟨g,0,none⟩)] w (fun en w2=>∃L',en=.returned (.bool false)∧WoB w2 g x L'∧Bx (some g) w.heap.size w w2):=by
 refine(comesDo_calls g x L kind n w h hi).mono ?_;rintro en w1 ⟨L',h1,h2,h3⟩;have hs:stoStep x (kind,n)=x:=by
  unfold stoStep
  show (if (worDo x kind n).2=0 then (worDo x kind n).1 else x)=x;rw[hx,if_neg (by decide)]
 rw[hx]at h1;rw[hs]at h2;exact⟨L',h1,h2,h3⟩
end Go.Proofs.Ytefkfglkpebbmad
