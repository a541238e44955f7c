/- The walk of the document's CheckChunk. Printed by gen_refchkcheck.py. No conditions. -/
import Derived.Test.YtefkfglkpebbmacP3
set_option linter.unusedVariables false
set_option linter.unusedSimpArgs false
set_option maxRecDepth 100000
set_option maxHeartbeats 40000000
namespace Go.Proofs.Ytefkfglkpebbmac
open Go.RowKit
variable {Y:Prop}
theorem x2xk(h:Y:=by
 clear g1 g2;go_enter Try.func48,Try.ntmps48;go_wp2_with fail;refine(refIn_t (n:=f) (a:=1) (b:=30) (by omega) _).mono ?_;rintro e u ⟨rfl,rfl⟩;go_wp2_with fail;refine(refIn_t (n:=t) (a:=1) (b:=30) (by omega) _).mono ?_;rintro e u ⟨rfl,rfl⟩;go_wp2_with fail;refine(refIn_t (n:=o) (a:=1) (b:=52) (by omega) _).mono ?_;rintro e u ⟨rfl,rfl⟩;go_wp2_with fail;refine(I.out _).mono ?_;rintro e u ⟨rfl,rfl⟩;go_wp2_with fail;go_ret;exact⟨ret_int hz.out.symm,hA⟩):Y:=h
theorem x5eh(h:Y:=by
 go_wp2_with fail;go_ret;exact⟨ret_int hz.out.symm,hA⟩):Y:=h
theorem refChkCheck_calls(A:OA)(c:Nat)(f t n o:Int)(l:LU)(w:World)(hn:I64 n)(ho:I64 o):
  Calls Try.prog 48 #[.agg (chkA f t n o A l.length c)] w (RetB w (iv (chkCheck ⟨f,t,n,o,l⟩))):=by
 obtain⟨hn1,hn2⟩:=hn;obtain⟨ho1,ho2⟩:=ho;have hb:Below w.heap.size w (w.alloc (.cells (chkA f t n o A l.length c) 49)):=bL _;have HB:=qH hb;clear hb;by_cases h5:f<(1:Int)∨(30:Int)<f
 ·have hz:=qH (chkCheck_bad (x:=⟨f,t,n,o,l⟩) (by unfold Chk.range;dsimp only;omega));go_enter Try.func48,Try.ntmps48;go_wp2_with fail;refine(refIn_f (n:=f) (a:=1) (b:=30) (by omega) _).mono ?_;rintro e u ⟨rfl,rfl⟩;exact x5eh
 by_cases h1:t<(1:Int)∨(30:Int)<t
 ·have hz:=qH (chkCheck_bad (x:=⟨f,t,n,o,l⟩) (by unfold Chk.range;dsimp only;omega));go_enter Try.func48,Try.ntmps48;go_wp2_with fail;refine(refIn_t (n:=f) (a:=1) (b:=30) (by omega) _).mono ?_;rintro e u ⟨rfl,rfl⟩;go_wp2_with fail;refine(refIn_f (n:=t) (a:=1) (b:=30) (by omega) _).mono ?_;rintro e u ⟨rfl,rfl⟩;exact x5eh
 by_cases h1:o<(1:Int)∨(52:Int)<o
 ·have hz:=qH (chkCheck_bad (x:=⟨f,t,n,o,l⟩) (by unfold Chk.range;dsimp only;omega));go_enter Try.func48,Try.ntmps48;go_wp2_with fail;refine(refIn_t (n:=f) (a:=1) (b:=30) (by omega) _).mono ?_;rintro e u ⟨rfl,rfl⟩;go_wp2_with fail;refine(refIn_t (n:=t) (a:=1) (b:=30) (by omega) _).mono ?_;rintro e u ⟨rfl,rfl⟩;go_wp2_with fail;refine(refIn_f (n:=o) (a:=1) (b:=52) (by omega) _).mono ?_;rintro e u ⟨rfl,rfl⟩;exact x5eh
 by_cases h1:n<(0:Int)
 ·have hz:=qH (chkCheck_bad (x:=⟨f,t,n,o,l⟩) (by unfold Chk.range;dsimp only;omega));go_enter Try.func48,Try.ntmps48;go_wp2_with fail;refine(refIn_t (n:=f) (a:=1) (b:=30) (by omega) _).mono ?_;rintro e u ⟨rfl,rfl⟩;go_wp2_with fail;refine(refIn_t (n:=t) (a:=1) (b:=30) (by omega) _).mono ?_;rintro e u ⟨rfl,rfl⟩;go_wp2_with fail;refine(refIn_t (n:=o) (a:=1) (b:=52) (by omega) _).mono ?_;rintro e u ⟨rfl,rfl⟩;exact x5eh
 by_cases h1:o<=n
 ·have hz:=qH (chkCheck_bad (x:=⟨f,t,n,o,l⟩) (by unfold Chk.range;dsimp only;omega));go_enter Try.func48,Try.ntmps48;go_wp2_with fail;refine(refIn_t (n:=f) (a:=1) (b:=30) (by omega) _).mono ?_;rintro e u ⟨rfl,rfl⟩;go_wp2_with fail;refine(refIn_t (n:=t) (a:=1) (b:=30) (by omega) _).mono ?_;rintro e u ⟨rfl,rfl⟩;go_wp2_with fail;refine(refIn_t (n:=o) (a:=1) (b:=52) (by omega) _).mono ?_;rintro e u ⟨rfl,rfl⟩;exact x5eh
 have hr:Chk.range ⟨f,t,n,o,l⟩:=by unfold Chk.range;dsimp only;omega
 have HR:=qH hr;clear hr;have hw:IntKind.i64.wrap (o-1)=o-1:=IntWalk.i64_in _ (by omega);by_cases g1:n=o-1
 ·have q1:(n==o-1)=true:=by simp[g1]
  by_cases g2:l.length=0∨16<l.length
  ·have hz:=qH (chkCheck_form HR.out (fun e=>by have:=full_len.1 e;omega));have I:=qH (fun w=>refIn_f (n:=(l.length:Int)) (a:=1) (b:=16) (by omega) w);exact x2xk
  have hz:=qH (chkCheck_fine HR.out (full_len.2 ⟨by omega,by omega,fun h=>by omega⟩));have I:=qH (fun w=>refIn_t (n:=(l.length:Int)) (a:=1) (b:=16) (by omega) w);exact x2xk
 have q1:(n==o-1)=false:=beq_eq_false_iff_ne.2 g1;by_cases g2:l.length=16
 ·have hz:=qH (chkCheck_fine HR.out (full_len.2 ⟨by omega,by omega,fun h=>g2⟩));have I:=qH (fun w=>refIn_t (n:=(l.length:Int)) (a:=16) (b:=16) (by omega) w);exact x2xk
 have hz:=qH (chkCheck_form HR.out (fun e=>by have:=(full_len.1 e).2.2 (by omega);omega));have I:=qH (fun w=>refIn_f (n:=(l.length:Int)) (a:=16) (b:=16) (by omega) w);exact x2xk
end Go.Proofs.Ytefkfglkpebbmac
