/- The walk of the document's alike. No conditions. -/
import Derived.Test.YtefkfglkpebbmacPE1
import Derived.Test.YtefkfglkpebbmacPA
set_option linter.unusedVariables false
set_option linter.unusedSimpArgs false
set_option maxRecDepth 100000
set_option maxHeartbeats 40000000
namespace Go.Proofs.Ytefkfglkpebbmac
open Go.RowKit
variable {Y:Prop}
theorem x62b(h:Y:=by
 go_wp2_with fail;go_quiet (fail)
 go_wp2_with fail;go_ret;exact⟨rfl,nd+nq,by rw[<-World.drewN_drewN]⟩):Y:=h
theorem refAlike_calls(A:OA)(c:Nat)(l:LU)(w:World)(h0:0<l.length)(hc:l.length<=c)(hl:l.length<=4194304)(hB:Bts w A l):
  Calls Try.prog 147 #[.slice A l.length c] w (RetN w (iv (alike l:Nat))):=by
 obtain⟨a1,a2,a3,a4,a5⟩:=alike_stop h0;simp only[List.drop_zero,Nat.zero_add]at a1 a2 a3 a4 a5;replace a5:alike l=127∨(alike l<127∧alike l=l.length)∨(alike l<127∧∃h:alike l<l.length,l[alike l]≠l[0]):=by
  rcases a5 with h|h|⟨h0,h1,h2⟩
  ·exact .inl h
  ·exact .inr (.inl h)
  exact .inr (.inr ⟨h0,by simpa using h1,by simpa using h2⟩)
 have HA1:=qH a4;have HBO:=qH hB;clear hB a4;obtain⟨ab,ao,rfl,hsb,hx1⟩:=HBO.out 0 h0;simp only[Nat.add_zero]at hx1;have HAL:Hid (alike l=alike l):=qH rfl;generalize hal:alike l=al at *
 clear hal HAL;go_enter Try.func147,Try.ntmps147;go_wp2_with fail;go_loopw [3] (fun n wr=>∃(m nd:Nat),n=.int .i64 (m:Int)∧1<=m∧m<=al∧w.drewN nd=wr) (fun n _=>al-(intOf n).toNat)
 case atStart=>exact⟨1,0,rfl,by omega,a1,rfl⟩
 case round=>
  obtain⟨m,nd,rfl,hm1,hm2,rfl⟩:=hrel;have hw1:IntKind.i64.wrap ((m:Int)+1)=(m:Int)+1:=IntWalk.i64_in _ (by omega);by_cases hml:m<al
  ·have hx2:=HA1.out m hml;have hkm:m<l.length:=by omega
   rw[List.getElem?_eq_getElem hkm]at hx2;obtain⟨b1,o1,e1,hs1,hc1⟩:=HBO.out m hkm;injection e1 with e1;injection e1 with e3 e4;subst e3 e4;have hx3:l[m]=l[0]:=by injection hx2
   rw[hx3]at hc1;have d1:decide ((m:Int)<127)=true:=decide_eq_true (by omega);have d2:decide ((m:Int)<(l.length:Int))=true:=decide_eq_true (by omega);have d3:((l[0].toNat:Int)==(l[0].toNat:Int))=true:=by simp
   clear hx2 hx3;exact x21e
  obtain rfl:m=al:=by omega
  rcases a5 with h|⟨h0,h⟩|⟨h0,h1,h2⟩
  ·by_cases d2':m<l.length
   ·have d1:decide ((m:Int)<127)=false:=decide_eq_false (by omega);have d2:decide ((m:Int)<(l.length:Int))=true:=decide_eq_true (by omega);clear h hm2 hml;exact x62b
   ·have d2:decide ((m:Int)<(l.length:Int))=false:=decide_eq_false (by omega);clear h hm2 hml;exact x62b
  ·have d2:decide ((m:Int)<(l.length:Int))=false:=decide_eq_false (by omega);have d1:decide ((m:Int)<127)=true:=decide_eq_true (by omega);have hx:¬m<l.length:=by omega
   clear h h0 hm2 hml;exact x62b
  have d1:decide ((m:Int)<127)=true:=decide_eq_true (by omega);have d2:decide ((m:Int)<(l.length:Int))=true:=decide_eq_true (by omega);have d3:((l[m].toNat:Int)==(l[0].toNat:Int))=false:=by simp;exact fun e=>h2 (UInt8.toNat_inj.1 (by omega))
  have hc1:w.cell? ⟨ab,ao+m,none⟩=some (bv l[m]):=by
   obtain⟨b1,o1,e1,hs1,hc2⟩:=HBO.out m h1;injection e1 with e1;injection e1 with e3 e4;subst e3 e4;exact hc2
  clear h2 hm2 hml;exact x62b
end Go.Proofs.Ytefkfglkpebbmac
