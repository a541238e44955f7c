/- The walks of the library's slices.Grow (of nil) and slices.Concat over Errnos. -/
import Derived.Test.YtefkfglkpebbmacPE3
import Derived.Test.YtefkfglkpebbmacPA
set_option linter.unusedVariables false
set_option linter.unusedSimpArgs false
set_option maxRecDepth 100000
set_option maxHeartbeats 40000000
namespace Go.Proofs.Ytefkfglkpebbmac
open Go.RowKit
variable {Y:Prop}
theorem growErrnos_calls(n:Nat)(w:World)(hn:n<=137438953472):
  Calls Try.prog 136 #[.slice none 0 0,iv n] w (SlRet w 24 1 0 []):=by
 rcases Nat.eq_zero_or_pos n with rfl|hp
 ·go_enter Try.func136,Try.ntmps136;exact x4d9
 obtain⟨i,hi,hz,hs,hb⟩:=info_parts (P:=Try.prog) (e:=24) (z:=.int .i64 0) (size:=1) (bytes:=8) (by kernel_rfl);have hr:=fun ty=>Lib.run_append_grow_zeros (P:=Try.prog) w 90 3 ty 24 i (.int .i64 0) .i64 .i64 Try.underlying90 Try.underlying3 hi hz none 0 0 [] (run_firstCells_none _ _ _ _ _) n hp (by omega) (by omega) (by omega) (by rw[hb];omega)
  (growslice_fits (by omega) (by rw[hb];omega))
 have hG:=grownCap_ge w (0+n) 0 24;have hG1:=grownCap_le_maxLen w (0+n) 0 24 (by unfold maxLen;omega);have h1:(0:Int)<(n:Int):=by omega
 obtain⟨cap,hcd⟩:∃cap,cap=grownCap w (0+n) 0 24:=⟨_,rfl⟩;rw[<-hcd]at hr hG hG1;clear hcd;have hO:Own (w.drew.alloc (.cells (([]:List Value).toArray++Builtin.zeroCells (Value.cells (.int .i64 0)) n++Builtin.zeroCells (Value.cells (.int .i64 0)) (cap-(0+n))) 24)) w.heap.size 24 1 (some ⟨w.heap.size,0,none⟩) 0 cap []:=
  ⟨by simp,Or.inr ⟨_,_,_,rfl,Nat.le_refl _,blk_top rfl,by omega,hG1,by simp[Builtin.zeroCells,Value.cells];omega,by simp⟩⟩
 have hB:=((Below.refl w.heap.size w).drew).alloc (Nat.le_refl _) (.cells (([]:List Value).toArray++Builtin.zeroCells (Value.cells (.int .i64 0)) n++Builtin.zeroCells (Value.cells (.int .i64 0)) (cap-(0+n))) 24);generalize (Obj.cells (([]:List Value).toArray++Builtin.zeroCells (Value.cells (.int .i64 0)) n++Builtin.zeroCells (Value.cells (.int .i64 0)) (cap-(0+n))) 24)=ob at *
 have hcap:cap<=9223372036854775807:=by simp only[maxLen]at hG1;omega
 clear hi hz hs hb hG1;go_enter Try.func136,Try.ntmps136;exact x18t
theorem concatErrnos_calls(ss:List SrcOf)(ad:OA)(c:Nat)(w:World)(hk:ss.length<=16)(hn:sumN ss<=137438953472)(hr:Src w ad (ss.map SrcOf.val))(hs:∀s∈ss,s.ok w 1):
  Calls Try.prog 75 #[.slice ad ss.length c] w (SlRet w 24 1 (sumN ss) (ss.flatMap SrcOf.cells)):=by
 go_enter Try.func75,Try.ntmps75;go_wp2_with fail
 go_loop [3,5,11] (fun z s i=>∃k:Nat,k<=ss.length∧i=.int .i64 k∧z=.int .i64 (sumN (ss.take k))) (fun _ _ i=>ss.length-(intOf i).toNat)
 case atStart=>exact⟨0,Nat.zero_le _,rfl,rfl⟩
 case round=>
  obtain⟨k,hkl,rfl,rfl⟩:=hrel;by_cases hlt:k<ss.length
  ·exact x5g6
  obtain rfl:k=ss.length:=by omega
  rw[List.take_length];go_wp2_with fail;refine(growErrnos_calls (sumN ss) w (by omega)).mono ?_;rintro e w1 ⟨A2,c2,rfl,hO,hB⟩;have HR:=qH hr;have HQ:=qH hs;clear hr hs;go_wp2_with fail;go_loopw [6,8,27] (fun z s i wr=>∃(k:Nat) (A1:OA) (c1:Nat),k<=ss.length∧i=.int .i64 k∧z=.slice A1 (sumN (ss.take k)) c1∧Own wr w.heap.size 24 1 A1 (sumN (ss.take k)) c1 ((ss.take k).flatMap SrcOf.cells)∧Below w.heap.size w wr) (fun _ _ i _=>ss.length-(intOf i).toNat)
  case atStart=>exact⟨0,A2,c2,Nat.zero_le _,rfl,rfl,hO,hB⟩
  case round=>
   obtain⟨k,A1,c1,hkl,rfl,rfl,hO1,hB1⟩:=hrel;have hr1:=HR.out.stays hB1;have hs1:∀s∈ss,s.ok wr 1:=fun s h=>(HQ.out s h).stays hB1;by_cases hlt:k<ss.length
   ·obtain⟨b,o,rfl,hbs,hc⟩:=hr1 k (by simpa using hlt);have hsn:=sumN_take ss k hlt;have hle:=sumN_le ss (k+1);have hfl:(ss.take (k+1)).flatMap SrcOf.cells=(ss.take k).flatMap SrcOf.cells++ss[k].cells:=by
     rw[List.take_succ_eq_append_getElem hlt,List.flatMap_append];simp
    have HS:=qH hsn;have HF:=qH hfl;obtain⟨q1,q2,q3⟩:=hs1 ss[k] (List.getElem_mem hlt);have Q1:=qH q1;have hb1:sumN (ss.take k)+ss[k].n<=137438953472:=by omega
    have hb2:w.heap.size<=wr.heap.size:=hB1.size;have hc':wr.cell? ⟨b,o+k,none⟩=some (.slice ss[k].A ss[k].n ss[k].c):=by simpa[SrcOf.val]using hc
    clear hsn hle hc hfl q1 hr1 hs1;go_wp2_with (at_builtin;refine wpList_app _ rfl _ _ 90 rfl elErrs w.heap.size A1 (sumN (ss.take k)) c1 _ rfl hO1 ss[k].A ss[k].n ss[k].c ss[k].cells rfl q2 Q1.out q3 hb1 hb2 ?_;intro A' c' w2 hown hg hb hx);have hfin:Own w2 w.heap.size 24 1 A' (sumN (ss.take (k+1))) c' ((ss.take (k+1)).flatMap SrcOf.cells):=by rw[HS.out,HF.out];exact hown
    have hB2:=hB1.trans hb;clear hown hg hb hx q2 q3 hc' hbs;go_roundw
    case rel=>exact⟨k+1,A',c',by omega,by go_num,by rw[HS.out],hfin,hB2⟩
    case measure=>simp[intOf]<;>omega
   exact x6ce
end Go.Proofs.Ytefkfglkpebbmac
