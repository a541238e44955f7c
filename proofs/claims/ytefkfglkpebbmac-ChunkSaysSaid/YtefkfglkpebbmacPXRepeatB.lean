/- bytes.Repeat of one byte. Printed by gen_repeatb.py. No conditions. -/
import Derived.Test.YtefkfglkpebbmacP1
import Derived.Lib.MakeNoZero
set_option linter.unusedVariables false
set_option linter.unusedSimpArgs false
set_option maxRecDepth 100000
set_option maxHeartbeats 40000000
namespace Go.Proofs.Ytefkfglkpebbmac
open Go.RowKit
variable {Y:Prop}
variable {k:Nat} {R:List Value}
theorem x6d0(h:Y:=by
 have e1:=fO 9 (.slice (some ⟨g,0,none⟩) n n) h;exact mx_move (ch_ev e1)):Y:=h
def filledR(x:UInt8)(k:Nat)(R:List Value):List Value:=List.replicate k (bv x)++R.drop k
theorem filledR_len(x:UInt8)(h:k<=R.length):(filledR x k R).length=R.length:=by unfold filledR;simp;omega
theorem filledR_zero(x:UInt8)(R:List Value):filledR x 0 R=R:=by simp[filledR]
theorem filledR_more(x:UInt8){m:Nat}(h:k+m<=R.length):Go.splice (filledR x k R) k (List.replicate m (bv x))=filledR x (k+m) R:=by
 unfold filledR Go.splice;rw[List.take_append_of_le_length (by simp),List.length_replicate,List.drop_append,List.length_replicate,List.take_of_length_le (by simp),List.drop_eq_nil_of_le (by simp),List.nil_append,<-List.append_assoc,List.replicate_append_replicate,List.drop_drop];congr 2;omega
theorem filledR_at(x:UInt8){j:Nat}(h:j<k):(filledR x k R)[j]?=some (bv x):=by
 unfold filledR;rw[List.getElem?_append_left (by simpa using h),List.getElem?_replicate];simp[h]
def rbJ(wo:World)(g:Nat)(x:UInt8)(k m:Nat)(R:List Value)(done:Nat->Bool)(cv:Nat->Value)(w:World):Prop:=
 if done 7=true then cv 7=iv (m:Int)∧w.heap[g]?=some (.cells (filledR x (k+m) R).toArray 5 (0,0))∧Below g wo w else w=wo.drew
def BsRet(w:World)(l:LU):Ending->World->Prop:=fun en w'=>∃A c,en=.returned (.slice A l.length c)∧l.length<=c∧Bts w' A l∧Below w.heap.size w w'
theorem bts_filledR{w:World}{g n:Nat}{x:UInt8}(h:w.heap[g]?=some (.cells (filledR x n R).toArray 5 (0,0))):Bts w (some ⟨g,0,none⟩) (List.replicate n x):=by
 intro i hi;rw[List.length_replicate]at hi;refine⟨g,0,rfl,blk_lt h,?_⟩;rw[Nat.zero_add,cell_of_row _ _ _ _ _ _ h,List.getElem?_toArray,filledR_at x hi,List.getElem_replicate]
theorem repeatB_calls(A:OA)(c:Nat)(x:UInt8)(n:Nat)(w:World)(hn:1<=n)(hn2:n<=1000)(hA:Bts w A [x]):
  Calls Try.prog 148 #[.slice A 1 c,iv n] w (BsRet w (List.replicate n x)):=by
 obtain⟨a,o,rfl,hlt,hc⟩:=hA 0 (by simp);simp only[Nat.add_zero,List.getElem_cons_zero]at hc;have HC:=qH hc;clear hA hc;have d3:((n:Int)==0)=false:=by simp;omega
 have d1:¬(n:Int)<0:=by omega
 have u1:IntKind.u64.wrap (n:Int)=(n:Int):=by rw[IntKind.wrap_u64];omega
 have i1:IntKind.i64.wrap (n:Int)=(n:Int):=IntWalk.i64_in _ (by omega);obtain⟨cs,hrunM,hle,_⟩:=Lib.run_makeNoZero (P:=Try.prog) w #[3] 22 5 Try.underlying22 n (by omega);have hcall:(callFunc 163 #[iv (n:Int)]).run Try.prog w=.ok (.value (.slice (some ⟨w.heap.size,0,none⟩) n cs.size)) ((w.alloc (.cells cs 5)).drewN 2):=by
  rw[run_callFunc_extern Try.func163 (by kernel_rfl) (by kernel_rfl) (by kernel_rfl) (e:=Extern.BytealgMakeNoZero.makeNoZero #[3] #[22]) (by kernel_rfl),hrunM];rfl
 clear hrunM;have s1:(n:Int)<=(cs.size:Int):=by omega
 have s1:(0:Int)<=(n:Int):=by omega
 have s1:decide ((8192:Int)<(n:Int))=false:=by simp;omega
 go_enter Try.func148,Try.ntmps148;go_wp2_with fail;refine(mul1_calls n w (by omega)).mono ?_;rintro e w1 ⟨rfl,rfl⟩;have d1:decide ((9223372036854775807:Int)<(n:Int))=false:=by simp;omega
 have hb1:Below w.heap.size w ((w.alloc (.cells cs 5)).drewN 2):=Below.drewN' (bL _) 2;have hg1:((w.alloc (.cells cs 5)).drewN 2).heap[w.heap.size]?=some (.cells cs 5 (0,0)):=blk_top rfl;have hca:=(hb1.cell (p:=⟨a,o,none⟩) hlt).trans HC.out;obtain⟨R,hR⟩:∃R,R=cs.toList:=⟨_,rfl⟩;have hcs:cs=R.toArray:=by rw[hR,Array.toArray_toList]
 have hRl:n<=R.length:=by rw[hR];simpa using hle
 have hcp:(Builtin.copy_ #[22,22] 3 #[.slice (some ⟨w.heap.size,0,none⟩) n n,.slice (some ⟨a,o,none⟩) 1 c]).run Try.prog ((w.alloc (.cells cs 5)).drewN 2)=.ok (iv 1) (((w.alloc (.cells cs 5)).drewN 2).setRow w.heap.size (filledR x 1 R).toArray):=by
  have:=run_copy_row (P:=Try.prog) ((w.alloc (.cells cs 5)).drewN 2) 22 22 3 5 w.heap.size 0 n n ⟨a,o,none⟩ 1 c cs 5 [bv x] Try.underlying22 (by kernel_rfl) hg1 (by simp[Nat.min_def];omega)
   (fun j v hv=>by
     obtain⟨hj,rfl⟩:=List.getElem?_eq_some_iff.1 hv;have e1:j=0:=by simp at hj;omega
     subst e1;simpa[Addr.add]using hca) (by simp;omega) (by simp[Value.oneCell'])
  rw[this];have e:=filledR_more x (k:=0) (m:=1) (R:=R) (by omega);unfold Go.splice at e;rw[filledR_zero]at e;simp only[Nat.zero_add]at e⊢;rw[show (List.replicate 1 (bv x))=[bv x] from rfl]at e;rw[<-hR,List.append_assoc,e];rfl
 have hf1:Hid ((((w.alloc (.cells cs 5)).drewN 2).setRow w.heap.size (filledR x 1 R).toArray).heap[w.heap.size]?=some (.cells (filledR x 1 R).toArray 5 (0,0))):=qH (setRow_heap _ _ _ _ _ _ hg1);have HB1:Hid (Below w.heap.size w (((w.alloc (.cells cs 5)).drewN 2).setRow w.heap.size (filledR x 1 R).toArray)):=qH (below_row hb1 nl _);clear hg1 hb1 hca hR hcs;go_wp2_with fail;clear hcp hcall;generalize ((w.alloc (.cells cs 5)).drewN 2).setRow w.heap.size (filledR x 1 R).toArray=w2 at *
 generalize hgg:w.heap.size=g at *
 go_loopw [10] (fun y wr=>∃(k:Nat),y=iv (k:Int)∧1<=k∧k<=n∧Hid (wr.heap[g]?=some (.cells (filledR x k R).toArray 5 (0,0)))∧Hid (Below g w wr)) (fun y _=>n-(intOf y).toNat)
 case atStart=>exact⟨1,rfl,by omega,hn,hf1,HB1⟩
 case round=>
  rename World=>wo;obtain⟨k,rfl,hk1,hkn,HF,HB⟩:=hrel;by_cases hlt:k<n
  ·obtain⟨m,hm⟩:∃m,m=Nat.min k (n-k):=⟨_,rfl⟩;have hm1:1<=m∧k+m<=n:=by rw[hm];simp only[Nat.min_def];split<;>omega
   have HM:=qH hm;have HMK:Hid ((k:Int)<=(n:Int)):=qH (by omega);have HMK1:Hid (m<=k):=qH (by rw[hm];exact Nat.min_le_left _ _);have HMN:Hid (k+m<=R.length):=qH (by omega);have HK:Hid (k<=R.length):=qH (by omega);have HNK:Hid (¬n=k):=qH (by omega);have HKN:Hid ((k:Int)<=(n:Int)):=qH (by omega);have HI:Hid (IntKind.i64.wrap ((k:Int)+(m:Int))=(k:Int)+(m:Int)):=qH (IntWalk.i64_in _ (by omega));have dk:decide ((k:Int)<(n:Int))=true:=by simp;omega
   have dm:min (k:Int) (n:Int)=(k:Int):=by omega
   clear hm hf1 HB1;go_wp2_with fail;refine wp_region_free (by kernel_rfl) (some 67::some 68::some 69::some 70::some 71::some 72::some 73::some 74::some 75::some 10::[]) (false::false::false::false::false::false::false::true::false::false::[]) (iv ((k:Nat):Int)::.slice (some ⟨g,0,none⟩) n n::iv ((k:Nat):Int)::.slice (some ⟨g,(k:Nat),none⟩) (n-k) (n-k)::.slice (some ⟨g,0,none⟩) n n::iv ((k:Nat):Int)::.slice (some ⟨g,0,none⟩) k n::undef::iv ((k+m:Nat):Int)::iv ((k+m:Nat):Int)::[]) (rbJ wo g x k m R) 77 rfl rfl (by decide+kernel) (by decide+kernel) (by decide+kernel) rfl rfl (by rw[rbJ,if_neg (by simp)]) ?_ ?_
   ·refine⟨?_,?_,?_,?_,?_,?_,?_,?_,?_,?_,trivial⟩;all_goals intro done cv a wq hn hw hcl h hJ
    ·have e1:=fr_un (t:=10) (i:=0) (i0:=9) (v:=iv ((k:Nat):Int)) h hcl hn rfl (by decide) (by decide) rfl;exact mx_move (ch_ev e1)
    ·exact x6d0
    ·have e1:=fr_un (t:=10) (i:=2) (i0:=9) (v:=iv ((k:Nat):Int)) h hcl hn rfl (by decide) (by decide) rfl;exact mx_move (ch_ev e1)
    ·have e1:=fN 1 68 h hw;have e69:=fN 2 69 h hw;have hnk:=HNK.out;have hkn:=HKN.out;go_simp
    ·exact x6d0
    ·have e1:=fO 11 (iv ((k:Nat):Int)) h;exact mx_move (ch_ev e1)
    ·have e1:=fN 4 71 h hw;have e72:=fN 5 72 h hw;exact x2m3
    ·have e3:=fN 3 70 h hw;have e73:=fN 6 73 h hw;have hd:¬maskB [false,false,false,false,false,false,false,true,false,false] done 7=true:=by unfold maskB;rw[hn];simp
     rw[rbJ,if_neg hd]at hJ;obtain rfl:wq=wo.drew:=hJ;refine wp_copy rfl (.tmp 70) (.tmp 73) 22 22 rfl 5 Try.underlying22 (by kernel_rfl) _ _ _ _ _ _ (ch_ev e3) (ch_ev e73) g k (filledR x k R) 5 HF.out (List.replicate m (bv x)) (by rw[List.length_replicate];exact HM.out) (fun _=>⟨rfl,_,rfl,fun j v hv=>?_⟩) (by rw[filledR_len x HK.out,List.length_replicate];exact HMN.out) (fun v hv=>by rw[List.eq_of_mem_replicate hv];rfl) g wo ((Below.refl _ _).drew) nl ?_
     ·obtain⟨hj,rfl⟩:=List.getElem?_eq_some_iff.1 hv;rw[List.length_replicate]at hj;have e1:=filledR_at x (R:=R) (show j<k by have:=HMK1.out;omega);exact x0wu
     intro w' hg' hb';rw[filledR_more x HMN.out]at hg';exact⟨_,rfl,by rw[rbJ,if_pos (by simp)];exact⟨by simp[goInt],hg',hb'⟩⟩
    ·have e1:=fN 0 67 h hw;have e74:=fr_cv (i:=7) (t:=74) h (hw 7 (by decide)) rfl rfl;have hd:maskB [false,false,false,false,false,false,false,true,false,false] done 7=true:=by unfold maskB;rw[hw 7 (by decide)];rfl
     rw[rbJ,if_pos hd]at hJ;rw[hJ.1]at e74;have hi:=HI.out;go_simp
    ·have e1:=fN 8 75 h hw;exact mx_assign (ch_ev e1)
   intro d cv w1 hall hJ;rw[rbJ,if_pos (hall 7 rfl (by decide))]at hJ;exact x6lk
  obtain rfl:k=n:=by omega
  have dk:decide ((k:Int)<(k:Int))=false:=by simp
  go_wp2_with fail;go_ret;exact⟨some ⟨g,0,none⟩,k,by simp,by simp,bts_filledR HF.out,hgg▸HB.out⟩
end Go.Proofs.Ytefkfglkpebbmac
