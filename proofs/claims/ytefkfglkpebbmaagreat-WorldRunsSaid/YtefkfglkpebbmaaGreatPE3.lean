/- Walks of functions, and plain words. No conditions. -/
import Derived.Test.YtefkfglkpebbmaaGreatPE2
import Derived.StillTailTactics
import Derived.Laws.IdiomStrings
import Derived.Laws.BytesArg
import Derived.Deep.DeepCutAuto
set_option linter.unusedVariables false
set_option linter.unusedSimpArgs false
set_option maxRecDepth 100000
set_option maxHeartbeats 40000000
namespace Go.Proofs.YtefkfglkpebbmaaGreat
open Go.RowKit
variable {Y:Prop}
variable {w:World} {l:LU} {x y:Stp}
section
variable (A:OA) (c:Nat) (l:LU) (w:World)
theorem refSumOn_calls(s:Int)(hs:0<=s)(hs':s<=65520)(hl:l.length<=140737488355328)(hr:Bts w A l):
  Calls Tryz.prog 106 #[iv s,.slice A l.length c] w (Ret w (iv (sumOn s l))):=by
 go_enter Tryz.func106,Tryz.ntmps106
 go_wp2
 go_loop [5,6,7] (fun p n i=>∃k:Nat,k<=l.length∧i=.int .i64 ((k:Int)-1)∧p=.int .i64 (pw (l.length-k))∧n=.int .i64 (sumOn 0 (l.drop k))) (fun _ _ i=>(intOf i+1).toNat)
 case atStart=>exact⟨l.length,Nat.le_refl _,rfl,by simp[pw],by simp[sumOn]⟩
 case round=>
  obtain⟨k,hk,rfl,rfl,rfl⟩:=hrel;have hb:=sumOn_bd 0 (l.drop k) (by omega);have hp:=pw_bd (l.length-k);by_cases hlt:0<k
  ·obtain⟨j,rfl⟩:∃j,k=j+1:=⟨k-1,by omega⟩;obtain⟨b,o,rfl,hbs,hc⟩:=hr j (by omega);have hx:=l[j].toNat_lt;have hj:((j:Int)+1-1).toNat=j:=by omega
   have HS:Hid (sumOn 0 (l.drop j)=(sumOn 0 (l.drop (j+1))+(l[j].toNat:Int)*pw (l.length-(j+1)))%65521):=sumOn_drop l j (by omega);have HP:Hid (pw (l.length-j)=pw (l.length-(j+1))*31%65521):=by
    have:=pw_succ (l.length-(j+1));rwa [show l.length-(j+1)+1=l.length-j by omega]at this
   have hm:0<=(l[j].toNat:Int)*pw (l.length-(j+1)):=Int.mul_nonneg (by omega) hp.1;have hm1:(l[j].toNat:Int)*pw (l.length-(j+1))<=256*65520:=Int.mul_le_mul (by omega) hp.2 hp.1 (by omega)
   go_wp2
   go_round
   case rel=>exact⟨j,by omega,rfl,by rw[HP.out],by rw[HS.out]⟩
   case measure=>simp[intOf]
  obtain rfl:k=0:=by omega
  have HF:=qH (sumOn_ref s l (by omega));have hm:0<=s*pw l.length:=Int.mul_nonneg hs (pw_bd _).1;have hm1:s*pw l.length<=65520*65520:=Int.mul_le_mul hs' (pw_bd _).2 (pw_bd _).1 (by omega);simp only[Nat.sub_zero,List.drop_zero]at hb hp⊢
  go_wp2
  go_ret;exact⟨ret_int (by rw[HF.out]),rfl⟩
theorem refSumOf_calls(hl:l.length<=140737488355328)(hr:Bts w A l):
  Calls Tryz.prog 62 #[.slice A l.length c] w (Ret w (iv (sumOn 1 l))):=by
 go_enter Tryz.func62,Tryz.ntmps62;go_wp2_with (go_at_call 106;refine(refSumOn_calls A c l _ 1 (by omega) (by omega) hl hr).mono ?_;rintro e w' ⟨rfl,rfl⟩);go_ret;exact⟨rfl,rfl⟩
end
def ByRet2(w:World)(l:LU)(n:Int):Ending->World->Prop:=fun en w'=>
 ∃A c,en=.returned (.tuple #[.slice A l.length c,iv n])∧Bts w' A l∧l.length<=c∧Below w.heap.size w w'
theorem Bts.drop{b o:Nat}(h:Bts w (some ⟨b,o,none⟩) l)(k:Nat):Bts w (some ⟨b,o+k,none⟩) (l.drop k):=by
 intro i hi;simp only[List.length_drop]at hi;obtain⟨b',o',hA,hlt,hc⟩:=h (k+i) (by omega);injection hA with hA;injection hA with e1 e2;subst e1 e2;refine⟨b,o+k,rfl,hlt,?_⟩;rw[Nat.add_assoc,hc];simp
theorem Bts.take{A:OA}(h:Bts w A l)(k:Nat):Bts w A (l.take k):=by
 intro i hi;simp only[List.length_take]at hi;obtain⟨b,o,hA,hlt,hc⟩:=h i (by omega);exact⟨b,o,hA,hlt,by rw[hc];simp⟩
theorem mid_bts{A:OA}(c:Nat){old:LU}{a n:Nat}(h:Bts w A old)(hc:old.length<=c)(hn:a+n<=old.length):Bts w (if c=a then A else Option.map (fun x=>x.add a) A) ((old.drop a).take n):=by
 by_cases e:n=0
 ·subst e;rw[List.take_zero];exact Bts.nil _ _
 obtain⟨b,o,rfl,hlt,_⟩:=h 0 (by omega);rw[if_neg (by omega)];have e1:Option.map (fun x:Addr=>x.add a) (some ⟨b,o,none⟩)=some ⟨b,o+a,none⟩:=by simp[Addr.add]
 rw[e1];exact(h.drop a).take n
theorem deltaApply_bad(A:OA)(c:Nat)(old:LU)(B:OA)(d:Nat)(l:List Stp)(size:Int)(w:World)(ho:old.length<=140737488351232)(hl:l.length<=3518437208780)(hr:Sps w B l)(h:deltaCheck l old.length size≠0):
  Calls Tryz.prog 119 #[.slice A old.length c,.slice B l.length d,iv size] w (RetB w (.tuple #[.slice none 0 0,iv (deltaCheck l old.length size)])):=by
 have hb:(deltaCheck l old.length size !=0)=true:=by simp[h]
 clear h;go_enter Tryz.func119,Tryz.ntmps119;go_wp2_with fail;refine(deltaCheck_calls B d l old.length size w hl hr).mono ?_;rintro e w1 ⟨rfl,hb1⟩;go_wp2_with fail;go_ret2;exact⟨rfl,hb1⟩
theorem deltaApply_ok(A:OA)(c:Nat)(old:LU)(B:OA)(d:Nat)(l:List Stp)(size:Int)(w:World)(hc:old.length<=c)(hA:Bts w A old)(hl:l.length<=3518437208780)(hr:Sps w B l)(h:deltaCheck l old.length size=0):
  Calls Tryz.prog 119 #[.slice A old.length c,.slice B l.length d,iv size] w (ByRet2 w (applied old l) 0):=by
 have hd:=deltaCheck_ok.1 h;have hc3:∀w,Calls Tryz.prog 135 #[.slice B l.length d,iv (old.length:Int),iv size] w (RetB w (iv (deltaCheck l old.length size)))->Calls Tryz.prog 135 #[.slice B l.length d,iv (old.length:Int),iv size] w (RetB w (iv 0)):=by
  intro w hw;rw[h]at hw;exact hw
 have hcc:=hc3 w (deltaCheck_calls B d l old.length size w hl hr);have HC:=qH hcc;have HD:=qH hd;have ho1:=hd.o1;have hm:=hd.many;clear hc3 hcc h hd;go_enter Tryz.func119,Tryz.ntmps119;go_wp2_with fail;refine HC.out.mono ?_;rintro e w1 ⟨rfl,hb1⟩;have HB1:=qH hb1;clear hb1;go_wp2_with fail;go_loopw [9,22] (fun v i wr=>∃(k:Nat) (C:OA) (cc:Nat),k<=l.length∧i=.int .i64 k∧v=.slice C (applied old (l.take k)).length cc∧(applied old (l.take k)).length<=cc∧Bts wr C (applied old (l.take k))∧Hid (Below w.heap.size w wr)) (fun _ i _=>l.length-(intOf i).toNat)
 case atStart=>exact⟨0,none,0,Nat.zero_le _,rfl,rfl,Nat.le_refl _,Bts.nil _ _,HB1⟩
 case round=>
  obtain⟨k,C,cc,hk,rfl,rfl,hcl,hC,HB⟩:=hrel;by_cases hlt:k<l.length
  ·obtain⟨b,o,D,dd,rfl,hs,hc3,hc1,hc2,hd1,hd2,hD,hi2,hi1⟩:=(hr.stays HB.out).at_ hlt;have hsz:=HB.out.size;have hx:l.take (k+1)=l.take k++[l[k]]:=List.take_succ_eq_append_getElem hlt;obtain⟨hform,hin⟩:=HD.out.each _ (List.getElem_mem hlt);have hlen:(applied old (l.take (k+1))).length<=64:=by
    have h1:=applied_len (old:=old) (l:=l.take (k+1)) (fun o ho=>(HD.out.each o (List.mem_of_mem_take ho)).2);have h1:=HD.out.take (k+1);have:=h1.2.2.2;have:=HD.out.s1;omega
   have happ:applied old (l.take (k+1))=applied old (l.take k)++l[k].piece old:=by rw[hx,applied_append,applied_one]
   have HX:=qH happ;rw[happ]at hlen;clear happ hx hform;generalize hx:l[k]=x at *
   clear hx;obtain⟨at_,len,data⟩:=x;unfold Stp.in_ at hin;dsimp only at *
   obtain⟨j1,j2,j3⟩:=hin;obtain⟨n,rfl⟩:=Int.eq_ofNat_of_zero_le j1;obtain⟨a,rfl⟩:=Int.eq_ofNat_of_zero_le j2;have j3:a+n<=old.length:=by omega
   clear j1 j2 hi2 hi1;generalize hp:applied old (l.take k)=pre at *
   clear hp;have hpl:pre.length<=64:=by rw[List.length_append]at hlen;omega
   have hdl:data.length<=64:=by rw[List.length_append]at hlen;simp only[Stp.piece,List.length_append]at hlen;omega
   clear hlen;have w1':IntKind.i64.wrap ((a:Int)+(n:Int))=(a:Int)+(n:Int):=IntWalk.i64_in _ (by omega);have w1:((a:Int)+(n:Int)).toNat=a+n:=by omega
   have w2:(0:Int)<=(a:Int):=by omega
   have w3:(a:Int)<=(a:Int)+(n:Int):=by omega
   have w3:(a:Int)+(n:Int)<=(c:Int):=by omega
   have w3:a+n-a=n:=by omega
   have hMM:∀w',Below wr.heap.size wr w'->Bts w' (if c=a then A else Option.map (fun x=>x.add a) A) ((old.drop a).take n):=fun w' hb=>(mid_bts c (hA.stays HB.out) hc j3).stays hb;have hml:((old.drop a).take n).length=n:=by simp;omega
   have HM:=qH hMM;have HML:=qH hml;have hDs:∀w',Below wr.heap.size wr w'->Bts w' D data:=fun w' hb=>hD.stays hb;have hCs:∀w',Below wr.heap.size wr w'->Bts w' C pre:=fun w' hb=>hC.stays hb;have HDs:=qH hDs;have HCs:=qH hCs;clear hMM hml hDs hCs hD hC;go_wp2_with fail;refine wp_region_still_tail 12 (by kernel_rfl) (by kernel_rfl) ?_
   change wpStill _ _ ((wr.alloc _).drew) _ _ _
   simp only[List.take_succ_cons,List.take_zero,List.drop_succ_cons,List.drop_zero];repeat still_step
   refine wpStill_nil ?_;generalize (if c=a then A else Option.map (fun x=>x.add a) A)=M at *
   have hb1:Below wr.heap.size wr ((wr.alloc (.cells #[.int .i64 a,.int .i64 n,.slice D data.length dd] 143)).drew):=((Below.refl _ _).alloc (Nat.le_refl _) _).drew
   change wpList _ _ _ _ _ ((wr.alloc (.cells #[.int .i64 a,.int .i64 n,.slice D data.length dd] 143)).drew)
   have HB1:=qH hb1;have hs1:wr.heap.size<((wr.alloc (.cells #[.int .i64 a,.int .i64 n,.slice D data.length dd] 143)).drew).heap.size:=by simp
   clear hb1;generalize (wr.alloc (.cells #[.int .i64 a,.int .i64 n,.slice D data.length dd] 143)).drew=w1 at *
   have HT:Hid (applied old (l.take (k+1))=pre++(old.drop a).take n++data):=by
    refine qH ?_;rw[HX.out];simp[Stp.piece]
   clear HX;go_wp2_with fail;have hcat:=concat3_calls (w:=w1.alloc (.cells #[.slice C pre.length cc,.slice M n (c-a),.slice D data.length dd] 23)) (g:=w1.heap.size) (A:=C) (B:=M) (C:=D) (a:=pre) (b:=(old.drop a).take n) (l:=data) (c:=cc) (d:=c-a) (k:=dd) (t:=23) (fr:=(0,0))
    (by rw[HML.out];exact blk_top rfl) (by rw[HML.out];omega) (HCs.out _ (HB1.out.alloc HB1.out.size _)) (HM.out _ (HB1.out.alloc HB1.out.size _)) (HDs.out _ (HB1.out.alloc HB1.out.size _))
   refine hcat.mono ?_;rintro e w1 ⟨C',c',rfl,hown,hb1⟩;have HO:=qH hown;have HB1:Hid (Below w.heap.size w w1):=qH ((HB.out.trans (HB1.out.mono hsz)).trans ((((Below.refl _ _).alloc (Nat.le_refl _) _).mono (by omega)).trans (hb1.mono (by simp;omega))));clear hcat hown hb1;go_wp2_with fail;go_roundw
   case rel=>
    refine⟨k+1,C',c',by omega,by go_num,by rw[HT.out];simp,?_,?_,HB1⟩
    ·rw[HT.out];exact HO.out.le
    rw[HT.out];exact HO.out.src.bts
   case measure=>simp[intOf];omega
  obtain rfl:k=l.length:=by omega
  rw[List.take_length]at hcl hC;go_wp2_with fail;exact bodyPost_ret (results_tmp2 rfl _ _ _) rfl ⟨C,cc,by simp,hC,hcl,HB.out⟩
def axOf(old:LU)(l:List Stp)(size:Int):List UInt8×Int:=if deltaCheck l old.length size≠0 then ([],deltaCheck l old.length size)else (applied old l,0)
theorem byRet2_nil{n:Int}{e:Ending}{w':World}(h:RetB w (.tuple #[.slice none 0 0,iv n]) e w'):ByRet2 w [] n e w':=
 ⟨none,0,h.1,Bts.nil _ _,Nat.le_refl _,h.2⟩
theorem applyAny_calls(A:OA)(c:Nat)(old:LU)(B:OA)(d:Nat)(l:List Stp)(size:Int)(w:World)(hc:old.length<=c)(ho:old.length<=140737488351232)(hA:Bts w A old)(hl:l.length<=3518437208780)(hr:Sps w B l):
  Calls Tryz.prog 119 #[.slice A old.length c,.slice B l.length d,iv size] w (ByRet2 w (axOf old l size).1 (axOf old l size).2):=by
 unfold axOf;by_cases h:deltaCheck l old.length size=0
 ·rw[if_neg (by simpa using h)];exact deltaApply_ok A c old B d l size w hc hA hl hr h
 rw[if_pos h];exact(deltaApply_bad A c old B d l size w ho hl hr h).mono fun _ _=>byRet2_nil
theorem growChunks_calls(n:Nat)(w:World)(hn:n<=2513169434843):
  Calls Tryz.prog 68 #[.slice none 0 0,iv n] w (SlRet w 61 5 0 []):=by
 rcases Nat.eq_zero_or_pos n with rfl|hp
 ·go_enter Tryz.func68,Tryz.ntmps68;exact x4d9
 obtain⟨i,hi,hz,hs,hb⟩:=info_parts (P:=Tryz.prog) (e:=61) (z:=.agg #[.int .i64 0,.int .i64 0,.int .i64 0,.int .i64 0,.slice none 0 0]) (size:=5) (bytes:=56) (by kernel_rfl);have hr:=fun ty=>Lib.run_append_grow_zeros (P:=Tryz.prog) w 33 3 ty 61 i (.agg #[.int .i64 0,.int .i64 0,.int .i64 0,.int .i64 0,.slice none 0 0]) .i64 .i64 Tryz.underlying33 Tryz.underlying3 hi hz none 0 0 [] (run_firstCells_none _ _ _ _ _) n hp (by omega) (by omega) (by omega) (by rw[hb];omega)
  (growslice_fits (by omega) (by rw[hb];omega))
 have hG:=grownCap_ge w (0+n) 0 61;have hG1:=grownCap_le_maxLen w (0+n) 0 61 (by unfold maxLen;omega);have h1:(0:Int)<(n:Int):=by omega
 obtain⟨cap,hcd⟩:∃cap,cap=grownCap w (0+n) 0 61:=⟨_,rfl⟩;rw[<-hcd]at hr hG hG1;clear hcd;have hO:Own (w.drew.alloc (.cells (([]:List Value).toArray++Builtin.zeroCells (Value.cells (.agg #[.int .i64 0,.int .i64 0,.int .i64 0,.int .i64 0,.slice none 0 0])) n++Builtin.zeroCells (Value.cells (.agg #[.int .i64 0,.int .i64 0,.int .i64 0,.int .i64 0,.slice none 0 0])) (cap-(0+n))) 61)) w.heap.size 61 5 (some ⟨w.heap.size,0,none⟩) 0 cap []:=
  ⟨by simp,Or.inr ⟨_,_,_,rfl,Nat.le_refl _,blk_top rfl,by omega,hG1,by simp[Builtin.zeroCells,Value.cells];omega,by simp⟩⟩
 have hB:=((Below.refl w.heap.size w).drew).alloc (Nat.le_refl _) (.cells (([]:List Value).toArray++Builtin.zeroCells (Value.cells (.agg #[.int .i64 0,.int .i64 0,.int .i64 0,.int .i64 0,.slice none 0 0])) n++Builtin.zeroCells (Value.cells (.agg #[.int .i64 0,.int .i64 0,.int .i64 0,.int .i64 0,.slice none 0 0])) (cap-(0+n))) 61);generalize (Obj.cells (([]:List Value).toArray++Builtin.zeroCells (Value.cells (.agg #[.int .i64 0,.int .i64 0,.int .i64 0,.int .i64 0,.slice none 0 0])) n++Builtin.zeroCells (Value.cells (.agg #[.int .i64 0,.int .i64 0,.int .i64 0,.int .i64 0,.slice none 0 0])) (cap-(0+n))) 61)=ob at *
 have hcap:cap<=9223372036854775807:=by simp only[maxLen]at hG1;omega
 clear hi hz hs hb hG1;go_enter Tryz.func68,Tryz.ntmps68;exact x18t
theorem concatChunks_calls(ss:List SrcOf)(ad:OA)(c:Nat)(w:World)(hk:ss.length<=16)(hn:sumN ss<=2513169434843)(hr:Src w ad (ss.map SrcOf.val))(hs:∀s∈ss,s.ok w 5):
  Calls Tryz.prog 32 #[.slice ad ss.length c] w (SlRet w 61 5 (sumN ss) (ss.flatMap SrcOf.cells)):=by
 go_enter Tryz.func32,Tryz.ntmps32;go_wp2_with fail
 go_loop [3,5,11] (fun z s i=>∃k:Nat,k<=ss.length∧i=.int .i64 k∧z=.int .i64 (sumN (ss.take k))) (fun _ _ i=>ss.length-(intOf i).toNat)
 case atStart=>exact⟨0,Nat.zero_le _,rfl,rfl⟩
 case round=>
  obtain⟨k,hkl,rfl,rfl⟩:=hrel;by_cases hlt:k<ss.length
  ·obtain⟨b,o,rfl,hbs,hc⟩:=hr k (by simpa using hlt);have hsn:=sumN_take ss k hlt;have hle:=sumN_le ss (k+1);have HS:=qH hsn;have hb1:(sumN (ss.take k):Int)+(ss[k].n:Int)<=2513169434843:=by omega
   exact x8vt
  obtain rfl:k=ss.length:=by omega
  rw[List.take_length];go_wp2_with fail;refine(growChunks_calls (sumN ss) w (by omega)).mono ?_;rintro e w1 ⟨A2,c2,rfl,hO,hB⟩;have HR:=qH hr;have HQ:=qH hs;clear hr hs;go_wp2_with fail;go_loopw [6,8,27] (fun z s i wr=>∃(k:Nat) (A1:OA) (c1:Nat),k<=ss.length∧i=.int .i64 k∧z=.slice A1 (sumN (ss.take k)) c1∧Own wr w.heap.size 61 5 A1 (sumN (ss.take k)) c1 ((ss.take k).flatMap SrcOf.cells)∧Below w.heap.size w wr) (fun _ _ i _=>ss.length-(intOf i).toNat)
  case atStart=>exact⟨0,A2,c2,Nat.zero_le _,rfl,rfl,hO,hB⟩
  case round=>
   obtain⟨k,A1,c1,hkl,rfl,rfl,hO1,hB1⟩:=hrel;have hr1:=HR.out.stays hB1;have hs1:∀s∈ss,s.ok wr 5:=fun s h=>(HQ.out s h).stays hB1;by_cases hlt:k<ss.length
   ·obtain⟨b,o,rfl,hbs,hc⟩:=hr1 k (by simpa using hlt);have hsn:=sumN_take ss k hlt;have hle:=sumN_le ss (k+1);have hfl:(ss.take (k+1)).flatMap SrcOf.cells=(ss.take k).flatMap SrcOf.cells++ss[k].cells:=by
     rw[List.take_succ_eq_append_getElem hlt,List.flatMap_append];simp
    have HS:=qH hsn;have HF:=qH hfl;obtain⟨q1,q2,q3⟩:=hs1 ss[k] (List.getElem_mem hlt);have Q1:=qH q1;have hb1:sumN (ss.take k)+ss[k].n<=2513169434916:=by omega
    have hb2:w.heap.size<=wr.heap.size:=hB1.size;have hc':wr.cell? ⟨b,o+k,none⟩=some (.slice ss[k].A ss[k].n ss[k].c):=by simpa[SrcOf.val]using hc
    clear hsn hle hc hfl q1 hr1 hs1;go_wp2_with (at_builtin;refine wpList_app _ rfl _ _ 33 rfl elChunksB w.heap.size A1 (sumN (ss.take k)) c1 _ rfl hO1 ss[k].A ss[k].n ss[k].c ss[k].cells rfl q2 Q1.out q3 hb1 hb2 ?_;intro A' c' w2 hown hg hb hx);have hfin:Own w2 w.heap.size 61 5 A' (sumN (ss.take (k+1))) c' ((ss.take (k+1)).flatMap SrcOf.cells):=by rw[HS.out,HF.out];exact hown
    exact x440
   exact x6ce
theorem equalBytes_calls(A B:OA)(c d:Nat)(l m:LU)(w:World)(hl:l.length<=140737488351232)(hm:m.length<=140737488351232)(ha:Bts w A l)(hb:Bts w B m):
  Calls Tryz.prog 83 #[.slice A l.length c,.slice B m.length d] w (RetN w (.bool (decide (l=m)))):=by
 by_cases hne:l.length=m.length
 ·have hdl:((l.length:Int) !=(m.length:Int))=false:=by simp[hne]
  have HE:=qH hne;have hm1:l.length<=m.length:=by omega
  have hm1:m.length<=l.length:=by omega
  clear hne;go_enter Tryz.func83,Tryz.ntmps83
  go_wp2
  go_loopw [5,13] (fun u i wr=>∃k n:Nat,k<=l.length∧i=.int .i64 k∧l.take k=m.take k∧w.drewN n=wr) (fun _ i _=>l.length-(intOf i).toNat)
  case atStart=>exact⟨0,0,Nat.zero_le _,rfl,rfl,rfl⟩
  case round=>
   obtain⟨k,n,hk,rfl,ht,rfl⟩:=hrel;have HT:=qH ht;clear ht;by_cases hlt:k<l.length
   ·obtain⟨b1,o1,rfl,hs1,hc1⟩:=ha k hlt;obtain⟨b1,o1,rfl,hs1,hc1⟩:=hb k (by omega);by_cases he:l[k]=m[k]'(by omega)
    ·have hd:((l[k].toNat:Int) !=((m[k]'(by omega)).toNat:Int))=false:=by simp[he]
     exact x14e
    have hd:((l[k].toNat:Int) !=((m[k]'(by omega)).toNat:Int))=true:=by simp;exact fun e=>he (UInt8.toNat_inj.1 (by omega))
    exact x9vk
   go_wp2_with fail;go_ret;refine⟨ret_bool ?_,_,rfl⟩;exact x9ap
 have hdl:((l.length:Int) !=(m.length:Int))=true:=by simp;omega
 have HX:=qH hne;clear hne;go_enter Tryz.func83,Tryz.ntmps83;exact x1gd
theorem x0f0(h:Y:=by
 rw[<-HR.out];by_cases e:l=m
 ·subst e;simp
 rw[decide_eq_false e,decide_eq_false (fun h=>e (by injection h))]):Y:=h
theorem x483(h:Y:=by
 go_wp2_with fail;refine HC.out.mono ?_;rintro e w1 ⟨rfl,hb1⟩;have HB1:=qH (HB.out.trans (hb1.mono HB.out.size));clear hb1;go_wp2_with fail;go_ret;exact⟨ret_bool HZ.out,HB1.out⟩):Y:=h
theorem x6n5(h:Y:=by
 go_enter Tryz.func134,Tryz.ntmps134;go_wp2_with fail;go_ret;exact⟨ret_bool HE.out.symm,((Below.refl _ _).alloc (Nat.le_refl _) _).alloc (by simp) _⟩):Y:=h
theorem stp_ne_at(h:x.at_≠y.at_):x≠y:=by rintro rfl;exact h rfl
theorem stp_ne_len(h:x.len≠y.len):x≠y:=by rintro rfl;exact h rfl
theorem stp_eq(h1:x.at_=y.at_)(h2:x.len=y.len):decide (x.data=y.data)=decide (x=y):=by
 obtain⟨a,l,d⟩:=x;obtain⟨b,m,e⟩:=y;simp only at h1 h2;subst h1 h2;simp
theorem same1_calls(x y:Stp)(B D:OA)(c d:Nat)(w:World)(hx:x.data.length<=140737488351232)(hy:y.data.length<=140737488351232)(hB:Bts w B x.data)(hD:Bts w D y.data):
  Calls Tryz.prog 134 #[.agg #[iv x.at_,iv x.len,.slice B x.data.length c],.agg #[iv y.at_,iv y.len,.slice D y.data.length d]] w (RetB w (.bool (decide (x=y)))):=by
 by_cases h1:x.at_=y.at_
 ·by_cases h2:x.len=y.len
  ·have q1:(x.at_==y.at_)=true:=by simp[h1]
   have q1:(x.len==y.len)=true:=by simp[h2]
   have HE:=qH (stp_eq h1 h2);have bl:=((Below.refl w.heap.size w).alloc (Nat.le_refl _) (.cells #[iv x.at_,iv x.len,.slice B x.data.length c] 143)).alloc (by simp) (.cells #[iv y.at_,iv y.len,.slice D y.data.length d] 143);have HC:=qH (equalBytes_calls B D c d x.data y.data _ hx hy (hB.stays bl) (hD.stays bl));have HB:=qH bl;clear h1 h2 hB hD bl;go_enter Tryz.func134,Tryz.ntmps134;go_wp2_with fail;refine HC.out.mono ?_;rintro e w1 ⟨rfl,n,rfl⟩;go_wp2_with fail;go_ret;exact⟨ret_bool HE.out,Below.drewN' HB.out n⟩
  ·have q1:(x.at_==y.at_)=true:=by simp[h1]
   have q1:(x.len==y.len)=false:=by simp[h2]
   have HE:=qH (decide_eq_false (stp_ne_len h2));clear h1 h2;exact x6n5
 have q1:(x.at_==y.at_)=false:=by simp[h1]
 have HE:=qH (decide_eq_false (stp_ne_at h1));clear h1;exact x6n5
theorem eqfOps_calls(A B:OA)(c d:Nat)(l m:List Stp)(w:World)(hl:l.length<=3518437208780)(hm:m.length<=3518437208780)(ha:Sps w A l)(hb:Sps w B m):
  Calls Tryz.prog 133 #[.slice A l.length c,.slice B m.length d,.func (Fn.func 134) #[] #[]] w (RetB w (.bool (decide (l=m)))):=by
 by_cases hne:l.length=m.length
 ·have hdl:((l.length:Int) !=(m.length:Int))=false:=by simp[hne]
  have HE:=qH hne;have hm1:l.length<=m.length:=by omega
  have hm1:m.length<=l.length:=by omega
  clear hne;go_enter Tryz.func133,Tryz.ntmps133;go_wp2_with fail;go_loopw [17] (fun i wr=>∃k:Nat,k<=l.length∧i=.int .i64 k∧Hid (l.take k=m.take k)∧Hid (Below w.heap.size w wr)) (fun i _=>l.length-(intOf i).toNat)
  case atStart=>exact⟨0,Nat.zero_le _,rfl,qH rfl,qH (Below.refl _ _)⟩
  case round=>
   obtain⟨k,hk,rfl,HT,HB⟩:=hrel;by_cases hlt:k<l.length
   ·obtain⟨b1,o1,B1,c1,rfl,hs1,p6,p1,p2,p3,p4,p5,-,-⟩:=(ha.stays HB.out).at_ hlt;obtain⟨b1,o1,B2,c2,rfl,hs1,r6,r1,r2,r3,r4,r5,-,-⟩:=(hb.stays HB.out).at_ (i:=k) (by omega);have hsz:=HB.out.size;have HX:Hid (∀e:l[k]=m[k]'(by omega),l.take (k+1)=m.take (k+1)):=qH fun e=>take_eq_succ HT.out hlt (by omega) e;have HN:Hid (∀e:l[k]≠m[k]'(by omega),l≠m):=qH fun e=>ne_of_at hlt (by omega) e;generalize l[k]=x at *
    generalize m[k]'(by omega)=y at *
    have hsb:=fun w2 (h:Below wr.heap.size wr w2)=>same1_calls x y B1 B2 c1 c2 w2 p4 r4 (p5.stays h) (r5.stays h);have HC:=qH hsb;clear hsb p5 r5;go_wp2_with fail;have bl:=((Below.refl wr.heap.size wr).alloc (Nat.le_refl _) (.cells #[iv x.at_,iv x.len,.slice B1 x.data.length c1] 143)).alloc (by simp) (.cells #[iv y.at_,iv y.len,.slice B2 y.data.length c2] 143);refine(HC.out _ bl).mono ?_;rintro e w1 ⟨rfl,hb1⟩;have HB1:Hid (Below w.heap.size w w1):=qH ((HB.out.trans (bl.mono hsz)).trans (hb1.mono (by simp;omega)));clear bl hb1;exact x6ww
   go_wp2_with fail;go_ret;refine⟨ret_bool ?_,HB.out⟩;exact x9ap
 have hdl:((l.length:Int) !=(m.length:Int))=true:=by simp;omega
 have HX:=qH hne;clear hne;go_enter Tryz.func133,Tryz.ntmps133;exact x6vb
theorem equalOps_calls(A B:OA)(c d:Nat)(l m:List Stp)(w:World)(hl:l.length<=3518437208780)(hm:m.length<=3518437208780)(ha:Sps w A l)(hb:Sps w B m):
  Calls Tryz.prog 116 #[.slice A l.length c,.slice B m.length d] w (RetB w (.bool (decide (l=m)))):=by
 go_enter Tryz.func116,Tryz.ntmps116;go_wp2_with fail;refine(eqfOps_calls A B c d l m w hl hm ha hb).mono ?_;exact x3rf
theorem patSameA_calls(A B:OA)(c d:Nat)(f t o n sz f2 t2 o2 n2 sz2:Int)(l m:List Stp)(w:World)(hl:l.length<=3518437208780)(hm:m.length<=3518437208780)(hs:Sps w A l)(hr:Sps w B m):
  Calls Tryz.prog 79 #[.agg #[iv f,iv t,iv o,iv n,iv sz,.slice A l.length c],.agg #[iv f2,iv t2,iv o2,iv n2,iv sz2,.slice B m.length d]] w (RetB w (.bool (decide ((⟨f,t,o,n,sz,l⟩:Pat)=⟨f2,t2,o2,n2,sz2,m⟩)))):=by
 have hb:Below w.heap.size w ((w.alloc (.cells #[iv f,iv t,iv o,iv n,iv sz,.slice A l.length c] 36)).alloc (.cells #[iv f2,iv t2,iv o2,iv n2,iv sz2,.slice B m.length d] 36)):=((Below.refl _ _).alloc (Nat.le_refl _) _).alloc (by simp) _;obtain⟨r,hR⟩:∃r,decide ((⟨f,t,o,n,sz,l⟩:Pat)=⟨f2,t2,o2,n2,sz2,m⟩)=r:=⟨_,rfl⟩;rw[hR];have HR:=qH hR;clear hR;have HB:=qH hb;have HC:=qH (equalOps_calls A B c d l m _ hl hm (hs.stays hb) (hr.stays hb));clear hb hs hr;by_cases h5:¬f=f2
 ·have hz:false=r:=(decide_eq_false (fun e=>by injection e;contradiction)).symm.trans HR.out;have HZ:=qH hz;have q:(f==f2)=false:=by simp[h5]
  clear HC hz h5;go_enter Tryz.func79,Tryz.ntmps79;exact x4jq
 have h5:=Decidable.not_not.1 h5;subst h5;have q5:(f==f)=true:=by simp
 by_cases h1:¬t=t2
 ·have hz:false=r:=(decide_eq_false (fun e=>by injection e;contradiction)).symm.trans HR.out;have HZ:=qH hz;have q:(t==t2)=false:=by simp[h1]
  clear HC hz h1;go_enter Tryz.func79,Tryz.ntmps79;exact x4jq
 have h1:=Decidable.not_not.1 h1;subst h1;have q1:(t==t)=true:=by simp
 by_cases h1:¬o=o2
 ·have hz:false=r:=(decide_eq_false (fun e=>by injection e;contradiction)).symm.trans HR.out;have HZ:=qH hz;have q:(o==o2)=false:=by simp[h1]
  clear HC hz h1;go_enter Tryz.func79,Tryz.ntmps79;exact x4jq
 have h1:=Decidable.not_not.1 h1;subst h1;have q1:(o==o)=true:=by simp
 by_cases h1:¬n=n2
 ·have hz:false=r:=(decide_eq_false (fun e=>by injection e;contradiction)).symm.trans HR.out;have HZ:=qH hz;have q:(n==n2)=false:=by simp[h1]
  clear HC hz h1;go_enter Tryz.func79,Tryz.ntmps79;exact x4jq
 have h1:=Decidable.not_not.1 h1;subst h1;have q1:(n==n)=true:=by simp
 by_cases h1:¬sz=sz2
 ·have hz:false=r:=(decide_eq_false (fun e=>by injection e;contradiction)).symm.trans HR.out;have HZ:=qH hz;have q:(sz==sz2)=false:=by simp[h1]
  clear HC hz h1;go_enter Tryz.func79,Tryz.ntmps79;exact x4jq
 have h1:=Decidable.not_not.1 h1;subst h1;have q1:(sz==sz)=true:=by simp
 have hz:decide (l=m)=r:=by
  exact x0f0
 have HZ:=qH hz;clear hz;go_enter Tryz.func79,Tryz.ntmps79;exact x483
theorem conv_str(A:OA)(c:Nat)(l:LU)(w:World)(hc:l.length<=c)(h:Bts w A l):(convert 23 9 (.slice A l.length c)).run Tryz.prog w=.ok (.string ⟨l.toArray⟩) w:=by
 by_cases e:l=[]
 ·subst e
  cases A with
  |none=>exact run_convert_bytes_nil (P:=Tryz.prog) w 23 5 Tryz.underlying23 Tryz.underlying5 0 c 9 Tryz.underlying9
  |some a=>exact run_convert_bytes_back (P:=Tryz.prog) w 23 9 5 a c [] Tryz.underlying23 Tryz.underlying5 Tryz.underlying9 (fun j hj=>by simp at hj)
 obtain⟨b,o,rfl,-,-⟩:=h 0 (by rcases l with _|⟨x,l⟩;exact absurd rfl e;simp);refine run_convert_bytes_back (P:=Tryz.prog) w 23 9 5 ⟨b,o,none⟩ c l Tryz.underlying23 Tryz.underlying5 Tryz.underlying9 (fun j hj=>?_);obtain⟨b',o',e,-,hc⟩:=h j hj;injection e with e;injection e with e1 e2;subst e1 e2;rw[show (⟨b,o,none⟩:Addr).add j=⟨b,o+j,none⟩ by simp[Addr.add]];exact hc
theorem bytesEqual_calls(A B:OA)(c d:Nat)(l m:LU)(w:World)(hc:l.length<=c)(hd:m.length<=d)(ha:Bts w A l)(hb:Bts w B m):
  Calls Tryz.prog 24 #[.slice A l.length c,.slice B m.length d] w (Ret w (.bool (decide (l=m)))):=by
 have k1:=conv_str A c l w hc ha;have k1:=conv_str B d m w hd hb;go_enter Tryz.func24,Tryz.ntmps24;go_wp2_with fail;go_ret;exact⟨ret_bool (by by_cases e:l=m<;>simp[e]),rfl⟩
theorem refSame_calls(A B:OA)(c d:Nat)(l m:List Stp)(w:World)(hl:l.length<=3518437208780)(hm:m.length<=3518437208780)(ha:Sps w A l)(hb:Sps w B m):
  Calls Tryz.prog 101 #[.slice A l.length c,.slice B m.length d] w (RetB w (.bool (decide (l=m)))):=by
 by_cases hne:l.length=m.length
 ·have hdl:((l.length:Int) !=(m.length:Int))=false:=by simp[hne]
  have HE:=qH hne;have hm1:l.length<=m.length:=by omega
  have hm1:m.length<=l.length:=by omega
  clear hne;have HA:=qH ha;have HB2:=qH hb;clear ha hb;go_enter Tryz.func101,Tryz.ntmps101;go_wp2_with fail;go_loopw [14] (fun i wr=>∃k:Nat,k<=l.length∧i=.int .i64 k∧Hid (l.take k=m.take k)∧Hid (Below w.heap.size w wr)) (fun i _=>l.length-(intOf i).toNat)
  case atStart=>exact⟨0,Nat.zero_le _,rfl,qH rfl,qH (Below.refl _ _)⟩
  case round=>
   obtain⟨k,hk,rfl,HT,HB⟩:=hrel;by_cases hlt:k<l.length
   ·obtain⟨b1,o1,B1,c1,rfl,hs1,p6,p1,p2,p3,p4,p5,-,-⟩:=(HA.out.stays HB.out).at_ hlt;have hsz:=HB.out.size;have hbx:Below wr.heap.size wr (wr.alloc (.cells #[iv l[k].at_,iv l[k].len,.slice B1 l[k].data.length c1] 143)):=(Below.refl _ _).alloc (Nat.le_refl _) _;obtain⟨b1,o1,B2,c2,rfl,hs2,r6,r1,r2,r3,r4,r5,-,-⟩:=((HB2.out.stays HB.out).stays hbx).at_ (i:=k) (by omega);obtain⟨b2,o1,B3,c3,e1,hs3,-⟩:=(HB2.out.stays HB.out).at_ (i:=k) (by omega);injection e1 with e1;injection e1 with e4 e5;subst e4 e5;have HBX:=qH (HB.out.trans (hbx.mono hsz));have HX:Hid (l[k]=m[k]'(by omega)->l.take (k+1)=m.take (k+1)):=qH fun e=>take_eq_succ HT.out hlt (by omega) e;have HN:Hid (l[k]≠m[k]'(by omega)->l≠m):=qH fun e=>ne_of_at hlt (by omega) e;have p5x:=p5.stays hbx;generalize l[k]=x at *
    generalize m[k]'(by omega)=y at *
    obtain⟨xa,xl,xd⟩:=x;obtain⟨ya,yl,yd⟩:=y;dsimp only at *
    clear p5 hbx HA HB2;have hkm:k<m.length:=by omega
    have hsx:wr.heap.size<=(wr.alloc (.cells #[iv xa,iv xl,.slice B1 xd.length c1] 143)).heap.size:=by simp
    obtain⟨v1,hv1⟩:∃v,(xa !=ya)=v:=⟨_,rfl⟩;obtain⟨v2,hv2⟩:∃v,(xl !=yl)=v:=⟨_,rfl⟩;obtain⟨v3,hv3⟩:∃v,decide (xd=yd)=v:=⟨_,rfl⟩;have HV:Hid ((v1 || v2 || !v3)=decide ((⟨xa,xl,xd⟩:Stp)≠⟨ya,yl,yd⟩)):=qH (by
     rw[<-hv1,<-hv2,<-hv3];by_cases h1:xa=ya<;>by_cases h2:xl=yl<;>by_cases h3:xd=yd<;>simp[h1,h2,h3])
    go_upto_region 6 with fail
    have q3:(wr.alloc (.cells #[iv xa,iv xl,.slice B1 xd.length c1] 143)).cell? ⟨wr.heap.size,0,none⟩=some (iv xa):=by go_simp
    have q1:(wr.alloc (.cells #[iv xa,iv xl,.slice B1 xd.length c1] 143)).cell? ⟨wr.heap.size,1,none⟩=some (iv xl):=by go_simp
    have q2:(wr.alloc (.cells #[iv xa,iv xl,.slice B1 xd.length c1] 143)).cell? ⟨wr.heap.size,2,none⟩=some (.slice B1 xd.length c1):=by go_simp
    have hs3:wr.heap.size<(wr.alloc (.cells #[iv xa,iv xl,.slice B1 xd.length c1] 143)).heap.size:=by simp
    have hb1:b1<(wr.alloc (.cells #[iv xa,iv xl,.slice B1 xd.length c1] 143)).heap.size:=by simp;omega
    obtain⟨W1,hw1⟩:∃W1,(wr.alloc (.cells #[iv xa,iv xl,.slice B1 xd.length c1] 143))=W1:=⟨_,rfl⟩;rw[hw1]at HBX p5x r5 r6 r1 r2 q3 q1 q2 hs3 hb1⊢;clear hw1 hs2 hs1 p6 p1 p2;go_cut [47] (fun v wx=>v=.bool (v1 || v2 || !v3)∧Hid (Below W1.heap.size W1 wx))
    case first=>
     have HQ:=qH (fun n=>bytesEqual_calls B1 B2 c1 c2 xd yd (W1.drewN n) p3 r3 (p5x.drewN n) (r5.drewN n));rw[hv3]at HQ;have hk1:(k:Int)<(m.length:Int):=by omega
     clear hs3 hb1 HX HN HV p5x r5 hv3 p3 p4 r3 r4
     cases v1<;>cases v2<;>cases v3<;>(
      go_quiet ((go_at_call 24;exact Calls.quiet_of_same ((HQ.out _).mono fun _ _ h=>⟨h.1,h.2.symm⟩)))
      go_wp2_with fail;go_meet
      case rel=>exact⟨rfl,qH (below_drewN _ _)⟩)
    case rest=>
    obtain⟨rfl,hcb⟩:=hcut;have HB1:=qH (HBX.out.trans (hcb.out.mono HBX.out.size));clear q3 q1 q2 r6 r1 r2 HBX hcb hs3 hb1 hv1 hv2 hv3 p5x r5;by_cases hx:(⟨xa,xl,xd⟩:Stp)=⟨ya,yl,yd⟩
    ·have hv:(v1 || v2 || !v3)=false:=HV.out.trans (decide_eq_false (fun h=>h hx));have HX1:=qH (HX.out hx);rw[hv];clear hx HV HN HX;go_wp2_with fail;go_roundw
     case rel=>exact⟨k+1,by omega,by go_num,HX1,HB1⟩
     case measure=>simp[intOf];omega
    have hv:(v1 || v2 || !v3)=true:=HV.out.trans (decide_eq_true hx);have HN1:=qH (HN.out hx);rw[hv];clear hx HV HN HX;go_wp2_with fail;go_ret;exact⟨ret_bool (decide_eq_false HN1.out).symm,HB1.out⟩
   obtain rfl:k=l.length:=by omega
   have HL:Hid (l=m):=qH (by
    have:=HT.out;rwa [List.take_length,HE.out,List.take_length]at this)
   go_wp2_with fail;go_ret;exact⟨ret_bool (decide_eq_true HL.out).symm,HB.out⟩
 have hdl:((l.length:Int) !=(m.length:Int))=true:=by simp;omega
 have HE:Hid (l≠m):=qH fun e=>hne (by rw[e]);clear hne ha hb;go_enter Tryz.func101,Tryz.ntmps101;go_wp2_with fail;go_ret;exact⟨ret_bool (decide_eq_false HE.out).symm,Below.refl _ _⟩
theorem refPatSameA_calls(A B:OA)(c d:Nat)(f t o n sz f2 t2 o2 n2 sz2:Int)(l m:List Stp)(w:World)(hl:l.length<=3518437208780)(hm:m.length<=3518437208780)(hs:Sps w A l)(hr:Sps w B m):
  Calls Tryz.prog 51 #[.agg #[iv f,iv t,iv o,iv n,iv sz,.slice A l.length c],.agg #[iv f2,iv t2,iv o2,iv n2,iv sz2,.slice B m.length d]] w (RetB w (.bool (decide ((⟨f,t,o,n,sz,l⟩:Pat)=⟨f2,t2,o2,n2,sz2,m⟩)))):=by
 have hb:Below w.heap.size w ((w.alloc (.cells #[iv f,iv t,iv o,iv n,iv sz,.slice A l.length c] 36)).alloc (.cells #[iv f2,iv t2,iv o2,iv n2,iv sz2,.slice B m.length d] 36)):=((Below.refl _ _).alloc (Nat.le_refl _) _).alloc (by simp) _;obtain⟨r,hR⟩:∃r,decide ((⟨f,t,o,n,sz,l⟩:Pat)=⟨f2,t2,o2,n2,sz2,m⟩)=r:=⟨_,rfl⟩;rw[hR];have HR:=qH hR;clear hR;have HB:=qH hb;have HC:=qH (refSame_calls A B c d l m _ hl hm (hs.stays hb) (hr.stays hb));clear hb hs hr;by_cases h5:¬f=f2
 ·have hz:false=r:=(decide_eq_false (fun e=>by injection e;contradiction)).symm.trans HR.out;have HZ:=qH hz;have q:(f==f2)=false:=by simp[h5]
  clear HC hz h5;go_enter Tryz.func51,Tryz.ntmps51;exact x4jq
 have h5:=Decidable.not_not.1 h5;subst h5;have q5:(f==f)=true:=by simp
 by_cases h1:¬t=t2
 ·have hz:false=r:=(decide_eq_false (fun e=>by injection e;contradiction)).symm.trans HR.out;have HZ:=qH hz;have q:(t==t2)=false:=by simp[h1]
  clear HC hz h1;go_enter Tryz.func51,Tryz.ntmps51;exact x4jq
 have h1:=Decidable.not_not.1 h1;subst h1;have q1:(t==t)=true:=by simp
 by_cases h1:¬o=o2
 ·have hz:false=r:=(decide_eq_false (fun e=>by injection e;contradiction)).symm.trans HR.out;have HZ:=qH hz;have q:(o==o2)=false:=by simp[h1]
  clear HC hz h1;go_enter Tryz.func51,Tryz.ntmps51;exact x4jq
 have h1:=Decidable.not_not.1 h1;subst h1;have q1:(o==o)=true:=by simp
 by_cases h1:¬n=n2
 ·have hz:false=r:=(decide_eq_false (fun e=>by injection e;contradiction)).symm.trans HR.out;have HZ:=qH hz;have q:(n==n2)=false:=by simp[h1]
  clear HC hz h1;go_enter Tryz.func51,Tryz.ntmps51;exact x4jq
 have h1:=Decidable.not_not.1 h1;subst h1;have q1:(n==n)=true:=by simp
 by_cases h1:¬sz=sz2
 ·have hz:false=r:=(decide_eq_false (fun e=>by injection e;contradiction)).symm.trans HR.out;have HZ:=qH hz;have q:(sz==sz2)=false:=by simp[h1]
  clear HC hz h1;go_enter Tryz.func51,Tryz.ntmps51;exact x4jq
 have h1:=Decidable.not_not.1 h1;subst h1;have q1:(sz==sz)=true:=by simp
 have hz:decide (l=m)=r:=by
  exact x0f0
 have HZ:=qH hz;clear hz;go_enter Tryz.func51,Tryz.ntmps51;exact x483
section
variable (A B:OA) (c d:Nat) (old b:LU) (w:World)
theorem longest_calls(k:Nat)(hl:old.length<=64)(hm:b.length<=64)(hk:k<=b.length)(ha:Bts w A old)(hb:Bts w B b):
  Calls Tryz.prog 138 #[.slice A old.length c,.slice B b.length d,iv k] w (RetN w (.tuple #[iv (longest old b k).1,iv (longest old b k).2,iv 0])):=by
 have h1:¬(64:Int)<(old.length:Int):=by omega
 have h1:¬(64:Int)<(b.length:Int):=by omega
 have h1:¬(k:Int)<0:=by omega
 have h1:¬(b.length:Int)<(k:Int):=by omega
 go_enter Tryz.func138,Tryz.ntmps138
 go_wp2
 go_loopw [9,10,11,12,31] (fun p q x y i wr=>∃j n:Nat,j<=old.length∧i=.int .i64 j∧p=iv (longTo old b k j).1∧q=iv (longTo old b k j).2∧w.drewN n=wr) (fun _ _ _ _ i _=>old.length-(intOf i).toNat)
 case atStart=>exact⟨0,0,Nat.zero_le _,rfl,rfl,rfl,rfl⟩
 case round=>
  obtain⟨j,n,hj,rfl,rfl,rfl,rfl⟩:=hrel;have hb1:=longTo_le old b k j hj;by_cases hlt:j<old.length
  ·have HP:=qH (preAt_le old b j k);go_wp2_with fail;go_loopw [12] (fun y wr=>∃t n:Nat,t<=preAt old b j k∧y=.int .i64 t∧w.drewN n=wr) (fun y _=>preAt old b j k-(intOf y).toNat)
   case atStart=>exact⟨0,n,Nat.zero_le _,rfl,rfl⟩
   case round=>
    obtain⟨t,n1,ht,rfl,rfl⟩:=hrel;have hP:=HP.out;by_cases hin:t<preAt old b j k
    ·obtain⟨i1,i2,he⟩:=preAt_lt old b j k t hin;obtain⟨b1,o1,rfl,hs1,hc1⟩:=ha (j+t) i1;obtain⟨b1,o1,rfl,hs1,hc1⟩:=hb (k+t) i2;have d1:decide ((j:Int)+(t:Int)<(old.length:Int))=true:=by simp;omega
     have d1:decide ((k:Int)+(t:Int)<(b.length:Int))=true:=by simp;omega
     have d1:((old[j+t].toNat:Int)==(b[k+t].toNat:Int))=true:=by simp[he]
     have HE:=qH he;clear he;go_wp2_with fail;go_quiet (fail)
     go_wp2_with fail;go_roundw
     case rel=>exact⟨t+1,_,by omega,by go_num,rfl⟩
     case measure=>simp[intOf]<;>omega
    obtain rfl:t=preAt old b j k:=by omega
    have hst:=preAt_stop old b j k;clear ht hin;by_cases hbest:(longTo old b k j).2<preAt old b j k
    first|case' inl=>have T10:Hid True:=qH trivial|case' pos=>have T10:Hid True:=qH trivial|case' refine_1=>have T10:Hid True:=qH trivial
    iterate 2
     ·first
       |
        revert T10;intro T10;have HT:Hid (longTo old b k (j+1)=(j,preAt old b j k)):=longTo_yes hbest
       |have HT:Hid (longTo old b k (j+1)=longTo old b k j):=longTo_no hbest
      first
       |
        revert T10;intro T10;have hbest':((longTo old b k j).2:Int)<(preAt old b j k:Int):=by omega
       |have hbest':¬((longTo old b k j).2:Int)<(preAt old b j k:Int):=by omega
      by_cases c1:j+preAt old b j k<old.length
      ·have d1:decide ((j:Int)+(preAt old b j k:Int)<(old.length:Int))=true:=by simp;omega
       by_cases c2:k+preAt old b j k<b.length
       ·have d2:decide ((k:Int)+(preAt old b j k:Int)<(b.length:Int))=true:=by simp;omega
        have hne:=hst c1 c2;have d3:((old[j+preAt old b j k].toNat:Int)==(b[k+preAt old b j k].toNat:Int))=false:=by
         simp;exact fun e=>hne (UInt8.toNat_inj.1 (by omega))
        obtain⟨b1,o1,rfl,hs1,hc1⟩:=ha (j+preAt old b j k) c1;obtain⟨b2,o2,rfl,hs2,hc2⟩:=hb (k+preAt old b j k) c2;clear hne hst;go_wp2_with fail;go_quiet (fail)
        go_wp2_with fail;go_roundw
        case rel=>exact⟨j+1,_,by omega,by go_num,by rw[HT.out],by rw[HT.out],rfl⟩
        case measure=>simp[intOf]<;>omega
       have d2:decide ((k:Int)+(preAt old b j k:Int)<(b.length:Int))=false:=by simp;omega
       clear hst;go_wp2_with fail;go_quiet (fail)
       go_wp2_with fail;go_roundw
       case rel=>exact⟨j+1,_,by omega,by go_num,by rw[HT.out],by rw[HT.out],rfl⟩
       case measure=>simp[intOf]<;>omega
      have d1:decide ((j:Int)+(preAt old b j k:Int)<(old.length:Int))=false:=by simp;omega
      clear hst;go_wp2_with fail;go_quiet (fail)
      go_wp2_with fail;go_roundw
      case rel=>exact⟨j+1,_,by omega,by go_num,by rw[HT.out],by rw[HT.out],rfl⟩
      case measure=>simp[intOf]<;>omega
  go_wp2_with fail
  go_ret3
  refine⟨?_,_,rfl⟩;obtain rfl:j=old.length:=by omega
  rfl
end
theorem bts_win{b o:Nat}(h:Bts w (some ⟨b,o,none⟩) l)(k n:Nat):Bts w (some ⟨b,o+k,none⟩) (win l k n):=by
 intro i hi;have hl:i<n∧k+i<l.length:=by unfold win at hi;simp only[List.length_take,List.length_drop]at hi;omega
 obtain⟨b',o',e,hlt,hc⟩:=h (k+i) hl.2;injection e with e;injection e with e1 e2;subst e1 e2;refine⟨b,o+k,rfl,hlt,?_⟩;rw[Nat.add_assoc,hc];simp[win]
theorem refLongest_calls(A B:OA)(c d:Nat)(old b:LU)(w:World)(k:Nat)(hml:ML w)(hc:old.length<=c)(hd:b.length<=d)(hl:old.length<=64)(hm:b.length<=64)(hk:k<=b.length)(ha:Bts w A old)(hb:Bts w B b):
  Calls Tryz.prog 105 #[.slice A old.length c,.slice B b.length d,iv k] w (RetN w (.tuple #[iv (longest old b k).1,iv (longest old b k).2])):=by
 obtain⟨m0,hm3⟩:∃m0:Nat,min (old.length:Int) ((b.length:Int)-(k:Int))=m0:=⟨(min (old.length:Int) ((b.length:Int)-(k:Int))).toNat,by omega⟩;have hbd:=longTo_le old b k old.length (Nat.le_refl _);have hL1:(longest old b k).2<=m0:=by unfold longest;omega
 have HL1:=qH hL1;have HA:=qH ha;have HB:=qH hb;have HML:=qH hml;have hm1:m0<=old.length:=by omega
 have hm1:k+m0<=b.length:=by omega
 clear ha hb hml hL1 hbd;go_enter Tryz.func105,Tryz.ntmps105;go_wp2_with fail;go_loopw [8] (fun x wr=>∃(m nd:Nat),x=.int .i64 (m:Int)∧(longest old b k).2<=m∧m<=m0∧w.drewN nd=wr) (fun x _=>(intOf x).toNat)
 case atStart=>exact⟨m0,0,int_eq (by omega),HL1.out,Nat.le_refl _,rfl⟩
 case round=>
  obtain⟨m,nd,rfl,h1,h2,rfl⟩:=hrel;by_cases h2:0<m
  ·have d2:(0:Int)<(m:Int):=by omega
   have hA1:A≠none:=fun e=>by
    obtain⟨bb,bo,e1,_⟩:=HA.out 0 (by omega);rw[e]at e1;cases e1
   obtain⟨aa,rfl⟩:=Option.ne_none_iff_exists'.1 hA1;obtain⟨bb,bo,rfl,_⟩:=HB.out 0 (by omega);have hwl:=win_len b k m (by omega);have hck:¬d=k:=by omega
   have hix:=index_calls aa ⟨bb,bo+k,none⟩ c (d-k) old (win b k m) (w.drewN nd) (HML.out.drewN nd) hc (by omega) (by omega) (HA.out.drewN nd) ((bts_win HB.out k m).drewN nd);rw[hwl]at hix;have HIX:=qH hix;clear hix hA1 hwl;have j1:(k:Int)+m<=(d:Int):=by omega
   have j1:(k:Int)<=(k:Int)+m:=by omega
   go_wp2_with fail;refine HIX.out.mono ?_;rintro e w1 ⟨rfl,n1,rfl⟩;rcases Lib.index_spec old (win b k m)with ⟨e1,_⟩|⟨i,e1,_,_,_⟩
   ·have hlt:=index_lt (by omega) (by omega) e1;rw[e1];clear e1 HIX h1;go_wp2_with fail;go_roundw
    case rel=>exact⟨m-1,nd+n1,int_eq (by omega),by omega,by omega,by rw[<-World.drewN_drewN]⟩
    case measure=>simp[intOf];omega
   have his:=index_is (by omega) (by omega) e1 h1;rw[e1];have HIS:=qH his;clear his e1 HIX h1;have d1:(0:Int)<=(i:Int):=by omega
   go_wp2_with fail;go_ret2;exact⟨ret2 (by rw[HIS.out];rfl) (by rw[HIS.out];rfl),nd+n1,by rw[<-World.drewN_drewN]⟩
  obtain rfl:m=0:=by omega
  have hz:=longest_zero (old:=old) (b:=b) (k:=k) (by omega);have HZ:=qH hz;clear hz h1;go_wp2_with fail;go_ret2;exact⟨ret2 (by rw[HZ.out];rfl) (by rw[HZ.out];rfl),nd,rfl⟩
end Go.Proofs.YtefkfglkpebbmaaGreat
