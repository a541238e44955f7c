/- Walks. No conditions. -/
import Derived.Test.YtefkfglkpebbmabGreatPE2
import Derived.Laws.IdiomStrings
import Derived.Laws.BytesArg
import Derived.Deep.DeepCutAuto
import Derived.RangeFuncNested
import Derived.RangeFuncBound
import Derived.RangeFuncCalls
import Derived.RangeFuncLeaves
import Derived.RangeFuncBox
import Derived.Shelf.Abstract
import Derived.Shelf.RegionOpen
import Derived.OwnWalkIn
import Derived.TacticsInMore
import Derived.LoopNIn
import Derived.LoopIn
set_option linter.all false
set_option maxRecDepth 100000
set_option maxHeartbeats 0
namespace Go.Proofs.YtefkfglkpebbmabGreat
open Go.RowKit
variable {Y:Prop}
variable {x y:Stp}
theorem growChunks_calls(n:Nat)(w:World)(hn:n<=2513169434843):
  Calls Tryz.prog 87 #[.slice none 0 0,iv n] w (SlRet w 61 5 0 []):=by
 rcases Nat.eq_zero_or_pos n with rfl|hp
 ·go_enter Tryz.func87,Tryz.ntmps87;exact x4d9
 obtain⟨i,hi,hz,hs,hb⟩:=info_parts (P:=Tryz.prog) (e:=61) (z:=.agg #[.int .i64 0,.int .i64 0,.int .i64 0,.int .i64 0,.slice none 0 0]) (size:=5) (bytes:=56) (by kernel_rfl);have hr:=fun ty=>Lib.run_append_grow_zeros (P:=Tryz.prog) w 33 3 ty 61 i (.agg #[.int .i64 0,.int .i64 0,.int .i64 0,.int .i64 0,.slice none 0 0]) .i64 .i64 Tryz.underlying33 Tryz.underlying3 hi hz none 0 0 [] (run_firstCells_none _ _ _ _ _) n hp (by omega) (by omega) (by omega) (by rw[hb];omega)
  (growslice_fits (by omega) (by rw[hb];omega))
 have hG:=grownCap_ge w (0+n) 0 61;have hG1:=grownCap_le_maxLen w (0+n) 0 61 (by unfold maxLen;omega);have h1:(0:Int)<(n:Int):=by omega
 obtain⟨cap,hcd⟩:∃cap,cap=grownCap w (0+n) 0 61:=⟨_,rfl⟩;rw[<-hcd]at hr hG hG1;clear hcd;have hO:Own (w.drew.alloc (.cells (([]:List Value).toArray++Builtin.zeroCells (Value.cells (.agg #[.int .i64 0,.int .i64 0,.int .i64 0,.int .i64 0,.slice none 0 0])) n++Builtin.zeroCells (Value.cells (.agg #[.int .i64 0,.int .i64 0,.int .i64 0,.int .i64 0,.slice none 0 0])) (cap-(0+n))) 61)) w.heap.size 61 5 (some ⟨w.heap.size,0,none⟩) 0 cap []:=
  ⟨by simp,Or.inr ⟨_,_,_,rfl,Nat.le_refl _,blk_top rfl,by omega,hG1,by simp[Builtin.zeroCells,Value.cells];omega,by simp⟩⟩
 have hB:=((Below.refl w.heap.size w).drew).alloc (Nat.le_refl _) (.cells (([]:List Value).toArray++Builtin.zeroCells (Value.cells (.agg #[.int .i64 0,.int .i64 0,.int .i64 0,.int .i64 0,.slice none 0 0])) n++Builtin.zeroCells (Value.cells (.agg #[.int .i64 0,.int .i64 0,.int .i64 0,.int .i64 0,.slice none 0 0])) (cap-(0+n))) 61);generalize (Obj.cells (([]:List Value).toArray++Builtin.zeroCells (Value.cells (.agg #[.int .i64 0,.int .i64 0,.int .i64 0,.int .i64 0,.slice none 0 0])) n++Builtin.zeroCells (Value.cells (.agg #[.int .i64 0,.int .i64 0,.int .i64 0,.int .i64 0,.slice none 0 0])) (cap-(0+n))) 61)=ob at *
 have hcap:cap<=9223372036854775807:=by simp only[maxLen]at hG1;omega
 clear hi hz hs hb hG1;go_enter Tryz.func87,Tryz.ntmps87;exact x18t
theorem concatChunks_calls(ss:List SrcOf)(ad:OA)(c:Nat)(w:World)(hk:ss.length<=16)(hn:sumN ss<=2513169434843)(hr:Src w ad (ss.map SrcOf.val))(hs:∀s∈ss,s.ok w 5):
  Calls Tryz.prog 47 #[.slice ad ss.length c] w (SlRet w 61 5 (sumN ss) (ss.flatMap SrcOf.cells)):=by
 go_enter Tryz.func47,Tryz.ntmps47;go_wp2_with fail
 go_loop [3,5,11] (fun z s i=>∃k:Nat,k<=ss.length∧i=.int .i64 k∧z=.int .i64 (sumN (ss.take k))) (fun _ _ i=>ss.length-(intOf i).toNat)
 case atStart=>exact⟨0,Nat.zero_le _,rfl,rfl⟩
 case round=>
  obtain⟨k,hkl,rfl,rfl⟩:=hrel;by_cases hlt:k<ss.length
  ·obtain⟨b,o,rfl,hbs,hc⟩:=hr k (by simpa using hlt);have hsn:=sumN_take ss k hlt;have hle:=sumN_le ss (k+1);have HS:=qH hsn;have hb1:(sumN (ss.take k):Int)+(ss[k].n:Int)<=2513169434843:=by omega
   exact x8vt
  obtain rfl:k=ss.length:=by omega
  rw[List.take_length];go_wp2_with fail;refine(growChunks_calls (sumN ss) w (by omega)).mono ?_;rintro e w1 ⟨A2,c2,rfl,hO,hB⟩;have HR:=qH hr;have HQ:=qH hs;clear hr hs;go_wp2_with fail;go_loopw [6,8,27] (fun z s i wr=>∃(k:Nat) (A1:OA) (c1:Nat),k<=ss.length∧i=.int .i64 k∧z=.slice A1 (sumN (ss.take k)) c1∧Own wr w.heap.size 61 5 A1 (sumN (ss.take k)) c1 ((ss.take k).flatMap SrcOf.cells)∧Below w.heap.size w wr) (fun _ _ i _=>ss.length-(intOf i).toNat)
  case atStart=>exact⟨0,A2,c2,Nat.zero_le _,rfl,rfl,hO,hB⟩
  case round=>
   obtain⟨k,A1,c1,hkl,rfl,rfl,hO1,hB1⟩:=hrel;have hr1:=HR.out.stays hB1;have hs1:∀s∈ss,s.ok wr 5:=fun s h=>(HQ.out s h).stays hB1;by_cases hlt:k<ss.length
   ·obtain⟨b,o,rfl,hbs,hc⟩:=hr1 k (by simpa using hlt);have hsn:=sumN_take ss k hlt;have hle:=sumN_le ss (k+1);have hfl:(ss.take (k+1)).flatMap SrcOf.cells=(ss.take k).flatMap SrcOf.cells++ss[k].cells:=by
     rw[List.take_succ_eq_append_getElem hlt,List.flatMap_append];simp
    have HS:=qH hsn;have HF:=qH hfl;obtain⟨q1,q2,q3⟩:=hs1 ss[k] (List.getElem_mem hlt);have Q1:=qH q1;have hb1:sumN (ss.take k)+ss[k].n<=2513169434916:=by omega
    have hb2:w.heap.size<=wr.heap.size:=hB1.size;have hc':wr.cell? ⟨b,o+k,none⟩=some (.slice ss[k].A ss[k].n ss[k].c):=by simpa[SrcOf.val]using hc
    clear hsn hle hc hfl q1 hr1 hs1;go_wp2_with (at_builtin;refine wpList_app _ rfl _ _ 33 rfl elChunksB w.heap.size A1 (sumN (ss.take k)) c1 _ rfl hO1 ss[k].A ss[k].n ss[k].c ss[k].cells rfl q2 Q1.out q3 hb1 hb2 ?_;intro A' c' w2 hown hg hb hx);have hfin:Own w2 w.heap.size 61 5 A' (sumN (ss.take (k+1))) c' ((ss.take (k+1)).flatMap SrcOf.cells):=by rw[HS.out,HF.out];exact hown
    exact x440
   exact x6ce
theorem equalBytes_calls(A B:OA)(c d:Nat)(l m:LU)(w:World)(hl:l.length<=140737488351232)(hm:m.length<=140737488351232)(ha:Bts w A l)(hb:Bts w B m):
  Calls Tryz.prog 37 #[.slice A l.length c,.slice B m.length d] w (RetN w (.bool (decide (l=m)))):=by
 by_cases hne:l.length=m.length
 ·have hdl:((l.length:Int) !=(m.length:Int))=false:=by simp[hne]
  have HE:=qH hne;have hm1:l.length<=m.length:=by omega
  have hm1:m.length<=l.length:=by omega
  clear hne;go_enter Tryz.func37,Tryz.ntmps37
  go_wp2
  go_loopw [5,13] (fun u i wr=>∃k n:Nat,k<=l.length∧i=.int .i64 k∧l.take k=m.take k∧w.drewN n=wr) (fun _ i _=>l.length-(intOf i).toNat)
  case atStart=>exact⟨0,0,Nat.zero_le _,rfl,rfl,rfl⟩
  case round=>
   obtain⟨k,n,hk,rfl,ht,rfl⟩:=hrel;have HT:=qH ht;clear ht;by_cases hlt:k<l.length
   ·obtain⟨b1,o1,rfl,hs1,hc1⟩:=ha k hlt;obtain⟨b1,o1,rfl,hs1,hc1⟩:=hb k (by omega);by_cases he:l[k]=m[k]'(by omega)
    ·have hd:((l[k].toNat:Int) !=((m[k]'(by omega)).toNat:Int))=false:=by simp[he]
     have HX:=qH he;clear he;go_wp2_with fail;go_quiet (fail)
     go_wp2_with fail;go_roundw
     case rel=>exact⟨k+1,_,by omega,by go_num,take_eq_succ HT.out hlt (by omega) HX.out,rfl⟩
     case measure=>simp[intOf]<;>omega
    have hd:((l[k].toNat:Int) !=((m[k]'(by omega)).toNat:Int))=true:=by simp;exact fun e=>he (UInt8.toNat_inj.1 (by omega))
    have HX:=qH he;clear he;go_wp2_with fail;go_quiet (fail)
    go_wp2_with fail;go_ret;exact⟨ret_bool (by rw[decide_eq_false (ne_of_at hlt (by omega) HX.out)]),_,(World.drewN_drewN _ _ _).symm⟩
   go_wp2_with fail;go_ret;refine⟨ret_bool ?_,_,rfl⟩;have h:=HT.out;rw[List.take_of_length_le (by omega),List.take_of_length_le (by omega)]at h;rw[decide_eq_true h]
 have hdl:((l.length:Int) !=(m.length:Int))=true:=by simp;omega
 have HX:=qH hne;clear hne;go_enter Tryz.func37,Tryz.ntmps37
 go_wp2
 go_ret;exact⟨ret_bool (by rw[decide_eq_false (fun e=>HX.out (by rw[e]))]),0,rfl⟩
theorem x0f0(h:Y:=by
 rw[<-HR.out];by_cases e:l=m
 ·subst e;simp
 rw[decide_eq_false e,decide_eq_false (fun h=>e (by injection h))]):Y:=h
theorem x1la(h:Y:=by
 rcases d with ⟨a1,a2,a3,a4,a5,a6,a7,a8,a9,a10⟩;rcases g with ⟨b1,b2,b3,b4,b5,b6,b7,b8,b9,b10⟩;rw[Bool.eq_iff_iff];simp only[decide_eq_true_eq,Bool.and_eq_true,Dev.mk.injEq,beq_iff_eq];constructor
 ·rintro⟨h1,h2,h3,h4,h5,h6,h7,h8,h9,h10⟩;simp only[h1,h2,h3,h4,h5,h6,h7,h8,h9,h10,and_self]
 intro h;simp only[h,and_self]):Y:=h
theorem x483(h:Y:=by
 go_wp2_with fail;refine HC.out.mono ?_;rintro e w1 ⟨rfl,hb1⟩;have HB1:=qH (HB.out.trans (hb1.mono HB.out.size));clear hb1;go_wp2_with fail;go_ret;exact⟨ret_bool HZ.out,HB1.out⟩):Y:=h
theorem x7ax(h:Y:=by
 go_wp2_with fail;go_ret;exact⟨ret_bool HR.out.symm,HB4.out⟩):Y:=h
theorem x7hq(h:Y:=by
 go_wp2_with fail;go_ret;exact⟨ret_bool HR.out.symm,HB3.out⟩):Y:=h
theorem x7sd(h:Y:=by
 go_wp2_with fail;go_ret;exact⟨ret_bool HR.out.symm,HB2.out⟩):Y:=h
theorem x8ts(h:Y:=by
 go_enter Tryz.func137,Tryz.ntmps137;go_wp2_with fail;go_ret;exact⟨ret_bool HE.out.symm,((Below.refl _ _).alloc (Nat.le_refl _) _).alloc (by simp) _⟩):Y:=h
theorem stp_ne_at(h:x.at_≠y.at_):x≠y:=by rintro rfl;exact h rfl
theorem stp_ne_len(h:x.len≠y.len):x≠y:=by rintro rfl;exact h rfl
theorem stp_eq(h1:x.at_=y.at_)(h2:x.len=y.len):decide (x.data=y.data)=decide (x=y):=by
 obtain⟨a,l,d⟩:=x;obtain⟨b,m,e⟩:=y;simp only at h1 h2;subst h1 h2;simp
theorem same1_calls(x y:Stp)(B D:OA)(c d:Nat)(w:World)(hx:x.data.length<=140737488351232)(hy:y.data.length<=140737488351232)(hB:Bts w B x.data)(hD:Bts w D y.data):
  Calls Tryz.prog 137 #[.agg #[iv x.at_,iv x.len,.slice B x.data.length c],.agg #[iv y.at_,iv y.len,.slice D y.data.length d]] w (RetB w (.bool (decide (x=y)))):=by
 by_cases h1:x.at_=y.at_
 ·by_cases h2:x.len=y.len
  ·have q1:(x.at_==y.at_)=true:=by simp[h1]
   have q1:(x.len==y.len)=true:=by simp[h2]
   have HE:=qH (stp_eq h1 h2);have bl:=((Below.refl w.heap.size w).alloc (Nat.le_refl _) (.cells #[iv x.at_,iv x.len,.slice B x.data.length c] 145)).alloc (by simp) (.cells #[iv y.at_,iv y.len,.slice D y.data.length d] 145);have HC:=qH (equalBytes_calls B D c d x.data y.data _ hx hy (hB.stays bl) (hD.stays bl));have HB:=qH bl;clear h1 h2 hB hD bl;go_enter Tryz.func137,Tryz.ntmps137;go_wp2_with fail;refine HC.out.mono ?_;rintro e w1 ⟨rfl,n,rfl⟩;go_wp2_with fail;go_ret;exact⟨ret_bool HE.out,Below.drewN' HB.out n⟩
  ·have q1:(x.at_==y.at_)=true:=by simp[h1]
   have q1:(x.len==y.len)=false:=by simp[h2]
   have HE:=qH (decide_eq_false (stp_ne_len h2));clear h1 h2;exact x8ts
 have q1:(x.at_==y.at_)=false:=by simp[h1]
 have HE:=qH (decide_eq_false (stp_ne_at h1));clear h1;exact x8ts
theorem eqfOps_calls(A B:OA)(c d:Nat)(l m:List Stp)(w:World)(hl:l.length<=3518437208780)(hm:m.length<=3518437208780)(ha:Sps w A l)(hb:Sps w B m):
  Calls Tryz.prog 136 #[.slice A l.length c,.slice B m.length d,.func (Fn.func 137) #[] #[]] w (RetB w (.bool (decide (l=m)))):=by
 by_cases hne:l.length=m.length
 ·have hdl:((l.length:Int) !=(m.length:Int))=false:=by simp[hne]
  have HE:=qH hne;have hm1:l.length<=m.length:=by omega
  have hm1:m.length<=l.length:=by omega
  clear hne;go_enter Tryz.func136,Tryz.ntmps136;go_wp2_with fail;go_loopw [17] (fun i wr=>∃k:Nat,k<=l.length∧i=.int .i64 k∧Hid (l.take k=m.take k)∧Hid (Below w.heap.size w wr)) (fun i _=>l.length-(intOf i).toNat)
  case atStart=>exact⟨0,Nat.zero_le _,rfl,qH rfl,qH (Below.refl _ _)⟩
  case round=>
   obtain⟨k,hk,rfl,HT,HB⟩:=hrel;by_cases hlt:k<l.length
   ·obtain⟨b1,o1,B1,c1,rfl,hs1,p6,p1,p2,p3,p4,p5,-,-⟩:=(ha.stays HB.out).at_ hlt;obtain⟨b1,o1,B2,c2,rfl,hs1,r6,r1,r2,r3,r4,r5,-,-⟩:=(hb.stays HB.out).at_ (i:=k) (by omega);have hsz:=HB.out.size;have HX:Hid (∀e:l[k]=m[k]'(by omega),l.take (k+1)=m.take (k+1)):=qH fun e=>take_eq_succ HT.out hlt (by omega) e;have HN:Hid (∀e:l[k]≠m[k]'(by omega),l≠m):=qH fun e=>ne_of_at hlt (by omega) e;generalize l[k]=x at *
    generalize m[k]'(by omega)=y at *
    have hsb:=fun w2 (h:Below wr.heap.size wr w2)=>same1_calls x y B1 B2 c1 c2 w2 p4 r4 (p5.stays h) (r5.stays h);have HC:=qH hsb;clear hsb p5 r5;go_wp2_with fail;have bl:=((Below.refl wr.heap.size wr).alloc (Nat.le_refl _) (.cells #[iv x.at_,iv x.len,.slice B1 x.data.length c1] 145)).alloc (by simp) (.cells #[iv y.at_,iv y.len,.slice B2 y.data.length c2] 145);refine(HC.out _ bl).mono ?_;rintro e w1 ⟨rfl,hb1⟩;have HB1:Hid (Below w.heap.size w w1):=qH ((HB.out.trans (bl.mono hsz)).trans (hb1.mono (by simp;omega)));clear bl hb1;by_cases hxy:x=y
    ·have hd:decide (x=y)=true:=by simp[hxy]
     have HY:=qH (HX.out hxy);clear hxy HX HN;go_wp2_with fail;go_roundw
     case rel=>exact⟨k+1,by omega,by go_num,HY,HB1⟩
     case measure=>simp[intOf]<;>omega
    have hd:decide (x=y)=false:=by simp[hxy]
    have HY:=qH (HN.out hxy);clear hxy HX HN;go_wp2_with fail;go_ret;exact⟨ret_bool (by rw[decide_eq_false HY.out]),HB1.out⟩
   exact x99v
 have hdl:((l.length:Int) !=(m.length:Int))=true:=by simp;omega
 have HX:=qH hne;clear hne;go_enter Tryz.func136,Tryz.ntmps136;exact x6vb
theorem equalOps_calls(A B:OA)(c d:Nat)(l m:List Stp)(w:World)(hl:l.length<=3518437208780)(hm:m.length<=3518437208780)(ha:Sps w A l)(hb:Sps w B m):
  Calls Tryz.prog 114 #[.slice A l.length c,.slice B m.length d] w (RetB w (.bool (decide (l=m)))):=by
 go_enter Tryz.func114,Tryz.ntmps114;go_wp2_with fail;refine(eqfOps_calls A B c d l m w hl hm ha hb).mono ?_;exact x3rf
theorem patSameA_calls(A B:OA)(c d:Nat)(f t o n sz f2 t2 o2 n2 sz2:Int)(l m:List Stp)(w:World)(hl:l.length<=3518437208780)(hm:m.length<=3518437208780)(hs:Sps w A l)(hr:Sps w B m):
  Calls Tryz.prog 72 #[.agg #[iv f,iv t,iv o,iv n,iv sz,.slice A l.length c],.agg #[iv f2,iv t2,iv o2,iv n2,iv sz2,.slice B m.length d]] w (RetB w (.bool (decide ((⟨f,t,o,n,sz,l⟩:Pat)=⟨f2,t2,o2,n2,sz2,m⟩)))):=by
 have hb:Below w.heap.size w ((w.alloc (.cells #[iv f,iv t,iv o,iv n,iv sz,.slice A l.length c] 36)).alloc (.cells #[iv f2,iv t2,iv o2,iv n2,iv sz2,.slice B m.length d] 36)):=((Below.refl _ _).alloc (Nat.le_refl _) _).alloc (by simp) _;obtain⟨r,hR⟩:∃r,decide ((⟨f,t,o,n,sz,l⟩:Pat)=⟨f2,t2,o2,n2,sz2,m⟩)=r:=⟨_,rfl⟩;rw[hR];have HR:=qH hR;clear hR;have HB:=qH hb;have HC:=qH (equalOps_calls A B c d l m _ hl hm (hs.stays hb) (hr.stays hb));clear hb hs hr;by_cases h5:¬f=f2
 ·have hz:false=r:=(decide_eq_false (fun e=>by injection e;contradiction)).symm.trans HR.out;have HZ:=qH hz;have q:(f==f2)=false:=by simp[h5]
  clear HC hz h5;go_enter Tryz.func72,Tryz.ntmps72;exact x4jq
 have h5:=Decidable.not_not.1 h5;subst h5;have q5:(f==f)=true:=by simp
 by_cases h1:¬t=t2
 ·have hz:false=r:=(decide_eq_false (fun e=>by injection e;contradiction)).symm.trans HR.out;have HZ:=qH hz;have q:(t==t2)=false:=by simp[h1]
  clear HC hz h1;go_enter Tryz.func72,Tryz.ntmps72;exact x4jq
 have h1:=Decidable.not_not.1 h1;subst h1;have q1:(t==t)=true:=by simp
 by_cases h1:¬o=o2
 ·have hz:false=r:=(decide_eq_false (fun e=>by injection e;contradiction)).symm.trans HR.out;have HZ:=qH hz;have q:(o==o2)=false:=by simp[h1]
  clear HC hz h1;go_enter Tryz.func72,Tryz.ntmps72;exact x4jq
 have h1:=Decidable.not_not.1 h1;subst h1;have q1:(o==o)=true:=by simp
 by_cases h1:¬n=n2
 ·have hz:false=r:=(decide_eq_false (fun e=>by injection e;contradiction)).symm.trans HR.out;have HZ:=qH hz;have q:(n==n2)=false:=by simp[h1]
  clear HC hz h1;go_enter Tryz.func72,Tryz.ntmps72;exact x4jq
 have h1:=Decidable.not_not.1 h1;subst h1;have q1:(n==n)=true:=by simp
 by_cases h1:¬sz=sz2
 ·have hz:false=r:=(decide_eq_false (fun e=>by injection e;contradiction)).symm.trans HR.out;have HZ:=qH hz;have q:(sz==sz2)=false:=by simp[h1]
  clear HC hz h1;go_enter Tryz.func72,Tryz.ntmps72;exact x4jq
 have h1:=Decidable.not_not.1 h1;subst h1;have q1:(sz==sz)=true:=by simp
 have hz:decide (l=m)=r:=by
  exact x0f0
 have HZ:=qH hz;clear hz;go_enter Tryz.func72,Tryz.ntmps72;exact x483
theorem conv_str(A:OA)(c:Nat)(l:LU)(w:World)(hc:l.length<=c)(h:Bts w A l):(convert 23 9 (.slice A l.length c)).run Tryz.prog w=.ok (.string ⟨l.toArray⟩) w:=by
 by_cases e:l=[]
 ·subst e
  cases A with
  |none=>exact run_convert_bytes_nil (P:=Tryz.prog) w 23 5 Tryz.underlying23 Tryz.underlying5 0 c 9 Tryz.underlying9
  |some a=>exact run_convert_bytes_back (P:=Tryz.prog) w 23 9 5 a c [] Tryz.underlying23 Tryz.underlying5 Tryz.underlying9 (fun j hj=>by simp at hj)
 obtain⟨b,o,rfl,-,-⟩:=h 0 (by rcases l with _|⟨x,l⟩;exact absurd rfl e;simp);refine run_convert_bytes_back (P:=Tryz.prog) w 23 9 5 ⟨b,o,none⟩ c l Tryz.underlying23 Tryz.underlying5 Tryz.underlying9 (fun j hj=>?_);obtain⟨b',o',e,-,hc⟩:=h j hj;injection e with e;injection e with e1 e2;subst e1 e2;rw[show (⟨b,o,none⟩:Addr).add j=⟨b,o+j,none⟩ by simp[Addr.add]];exact hc
theorem bytesEqual_calls(A B:OA)(c d:Nat)(l m:LU)(w:World)(hc:l.length<=c)(hd:m.length<=d)(ha:Bts w A l)(hb:Bts w B m):
  Calls Tryz.prog 40 #[.slice A l.length c,.slice B m.length d] w (Ret w (.bool (decide (l=m)))):=by
 have k1:=conv_str A c l w hc ha;have k1:=conv_str B d m w hd hb;go_enter Tryz.func40,Tryz.ntmps40;go_wp2_with fail;go_ret;exact⟨ret_bool (by by_cases e:l=m<;>simp[e]),rfl⟩
theorem refSame_calls(A B:OA)(c d:Nat)(l m:List Stp)(w:World)(hl:l.length<=3518437208780)(hm:m.length<=3518437208780)(ha:Sps w A l)(hb:Sps w B m):
  Calls Tryz.prog 111 #[.slice A l.length c,.slice B m.length d] w (RetB w (.bool (decide (l=m)))):=by
 by_cases hne:l.length=m.length
 ·have hdl:((l.length:Int) !=(m.length:Int))=false:=by simp[hne]
  have HE:=qH hne;have hm1:l.length<=m.length:=by omega
  have hm1:m.length<=l.length:=by omega
  clear hne;have HA:=qH ha;have HB2:=qH hb;clear ha hb;go_enter Tryz.func111,Tryz.ntmps111;go_wp2_with fail;go_loopw [14] (fun i wr=>∃k:Nat,k<=l.length∧i=.int .i64 k∧Hid (l.take k=m.take k)∧Hid (Below w.heap.size w wr)) (fun i _=>l.length-(intOf i).toNat)
  case atStart=>exact⟨0,Nat.zero_le _,rfl,qH rfl,qH (Below.refl _ _)⟩
  case round=>
   obtain⟨k,hk,rfl,HT,HB⟩:=hrel;by_cases hlt:k<l.length
   ·obtain⟨b1,o1,B1,c1,rfl,hs1,p6,p1,p2,p3,p4,p5,-,-⟩:=(HA.out.stays HB.out).at_ hlt;have hsz:=HB.out.size;have hbx:Below wr.heap.size wr (wr.alloc (.cells #[iv l[k].at_,iv l[k].len,.slice B1 l[k].data.length c1] 145)):=(Below.refl _ _).alloc (Nat.le_refl _) _;obtain⟨b1,o1,B2,c2,rfl,hs2,r6,r1,r2,r3,r4,r5,-,-⟩:=((HB2.out.stays HB.out).stays hbx).at_ (i:=k) (by omega);obtain⟨b2,o1,B3,c3,e1,hs3,-⟩:=(HB2.out.stays HB.out).at_ (i:=k) (by omega);injection e1 with e1;injection e1 with e4 e5;subst e4 e5;have HBX:=qH (HB.out.trans (hbx.mono hsz));have HX:Hid (l[k]=m[k]'(by omega)->l.take (k+1)=m.take (k+1)):=qH fun e=>take_eq_succ HT.out hlt (by omega) e;have HN:Hid (l[k]≠m[k]'(by omega)->l≠m):=qH fun e=>ne_of_at hlt (by omega) e;have p5x:=p5.stays hbx;generalize l[k]=x at *
    generalize m[k]'(by omega)=y at *
    obtain⟨xa,xl,xd⟩:=x;obtain⟨ya,yl,yd⟩:=y;dsimp only at *
    clear p5 hbx HA HB2;have hkm:k<m.length:=by omega
    have hsx:wr.heap.size<=(wr.alloc (.cells #[iv xa,iv xl,.slice B1 xd.length c1] 145)).heap.size:=by simp
    obtain⟨v1,hv1⟩:∃v,(xa !=ya)=v:=⟨_,rfl⟩;obtain⟨v2,hv2⟩:∃v,(xl !=yl)=v:=⟨_,rfl⟩;obtain⟨v3,hv3⟩:∃v,decide (xd=yd)=v:=⟨_,rfl⟩;have HV:Hid ((v1 || v2 || !v3)=decide ((⟨xa,xl,xd⟩:Stp)≠⟨ya,yl,yd⟩)):=qH (by
     rw[<-hv1,<-hv2,<-hv3];by_cases h1:xa=ya<;>by_cases h2:xl=yl<;>by_cases h3:xd=yd<;>simp[h1,h2,h3])
    go_upto_region 6 with fail
    have q3:(wr.alloc (.cells #[iv xa,iv xl,.slice B1 xd.length c1] 145)).cell? ⟨wr.heap.size,0,none⟩=some (iv xa):=by go_simp
    have q1:(wr.alloc (.cells #[iv xa,iv xl,.slice B1 xd.length c1] 145)).cell? ⟨wr.heap.size,1,none⟩=some (iv xl):=by go_simp
    have q2:(wr.alloc (.cells #[iv xa,iv xl,.slice B1 xd.length c1] 145)).cell? ⟨wr.heap.size,2,none⟩=some (.slice B1 xd.length c1):=by go_simp
    have hs3:wr.heap.size<(wr.alloc (.cells #[iv xa,iv xl,.slice B1 xd.length c1] 145)).heap.size:=by simp
    have hb1:b1<(wr.alloc (.cells #[iv xa,iv xl,.slice B1 xd.length c1] 145)).heap.size:=by simp;omega
    obtain⟨W1,hw1⟩:∃W1,(wr.alloc (.cells #[iv xa,iv xl,.slice B1 xd.length c1] 145))=W1:=⟨_,rfl⟩;rw[hw1]at HBX p5x r5 r6 r1 r2 q3 q1 q2 hs3 hb1⊢;clear hw1 hs2 hs1 p6 p1 p2;go_cut [47] (fun v wx=>v=.bool (v1 || v2 || !v3)∧Hid (Below W1.heap.size W1 wx))
    case first=>
     have HQ:=qH (fun n=>bytesEqual_calls B1 B2 c1 c2 xd yd (W1.drewN n) p3 r3 (p5x.drewN n) (r5.drewN n));rw[hv3]at HQ;have hk1:(k:Int)<(m.length:Int):=by omega
     clear hs3 hb1 HX HN HV p5x r5 hv3 p3 p4 r3 r4
     cases v1<;>cases v2<;>cases v3<;>(
      go_quiet ((go_at_call 40;exact Calls.quiet_of_same ((HQ.out _).mono fun _ _ h=>⟨h.1,h.2.symm⟩)))
      go_wp2_with fail;go_meet
      case rel=>exact⟨rfl,qH (below_drewN _ _)⟩)
    case rest=>
    obtain⟨rfl,hcb⟩:=hcut;have HB1:=qH (HBX.out.trans (hcb.out.mono HBX.out.size));clear q3 q1 q2 r6 r1 r2 HBX hcb hs3 hb1 hv1 hv2 hv3 p5x r5;by_cases hx:(⟨xa,xl,xd⟩:Stp)=⟨ya,yl,yd⟩
    ·have hv:(v1 || v2 || !v3)=false:=HV.out.trans (decide_eq_false (fun h=>h hx));have HX1:=qH (HX.out hx);rw[hv];clear hx HV HN HX;go_wp2_with fail;go_roundw
     case rel=>exact⟨k+1,by omega,by go_num,HX1,HB1⟩
     case measure=>simp[intOf];omega
    have hv:(v1 || v2 || !v3)=true:=HV.out.trans (decide_eq_true hx);have HN1:=qH (HN.out hx);rw[hv];clear hx HV HN HX;go_wp2_with fail;go_ret;exact⟨ret_bool (decide_eq_false HN1.out).symm,HB1.out⟩
   obtain rfl:k=l.length:=by omega
   have HL:Hid (l=m):=qH (by
    have:=HT.out;rwa [List.take_length,HE.out,List.take_length]at this)
   go_wp2_with fail;go_ret;exact⟨ret_bool (decide_eq_true HL.out).symm,HB.out⟩
 have hdl:((l.length:Int) !=(m.length:Int))=true:=by simp;omega
 have HE:Hid (l≠m):=qH fun e=>hne (by rw[e]);clear hne ha hb;go_enter Tryz.func111,Tryz.ntmps111;go_wp2_with fail;go_ret;exact⟨ret_bool (decide_eq_false HE.out).symm,Below.refl _ _⟩
theorem refPatSameA_calls(A B:OA)(c d:Nat)(f t o n sz f2 t2 o2 n2 sz2:Int)(l m:List Stp)(w:World)(hl:l.length<=3518437208780)(hm:m.length<=3518437208780)(hs:Sps w A l)(hr:Sps w B m):
  Calls Tryz.prog 64 #[.agg #[iv f,iv t,iv o,iv n,iv sz,.slice A l.length c],.agg #[iv f2,iv t2,iv o2,iv n2,iv sz2,.slice B m.length d]] w (RetB w (.bool (decide ((⟨f,t,o,n,sz,l⟩:Pat)=⟨f2,t2,o2,n2,sz2,m⟩)))):=by
 have hb:Below w.heap.size w ((w.alloc (.cells #[iv f,iv t,iv o,iv n,iv sz,.slice A l.length c] 36)).alloc (.cells #[iv f2,iv t2,iv o2,iv n2,iv sz2,.slice B m.length d] 36)):=((Below.refl _ _).alloc (Nat.le_refl _) _).alloc (by simp) _;obtain⟨r,hR⟩:∃r,decide ((⟨f,t,o,n,sz,l⟩:Pat)=⟨f2,t2,o2,n2,sz2,m⟩)=r:=⟨_,rfl⟩;rw[hR];have HR:=qH hR;clear hR;have HB:=qH hb;have HC:=qH (refSame_calls A B c d l m _ hl hm (hs.stays hb) (hr.stays hb));clear hb hs hr;by_cases h5:¬f=f2
 ·have hz:false=r:=(decide_eq_false (fun e=>by injection e;contradiction)).symm.trans HR.out;have HZ:=qH hz;have q:(f==f2)=false:=by simp[h5]
  clear HC hz h5;go_enter Tryz.func64,Tryz.ntmps64;exact x4jq
 have h5:=Decidable.not_not.1 h5;subst h5;have q5:(f==f)=true:=by simp
 by_cases h1:¬t=t2
 ·have hz:false=r:=(decide_eq_false (fun e=>by injection e;contradiction)).symm.trans HR.out;have HZ:=qH hz;have q:(t==t2)=false:=by simp[h1]
  clear HC hz h1;go_enter Tryz.func64,Tryz.ntmps64;exact x4jq
 have h1:=Decidable.not_not.1 h1;subst h1;have q1:(t==t)=true:=by simp
 by_cases h1:¬o=o2
 ·have hz:false=r:=(decide_eq_false (fun e=>by injection e;contradiction)).symm.trans HR.out;have HZ:=qH hz;have q:(o==o2)=false:=by simp[h1]
  clear HC hz h1;go_enter Tryz.func64,Tryz.ntmps64;exact x4jq
 have h1:=Decidable.not_not.1 h1;subst h1;have q1:(o==o)=true:=by simp
 by_cases h1:¬n=n2
 ·have hz:false=r:=(decide_eq_false (fun e=>by injection e;contradiction)).symm.trans HR.out;have HZ:=qH hz;have q:(n==n2)=false:=by simp[h1]
  clear HC hz h1;go_enter Tryz.func64,Tryz.ntmps64;exact x4jq
 have h1:=Decidable.not_not.1 h1;subst h1;have q1:(n==n)=true:=by simp
 by_cases h1:¬sz=sz2
 ·have hz:false=r:=(decide_eq_false (fun e=>by injection e;contradiction)).symm.trans HR.out;have HZ:=qH hz;have q:(sz==sz2)=false:=by simp[h1]
  clear HC hz h1;go_enter Tryz.func64,Tryz.ntmps64;exact x4jq
 have h1:=Decidable.not_not.1 h1;subst h1;have q1:(sz==sz)=true:=by simp
 have hz:decide (l=m)=r:=by
  exact x0f0
 have HZ:=qH hz;clear hz;go_enter Tryz.func64,Tryz.ntmps64;exact x483
section
variable (A B:OA) (c d:Nat) (old b:LU) (w:World)
theorem longest_calls(k:Nat)(hl:old.length<=64)(hm:b.length<=64)(hk:k<=b.length)(ha:Bts w A old)(hb:Bts w B b):
  Calls Tryz.prog 144 #[.slice A old.length c,.slice B b.length d,iv k] w (RetN w (.tuple #[iv (longest old b k).1,iv (longest old b k).2,iv 0])):=by
 have h1:¬(64:Int)<(old.length:Int):=by omega
 have h1:¬(64:Int)<(b.length:Int):=by omega
 have h1:¬(k:Int)<0:=by omega
 have h1:¬(b.length:Int)<(k:Int):=by omega
 go_enter Tryz.func144,Tryz.ntmps144
 go_wp2
 go_loopw [9,10,11,12,31] (fun p q x y i wr=>∃j n:Nat,j<=old.length∧i=.int .i64 j∧p=iv (longTo old b k j).1∧q=iv (longTo old b k j).2∧w.drewN n=wr) (fun _ _ _ _ i _=>old.length-(intOf i).toNat)
 case atStart=>exact⟨0,0,Nat.zero_le _,rfl,rfl,rfl,rfl⟩
 case round=>
  obtain⟨j,n,hj,rfl,rfl,rfl,rfl⟩:=hrel;have hb1:=longTo_le old b k j hj;by_cases hlt:j<old.length
  ·have HP:=qH (preAt_le old b j k);go_wp2_with fail;go_loopw [12] (fun y wr=>∃t n:Nat,t<=preAt old b j k∧y=.int .i64 t∧w.drewN n=wr) (fun y _=>preAt old b j k-(intOf y).toNat)
   case atStart=>exact⟨0,n,Nat.zero_le _,rfl,rfl⟩
   case round=>
    obtain⟨t,n1,ht,rfl,rfl⟩:=hrel;have hP:=HP.out;by_cases hin:t<preAt old b j k
    ·obtain⟨i1,i2,he⟩:=preAt_lt old b j k t hin;obtain⟨b1,o1,rfl,hs1,hc1⟩:=ha (j+t) i1;obtain⟨b1,o1,rfl,hs1,hc1⟩:=hb (k+t) i2;have d1:decide ((j:Int)+(t:Int)<(old.length:Int))=true:=by simp;omega
     have d1:decide ((k:Int)+(t:Int)<(b.length:Int))=true:=by simp;omega
     have d1:((old[j+t].toNat:Int)==(b[k+t].toNat:Int))=true:=by simp[he]
     have HE:=qH he;clear he;go_wp2_with fail;go_quiet (fail)
     go_wp2_with fail;go_roundw
     case rel=>exact⟨t+1,_,by omega,by go_num,rfl⟩
     case measure=>simp[intOf]<;>omega
    obtain rfl:t=preAt old b j k:=by omega
    have hst:=preAt_stop old b j k;clear ht hin;by_cases hbest:(longTo old b k j).2<preAt old b j k
    first|case' inl=>have T10:Hid True:=qH trivial|case' pos=>have T10:Hid True:=qH trivial|case' refine_1=>have T10:Hid True:=qH trivial
    iterate 2
     ·first
       |
        revert T10;intro T10;have HT:Hid (longTo old b k (j+1)=(j,preAt old b j k)):=longTo_yes hbest
       |have HT:Hid (longTo old b k (j+1)=longTo old b k j):=longTo_no hbest
      first
       |
        revert T10;intro T10;have hbest':((longTo old b k j).2:Int)<(preAt old b j k:Int):=by omega
       |have hbest':¬((longTo old b k j).2:Int)<(preAt old b j k:Int):=by omega
      by_cases c1:j+preAt old b j k<old.length
      ·have d1:decide ((j:Int)+(preAt old b j k:Int)<(old.length:Int))=true:=by simp;omega
       by_cases c2:k+preAt old b j k<b.length
       ·have d2:decide ((k:Int)+(preAt old b j k:Int)<(b.length:Int))=true:=by simp;omega
        have hne:=hst c1 c2;have d3:((old[j+preAt old b j k].toNat:Int)==(b[k+preAt old b j k].toNat:Int))=false:=by
         simp;exact fun e=>hne (UInt8.toNat_inj.1 (by omega))
        obtain⟨b1,o1,rfl,hs1,hc1⟩:=ha (j+preAt old b j k) c1;obtain⟨b2,o2,rfl,hs2,hc2⟩:=hb (k+preAt old b j k) c2;clear hne hst;go_wp2_with fail;go_quiet (fail)
        go_wp2_with fail;go_roundw
        case rel=>exact⟨j+1,_,by omega,by go_num,by rw[HT.out],by rw[HT.out],rfl⟩
        case measure=>simp[intOf]<;>omega
       have d2:decide ((k:Int)+(preAt old b j k:Int)<(b.length:Int))=false:=by simp;omega
       clear hst;go_wp2_with fail;go_quiet (fail)
       go_wp2_with fail;go_roundw
       case rel=>exact⟨j+1,_,by omega,by go_num,by rw[HT.out],by rw[HT.out],rfl⟩
       case measure=>simp[intOf]<;>omega
      have d1:decide ((j:Int)+(preAt old b j k:Int)<(old.length:Int))=false:=by simp;omega
      clear hst;go_wp2_with fail;go_quiet (fail)
      go_wp2_with fail;go_roundw
      case rel=>exact⟨j+1,_,by omega,by go_num,by rw[HT.out],by rw[HT.out],rfl⟩
      case measure=>simp[intOf]<;>omega
  go_wp2_with fail
  go_ret3
  refine⟨?_,_,rfl⟩;obtain rfl:j=old.length:=by omega
  rfl
end
theorem bts_win{w:World}{b o:Nat}{l:LU}(h:Bts w (some ⟨b,o,none⟩) l)(k n:Nat):Bts w (some ⟨b,o+k,none⟩) (win l k n):=by
 intro i hi;have hl:i<n∧k+i<l.length:=by unfold win at hi;simp only[List.length_take,List.length_drop]at hi;omega
 obtain⟨b',o',e,hlt,hc⟩:=h (k+i) hl.2;injection e with e;injection e with e1 e2;subst e1 e2;refine⟨b,o+k,rfl,hlt,?_⟩;rw[Nat.add_assoc,hc];simp[win]
theorem refLongest_calls(A B:OA)(c d:Nat)(old b:LU)(w:World)(k:Nat)(hml:ML w)(hc:old.length<=c)(hd:b.length<=d)(hl:old.length<=64)(hm:b.length<=64)(hk:k<=b.length)(ha:Bts w A old)(hb:Bts w B b):
  Calls Tryz.prog 118 #[.slice A old.length c,.slice B b.length d,iv k] w (RetN w (.tuple #[iv (longest old b k).1,iv (longest old b k).2])):=by
 obtain⟨m0,hm3⟩:∃m0:Nat,min (old.length:Int) ((b.length:Int)-(k:Int))=m0:=⟨(min (old.length:Int) ((b.length:Int)-(k:Int))).toNat,by omega⟩;have hbd:=longTo_le old b k old.length (Nat.le_refl _);have hL1:(longest old b k).2<=m0:=by unfold longest;omega
 have HL1:=qH hL1;have HA:=qH ha;have HB:=qH hb;have HML:=qH hml;have hm1:m0<=old.length:=by omega
 have hm1:k+m0<=b.length:=by omega
 clear ha hb hml hL1 hbd;go_enter Tryz.func118,Tryz.ntmps118;go_wp2_with fail;go_loopw [8] (fun x wr=>∃(m nd:Nat),x=.int .i64 (m:Int)∧(longest old b k).2<=m∧m<=m0∧w.drewN nd=wr) (fun x _=>(intOf x).toNat)
 case atStart=>exact⟨m0,0,int_eq (by omega),HL1.out,Nat.le_refl _,rfl⟩
 case round=>
  obtain⟨m,nd,rfl,h1,h2,rfl⟩:=hrel;by_cases h2:0<m
  ·have d2:(0:Int)<(m:Int):=by omega
   have hA1:A≠none:=fun e=>by
    obtain⟨bb,bo,e1,_⟩:=HA.out 0 (by omega);rw[e]at e1;cases e1
   obtain⟨aa,rfl⟩:=Option.ne_none_iff_exists'.1 hA1;obtain⟨bb,bo,rfl,_⟩:=HB.out 0 (by omega);have hwl:=win_len b k m (by omega);have hck:¬d=k:=by omega
   have hix:=index_calls aa ⟨bb,bo+k,none⟩ c (d-k) old (win b k m) (w.drewN nd) (HML.out.drewN nd) hc (by omega) (by omega) (HA.out.drewN nd) ((bts_win HB.out k m).drewN nd);rw[hwl]at hix;have HIX:=qH hix;clear hix hA1 hwl;have j1:(k:Int)+m<=(d:Int):=by omega
   have j1:(k:Int)<=(k:Int)+m:=by omega
   go_wp2_with fail;refine HIX.out.mono ?_;rintro e w1 ⟨rfl,n1,rfl⟩;rcases Lib.index_spec old (win b k m)with ⟨e1,_⟩|⟨i,e1,_,_,_⟩
   ·have hlt:=index_lt (by omega) (by omega) e1;rw[e1];clear e1 HIX h1;go_wp2_with fail;go_roundw
    case rel=>exact⟨m-1,nd+n1,int_eq (by omega),by omega,by omega,by rw[<-World.drewN_drewN]⟩
    case measure=>simp[intOf];omega
   have his:=index_is (by omega) (by omega) e1 h1;rw[e1];have HIS:=qH his;clear his e1 HIX h1;have d1:(0:Int)<=(i:Int):=by omega
   go_wp2_with fail;go_ret2;exact⟨ret2 (by rw[HIS.out];rfl) (by rw[HIS.out];rfl),nd+n1,by rw[<-World.drewN_drewN]⟩
  obtain rfl:m=0:=by omega
  have hz:=longest_zero (old:=old) (b:=b) (k:=k) (by omega);have HZ:=qH hz;clear hz h1;go_wp2_with fail;go_ret2;exact⟨ret2 (by rw[HZ.out];rfl) (by rw[HZ.out];rfl),nd,rfl⟩
section
open Go.RowKit Go.Shelf
attribute [local go_sem] Oper.semAt_some
def partV(b o len k:Nat):Value:=.slice (some ⟨b,o+16*k,none⟩) (min 16 (len-16*k)) (min 16 (len-16*k))
theorem run_min16(n:Nat)(w:World):(Builtin.min_ #[3,3] 3 #[.int .i64 16,.int .i64 (n:Int)]).run Tryz.prog w=.ok (.int .i64 ((min 16 n:Nat):Int)) w:=by
 by_cases h:(n:Int)<(16:Int)
 ·have e:min 16 n=n:=by omega
  rw[e];go_simp<;>omega
 have e:min 16 n=16:=by omega
 rw[e];go_simp<;>omega
theorem chunk1_in(n:Nat)(hn:1<=n)(l Bs Bn n₀ b o len cap:Nat)(hlc:len<=cap)(hlm:len<=1048576)(hs:Bs<n₀)(hnn:Bn<n₀)(J Jx:List Nat->World->Prop)(hJd:∀s W,J s W->J s W.drew)
  (hY:∀pre x W,J pre W->pre.length<(len+15) / 16->YieldAt Fence.wide (n-1) Tryz.prog l #[partV b o len x] W fun e W'=>
    (e=.returned (.bool true)∧J (pre++[x]) W'∧Below n₀ W W')∨(e=.returned (.bool false)∧Jx (pre++[x]) W'))
  (W:World) (hBs:W.cell? ⟨Bs,0,none⟩=some (.slice (some ⟨b,o,none⟩) len cap)) (hBn:W.cell? ⟨Bn,0,none⟩=some (.int .i64 16)) (h0:J [] W):
  CallsIn Fence.wide n Tryz.prog 121 #[.func (.yield l) #[] #[],.pointer (some ⟨Bs,0,none⟩),.pointer (some ⟨Bn,0,none⟩)] W fun e W'=>(∃v,e=.returned v)∧
   ((∃ys,ys=List.range ((len+15) / 16)∧J ys W')∨(∃pre,True∧Jx pre W')):=by
 refine callsIn_of_wp Tryz.func121 rfl trivial ?_ rfl;simp only[Tryz.ntmps121,List.size_toArray,List.length_cons,List.length_nil,Nat.reduceAdd,Nat.reduceSub,Array.replicate_succ,Array.replicate_zero,List.push_toArray,List.append_toArray,List.nil_append,List.cons_append]
 gi_wp2
 gi_loopw [4] (fun i wr=>∃k:Nat,k<=(len+15) / 16∧i=.int .i64 ((16*k:Nat):Int)∧J (List.range k) wr∧Below n₀ W wr)
  (fun i _=>len+16-(intOf i).toNat)
 case atStart=>exact⟨0,Nat.zero_le _,rfl,h0,Below.refl _ _⟩
 case round=>
  obtain⟨k,hk,rfl,hJs,hnx⟩:=hrel;have hc1:=(hnx.cell (p:=⟨Bs,0,none⟩) hs).trans hBs;have hc1:=(hnx.cell (p:=⟨Bn,0,none⟩) hnn).trans hBn;by_cases hlt:16*k<len
  ·obtain⟨fn,tmps,assign,body,hy,hR⟩:=hY _ k wr.drew (hJd _ _ hJs) (by simp;omega);have hmin:=run_min16 (len-16*k);have hp:partV b o len k=.slice (some ⟨b,o+16*k,none⟩) (min 16 (len-16*k)) (min 16 (len-16*k)):=rfl;rw[hp]at hy;obtain⟨en,hen⟩:∃en,min 16 (len-16*k)=en:=⟨_,rfl⟩;rw[hen]at hmin hy;obtain⟨i,hi⟩:∃i,16*k=i:=⟨_,rfl⟩;rw[hi]at hmin hy hlt hen⊢;have he1:1<=en:=by omega
   have he1:i+en<=len:=by omega
   have he1:en<=16:=by omega
   have hw1:IntKind.i64.wrap ((i:Int)+(en:Int))=((i+en:Nat):Int):=by rw[show (i:Int)+(en:Int)=((i+en:Nat):Int) by omega];exact IntWalk.i64_in _ (by omega)
   have dl:decide ((i:Int)<(len:Int))=true:=decide_eq_true (by omega);clear hen hp
   gi_wp2
   gi_region
   gi_wp2
   refine hR.mono ?_;rintro e W1 (⟨rfl,hJ1,hk1⟩|⟨rfl,hJx1⟩)
   ·have hc1:=(hk1.cell (p:=⟨Bn,0,none⟩) hnn).trans hc1;have hw1:IntKind.i64.wrap ((i:Int)+16)=((i+16:Nat):Int):=by rw[show (i:Int)+16=((i+16:Nat):Int) by omega];exact IntWalk.i64_in _ (by omega)
    gi_wp2
    go_roundw
    case rel=>exact⟨k+1,by omega,by rw[show 16*(k+1)=i+16 by omega];simp,by rw[List.range_succ];exact hJ1,hnx.trans ((Below.refl n₀ wr).drew.trans hk1)⟩
    case measure=>simp[intOf];omega
   gi_wp2
   refine bodyPost_ret (results_none rfl _ _ _) rfl ?_;exact⟨⟨_,rfl⟩,.inr ⟨_,trivial,hJx1⟩⟩
  obtain rfl:k=(len+15) / 16:=by omega
  have dl:decide (((16*((len+15) / 16):Nat):Int)<(len:Int))=false:=decide_eq_false (by omega)
  gi_wp2
  go_end0
  exact⟨⟨_,rfl⟩,.inl ⟨_,rfl,hJs⟩⟩
theorem grownBy_drew0(w:World):w.grownBy w.drew none:=⟨rfl,rfl,rfl,Nat.le_refl _,fun _ _ _=>rfl⟩
theorem chunk_stops(n:Nat)(hn:1<=n)(Bs Bn n₀ b o len cap:Nat)(hlc:len<=cap)(hlm:len<=1048576)(hs:Bs<n₀)(hnn:Bn<n₀)(w:World)(h0:n₀<=w.heap.size)
  (hBs:w.cell? ⟨Bs,0,none⟩=some (.slice (some ⟨b,o,none⟩) len cap)) (hBn:w.cell? ⟨Bn,0,none⟩=some (.int .i64 16)):
  SeqStopsK Fence.wide n Tryz.prog 121 #[.pointer (some ⟨Bs,0,none⟩),.pointer (some ⟨Bn,0,none⟩)] (fun x:Nat=>#[partV b o len x]) (Below n₀) (fun ys=>ys=List.range ((len+15) / 16)) (fun _=>True) ((len+15) / 16) w:=fun l J Jx W hW hJ _ hY hJ0=>by
 refine(chunk1_in n hn l Bs Bn n₀ b o len cap hlc hlm hs hnn J Jx (fun s W' h=>hJ s W' _ none h (grownBy_drew0 W') (fun r e=>by cases e)) hY W ((hW.cell (p:=⟨Bs,0,none⟩) (by show Bs<_;omega)).trans hBs) ((hW.cell (p:=⟨Bn,0,none⟩) (by show Bn<_;omega)).trans hBn) hJ0).mono ?_;rintro e W' h;exact h
theorem chunk_in(n:Nat)(A:OA)(len cap:Nat)(w:World):
  CallsIn Fence.wide n Tryz.prog 85 #[.slice A len cap,.int .i64 16] w fun e w'=>e=.returned (.func (.func 121) #[] #[.pointer (some ⟨w.heap.size,0,none⟩),.pointer (some ⟨w.heap.size+1,0,none⟩)])∧w'=(w.alloc (.cells #[.slice A len cap] 23)).alloc (.cells #[.int .i64 16] 3):=by
 refine callsIn_of_wp Tryz.func85 rfl trivial ?_ rfl;simp only[Tryz.ntmps85,List.size_toArray,List.length_cons,List.length_nil,Nat.reduceAdd,Nat.reduceSub,Array.replicate_succ,Array.replicate_zero,List.push_toArray,List.append_toArray,List.nil_append,List.cons_append]
 gi_wp2
 go_ret;exact⟨rfl,rfl⟩
theorem info_bytes:(Tryz.prog.info? 23).map (fun i=>(i.zero,i.size,i.bytes))=some (some (.slice none 0 0),1,24):=by kernel_rfl
theorem appendSeq_in(n:Nat)(hn:3<=n)(gf:Nat)(lb:Array Value)(eg:∀args w,(callFunc gf args).run Tryz.prog w=.ok (.enter gf args) w)(A:Nat->Option Addr)(a b:Nat->Nat)(m:Nat)(hm:m<=1048576)(w:World)
  (hst:SeqStopsK Fence.wide (n-1) Tryz.prog gf lb (fun x:Nat=>#[Value.slice (A x) (a x) (b x)]) (Below w.heap.size) (fun ys=>ys=List.range m) (fun _=>True) m w):
  CallsIn Fence.wide n Tryz.prog 120 #[.slice none 0 0,.func (.func gf) #[] lb] w fun e W'=>∃v,e=.returned v∧W'.ownsRow w.heap.size 23 1 v m ((List.range m).map (fun x:Nat=>Value.slice (A x) (a x) (b x)))∧Below w.heap.size w W':=by
 have h1:1<=n:=by omega
 obtain⟨i1,hi,hz3,hz1,hz2⟩:=info_parts (info_bytes);refine callsIn_of_wp_marks Tryz.func120 rfl trivial ?_ rfl;simp only[Tryz.ntmps120,List.size_toArray,List.length_cons,List.length_nil,Nat.reduceAdd,Nat.reduceSub,Array.replicate_succ,Array.replicate_zero,List.push_toArray,List.append_toArray,List.nil_append,List.cons_append]
 gi_wp2
 have bO:=Boxed.new w 22 (.slice none 0 0);have hB1:Below w.heap.size w (w.alloc (.cells #[.slice none 0 0] 22)):=(Below.refl _ w).alloc (Nat.le_refl _) _;refine wpIn_rangeFunc_ownG rfl h1 (gf:=gf) (lb:=lb) rfl trivial eg hst belowK_t (belowK_b (by simp)) hB1 (fun _=>rfl)
  (fun (pre:List Nat) W=>(∃v,Boxed W w.heap.size 22 v∧W.ownsRow w.heap.size 23 1 v pre.length (pre.map (fun x:Nat=>Value.slice (A x) (a x) (b x)))∧True)∧Below w.heap.size w W)
  (fun _ _ _=>False)
  (OwnFrom.and (Own.from (holdsRow_own w.heap.size w.heap.size 22 23 1 (fun pre:List Nat=>pre.length) (fun pre=>pre.map (fun x:Nat=>Value.slice (A x) (a x) (b x))) (fun pre v=>True)) _) (ownFrom_below (Nat.le_refl _) (by simp)))
  (fun _ _ _ _ _ hs _ _=>hs)
  ⟨⟨_,bO,World.ownsRow_nil _ _ _ _,trivial⟩,hB1⟩
  (fun x=>{tmps:=#[.slice none 0 0,.func (.func gf) #[] lb,.pointer (some ⟨w.heap.size,0,none⟩),undef,.slice none 0 0,Value.slice (A x) (a x) (b x),.func (.func gf) #[] lb,Value.slice (A x) (a x) (b x),undef,undef,undef,undef,undef],defers:=[]}) ?assign ?body ?done ?stop
 case assign=>
  intro l x W K hK
  gi_wp2
  exact hK
 case body=>
  rintro l pre x W ⟨⟨v,hv,hrow,_⟩,hB⟩ hlt;have hc:=hv.cell
  gi_wp2_with (gi_at_builtin;refine wpListIn_append_own _ rfl _ _ 22 rfl w.heap.size 23 i1 (.slice none 0 0) 1 24 Tryz.underlying22 hi hz3 hz1 hz2 rfl (by decide) _ _ _ rfl (hrow.alloc _) ⟨W.heap.size,0,none⟩ 1 1 [Value.slice (A x) (a x) (b x)] rfl rfl (cell_one_new _ _ _) (by simp[Value.oneCell']) (by simp[maxLen];omega) (by omega) (by have:=hB.size;simp;omega) ?_;intro v' w1 hown' hgrow _;obtain⟨g',cap',rfl⟩:=ownsRow_succ hown';obtain⟨hv1,hv2,hr2,hk2,hb2⟩:=hv.appended (by decide) hrow hB.size (Nat.le_refl _) hown' hgrow;have hc1:=hv1.cell;have hf1:=hv1.frozen)
  exact⟨hk2.from _,hb2,⟨_,hv2,by simpa using hr2,trivial⟩,hB.trans hb2⟩
 case done=>
  rintro D ys W hD rfl ⟨⟨v,hv,hrow,_⟩,hB⟩ hK;have hc:=hv.cell
  gi_wp2
  refine⟨by simp,.inl ⟨_,_,rfl,run_takeDeferred hK,?_⟩⟩;exact⟨_,results_tmp rfl _ _ _,v,rfl,by simpa using ownsRow_putObj hrow _ hK rfl,hB.trans (belowK_b (w:=w) (Nat.le_refl _) W D _ _ (by simp at hD;omega) hK rfl rfl)⟩
 case stop=>
  rintro D c pre W _ _ h _;exact h.elim
theorem collectChunk_calls(Bs Bn b o len cap:Nat)(hlc:len<=cap)(hlm:len<=1048576)(w:World)(hs:Bs<w.heap.size)(hnn:Bn<w.heap.size)
  (hBs:w.cell? ⟨Bs,0,none⟩=some (.slice (some ⟨b,o,none⟩) len cap)) (hBn:w.cell? ⟨Bn,0,none⟩=some (.int .i64 16)):
  Calls Tryz.prog 84 #[.func (.func 121) #[] #[.pointer (some ⟨Bs,0,none⟩),.pointer (some ⟨Bn,0,none⟩)]] w
   (fun e w'=>∃v,e=.returned v∧w'.ownsRow w.heap.size 23 1 v ((len+15) / 16) ((List.range ((len+15) / 16)).map (partV b o len))∧Below w.heap.size w w'):=by
 refine(callsIn_wide (n:=9)).1 ?_;refine callsIn_of_wp Tryz.func84 rfl trivial ?_ rfl;simp only[Tryz.ntmps84,List.size_toArray,List.length_cons,List.length_nil,Nat.reduceAdd,Nat.reduceSub,Array.replicate_succ,Array.replicate_zero,List.push_toArray,List.append_toArray,List.nil_append,List.cons_append]
 gi_wp2
 refine⟨trivial,?_⟩;refine(appendSeq_in 8 (by decide) 121 _ (enters_of Tryz.func121 (by kernel_rfl) rfl) (fun k=>some ⟨b,o+16*k,none⟩) (fun k=>min 16 (len-16*k)) (fun k=>min 16 (len-16*k)) ((len+15) / 16) (by omega) w (chunk_stops 7 (by decide) Bs Bn w.heap.size b o len cap hlc hlm hs hnn w (Nat.le_refl _) hBs hBn)).mono ?_;rintro e w' ⟨v,rfl,hrow,hb⟩
 gi_wp2
 go_ret;exact⟨v,rfl,hrow,hb⟩
theorem chunk_calls(A:OA)(len cap:Nat)(w:World):
  Calls Tryz.prog 85 #[.slice A len cap,.int .i64 16] w (fun e w'=>e=.returned (.func (.func 121) #[] #[.pointer (some ⟨w.heap.size,0,none⟩),.pointer (some ⟨w.heap.size+1,0,none⟩)])∧w'=(w.alloc (.cells #[.slice A len cap] 23)).alloc (.cells #[.int .i64 16] 3)):=
 (callsIn_wide (n:=1)).1 (chunk_in 1 A len cap w)
end
theorem elRowsB:El Tryz.prog 22 23 1 5864062014805:=⟨Tryz.underlying22,by
 obtain⟨i,h⟩:=info_parts (P:=Tryz.prog) (e:=23) (z:=.slice none 0 0) (size:=1) (bytes:=24) (by kernel_rfl);exact⟨i,_,h.1,h.2.1,h.2.2.1,by omega,rfl⟩,by omega⟩
theorem cloneRows_calls(A:OA)(n c:Nat)(cs:List Value)(w:World)(hl:cs.length=n*1)(hn0:n<=5864062014805)(hr:Src w A cs)(h1:∀u∈cs,u.oneCell'=true):
  Calls Tryz.prog 51 #[.slice A n c] w (SlRet w 23 1 n cs):=by
 rcases A with _|ad
 ·have h1:cs.length=0:=by
   exact x5fs
  obtain rfl:n=0:=by omega
  obtain rfl:cs=[]:=List.eq_nil_of_length_eq_zero h1;have hn:=fun (wx:World) (a:OA) (n c n' c':Nat)=>Lib.run_eql_slice_nil (P:=Tryz.prog) wx 22 23 a n c n' c' Tryz.underlying22;clear h1 hl;go_enter Tryz.func51,Tryz.ntmps51;exact x4d9
 have hn:=fun (wx:World) (a:OA) (n c n' c':Nat)=>Lib.run_eql_slice_nil (P:=Tryz.prog) wx 22 23 a n c n' c' Tryz.underlying22;have ho:Own (w.alloc (.cells #[] 23)) w.heap.size 23 1 (some ⟨w.heap.size,0,none⟩) 0 0 []:=own_zero w _ _;have hs:=hr.stays ((Below.refl w.heap.size w).alloc (Nat.le_refl _) (.cells #[] 23));have hb1:0+n<=5864062014805:=by omega
 have hb2:w.heap.size<=(w.alloc (.cells #[] 23)).heap.size:=by simp
 have HL:=qH hl;clear hl;go_enter Tryz.func51,Tryz.ntmps51;go_wp2_with (at_builtin;refine wpList_app _ rfl _ _ 22 rfl elRowsB w.heap.size (some ⟨w.heap.size,0,none⟩) 0 0 [] rfl ho (some ad) n c cs rfl hs HL.out h1 hb1 hb2 ?_;intro A' c' w1 hown hg hb hx);exact x6v2
theorem cloneOps_calls(A:OA)(n c:Nat)(cs:List Value)(w:World)(hl:cs.length=n*3)(hn0:n<=3518437208883)(hr:Src w A cs)(h1:∀u∈cs,u.oneCell'=true):
  Calls Tryz.prog 143 #[.slice A n c] w (SlRet w 145 3 n cs):=by
 rcases A with _|ad
 ·have h1:cs.length=0:=by
   exact x5fs
  obtain rfl:n=0:=by omega
  obtain rfl:cs=[]:=List.eq_nil_of_length_eq_zero h1;have hn:=fun (wx:World) (a:OA) (n c n' c':Nat)=>Lib.run_eql_slice_nil (P:=Tryz.prog) wx 34 145 a n c n' c' Tryz.underlying34;clear h1 hl;go_enter Tryz.func143,Tryz.ntmps143;exact x4d9
 have hn:=fun (wx:World) (a:OA) (n c n' c':Nat)=>Lib.run_eql_slice_nil (P:=Tryz.prog) wx 34 145 a n c n' c' Tryz.underlying34;have ho:Own (w.alloc (.cells #[] 145)) w.heap.size 145 3 (some ⟨w.heap.size,0,none⟩) 0 0 []:=own_zero w _ _;have hs:=hr.stays ((Below.refl w.heap.size w).alloc (Nat.le_refl _) (.cells #[] 145));have hb1:0+n<=3518437208883:=by omega
 have hb2:w.heap.size<=(w.alloc (.cells #[] 145)).heap.size:=by simp
 have HL:=qH hl;clear hl;go_enter Tryz.func143,Tryz.ntmps143;go_wp2_with (at_builtin;refine wpList_app _ rfl _ _ 34 rfl elOpsB w.heap.size (some ⟨w.heap.size,0,none⟩) 0 0 [] rfl ho (some ad) n c cs rfl hs HL.out h1 hb1 hb2 ?_;intro A' c' w1 hown hg hb hx);exact x6v2
theorem elErrs:El Tryz.prog 70 43 1:=⟨Tryz.underlying70,by
 obtain⟨i,h⟩:=info_parts (P:=Tryz.prog) (e:=43) (z:=.int .i64 0) (size:=1) (bytes:=8) (by kernel_rfl);exact⟨i,_,h.1,h.2.1,h.2.2.1,by omega,rfl⟩,by omega⟩
section
open Go.RowKit Go.WideShapes Go.ChangeShapes Go.ChangeAt
theorem reads_chk{H:Type}{enc:TypeId×Value->H}{w:World}{sp:Nat->Bool}{held:Bool}:ReadBy enc Tryz.prog w sp held 61 rChk:=
 readBy_chk Tryz.underlying61 (by kernel_rfl) rfl rfl rfl rfl rfl (by kernel_rfl) (by kernel_rfl) (by kernel_rfl) (by kernel_rfl) (by kernel_rfl)
  Tryz.underlying3 Tryz.underlying3 Tryz.underlying3 Tryz.underlying3 Tryz.underlying23 Tryz.underlying5 (by kernel_rfl)
end
section
open Go.RowKit Go.WideShapes Go.ChangeShapes Go.ChangeAt
end
