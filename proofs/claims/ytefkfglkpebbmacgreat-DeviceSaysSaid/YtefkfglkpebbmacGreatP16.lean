/- Walks of functions, and plain words. No conditions. -/
import Derived.Test.YtefkfglkpebbmacGreatP1
import Derived.Lib.MakeNoZero
set_option linter.unusedVariables false
set_option linter.unusedSimpArgs false
set_option maxRecDepth 100000
set_option maxHeartbeats 40000000
namespace Go.Proofs.YtefkfglkpebbmacGreat
open Go.RowKit
variable {Y:Prop}
variable {k:Nat} {R:List Value}
theorem x6d0(h:Y:=by
 have e1:=fO 9 (.slice (some ⟨g,0,none⟩) n n) h;exact mx_move (ch_ev e1)):Y:=h
def filledR(x:UInt8)(k:Nat)(R:List Value):List Value:=List.replicate k (bv x)++R.drop k
theorem filledR_len(x:UInt8)(h:k<=R.length):(filledR x k R).length=R.length:=by unfold filledR;simp;omega
theorem filledR_zero(x:UInt8)(R:List Value):filledR x 0 R=R:=by simp[filledR]
theorem filledR_more(x:UInt8){m:Nat}(h:k+m<=R.length):Go.splice (filledR x k R) k (List.replicate m (bv x))=filledR x (k+m) R:=by
 unfold filledR Go.splice;rw[List.take_append_of_le_length (by simp),List.length_replicate,List.drop_append,List.length_replicate,List.take_of_length_le (by simp),List.drop_eq_nil_of_le (by simp),List.nil_append,<-List.append_assoc,List.replicate_append_replicate,List.drop_drop];congr 2;omega
theorem filledR_at(x:UInt8){j:Nat}(h:j<k):(filledR x k R)[j]?=some (bv x):=by
 unfold filledR;rw[List.getElem?_append_left (by simpa using h),List.getElem?_replicate];simp[h]
def rbJ(wo:World)(g:Nat)(x:UInt8)(k m:Nat)(R:List Value)(done:Nat->Bool)(cv:Nat->Value)(w:World):Prop:=
 if done 7=true then cv 7=iv (m:Int)∧w.heap[g]?=some (.cells (filledR x (k+m) R).toArray 5 (0,0))∧Below g wo w else w=wo.drew
def BsRet(w:World)(l:LU):Ending->World->Prop:=fun en w'=>∃A c,en=.returned (.slice A l.length c)∧l.length<=c∧Bts w' A l∧Below w.heap.size w w'
theorem bts_filledR{w:World}{g n:Nat}{x:UInt8}(h:w.heap[g]?=some (.cells (filledR x n R).toArray 5 (0,0))):Bts w (some ⟨g,0,none⟩) (List.replicate n x):=by
 intro i hi;rw[List.length_replicate]at hi;refine⟨g,0,rfl,blk_lt h,?_⟩;rw[Nat.zero_add,cell_of_row _ _ _ _ _ _ h,List.getElem?_toArray,filledR_at x hi,List.getElem_replicate]
theorem repeatB_calls(A:OA)(c:Nat)(x:UInt8)(n:Nat)(w:World)(hn:1<=n)(hn2:n<=1000)(hA:Bts w A [x]):
  Calls Tryz.prog 108 #[.slice A 1 c,iv n] w (BsRet w (List.replicate n x)):=by
 obtain⟨a,o,rfl,hlt,hc⟩:=hA 0 (by simp);simp only[Nat.add_zero,List.getElem_cons_zero]at hc;have HC:=qH hc;clear hA hc;have d3:((n:Int)==0)=false:=by simp;omega
 have d1:¬(n:Int)<0:=by omega
 have u1:IntKind.u64.wrap (n:Int)=(n:Int):=by rw[IntKind.wrap_u64];omega
 have i1:IntKind.i64.wrap (n:Int)=(n:Int):=IntWalk.i64_in _ (by omega);obtain⟨cs,hrunM,hle,_⟩:=Lib.run_makeNoZero (P:=Tryz.prog) w #[3] 22 5 Tryz.underlying22 n (by omega);have hcall:(callFunc 115 #[iv (n:Int)]).run Tryz.prog w=.ok (.value (.slice (some ⟨w.heap.size,0,none⟩) n cs.size)) ((w.alloc (.cells cs 5)).drewN 2):=by
  rw[run_callFunc_extern Tryz.func115 (by kernel_rfl) (by kernel_rfl) (by kernel_rfl) (e:=Extern.BytealgMakeNoZero.makeNoZero #[3] #[22]) (by kernel_rfl),hrunM];rfl
 clear hrunM;have s1:(n:Int)<=(cs.size:Int):=by omega
 have s1:(0:Int)<=(n:Int):=by omega
 have s1:decide ((8192:Int)<(n:Int))=false:=by simp;omega
 go_enter Tryz.func108,Tryz.ntmps108;go_wp2_with fail;refine(mul1_calls n w (by omega)).mono ?_;rintro e w1 ⟨rfl,rfl⟩;have d1:decide ((9223372036854775807:Int)<(n:Int))=false:=by simp;omega
 have hb1:Below w.heap.size w ((w.alloc (.cells cs 5)).drewN 2):=Below.drewN' (bL _) 2;have hg1:((w.alloc (.cells cs 5)).drewN 2).heap[w.heap.size]?=some (.cells cs 5 (0,0)):=blk_top rfl;have hca:=(hb1.cell (p:=⟨a,o,none⟩) hlt).trans HC.out;obtain⟨R,hR⟩:∃R,R=cs.toList:=⟨_,rfl⟩;have hcs:cs=R.toArray:=by rw[hR,Array.toArray_toList]
 have hRl:n<=R.length:=by rw[hR];simpa using hle
 have hcp:(Builtin.copy_ #[22,22] 3 #[.slice (some ⟨w.heap.size,0,none⟩) n n,.slice (some ⟨a,o,none⟩) 1 c]).run Tryz.prog ((w.alloc (.cells cs 5)).drewN 2)=.ok (iv 1) (((w.alloc (.cells cs 5)).drewN 2).setRow w.heap.size (filledR x 1 R).toArray):=by
  have:=run_copy_row (P:=Tryz.prog) ((w.alloc (.cells cs 5)).drewN 2) 22 22 3 5 w.heap.size 0 n n ⟨a,o,none⟩ 1 c cs 5 [bv x] Tryz.underlying22 (by kernel_rfl) hg1 (by simp[Nat.min_def];omega)
   (fun j v hv=>by
     obtain⟨hj,rfl⟩:=List.getElem?_eq_some_iff.1 hv;have e1:j=0:=by simp at hj;omega
     subst e1;simpa[Addr.add]using hca) (by simp;omega) (by simp[Value.oneCell'])
  rw[this];have e:=filledR_more x (k:=0) (m:=1) (R:=R) (by omega);unfold Go.splice at e;rw[filledR_zero]at e;simp only[Nat.zero_add]at e⊢;rw[show (List.replicate 1 (bv x))=[bv x] from rfl]at e;rw[<-hR,List.append_assoc,e];rfl
 have hf1:Hid ((((w.alloc (.cells cs 5)).drewN 2).setRow w.heap.size (filledR x 1 R).toArray).heap[w.heap.size]?=some (.cells (filledR x 1 R).toArray 5 (0,0))):=qH (setRow_heap _ _ _ _ _ _ hg1);have HB1:Hid (Below w.heap.size w (((w.alloc (.cells cs 5)).drewN 2).setRow w.heap.size (filledR x 1 R).toArray)):=qH (below_row hb1 nl _);clear hg1 hb1 hca hR hcs;go_wp2_with fail;clear hcp hcall;generalize ((w.alloc (.cells cs 5)).drewN 2).setRow w.heap.size (filledR x 1 R).toArray=w2 at *
 generalize hgg:w.heap.size=g at *
 go_loopw [10] (fun y wr=>∃(k:Nat),y=iv (k:Int)∧1<=k∧k<=n∧Hid (wr.heap[g]?=some (.cells (filledR x k R).toArray 5 (0,0)))∧Hid (Below g w wr)) (fun y _=>n-(intOf y).toNat)
 case atStart=>exact⟨1,rfl,by omega,hn,hf1,HB1⟩
 case round=>
  rename World=>wo;obtain⟨k,rfl,hk1,hkn,HF,HB⟩:=hrel;by_cases hlt:k<n
  ·obtain⟨m,hm⟩:∃m,m=Nat.min k (n-k):=⟨_,rfl⟩;have hm1:1<=m∧k+m<=n:=by rw[hm];simp only[Nat.min_def];split<;>omega
   have HM:=qH hm;have HMK:Hid ((k:Int)<=(n:Int)):=qH (by omega);have HMK1:Hid (m<=k):=qH (by rw[hm];exact Nat.min_le_left _ _);have HMN:Hid (k+m<=R.length):=qH (by omega);have HK:Hid (k<=R.length):=qH (by omega);have HNK:Hid (¬n=k):=qH (by omega);have HKN:Hid ((k:Int)<=(n:Int)):=qH (by omega);have HI:Hid (IntKind.i64.wrap ((k:Int)+(m:Int))=(k:Int)+(m:Int)):=qH (IntWalk.i64_in _ (by omega));have dk:decide ((k:Int)<(n:Int))=true:=by simp;omega
   have dm:min (k:Int) (n:Int)=(k:Int):=by omega
   clear hm hf1 HB1;go_wp2_with fail;refine wp_region_free (by kernel_rfl) (some 67::some 68::some 69::some 70::some 71::some 72::some 73::some 74::some 75::some 10::[]) (false::false::false::false::false::false::false::true::false::false::[]) (iv ((k:Nat):Int)::.slice (some ⟨g,0,none⟩) n n::iv ((k:Nat):Int)::.slice (some ⟨g,(k:Nat),none⟩) (n-k) (n-k)::.slice (some ⟨g,0,none⟩) n n::iv ((k:Nat):Int)::.slice (some ⟨g,0,none⟩) k n::undef::iv ((k+m:Nat):Int)::iv ((k+m:Nat):Int)::[]) (rbJ wo g x k m R) 77 rfl rfl (by decide+kernel) (by decide+kernel) (by decide+kernel) rfl rfl (by rw[rbJ,if_neg (by simp)]) ?_ ?_
   ·refine⟨?_,?_,?_,?_,?_,?_,?_,?_,?_,?_,trivial⟩;all_goals intro done cv a wq hn hw hcl h hJ
    ·have e1:=fr_un (t:=10) (i:=0) (i0:=9) (v:=iv ((k:Nat):Int)) h hcl hn rfl (by decide) (by decide) rfl;exact mx_move (ch_ev e1)
    ·exact x6d0
    ·have e1:=fr_un (t:=10) (i:=2) (i0:=9) (v:=iv ((k:Nat):Int)) h hcl hn rfl (by decide) (by decide) rfl;exact mx_move (ch_ev e1)
    ·have e1:=fN 1 68 h hw;have e69:=fN 2 69 h hw;have hnk:=HNK.out;have hkn:=HKN.out;go_simp
    ·exact x6d0
    ·have e1:=fO 11 (iv ((k:Nat):Int)) h;exact mx_move (ch_ev e1)
    ·have e1:=fN 4 71 h hw;have e72:=fN 5 72 h hw;exact x2m3
    ·have e3:=fN 3 70 h hw;have e73:=fN 6 73 h hw;have hd:¬maskB [false,false,false,false,false,false,false,true,false,false] done 7=true:=by unfold maskB;rw[hn];simp
     rw[rbJ,if_neg hd]at hJ;obtain rfl:wq=wo.drew:=hJ;refine wp_copy rfl (.tmp 70) (.tmp 73) 22 22 rfl 5 Tryz.underlying22 (by kernel_rfl) _ _ _ _ _ _ (ch_ev e3) (ch_ev e73) g k (filledR x k R) 5 HF.out (List.replicate m (bv x)) (by rw[List.length_replicate];exact HM.out) (fun _=>⟨rfl,_,rfl,fun j v hv=>?_⟩) (by rw[filledR_len x HK.out,List.length_replicate];exact HMN.out) (fun v hv=>by rw[List.eq_of_mem_replicate hv];rfl) g wo ((Below.refl _ _).drew) nl ?_
     ·obtain⟨hj,rfl⟩:=List.getElem?_eq_some_iff.1 hv;rw[List.length_replicate]at hj;have e1:=filledR_at x (R:=R) (show j<k by have:=HMK1.out;omega);exact x0wu
     intro w' hg' hb';rw[filledR_more x HMN.out]at hg';exact⟨_,rfl,by rw[rbJ,if_pos (by simp)];exact⟨by simp[goInt],hg',hb'⟩⟩
    ·have e1:=fN 0 67 h hw;have e74:=fr_cv (i:=7) (t:=74) h (hw 7 (by decide)) rfl rfl;have hd:maskB [false,false,false,false,false,false,false,true,false,false] done 7=true:=by unfold maskB;rw[hw 7 (by decide)];rfl
     rw[rbJ,if_pos hd]at hJ;rw[hJ.1]at e74;have hi:=HI.out;go_simp
    ·have e1:=fN 8 75 h hw;exact mx_assign (ch_ev e1)
   intro d cv w1 hall hJ;rw[rbJ,if_pos (hall 7 rfl (by decide))]at hJ;exact x6lk
  obtain rfl:k=n:=by omega
  have dk:decide ((k:Int)<(k:Int))=false:=by simp
  go_wp2_with fail;go_ret;exact⟨some ⟨g,0,none⟩,k,by simp,by simp,bts_filledR HF.out,hgg▸HB.out⟩
theorem x0cq(h:Y:=by
 have HZ:=qH hz;clear hz;go_wp2_with fail;go_quiet (fail)
 go_wp2_with fail;go_ret2;exact⟨none,0,by rw[<-HZ.out];rfl,by rw[<-HZ.out];exact Own.nil_ _ _ _ _,HBE.out▸Below.drewN' HB.out _⟩):Y:=h
theorem refUnpack_calls(Ab:OA)(cb:Nat)(b:LU)(most:Int)(w:World)(hc:b.length<=cb)(hl:b.length<=4194304)(hm:I64 most)(hB:Bts w Ab b):
  Calls Tryz.prog 91 #[.slice Ab b.length cb,iv most] w (UnRet w (unpacked b most)):=by
 obtain⟨hm1,hm2⟩:=hm;have HB3:=qH hB;have HBB:Hid (Below w.heap.size w w):=qH (Below.refl _ _);have HO1:Hid (Own w w.heap.size 5 1 none 0 0 (([]:List UInt8).map bv)):=qH (Own.nil_ _ _ _ _);clear hB;go_enter Tryz.func91,Tryz.ntmps91;go_wp2_with fail;generalize hbase:w.heap.size=base at *
 have HBE:=qH hbase;clear hbase;go_loopw [6,7] (fun o i wr=>∃(k:Nat) (out:LU) (B:OA) (d:Nat),o=.slice B out.length d∧i=iv (k:Int)∧k<=b.length∧Hid (unpackAt most (b.drop k) out=unpacked b most)∧out.length<=127*k∧Hid (Own wr base 5 1 B out.length d (out.map bv))∧Hid (Below base w wr)) (fun _ i _=>b.length-(intOf i).toNat)
 case atStart=>exact⟨0,[],none,0,rfl,rfl,Nat.zero_le _,qH rfl,by simp,HO1,HBB⟩
 case round=>
  clear HO1 HBB;rename World=>wo;obtain⟨k,out,B,d,rfl,rfl,hk,HE,hob,HO,HB⟩:=hrel;by_cases hlt:k<b.length
  ·have dl:decide ((k:Int)<(b.length:Int))=true:=decide_eq_true (by omega);obtain⟨ab,ao,rfl,hab,hx⟩:=(HB3.out.stays (HBE.out▸HB.out)) k hlt;obtain⟨x,hxe⟩:=eX (b[k]);obtain⟨r,hre⟩:=eX (b.drop (k+1));have hdr:b.drop k=x::r:=by rw[List.drop_eq_getElem_cons hlt,hxe,hre]
   rw[hdr]at HE;rw[hxe]at hx;have hrl:r.length=b.length-(k+1):=by rw[<-hre,List.length_drop]
   have HRE:=qH hre;have hxl:=x.toNat_lt;obtain⟨n,hn⟩:∃n,n=x.toNat%128:=⟨_,rfl⟩;have hxn:(x.toNat:Int)%128=(n:Int):=by omega
   have hxt:(x.toNat:Int).tmod 128=(n:Int):=by rw[Int.tmod_eq_emod_of_nonneg (by omega)];exact hxn
   have hn1:n<128:=by omega
   have HN:=qH hn;clear hn hre hdr hxe;have hwk:IntKind.i64.wrap ((k:Int)+1)=(k:Int)+1:=IntWalk.i64_in _ (by omega);have hw1:IntKind.i64.wrap ((b.length:Int)-((k:Int)+1))=(b.length:Int)-((k:Int)+1):=IntWalk.i64_in _ (by omega);have hw1:IntKind.i64.wrap ((out.length:Int)+(n:Int))=(out.length:Int)+(n:Int):=IntWalk.i64_in _ (by omega);have hw1:IntKind.i64.wrap ((k:Int)+1+(n:Int))=(k:Int)+1+(n:Int):=IntWalk.i64_in _ (by omega);by_cases n1:n=0
   ·subst n1;have hz:(([]:List UInt8),(3:Int))=unpacked b most:=by rw[<-HE.out,unpackAt_zero HN.out.symm]
    clear HE;exact x0cq
   have dn:((n:Int)==0)=false:=by simp;omega
   have hn1:x.toNat%128≠0:=by rw[<-HN.out];exact n1
   by_cases h3:128<=x.toNat
   ·have hu:=unpackAt_run (most:=most) (r:=r) (out:=out) hn1 h3;rw[HE.out,<-HN.out]at hu;have d2:decide ((128:Int)<=(x.toNat:Int))=true:=decide_eq_true (by omega);clear HE;by_cases h1:r.length<1
    ·have hz:(([]:List UInt8),(7:Int))=unpacked b most:=by rw[hu,if_pos h1]
     have d1:decide ((b.length:Int)-((k:Int)+1)<1)=true:=decide_eq_true (by omega);clear hu;exact x0cq
    have d1:decide ((b.length:Int)-((k:Int)+1)<1)=false:=decide_eq_false (by omega);rw[if_neg h1]at hu;by_cases hgt:most-(out.length:Int)<(n:Int)
    ·have dg:decide (most<(out.length:Int)+(n:Int))=true:=decide_eq_true (by omega);have hz:(([]:List UInt8),(1:Int))=unpacked b most:=by rw[hu,if_pos hgt]
     clear hu;exact x0cq
    have dg:decide (most<(out.length:Int)+(n:Int))=false:=decide_eq_false (by omega);rw[if_neg hgt]at hu;have hk1:k+1<b.length:=by omega
    obtain⟨y,hy⟩:=eX (b[k+1]);have hr1:r=y::b.drop (k+2):=by rw[<-HRE.out,List.drop_eq_getElem_cons hk1,hy]
    rw[hr1,List.drop_succ_cons,List.drop_zero,List.headD_cons]at hu;have HU:=qH hu;have HY:Hid (∀nd,Bts (wo.drewN nd) (some ⟨ab,ao+(k+1),none⟩) [y]):=qH (fun nd i hi=>by
     have e1:i=0:=by simp at hi;omega
     subst e1;obtain⟨b',o',e1,h1,h2⟩:=(HB3.out.stays (HBE.out▸HB.out)) (k+1) hk1;injection e1 with e1;injection e1 with e4 e5;subst e4 e5;rw[hy]at h2;exact⟨ab,ao+(k+1),rfl,h1,by simpa using h2⟩)
    have hcc:¬cb=k+1:=by omega
    have j1:(k:Int)+1+1<=(cb:Int):=by omega
    have hob1:out.length+n<=137438953472:=by omega
    have HOX:Hid (∀nd,Own (wo.drewN nd) base 5 1 B out.length d (out.map bv)∧Below base w (wo.drewN nd)):=qH (fun nd=>⟨HO.out.drewN nd,Below.drewN' HB.out nd⟩);clear hu hgt hr1;go_wp2_with fail;go_quiet (fail)
    go_wp2_with fail;obtain⟨hox,hbx⟩:=HOX.out nq;refine(repeatB_calls (some ⟨ab,ao+(k+1),none⟩) (cb-(k+1)) y n (wo.drewN nq) (by omega) (by omega) (HY.out nq)).mono ?_;rintro e w1 ⟨A1,c1,rfl,hc1,hs1,hb1⟩;rw[List.length_replicate]at hc1;have hs1:=hs1.src;have hle:base<=w1.heap.size:=Nat.le_trans (Nat.le_trans (Nat.le_of_eq HBE.out.symm) hbx.size) hb1.size;have ho1:=hox.below hb1;have hls:((List.replicate n y).map bv).length=n*1:=by simp
    have HB1:Hid (Below base w w1):=qH (hbx.trans (hb1.mono (Nat.le_trans (Nat.le_of_eq HBE.out.symm) hbx.size)));simp only[List.length_replicate];go_wp2_with (at_builtin;go_must (refine wpList_app w1 rfl _ _ 22 rfl elBytes base B out.length d (out.map bv) rfl ho1 A1 n c1 ((List.replicate n y).map bv) rfl hs1 hls (bv_one _) hob1 hle ?_;intro A' c' w2 hown hgr hbel hor));have HO1:=qH hown;have HB1:Hid (Below base w w2):=qH (HB1.out.trans hbel);have HE1:Hid (out.length+n=(out++List.replicate n y).length):=qH (by simp);clear hown hgr hbel hor hs1 ho1 hb1 hls hle hob1 hox hbx;go_roundw
    case rel=>exact⟨k+2,out++List.replicate n y,A',c',by rw[HE1.out],by go_num,by omega,qH HU.out.symm,by simp;omega,qH (by simpa using HO1.out),HB1⟩
    case measure=>simp[intOf];omega
   have hu:=unpackAt_plain (most:=most) (r:=r) (out:=out) hn1 h3;rw[HE.out,<-HN.out]at hu;have d2:decide ((128:Int)<=(x.toNat:Int))=false:=decide_eq_false (by omega);clear HE;by_cases h1:r.length<n
   ·have hz:(([]:List UInt8),(7:Int))=unpacked b most:=by rw[hu,if_pos h1]
    have d1:decide ((b.length:Int)-((k:Int)+1)<(n:Int))=true:=decide_eq_true (by omega);clear hu;exact x0cq
   have d1:decide ((b.length:Int)-((k:Int)+1)<(n:Int))=false:=decide_eq_false (by omega);rw[if_neg h1]at hu;by_cases hgt:most-(out.length:Int)<(n:Int)
   ·have dg:decide (most<(out.length:Int)+(n:Int))=true:=decide_eq_true (by omega);have hz:(([]:List UInt8),(1:Int))=unpacked b most:=by rw[hu,if_pos hgt]
    clear hu;exact x0cq
   have dg:decide (most<(out.length:Int)+(n:Int))=false:=decide_eq_false (by omega);rw[if_neg hgt]at hu;have hdd:r.drop n=b.drop (k+1+n):=by rw[<-HRE.out,List.drop_drop]
   rw[hdd]at hu;have HU:=qH hu;have hcc:¬cb=k+1:=by omega
   have j1:(k:Int)+1+(n:Int)<=(cb:Int):=by omega
   have j1:(k:Int)+1<=(k:Int)+1+(n:Int):=by omega
   have hob1:out.length+n<=137438953472:=by omega
   have HS:Hid (∀nd,Src (wo.drewN nd) (some ⟨ab,ao+(k+1),none⟩) ((r.take n).map bv)):=qH (fun nd=>by
    have:=mid_at ((HB3.out.stays (HBE.out▸HB.out)).drewN nd) (k+1);rw[HRE.out]at this;exact(mid_take this n).src)
   have hls:((r.take n).map bv).length=n*1:=by simp;omega
   have HOX:Hid (∀nd,Own (wo.drewN nd) base 5 1 B out.length d (out.map bv)∧Below base w (wo.drewN nd)):=qH (fun nd=>⟨HO.out.drewN nd,Below.drewN' HB.out nd⟩);have hlen:k+1+n-(k+1)=n:=by omega
   clear hu hgt hdd;go_wp2_with fail;go_quiet (fail)
   obtain⟨hox,hbx⟩:=HOX.out nq;have hs1:=HS.out nq;have hle:base<=(wo.drewN nq).heap.size:=Nat.le_trans (Nat.le_of_eq HBE.out.symm) hbx.size;go_wp2_with (at_builtin;go_must (refine wpList_app (wo.drewN nq) rfl _ _ 22 rfl elBytes base B out.length d (out.map bv) rfl hox (some ⟨ab,ao+(k+1),none⟩) (k+1+n-(k+1)) (cb-(k+1)) ((r.take n).map bv) rfl hs1 (by rw[hlen];exact hls) (bv_one _) (by rw[hlen];exact hob1) hle ?_;intro A' c' w2 hown hgr hbel hor));rw[hlen]at hown;have HO1:=qH hown;have HB1:Hid (Below base w w2):=qH (hbx.trans hbel);have HE1:Hid (out.length+n=(out++r.take n).length):=qH (by simp;omega);clear hown hgr hbel hor hs1 hls hle hob1 hox hbx;go_roundw
   case rel=>exact⟨k+1+n,out++r.take n,A',c',by rw[HE1.out],by go_num,by omega,qH HU.out.symm,by simp;omega,qH (by rw[<-HE1.out];simpa using HO1.out),HB1⟩
   case measure=>simp[intOf];omega
  obtain rfl:k=b.length:=by omega
  have dl:decide ((b.length:Int)<(b.length:Int))=false:=by simp
  have hz:(out,(0:Int))=unpacked b most:=by rw[<-HE.out,List.drop_length,unpackAt_nil]
  have HZ:=qH hz;clear hz HE;go_wp2_with fail;go_ret2;exact x433
end Go.Proofs.YtefkfglkpebbmacGreat
