/- The walk of the document's Unpacked. No conditions. -/
import Derived.Test.YtefkfglkpebbmacPXRepeatB
set_option linter.unusedVariables false
set_option linter.unusedSimpArgs false
set_option maxRecDepth 100000
set_option maxHeartbeats 40000000
namespace Go.Proofs.Ytefkfglkpebbmac
open Go.RowKit
variable {Y:Prop}
theorem x0cq(h:Y:=by
 have HZ:=qH hz;clear hz;go_wp2_with fail;go_quiet (fail)
 go_wp2_with fail;go_ret2;exact⟨none,0,by rw[<-HZ.out];rfl,by rw[<-HZ.out];exact Own.nil_ _ _ _ _,HBE.out▸Below.drewN' HB.out _⟩):Y:=h
theorem refUnpack_calls(Ab:OA)(cb:Nat)(b:LU)(most:Int)(w:World)(hc:b.length<=cb)(hl:b.length<=4194304)(hm:I64 most)(hB:Bts w Ab b):
  Calls Try.prog 113 #[.slice Ab b.length cb,iv most] w (UnRet w (unpacked b most)):=by
 obtain⟨hm1,hm2⟩:=hm;have HB3:=qH hB;have HBB:Hid (Below w.heap.size w w):=qH (Below.refl _ _);have HO1:Hid (Own w w.heap.size 5 1 none 0 0 (([]:List UInt8).map bv)):=qH (Own.nil_ _ _ _ _);clear hB;go_enter Try.func113,Try.ntmps113;go_wp2_with fail;generalize hbase:w.heap.size=base at *
 have HBE:=qH hbase;clear hbase;go_loopw [6,7] (fun o i wr=>∃(k:Nat) (out:LU) (B:OA) (d:Nat),o=.slice B out.length d∧i=iv (k:Int)∧k<=b.length∧Hid (unpackAt most (b.drop k) out=unpacked b most)∧out.length<=127*k∧Hid (Own wr base 5 1 B out.length d (out.map bv))∧Hid (Below base w wr)) (fun _ i _=>b.length-(intOf i).toNat)
 case atStart=>exact⟨0,[],none,0,rfl,rfl,Nat.zero_le _,qH rfl,by simp,HO1,HBB⟩
 case round=>
  clear HO1 HBB;rename World=>wo;obtain⟨k,out,B,d,rfl,rfl,hk,HE,hob,HO,HB⟩:=hrel;by_cases hlt:k<b.length
  ·have dl:decide ((k:Int)<(b.length:Int))=true:=decide_eq_true (by omega);obtain⟨ab,ao,rfl,hab,hx⟩:=(HB3.out.stays (HBE.out▸HB.out)) k hlt;obtain⟨x,hxe⟩:=eX (b[k]);obtain⟨r,hre⟩:=eX (b.drop (k+1));have hdr:b.drop k=x::r:=by rw[List.drop_eq_getElem_cons hlt,hxe,hre]
   rw[hdr]at HE;rw[hxe]at hx;have hrl:r.length=b.length-(k+1):=by rw[<-hre,List.length_drop]
   have HRE:=qH hre;have hxl:=x.toNat_lt;obtain⟨n,hn⟩:∃n,n=x.toNat%128:=⟨_,rfl⟩;have hxn:(x.toNat:Int)%128=(n:Int):=by omega
   have hxt:(x.toNat:Int).tmod 128=(n:Int):=by rw[Int.tmod_eq_emod_of_nonneg (by omega)];exact hxn
   have hn1:n<128:=by omega
   have HN:=qH hn;clear hn hre hdr hxe;have hwk:IntKind.i64.wrap ((k:Int)+1)=(k:Int)+1:=IntWalk.i64_in _ (by omega);have hw1:IntKind.i64.wrap ((b.length:Int)-((k:Int)+1))=(b.length:Int)-((k:Int)+1):=IntWalk.i64_in _ (by omega);have hw1:IntKind.i64.wrap ((out.length:Int)+(n:Int))=(out.length:Int)+(n:Int):=IntWalk.i64_in _ (by omega);have hw1:IntKind.i64.wrap ((k:Int)+1+(n:Int))=(k:Int)+1+(n:Int):=IntWalk.i64_in _ (by omega);by_cases n1:n=0
   ·subst n1;have hz:(([]:List UInt8),(3:Int))=unpacked b most:=by rw[<-HE.out,unpackAt_zero HN.out.symm]
    clear HE;exact x0cq
   have dn:((n:Int)==0)=false:=by simp;omega
   have hn1:x.toNat%128≠0:=by rw[<-HN.out];exact n1
   by_cases h3:128<=x.toNat
   ·have hu:=unpackAt_run (most:=most) (r:=r) (out:=out) hn1 h3;rw[HE.out,<-HN.out]at hu;have d2:decide ((128:Int)<=(x.toNat:Int))=true:=decide_eq_true (by omega);clear HE;by_cases h1:r.length<1
    ·have hz:(([]:List UInt8),(7:Int))=unpacked b most:=by rw[hu,if_pos h1]
     have d1:decide ((b.length:Int)-((k:Int)+1)<1)=true:=decide_eq_true (by omega);clear hu;exact x0cq
    have d1:decide ((b.length:Int)-((k:Int)+1)<1)=false:=decide_eq_false (by omega);rw[if_neg h1]at hu;by_cases hgt:most-(out.length:Int)<(n:Int)
    ·have dg:decide (most<(out.length:Int)+(n:Int))=true:=decide_eq_true (by omega);have hz:(([]:List UInt8),(1:Int))=unpacked b most:=by rw[hu,if_pos hgt]
     clear hu;exact x0cq
    have dg:decide (most<(out.length:Int)+(n:Int))=false:=decide_eq_false (by omega);rw[if_neg hgt]at hu;have hk1:k+1<b.length:=by omega
    obtain⟨y,hy⟩:=eX (b[k+1]);have hr1:r=y::b.drop (k+2):=by rw[<-HRE.out,List.drop_eq_getElem_cons hk1,hy]
    rw[hr1,List.drop_succ_cons,List.drop_zero,List.headD_cons]at hu;have HU:=qH hu;have HY:Hid (∀nd,Bts (wo.drewN nd) (some ⟨ab,ao+(k+1),none⟩) [y]):=qH (fun nd i hi=>by
     have e1:i=0:=by simp at hi;omega
     subst e1;obtain⟨b',o',e1,h1,h2⟩:=(HB3.out.stays (HBE.out▸HB.out)) (k+1) hk1;injection e1 with e1;injection e1 with e4 e5;subst e4 e5;rw[hy]at h2;exact⟨ab,ao+(k+1),rfl,h1,by simpa using h2⟩)
    have hcc:¬cb=k+1:=by omega
    have j1:(k:Int)+1+1<=(cb:Int):=by omega
    have hob1:out.length+n<=137438953472:=by omega
    have HOX:Hid (∀nd,Own (wo.drewN nd) base 5 1 B out.length d (out.map bv)∧Below base w (wo.drewN nd)):=qH (fun nd=>⟨HO.out.drewN nd,Below.drewN' HB.out nd⟩);clear hu hgt hr1;go_wp2_with fail;go_quiet (fail)
    go_wp2_with fail;obtain⟨hox,hbx⟩:=HOX.out nq;refine(repeatB_calls (some ⟨ab,ao+(k+1),none⟩) (cb-(k+1)) y n (wo.drewN nq) (by omega) (by omega) (HY.out nq)).mono ?_;rintro e w1 ⟨A1,c1,rfl,hc1,hs1,hb1⟩;rw[List.length_replicate]at hc1;have hs1:=hs1.src;have hle:base<=w1.heap.size:=Nat.le_trans (Nat.le_trans (Nat.le_of_eq HBE.out.symm) hbx.size) hb1.size;have ho1:=hox.below hb1;have hls:((List.replicate n y).map bv).length=n*1:=by simp
    have HB1:Hid (Below base w w1):=qH (hbx.trans (hb1.mono (Nat.le_trans (Nat.le_of_eq HBE.out.symm) hbx.size)));simp only[List.length_replicate];go_wp2_with (at_builtin;go_must (refine wpList_app w1 rfl _ _ 22 rfl elBytes base B out.length d (out.map bv) rfl ho1 A1 n c1 ((List.replicate n y).map bv) rfl hs1 hls (bv_one _) hob1 hle ?_;intro A' c' w2 hown hgr hbel hor));have HO1:=qH hown;have HB1:Hid (Below base w w2):=qH (HB1.out.trans hbel);have HE1:Hid (out.length+n=(out++List.replicate n y).length):=qH (by simp);clear hown hgr hbel hor hs1 ho1 hb1 hls hle hob1 hox hbx;go_roundw
    case rel=>exact⟨k+2,out++List.replicate n y,A',c',by rw[HE1.out],by go_num,by omega,qH HU.out.symm,by simp;omega,qH (by simpa using HO1.out),HB1⟩
    case measure=>simp[intOf];omega
   have hu:=unpackAt_plain (most:=most) (r:=r) (out:=out) hn1 h3;rw[HE.out,<-HN.out]at hu;have d2:decide ((128:Int)<=(x.toNat:Int))=false:=decide_eq_false (by omega);clear HE;by_cases h1:r.length<n
   ·have hz:(([]:List UInt8),(7:Int))=unpacked b most:=by rw[hu,if_pos h1]
    have d1:decide ((b.length:Int)-((k:Int)+1)<(n:Int))=true:=decide_eq_true (by omega);clear hu;exact x0cq
   have d1:decide ((b.length:Int)-((k:Int)+1)<(n:Int))=false:=decide_eq_false (by omega);rw[if_neg h1]at hu;by_cases hgt:most-(out.length:Int)<(n:Int)
   ·have dg:decide (most<(out.length:Int)+(n:Int))=true:=decide_eq_true (by omega);have hz:(([]:List UInt8),(1:Int))=unpacked b most:=by rw[hu,if_pos hgt]
    clear hu;exact x0cq
   have dg:decide (most<(out.length:Int)+(n:Int))=false:=decide_eq_false (by omega);rw[if_neg hgt]at hu;have hdd:r.drop n=b.drop (k+1+n):=by rw[<-HRE.out,List.drop_drop]
   rw[hdd]at hu;have HU:=qH hu;have hcc:¬cb=k+1:=by omega
   have j1:(k:Int)+1+(n:Int)<=(cb:Int):=by omega
   have j1:(k:Int)+1<=(k:Int)+1+(n:Int):=by omega
   have hob1:out.length+n<=137438953472:=by omega
   have HS:Hid (∀nd,Src (wo.drewN nd) (some ⟨ab,ao+(k+1),none⟩) ((r.take n).map bv)):=qH (fun nd=>by
    have:=mid_at ((HB3.out.stays (HBE.out▸HB.out)).drewN nd) (k+1);rw[HRE.out]at this;exact(mid_take this n).src)
   have hls:((r.take n).map bv).length=n*1:=by simp;omega
   have HOX:Hid (∀nd,Own (wo.drewN nd) base 5 1 B out.length d (out.map bv)∧Below base w (wo.drewN nd)):=qH (fun nd=>⟨HO.out.drewN nd,Below.drewN' HB.out nd⟩);have hlen:k+1+n-(k+1)=n:=by omega
   clear hu hgt hdd;go_wp2_with fail;go_quiet (fail)
   obtain⟨hox,hbx⟩:=HOX.out nq;have hs1:=HS.out nq;have hle:base<=(wo.drewN nq).heap.size:=Nat.le_trans (Nat.le_of_eq HBE.out.symm) hbx.size;go_wp2_with (at_builtin;go_must (refine wpList_app (wo.drewN nq) rfl _ _ 22 rfl elBytes base B out.length d (out.map bv) rfl hox (some ⟨ab,ao+(k+1),none⟩) (k+1+n-(k+1)) (cb-(k+1)) ((r.take n).map bv) rfl hs1 (by rw[hlen];exact hls) (bv_one _) (by rw[hlen];exact hob1) hle ?_;intro A' c' w2 hown hgr hbel hor));rw[hlen]at hown;have HO1:=qH hown;have HB1:Hid (Below base w w2):=qH (hbx.trans hbel);have HE1:Hid (out.length+n=(out++r.take n).length):=qH (by simp;omega);clear hown hgr hbel hor hs1 hls hle hob1 hox hbx;go_roundw
   case rel=>exact⟨k+1+n,out++r.take n,A',c',by rw[HE1.out],by go_num,by omega,qH HU.out.symm,by simp;omega,qH (by rw[<-HE1.out];simpa using HO1.out),HB1⟩
   case measure=>simp[intOf];omega
  obtain rfl:k=b.length:=by omega
  have dl:decide ((b.length:Int)<(b.length:Int))=false:=by simp
  have hz:(out,(0:Int))=unpacked b most:=by rw[<-HE.out,List.drop_length,unpackAt_nil]
  have HZ:=qH hz;clear hz HE;go_wp2_with fail;go_ret2;exact x433
end Go.Proofs.Ytefkfglkpebbmac
