/- Walks of functions, and plain words. No conditions. -/
import Derived.Test.YtefkfglkpebbmacPE3
import Derived.Test.YtefkfglkpebbmacP2
import Derived.Test.YtefkfglkpebbmacP3
import Derived.ChangeKeysEq
import Derived.Laws.OwnMore
import Derived.BigRegion
set_option linter.unusedVariables false
set_option linter.unusedSimpArgs false
set_option maxRecDepth 100000
set_option maxHeartbeats 40000000
namespace Go.Proofs.Ytefkfglkpebbmac
open Go.RowKit
variable {Y:Prop}
variable {l:LU} {w:World} {x:Chk}
theorem x1jz(h:Y:=by
 have HB1:Hid (Below base w w3):=qH (((hbx.alloc hsx _).trans hbel1).trans hbel);have HLO:Hid (out.length+1+K=(out++[UInt8.ofNat K]++(x::r).take K).length):=qH (by have:=HLN.out;simp at this⊢;omega);have HO1:Hid (Own w3 base 5 1 A' (out++[UInt8.ofNat K]++(x::r).take K).length c' ((out++[UInt8.ofNat K]++(x::r).take K).map bv)):=qH (by rw[<-HLO.out,List.map_append,List.map_append];show Own _ _ _ _ _ _ _ (_++[bv _]++_);rw[HBV.out];exact hown);have HLD:Hid (ln-K=((x::r).drop K).length):=qH (by rw[List.length_drop,HLN.out]);clear hown hgr hbel hor hown1 hgr1 hbel1 hor1 hs1 hle hox hbx hox1 hob1 hob2 hls
 go_roundg (ln-K)
 case measure=>omega
 case rel=>first
  |(have h9:¬c=K:=by assumption
    exact⟨(x::r).drop K,out++[UInt8.ofNat K]++(x::r).take K,some ⟨ab,ao+K,none⟩,A',c-K,c',by rw[HLD.out],by rw[HLO.out],by rw[<-HLD.out];omega,Nat.le_of_eq HLD.out.symm,by rw[<-HLD.out];omega,HE1,qH (mid_at HBt.out K),HO1,HB1⟩)
  |exact⟨(x::r).drop K,out++[UInt8.ofNat K]++(x::r).take K,some ⟨ab,ao,none⟩,A',0,c',by rw[HLD.out],by rw[HLO.out],by rw[<-HLD.out];omega,Nat.le_of_eq HLD.out.symm,by rw[<-HLD.out];omega,HE1,qH (by rw[List.eq_nil_of_length_eq_zero (show ((x::r).drop K).length=0 by rw[<-HLD.out];omega)];exact Bts.nil _ _),HO1,HB1⟩):Y:=h
theorem plainTo_step{k:Nat}(h:k<l.length)(h7:k<127)(h3:alike (l.drop k)<3):plainTo l.length l k=plainTo l.length l (k+1):=by
 obtain⟨f,hf⟩:∃f,l.length=f+1:=⟨l.length-1,by omega⟩;have e:plainTo l.length l k=plainTo f l (k+1):=by
  rw[hf]
  conv=>lhs;unfold plainTo
  rw[if_pos ⟨by omega,h7,h3⟩]
 rw[e];exact plainTo_fuel f l.length l (k+1) (by omega) (by omega)
theorem plainTo_stop{k:Nat}(h:¬(k<l.length∧k<127∧alike (l.drop k)<3)):plainTo l.length l k=k:=by
 cases hl:l.length with
 |zero=>rfl
 |succ f=>unfold plainTo;rw[if_neg h]
theorem packAt_one{x:UInt8}{r:LU}(h3:¬3<=alike (x::r)):packAt (x::r) []=UInt8.ofNat (plainTo (x::r).length (x::r) 1)::((x::r).take (plainTo (x::r).length (x::r) 1)++packAt ((x::r).drop (plainTo (x::r).length (x::r) 1)) []):=by
 rw[packAt_byte h3 (by simp)];have:=packAt_plain (x::r).length (x::r) 1 (by simp) (by omega) (by simp) (by omega);simpa using this
theorem refPacked_calls(Ab:OA)(cb:Nat)(b:LU)(w:World)(hc:b.length<=cb)(hl:b.length<=1048576)(hB:Bts w Ab b):
  Calls Try.prog 111 #[.slice Ab b.length cb] w (BtRet w (packed b)):=by
 have hpl:=packed_len b;have HPL:Hid (∀(out r:LU),out++packAt r []=packed b->out.length<=67108000):=qH (fun out r e=>by have:=congrArg List.length e;simp at this;omega);have HB1:=qH hB;have HBB:Hid (Below w.heap.size w w):=qH (Below.refl _ _);have HO1:Hid (Own w w.heap.size 5 1 none 0 0 (([]:List UInt8).map bv)):=qH (Own.nil_ _ _ _ _);clear hB hpl;go_enter Try.func111,Try.ntmps111;go_wp2_with fail;generalize hbase:w.heap.size=base at *
 have HBE:=qH hbase;clear hbase
 go_loopg [0,3] b.length (fun g y o wr=>∃(l out:LU) (A B:OA) (c d:Nat),y=.slice A l.length c∧o=.slice B out.length d∧l.length<=c∧l.length<=g∧l.length<=1048576∧Hid (out++packAt l []=packed b)∧Hid (Bts w A l)∧Hid (Own wr base 5 1 B out.length d (out.map bv))∧Hid (Below base w wr))
 case atStart=>exact⟨b,[],Ab,none,cb,0,rfl,rfl,hc,nl,hl,qH rfl,HB1,HO1,HBB⟩
 case round=>
  clear HB1 HO1 HBB;rename World=>wo;obtain⟨l,out,A,B,c,d,rfl,rfl,hlc,hlg,hll,HE,HBt,HO,HB⟩:=hrel;rcases l with _|⟨x,r⟩
  ·have hz:out=packed b:=by rw[<-HE.out,packAt_nil];simp[flushed]
   have HZ:=qH hz;simp only[List.length_nil,Int.ofNat_eq_natCast,Int.natCast_zero]at *
   clear hz;go_wp2_with fail;go_ret;exact x433
  obtain⟨ln,hln⟩:=eX ((x::r).length);have hln1:0<ln:=by rw[<-hln];simp
  have HBW:Hid (∀w1,Below base w w1->Bts w1 A (x::r)):=qH (fun w1 h=>HBt.out.stays (HBE.out▸h));have hab:=(HBW.out wo HB.out) 0 (by simp);obtain⟨ab,ao,rfl,hab,hx⟩:=hab;simp only[Nat.add_zero,List.getElem_cons_zero]at hx;have hal:=alike_le (x::r);have hK:1<=plainTo (x::r).length (x::r) 1∧plainTo (x::r).length (x::r) 1<=(x::r).length∧plainTo (x::r).length (x::r) 1<=127:=by
   have h1:=plainTo_ge (x::r).length (x::r) 1;have h2:=plainTo_le (x::r).length (x::r) 1 (by simp) (by omega);exact⟨h1,h2⟩
  have HCA:Hid (∀(w1:World) (A1:OA) (c1:Nat) (l1:LU),0<l1.length->l1.length<=c1->l1.length<=ln->Bts w1 A1 l1->Calls Try.prog 147 #[.slice A1 l1.length c1] w1 (RetN w1 (iv (alike l1:Nat)))):=qH (fun w1 A1 c1 l1 h0 h1 h2 h3=>refAlike_calls A1 c1 l1 w1 h0 h1 (by omega) h3);have hb1:=HBW.out wo HB.out;have hca1:=HCA.out wo _ c (x::r) (by simp) hlc (Nat.le_of_eq hln) hb1;rw[hln]at hlc hlg hll hal hK hca1⊢;clear hb1;have HCA1:=qH hca1;clear hca1;have HLN:=qH hln;clear hln;obtain⟨n,hn⟩:=eX (alike (x::r));obtain⟨K,hKe⟩:=eX (plainTo ln (x::r) 1);rw[hn]at hal HCA1;rw[hKe]at hK;have HNE:=qH hn;have HKE:=qH hKe;clear hn hKe;obtain⟨hal1,hal2⟩:=hal;obtain⟨hK1,hK2,hK3⟩:=hK;have dl:decide ((0:Int)<(ln:Int))=true:=decide_eq_true (by omega);go_wp2_with fail;refine HCA1.out.mono ?_;rintro e w1 ⟨rfl,nd,rfl⟩;have HBd:Hid (Below base w (wo.drewN nd)):=qH (Below.drewN' HB.out nd);have HOd:=qH (HO.out.drewN nd);have hxd:(wo.drewN nd).cell? ⟨ab,ao,none⟩=some (bv x):=hx;have hsd:base<=(wo.drewN nd).heap.size:=Nat.le_trans (Nat.le_of_eq HBE.out.symm) HBd.out.size;have habd:ab<(wo.drewN nd).heap.size:=hab;clear HB HO hx hab HCA1;generalize wo.drewN nd=w1 at *
  by_cases h1:3<=n
  ·have hrun:=packAt_run (x:=x) (r:=r) (plain:=[]) (by rw[HNE.out];exact h1);rw[HNE.out]at hrun;have hE1:(out++[UInt8.ofNat (128+n),x])++packAt ((x::r).drop n) []=packed b:=by
    rw[<-HE.out,hrun];simp[flushed]
   have ho1:out.length<=67108000:=by have:=HPL.out _ _ hE1;simp at this;omega
   have HE1:=qH hE1;clear hE1 hrun HE;have d1:decide ((3:Int)<=(n:Int))=true:=decide_eq_true (by omega);have HBV:Hid (bv (UInt8.ofNat (128+n))=.int .u8 (128+(n:Int))):=qH (by unfold bv;rw[ofNat_toNat _ (by omega)];simp);have hw1:IntKind.i64.wrap (128+(n:Int))=128+(n:Int):=IntWalk.i64_in _ (by omega);have hw2:IntKind.u8.wrap (128+(n:Int))=128+(n:Int):=by unfold IntKind.wrap;simp[IntKind.signed,IntKind.bits];omega
   have j1:(n:Int)<=(ln:Int):=by omega
   have HOA:=qH (HOd.out.alloc (.cells #[bv (UInt8.ofNat (128+n)),bv x] 5));rw[HBV.out]at HOA;have hs1:Src (w1.alloc (.cells #[.int .u8 (128+(n:Int)),bv x] 5)) (some ⟨w1.heap.size,0,none⟩) [.int .u8 (128+(n:Int)),bv x]:=src_blk (blk_top rfl);have hob1:out.length+2<=137438953472:=by omega
   have hle:base<=(w1.alloc (.cells #[.int .u8 (128+(n:Int)),bv x] 5)).heap.size:=by simp;omega
   have hoa:=HOA.out;go_wp2_with (at_builtin;go_must (refine wpList_app (w1.alloc (.cells #[.int .u8 (128+(n:Int)),bv x] 5)) rfl _ _ 22 rfl elBytes base B out.length d (out.map bv) rfl hoa (some ⟨w1.heap.size,0,none⟩) 2 2 [.int .u8 (128+(n:Int)),bv x] rfl hs1 rfl (by simp[Value.oneCell']) hob1 hle ?_;intro A' c' w2 hown hgr hbel hor));all_goals (
    have HB1:Hid (Below base w w2):=qH ((HBd.out.alloc hsd _).trans hbel);have HO1:Hid (Own w2 base 5 1 A' (out++[UInt8.ofNat (128+n),x]).length c' ((out++[UInt8.ofNat (128+n),x]).map bv)):=qH (by rw[List.map_append,List.length_append];show Own _ _ _ _ _ _ _ (_++[bv _,bv x]);rw[HBV.out];exact hown);have HLD:Hid (ln-n=((x::r).drop n).length):=qH (by rw[List.length_drop,HLN.out]);have HLO:Hid (out.length+2=(out++[UInt8.ofNat (128+n),x]).length):=qH (by rw[List.length_append];rfl);clear hown hgr hbel hor hs1 hle hob1 hoa
    go_roundg (ln-n)
    case measure=>omega
    case rel=>first
     |(have h9:¬c=n:=by assumption
       exact⟨(x::r).drop n,out++[UInt8.ofNat (128+n),x],some ⟨ab,ao+n,none⟩,A',c-n,c',by rw[HLD.out],by rw[HLO.out],by rw[<-HLD.out];omega,Nat.le_of_eq HLD.out.symm,by rw[<-HLD.out];omega,HE1,qH (mid_at HBt.out n),HO1,HB1⟩)
     |exact⟨(x::r).drop n,out++[UInt8.ofNat (128+n),x],some ⟨ab,ao,none⟩,A',0,c',by rw[HLD.out],by rw[HLO.out],by rw[<-HLD.out];omega,Nat.le_of_eq HLD.out.symm,by rw[<-HLD.out];omega,HE1,qH (by rw[List.eq_nil_of_length_eq_zero (show ((x::r).drop n).length=0 by rw[<-HLD.out];omega)];exact Bts.nil _ _),HO1,HB1⟩)
  have hone:=packAt_one (x:=x) (r:=r) (by rw[HNE.out];exact h1);rw[HLN.out,HKE.out]at hone;have hE1:(out++[UInt8.ofNat K]++(x::r).take K)++packAt ((x::r).drop K) []=packed b:=by
   rw[<-HE.out,hone];simp
  have ho1:out.length<=67108000:=by have:=HPL.out _ _ hE1;simp at this;omega
  have HE1:=qH hE1;clear hE1 hone HE;have d3:decide ((3:Int)<=(n:Int))=false:=decide_eq_false (by omega);have HBV:Hid (bv (UInt8.ofNat K)=.int .u8 (K:Int)):=qH (by unfold bv;rw[ofNat_toNat _ (by omega)]);have HOX:Hid (∀nd,Own (w1.drewN nd) base 5 1 B out.length d (out.map bv)∧Below base w (w1.drewN nd)):=qH (fun nd=>⟨HOd.out.drewN nd,Below.drewN' HBd.out nd⟩);go_wp2_with fail;go_loopw [5] (fun y wr=>∃(k nd:Nat),y=iv (k:Int)∧1<=k∧k<=K∧Hid (plainTo ln (x::r) k=K)∧w1.drewN nd=wr) (fun y _=>K-(intOf y).toNat)
  case atStart=>exact⟨1,0,rfl,by omega,hK1,HKE,rfl⟩
  case round=>
   obtain⟨k,nd,rfl,hk1,hk2,HPK,rfl⟩:=hrel;by_cases hcond:k<ln∧k<127∧alike ((x::r).drop k)<3
   ·obtain⟨e1,e2,e3⟩:=hcond;have hst:=plainTo_step (l:=x::r) (k:=k) (by rw[HLN.out];exact e1) e2 e3;rw[HLN.out,HPK.out]at hst;have hge:=plainTo_ge ln (x::r) (k+1);rw[<-hst]at hge;have HST:=qH hst;have hcal:=HCA.out (w1.drewN nd) (some ⟨ab,ao+k,none⟩) (c-k) ((x::r).drop k) (by rw[List.length_drop,HLN.out];omega) (by rw[List.length_drop,HLN.out];omega) (by rw[List.length_drop,HLN.out];omega) (mid_at (HBW.out _ (HOX.out nd).2) k);rw[List.length_drop,HLN.out]at hcal;have HCAL:=qH hcal;clear hst hcal HPK;generalize alike ((x::r).drop k)=m at *
    have d1:k<ln:=e1;have d2:decide ((k:Int)<127)=true:=decide_eq_true (by omega);have d4:decide ((m:Int)<3)=true:=decide_eq_true (by omega);have hck:¬c=k:=by omega
    have j1:(k:Int)<=(ln:Int):=by omega
    have hw1:IntKind.i64.wrap ((k:Int)+1)=(k:Int)+1:=IntWalk.i64_in _ (by omega);go_wp2_with fail;refine HCAL.out.mono ?_;rintro e w2 ⟨rfl,n1,rfl⟩;go_wp2_with fail;go_roundw
    case rel=>exact⟨k+1,nd+n1,by go_num,by omega,by omega,qH HST.out.symm,by rw[<-World.drewN_drewN]⟩
    case measure=>simp[intOf];omega
   have hst:=plainTo_stop (l:=x::r) (k:=k) (by rw[HLN.out];exact hcond);rw[HLN.out,HPK.out]at hst;subst hst;have hu1:IntKind.u8.wrap (K:Int)=(K:Int):=by unfold IntKind.wrap;simp[IntKind.signed,IntKind.bits];omega
   have hob1:out.length+1<=137438953472:=by omega
   have hob2:out.length+1+K<=137438953472:=by omega
   have hls:(((x::r).take K).map bv).length=K*1:=by have:=HLN.out;simp at this⊢;omega
   have jK:(K:Int)<=(ln:Int):=by omega
   have jC:(K:Int)<=(c:Int):=by omega
   clear HPK;by_cases e1:K<ln
   ·by_cases e2:K<127
    ·have e3:¬alike ((x::r).drop K)<3:=fun e=>hcond ⟨e1,e2,e⟩;have hcal:=HCA.out (w1.drewN nd) (some ⟨ab,ao+K,none⟩) (c-K) ((x::r).drop K) (by rw[List.length_drop,HLN.out];omega) (by rw[List.length_drop,HLN.out];omega) (by rw[List.length_drop,HLN.out];omega) (mid_at (HBW.out _ (HOX.out nd).2) K);rw[List.length_drop,HLN.out]at hcal;have HCAL:=qH hcal;clear hcal hcond;generalize alike ((x::r).drop K)=m at *
     have d1:decide ((K:Int)<127)=true:=decide_eq_true (by omega);have d2:decide ((m:Int)<3)=false:=decide_eq_false (by omega);have hck:¬c=K:=by omega
     go_wp2_with fail;refine HCAL.out.mono ?_;rintro e w2 ⟨rfl,n1,rfl⟩;simp only[World.drewN_drewN];obtain⟨hox,hbx⟩:=HOX.out (nd+n1);have hsx:base<=(w1.drewN (nd+n1)).heap.size:=Nat.le_trans (Nat.le_of_eq HBE.out.symm) hbx.size;have hox1:=hox.alloc (.cells #[.int .u8 (K:Int)] 5);have hs1:Src ((w1.drewN (nd+n1)).alloc (.cells #[.int .u8 (K:Int)] 5)) (some ⟨(w1.drewN (nd+n1)).heap.size,0,none⟩) [.int .u8 (K:Int)]:=src_blk (blk_top rfl);have hle:base<=((w1.drewN (nd+n1)).alloc (.cells #[.int .u8 (K:Int)] 5)).heap.size:=by simp at hsx⊢;omega
     go_wp2_with (at_builtin;first
      |(refine wpList_app ((w1.drewN (nd+n1)).alloc (.cells #[.int .u8 (K:Int)] 5)) rfl _ _ 22 rfl elBytes base B out.length d (out.map bv) rfl hox1 (some ⟨(w1.drewN (nd+n1)).heap.size,0,none⟩) 1 1 [.int .u8 (K:Int)] rfl hs1 rfl (by simp[Value.oneCell']) hob1 hle ?_;intro A1 c1 w2 hown1 hgr1 hbel1 hor1)
      |go_must (refine wpList_app w2 rfl _ _ 22 rfl elBytes base A1 (out.length+1) c1 (out.map bv++[.int .u8 (K:Int)]) rfl hown1 (some ⟨ab,ao,none⟩) K c (((x::r).take K).map bv) rfl ((mid_take (HBW.out w2 ((hbx.alloc hsx _).trans hbel1)) K).src) hls (bv_one _) hob2 (Nat.le_trans hle hbel1.size) ?_;intro A' c' w3 hown hgr hbel hor))
     all_goals (
      exact x1jz)
    ·have d2:decide ((K:Int)<127)=false:=decide_eq_false (by omega);have hck:¬c=K:=by omega
     clear hcond;obtain⟨hox,hbx⟩:=HOX.out (nd);have hsx:base<=(w1.drewN (nd)).heap.size:=Nat.le_trans (Nat.le_of_eq HBE.out.symm) hbx.size;have hox1:=hox.alloc (.cells #[.int .u8 (K:Int)] 5);have hs1:Src ((w1.drewN (nd)).alloc (.cells #[.int .u8 (K:Int)] 5)) (some ⟨(w1.drewN (nd)).heap.size,0,none⟩) [.int .u8 (K:Int)]:=src_blk (blk_top rfl);have hle:base<=((w1.drewN (nd)).alloc (.cells #[.int .u8 (K:Int)] 5)).heap.size:=by simp at hsx⊢;omega
     go_wp2_with (at_builtin;first
      |(refine wpList_app ((w1.drewN (nd)).alloc (.cells #[.int .u8 (K:Int)] 5)) rfl _ _ 22 rfl elBytes base B out.length d (out.map bv) rfl hox1 (some ⟨(w1.drewN (nd)).heap.size,0,none⟩) 1 1 [.int .u8 (K:Int)] rfl hs1 rfl (by simp[Value.oneCell']) hob1 hle ?_;intro A1 c1 w2 hown1 hgr1 hbel1 hor1)
      |go_must (refine wpList_app w2 rfl _ _ 22 rfl elBytes base A1 (out.length+1) c1 (out.map bv++[.int .u8 (K:Int)]) rfl hown1 (some ⟨ab,ao,none⟩) K c (((x::r).take K).map bv) rfl ((mid_take (HBW.out w2 ((hbx.alloc hsx _).trans hbel1)) K).src) hls (bv_one _) hob2 (Nat.le_trans hle hbel1.size) ?_;intro A' c' w3 hown hgr hbel hor))
     all_goals (
      exact x1jz)
   have d1:¬(K:Int)<(ln:Int):=by omega
   clear hcond;obtain⟨hox,hbx⟩:=HOX.out (nd);have hsx:base<=(w1.drewN (nd)).heap.size:=Nat.le_trans (Nat.le_of_eq HBE.out.symm) hbx.size;have hox1:=hox.alloc (.cells #[.int .u8 (K:Int)] 5);have hs1:Src ((w1.drewN (nd)).alloc (.cells #[.int .u8 (K:Int)] 5)) (some ⟨(w1.drewN (nd)).heap.size,0,none⟩) [.int .u8 (K:Int)]:=src_blk (blk_top rfl);have hle:base<=((w1.drewN (nd)).alloc (.cells #[.int .u8 (K:Int)] 5)).heap.size:=by simp at hsx⊢;omega
   go_wp2_with (at_builtin;first
    |(refine wpList_app ((w1.drewN (nd)).alloc (.cells #[.int .u8 (K:Int)] 5)) rfl _ _ 22 rfl elBytes base B out.length d (out.map bv) rfl hox1 (some ⟨(w1.drewN (nd)).heap.size,0,none⟩) 1 1 [.int .u8 (K:Int)] rfl hs1 rfl (by simp[Value.oneCell']) hob1 hle ?_;intro A1 c1 w2 hown1 hgr1 hbel1 hor1)
    |go_must (refine wpList_app w2 rfl _ _ 22 rfl elBytes base A1 (out.length+1) c1 (out.map bv++[.int .u8 (K:Int)]) rfl hown1 (some ⟨ab,ao,none⟩) K c (((x::r).take K).map bv) rfl ((mid_take (HBW.out w2 ((hbx.alloc hsx _).trans hbel1)) K).src) hls (bv_one _) hob2 (Nat.le_trans hle hbel1.size) ?_;intro A' c' w3 hown hgr hbel hor))
   all_goals (
    exact x1jz)
def chkA(f t n o:Int)(A:OA)(k c:Nat):Array Value:=#[iv f,iv t,iv n,iv o,.slice A k c]
@[go_sem] theorem chkA_size(f t n o:Int)(A:OA)(k c:Nat):(chkA f t n o A k c).size=5:=by simp[chkA]
@[go_sem] theorem chkA_one(f t n o:Int)(A:OA)(k c:Nat):allOne (chkA f t n o A k c)=true:=by simp[chkA,allOne,Value.oneCell']
@[go_sem] theorem chkA_at0(f t n o:Int)(A:OA)(k c:Nat)(h:0<(chkA f t n o A k c).size):(chkA f t n o A k c)[0]'h=iv f:=by simp[chkA]
@[go_sem] theorem chkA_at1(f t n o:Int)(A:OA)(k c:Nat)(h:1<(chkA f t n o A k c).size):(chkA f t n o A k c)[1]'h=iv t:=by simp[chkA]
@[go_sem] theorem chkA_at2(f t n o:Int)(A:OA)(k c:Nat)(h:2<(chkA f t n o A k c).size):(chkA f t n o A k c)[2]'h=iv n:=by simp[chkA]
@[go_sem] theorem chkA_at3(f t n o:Int)(A:OA)(k c:Nat)(h:3<(chkA f t n o A k c).size):(chkA f t n o A k c)[3]'h=iv o:=by simp[chkA]
@[go_sem] theorem chkA_at4(f t n o:Int)(A:OA)(k c:Nat)(h:4<(chkA f t n o A k c).size):(chkA f t n o A k c)[4]'h=.slice A k c:=by simp[chkA]
@[go_sem] theorem chkA_all(f t n o:Int)(A:OA)(k c:Nat):(chkA f t n o A k c).extract 0 5=chkA f t n o A k c:=by simp[chkA]
@[go_sem] theorem chk_lit(f t n o:Int)(A:OA)(k c:Nat):Value.agg #[iv f,iv t,iv n,iv o,.slice A k c]=Value.agg (chkA f t n o A k c):=by simp[chkA]
@[go_sem] theorem chkA_set4(f t n o:Int)(A:OA)(k c:Nat)(B:OA)(m d:Nat):(chkA f t n o A k c).setIfInBounds 4 (.slice B m d)=chkA f t n o B m d:=by simp[chkA]
@[go_sem] theorem aggSzChk:aggSz Try.prog 49=5:=by kernel_rfl
@[go_sem] theorem chkA_set0(f t n o:Int)(A:OA)(k c:Nat)(x:Int):(chkA f t n o A k c).setIfInBounds 0 (iv x)=chkA x t n o A k c:=by simp[chkA]
@[go_sem] theorem chkA_set1(f t n o:Int)(A:OA)(k c:Nat)(x:Int):(chkA f t n o A k c).setIfInBounds 1 (iv x)=chkA f x n o A k c:=by simp[chkA]
@[go_sem] theorem chkA_set2(f t n o:Int)(A:OA)(k c:Nat)(x:Int):(chkA f t n o A k c).setIfInBounds 2 (iv x)=chkA f t x o A k c:=by simp[chkA]
@[go_sem] theorem chkA_set3(f t n o:Int)(A:OA)(k c:Nat)(x:Int):(chkA f t n o A k c).setIfInBounds 3 (iv x)=chkA f t n x A k c:=by simp[chkA]
@[go_sem] theorem chkA_ne(f t n o:Int)(A:OA)(k c:Nat):(chkA f t n o A k c=#[])=False:=by simp[chkA]
def ChkRet2(w:World)(l:List Chk)(n:Int):Ending->World->Prop:=fun en w'=>
 ∃A c ds,en=.returned (.tuple #[.slice A l.length c,iv n])∧GRow kChk w' w.heap.size l ds A c∧Each kChk l ds (fun k=>w.heap.size<=k)∧Below w.heap.size w w'
theorem x23q(h:Y:=by
 go_wp2_with fail;have hba:=(bW w).alloc nl (.cells (patA p.from_ p.to_ p.old p.new_ p.size B p.ops.length d) 35);refine(K1.out _ (HP.out.stays hba)).mono ?_;rintro e w1 ⟨rfl,hb1⟩;have HB1:=qH (hba.trans (hb1.mono (by simp)));clear hb1;go_wp2_with fail;go_ret2;exact⟨none,0,[],rfl,GRow.nil _ _,Each.nil,HB1.out⟩):Y:=h
theorem mid_slice{ab ao:Nat}{c:Nat}{z1 z2:Int}(i y:Nat)(h1:z1=(i:Int))(h2:z2=(i:Int)+(y:Int))(hc:l.length<=c)(hy:i+y<=l.length)(hB:Bts w (some ⟨ab,ao,none⟩) l):∃o' c',y<=c'∧Bts w (some ⟨ab,o',none⟩) ((l.drop i).take y)∧
  ∀W,(Instr.slice 22 (.slice (some ⟨ab,ao,none⟩) l.length c) (some (iv z1)) (some (iv z2)) none).run Try.prog W=.ok (.slice (some ⟨ab,o',none⟩) y c') W:=by
 subst h1 h2;have q1:(i:Int)+(y:Int)<=(c:Int):=by omega
 have q1:(i:Int)<=(i:Int)+(y:Int):=by omega
 have q1:i+y-i=y:=by omega
 by_cases e:c=i
 ·have hy1:y=0:=by omega
  subst hy1;refine⟨ao,c-i,by omega,by simpa using Bts.nil _ _,fun W=>?_⟩;go_simp
 refine⟨ao+i,c-i,by omega,mid_take (mid_at hB i) y,fun W=>?_⟩;go_simp;omega
theorem refChunks_bad(B:OA)(d:Nat)(p:Pat)(w:World)(hp:PatIn w p B d)(h:patCheck p≠0):
  Calls Try.prog 44 #[.agg (patA p.from_ p.to_ p.old p.new_ p.size B p.ops.length d)] w (ChkRet2 w [] (patCheck p)):=by
 have K1:=qH (fun w hp=>refPatPut_bad B d p w hp h);have HP:=qH hp;obtain⟨ck,hck⟩:=eX (patCheck p);rw[hck]at h K1;rw[hck];have q:(ck !=0)=true:=by simp[h]
 clear hp h hck;go_enter Try.func44,Try.ntmps44;exact x23q
theorem part_bts{ab ao:Nat}{b:LU}(h:Bts w (some ⟨ab,ao,none⟩) b)(k:Nat):Bts w (some ⟨ab,ao+16*k,none⟩) ((b.drop (k*16)).take 16):=by
 intro i hi;have hi1:k*16+i<b.length:=by simp at hi;omega
 obtain⟨b',o',e,hl,hc⟩:=h (k*16+i) hi1
 cases e;refine⟨_,_,rfl,hl,?_⟩;rw[show ao+16*k+i=ao+(k*16+i) by omega,hc];simp
theorem refChunks_fine(B:OA)(d:Nat)(p:Pat)(w:World)(hp:PatIn w p B d)(h:patCheck p=0):
  Calls Try.prog 44 #[.agg (patA p.from_ p.to_ p.old p.new_ p.size B p.ops.length d)] w (ChkRet2 w (chunksOf p (packed (patBytes p))) 0):=by
 have K1:=qH (fun w hp=>refPatPut_ok B d p w hp h);have HP:=qH hp;have hl1:=patBytes_len h;obtain⟨hl2,hl3⟩:=packed_patch_len h;obtain⟨pb,hpb⟩:=eX (patBytes p);rw[hpb]at K1 hl1 hl2 hl3⊢;have K2:=qH (fun A c w hc hb=>refPacked_calls A c pb w hc (by omega) hb);obtain⟨b,hb⟩:=eX (packed pb);rw[hb]at K2 hl2 hl3⊢;obtain⟨m,hm⟩:=eX ((b.length+15) / 16);have HCO:Hid (∀k,k<m->(chunksOf p b)[k]?=some (chunkAt p b m k)):=qH (fun k hk=>by unfold chunksOf;rw[hm];simp[hk]);have HCL1:Hid ((chunksOf p b).length=m):=qH (by unfold chunksOf;rw[hm];simp);have hm1:m<=10:=by omega
 have hm2:0<m:=by omega
 have HM:=qH hm;clear hp h hpb hb hm;generalize chunksOf p b=cs at *
 have HCA:Hid (∀k,chunkAt p b m k=⟨p.from_,p.to_,k,m,(b.drop (k*16)).take 16⟩):=qH (fun k=>rfl);generalize chunkAt p b m=ca at *
 obtain⟨f,t,o,n,sz,l⟩:=p;dsimp only at *
 have j1:decide ((52:Int)<(m:Int))=false:=decide_eq_false (by omega);have j2:¬52<m:=by omega
 have hba:=(bW w).alloc nl (.cells (patA f t o n sz B l.length d) 35);go_enter Try.func44,Try.ntmps44;go_wp2_with fail;refine(K1.out _ (HP.out.stays hba)).mono ?_;rintro e w1 ⟨A1,c1,rfl,ho1,hb1⟩;have hb1':=hba.trans (hb1.mono (by simp));have a1:=kp (w.heap.size) (patA f t o n sz B l.length d) hb1;have HBT:=qH ho1.src.bts;have hc1:=ho1.le;dsimp only at hc1;have HB1:=qH hb1';clear ho1 hb1 hb1' hba;go_wp2_with fail;refine(K2.out _ _ _ hc1 HBT.out).mono ?_;rintro e w2 ⟨A2,c2,rfl,ho1,hb1⟩;have a1:=kr a1 hb1;have HBB1:=qH ho1.src.bts;have HO1:=qH ho1;have hc2:=ho1.le;have HB2:=bT HB1 hb1;have hlb:0<b.length:=by omega
 obtain⟨ab,ao,rfl,hab,_⟩:=HBB1.out 0 hlb;have hab1:w1.heap.size<=ab:=(ho1.block ab rfl).1;clear ho1 hb1 HP K1 K2;go_wp2_with fail;refine(chunk_calls _ _ _ _).mono ?_;rintro e w3 ⟨rfl,hw1⟩;have hs1:w3.heap.size=w2.heap.size+2:=by rw[hw1];simp
 have hb1:Below w2.heap.size w2 w3:=by rw[hw1];exact(bL _).alloc (by simp) _
 have k1:w3.cell? ⟨w2.heap.size,0,none⟩=some (.slice (some ⟨ab,ao,none⟩) b.length c2):=by
  rw[hw1];exact((Box.new w2 22 (.slice (some ⟨ab,ao,none⟩) b.length c2)).alloc _).cell
 have k2:w3.cell? ⟨w2.heap.size+1,0,none⟩=some (iv 16):=by
  rw[hw1];have:=(Box.new (w2.alloc (.cells #[.slice (some ⟨ab,ao,none⟩) b.length c2] 22)) 3 (iv 16)).cell;simp
 have K1:=qH (collectChunk_calls w2.heap.size (w2.heap.size+1) ab ao b.length c2 hc2 (by omega) w3 (by omega) (by omega) k1 k2);have a1:=kr a1 hb1;have HB3:=bT HB2 hb1;have HB5:=qH hb1;clear hw1 hb1 k1 k2;go_wp2_with fail;refine K1.out.mono ?_;rintro e w4 ⟨v,rfl,hrow,hb1⟩;rw[HM.out]at hrow;obtain⟨A3,c4,rfl⟩:∃A4 c4,v=.slice A4 m c4:=by
  rcases hrow.2 with ⟨rfl,h0⟩|⟨g,cap,_,rfl,_⟩
  ·omega
  exact⟨_,_,rfl⟩
 have ho1:Own w4 w3.heap.size 22 1 A3 m c4 ((List.range m).map (partV ab ao b.length)):=hrow;have hsr:=ho1.src;obtain⟨gl,ol,rfl,hgl,_⟩:=hsr 0 (by simpa using hm2);have HLC:Hid (∀k,k<m->w4.cell? ⟨gl,ol+k,none⟩=some (partV ab ao b.length k)):=qH (fun k hk=>by
  obtain⟨b',o',e,_,hc⟩:=hsr k (by simpa using hk)
  cases e;simpa using hc)
 have hmc:m<=c4:=ho1.le;have a1:=kr a1 hb1;have HB4:=bT HB3 hb1;have HBB2:Hid (Bts w4 (some ⟨ab,ao,none⟩) b):=qH ((HBB1.out.stays HB5.out).stays hb1);have HR1:Hid (rowOf w4 w.heap.size=patA f t o n sz B l.length d∧frOf w4 w.heap.size=(0,0)):=qH ⟨a1.1,a1.2.1⟩;have hab2:ab<w4.heap.size:=Nat.lt_of_lt_of_le hab (by have h1:=HB5.out.size;have h2:=hb1.size;omega);have hab3:w.heap.size<=ab:=Nat.le_trans HB1.out.size hab1;have hg1:=a1.2.2.2.2.2;clear hrow ho1 hsr hb1 K1 HBT HB1 HB2 HO1 HBB1 HB5 HB3 hab hab1 a1 hs1;go_wp2_with fail;generalize hg0:w.heap.size=g0 at *
 have HGE:=qH hg0;generalize hbase:w4.heap.size=base at *
 have HBE:=qH hbase;clear hg0 hbase;go_loopw [7,27] (fun v i wr=>∃(k:Nat) (acc:List Chk) (ds:List (Option Addr×Nat)) (C:OA) (cc:Nat),k<=m∧i=iv k∧v=.slice C acc.length cc∧acc.length=k∧Hid (acc=cs.take k)∧Hid (GRow kChk wr base acc ds C cc)∧Hid (Each kChk acc ds (fun q=>q=ab))∧Hid (Below base w4 wr)) (fun _ i _=>m-(intOf i).toNat)
 case atStart=>exact⟨0,[],[],none,0,Nat.zero_le _,rfl,rfl,rfl,qH (by simp),qH (GRow.nil _ _),qH Each.nil,qH (Below.refl _ _)⟩
 case round=>
  rename World=>wo;obtain⟨k,acc,ds,C,cc,hk,rfl,rfl,hal,HAC,HR,HE,HB⟩:=hrel;have hbo:base<=wo.heap.size:=Nat.le_trans (Nat.le_of_eq HBE.out.symm) HB.out.size;have hbw:Below w4.heap.size w4 wo:=HBE.out▸HB.out;have a1:=keep1 (g:=g0) (cs:=patA f t o n sz B l.length d) hbw HR1.out.1 (by go_simp) HR1.out.2;by_cases hlt:k<m
  ·have dl:decide ((k:Int)<(m:Int))=true:=decide_eq_true (by omega);have hwk:IntKind.i64.wrap ((k:Int)+1)=(k:Int)+1:=IntWalk.i64_in _ (by omega);obtain⟨x,hx⟩:=eX (ca k);have hxe:=HCA.out k;rw[hx]at hxe;obtain⟨y,hy⟩:=eX (min 16 (b.length-16*k));have hxd:x.data=(b.drop (k*16)).take 16:=by rw[hxe]
   have hxl:x.data.length=y:=by rw[hxd,<-hy];simp;omega
   have hB1:=part_bts (HBB2.out.stays hbw) k;rw[<-hxd]at hB1;have p1:wo.cell? ⟨gl,ol+k,none⟩=some (.slice (some ⟨ab,ao+16*k,none⟩) y y):=by
    have h1:=(World.cell?_of_block (HB.out.block gl hgl)).trans (HLC.out k hlt);rw[h1,<-hy];rfl
   have HNXT:Hid (acc++[x]=cs.take (k+1)):=qH (by
    have h1:=HCO.out k hlt;rw[hx]at h1;obtain⟨h2,h3⟩:=List.getElem?_eq_some_iff.1 h1;rw[List.take_succ_eq_append_getElem h2,h3,HAC.out])
   have HXE:Hid (kChk.cell x (some ⟨ab,ao+16*k,none⟩,y)=[iv f,iv t,iv k,iv m,.slice (some ⟨ab,ao+16*k,none⟩) y y]):=qH (by rw[show kChk.cell x (some ⟨ab,ao+16*k,none⟩,y)=chkC x (some ⟨ab,ao+16*k,none⟩) y from rfl];unfold chkC;rw[hxl,hxe]);have HBX:=qH hB1;have HXL:=qH hxl;have HAL:=qH hal;have hk1:k<=10:=by omega
   have hacl:acc.length<=10:=by omega
   have hrow:=HR.out.row;have hbelA:Below wo.heap.size wo (wo.alloc (.cells #[iv f,iv t,iv k,iv m,.slice (some ⟨ab,ao+16*k,none⟩) y y] 49)):=bL _;have hoa:=hrow.below hbelA;have hsd:Src (wo.alloc (.cells #[iv f,iv t,iv k,iv m,.slice (some ⟨ab,ao+16*k,none⟩) y y] 49)) (some ⟨wo.heap.size,0,none⟩) [iv f,iv t,iv k,iv m,.slice (some ⟨ab,ao+16*k,none⟩) y y]:=src_blk (blk_top rfl);have hone:∀u∈[iv f,iv t,iv k,iv m,Value.slice (some ⟨ab,ao+16*k,none⟩) y y],u.oneCell'=true:=by simp[Value.oneCell']
   have hle:base<=(wo.alloc (.cells #[iv f,iv t,iv k,iv m,.slice (some ⟨ab,ao+16*k,none⟩) y y] 49)).heap.size:=by simp;omega
   clear hx hxe hy hxd hxl hB1 hal hrow;go_wp2_with (at_builtin;go_must (refine wpList_app (wo.alloc (.cells #[iv f,iv t,iv k,iv m,.slice (some ⟨ab,ao+16*k,none⟩) y y] 49)) rfl _ _ 43 rfl elChunks base C acc.length cc (kChk.cells acc ds) rfl hoa (some ⟨wo.heap.size,0,none⟩) 1 1 [iv f,iv t,iv k,iv m,.slice (some ⟨ab,ao+16*k,none⟩) y y] rfl hsd rfl hone (by omega) hle ?_;intro C1 cc1 w5 hown hgr hbel hor));have HOWN:=qH hown;have HGR:=qH hgr;have HBEL:=qH hbel;have HOR:=qH hor;clear hown hgr hbel hor hoa hsd hone hle;go_roundw
   case rel=>
    have hbA:Below wo.heap.size wo (wo.alloc (.cells #[iv f,iv t,iv k,iv m,.slice (some ⟨ab,ao+16*k,none⟩) y y] 49)):=bL _;refine⟨k+1,acc++[x],ds++[(some ⟨ab,ao+16*k,none⟩,y)],C1,cc1,by omega,by go_num,by simp,by rw[List.length_append,HAL.out];rfl,HNXT,qH ?_,qH ?_,qH ?_⟩
    ·refine(HR.out.below hbA).push (o:=x) (d:=(some ⟨ab,ao+16*k,none⟩,y)) (by rw[HXE.out];exact HOWN.out) HBEL.out (fun q hq hn=>HGR.out.block q hq (fun e=>hn e.symm)) ?_ (HBX.out.stays hbA) (Nat.le_of_eq HXL.out) (fun _ q e e2=>?_)
     ·rcases HOR.out with h|h
      ·exact .inl h
      ·exact .inr (fun q hq=>by rw[h]at hq;injection hq with hq;omega)
     ·have h1:=(HR.out.row.block q e2).1;have h2:ab=q:=by simpa using e
      omega
    ·exact HE.out.push HR.out.len (fun _ q e=>by simpa using e.symm)
    exact(HB.out.alloc hbo _).trans HBEL.out
   case measure=>simp[intOf];omega
  obtain rfl:k=m:=by omega
  have dl:decide ((k:Int)<(k:Int))=false:=by simp
  have hz:acc=cs:=by rw[HAC.out,List.take_of_length_le (by rw[HCL1.out];exact nl)]
  have HZ:=qH hz;clear hz hal;go_wp2_with fail;go_ret2;rw[<-HZ.out];exact⟨C,cc,ds,rfl,HR.out.mono (by rw[HGE.out];omega),HE.out.imp (fun q hq=>by rw[HGE.out,hq];omega),by rw[HGE.out];exact HB4.out.trans (HB.out.mono (by omega))⟩
theorem refChunks_calls(B:OA)(d:Nat)(p:Pat)(w:World)(hp:PatIn w p B d):
  Calls Try.prog 44 #[.agg (patA p.from_ p.to_ p.old p.new_ p.size B p.ops.length d)] w (ChkRet2 w (chkCut p).1 (chkCut p).2):=by
 unfold chkCut;by_cases h:patCheck p=0
 ·obtain⟨h1,h2⟩:=packed_patch_len h;rw[if_neg (by simpa using h),if_neg (by omega)];exact refChunks_fine B d p w hp h
 rw[if_pos h];exact refChunks_bad B d p w hp h
theorem x355(h:Y:=by
 refine qH (HB.out.trans (Below.trans ?_ (hb1.mono (by first|omega|(simp<;>omega)))));repeat (first|exact Below.refl _ _|refine bA ?_ _)):Y:=h
theorem x37v(h:Y:=by
 go_enter Try.func102,Try.ntmps102;go_wp2_with fail;go_ret;exact⟨ret_bool HZ.out.symm,HB.out⟩):Y:=h
theorem x73o(h:Y:=by
 go_wp2_with fail;go_ret;exact⟨ret_int hz.out.symm,hA⟩):Y:=h
theorem x9ec(h:Y:=by
 have hz:=qH (chkCheck_bad (x:=⟨f,t,n,o,l⟩) (by unfold Chk.range;dsimp only;omega));go_enter Try.func47,Try.ntmps47;go_wp2_with fail;go_ret;exact⟨ret_int hz.out.symm,hA⟩):Y:=h
theorem chkCheck_bad(h:¬x.range):chkCheck x=2:=by unfold chkCheck;rw[if_pos h]
theorem chkCheck_form(h:x.range)(g:¬x.full):chkCheck x=3:=by unfold chkCheck;rw[if_neg (by simpa using h),if_pos g]
theorem chkCheck_fine(h:x.range)(g:x.full):chkCheck x=0:=chkCheck_ok.2 ⟨h,g⟩
theorem full_len{f t n o:Int}:Chk.full ⟨f,t,n,o,l⟩↔l.length≠0∧l.length<=16∧(n<o-1->l.length=16):=by
 unfold Chk.full;dsimp only;rw[<-List.length_pos_iff];constructor<;>(intro h;refine⟨by omega,h.2.1,h.2.2⟩)
theorem chkCheck_calls(A:OA)(c:Nat)(f t n o:Int)(l:LU)(w:World)(hn:I64 n)(ho:I64 o):
  Calls Try.prog 47 #[.agg (chkA f t n o A l.length c)] w (RetB w (iv (chkCheck ⟨f,t,n,o,l⟩))):=by
 obtain⟨hn1,hn2⟩:=hn;obtain⟨ho1,ho2⟩:=ho;have hb:Below w.heap.size w (w.alloc (.cells (chkA f t n o A l.length c) 49)):=bL _;have HB:=qH hb;clear hb;by_cases h8:f<(1:Int)
 ·exact x9ec
 by_cases h1:(30:Int)<f
 ·exact x9ec
 by_cases h1:t<(1:Int)
 ·exact x9ec
 by_cases h1:(30:Int)<t
 ·exact x9ec
 by_cases h1:o<(1:Int)
 ·exact x9ec
 by_cases h1:(52:Int)<o
 ·exact x9ec
 by_cases h1:n<(0:Int)
 ·exact x9ec
 by_cases h1:o<=n
 ·exact x9ec
 have hr:Chk.range ⟨f,t,n,o,l⟩:=by unfold Chk.range;dsimp only;omega
 have HR:=qH hr;clear hr;have hw:IntKind.i64.wrap (o-1)=o-1:=IntWalk.i64_in _ (by omega);by_cases g4:l.length=0
 ·have hz:=qH (chkCheck_form HR.out (fun e=>(full_len.1 e).1 g4));have q:((l.length:Int)==0)=true:=by simp[g4]
  clear g4;go_enter Try.func47,Try.ntmps47;exact x73o
 have q2:((l.length:Int)==0)=false:=beq_eq_false_iff_ne.2 (by omega);by_cases g1:(16:Int)<(l.length:Int)
 ·have hz:=qH (chkCheck_form HR.out (fun e=>by have:=(full_len.1 e).2.1;omega));clear g4;go_enter Try.func47,Try.ntmps47;exact x73o
 by_cases g1:n<o-1
 ·by_cases g2:l.length=16
  ·have q1:((l.length:Int) !=16)=false:=by simp[g2]
   have hz:=qH (chkCheck_fine HR.out (full_len.2 ⟨by omega,by omega,fun _=>g2⟩));clear g4 g2;go_enter Try.func47,Try.ntmps47;exact x73o
  ·have q1:((l.length:Int) !=16)=true:=bne_iff_ne.2 (by omega);have hz:=qH (chkCheck_form HR.out (fun e=>g2 ((full_len.1 e).2.2 g1)));clear g4 g2;go_enter Try.func47,Try.ntmps47;exact x73o
 have hz:=qH (chkCheck_fine HR.out (full_len.2 ⟨by omega,by omega,fun h=>absurd h g1⟩));clear g4;go_enter Try.func47,Try.ntmps47;exact x73o
theorem kin_calls(A B:OA)(c d k m:Nat)(f t n o f2 t2 n2 o2:Int)(l r:LU)(w:World):
  Calls Try.prog 102 #[.agg (chkA f t n o A k c),.agg (chkA f2 t2 n2 o2 B m d)] w (RetB w (.bool (decide (kin ⟨f,t,n,o,l⟩ ⟨f2,t2,n2,o2,r⟩)))):=by
 have hb:Below w.heap.size w ((w.alloc (.cells (chkA f t n o A k c) 49)).alloc (.cells (chkA f2 t2 n2 o2 B m d) 49)):=(bL _).alloc (by simp) _;have HB:=qH hb;clear hb;by_cases h3:¬f=f2
 ·have hz:decide (kin ⟨f,t,n,o,l⟩ ⟨f2,t2,n2,o2,r⟩)=false:=decide_eq_false (by unfold kin;dsimp only;omega);have HZ:=qH hz;have q:(f==f2)=false:=by simp[h3]
  clear hz h3;exact x37v
 have h3:=Decidable.not_not.1 h3;subst h3;have q3:(f==f)=true:=by simp
 by_cases h1:¬t=t2
 ·have hz:decide (kin ⟨f,t,n,o,l⟩ ⟨f,t2,n2,o2,r⟩)=false:=decide_eq_false (by unfold kin;dsimp only;omega);have HZ:=qH hz;have q:(t==t2)=false:=by simp[h1]
  clear hz h1;exact x37v
 have h1:=Decidable.not_not.1 h1;subst h1;have q1:(t==t)=true:=by simp
 by_cases h1:¬o=o2
 ·have hz:decide (kin ⟨f,t,n,o,l⟩ ⟨f,t,n2,o2,r⟩)=false:=decide_eq_false (by unfold kin;dsimp only;omega);have HZ:=qH hz;have q:(o==o2)=false:=by simp[h1]
  clear hz h1;exact x37v
 have h1:=Decidable.not_not.1 h1;subst h1;have q1:(o==o)=true:=by simp
 have hz:decide (kin ⟨f,t,n,o,l⟩ ⟨f,t,n2,o,r⟩)=true:=decide_eq_true ⟨rfl,rfl,rfl⟩;have HZ:=qH hz;clear hz;exact x37v
theorem chk_eq_iff{y:Chk}:x=y↔kin x y∧x.n=y.n∧x.data=y.data:=by
 obtain⟨f,t,n,o,l⟩:=x;obtain⟨f1,t1,n1,o1,l1⟩:=y;unfold kin;simp only[Chk.mk.injEq];constructor
 ·rintro⟨h1,h2,h3,h4,h5⟩;exact⟨⟨h1,h2,h4⟩,h3,h5⟩
 rintro⟨⟨h1,h2,h4⟩,h3,h5⟩;exact⟨h1,h2,h3,h4,h5⟩
theorem kinX_calls(A B:OA)(c d:Nat)(x y:Chk)(w:World):
  Calls Try.prog 102 #[.agg (chkA x.from_ x.to_ x.n x.of_ A x.data.length c),.agg (chkA y.from_ y.to_ y.n y.of_ B y.data.length d)] w (RetB w (.bool (decide (kin x y)))):=
 kin_calls A B c d x.data.length y.data.length x.from_ x.to_ x.n x.of_ y.from_ y.to_ y.n y.of_ x.data y.data w
theorem chkSame1_calls(x y:Chk)(B D:OA)(c d:Nat)(w:World)(hx:ChkIn w x B c)(hy:ChkIn w y D d):
  Calls Try.prog 106 #[.agg (chkA x.from_ x.to_ x.n x.of_ B x.data.length c),.agg (chkA y.from_ y.to_ y.n y.of_ D y.data.length d)] w (RetB w (.bool (decide (x=y)))):=by
 have bl:=((bW w).alloc nl (.cells (chkA x.from_ x.to_ x.n x.of_ B x.data.length c) 49)).alloc (by simp) (.cells (chkA y.from_ y.to_ y.n y.of_ D y.data.length d) 49);have hl:=hx.len;have hl1:=hy.len;have HB:=qH bl;have HK:=qH (fun w=>kinX_calls B D c d x y w);obtain⟨r,hr⟩:=eX (decide (x=y));rw[hr];have hr1:decide (kin x y∧x.n=y.n∧x.data=y.data)=r:=by
  rw[<-hr];exact decide_eq_decide.2 chk_eq_iff.symm
 have HR:=qH hr1;have HC:=qH (fun w h1 h2=>equalBytes_calls B D c d x.data y.data w hl hl1 h1 h2);have HX:=qH hx;have HY:=qH hy;clear hx hy bl hr hr1;by_cases hk:kin x y
 ·have dk:decide (kin x y)=true:=decide_eq_true hk;have HKK:=qH hk;clear hk;by_cases hn:x.n=y.n
  ·have hz:decide (x.data=y.data)=r:=by
    rw[<-HR.out];by_cases e:x.data=y.data
    ·rw[decide_eq_true e,decide_eq_true ⟨HKK.out,hn,e⟩]
    rw[decide_eq_false e,decide_eq_false (fun h=>e h.2.2)]
   have HZ:=qH hz;have q:(x.n==y.n)=true:=by simp[hn]
   clear hn hz;go_enter Try.func106,Try.ntmps106;go_wp2_with fail;refine(HK.out _).mono ?_;rintro e w1 ⟨rfl,hb⟩;have a2:=kp (w.heap.size) (chkA x.from_ x.to_ x.n x.of_ B x.data.length c) hb;have a1:=kp (w.heap.size+1) (chkA y.from_ y.to_ y.n y.of_ D y.data.length d) hb;have HB1:=bT HB hb;clear hb;go_wp2_with fail;refine(HC.out _ (HX.out.data.stays HB1.out) (HY.out.data.stays HB1.out)).mono ?_;rintro e w2 ⟨rfl,n,rfl⟩;go_wp2_with fail;go_ret;exact⟨ret_bool HZ.out,Below.drewN' HB1.out n⟩
  have hz:false=r:=by rw[<-HR.out,decide_eq_false (fun h=>hn h.2.1)]
  have HZ:=qH hz;have q:(x.n==y.n)=false:=by simp[hn]
  clear hn hz;go_enter Try.func106,Try.ntmps106;go_wp2_with fail;refine(HK.out _).mono ?_;rintro e w1 ⟨rfl,hb⟩;have a2:=kp (w.heap.size) (chkA x.from_ x.to_ x.n x.of_ B x.data.length c) hb;have a1:=kp (w.heap.size+1) (chkA y.from_ y.to_ y.n y.of_ D y.data.length d) hb;have HB1:=bT HB hb;clear hb;exact x61t
 have dk:decide (kin x y)=false:=decide_eq_false hk;have hz:false=r:=by rw[<-HR.out,decide_eq_false (fun h=>hk h.1)]
 have HZ:=qH hz;clear hk hz;go_enter Try.func106,Try.ntmps106;go_wp2_with fail;refine(HK.out _).mono ?_;rintro e w1 ⟨rfl,hb⟩;have HB1:=bT HB hb;clear hb;exact x61t
theorem chkSame_eqf(A B:OA)(c d:Nat)(l m:List Chk)(w:World)(hl:l.length<=2513169434843)(hm:m.length<=2513169434843)(ha:Chs w A l)(hb:Chs w B m):
  Calls Try.prog 105 #[.slice A l.length c,.slice B m.length d,.func (Fn.func 106) #[] #[]] w (RetB w (.bool (decide (l=m)))):=by
 by_cases hne:l.length=m.length
 ·have hdl:((l.length:Int) !=(m.length:Int))=false:=by simp[hne]
  have HE:=qH hne;have hm1:l.length<=m.length:=by omega
  have hm2:m.length<=l.length:=by omega
  clear hne;go_enter Try.func105,Try.ntmps105;go_wp2_with fail;go_loopw [17] (fun i wr=>∃k:Nat,k<=l.length∧i=iv k∧Hid (l.take k=m.take k)∧Hid (Below w.heap.size w wr)) (fun i _=>l.length-(intOf i).toNat)
  case atStart=>exact⟨0,Nat.zero_le _,rfl,qH rfl,qH (Below.refl _ _)⟩
  case round=>
   obtain⟨k,hk,rfl,HT,HB⟩:=hrel;by_cases hlt:k<l.length
   ·obtain⟨b1,o1,B1,c1,rfl,hs1,p6,p1,p2,p3,p4,p5⟩:=(ha.stays HB.out).at_ hlt;obtain⟨b2,o2,B2,c2,rfl,hs2,r6,r1,r2,r3,r4,r5⟩:=(hb.stays HB.out).at_ (i:=k) (by omega);have hsz:=HB.out.size;have HX:Hid (∀e:l[k]=m[k]'(by omega),l.take (k+1)=m.take (k+1)):=qH fun e=>take_eq_succ HT.out hlt (by omega) e;have HN:Hid (∀e:l[k]≠m[k]'(by omega),l≠m):=qH fun e=>ne_of_at hlt (by omega) e;generalize l[k]=x at *
    generalize m[k]'(by omega)=y at *
    have hsb:=fun w2 (h:Below wr.heap.size wr w2)=>chkSame1_calls x y B1 B2 c1 c2 w2 (p5.stays h) (r5.stays h);have HC:=qH hsb;clear hsb p5 r5;go_wp2_with fail;refine(HC.out _ ?_).mono ?_
    ·exact x2xt
    rintro e w1 ⟨rfl,hb1⟩;have HB1:Hid (Below w.heap.size w w1):=by
     exact x355
    clear hb1;exact x519
   go_wp2_with fail;go_ret;refine⟨ret_bool ?_,HB.out⟩;exact x4yl
 have hdl:((l.length:Int) !=(m.length:Int))=true:=by simp;omega
 have HX:=qH hne;clear hne;go_enter Try.func105,Try.ntmps105;exact x4e8
theorem chkSame_calls(A B:OA)(c d:Nat)(l m:List Chk)(w:World)(hl:l.length<=2513169434843)(hm:m.length<=2513169434843)(ha:Chs w A l)(hb:Chs w B m):
  Calls Try.prog 39 #[.slice A l.length c,.slice B m.length d] w (RetB w (.bool (decide (l=m)))):=by
 go_enter Try.func39,Try.ntmps39;go_wp2_with fail;refine(chkSame_eqf A B c d l m w hl hm ha hb).mono ?_;rintro e w1 ⟨rfl,hb1⟩;go_wp2_with fail;go_ret;exact⟨rfl,hb1⟩
theorem eqIn_inf(d:Nat)(x y z x' y' z':Int)(w:World):(Op.equalIn (d+2) 63 (.agg #[iv x,iv y,iv z]) (.agg #[iv x',iv y',iv z'])).run Try.prog w=.ok (decide (x=x'∧y=y'∧z=z')) w:=by
 go_simp;split
 ·split
  ·split<;>simp_all
  ·simp_all
 simp_all
theorem cellsOfInf:Try.prog.cellsOf 63=3:=by kernel_rfl
theorem cellsOfCop:Try.prog.cellsOf 68=12:=by kernel_rfl
theorem run_eqItems2{P:Program}{d n:Nat}{e:TypeId}{xs ys:Array Value}{a b a' b':Value}{r r':Bool}
  (p1:(part e xs 0).run P w=.ok a w) (p2:(part e ys 0).run P w=.ok a' w) (p3:(part e xs n).run P w=.ok b w) (p4:(part e ys n).run P w=.ok b' w)
  (h1:(Op.equalIn d e a a').run P w=.ok r w) (h2:(Op.equalIn d e b b').run P w=.ok r' w):(Op.eqItems d e n xs ys (List.range 2)).run P w=.ok (r&&r') w:=by
 rw[show List.range 2=[0,1] from rfl];simp only[Op.eqItems,Sem.run_bind,Nat.zero_mul,Nat.one_mul,p1,p2,Result.andThen_ok,h1]
 cases r
 ·simp
 simp only[Bool.not_true,Bool.false_eq_true,if_false,Sem.run_bind,p3,p4,h2,Result.andThen_ok,Bool.true_and]
 cases r'<;>simp
theorem eqIn_infs(d:Nat)(x y z x' y' z' u v t u' v' t':Int)(w:World):(Op.equalIn (d+3) 64 (.agg #[iv x,iv y,iv z,iv u,iv v,iv t]) (.agg #[iv x',iv y',iv z',iv u',iv v',iv t'])).run Try.prog w=
  .ok (decide (x=x'∧y=y'∧z=z')&&decide (u=u'∧v=v'∧t=t')) w:=by
 obtain⟨i,hi,hz,hs,hb⟩:=info_parts (P:=Try.prog) (e:=63) (z:=.agg #[iv 0,iv 0,iv 0]) (size:=3) (bytes:=24) (by kernel_rfl);rw[run_equalIn_array (P:=Try.prog) (w:=w) (d+2) _ _ Try.underlying64 hi,cellsOfInf];exact run_eqItems2 (by kernel_rfl) (by kernel_rfl) (by kernel_rfl) (by kernel_rfl) (eqIn_inf d x y z x' y' z' w) (eqIn_inf d u v t u' v' t' w)
theorem rec_dec(r s:Rec):decide (r=s)=(decide (r.gen=s.gen)&&(decide (r.active=s.active)&&(decide (r.trying=s.trying)&&(decide (r.tries=s.tries)&&(decide (r.floor=s.floor)&&(decide (r.a.ver=s.a.ver∧r.a.size=s.a.size∧r.a.sum=s.a.sum)&&decide (r.b.ver=s.b.ver∧r.b.size=s.b.size∧r.b.sum=s.b.sum))))))):=by
 obtain⟨g,a,t,n,f,⟨x,y,z⟩,⟨u,v,w⟩⟩:=r;obtain⟨g',a',t',n',f',⟨x',y',z'⟩,⟨u',v',w'⟩⟩:=s;rw[Bool.eq_iff_iff];simp
theorem eqIn_rec(d:Nat)(r s:Rec)(w:World):(Op.equalIn (d+4) 66 (.agg (recA r)) (.agg (recA s))).run Try.prog w=.ok (decide (r=s)) w:=by
 have e:=fun w=>eqIn_infs d r.a.ver r.a.size r.a.sum s.a.ver s.a.size s.a.sum r.b.ver r.b.size r.b.sum s.b.ver s.b.size s.b.sum w;rw[rec_dec];generalize decide (r.a.ver=s.a.ver∧r.a.size=s.a.size∧r.a.sum=s.a.sum)=B1 at e⊢;generalize decide (r.b.ver=s.b.ver∧r.b.size=s.b.size∧r.b.sum=s.b.sum)=B2 at e⊢;unfold recA;go_simp;by_cases h1:r.gen=s.gen
 ·by_cases h2:r.active=s.active
  ·by_cases h3:r.trying=s.trying
   ·by_cases h4:r.tries=s.tries
    ·by_cases h5:r.floor=s.floor
     ·cases B1<;>cases B2<;>simp[h1,h2,h3,h4,h5]
     ·simp[h1,h2,h3,h4,h5]
    ·simp[h1,h2,h3,h4]
   ·simp[h1,h2,h3]
  ·simp[h1,h2]
 simp[h1]
theorem guard_rec:Try.prog.eqGuardType Try.prog.depth 66=false:=by kernel_rfl
theorem eql_rec(r s:Rec)(w:World):(binOp .eql 66 (.agg (recA r)) (.agg (recA s))).run Try.prog w=.ok (.bool (decide (r=s))) w:=by
 rw[run_eql_struct,eqIn_rec 9996];rfl
theorem neq_rec(r s:Rec)(w:World):(binOp .neq 66 (.agg (recA r)) (.agg (recA s))).run Try.prog w=.ok (.bool (!decide (r=s))) w:=by
 rw[run_neq_struct,eqIn_rec 9996];rfl
theorem neq_rec0(r:Rec)(w:World):(binOp .neq 66 (.agg (recA r)) (.agg #[iv 0,iv 0,.bool false,iv 0,iv 0,iv 0,iv 0,iv 0,iv 0,iv 0,iv 0])).run Try.prog w=.ok (.bool (!decide (r=Rec.zero))) w:=neq_rec r Rec.zero w
theorem eql_rec0(r:Rec)(w:World):(binOp .eql 66 (.agg (recA r)) (.agg #[iv 0,iv 0,.bool false,iv 0,iv 0,iv 0,iv 0,iv 0,iv 0,iv 0,iv 0])).run Try.prog w=.ok (.bool (decide (r=Rec.zero))) w:=eql_rec r Rec.zero w
theorem cop_dec(c d:Cop):decide (c=d)=(decide (c.ok=d.ok)&&decide (c.r=d.r)):=by
 obtain⟨o,r⟩:=c;obtain⟨o',r'⟩:=d;rw[Bool.eq_iff_iff];simp
theorem eqIn_cop(d:Nat)(a b:Cop)(w:World):(Op.equalIn (d+5) 68 (.agg (copA a)) (.agg (copA b))).run Try.prog w=.ok (decide (a=b)) w:=by
 have e:∀w,(Op.equalIn (d+4) 66 (.agg #[iv a.r.gen,iv a.r.active,.bool a.r.trying,iv a.r.tries,iv a.r.floor,iv a.r.a.ver,iv a.r.a.size,iv a.r.a.sum,iv a.r.b.ver,iv a.r.b.size,iv a.r.b.sum])
  (.agg #[iv b.r.gen,iv b.r.active,.bool b.r.trying,iv b.r.tries,iv b.r.floor,iv b.r.a.ver,iv b.r.a.size,iv b.r.a.sum,iv b.r.b.ver,iv b.r.b.size,iv b.r.b.sum])).run Try.prog w=.ok (decide (a.r=b.r)) w:=fun w=>eqIn_rec d a.r b.r w
 rw[cop_dec];generalize decide (a.r=b.r)=B1 at e⊢;unfold copA;go_simp;by_cases h1:a.ok=b.ok<;>cases B1<;>simp[h1]
theorem eql_cop(r s:Cop)(w:World):(binOp .eql 68 (.agg (copA r)) (.agg (copA s))).run Try.prog w=.ok (.bool (decide (r=s))) w:=by
 rw[run_eql_struct,eqIn_cop 9995];rfl
theorem eqIn_cops(d:Nat)(a b x y:Cop)(w:World):(Op.equalIn (d+6) 69 (.agg (copsA a b)) (.agg (copsA x y))).run Try.prog w=.ok (decide (a=x)&&decide (b=y)) w:=by
 obtain⟨i,hi,hz,hs,hb⟩:=info_parts (P:=Try.prog) (e:=68) (z:=.agg (copA Cop.zero)) (size:=12) (bytes:=96) (by kernel_rfl);rw[run_equalIn_array (P:=Try.prog) (w:=w) (d+5) _ _ Try.underlying69 hi,cellsOfCop];exact run_eqItems2 (by kernel_rfl) (by kernel_rfl) (by kernel_rfl) (by kernel_rfl) (eqIn_cop d a x w) (eqIn_cop d b y w)
theorem eql_cops(a b x y:Cop)(w:World):(binOp .eql 69 (.agg (copsA a b)) (.agg (copsA x y))).run Try.prog w=.ok (.bool (decide (a=x)&&decide (b=y))) w:=by
 rw[run_eql_struct,eqIn_cops 9994];rfl
theorem neq_cops(a b x y:Cop)(w:World):(binOp .neq 69 (.agg (copsA a b)) (.agg (copsA x y))).run Try.prog w=.ok (.bool (!(decide (a=x)&&decide (b=y)))) w:=by
 rw[run_neq_struct,eqIn_cops 9994];rfl
theorem guard_cop:Try.prog.eqGuardType Try.prog.depth 68=false:=by kernel_rfl
theorem guard_cops:Try.prog.eqGuardType Try.prog.depth 69=false:=by kernel_rfl
theorem big_cop:bigBuild Try.prog 68 2:=by
 obtain⟨i,hi,_⟩:=info_parts (P:=Try.prog) (e:=68) (z:=.agg (copA Cop.zero)) (size:=12) (bytes:=96) (by kernel_rfl);exact⟨i,hi,by omega⟩
theorem big_inf:bigBuild Try.prog 63 3:=by
 obtain⟨i,hi,_⟩:=info_parts (P:=Try.prog) (e:=63) (z:=.agg (infA Inf.zero)) (size:=3) (bytes:=24) (by kernel_rfl);exact⟨i,hi,by omega⟩
theorem build_cop(b:Bool)(r:Rec)(w:World):runBuild Try.prog 68 #[(0,.bool b),(1,.agg (recA r))] w=.ok (.agg (copA ⟨b,r⟩)) w:=by kernel_rfl
theorem build_inf(a b c:Int)(w:World):runBuild Try.prog 63 #[(0,iv a),(1,iv b),(2,iv c)] w=.ok (.agg (infA ⟨a,b,c⟩)) w:=by kernel_rfl
attribute [go_sem] build_cop build_inf big_cop big_inf
attribute [go_sem] guard_rec guard_cop guard_cops
attribute [go_sem ↓] eql_cops neq_cops eql_rec neq_rec neq_rec0 eql_rec0 eql_cop
theorem devSame_self(d:Dev)(L L':DLoc)(w:World)(h:DevIn w d L)(h':DevIn w d L'):Calls Try.prog 117 #[.agg (devA d L),.agg (devA d L')] w (RetB w (.bool true)):=by
 have H:=qH h;have H':=qH h';have HBA:Hid (Below w.heap.size w ((w.alloc (.cells (devA d L) 71)).alloc (.cells (devA d L') 71))):=qH ((bL _).alloc (by simp) _);have K4:=qH (fun w ha hb=>equalBytes_calls L.a0 L'.a0 L.c0 L'.c0 d.s0 d.s0 w h.l0 h.l0 ha hb);have K1:=qH (fun w ha hb=>equalBytes_calls L.a1 L'.a1 L.c1 L'.c1 d.s1 d.s1 w h.l1 h.l1 ha hb);have K2:=qH (fun w ha hb=>chkSame_calls L.ag L'.ag L.cg L'.cg d.got d.got w h.lg h.lg ha hb);have K3:=qH (fun w ha hb=>patSameA_calls L.aj L'.aj L.cj L'.cj d.job.from_ d.job.to_ d.job.old d.job.new_ d.job.size d.job.from_ d.job.to_ d.job.old d.job.new_ d.job.size d.job.ops d.job.ops w h.job.len h.job.len ha hb);rw[decide_eq_true rfl]at K4 K1 K2 K3;clear h h';go_enter Try.func117,Try.ntmps117;go_wp2_with fail;refine(K4.out _ (H.out.b0.stays HBA.out) (H'.out.b0.stays HBA.out)).mono ?_;rintro e w1 ⟨rfl,n1,hw⟩;have hb:Below ((w.alloc (.cells (devA d L) 71)).alloc (.cells (devA d L') 71)).heap.size ((w.alloc (.cells (devA d L) 71)).alloc (.cells (devA d L') 71)) w1:=by rw[<-hw];exact below_drewN _ n1
 have a2:=kp (w.heap.size) (devA d L) hb;have a1:=kp (w.heap.size+1) (devA d L') hb;have HB1:=bT HBA hb;clear hb hw;go_wp2_with fail;refine(K1.out _ (H.out.b1.stays HB1.out) (H'.out.b1.stays HB1.out)).mono ?_;rintro e w2 ⟨rfl,n2,hw⟩;have hb:Below w1.heap.size w1 w2:=by rw[<-hw];exact below_drewN _ n2
 have a2:=kr a2 hb;have a1:=kr a1 hb;have HB2:=bT HB1 hb;clear hb hw;go_wp2_with fail;refine(K2.out _ (H.out.got.stays HB2.out) (H'.out.got.stays HB2.out)).mono ?_;rintro e w3 ⟨rfl,hb⟩;have a2:=kr a2 hb;have a1:=kr a1 hb;have HB3:=bT HB2 hb;clear hb;go_wp2_with fail;refine(K3.out _ (H.out.job.ops.stays HB3.out) (H'.out.job.ops.stays HB3.out)).mono ?_;rintro e w4 ⟨rfl,hb⟩;have a2:=kr a2 hb;have a1:=kr a1 hb;have HB4:=bT HB3 hb;clear hb;go_wp2_with fail;go_ret;exact⟨rfl,HB4.out⟩
theorem bts_zeros{g n:Nat}{t:TypeId}{fr:Nat×Nat}(h:w.heap[g]?=some (.cells (Array.replicate n (.int .u8 0)) t fr)):Bts w (some ⟨g,0,none⟩) (List.replicate n 0):=by
 intro j hj;refine⟨g,0,rfl,blk_lt h,?_⟩;rw[cell_of_row _ _ _ _ _ _ h];have hj':j<n:=by simpa using hj
 simp[hj',bv]
theorem made_zeros(n:Nat):madeCells #[Value.int .u8 0] n=Array.replicate n (.int .u8 0):=by
 apply Array.ext'
 rw[toList_madeCells_one];simp
theorem room_calls(A:OA)(c:Nat)(b:LU)(w:World)(hb:b.length<=64)(hB:Bts w A b):
  Calls Try.prog 119 #[.slice A b.length c] w (BtRet w (room b)):=by
 obtain⟨m,hm⟩:∃m:Nat,64-b.length=m:=⟨_,rfl⟩;have hm1:(64:Int)-(b.length:Int)=(m:Int):=by omega
 have hwr:IntKind.i64.wrap ((64:Int)-(b.length:Int))=(m:Int):=by rw[hm1];exact IntWalk.i64_in _ (by omega)
 have hmk:∀w:World,(Instr.makeSlice 22 (iv (m:Int)) (iv (m:Int))).run Try.prog w=.ok (.slice (some ⟨w.heap.size,0,none⟩) m m) (w.alloc (.cells (Array.replicate m (.int .u8 0)) 5)):=fun w=>by
  have:=run_make_row' (P:=Try.prog) 22 5 (.int .u8 0) 1 Try.underlying22 (by kernel_rfl) rfl .i64 .i64 m (by omega) (by omega) w;rw[made_zeros]at this;exact this
 have HM:Hid (room b=b++List.replicate m 0):=qH (by unfold room;rw[hm]);have HMB:Hid (b.length+m<=64):=qH (by omega);have hba:=((bW w).alloc nl (.cells (Array.replicate m (.int .u8 0)) 5)).alloc (by simp) (.cells #[.slice A b.length c,.slice (some ⟨w.heap.size,0,none⟩) m m] 22);have K:=qH (concat2_calls (w:=(w.alloc (.cells (Array.replicate m (.int .u8 0)) 5)).alloc (.cells #[.slice A b.length c,.slice (some ⟨w.heap.size,0,none⟩) m m] 22)) (g:=w.heap.size+1) (A:=A) (B:=some ⟨w.heap.size,0,none⟩) (a:=b) (b:=List.replicate m 0) (c:=c) (d:=m)
  (t:=22) (fr:=(0,0)) (by rw[List.length_replicate];exact blk_top (by simp)) (by rw[List.length_replicate];omega) (hB.stays hba) ((bts_zeros (n:=m) (w:=w.alloc (.cells (Array.replicate m (.int .u8 0)) 5)) (blk_top rfl)).stays (bL _)))
 have HBA:=qH hba;rw[HM.out];clear hm hm1 hb hB hba;go_enter Try.func119,Try.ntmps119;go_wp2_with fail;refine K.out.mono ?_;rintro e w1 ⟨A1,c1,rfl,hown,hb1⟩;have HO:=qH hown;have HB1:=bT HBA hb1;clear hown hb1;go_wp2_with fail;go_ret;exact⟨A1,c1,by simp,HO.out.mono (by simp;omega),HB1.out⟩
theorem x27r(h:Y:=by
 clear hz;go_wp2_with fail;go_ret;exact⟨ret_int HO.out.symm,hB.alloc hB.size _⟩):Y:=h
theorem x6lz(h:Y:=by
 go_wp2_with fail;go_ret;exact⟨ret_int HE.out.symm,hB⟩):Y:=h
theorem x7h7(h:Y:=by
 clear hz hrow1 hb1;go_wp2_with fail;go_ret;exact⟨ret_int HO.out.symm,hB1⟩):Y:=h
theorem recCheckA_calls(r:Rec)(w:World):Calls Try.prog 151 #[.agg (recA r)] w (RetB w (iv (recCheck r))):=
 recCheck_calls r.gen r.active r.trying r.tries r.floor r.a.ver r.a.size r.a.sum r.b.ver r.b.size r.b.sum w
theorem copies_calls(c d:Cop)(w:World):Calls Try.prog 120 #[.agg (copsA c d)] w (RetB w (iv (copCheck c d))):=by
 have i2:∀w,(Instr.index 69 (.agg (copsA c d)) (iv 0)).run Try.prog w=.ok (.agg (copA c)) w:=fun _=>by kernel_rfl
 have i1:∀w,(Instr.index 69 (.agg (copsA c d)) (iv 1)).run Try.prog w=.ok (.agg (copA d)) w:=fun _=>by kernel_rfl
 go_enter Try.func120,Try.ntmps120;go_wp2_with fail;go_loopw [7] (fun i wr=>∃k:Nat,k<=2∧i=iv k∧Below w.heap.size w wr∧rowOf wr w.heap.size=copsA c d∧(0<k->copOne c=0)∧(1<k->copOne d=0)) (fun i _=>(2-intOf i).toNat)
 case atStart=>exact⟨0,by omega,rfl,bL _,by rw[rowOf_alloc,if_pos rfl],by omega,by omega⟩
 case round=>
  obtain⟨k,hk,rfl,hB,hrow,ha,hb⟩:=hrel;have HR:=qH hrow;clear hrow;by_cases hlt:k<2
  ·rcases (show k=0∨k=1 by omega)with rfl|rfl
   ·clear ha hb
    cases hok:c.ok
    ·by_cases hz:c.r=Rec.zero
     ·have HO:=qH (copOne_lost0 hok hz);have hd:decide (c.r=Rec.zero)=true:=decide_eq_true hz;have HK:=qH hok;have hok':(c.ok==true)=false:=by simp[hok]
      clear hz;go_wp2_with fail;go_roundw
      case rel=>exact⟨1,by omega,rfl,hB.alloc hB.size _,by rw[rowOf_alloc,if_neg (by have:=row_lt (w:=wr) (g:=w.heap.size) (by rw[HR.out];simp[copsA]);omega),HR.out],fun _=>HO.out,by omega⟩
      case measure=>simp[intOf]<;>omega
     ·have HO:=qH (copCheck_1 (d:=d) (copOne_lost3 hok hz) (by omega));have hd:decide (c.r=Rec.zero)=false:=decide_eq_false hz;exact x27r
    have HO1:=qH (copOne_ok hok);go_wp2_with fail;refine(recCheckA_calls c.r _).mono ?_;rintro e w1 ⟨rfl,hb1⟩;have hB1:=(hB.alloc hB.size (.cells (copA c) 68)).trans (hb1.mono (by simp;exact Nat.le_succ_of_le hB.size));have hrow1:rowOf w1 w.heap.size=copsA c d:=by rw[rowOf_below (by simp;have:=row_lt (w:=wr) (g:=w.heap.size) (by rw[HR.out];simp[copsA]);omega) hb1,rowOf_alloc,if_neg (by have:=row_lt (w:=wr) (g:=w.heap.size) (by rw[HR.out];simp[copsA]);omega),HR.out]
    by_cases hz:recCheck c.r=0
    ·have HO:=qH (HO1.out.trans hz);have hz':(recCheck c.r !=0)=false:=by simp[hz]
     have HW:=qH hrow1;clear hz hrow1 hb1;go_wp2_with fail;go_roundw
     case rel=>exact⟨1,by omega,rfl,hB1,HW.out,fun _=>HO.out,by omega⟩
     case measure=>simp[intOf]<;>omega
    have HO:=qH (copCheck_1 (d:=d) HO1.out hz);have hz':(recCheck c.r !=0)=true:=by simp[hz]
    exact x7h7
   ·have HA:=qH (ha (by omega));clear ha hb
    cases hok:d.ok
    ·by_cases hz:d.r=Rec.zero
     ·have HO:=qH (copOne_lost0 hok hz);have hd:decide (d.r=Rec.zero)=true:=decide_eq_true hz;have HK:=qH hok;have hok':(d.ok==true)=false:=by simp[hok]
      clear hz;go_wp2_with fail;go_roundw
      case rel=>exact⟨2,by omega,rfl,hB.alloc hB.size _,by rw[rowOf_alloc,if_neg (by have:=row_lt (w:=wr) (g:=w.heap.size) (by rw[HR.out];simp[copsA]);omega),HR.out],fun _=>HA.out,fun _=>HO.out⟩
      case measure=>simp[intOf]<;>omega
     ·have HO:=qH (copCheck_2 HA.out (copOne_lost3 hok hz) (by omega));have hd:decide (d.r=Rec.zero)=false:=decide_eq_false hz;exact x27r
    have HO1:=qH (copOne_ok hok);go_wp2_with fail;refine(recCheckA_calls d.r _).mono ?_;rintro e w1 ⟨rfl,hb1⟩;have hB1:=(hB.alloc hB.size (.cells (copA d) 68)).trans (hb1.mono (by simp;exact Nat.le_succ_of_le hB.size));have hrow1:rowOf w1 w.heap.size=copsA c d:=by rw[rowOf_below (by simp;have:=row_lt (w:=wr) (g:=w.heap.size) (by rw[HR.out];simp[copsA]);omega) hb1,rowOf_alloc,if_neg (by have:=row_lt (w:=wr) (g:=w.heap.size) (by rw[HR.out];simp[copsA]);omega),HR.out]
    by_cases hz:recCheck d.r=0
    ·have HO:=qH (HO1.out.trans hz);have hz':(recCheck d.r !=0)=false:=by simp[hz]
     have HW:=qH hrow1;clear hz hrow1 hb1;go_wp2_with fail;go_roundw
     case rel=>exact⟨2,by omega,rfl,hB1,HW.out,fun _=>HA.out,fun _=>HO.out⟩
     case measure=>simp[intOf]<;>omega
    have HO:=qH (copCheck_2 HA.out HO1.out hz);have hz':(recCheck d.r !=0)=true:=by simp[hz]
    exact x7h7
  obtain rfl:k=2:=by omega
  have hp:0<(rowOf wr w.heap.size).size:=by rw[HR.out];simp[copsA]
  have c1:=cell_row hp 0;have c2:=cell_row hp 12;rw[HR.out]at c1 c2;rw[copsA_get0]at c1;rw[copsA_get12]at c2;have HF:=qH (copCheck_3 (ha (by omega)) (hb (by omega)));clear ha hb hp
  cases hc:c.ok
  ·cases hd:d.ok
   ·have HE:Hid (copCheck c d=7):=by rw[hc,hd]at HF;exact HF
    exact x6lz
   ·have HE:Hid (copCheck c d=0):=by rw[hc,hd]at HF;exact HF
    exact x6lz
  have HE:Hid (copCheck c d=0):=by rw[hc]at HF;exact HF
  exact x6lz
theorem x08y(h:Y:=by
 have HE:=qH hE;clear hE;go_wp2_with fail;refine bodyPost_ret (results_ctt rfl rfl (cs:=recA d.r) (by go_simp) (by go_simp) (by go_simp)) rfl ⟨by rw[HE.out];rfl,?_⟩;exact below_row HB.out (Nat.le_succ _) _):Y:=h
theorem x0ap(h:Y:=by
 repeat (first|exact hA|refine bR ?_ _|refine bC ?_ _|refine bA ?_ _)):Y:=h
theorem x1qb(h:Y:=by
 have HE:=qH hE;clear hE;go_wp2_with fail;refine bodyPost_ret (results_ctt rfl rfl (cs:=recA c.r) (by go_simp) (by go_simp) (by go_simp)) rfl ⟨by rw[HE.out];rfl,?_⟩;exact below_row HB.out (Nat.le_succ _) _):Y:=h
theorem read_bad(c d:Cop)(w:World)(h:copCheck c d≠0):Calls Try.prog 53 #[.agg (copsA c d)] w (RetB w (.tuple #[.agg (recA Rec.zero),iv 0,iv (copCheck c d)])):=by
 have hb:(copCheck c d !=0)=true:=by simp[h]
 clear h;go_enter Try.func53,Try.ntmps53;go_wp2_with fail;refine(copies_calls c d _).mono ?_;rintro e w1 ⟨rfl,hb1⟩;obtain⟨kr,kf,kn,kc,kz⟩:=keepB hb1 (n:=w.heap.size+1+1) (by simp);have HB:=qH (((bL _).alloc (by simp) _).trans (hb1.mono (B':=w.heap.size) (by simp;omega)));clear hb1;go_wp2_with fail;refine bodyPost_ret (results_ctt rfl rfl (cs:=recA Rec.zero) (by go_simp) (by go_simp) (by go_simp)) rfl ⟨rfl,below_row HB.out (by omega) _⟩
theorem read_ok(c d:Cop)(w:World)(h:copCheck c d=0):Calls Try.prog 53 #[.agg (copsA c d)] w (RetB w (.tuple #[.agg (recA (recRead c d).1),iv (recRead c d).2,iv 0])):=by
 have hb:(copCheck c d !=0)=false:=by simp[h]
 clear h;go_enter Try.func53,Try.ntmps53;go_wp2_with fail;refine(copies_calls c d _).mono ?_;rintro e w1 ⟨rfl,hb1⟩;obtain⟨kr,kf,kn,kc,kz⟩:=keepB hb1 (n:=w.heap.size+1+1) (by simp);have HB:=qH (((bL _).alloc (by simp) _).trans (hb1.mono (B':=w.heap.size) (by simp;omega)));clear hb1
 cases hc:c.ok
 ·have hE:recRead c d=(d.r,1):=by unfold recRead newer;rw[hc];rfl
  exact x08y
 cases hd:d.ok
 ·have hE:recRead c d=(c.r,0):=by unfold recRead newer;rw[hc,hd];rfl
  exact x1qb
 by_cases hg:c.r.gen<d.r.gen
 ·have hE:recRead c d=(d.r,1):=by unfold recRead newer;rw[hc,hd,decide_eq_true hg];rfl
  exact x08y
 have hE:recRead c d=(c.r,0):=by unfold recRead newer;rw[hc,hd,decide_eq_false hg];rfl
 exact x1qb
attribute [go_sem] setRow_setRow
theorem write_bad(c d:Cop)(r:Rec)(torn:Bool)(w:World)(h:copCheck c d≠0):Calls Try.prog 122 #[.agg (copsA c d),.agg (recA r),.bool torn] w (RetB w (.tuple #[.agg (copsA Cop.zero Cop.zero),iv (copCheck c d)])):=by
 have hb:(copCheck c d !=0)=true:=by simp[h]
 go_enter Try.func122,Try.ntmps122;go_wp2_with fail;refine(read_bad c d _ h).mono ?_;rintro e w1 ⟨rfl,hb1⟩;have r4:=keep1 (g:=w.heap.size) (cs:=copsA c d) hb1 (by go_simp) (by go_simp) (by go_simp);have r1:=keep1 (g:=w.heap.size+1) (cs:=recA r) hb1 (by go_simp) (by go_simp) (by go_simp);have r1:=keep1 (g:=w.heap.size+1+1) (cs:=copsA Cop.zero Cop.zero) hb1 (by go_simp) (by go_simp) (by go_simp);have r1:=keep1 (g:=w.heap.size+1+1+1) (cs:=copsA Cop.zero Cop.zero) hb1 (by go_simp) (by go_simp) (by go_simp);have HB:=qH (((((bL _).alloc (by simp) _).alloc (by simp;omega) _).alloc (by simp;omega) _).trans (hb1.mono (B':=w.heap.size) (by simp;omega)));clear hb1 h;go_wp2_with fail;refine bodyPost_ret (rC (copsA Cop.zero Cop.zero)) rfl ⟨rfl,bZ HB⟩
theorem write_ok(c d:Cop)(r:Rec)(torn:Bool)(w:World)(h:copCheck c d=0):Calls Try.prog 122 #[.agg (copsA c d),.agg (recA r),.bool torn] w
  (RetB w (.tuple #[.agg (copsA (recWrite c d r torn).1.1 (recWrite c d r torn).1.2),iv (recWrite c d r torn).2])):=by
 have hrg:=recCheck_range0 (recRead_ok h);have hk:(recRead c d).2=0∨(recRead c d).2=1:=by unfold recRead;split<;>simp
 have hw:recWrite c d r torn=if recCheck {r with gen:=(recRead c d).1.gen+1}=0 then (recPut c d r torn,0)else ((Cop.zero,Cop.zero),recCheck {r with gen:=(recRead c d).1.gen+1}):=by unfold recWrite;rw[if_pos h]
 have hp:recPut c d r torn=if (recRead c d).2=0 then (c,if torn=true then Cop.zero else ⟨true,{r with gen:=(recRead c d).1.gen+1}⟩)else (if torn=true then Cop.zero else ⟨true,{r with gen:=(recRead c d).1.gen+1}⟩,d):=rfl
 have hread:=read_ok c d;have hread:=fun w=>hread w h;generalize recRead c d=q at *
 obtain⟨was,k⟩:=q;simp only at hk hw hp hread hrg;have HW:=qH hw;have HP:=qH hp;have HRd:=qH hread;have hg1:=hrg.1;have hg1:=hrg.2.1;clear hw hp hread hrg h;go_enter Try.func122,Try.ntmps122;go_wp2_with fail;refine(HRd.out _).mono ?_;rintro e w1 ⟨rfl,hb1⟩;have r4:=keep1 (g:=w.heap.size) (cs:=copsA c d) hb1 (by go_simp) (by go_simp) (by go_simp);have r1:=keep1 (g:=w.heap.size+1) (cs:=recA r) hb1 (by go_simp) (by go_simp) (by go_simp);have r2:=keep1 (g:=w.heap.size+1+1) (cs:=copsA Cop.zero Cop.zero) hb1 (by go_simp) (by go_simp) (by go_simp);have r3:=keep1 (g:=w.heap.size+1+1+1) (cs:=copsA Cop.zero Cop.zero) hb1 (by go_simp) (by go_simp) (by go_simp);have HB:=qH (((((bL _).alloc (by simp) _).alloc (by simp;omega) _).alloc (by simp;omega) _).trans (hb1.mono (B':=w.heap.size) (by simp;omega)));clear hb1;go_wp2_with fail;refine(recCheckA_calls {r with gen:=was.gen+1} _).mono ?_;rintro e w1 ⟨rfl,hb1⟩;have r5:=keep1 (g:=w.heap.size) (cs:=copsA c d) hb1 (by go_simp) (by go_simp) (by go_simp);have r5:=keep1 (g:=w.heap.size+1) (cs:=recA {r with gen:=was.gen+1}) hb1 (by go_simp) (by go_simp) (by go_simp);have r5:=keep1 (g:=w.heap.size+1+1) (cs:=copsA Cop.zero Cop.zero) hb1 (by go_simp) (by go_simp) (by go_simp);have r5:=keep1 (g:=w.heap.size+1+1+1) (cs:=copsA Cop.zero Cop.zero) hb1 (by go_simp) (by go_simp) (by go_simp);have hs:=HB.out.size;have HB1:Hid (Below w.heap.size w w1):=((HB.out.setCell (p:=⟨w.heap.size+1,0,none⟩) (by simp) (iv (was.gen+1))).alloc (by simp;omega) (.cells (recA was) 66)).trans (hb1.mono (by simp;omega));have hs1:=HB1.out.size;clear hb1 r4 r1 r2 r3 hs;by_cases hz:recCheck {r with gen:=was.gen+1}=0
 ·have hz':(recCheck {r with gen:=was.gen+1} !=0)=false:=by simp[hz]
  have HE:=qH (HW.out.trans (if_pos hz));clear hz HW;rcases hk with rfl|rfl
  ·have HP1:=qH (HP.out.trans (if_pos rfl))
   cases torn
   ·go_wp2_with fail;refine bodyPost_ret (results_ct rfl rfl (cs:=copsA c ⟨true,{r with gen:=was.gen+1}⟩) (by go_simp) (by go_simp) (by first|(go_simp;done)|(go_simp;kernel_rfl))) rfl ⟨by rw[HE.out,HP1.out];rfl,?_⟩;exact x0ap
   go_wp2_with fail;refine bodyPost_ret (results_ct rfl rfl (cs:=copsA c Cop.zero) (by go_simp) (by go_simp) (by first|(go_simp;done)|(go_simp;kernel_rfl))) rfl ⟨by rw[HE.out,HP1.out];rfl,?_⟩;exact x0ap
  have HP1:=qH (HP.out.trans (if_neg (by decide)))
  cases torn
  ·go_wp2_with fail;refine bodyPost_ret (results_ct rfl rfl (cs:=copsA ⟨true,{r with gen:=was.gen+1}⟩ d) (by go_simp) (by go_simp) (by first|(go_simp;done)|(go_simp;kernel_rfl))) rfl ⟨by rw[HE.out,HP1.out];rfl,?_⟩;exact x0ap
  go_wp2_with fail;refine bodyPost_ret (results_ct rfl rfl (cs:=copsA Cop.zero d) (by go_simp) (by go_simp) (by first|(go_simp;done)|(go_simp;kernel_rfl))) rfl ⟨by rw[HE.out,HP1.out];rfl,?_⟩;exact x0ap
 have hz':(recCheck {r with gen:=was.gen+1} !=0)=true:=by simp[hz]
 have HE:=qH (HW.out.trans (if_neg hz));clear hz HW HP hk;go_wp2_with fail;refine bodyPost_ret (results_ct rfl rfl (cs:=copsA Cop.zero Cop.zero) (by go_simp) (by go_simp) (by first|(go_simp;done)|(go_simp;kernel_rfl))) rfl ⟨by rw[HE.out];rfl,?_⟩;exact x0ap
theorem write_calls(c d:Cop)(r:Rec)(torn:Bool)(w:World):Calls Try.prog 122 #[.agg (copsA c d),.agg (recA r),.bool torn] w
  (RetB w (.tuple #[.agg (copsA (recWrite c d r torn).1.1 (recWrite c d r torn).1.2),iv (recWrite c d r torn).2])):=by
 by_cases h:copCheck c d=0
 ·exact write_ok c d r torn w h
 have e:recWrite c d r torn=((Cop.zero,Cop.zero),copCheck c d):=by unfold recWrite;rw[if_neg h]
 rw[e];exact write_bad c d r torn w h
theorem x4b3(h:Y:=by
 repeat (first|exact hA|refine bR ?_ _|refine bC ?_ _|refine bA ?_ _|refine Below.drew ?_)):Y:=h
theorem start_calls(r:Rec)(w:World):Calls Try.prog 125 #[.agg (recA r)] w (RetB w (.tuple #[iv (recStart r).1,.agg (recA (recStart r).2.1),iv (recStart r).2.2])):=by
 go_enter Try.func125,Try.ntmps125;go_wp2_with fail;refine(recCheckA_calls r _).mono ?_;rintro e w1 ⟨rfl,hb1⟩;have r2:=keep1 (g:=w.heap.size) (cs:=recA r) hb1 (by go_simp) (by go_simp) (by go_simp);have r1:=keep1 (g:=w.heap.size+1) (cs:=recA Rec.zero) hb1 (by go_simp) (by go_simp) (by go_simp);have HB:=qH (((bL _).alloc (by simp) _).trans (hb1.mono (B':=w.heap.size) (by simp;omega)));have hs:=HB.out.size;clear hb1;by_cases hz:recCheck r=0
 ·have hz':(recCheck r !=0)=false:=by simp[hz]
  have hrg:=recCheck_range0 hz;have hg1:=hrg.2.2.1;have hg1:=hrg.2.2.2.1;have hg1:=hrg.2.2.2.2.1;have hg1:=hrg.2.2.2.2.2.1
  cases ht:r.trying
  ·have hE:recStart r=(r.active,r,0):=by unfold recStart;rw[if_pos hz,if_neg (by simp[ht])]
   have HE:=qH hE;clear hE hrg hz;go_wp2_with fail;go_region
   all_goals (
    go_wp2_with fail;refine bodyPost_ret (results_tct rfl rfl (cs:=recA r) (by go_simp) (by go_simp) (by go_simp)) rfl ⟨by rw[HE.out];rfl,?_⟩;exact x4b3)
  by_cases h1:r.tries=0
  ·have hE:recStart r=(r.active,{r with trying:=false},0):=by unfold recStart;rw[if_pos hz,if_pos ht,if_pos h1]
   have h0':(r.tries==0)=true:=by simp[h1]
   have HE:=qH hE;clear hE hrg hz h1;go_wp2_with fail;go_region
   all_goals (
    go_wp2_with fail;refine bodyPost_ret (results_tct rfl rfl (cs:=recA {r with trying:=false}) (by go_simp) (by go_simp) (by go_simp)) rfl ⟨by rw[HE.out];rfl,?_⟩;exact x4b3)
  have hE:recStart r=(1-r.active,{r with tries:=r.tries-1},0):=by unfold recStart;rw[if_pos hz,if_pos ht,if_neg h1]
  have h0':(r.tries==0)=false:=by simp[h1]
  have HE:=qH hE;clear hE hrg hz h1;go_wp2_with fail;go_region
  all_goals (
   go_wp2_with fail;refine bodyPost_ret (results_tct rfl rfl (cs:=recA {r with tries:=r.tries-1}) (by go_simp) (by go_simp) (by go_simp)) rfl ⟨by rw[HE.out];rfl,?_⟩;exact x4b3)
 have hz':(recCheck r !=0)=true:=by simp[hz]
 have hE:recStart r=(0,Rec.zero,recCheck r):=by unfold recStart;rw[if_neg hz]
 have HE:=qH hE;clear hE hz;go_wp2_with fail;all_goals (
  go_wp2_with fail;refine bodyPost_ret (results_tct rfl rfl (cs:=recA Rec.zero) (by go_simp) (by go_simp) (by go_simp)) rfl ⟨by rw[HE.out];rfl,?_⟩;exact x4b3)
end Go.Proofs.Ytefkfglkpebbmac
