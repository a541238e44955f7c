/- The walk of the document's Packed. No conditions. -/
import Derived.Test.YtefkfglkpebbmacP1
import Derived.Test.YtefkfglkpebbmacPXRefAlike
set_option linter.unusedVariables false
set_option linter.unusedSimpArgs false
set_option maxRecDepth 100000
set_option maxHeartbeats 40000000
namespace Go.Proofs.Ytefkfglkpebbmac
open Go.RowKit
variable {Y:Prop}
theorem x1jz(h:Y:=by
 have HB1:Hid (Below base w w3):=qH (((hbx.alloc hsx _).trans hbel1).trans hbel);have HLO:Hid (out.length+1+K=(out++[UInt8.ofNat K]++(x::r).take K).length):=qH (by have:=HLN.out;simp at this⊢;omega);have HO1:Hid (Own w3 base 5 1 A' (out++[UInt8.ofNat K]++(x::r).take K).length c' ((out++[UInt8.ofNat K]++(x::r).take K).map bv)):=qH (by rw[<-HLO.out,List.map_append,List.map_append];show Own _ _ _ _ _ _ _ (_++[bv _]++_);rw[HBV.out];exact hown);have HLD:Hid (ln-K=((x::r).drop K).length):=qH (by rw[List.length_drop,HLN.out]);clear hown hgr hbel hor hown1 hgr1 hbel1 hor1 hs1 hle hox hbx hox1 hob1 hob2 hls
 go_roundg (ln-K)
 case measure=>omega
 case rel=>first
  |(have h9:¬c=K:=by assumption
    exact⟨(x::r).drop K,out++[UInt8.ofNat K]++(x::r).take K,some ⟨ab,ao+K,none⟩,A',c-K,c',by rw[HLD.out],by rw[HLO.out],by rw[<-HLD.out];omega,Nat.le_of_eq HLD.out.symm,by rw[<-HLD.out];omega,HE1,qH (mid_at HBt.out K),HO1,HB1⟩)
  |exact⟨(x::r).drop K,out++[UInt8.ofNat K]++(x::r).take K,some ⟨ab,ao,none⟩,A',0,c',by rw[HLD.out],by rw[HLO.out],by rw[<-HLD.out];omega,Nat.le_of_eq HLD.out.symm,by rw[<-HLD.out];omega,HE1,qH (by rw[List.eq_nil_of_length_eq_zero (show ((x::r).drop K).length=0 by rw[<-HLD.out];omega)];exact Bts.nil _ _),HO1,HB1⟩):Y:=h
theorem plainTo_step{l:LU}{k:Nat}(h:k<l.length)(h7:k<127)(h3:alike (l.drop k)<3):plainTo l.length l k=plainTo l.length l (k+1):=by
 obtain⟨f,hf⟩:∃f,l.length=f+1:=⟨l.length-1,by omega⟩;have e:plainTo l.length l k=plainTo f l (k+1):=by
  rw[hf]
  conv=>lhs;unfold plainTo
  rw[if_pos ⟨by omega,h7,h3⟩]
 rw[e];exact plainTo_fuel f l.length l (k+1) (by omega) (by omega)
theorem plainTo_stop{l:LU}{k:Nat}(h:¬(k<l.length∧k<127∧alike (l.drop k)<3)):plainTo l.length l k=k:=by
 cases hl:l.length with
 |zero=>rfl
 |succ f=>unfold plainTo;rw[if_neg h]
theorem packAt_one{x:UInt8}{r:LU}(h3:¬3<=alike (x::r)):packAt (x::r) []=UInt8.ofNat (plainTo (x::r).length (x::r) 1)::((x::r).take (plainTo (x::r).length (x::r) 1)++packAt ((x::r).drop (plainTo (x::r).length (x::r) 1)) []):=by
 rw[packAt_byte h3 (by simp)];have:=packAt_plain (x::r).length (x::r) 1 (by simp) (by omega) (by simp) (by omega);simpa using this
theorem refPacked_calls(Ab:OA)(cb:Nat)(b:LU)(w:World)(hc:b.length<=cb)(hl:b.length<=1048576)(hB:Bts w Ab b):
  Calls Try.prog 111 #[.slice Ab b.length cb] w (BtRet w (packed b)):=by
 have hpl:=packed_len b;have HPL:Hid (∀(out r:LU),out++packAt r []=packed b->out.length<=67108000):=qH (fun out r e=>by have:=congrArg List.length e;simp at this;omega);have HB1:=qH hB;have HBB:Hid (Below w.heap.size w w):=qH (Below.refl _ _);have HO1:Hid (Own w w.heap.size 5 1 none 0 0 (([]:List UInt8).map bv)):=qH (Own.nil_ _ _ _ _);clear hB hpl;go_enter Try.func111,Try.ntmps111;go_wp2_with fail;generalize hbase:w.heap.size=base at *
 have HBE:=qH hbase;clear hbase
 go_loopg [0,3] b.length (fun g y o wr=>∃(l out:LU) (A B:OA) (c d:Nat),y=.slice A l.length c∧o=.slice B out.length d∧l.length<=c∧l.length<=g∧l.length<=1048576∧Hid (out++packAt l []=packed b)∧Hid (Bts w A l)∧Hid (Own wr base 5 1 B out.length d (out.map bv))∧Hid (Below base w wr))
 case atStart=>exact⟨b,[],Ab,none,cb,0,rfl,rfl,hc,nl,hl,qH rfl,HB1,HO1,HBB⟩
 case round=>
  clear HB1 HO1 HBB;rename World=>wo;obtain⟨l,out,A,B,c,d,rfl,rfl,hlc,hlg,hll,HE,HBt,HO,HB⟩:=hrel;rcases l with _|⟨x,r⟩
  ·have hz:out=packed b:=by rw[<-HE.out,packAt_nil];simp[flushed]
   have HZ:=qH hz;simp only[List.length_nil,Int.ofNat_eq_natCast,Int.natCast_zero]at *
   clear hz;go_wp2_with fail;go_ret;exact x433
  obtain⟨ln,hln⟩:=eX ((x::r).length);have hln1:0<ln:=by rw[<-hln];simp
  have HBW:Hid (∀w1,Below base w w1->Bts w1 A (x::r)):=qH (fun w1 h=>HBt.out.stays (HBE.out▸h));have hab:=(HBW.out wo HB.out) 0 (by simp);obtain⟨ab,ao,rfl,hab,hx⟩:=hab;simp only[Nat.add_zero,List.getElem_cons_zero]at hx;have hal:=alike_le (x::r);have hK:1<=plainTo (x::r).length (x::r) 1∧plainTo (x::r).length (x::r) 1<=(x::r).length∧plainTo (x::r).length (x::r) 1<=127:=by
   have h1:=plainTo_ge (x::r).length (x::r) 1;have h2:=plainTo_le (x::r).length (x::r) 1 (by simp) (by omega);exact⟨h1,h2⟩
  have HCA:Hid (∀(w1:World) (A1:OA) (c1:Nat) (l1:LU),0<l1.length->l1.length<=c1->l1.length<=ln->Bts w1 A1 l1->Calls Try.prog 147 #[.slice A1 l1.length c1] w1 (RetN w1 (iv (alike l1:Nat)))):=qH (fun w1 A1 c1 l1 h0 h1 h2 h3=>refAlike_calls A1 c1 l1 w1 h0 h1 (by omega) h3);have hb1:=HBW.out wo HB.out;have hca1:=HCA.out wo _ c (x::r) (by simp) hlc (Nat.le_of_eq hln) hb1;rw[hln]at hlc hlg hll hal hK hca1⊢;clear hb1;have HCA1:=qH hca1;clear hca1;have HLN:=qH hln;clear hln;obtain⟨n,hn⟩:=eX (alike (x::r));obtain⟨K,hKe⟩:=eX (plainTo ln (x::r) 1);rw[hn]at hal HCA1;rw[hKe]at hK;have HNE:=qH hn;have HKE:=qH hKe;clear hn hKe;obtain⟨hal1,hal2⟩:=hal;obtain⟨hK1,hK2,hK3⟩:=hK;have dl:decide ((0:Int)<(ln:Int))=true:=decide_eq_true (by omega);go_wp2_with fail;refine HCA1.out.mono ?_;rintro e w1 ⟨rfl,nd,rfl⟩;have HBd:Hid (Below base w (wo.drewN nd)):=qH (Below.drewN' HB.out nd);have HOd:=qH (HO.out.drewN nd);have hxd:(wo.drewN nd).cell? ⟨ab,ao,none⟩=some (bv x):=hx;have hsd:base<=(wo.drewN nd).heap.size:=Nat.le_trans (Nat.le_of_eq HBE.out.symm) HBd.out.size;have habd:ab<(wo.drewN nd).heap.size:=hab;clear HB HO hx hab HCA1;generalize wo.drewN nd=w1 at *
  by_cases h1:3<=n
  ·have hrun:=packAt_run (x:=x) (r:=r) (plain:=[]) (by rw[HNE.out];exact h1);rw[HNE.out]at hrun;have hE1:(out++[UInt8.ofNat (128+n),x])++packAt ((x::r).drop n) []=packed b:=by
    rw[<-HE.out,hrun];simp[flushed]
   have ho1:out.length<=67108000:=by have:=HPL.out _ _ hE1;simp at this;omega
   have HE1:=qH hE1;clear hE1 hrun HE;have d1:decide ((3:Int)<=(n:Int))=true:=decide_eq_true (by omega);have HBV:Hid (bv (UInt8.ofNat (128+n))=.int .u8 (128+(n:Int))):=qH (by unfold bv;rw[ofNat_toNat _ (by omega)];simp);have hw1:IntKind.i64.wrap (128+(n:Int))=128+(n:Int):=IntWalk.i64_in _ (by omega);have hw2:IntKind.u8.wrap (128+(n:Int))=128+(n:Int):=by unfold IntKind.wrap;simp[IntKind.signed,IntKind.bits];omega
   have j1:(n:Int)<=(ln:Int):=by omega
   have HOA:=qH (HOd.out.alloc (.cells #[bv (UInt8.ofNat (128+n)),bv x] 5));rw[HBV.out]at HOA;have hs1:Src (w1.alloc (.cells #[.int .u8 (128+(n:Int)),bv x] 5)) (some ⟨w1.heap.size,0,none⟩) [.int .u8 (128+(n:Int)),bv x]:=src_blk (blk_top rfl);have hob1:out.length+2<=137438953472:=by omega
   have hle:base<=(w1.alloc (.cells #[.int .u8 (128+(n:Int)),bv x] 5)).heap.size:=by simp;omega
   have hoa:=HOA.out;go_wp2_with (at_builtin;go_must (refine wpList_app (w1.alloc (.cells #[.int .u8 (128+(n:Int)),bv x] 5)) rfl _ _ 22 rfl elBytes base B out.length d (out.map bv) rfl hoa (some ⟨w1.heap.size,0,none⟩) 2 2 [.int .u8 (128+(n:Int)),bv x] rfl hs1 rfl (by simp[Value.oneCell']) hob1 hle ?_;intro A' c' w2 hown hgr hbel hor));all_goals (
    have HB1:Hid (Below base w w2):=qH ((HBd.out.alloc hsd _).trans hbel);have HO1:Hid (Own w2 base 5 1 A' (out++[UInt8.ofNat (128+n),x]).length c' ((out++[UInt8.ofNat (128+n),x]).map bv)):=qH (by rw[List.map_append,List.length_append];show Own _ _ _ _ _ _ _ (_++[bv _,bv x]);rw[HBV.out];exact hown);have HLD:Hid (ln-n=((x::r).drop n).length):=qH (by rw[List.length_drop,HLN.out]);have HLO:Hid (out.length+2=(out++[UInt8.ofNat (128+n),x]).length):=qH (by rw[List.length_append];rfl);clear hown hgr hbel hor hs1 hle hob1 hoa
    go_roundg (ln-n)
    case measure=>omega
    case rel=>first
     |(have h9:¬c=n:=by assumption
       exact⟨(x::r).drop n,out++[UInt8.ofNat (128+n),x],some ⟨ab,ao+n,none⟩,A',c-n,c',by rw[HLD.out],by rw[HLO.out],by rw[<-HLD.out];omega,Nat.le_of_eq HLD.out.symm,by rw[<-HLD.out];omega,HE1,qH (mid_at HBt.out n),HO1,HB1⟩)
     |exact⟨(x::r).drop n,out++[UInt8.ofNat (128+n),x],some ⟨ab,ao,none⟩,A',0,c',by rw[HLD.out],by rw[HLO.out],by rw[<-HLD.out];omega,Nat.le_of_eq HLD.out.symm,by rw[<-HLD.out];omega,HE1,qH (by rw[List.eq_nil_of_length_eq_zero (show ((x::r).drop n).length=0 by rw[<-HLD.out];omega)];exact Bts.nil _ _),HO1,HB1⟩)
  have hone:=packAt_one (x:=x) (r:=r) (by rw[HNE.out];exact h1);rw[HLN.out,HKE.out]at hone;have hE1:(out++[UInt8.ofNat K]++(x::r).take K)++packAt ((x::r).drop K) []=packed b:=by
   rw[<-HE.out,hone];simp
  have ho1:out.length<=67108000:=by have:=HPL.out _ _ hE1;simp at this;omega
  have HE1:=qH hE1;clear hE1 hone HE;have d3:decide ((3:Int)<=(n:Int))=false:=decide_eq_false (by omega);have HBV:Hid (bv (UInt8.ofNat K)=.int .u8 (K:Int)):=qH (by unfold bv;rw[ofNat_toNat _ (by omega)]);have HOX:Hid (∀nd,Own (w1.drewN nd) base 5 1 B out.length d (out.map bv)∧Below base w (w1.drewN nd)):=qH (fun nd=>⟨HOd.out.drewN nd,Below.drewN' HBd.out nd⟩);go_wp2_with fail;go_loopw [5] (fun y wr=>∃(k nd:Nat),y=iv (k:Int)∧1<=k∧k<=K∧Hid (plainTo ln (x::r) k=K)∧w1.drewN nd=wr) (fun y _=>K-(intOf y).toNat)
  case atStart=>exact⟨1,0,rfl,by omega,hK1,HKE,rfl⟩
  case round=>
   obtain⟨k,nd,rfl,hk1,hk2,HPK,rfl⟩:=hrel;by_cases hcond:k<ln∧k<127∧alike ((x::r).drop k)<3
   ·obtain⟨e1,e2,e3⟩:=hcond;have hst:=plainTo_step (l:=x::r) (k:=k) (by rw[HLN.out];exact e1) e2 e3;rw[HLN.out,HPK.out]at hst;have hge:=plainTo_ge ln (x::r) (k+1);rw[<-hst]at hge;have HST:=qH hst;have hcal:=HCA.out (w1.drewN nd) (some ⟨ab,ao+k,none⟩) (c-k) ((x::r).drop k) (by rw[List.length_drop,HLN.out];omega) (by rw[List.length_drop,HLN.out];omega) (by rw[List.length_drop,HLN.out];omega) (mid_at (HBW.out _ (HOX.out nd).2) k);rw[List.length_drop,HLN.out]at hcal;have HCAL:=qH hcal;clear hst hcal HPK;generalize alike ((x::r).drop k)=m at *
    have d1:k<ln:=e1;have d2:decide ((k:Int)<127)=true:=decide_eq_true (by omega);have d4:decide ((m:Int)<3)=true:=decide_eq_true (by omega);have hck:¬c=k:=by omega
    have j1:(k:Int)<=(ln:Int):=by omega
    have hw1:IntKind.i64.wrap ((k:Int)+1)=(k:Int)+1:=IntWalk.i64_in _ (by omega);go_wp2_with fail;refine HCAL.out.mono ?_;rintro e w2 ⟨rfl,n1,rfl⟩;go_wp2_with fail;go_roundw
    case rel=>exact⟨k+1,nd+n1,by go_num,by omega,by omega,qH HST.out.symm,by rw[<-World.drewN_drewN]⟩
    case measure=>simp[intOf];omega
   have hst:=plainTo_stop (l:=x::r) (k:=k) (by rw[HLN.out];exact hcond);rw[HLN.out,HPK.out]at hst;subst hst;have hu1:IntKind.u8.wrap (K:Int)=(K:Int):=by unfold IntKind.wrap;simp[IntKind.signed,IntKind.bits];omega
   have hob1:out.length+1<=137438953472:=by omega
   have hob2:out.length+1+K<=137438953472:=by omega
   have hls:(((x::r).take K).map bv).length=K*1:=by have:=HLN.out;simp at this⊢;omega
   have jK:(K:Int)<=(ln:Int):=by omega
   have jC:(K:Int)<=(c:Int):=by omega
   clear HPK;by_cases e1:K<ln
   ·by_cases e2:K<127
    ·have e3:¬alike ((x::r).drop K)<3:=fun e=>hcond ⟨e1,e2,e⟩;have hcal:=HCA.out (w1.drewN nd) (some ⟨ab,ao+K,none⟩) (c-K) ((x::r).drop K) (by rw[List.length_drop,HLN.out];omega) (by rw[List.length_drop,HLN.out];omega) (by rw[List.length_drop,HLN.out];omega) (mid_at (HBW.out _ (HOX.out nd).2) K);rw[List.length_drop,HLN.out]at hcal;have HCAL:=qH hcal;clear hcal hcond;generalize alike ((x::r).drop K)=m at *
     have d1:decide ((K:Int)<127)=true:=decide_eq_true (by omega);have d2:decide ((m:Int)<3)=false:=decide_eq_false (by omega);have hck:¬c=K:=by omega
     go_wp2_with fail;refine HCAL.out.mono ?_;rintro e w2 ⟨rfl,n1,rfl⟩;simp only[World.drewN_drewN];obtain⟨hox,hbx⟩:=HOX.out (nd+n1);have hsx:base<=(w1.drewN (nd+n1)).heap.size:=Nat.le_trans (Nat.le_of_eq HBE.out.symm) hbx.size;have hox1:=hox.alloc (.cells #[.int .u8 (K:Int)] 5);have hs1:Src ((w1.drewN (nd+n1)).alloc (.cells #[.int .u8 (K:Int)] 5)) (some ⟨(w1.drewN (nd+n1)).heap.size,0,none⟩) [.int .u8 (K:Int)]:=src_blk (blk_top rfl);have hle:base<=((w1.drewN (nd+n1)).alloc (.cells #[.int .u8 (K:Int)] 5)).heap.size:=by simp at hsx⊢;omega
     go_wp2_with (at_builtin;first
      |(refine wpList_app ((w1.drewN (nd+n1)).alloc (.cells #[.int .u8 (K:Int)] 5)) rfl _ _ 22 rfl elBytes base B out.length d (out.map bv) rfl hox1 (some ⟨(w1.drewN (nd+n1)).heap.size,0,none⟩) 1 1 [.int .u8 (K:Int)] rfl hs1 rfl (by simp[Value.oneCell']) hob1 hle ?_;intro A1 c1 w2 hown1 hgr1 hbel1 hor1)
      |go_must (refine wpList_app w2 rfl _ _ 22 rfl elBytes base A1 (out.length+1) c1 (out.map bv++[.int .u8 (K:Int)]) rfl hown1 (some ⟨ab,ao,none⟩) K c (((x::r).take K).map bv) rfl ((mid_take (HBW.out w2 ((hbx.alloc hsx _).trans hbel1)) K).src) hls (bv_one _) hob2 (Nat.le_trans hle hbel1.size) ?_;intro A' c' w3 hown hgr hbel hor))
     all_goals (
      exact x1jz)
    ·have d2:decide ((K:Int)<127)=false:=decide_eq_false (by omega);have hck:¬c=K:=by omega
     clear hcond;obtain⟨hox,hbx⟩:=HOX.out (nd);have hsx:base<=(w1.drewN (nd)).heap.size:=Nat.le_trans (Nat.le_of_eq HBE.out.symm) hbx.size;have hox1:=hox.alloc (.cells #[.int .u8 (K:Int)] 5);have hs1:Src ((w1.drewN (nd)).alloc (.cells #[.int .u8 (K:Int)] 5)) (some ⟨(w1.drewN (nd)).heap.size,0,none⟩) [.int .u8 (K:Int)]:=src_blk (blk_top rfl);have hle:base<=((w1.drewN (nd)).alloc (.cells #[.int .u8 (K:Int)] 5)).heap.size:=by simp at hsx⊢;omega
     go_wp2_with (at_builtin;first
      |(refine wpList_app ((w1.drewN (nd)).alloc (.cells #[.int .u8 (K:Int)] 5)) rfl _ _ 22 rfl elBytes base B out.length d (out.map bv) rfl hox1 (some ⟨(w1.drewN (nd)).heap.size,0,none⟩) 1 1 [.int .u8 (K:Int)] rfl hs1 rfl (by simp[Value.oneCell']) hob1 hle ?_;intro A1 c1 w2 hown1 hgr1 hbel1 hor1)
      |go_must (refine wpList_app w2 rfl _ _ 22 rfl elBytes base A1 (out.length+1) c1 (out.map bv++[.int .u8 (K:Int)]) rfl hown1 (some ⟨ab,ao,none⟩) K c (((x::r).take K).map bv) rfl ((mid_take (HBW.out w2 ((hbx.alloc hsx _).trans hbel1)) K).src) hls (bv_one _) hob2 (Nat.le_trans hle hbel1.size) ?_;intro A' c' w3 hown hgr hbel hor))
     all_goals (
      exact x1jz)
   have d1:¬(K:Int)<(ln:Int):=by omega
   clear hcond;obtain⟨hox,hbx⟩:=HOX.out (nd);have hsx:base<=(w1.drewN (nd)).heap.size:=Nat.le_trans (Nat.le_of_eq HBE.out.symm) hbx.size;have hox1:=hox.alloc (.cells #[.int .u8 (K:Int)] 5);have hs1:Src ((w1.drewN (nd)).alloc (.cells #[.int .u8 (K:Int)] 5)) (some ⟨(w1.drewN (nd)).heap.size,0,none⟩) [.int .u8 (K:Int)]:=src_blk (blk_top rfl);have hle:base<=((w1.drewN (nd)).alloc (.cells #[.int .u8 (K:Int)] 5)).heap.size:=by simp at hsx⊢;omega
   go_wp2_with (at_builtin;first
    |(refine wpList_app ((w1.drewN (nd)).alloc (.cells #[.int .u8 (K:Int)] 5)) rfl _ _ 22 rfl elBytes base B out.length d (out.map bv) rfl hox1 (some ⟨(w1.drewN (nd)).heap.size,0,none⟩) 1 1 [.int .u8 (K:Int)] rfl hs1 rfl (by simp[Value.oneCell']) hob1 hle ?_;intro A1 c1 w2 hown1 hgr1 hbel1 hor1)
    |go_must (refine wpList_app w2 rfl _ _ 22 rfl elBytes base A1 (out.length+1) c1 (out.map bv++[.int .u8 (K:Int)]) rfl hown1 (some ⟨ab,ao,none⟩) K c (((x::r).take K).map bv) rfl ((mid_take (HBW.out w2 ((hbx.alloc hsx _).trans hbel1)) K).src) hls (bv_one _) hob2 (Nat.le_trans hle hbel1.size) ?_;intro A' c' w3 hown hgr hbel hor))
   all_goals (
    exact x1jz)
end Go.Proofs.Ytefkfglkpebbmac
