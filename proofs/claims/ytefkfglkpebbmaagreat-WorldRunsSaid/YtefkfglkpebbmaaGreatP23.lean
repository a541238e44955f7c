/- Walks of functions, and plain words. No conditions. -/
import Derived.Test.YtefkfglkpebbmaaGreatPE4
import Derived.Test.YtefkfglkpebbmaaGreatP22
set_option linter.unusedVariables false
set_option linter.unusedSimpArgs false
set_option maxRecDepth 100000
set_option maxHeartbeats 40000000
namespace Go.Proofs.YtefkfglkpebbmaaGreat
open Go.RowKit
variable {Y:Prop}
theorem x1jz(h:Y:=by
 have HB1:Hid (Below base w w3):=qH (((hbx.alloc hsx _).trans hbel1).trans hbel);have HLO:Hid (out.length+1+K=(out++[UInt8.ofNat K]++(x::r).take K).length):=qH (by have:=HLN.out;simp at this⊢;omega);have HO1:Hid (Own w3 base 5 1 A' (out++[UInt8.ofNat K]++(x::r).take K).length c' ((out++[UInt8.ofNat K]++(x::r).take K).map bv)):=qH (by rw[<-HLO.out,List.map_append,List.map_append];show Own _ _ _ _ _ _ _ (_++[bv _]++_);rw[HBV.out];exact hown);have HLD:Hid (ln-K=((x::r).drop K).length):=qH (by rw[List.length_drop,HLN.out]);clear hown hgr hbel hor hown1 hgr1 hbel1 hor1 hs1 hle hox hbx hox1 hob1 hob2 hls
 go_roundg (ln-K)
 case measure=>omega
 case rel=>first
  |(have h9:¬c=K:=by assumption
    exact⟨(x::r).drop K,out++[UInt8.ofNat K]++(x::r).take K,some ⟨ab,ao+K,none⟩,A',c-K,c',by rw[HLD.out],by rw[HLO.out],by rw[<-HLD.out];omega,Nat.le_of_eq HLD.out.symm,by rw[<-HLD.out];omega,HE1,qH (mid_at HBt.out K),HO1,HB1⟩)
  |exact⟨(x::r).drop K,out++[UInt8.ofNat K]++(x::r).take K,some ⟨ab,ao,none⟩,A',0,c',by rw[HLD.out],by rw[HLO.out],by rw[<-HLD.out];omega,Nat.le_of_eq HLD.out.symm,by rw[<-HLD.out];omega,HE1,qH (by rw[List.eq_nil_of_length_eq_zero (show ((x::r).drop K).length=0 by rw[<-HLD.out];omega)];exact Bts.nil _ _),HO1,HB1⟩):Y:=h
theorem plainTo_step{l:LU}{k:Nat}(h:k<l.length)(h7:k<127)(h3:alike (l.drop k)<3):plainTo l.length l k=plainTo l.length l (k+1):=by
 obtain⟨f,hf⟩:∃f,l.length=f+1:=⟨l.length-1,by omega⟩;have e:plainTo l.length l k=plainTo f l (k+1):=by
  rw[hf]
  conv=>lhs;unfold plainTo
  rw[if_pos ⟨by omega,h7,h3⟩]
 rw[e];exact plainTo_fuel f l.length l (k+1) (by omega) (by omega)
theorem plainTo_stop{l:LU}{k:Nat}(h:¬(k<l.length∧k<127∧alike (l.drop k)<3)):plainTo l.length l k=k:=by
 cases hl:l.length with
 |zero=>rfl
 |succ f=>unfold plainTo;rw[if_neg h]
theorem packAt_one{x:UInt8}{r:LU}(h3:¬3<=alike (x::r)):packAt (x::r) []=UInt8.ofNat (plainTo (x::r).length (x::r) 1)::((x::r).take (plainTo (x::r).length (x::r) 1)++packAt ((x::r).drop (plainTo (x::r).length (x::r) 1)) []):=by
 rw[packAt_byte h3 (by simp)];have:=packAt_plain (x::r).length (x::r) 1 (by simp) (by omega) (by simp) (by omega);simpa using this
theorem refPacked_calls(Ab:OA)(cb:Nat)(b:LU)(w:World)(hc:b.length<=cb)(hl:b.length<=1048576)(hB:Bts w Ab b):
  Calls Tryz.prog 67 #[.slice Ab b.length cb] w (BtRet w (packed b)):=by
 have hpl:=packed_len b;have HPL:Hid (∀(out r:LU),out++packAt r []=packed b->out.length<=67108000):=qH (fun out r e=>by have:=congrArg List.length e;simp at this;omega);have HB1:=qH hB;have HBB:Hid (Below w.heap.size w w):=qH (Below.refl _ _);have HO1:Hid (Own w w.heap.size 5 1 none 0 0 (([]:List UInt8).map bv)):=qH (Own.nil_ _ _ _ _);clear hB hpl;go_enter Tryz.func67,Tryz.ntmps67;go_wp2_with fail;generalize hbase:w.heap.size=base at *
 have HBE:=qH hbase;clear hbase
 go_loopg [0,3] b.length (fun g y o wr=>∃(l out:LU) (A B:OA) (c d:Nat),y=.slice A l.length c∧o=.slice B out.length d∧l.length<=c∧l.length<=g∧l.length<=1048576∧Hid (out++packAt l []=packed b)∧Hid (Bts w A l)∧Hid (Own wr base 5 1 B out.length d (out.map bv))∧Hid (Below base w wr))
 case atStart=>exact⟨b,[],Ab,none,cb,0,rfl,rfl,hc,nl,hl,qH rfl,HB1,HO1,HBB⟩
 case round=>
  clear HB1 HO1 HBB;rename World=>wo;obtain⟨l,out,A,B,c,d,rfl,rfl,hlc,hlg,hll,HE,HBt,HO,HB⟩:=hrel;rcases l with _|⟨x,r⟩
  ·have hz:out=packed b:=by rw[<-HE.out,packAt_nil];simp[flushed]
   have HZ:=qH hz;simp only[List.length_nil,Int.ofNat_eq_natCast,Int.natCast_zero]at *
   clear hz;go_wp2_with fail;go_ret;exact x433
  obtain⟨ln,hln⟩:=eX ((x::r).length);have hln1:0<ln:=by rw[<-hln];simp
  have HBW:Hid (∀w1,Below base w w1->Bts w1 A (x::r)):=qH (fun w1 h=>HBt.out.stays (HBE.out▸h));have hab:=(HBW.out wo HB.out) 0 (by simp);obtain⟨ab,ao,rfl,hab,hx⟩:=hab;simp only[Nat.add_zero,List.getElem_cons_zero]at hx;have hal:=alike_le (x::r);have hK:1<=plainTo (x::r).length (x::r) 1∧plainTo (x::r).length (x::r) 1<=(x::r).length∧plainTo (x::r).length (x::r) 1<=127:=by
   have h1:=plainTo_ge (x::r).length (x::r) 1;have h2:=plainTo_le (x::r).length (x::r) 1 (by simp) (by omega);exact⟨h1,h2⟩
  have HCA:Hid (∀(w1:World) (A1:OA) (c1:Nat) (l1:LU),0<l1.length->l1.length<=c1->l1.length<=ln->Bts w1 A1 l1->Calls Tryz.prog 110 #[.slice A1 l1.length c1] w1 (RetN w1 (iv (alike l1:Nat)))):=qH (fun w1 A1 c1 l1 h0 h1 h2 h3=>refAlike_calls A1 c1 l1 w1 h0 h1 (by omega) h3);have hb1:=HBW.out wo HB.out;have hca1:=HCA.out wo _ c (x::r) (by simp) hlc (Nat.le_of_eq hln) hb1;rw[hln]at hlc hlg hll hal hK hca1⊢;clear hb1;have HCA1:=qH hca1;clear hca1;have HLN:=qH hln;clear hln;obtain⟨n,hn⟩:=eX (alike (x::r));obtain⟨K,hKe⟩:=eX (plainTo ln (x::r) 1);rw[hn]at hal HCA1;rw[hKe]at hK;have HNE:=qH hn;have HKE:=qH hKe;clear hn hKe;obtain⟨hal1,hal2⟩:=hal;obtain⟨hK1,hK2,hK3⟩:=hK;have dl:decide ((0:Int)<(ln:Int))=true:=decide_eq_true (by omega);go_wp2_with fail;refine HCA1.out.mono ?_;rintro e w1 ⟨rfl,nd,rfl⟩;have HBd:Hid (Below base w (wo.drewN nd)):=qH (Below.drewN' HB.out nd);have HOd:=qH (HO.out.drewN nd);have hxd:(wo.drewN nd).cell? ⟨ab,ao,none⟩=some (bv x):=hx;have hsd:base<=(wo.drewN nd).heap.size:=Nat.le_trans (Nat.le_of_eq HBE.out.symm) HBd.out.size;have habd:ab<(wo.drewN nd).heap.size:=hab;clear HB HO hx hab HCA1;generalize wo.drewN nd=w1 at *
  by_cases h1:3<=n
  ·have hrun:=packAt_run (x:=x) (r:=r) (plain:=[]) (by rw[HNE.out];exact h1);rw[HNE.out]at hrun;have hE1:(out++[UInt8.ofNat (128+n),x])++packAt ((x::r).drop n) []=packed b:=by
    rw[<-HE.out,hrun];simp[flushed]
   have ho1:out.length<=67108000:=by have:=HPL.out _ _ hE1;simp at this;omega
   have HE1:=qH hE1;clear hE1 hrun HE;have d1:decide ((3:Int)<=(n:Int))=true:=decide_eq_true (by omega);have HBV:Hid (bv (UInt8.ofNat (128+n))=.int .u8 (128+(n:Int))):=qH (by unfold bv;rw[ofNat_toNat _ (by omega)];simp);have hw1:IntKind.i64.wrap (128+(n:Int))=128+(n:Int):=IntWalk.i64_in _ (by omega);have hw2:IntKind.u8.wrap (128+(n:Int))=128+(n:Int):=by unfold IntKind.wrap;simp[IntKind.signed,IntKind.bits];omega
   have j1:(n:Int)<=(ln:Int):=by omega
   have HOA:=qH (HOd.out.alloc (.cells #[bv (UInt8.ofNat (128+n)),bv x] 5));rw[HBV.out]at HOA;have hs1:Src (w1.alloc (.cells #[.int .u8 (128+(n:Int)),bv x] 5)) (some ⟨w1.heap.size,0,none⟩) [.int .u8 (128+(n:Int)),bv x]:=src_blk (blk_top rfl);have hob1:out.length+2<=137438953472:=by omega
   have hle:base<=(w1.alloc (.cells #[.int .u8 (128+(n:Int)),bv x] 5)).heap.size:=by simp;omega
   have hoa:=HOA.out;go_wp2_with (at_builtin;go_must (refine wpList_app (w1.alloc (.cells #[.int .u8 (128+(n:Int)),bv x] 5)) rfl _ _ 23 rfl elBytes base B out.length d (out.map bv) rfl hoa (some ⟨w1.heap.size,0,none⟩) 2 2 [.int .u8 (128+(n:Int)),bv x] rfl hs1 rfl (by simp[Value.oneCell']) hob1 hle ?_;intro A' c' w2 hown hgr hbel hor));all_goals (
    have HB1:Hid (Below base w w2):=qH ((HBd.out.alloc hsd _).trans hbel);have HO1:Hid (Own w2 base 5 1 A' (out++[UInt8.ofNat (128+n),x]).length c' ((out++[UInt8.ofNat (128+n),x]).map bv)):=qH (by rw[List.map_append,List.length_append];show Own _ _ _ _ _ _ _ (_++[bv _,bv x]);rw[HBV.out];exact hown);have HLD:Hid (ln-n=((x::r).drop n).length):=qH (by rw[List.length_drop,HLN.out]);have HLO:Hid (out.length+2=(out++[UInt8.ofNat (128+n),x]).length):=qH (by rw[List.length_append];rfl);clear hown hgr hbel hor hs1 hle hob1 hoa
    go_roundg (ln-n)
    case measure=>omega
    case rel=>first
     |(have h9:¬c=n:=by assumption
       exact⟨(x::r).drop n,out++[UInt8.ofNat (128+n),x],some ⟨ab,ao+n,none⟩,A',c-n,c',by rw[HLD.out],by rw[HLO.out],by rw[<-HLD.out];omega,Nat.le_of_eq HLD.out.symm,by rw[<-HLD.out];omega,HE1,qH (mid_at HBt.out n),HO1,HB1⟩)
     |exact⟨(x::r).drop n,out++[UInt8.ofNat (128+n),x],some ⟨ab,ao,none⟩,A',0,c',by rw[HLD.out],by rw[HLO.out],by rw[<-HLD.out];omega,Nat.le_of_eq HLD.out.symm,by rw[<-HLD.out];omega,HE1,qH (by rw[List.eq_nil_of_length_eq_zero (show ((x::r).drop n).length=0 by rw[<-HLD.out];omega)];exact Bts.nil _ _),HO1,HB1⟩)
  have hone:=packAt_one (x:=x) (r:=r) (by rw[HNE.out];exact h1);rw[HLN.out,HKE.out]at hone;have hE1:(out++[UInt8.ofNat K]++(x::r).take K)++packAt ((x::r).drop K) []=packed b:=by
   rw[<-HE.out,hone];simp
  have ho1:out.length<=67108000:=by have:=HPL.out _ _ hE1;simp at this;omega
  have HE1:=qH hE1;clear hE1 hone HE;have d3:decide ((3:Int)<=(n:Int))=false:=decide_eq_false (by omega);have HBV:Hid (bv (UInt8.ofNat K)=.int .u8 (K:Int)):=qH (by unfold bv;rw[ofNat_toNat _ (by omega)]);have HOX:Hid (∀nd,Own (w1.drewN nd) base 5 1 B out.length d (out.map bv)∧Below base w (w1.drewN nd)):=qH (fun nd=>⟨HOd.out.drewN nd,Below.drewN' HBd.out nd⟩);go_wp2_with fail;go_loopw [5] (fun y wr=>∃(k nd:Nat),y=iv (k:Int)∧1<=k∧k<=K∧Hid (plainTo ln (x::r) k=K)∧w1.drewN nd=wr) (fun y _=>K-(intOf y).toNat)
  case atStart=>exact⟨1,0,rfl,by omega,hK1,HKE,rfl⟩
  case round=>
   obtain⟨k,nd,rfl,hk1,hk2,HPK,rfl⟩:=hrel;by_cases hcond:k<ln∧k<127∧alike ((x::r).drop k)<3
   ·obtain⟨e1,e2,e3⟩:=hcond;have hst:=plainTo_step (l:=x::r) (k:=k) (by rw[HLN.out];exact e1) e2 e3;rw[HLN.out,HPK.out]at hst;have hge:=plainTo_ge ln (x::r) (k+1);rw[<-hst]at hge;have HST:=qH hst;have hcal:=HCA.out (w1.drewN nd) (some ⟨ab,ao+k,none⟩) (c-k) ((x::r).drop k) (by rw[List.length_drop,HLN.out];omega) (by rw[List.length_drop,HLN.out];omega) (by rw[List.length_drop,HLN.out];omega) (mid_at (HBW.out _ (HOX.out nd).2) k);rw[List.length_drop,HLN.out]at hcal;have HCAL:=qH hcal;clear hst hcal HPK;generalize alike ((x::r).drop k)=m at *
    have d1:k<ln:=e1;have d2:decide ((k:Int)<127)=true:=decide_eq_true (by omega);have d4:decide ((m:Int)<3)=true:=decide_eq_true (by omega);have hck:¬c=k:=by omega
    have j1:(k:Int)<=(ln:Int):=by omega
    have hw1:IntKind.i64.wrap ((k:Int)+1)=(k:Int)+1:=IntWalk.i64_in _ (by omega);go_wp2_with fail;refine HCAL.out.mono ?_;rintro e w2 ⟨rfl,n1,rfl⟩;go_wp2_with fail;go_roundw
    case rel=>exact⟨k+1,nd+n1,by go_num,by omega,by omega,qH HST.out.symm,by rw[<-World.drewN_drewN]⟩
    case measure=>simp[intOf];omega
   have hst:=plainTo_stop (l:=x::r) (k:=k) (by rw[HLN.out];exact hcond);rw[HLN.out,HPK.out]at hst;subst hst;have hu1:IntKind.u8.wrap (K:Int)=(K:Int):=by unfold IntKind.wrap;simp[IntKind.signed,IntKind.bits];omega
   have hob1:out.length+1<=137438953472:=by omega
   have hob2:out.length+1+K<=137438953472:=by omega
   have hls:(((x::r).take K).map bv).length=K*1:=by have:=HLN.out;simp at this⊢;omega
   have jK:(K:Int)<=(ln:Int):=by omega
   have jC:(K:Int)<=(c:Int):=by omega
   clear HPK;by_cases e1:K<ln
   ·by_cases e2:K<127
    ·have e3:¬alike ((x::r).drop K)<3:=fun e=>hcond ⟨e1,e2,e⟩;have hcal:=HCA.out (w1.drewN nd) (some ⟨ab,ao+K,none⟩) (c-K) ((x::r).drop K) (by rw[List.length_drop,HLN.out];omega) (by rw[List.length_drop,HLN.out];omega) (by rw[List.length_drop,HLN.out];omega) (mid_at (HBW.out _ (HOX.out nd).2) K);rw[List.length_drop,HLN.out]at hcal;have HCAL:=qH hcal;clear hcal hcond;generalize alike ((x::r).drop K)=m at *
     have d1:decide ((K:Int)<127)=true:=decide_eq_true (by omega);have d2:decide ((m:Int)<3)=false:=decide_eq_false (by omega);have hck:¬c=K:=by omega
     go_wp2_with fail;refine HCAL.out.mono ?_;rintro e w2 ⟨rfl,n1,rfl⟩;simp only[World.drewN_drewN];obtain⟨hox,hbx⟩:=HOX.out (nd+n1);have hsx:base<=(w1.drewN (nd+n1)).heap.size:=Nat.le_trans (Nat.le_of_eq HBE.out.symm) hbx.size;have hox1:=hox.alloc (.cells #[.int .u8 (K:Int)] 5);have hs1:Src ((w1.drewN (nd+n1)).alloc (.cells #[.int .u8 (K:Int)] 5)) (some ⟨(w1.drewN (nd+n1)).heap.size,0,none⟩) [.int .u8 (K:Int)]:=src_blk (blk_top rfl);have hle:base<=((w1.drewN (nd+n1)).alloc (.cells #[.int .u8 (K:Int)] 5)).heap.size:=by simp at hsx⊢;omega
     go_wp2_with (at_builtin;first
      |(refine wpList_app ((w1.drewN (nd+n1)).alloc (.cells #[.int .u8 (K:Int)] 5)) rfl _ _ 23 rfl elBytes base B out.length d (out.map bv) rfl hox1 (some ⟨(w1.drewN (nd+n1)).heap.size,0,none⟩) 1 1 [.int .u8 (K:Int)] rfl hs1 rfl (by simp[Value.oneCell']) hob1 hle ?_;intro A1 c1 w2 hown1 hgr1 hbel1 hor1)
      |go_must (refine wpList_app w2 rfl _ _ 23 rfl elBytes base A1 (out.length+1) c1 (out.map bv++[.int .u8 (K:Int)]) rfl hown1 (some ⟨ab,ao,none⟩) K c (((x::r).take K).map bv) rfl ((mid_take (HBW.out w2 ((hbx.alloc hsx _).trans hbel1)) K).src) hls (bv_one _) hob2 (Nat.le_trans hle hbel1.size) ?_;intro A' c' w3 hown hgr hbel hor))
     all_goals (
      exact x1jz)
    ·have d2:decide ((K:Int)<127)=false:=decide_eq_false (by omega);have hck:¬c=K:=by omega
     clear hcond;obtain⟨hox,hbx⟩:=HOX.out (nd);have hsx:base<=(w1.drewN (nd)).heap.size:=Nat.le_trans (Nat.le_of_eq HBE.out.symm) hbx.size;have hox1:=hox.alloc (.cells #[.int .u8 (K:Int)] 5);have hs1:Src ((w1.drewN (nd)).alloc (.cells #[.int .u8 (K:Int)] 5)) (some ⟨(w1.drewN (nd)).heap.size,0,none⟩) [.int .u8 (K:Int)]:=src_blk (blk_top rfl);have hle:base<=((w1.drewN (nd)).alloc (.cells #[.int .u8 (K:Int)] 5)).heap.size:=by simp at hsx⊢;omega
     go_wp2_with (at_builtin;first
      |(refine wpList_app ((w1.drewN (nd)).alloc (.cells #[.int .u8 (K:Int)] 5)) rfl _ _ 23 rfl elBytes base B out.length d (out.map bv) rfl hox1 (some ⟨(w1.drewN (nd)).heap.size,0,none⟩) 1 1 [.int .u8 (K:Int)] rfl hs1 rfl (by simp[Value.oneCell']) hob1 hle ?_;intro A1 c1 w2 hown1 hgr1 hbel1 hor1)
      |go_must (refine wpList_app w2 rfl _ _ 23 rfl elBytes base A1 (out.length+1) c1 (out.map bv++[.int .u8 (K:Int)]) rfl hown1 (some ⟨ab,ao,none⟩) K c (((x::r).take K).map bv) rfl ((mid_take (HBW.out w2 ((hbx.alloc hsx _).trans hbel1)) K).src) hls (bv_one _) hob2 (Nat.le_trans hle hbel1.size) ?_;intro A' c' w3 hown hgr hbel hor))
     all_goals (
      exact x1jz)
   have d1:¬(K:Int)<(ln:Int):=by omega
   clear hcond;obtain⟨hox,hbx⟩:=HOX.out (nd);have hsx:base<=(w1.drewN (nd)).heap.size:=Nat.le_trans (Nat.le_of_eq HBE.out.symm) hbx.size;have hox1:=hox.alloc (.cells #[.int .u8 (K:Int)] 5);have hs1:Src ((w1.drewN (nd)).alloc (.cells #[.int .u8 (K:Int)] 5)) (some ⟨(w1.drewN (nd)).heap.size,0,none⟩) [.int .u8 (K:Int)]:=src_blk (blk_top rfl);have hle:base<=((w1.drewN (nd)).alloc (.cells #[.int .u8 (K:Int)] 5)).heap.size:=by simp at hsx⊢;omega
   go_wp2_with (at_builtin;first
    |(refine wpList_app ((w1.drewN (nd)).alloc (.cells #[.int .u8 (K:Int)] 5)) rfl _ _ 23 rfl elBytes base B out.length d (out.map bv) rfl hox1 (some ⟨(w1.drewN (nd)).heap.size,0,none⟩) 1 1 [.int .u8 (K:Int)] rfl hs1 rfl (by simp[Value.oneCell']) hob1 hle ?_;intro A1 c1 w2 hown1 hgr1 hbel1 hor1)
    |go_must (refine wpList_app w2 rfl _ _ 23 rfl elBytes base A1 (out.length+1) c1 (out.map bv++[.int .u8 (K:Int)]) rfl hown1 (some ⟨ab,ao,none⟩) K c (((x::r).take K).map bv) rfl ((mid_take (HBW.out w2 ((hbx.alloc hsx _).trans hbel1)) K).src) hls (bv_one _) hob2 (Nat.le_trans hle hbel1.size) ?_;intro A' c' w3 hown hgr hbel hor))
   all_goals (
    exact x1jz)
theorem refChunks_bad(B:OA)(d:Nat)(p:Pat)(w:World)(hp:PatIn w p B d)(h:patCheck p≠0):
  Calls Tryz.prog 31 #[.agg (patA p.from_ p.to_ p.old p.new_ p.size B p.ops.length d)] w (ChkRet2 w [] (patCheck p)):=by
 have K1:=qH (fun w hp=>refPatPut_bad B d p w hp h);have HP:=qH hp;obtain⟨ck,hck⟩:=eX (patCheck p);rw[hck]at h K1;rw[hck];have q:(ck !=0)=true:=by simp[h]
 clear hp h hck;go_enter Tryz.func31,Tryz.ntmps31;exact x531
theorem part_bts{w:World}{ab ao:Nat}{b:LU}(h:Bts w (some ⟨ab,ao,none⟩) b)(k:Nat):Bts w (some ⟨ab,ao+16*k,none⟩) ((b.drop (k*16)).take 16):=by
 intro i hi;have hi1:k*16+i<b.length:=by simp at hi;omega
 obtain⟨b',o',e,hl,hc⟩:=h (k*16+i) hi1
 cases e;refine⟨_,_,rfl,hl,?_⟩;rw[show ao+16*k+i=ao+(k*16+i) by omega,hc];simp
theorem refChunks_fine(B:OA)(d:Nat)(p:Pat)(w:World)(hp:PatIn w p B d)(h:patCheck p=0):
  Calls Tryz.prog 31 #[.agg (patA p.from_ p.to_ p.old p.new_ p.size B p.ops.length d)] w (ChkRet2 w (chunksOf p (packed (patBytes p))) 0):=by
 have K1:=qH (fun w hp=>refPatPut_ok B d p w hp h);have HP:=qH hp;have hl1:=patBytes_len h;obtain⟨hl2,hl3⟩:=packed_patch_len h;obtain⟨pb,hpb⟩:=eX (patBytes p);rw[hpb]at K1 hl1 hl2 hl3⊢;have K2:=qH (fun A c w hc hb=>refPacked_calls A c pb w hc (by omega) hb);obtain⟨b,hb⟩:=eX (packed pb);rw[hb]at K2 hl2 hl3⊢;obtain⟨m,hm⟩:=eX ((b.length+15) / 16);have HCO:Hid (∀k,k<m->(chunksOf p b)[k]?=some (chunkAt p b m k)):=qH (fun k hk=>by unfold chunksOf;rw[hm];simp[hk]);have HCL1:Hid ((chunksOf p b).length=m):=qH (by unfold chunksOf;rw[hm];simp);have hm1:m<=10:=by omega
 have hm2:0<m:=by omega
 have HM:=qH hm;clear hp h hpb hb hm;generalize chunksOf p b=cs at *
 have HCA:Hid (∀k,chunkAt p b m k=⟨p.from_,p.to_,k,m,(b.drop (k*16)).take 16⟩):=qH (fun k=>rfl);generalize chunkAt p b m=ca at *
 obtain⟨f,t,o,n,sz,l⟩:=p;dsimp only at *
 have j1:decide ((52:Int)<(m:Int))=false:=decide_eq_false (by omega);have j2:¬52<m:=by omega
 have hba:=(bW w).alloc nl (.cells (patA f t o n sz B l.length d) 36);go_enter Tryz.func31,Tryz.ntmps31;go_wp2_with fail;refine(K1.out _ (HP.out.stays hba)).mono ?_;rintro e w1 ⟨A1,c1,rfl,ho1,hb1⟩;have hb1':=hba.trans (hb1.mono (by simp));have a1:=kp (w.heap.size) (patA f t o n sz B l.length d) hb1;have HBT:=qH ho1.src.bts;have hc1:=ho1.le;dsimp only at hc1;have HB1:=qH hb1';clear ho1 hb1 hb1' hba;go_wp2_with fail;refine(K2.out _ _ _ hc1 HBT.out).mono ?_;rintro e w2 ⟨A2,c2,rfl,ho1,hb1⟩;have a1:=kr a1 hb1;have HBB1:=qH ho1.src.bts;have HO1:=qH ho1;have hc2:=ho1.le;have HB2:=bT HB1 hb1;have hlb:0<b.length:=by omega
 obtain⟨ab,ao,rfl,hab,_⟩:=HBB1.out 0 hlb;have hab1:w1.heap.size<=ab:=(ho1.block ab rfl).1;clear ho1 hb1 HP K1 K2;go_wp2_with fail;refine(chunk_calls _ _ _ _).mono ?_;rintro e w3 ⟨rfl,hw1⟩;have hs1:w3.heap.size=w2.heap.size+2:=by rw[hw1];simp
 have hb1:Below w2.heap.size w2 w3:=by rw[hw1];exact(bL _).alloc (by simp) _
 have k1:w3.cell? ⟨w2.heap.size,0,none⟩=some (.slice (some ⟨ab,ao,none⟩) b.length c2):=by
  rw[hw1];exact((Box.new w2 23 (.slice (some ⟨ab,ao,none⟩) b.length c2)).alloc _).cell
 have k2:w3.cell? ⟨w2.heap.size+1,0,none⟩=some (iv 16):=by
  rw[hw1];have:=(Box.new (w2.alloc (.cells #[.slice (some ⟨ab,ao,none⟩) b.length c2] 23)) 3 (iv 16)).cell;simp
 have K1:=qH (collectChunk_calls w2.heap.size (w2.heap.size+1) ab ao b.length c2 hc2 (by omega) w3 (by omega) (by omega) k1 k2);have a1:=kr a1 hb1;have HB3:=bT HB2 hb1;have HB5:=qH hb1;clear hw1 hb1 k1 k2;go_wp2_with fail;refine K1.out.mono ?_;rintro e w4 ⟨v,rfl,hrow,hb1⟩;rw[HM.out]at hrow;obtain⟨A3,c4,rfl⟩:∃A4 c4,v=.slice A4 m c4:=by
  rcases hrow.2 with ⟨rfl,h0⟩|⟨g,cap,_,rfl,_⟩
  ·omega
  exact⟨_,_,rfl⟩
 have ho1:Own w4 w3.heap.size 23 1 A3 m c4 ((List.range m).map (partV ab ao b.length)):=hrow;have hsr:=ho1.src;obtain⟨gl,ol,rfl,hgl,_⟩:=hsr 0 (by simpa using hm2);have HLC:Hid (∀k,k<m->w4.cell? ⟨gl,ol+k,none⟩=some (partV ab ao b.length k)):=qH (fun k hk=>by
  obtain⟨b',o',e,_,hc⟩:=hsr k (by simpa using hk)
  cases e;simpa using hc)
 have hmc:m<=c4:=ho1.le;have a1:=kr a1 hb1;have HB4:=bT HB3 hb1;have HBB2:Hid (Bts w4 (some ⟨ab,ao,none⟩) b):=qH ((HBB1.out.stays HB5.out).stays hb1);have HR1:Hid (rowOf w4 w.heap.size=patA f t o n sz B l.length d∧frOf w4 w.heap.size=(0,0)):=qH ⟨a1.1,a1.2.1⟩;have hab2:ab<w4.heap.size:=Nat.lt_of_lt_of_le hab (by have h1:=HB5.out.size;have h2:=hb1.size;omega);have hab3:w.heap.size<=ab:=Nat.le_trans HB1.out.size hab1;have hg1:=a1.2.2.2.2.2;clear hrow ho1 hsr hb1 K1 HBT HB1 HB2 HO1 HBB1 HB5 HB3 hab hab1 a1 hs1;go_wp2_with fail;generalize hg0:w.heap.size=g0 at *
 have HGE:=qH hg0;generalize hbase:w4.heap.size=base at *
 have HBE:=qH hbase;clear hg0 hbase;go_loopw [7,27] (fun v i wr=>∃(k:Nat) (acc:List Chk) (ds:List (Option Addr×Nat)) (C:OA) (cc:Nat),k<=m∧i=iv k∧v=.slice C acc.length cc∧acc.length=k∧Hid (acc=cs.take k)∧Hid (GRow kChk wr base acc ds C cc)∧Hid (Each kChk acc ds (fun q=>q=ab))∧Hid (Below base w4 wr)) (fun _ i _=>m-(intOf i).toNat)
 case atStart=>exact⟨0,[],[],none,0,Nat.zero_le _,rfl,rfl,rfl,qH (by simp),qH (GRow.nil _ _),qH Each.nil,qH (Below.refl _ _)⟩
 case round=>
  rename World=>wo;obtain⟨k,acc,ds,C,cc,hk,rfl,rfl,hal,HAC,HR,HE,HB⟩:=hrel;have hbo:base<=wo.heap.size:=Nat.le_trans (Nat.le_of_eq HBE.out.symm) HB.out.size;have hbw:Below w4.heap.size w4 wo:=HBE.out▸HB.out;have a1:=keep1 (g:=g0) (cs:=patA f t o n sz B l.length d) hbw HR1.out.1 (by go_simp) HR1.out.2;by_cases hlt:k<m
  ·have dl:decide ((k:Int)<(m:Int))=true:=decide_eq_true (by omega);have hwk:IntKind.i64.wrap ((k:Int)+1)=(k:Int)+1:=IntWalk.i64_in _ (by omega);obtain⟨x,hx⟩:=eX (ca k);have hxe:=HCA.out k;rw[hx]at hxe;obtain⟨y,hy⟩:=eX (min 16 (b.length-16*k));have hxd:x.data=(b.drop (k*16)).take 16:=by rw[hxe]
   have hxl:x.data.length=y:=by rw[hxd,<-hy];simp;omega
   have hB1:=part_bts (HBB2.out.stays hbw) k;rw[<-hxd]at hB1;have p1:wo.cell? ⟨gl,ol+k,none⟩=some (.slice (some ⟨ab,ao+16*k,none⟩) y y):=by
    have h1:=(World.cell?_of_block (HB.out.block gl hgl)).trans (HLC.out k hlt);rw[h1,<-hy];rfl
   have HNXT:Hid (acc++[x]=cs.take (k+1)):=qH (by
    have h1:=HCO.out k hlt;rw[hx]at h1;obtain⟨h2,h3⟩:=List.getElem?_eq_some_iff.1 h1;rw[List.take_succ_eq_append_getElem h2,h3,HAC.out])
   have HXE:Hid (kChk.cell x (some ⟨ab,ao+16*k,none⟩,y)=[iv f,iv t,iv k,iv m,.slice (some ⟨ab,ao+16*k,none⟩) y y]):=qH (by rw[show kChk.cell x (some ⟨ab,ao+16*k,none⟩,y)=chkC x (some ⟨ab,ao+16*k,none⟩) y from rfl];unfold chkC;rw[hxl,hxe]);have HBX:=qH hB1;have HXL:=qH hxl;have HAL:=qH hal;have hk1:k<=10:=by omega
   have hacl:acc.length<=10:=by omega
   have hrow:=HR.out.row;have hbelA:Below wo.heap.size wo (wo.alloc (.cells #[iv f,iv t,iv k,iv m,.slice (some ⟨ab,ao+16*k,none⟩) y y] 61)):=bL _;have hoa:=hrow.below hbelA;have hsd:Src (wo.alloc (.cells #[iv f,iv t,iv k,iv m,.slice (some ⟨ab,ao+16*k,none⟩) y y] 61)) (some ⟨wo.heap.size,0,none⟩) [iv f,iv t,iv k,iv m,.slice (some ⟨ab,ao+16*k,none⟩) y y]:=src_blk (blk_top rfl);have hone:∀u∈[iv f,iv t,iv k,iv m,Value.slice (some ⟨ab,ao+16*k,none⟩) y y],u.oneCell'=true:=by simp[Value.oneCell']
   have hle:base<=(wo.alloc (.cells #[iv f,iv t,iv k,iv m,.slice (some ⟨ab,ao+16*k,none⟩) y y] 61)).heap.size:=by simp;omega
   clear hx hxe hy hxd hxl hB1 hal hrow;go_wp2_with (at_builtin;go_must (refine wpList_app (wo.alloc (.cells #[iv f,iv t,iv k,iv m,.slice (some ⟨ab,ao+16*k,none⟩) y y] 61)) rfl _ _ 33 rfl elChunks base C acc.length cc (kChk.cells acc ds) rfl hoa (some ⟨wo.heap.size,0,none⟩) 1 1 [iv f,iv t,iv k,iv m,.slice (some ⟨ab,ao+16*k,none⟩) y y] rfl hsd rfl hone (by omega) hle ?_;intro C1 cc1 w5 hown hgr hbel hor));have HOWN:=qH hown;have HGR:=qH hgr;have HBEL:=qH hbel;have HOR:=qH hor;clear hown hgr hbel hor hoa hsd hone hle;go_roundw
   case rel=>
    have hbA:Below wo.heap.size wo (wo.alloc (.cells #[iv f,iv t,iv k,iv m,.slice (some ⟨ab,ao+16*k,none⟩) y y] 61)):=bL _;refine⟨k+1,acc++[x],ds++[(some ⟨ab,ao+16*k,none⟩,y)],C1,cc1,by omega,by go_num,by simp,by rw[List.length_append,HAL.out];rfl,HNXT,qH ?_,qH ?_,qH ?_⟩
    ·refine(HR.out.below hbA).push (o:=x) (d:=(some ⟨ab,ao+16*k,none⟩,y)) (by rw[HXE.out];exact HOWN.out) HBEL.out (fun q hq hn=>HGR.out.block q hq (fun e=>hn e.symm)) ?_ (HBX.out.stays hbA) (Nat.le_of_eq HXL.out) (fun _ q e e2=>?_)
     ·rcases HOR.out with h|h
      ·exact .inl h
      ·exact .inr (fun q hq=>by rw[h]at hq;injection hq with hq;omega)
     ·have h1:=(HR.out.row.block q e2).1;have h2:ab=q:=by simpa using e
      omega
    ·exact HE.out.push HR.out.len (fun _ q e=>by simpa using e.symm)
    exact(HB.out.alloc hbo _).trans HBEL.out
   case measure=>simp[intOf];omega
  obtain rfl:k=m:=by omega
  have dl:decide ((k:Int)<(k:Int))=false:=by simp
  have hz:acc=cs:=by rw[HAC.out,List.take_of_length_le (by rw[HCL1.out];exact nl)]
  have HZ:=qH hz;clear hz hal;go_wp2_with fail;go_ret2;rw[<-HZ.out];exact⟨C,cc,ds,rfl,HR.out.mono (by rw[HGE.out];omega),HE.out.imp (fun q hq=>by rw[HGE.out,hq];omega),by rw[HGE.out];exact HB4.out.trans (HB.out.mono (by omega))⟩
theorem refChunks_calls(B:OA)(d:Nat)(p:Pat)(w:World)(hp:PatIn w p B d):
  Calls Tryz.prog 31 #[.agg (patA p.from_ p.to_ p.old p.new_ p.size B p.ops.length d)] w (ChkRet2 w (chkCut p).1 (chkCut p).2):=by
 unfold chkCut;by_cases h:patCheck p=0
 ·obtain⟨h1,h2⟩:=packed_patch_len h;rw[if_neg (by simpa using h),if_neg (by omega)];exact refChunks_fine B d p w hp h
 rw[if_pos h];exact refChunks_bad B d p w hp h
theorem cut_bound{p:Pat}{y:Chk}(hy:y∈(chkCut p).1):ChkB y:=by
 by_cases h:(chkCut p).2=0
 ·have hc:=(chkCheck_ok.1 (cut_chunks h y hy));obtain⟨h1,h2⟩:=hc;unfold Chk.range at h1;unfold Chk.full at h2;refine⟨by omega,⟨by omega,by omega⟩,⟨by omega,by omega⟩,⟨by omega,by omega⟩,⟨by omega,by omega⟩⟩
 exfalso;unfold chkCut at hy h;by_cases h1:patCheck p≠0
 ·rw[if_pos h1]at hy;simp at hy
 rw[if_neg h1]at hy h;split at hy
 ·simp at hy
 rename_i h2;rw[if_neg h2]at h;exact h rfl
end Go.Proofs.YtefkfglkpebbmaaGreat
