/- Walks of functions, and plain words. No conditions. -/
import Derived.Test.YtefkfglkpebbmacGreatP8
set_option linter.unusedVariables false
set_option linter.unusedSimpArgs false
set_option maxRecDepth 100000
set_option maxHeartbeats 40000000
namespace Go.Proofs.YtefkfglkpebbmacGreat
open Go.RowKit
variable {Y:Prop}
variable {w:World} {d:Dev} {L:DLoc} {l:List Chk} {A:OA} {c g j:Nat} {a:Act} {K:Act->World->Prop} {Q:Exit->Act->World->Prop} {t:TypeId} {p:String} {af:Array Edge} {gd:Option (Nat×Bool)} {x:Tmp} {cs:Array Value}
theorem x0ej(h:Y:=by
 clear hO1 hv1 hvg1;go_wp2_with fail;refine HIN.out.mono ?_;rintro e w7 ⟨A',c',rfl,hown,hb1,hk1,hor1⟩;have hba1:=(bW wy).alloc nl (.cells (chkA x.from_ x.to_ x.n x.of_ B1 x.data.length d5) 39);have hG1:=(HG2.out.below hba1).ins (x:=x) (e:=(B1,d5)) (k:=l.length) (by omega) hown hb1 hk1 hor1 (HD3.out.stays hba1) hd1 (fun _ q e e2=>by have h5:=HBB.out q e;have h6:=HA1.out q e2;omega);have HG4:=qH hG1;have HB7:Hid (Below g0 w w7):=qH ((HB6.out.alloc (by omega) _).trans (hb1.mono (by omega)));clear hown hb1 hk1 hor1 hba1 hG1 HIN;go_wp2_with fail;go_ret2;rw[HZ.out];have hlen:(l.take l.length++x::l.drop l.length).length=l.length+1:=by rw[List.length_append,List.length_take,List.length_cons,List.length_drop];omega
 refine⟨A',c',_,by rw[hlen];rfl,HG4.out.mono (by rw[HGE.out];omega),(HN2.out.imp fun q hq=>by rw[HGE.out];omega).ins HG2.out.len (by omega) (fun q e=>by have:=HBB.out q e;rw[HGE.out];omega),HGE.out.symm▸HB7.out⟩):Y:=h
theorem x1vw(h:Y:=by
 refine⟨.inl ⟨rfl,?_⟩,.inl ⟨rfl,?_⟩,.inl ⟨rfl,?_⟩,.inl ⟨rfl,?_⟩,.inl ⟨rfl,?_⟩,.inl ⟨rfl,?_⟩,.inl ⟨rfl,?_⟩,.inl ⟨rfl,?_⟩,.inl ⟨rfl,?_⟩,.inl ⟨rfl,?_⟩,.inl ⟨rfl,?_⟩,trivial⟩;all_goals intro done a wq hw h
 ·have e1:=cO 0 (.slice (some ⟨g,0,none⟩) l.length c1) h;exact ch_move (ch_ev e1)
 ·have e2:=cN 0 25 h hw;refine ch_pure ?_;go_simp
 ·have e1:=cN 1 26 h hw;have h1:=HL1.out;have h2:=HLN.out;refine ch_pure ?_;go_simp
 ·have e2:=cN 2 27 h hw;exact ch_move (ch_ev e2)
 ·have e1:=cO 0 (.slice (some ⟨g,0,none⟩) l.length c1) h;exact ch_move (ch_ev e1)
 ·have e2:=cN 4 29 h hw;have h1:=HL1.out;have h2:=HLN.out;refine ch_pure ?_;go_simp
 ·have e1:=cN 5 30 h hw;obtain⟨c0,c1_,c2,c3,c4⟩:=HQ.out wq (HD.out wq h.bel);refine ch_pure ?_;go_simp
 ·have e2:=cO 3 (.pointer (some ⟨g0,0,none⟩)) h;have y_:=keep1 h.bel R1 (by go_simp) F1;refine ch_pure ?_;go_simp
 ·have e1:=cN 6 31 h hw;have e32:=cN 7 32 h hw;exact ch_call (vals:=#[.agg (chkA q.from_ q.to_ q.n q.of_ D q.data.length dq),.agg (chkA x.from_ x.to_ x.n x.of_ B1 x.data.length d5)]) (by go_simp) (by go_simp) (by have:=kinY_calls D B1 dq d5 q x wq;rwa [HKN.out]at this)
 ·have e2:=cN 8 33 h hw;refine ch_pure ?_;go_simp
 ·have e1:=cN 3 28 h hw;have e34:=cN 9 34 h hw;exact ch_pick_t e1 (ch_ev e34)):Y:=h
theorem chkAdd_calls(A B:OA)(c d:Nat)(l:List Chk)(x:Chk)(w:World)(hl:l.length<=2513169434843)(hs:Chs w A l)(hx:ChkIn w x B d):
  Calls Tryz.prog 44 #[.slice A l.length c,.agg (chkA x.from_ x.to_ x.n x.of_ B x.data.length d)] w (ChkRet2 w (chkAdd l x).1 (chkAdd l x).2):=by
 have HS:=qH hs;have HX:=qH hx;have K1:=qH (fun w h=>chkList_calls A c l w hl h);have K2:=qH (fun w=>chkCheckX_calls B d x w ⟨hx.i2,hx.i3⟩);have K3:=qH (fun w (hm:l.length<=1048000) h=>chkCopy_calls A c l w (by omega) h);have K4:=qH (fun w h=>cloneBytes_calls B x.data.length d (x.data.map bv) w (by simp) (by have:=hx.len;omega) h (bv_one _));have hba:=(bW w).alloc nl (.cells (chkA x.from_ x.to_ x.n x.of_ B x.data.length d) 39);have HBA:=qH hba;clear hs hx hba;by_cases he1:chkList l≠0
 ·have hz:=chkAdd_err1 (c:=x) he1;rw[hz];have q:(chkList l !=0)=true:=by simp[he1]
  generalize chkList l=e1 at *
  clear he1 hz;go_enter Tryz.func44,Tryz.ntmps44;go_wp2_with fail;refine(K1.out _ (HS.out.stays HBA.out)).mono ?_;rintro e w1 ⟨rfl,hb1⟩;have HB1:=bT HBA hb1;exact x98w
 have he1:=Decidable.not_not.1 he1;rw[he1]at K1;by_cases he2:chkCheck x≠0
 ·have hz:=chkAdd_err2 he1 he2;rw[hz];have q:(chkCheck x !=0)=true:=by simp[he2]
  generalize chkCheck x=e2 at *
  clear he1 he2 hz;go_enter Tryz.func44,Tryz.ntmps44;go_wp2_with fail;refine(K1.out _ (HS.out.stays HBA.out)).mono ?_;rintro e w1 ⟨rfl,hb1⟩;obtain⟨a0r,a0f,a0n,a0c,a0z,a0l⟩:=kp (w.heap.size) (chkA x.from_ x.to_ x.n x.of_ B x.data.length d) hb1;have HB1:=bT HBA hb1;clear hb1;go_wp2_with fail;refine(K2.out _).mono ?_;rintro e w2 ⟨rfl,hb1⟩;have HB2:=bT HB1 hb1;clear hb1;go_wp2_with fail;go_ret2;exact⟨none,0,[],rfl,GRow.nil _ _,Each.nil,HB2.out⟩
 have he2:=Decidable.not_not.1 he2;rw[he2]at K2;have hll:=chkList_len he1;have HE1:=qH he1;have HE2:=qH he2;clear he1 he2;obtain⟨r,hr⟩:=eX (chkAdd l x);rw[hr];have HR:=qH hr;clear hr;go_enter Tryz.func44,Tryz.ntmps44;go_wp2_with fail;refine(K1.out _ (HS.out.stays HBA.out)).mono ?_;rintro e w1 ⟨rfl,hb1⟩;obtain⟨a0r,a0f,a0n,a0c,a0z,a0l⟩:=kp (w.heap.size) (chkA x.from_ x.to_ x.n x.of_ B x.data.length d) hb1;have HB1:=bT HBA hb1;clear hb1;go_wp2_with fail;refine(K2.out _).mono ?_;rintro e w2 ⟨rfl,hb1⟩;have b1:=keep1 (g:=w.heap.size) (cs:=chkA x.from_ x.to_ x.n x.of_ B x.data.length d) hb1 a0r (by go_simp) a0f;have HB2:=bT HB1 hb1;clear hb1 a0r a0f a0n a0c a0z a0l;go_wp2_with fail;refine(K3.out _ (by omega) (HS.out.stays HB2.out)).mono ?_;rintro e w3 ⟨A1,c1,ds,rfl,hg1,hn1,hb1⟩;obtain⟨a0r,a0f,a0n,a0c,a0z,a0l⟩:=keep1 (g:=w.heap.size) (cs:=chkA x.from_ x.to_ x.n x.of_ B x.data.length d) hb1 b1.1 (by go_simp) b1.2.1;have HB3:=bT HB2 hb1;have HG1:=qH hg1;have HN1:=qH hn1;have hs1:=HB2.out.size;have hg2:w.heap.size<w2.heap.size:=b1.2.2.2.2.2;have hs2:=hb1.size;clear hb1 b1 hg1 hn1;go_wp2_with fail;refine(K4.out _ (HX.out.data.stays HB3.out).src).mono ?_;rintro e w4 ⟨B1,d5,rfl,ho1,hb1⟩;have b1:=keep1 (g:=w.heap.size) (cs:=chkA x.from_ x.to_ x.n x.of_ B x.data.length d) hb1 a0r (by go_simp) a0f;have HB4:=bT HB3 hb1;have HG2:=qH (HG1.out.below hb1);have hs3:=HB3.out.size;have hs4:w2.heap.size<=w4.heap.size:=Nat.le_trans hs2 hb1.size;have HO1:=qH ho1;clear hb1 a0r a0f a0n a0c a0z a0l ho1;go_wp2_with fail;have hG1:GRow kChk (w4.setCell ⟨w.heap.size,4,none⟩ (.slice B1 x.data.length d5)) w2.heap.size l ds A1 c1:=HG2.out.setOther (fun e=>by have:=(HG2.out.row.block _ e).1;omega) (HN1.out.imp fun k hk=>by omega) _;have hD1:Bts (w4.setCell ⟨w.heap.size,4,none⟩ (.slice B1 x.data.length d5)) B1 x.data:=(HO1.out.setCell_other (p:=⟨w.heap.size,4,none⟩) (fun e=>by have:=(HO1.out.block _ e).1;have h2:w.heap.size=w.heap.size:=rfl;simp only at this;omega) _).src.bts;have hs25':w2.heap.size<=(w4.setCell ⟨w.heap.size,4,none⟩ (.slice B1 x.data.length d5)).heap.size:=by simpa using hs4
 have hb1:Below w.heap.size w (w4.setCell ⟨w.heap.size,4,none⟩ (.slice B1 x.data.length d5)):=HB4.out.setCell (p:=⟨w.heap.size,4,none⟩) nl _;have R1:rowOf (w4.setCell ⟨w.heap.size,4,none⟩ (.slice B1 x.data.length d5)) w.heap.size=chkA x.from_ x.to_ x.n x.of_ B1 x.data.length d5:=by rw[rowOf_setCell,if_pos rfl,b1.1,chkA_set4]
 have F1:frOf (w4.setCell ⟨w.heap.size,4,none⟩ (.slice B1 x.data.length d5)) w.heap.size=(0,0):=by rw[frOf_setCell,b1.2.1]
 have hB5b:∀k,B1.map (·.block)=some k->w3.heap.size<=k:=fun k e=>(HO1.out.block k e).1;have hd1:x.data.length<=d5:=HO1.out.le;have HA1:Hid (∀k,A1.map (·.block)=some k->k<w3.heap.size):=qH (fun k e=>(HG1.out.row.block k e).2);have HBL:Hid (∀k,B1.map (·.block)=some k->k<(w4.setCell ⟨w.heap.size,4,none⟩ (.slice B1 x.data.length d5)).heap.size):=qH (fun k e=>by simpa using (HO1.out.block k e).2);have HG3:=qH hG1;have HD1:=qH hD1;have HB5:=qH hb1;have HR1:=qH (And.intro R1 F1);have HBB:=qH hB5b;have HN2:=HN1;clear hG1 hD1 hb1 R1 F1 hB5b b1 HG2 HO1 HB4 HG1 HN1;generalize w4.setCell ⟨w.heap.size,4,none⟩ (.slice B1 x.data.length d5)=w5 at *
 generalize hg0e:w.heap.size=g0 at *
 have HGE:=qH hg0e;clear hg0e;have HD:Hid (∀wq,Below w5.drew.heap.size w5.drew wq->Below w5.heap.size w5 wq):=qH (fun wq h=>(bW w5).drew.trans h);have R1:rowOf w5.drew g0=chkA x.from_ x.to_ x.n x.of_ B1 x.data.length d5:=HR1.out.1;have F1:frOf w5.drew g0=(0,0):=HR1.out.2;have hs5:=HB5.out.size;by_cases hl1:l.length=0
 ·have HL1:=qH hl1;have HKN1:Hid (∀y,l[0]?=some y->kin y x):=qH (fun y h=>by rw[List.getElem?_eq_none (by omega)]at h;cases h);clear hl1;refine wp_region_chain (by kernel_rfl) (some 25::some 26::some 27::some 28::some 29::some 30::some 31::some 32::some 33::some 34::some 35::[]) (.slice A1 l.length c1::iv (l.length:Int)::.bool false::.bool false::undef::undef::undef::undef::undef::undef::.bool false::[]) 74 rfl rfl (by decide+kernel) (by decide+kernel) (by decide+kernel) rfl ?_ ?_
  ·refine⟨.inl ⟨rfl,?_⟩,.inl ⟨rfl,?_⟩,.inl ⟨rfl,?_⟩,.inl ⟨rfl,?_⟩,.inr ⟨rfl,rfl⟩,.inr ⟨rfl,rfl⟩,.inr ⟨rfl,rfl⟩,.inr ⟨rfl,rfl⟩,.inr ⟨rfl,rfl⟩,.inr ⟨rfl,rfl⟩,.inl ⟨rfl,?_⟩,trivial⟩;all_goals intro done a wq hw h
   ·have e1:=cO 0 (.slice A1 l.length c1) h;exact ch_move (ch_ev e1)
   ·have e2:=cN 0 25 h hw;refine ch_pure ?_;go_simp
   ·have e1:=cN 1 26 h hw;have h1:=HL1.out;refine ch_pure ?_;go_simp
   ·have e2:=cN 2 27 h hw;exact ch_move (ch_ev e2)
   ·have e1:=cN 3 28 h hw;exact ch_pick_f e1 rfl
  intro w6 hb1;simp only[putAll_some,putAll_none,putAll_nil,List.setIfInBounds_toArray,List.set_cons_zero,List.set_cons_succ];obtain⟨a0r,a0f,a0n,a0c,a0z,a0l⟩:=keep1 (g:=g0) (cs:=chkA x.from_ x.to_ x.n x.of_ B1 x.data.length d5) hb1 R1 (by go_simp) F1;have HB4:Hid (Below g0 w w6):=qH (HB5.out.trans (hb1.mono (by omega)));have HG1:=qH (HG3.out.below hb1);have HD2:=qH (HD1.out.stays hb1);have hs6:=hb1.size;have HRF:=qH (And.intro a0r a0f);clear hb1 R1 F1 a0r a0f a0n a0c a0z;go_wp2_with fail;go_loopw [8] (fun i wr=>∃k:Nat,k<=l.length∧i=iv k∧Hid (∀(j:Nat) (h:j<l.length),j<k->l[j].n<x.n)∧Hid (Below w6.heap.size w6 wr)) (fun i _=>l.length-(intOf i).toNat)
  case atStart=>exact⟨0,Nat.zero_le _,rfl,qH (fun j h hj=>by omega),qH (Below.refl _ _)⟩
  case round=>
   rename World=>wr;obtain⟨k,hk,rfl,HLT,HBR⟩:=hrel;have b1:=keep1 (g:=g0) (cs:=chkA x.from_ x.to_ x.n x.of_ B1 x.data.length d5) HBR.out HRF.out.1 (by go_simp) HRF.out.2;have HGR:=qH (HG1.out.below HBR.out);have HDR:=qH (HD2.out.stays HBR.out);have HBW:Hid (Below g0 w wr):=qH (HB4.out.trans (HBR.out.mono (by omega)));have hsr:=HBR.out.size;by_cases hlt:k<l.length
   ·exfalso;have:=HL1.out;omega
   obtain rfl:k=l.length:=by omega
   have dl:decide ((l.length:Int)<(l.length:Int))=false:=by simp
   have hz:=(chkAdd_is HE1.out HE2.out HKN1.out nl (fun j h hj=>HLT.out j h hj) (fun h=>absurd h (Nat.lt_irrefl _))).2 (fun h=>absurd h (Nat.lt_irrefl _));rw[HR.out]at hz;have HZ:=qH hz;clear hz;go_wp2_with fail;go_quiet (fail)
   go_wp2_with fail;obtain⟨wx,hwx⟩:=eX (wr.drewN nq);rw[hwx];have hbx:Below wr.heap.size wr wx:=hwx▸below_drewN wr nq;have HGR:=qH (HGR.out.below hbx);have HDR:=qH (HDR.out.stays hbx);have HBW:Hid (Below g0 w wx):=qH (HBW.out.trans (hbx.mono (by omega)));have hsr:=Nat.le_trans hsr hbx.size;have b1:=keep1 (g:=g0) (cs:=chkA x.from_ x.to_ x.n x.of_ B1 x.data.length d5) hbx b1.1 (by go_simp) b1.2.1;clear hwx hbx;go_quiet (fail)
   obtain⟨wy,hwx⟩:=eX (wx.drewN nq);rw[hwx];have hbx:Below wx.heap.size wx wy:=hwx▸below_drewN wx nq;have HGR:=qH (HGR.out.below hbx);have HDR:=qH (HDR.out.stays hbx);have HBW:Hid (Below g0 w wy):=qH (HBW.out.trans (hbx.mono (by omega)));have hsr:=Nat.le_trans hsr hbx.size;have b1:=keep1 (g:=g0) (cs:=chkA x.from_ x.to_ x.n x.of_ B1 x.data.length d5) hbx b1.1 (by go_simp) b1.2.1;clear hwx hbx;have HG2:=HGR;have HD3:=HDR;have HB6:=HBW;have hO1:=HG2.out.row.alloc (.cells (chkA x.from_ x.to_ x.n x.of_ B1 x.data.length d5) 39);have hv1:(wy.alloc (.cells (chkA x.from_ x.to_ x.n x.of_ B1 x.data.length d5) 39)).heap[wy.heap.size]?=some (.cells (kChk.cell x (B1,d5)).toArray 39 (0,0)):=blk_top rfl;have hvg1:A1.map (·.block)≠some wy.heap.size:=fun e=>by have:=(HG2.out.row.block _ e).2;omega
   have hbs1:w2.heap.size<=(wy.alloc (.cells (chkA x.from_ x.to_ x.n x.of_ B1 x.data.length d5) 39)).heap.size:=by simp;omega
   have HIN:=qH (insChunks_calls A1 l.length c1 l.length (kChk.cells l ds) wy.heap.size (kChk.cell x (B1,d5)) 39 _ w2.heap.size hO1 rfl hv1 hvg1 (kChk.one _ _) (cells_oneCell _ _) hbs1 (by omega) (by omega));exact x0ej
 have hlp:0<l.length:=by omega
 obtain⟨g,rfl,hgb,hgl⟩:=HG3.out.row.form hlp;obtain⟨q,hq⟩:∃q,l[0]?=some q:=⟨_,List.getElem?_eq_getElem hlp⟩;obtain⟨D,dq,hat⟩:=HG3.out.chkAt hq;rw[Nat.zero_mul]at hat;have HQ:Hid (∀wq,Below w5.heap.size w5 wq->ChkAt wq g 0 q D dq):=qH (fun wq h=>hat.stays hgl h);have HL1:Hid (0<l.length):=qH hlp;have HLN:Hid (¬l=[]):=qH (fun e=>by rw[e]at hlp;simp at hlp);have HQE:=qH hq;clear hl1 hat hq;by_cases hkn:kin q x
 ·have HKN:Hid (decide (kin q x)=true):=qH (decide_eq_true hkn);have HKN1:Hid (∀y,l[0]?=some y->kin y x):=qH (fun y h=>by rw[HQE.out]at h;injection h with h;subst h;exact hkn);clear hkn;refine wp_region_chain (by kernel_rfl) (some 25::some 26::some 27::some 28::some 29::some 30::some 31::some 32::some 33::some 34::some 35::[]) (.slice (some ⟨g,0,none⟩) l.length c1::iv (l.length:Int)::.bool true::.bool true::.slice (some ⟨g,0,none⟩) l.length c1::.pointer (some ⟨g,0,none⟩)::.agg (chkA q.from_ q.to_ q.n q.of_ D q.data.length dq)::.agg (chkA x.from_ x.to_ x.n x.of_ B1 x.data.length d5)::.bool true::.bool false::.bool false::[]) 74 rfl rfl (by decide+kernel) (by decide+kernel) (by decide+kernel) rfl ?_ ?_
  ·exact x1vw
  intro w6 hb1;simp only[putAll_some,putAll_none,putAll_nil,List.setIfInBounds_toArray,List.set_cons_zero,List.set_cons_succ];obtain⟨a0r,a0f,a0n,a0c,a0z,a0l⟩:=keep1 (g:=g0) (cs:=chkA x.from_ x.to_ x.n x.of_ B1 x.data.length d5) hb1 R1 (by go_simp) F1;have HB4:Hid (Below g0 w w6):=qH (HB5.out.trans (hb1.mono (by omega)));have HG1:=qH (HG3.out.below hb1);have HD2:=qH (HD1.out.stays hb1);have hs6:=hb1.size;have HRF:=qH (And.intro a0r a0f);clear hb1 R1 F1 a0r a0f a0n a0c a0z;go_wp2_with fail;go_loopw [8] (fun i wr=>∃k:Nat,k<=l.length∧i=iv k∧Hid (∀(j:Nat) (h:j<l.length),j<k->l[j].n<x.n)∧Hid (Below w6.heap.size w6 wr)) (fun i _=>l.length-(intOf i).toNat)
  case atStart=>exact⟨0,Nat.zero_le _,rfl,qH (fun j h hj=>by omega),qH (Below.refl _ _)⟩
  case round=>
   rename World=>wr;obtain⟨k,hk,rfl,HLT,HBR⟩:=hrel;have b1:=keep1 (g:=g0) (cs:=chkA x.from_ x.to_ x.n x.of_ B1 x.data.length d5) HBR.out HRF.out.1 (by go_simp) HRF.out.2;have HGR:=qH (HG1.out.below HBR.out);have HDR:=qH (HD2.out.stays HBR.out);have HBW:Hid (Below g0 w wr):=qH (HB4.out.trans (HBR.out.mono (by omega)));have hsr:=HBR.out.size;by_cases hlt:k<l.length
   ·obtain⟨D1,d1,hat⟩:=HGR.out.chkAt (List.getElem?_eq_getElem hlt);have hgr:g<wr.heap.size:=(HGR.out.row.block g rfl).2;obtain⟨y,hy⟩:=eX (l[k]);rw[hy]at hat;have HAT:=qH hat;have HY:=qH hy;obtain⟨c5,c1_,c2,c3,c4⟩:=hat;have dl:decide ((k:Int)<(l.length:Int))=true:=decide_eq_true (by omega);have nb:¬(l.length:Int)<=(k:Int):=by omega
    have hwk:IntKind.i64.wrap ((k:Int)+1)=(k:Int)+1:=IntWalk.i64_in _ (by omega);clear hy;by_cases hn:y.n<x.n
    ·have HN:=qH hn;go_wp2_with fail;go_quiet (fail)
     go_wp2_with fail;go_roundw
     case rel=>exact⟨k+1,by omega,by go_num,qH (fun j h hj=>by
      rcases Nat.lt_or_ge j k with h1|h1
      ·exact HLT.out j h h1
      have e:j=k:=by omega
      subst e;rw[HY.out];exact HN.out),qH (Below.drewN' HBR.out _)⟩
     case measure=>simp[intOf];omega
    have his:=chkAdd_is HE1.out HE2.out HKN1.out hk (fun j h hj=>HLT.out j h hj) (fun h=>by rw[HY.out];exact hn);by_cases he:y.n=x.n
    first|case' inl=>have T14:Hid True:=qH trivial|case' pos=>have T14:Hid True:=qH trivial|case' refine_1=>have T14:Hid True:=qH trivial
    iterate 2
     ·first
       |
        revert T14;intro T14;have hz:=his.1 hlt (by rw[HY.out];exact he)
       |have hz:=his.2 (fun h=>by rw[HY.out];exact he)
      rw[HR.out]at hz;have HZ:=qH hz
      first
       |
        revert T14;intro T14;have de:(y.n==x.n)=true:=by simp[he]
       |have de:(y.n==x.n)=false:=by simp[he]
      clear hz his he;go_wp2_with fail;go_quiet (fail)
      go_wp2_with fail;obtain⟨wx,hwx⟩:=eX (wr.drewN nq);rw[hwx];have hbx:Below wr.heap.size wr wx:=hwx▸below_drewN wr nq;have hat2:=HAT.out.stays hgr hbx;have HAT:=qH hat2;have hgr:g<wx.heap.size:=Nat.lt_of_lt_of_le hgr hbx.size;have HGR:=qH (HGR.out.below hbx);have HDR:=qH (HDR.out.stays hbx);have HBW:Hid (Below g0 w wx):=qH (HBW.out.trans (hbx.mono (by omega)));have hsr:=Nat.le_trans hsr hbx.size;have b1:=keep1 (g:=g0) (cs:=chkA x.from_ x.to_ x.n x.of_ B1 x.data.length d5) hbx b1.1 (by go_simp) b1.2.1;clear hwx hbx;obtain⟨c5,c1_,c2,c3,c4⟩:=hat2;go_quiet (fail)
      obtain⟨wy,hwx⟩:=eX (wx.drewN nq);rw[hwx];have hbx:Below wx.heap.size wx wy:=hwx▸below_drewN wx nq;have hat2:=HAT.out.stays hgr hbx;have HAT:=qH hat2;have hgr:g<wy.heap.size:=Nat.lt_of_lt_of_le hgr hbx.size;have HGR:=qH (HGR.out.below hbx);have HDR:=qH (HDR.out.stays hbx);have HBW:Hid (Below g0 w wy):=qH (HBW.out.trans (hbx.mono (by omega)));have hsr:=Nat.le_trans hsr hbx.size;have b1:=keep1 (g:=g0) (cs:=chkA x.from_ x.to_ x.n x.of_ B1 x.data.length d5) hbx b1.1 (by go_simp) b1.2.1;clear hwx hbx;clear hat2
      first
       |revert T14;intro T14
       |
        have HG7:=HGR;have HD7:=HDR;have HB7:=HBW;have hO7:=HG7.out.row.alloc (.cells (chkA x.from_ x.to_ x.n x.of_ B1 x.data.length d5) 39);have hv7:(wy.alloc (.cells (chkA x.from_ x.to_ x.n x.of_ B1 x.data.length d5) 39)).heap[wy.heap.size]?=some (.cells (kChk.cell x (B1,d5)).toArray 39 (0,0)):=blk_top rfl;have hvg7:(some (⟨g,0,none⟩:Addr)).map (·.block)≠some wy.heap.size:=fun e=>by have:=(HG7.out.row.block _ e).2;omega
        have hbs7:w2.heap.size<=(wy.alloc (.cells (chkA x.from_ x.to_ x.n x.of_ B1 x.data.length d5) 39)).heap.size:=by simp;omega
        have HIN:=qH (insChunks_calls (some ⟨g,0,none⟩) l.length c1 k (kChk.cells l ds) wy.heap.size (kChk.cell x (B1,d5)) 39 _ w2.heap.size hO7 rfl hv7 hvg7 (kChk.one _ _) (cells_oneCell _ _) hbs7 (by omega) (by omega));clear hO7 hv7 hvg7;go_wp2_with fail;refine HIN.out.mono ?_;rintro e w9 ⟨A',c',rfl,hown,hb9,hk9,hor9⟩;have hba7:=(bW wy).alloc nl (.cells (chkA x.from_ x.to_ x.n x.of_ B1 x.data.length d5) 39);have hG9:=(HG7.out.below hba7).ins (x:=x) (e:=(B1,d5)) (k:=k) (by omega) hown hb9 hk9 hor9 (HD7.out.stays hba7) hd1 (fun _ q e e2=>by have h5:=HBB.out q e;have h6:=HA1.out q e2;omega);have HG9:=qH hG9;have HB9:Hid (Below g0 w w9):=qH ((HB7.out.alloc (by omega) _).trans (hb9.mono (by omega)));clear hown hb9 hk9 hor9 hba7 hG9 HIN
      go_wp2_with fail;go_ret2;rw[HZ.out]
      first
       |
        revert T14;intro T14;exact⟨_,_,ds,rfl,HGR.out.mono (by rw[HGE.out];omega),HN2.out.imp fun q hq=>by rw[HGE.out];omega,HGE.out.symm▸HBW.out⟩
       |
        have hlen:(l.take k++x::l.drop k).length=l.length+1:=by rw[List.length_append,List.length_take,List.length_cons,List.length_drop];omega
        refine⟨A',c',_,by rw[hlen];rfl,HG9.out.mono (by rw[HGE.out];omega),(HN2.out.imp fun q hq=>by rw[HGE.out];omega).ins HG7.out.len (by omega) (fun q e=>by have:=HBB.out q e;rw[HGE.out];omega),HGE.out.symm▸HB9.out⟩
   obtain rfl:k=l.length:=by omega
   have dl:decide ((l.length:Int)<(l.length:Int))=false:=by simp
   have hz:=(chkAdd_is HE1.out HE2.out HKN1.out nl (fun j h hj=>HLT.out j h hj) (fun h=>absurd h (Nat.lt_irrefl _))).2 (fun h=>absurd h (Nat.lt_irrefl _));rw[HR.out]at hz;have HZ:=qH hz;clear hz;go_wp2_with fail;go_quiet (fail)
   go_wp2_with fail;obtain⟨wx,hwx⟩:=eX (wr.drewN nq);rw[hwx];have hbx:Below wr.heap.size wr wx:=hwx▸below_drewN wr nq;have HGR:=qH (HGR.out.below hbx);have HDR:=qH (HDR.out.stays hbx);have HBW:Hid (Below g0 w wx):=qH (HBW.out.trans (hbx.mono (by omega)));have hsr:=Nat.le_trans hsr hbx.size;have b1:=keep1 (g:=g0) (cs:=chkA x.from_ x.to_ x.n x.of_ B1 x.data.length d5) hbx b1.1 (by go_simp) b1.2.1;clear hwx hbx;go_quiet (fail)
   obtain⟨wy,hwx⟩:=eX (wx.drewN nq);rw[hwx];have hbx:Below wx.heap.size wx wy:=hwx▸below_drewN wx nq;have HGR:=qH (HGR.out.below hbx);have HDR:=qH (HDR.out.stays hbx);have HBW:Hid (Below g0 w wy):=qH (HBW.out.trans (hbx.mono (by omega)));have hsr:=Nat.le_trans hsr hbx.size;have b1:=keep1 (g:=g0) (cs:=chkA x.from_ x.to_ x.n x.of_ B1 x.data.length d5) hbx b1.1 (by go_simp) b1.2.1;clear hwx hbx;have HG2:=HGR;have HD3:=HDR;have HB6:=HBW;have hO1:=HG2.out.row.alloc (.cells (chkA x.from_ x.to_ x.n x.of_ B1 x.data.length d5) 39);have hv1:(wy.alloc (.cells (chkA x.from_ x.to_ x.n x.of_ B1 x.data.length d5) 39)).heap[wy.heap.size]?=some (.cells (kChk.cell x (B1,d5)).toArray 39 (0,0)):=blk_top rfl;have hvg1:(some (⟨g,0,none⟩:Addr)).map (·.block)≠some wy.heap.size:=fun e=>by have:=(HG2.out.row.block _ e).2;omega
   have hbs1:w2.heap.size<=(wy.alloc (.cells (chkA x.from_ x.to_ x.n x.of_ B1 x.data.length d5) 39)).heap.size:=by simp;omega
   have HIN:=qH (insChunks_calls (some ⟨g,0,none⟩) l.length c1 l.length (kChk.cells l ds) wy.heap.size (kChk.cell x (B1,d5)) 39 _ w2.heap.size hO1 rfl hv1 hvg1 (kChk.one _ _) (cells_oneCell _ _) hbs1 (by omega) (by omega));exact x0ej
 have HKN:Hid (decide (kin q x)=false):=qH (decide_eq_false hkn);have hz:=chkAdd_other HE1.out HE2.out HQE.out hkn;rw[HR.out]at hz;have HZ:=qH hz;clear hkn hz;refine wp_region_chain (by kernel_rfl) (some 25::some 26::some 27::some 28::some 29::some 30::some 31::some 32::some 33::some 34::some 35::[]) (.slice (some ⟨g,0,none⟩) l.length c1::iv (l.length:Int)::.bool true::.bool true::.slice (some ⟨g,0,none⟩) l.length c1::.pointer (some ⟨g,0,none⟩)::.agg (chkA q.from_ q.to_ q.n q.of_ D q.data.length dq)::.agg (chkA x.from_ x.to_ x.n x.of_ B1 x.data.length d5)::.bool false::.bool true::.bool true::[]) 74 rfl rfl (by decide+kernel) (by decide+kernel) (by decide+kernel) rfl ?_ ?_
 ·exact x1vw
 intro w6 hb1;simp only[putAll_some,putAll_none,putAll_nil,List.setIfInBounds_toArray,List.set_cons_zero,List.set_cons_succ];obtain⟨a0r,a0f,a0n,a0c,a0z,a0l⟩:=keep1 (g:=g0) (cs:=chkA x.from_ x.to_ x.n x.of_ B1 x.data.length d5) hb1 R1 (by go_simp) F1;have HB4:Hid (Below g0 w w6):=qH (HB5.out.trans (hb1.mono (by omega)));have HD2:=qH (HD1.out.stays hb1);have hs6:=hb1.size;clear hb1 R1 F1;go_wp2_with fail;go_ret2;rw[HZ.out];refine⟨_,_,[(B1,d5)],rfl,grow_one (blk_top rfl) (by rw[HGE.out];omega) (HD2.out.stays (bL _)) hd1 (fun k e=>?_),each_one (fun k e=>by have:=HBB.out k e;rw[HGE.out];omega),(HGE.out.symm▸HB4.out.alloc (by omega) _)⟩;have:=HBL.out k e;omega
theorem DevIn.hear(h:DevIn w d L)(h1:l.length<=c)(h2:l.length<=2513169434843)(h3:Chs w A l):DevIn w {d with got:=l} {L with ag:=A,cg:=c}:=⟨h.k0,h.l0,h.b0,h.k1,h.l1,h.b1,h1,h2,h3,h.job,h.ir,h.id⟩
theorem chkAdd_all{c x:Chk}(h:x∈(chkAdd l c).1):x∈l∨x=c:=by
 unfold chkAdd at h;by_cases h1:chkList l≠0
 ·rw[if_pos h1]at h;simp at h
 rw[if_neg h1]at h;by_cases h2:chkCheck c≠0
 ·rw[if_pos h2]at h;simp at h
 rw[if_neg h2]at h;rcases l with _|⟨y,r⟩
 ·dsimp only at h;exact .inr (by simpa using h)
 dsimp only at h;by_cases h3:¬kin y c
 ·rw[if_pos h3]at h;exact .inr (by simpa using h)
 rw[if_neg h3]at h;by_cases h4:∃z∈y::r,z.n=c.n
 ·rw[if_pos h4]at h;exact .inl h
 rw[if_neg h4]at h;rcases List.mem_append.1 h with h|h
 ·exact .inl (List.mem_of_mem_take h)
 rcases List.mem_cons.1 h with h|h
 ·exact .inr h
 exact .inl (List.mem_of_mem_drop h)
theorem chkAdd_len{c:Chk}(h:(chkAdd l c).2=0):(chkAdd l c).1.length<=100:=by
 unfold chkAdd at h⊢;by_cases h1:chkList l≠0
 ·exact x4pw
 rw[if_neg h1]at h⊢;have hl:=chkList_len (Decidable.not_not.1 h1);by_cases h2:chkCheck c≠0
 ·rw[if_pos h2]at h;exact absurd h h2
 rw[if_neg h2]at h⊢;rcases l with _|⟨y,r⟩
 ·simp
 dsimp only;split
 ·simp
 split
 ·dsimp only;omega
 simp only[List.length_append,List.length_take,List.length_cons,List.length_drop]at hl⊢;omega
theorem Fresh.and{base:Nat}{P Q:World->Prop}(h:Fresh base w P)(g:Fresh base w Q):Fresh base w (fun v=>P v∧Q v):=fun v hv=>⟨h v hv,g v hv⟩
theorem devHear_bad(d:Dev)(L:DLoc)(x:Chk)(B:OA)(e:Nat)(w:World)(h:DevIn w d L)(hx:ChkIn w x B e)(hne:devReady d≠0):Calls Tryz.prog 12 #[.agg (devA d L),.agg (chkA x.from_ x.to_ x.n x.of_ B x.data.length e)] w (DvRet w Dev.zero (devReady d)):=by
 have hba:Below w.heap.size w (((w.alloc (.cells (devA d L) 37)).alloc (.cells (chkA x.from_ x.to_ x.n x.of_ B x.data.length e) 39)).alloc (.cells (devA Dev.zero DLoc.zero) 37)):=(((bW w).alloc (by first|omega|(simp<;>omega)) (.cells (devA d L) 37)).alloc (by first|omega|(simp<;>omega)) (.cells (chkA x.from_ x.to_ x.n x.of_ B x.data.length e) 39)).alloc (by first|omega|(simp<;>omega)) (.cells (devA Dev.zero DLoc.zero) 37);have HBA:=qH hba;have HIN:=qH h;have KB:=qH (fun w h=>ready_bad d L w h hne);have q:(devReady d !=0)=true:=by simp[hne]
 generalize devReady d=n at *
 clear hne h hba;go_enter Tryz.func12,Tryz.ntmps12;go_wp2_with fail;refine(KB.out _ (HIN.out.stays HBA.out)).mono ?_;rintro e w1 ⟨rfl,hb1⟩;have a3:=kp (w.heap.size) (devA d L) hb1;have a1:=kp (w.heap.size+1) (chkA x.from_ x.to_ x.n x.of_ B x.data.length e) hb1;have a2:=kp (w.heap.size+1+1) (devA Dev.zero DLoc.zero) hb1;have HB1:=bT HBA hb1;clear hb1;exact x5r8
theorem devHear_ok(d:Dev)(L:DLoc)(x:Chk)(B:OA)(e:Nat)(w:World)(h:DevIn w d L)(hx:ChkIn w x B e)(hz:devReady d=0):Calls Tryz.prog 12 #[.agg (devA d L),.agg (chkA x.from_ x.to_ x.n x.of_ B x.data.length e)] w (DvRet w (devHear d x).1 (devHear d x).2):=by
 have hba:Below w.heap.size w (((w.alloc (.cells (devA d L) 37)).alloc (.cells (chkA x.from_ x.to_ x.n x.of_ B x.data.length e) 39)).alloc (.cells (devA Dev.zero DLoc.zero) 37)):=(((bW w).alloc (by first|omega|(simp<;>omega)) (.cells (devA d L) 37)).alloc (by first|omega|(simp<;>omega)) (.cells (chkA x.from_ x.to_ x.n x.of_ B x.data.length e) 39)).alloc (by first|omega|(simp<;>omega)) (.cells (devA Dev.zero DLoc.zero) 37);have HBA:=qH hba;have HIN:=qH h;have KR:=qH (fun w h=>ready_ok d L w h hz);have hdef:devHear d x=if d.busy=true then (Dev.zero,5)else if (chkAdd d.got x).2≠0 then (Dev.zero,(chkAdd d.got x).2)else ({d with got:=(chkAdd d.got x).1},0):=by unfold devHear;rw[if_neg (by omega)]
 have HLG:=qH h.lg;have HBD:Hid (∀y∈(chkAdd d.got x).1,ChkB y):=qH (fun y hy=>by
  rcases chkAdd_all hy with hy|hy
  ·exact h.got.bound y hy
  subst hy;exact⟨hx.len,hx.i0,hx.i1,hx.i2,hx.i3⟩)
 have HLN:Hid ((chkAdd d.got x).2=0->(chkAdd d.got x).1.length<=100):=qH (fun e=>chkAdd_len e);have HX:=qH hx;have K1:=qH (fun A c w h1 h2=>chkAdd_calls A B c e d.got x w HLG.out h1 h2);obtain⟨⟨l1,e1⟩,hq⟩:∃y,chkAdd d.got x=y:=⟨_,rfl⟩;rw[hq]at hdef HBD HLN K1;dsimp only at hdef;have HD:=qH hdef;generalize devHear d x=res at *
 clear hz h hba hdef hq hx;go_enter Tryz.func12,Tryz.ntmps12;go_wp2_with fail;refine(KR.out _ (HIN.out.stays HBA.out)).mono ?_;rintro e w1 ⟨L1,rfl,hfr,hb1⟩;have a3:=kp (w.heap.size) (devA d L) hb1;have a1:=kp (w.heap.size+1) (chkA x.from_ x.to_ x.n x.of_ B x.data.length e) hb1;have a2:=kp (w.heap.size+1+1) (devA Dev.zero DLoc.zero) hb1;have HFR:Hid (Fresh (w.heap.size+3) w1 (fun v=>DvOwn v (w.heap.size+3) d L1)):=qH (by simpa[Nat.add_assoc]using hfr);have HB1:=bT HBA hb1;have hsz1:w.heap.size+3<=w1.heap.size:=by have:=hb1.size;simp at this;omega
 have HK1:Hid (Kp (w.heap.size+3) w1 w1):=qH (Kp.refl _ _);clear hb1 hfr;by_cases c1:d.busy=true
 ·have hz:res=(Dev.zero,5):=HD.out.trans (if_pos c1);subst hz;exact x5r8
 have HD1:=qH (HD.out.trans (if_neg c1));have c1:d.busy=false:=by simpa using c1
 clear HD;go_wp2_with fail;refine(K1.out L1.ag L1.cg _ ?_ ?_).mono ?_
 ·refine(Fresh.kp (B:=w.heap.size+3) HFR.out ?_ nl (by first|omega|(simp<;>omega))).now.devIn.got;exact x84a
 ·refine HX.out.stays ?_;exact bZ HB1
 rintro en w2 ⟨A1,c2,ds,rfl,hrow,heach,hb⟩;have HS1:Hid (w1.heap.size+1<=w2.heap.size):=qH (by have:=hb.size;simpa using this);have a3:=kp (w.heap.size) (devA d L1) hb;have a1:=kp (w.heap.size+1+1) (devA Dev.zero DLoc.zero) hb;have hbs1:=hb.size;have hsz2:w1.heap.size<=w2.heap.size:=by first|omega|(simp at hbs1;omega)
 have HK2:Hid (Kp (w.heap.size+3) w1 w2):=qH (by
  refine Kp.below ?_ (by first|omega|(simp<;>omega)) hb;exact x84a)
 have HB2:=bU HB1 hb;clear hb hbs1;have HGR:Hid (Fresh (w1.heap.size+1) w2 (fun v=>GRow kChk v (w1.heap.size+1) l1 ds A1 c2)):=qH (by
  have h1:=hrow.fresh heach;simpa using h1)
 have HC1:=qH hrow.row.le;have hsz3:w1.heap.size+1<=w2.heap.size:=HS1.out;clear hrow heach;by_cases c2':e1≠0
 ·have hz:res=(Dev.zero,e1):=HD1.out.trans (if_pos c2');subst hz;have q:(e1 !=0)=true:=by simp[c2']
  clear c2';exact x2uc
 have c2':=Decidable.not_not.1 c2';subst c2';have hz:res=({d with got:=l1},0):=HD1.out.trans (if_neg (by decide));subst hz;have HL1:Hid (l1.length<=2513169434843):=qH (by have:=HLN.out rfl;omega);clear HLN HD1;go_wp2_with fail;refine bodyPost_ret (rC (devA {d with got:=l1} {L1 with ag:=A1,cg:=c2})) rfl ⟨{L1 with ag:=A1,cg:=c2},rfl,?_,?_⟩
 ·refine Fresh.imp (P:=fun v=>DvOwn v (w.heap.size+3) d L1∧GRow kChk v (w1.heap.size+1) l1 ds A1 c2) (Fresh.and (Fresh.kp HFR.out ?_ (by omega) (by first|omega|(simp<;>omega))) (Fresh.kp HGR.out ?_ (by omega) (by first|omega|(simp<;>omega)))) (fun v hv=>hv.1.devIn.hear HC1.out HL1.out (hv.2.src.chs HBD.out))
  ·exact x9su
  ·exact x9su
 exact bZ HB2
theorem devHear_calls(d:Dev)(L:DLoc)(x:Chk)(B:OA)(e:Nat)(w:World)(h:DevIn w d L)(hx:ChkIn w x B e):Calls Tryz.prog 12 #[.agg (devA d L),.agg (chkA x.from_ x.to_ x.n x.of_ B x.data.length e)] w (DvRet w (devHear d x).1 (devHear d x).2):=by
 by_cases hz:devReady d=0
 ·exact devHear_ok d L x B e w h hx hz
 have e1:devHear d x=(Dev.zero,devReady d):=by unfold devHear;rw[if_pos hz]
 rw[e1];exact devHear_bad d L x B e w h hx hz
theorem x0ss(h:Y:=by
 rw[<-himg];unfold Dev.image;rw[List.length_take];have:=(at_sizes HREC.out (ka:Int)).2.1;omega):Y:=h
theorem x17f(h:Y:=by
 repeat (first|exact HK3.out|exact Kp.refl _ _|refine Kp.row ?_ (by omega) _|refine Kp.cell ?_ (by first|(show _<_∨_<=_;omega)|(simp<;>omega)) _|refine Kp.alloc ?_ (by first|omega|(simp<;>omega)) _)):Y:=h
theorem x52i(h:Y:=by
 go_wp2_with fail;refine bodyPost_ret (rC (devA Dev.zero DLoc.zero)) rfl ⟨DLoc.zero,rfl,.const fun v=>DevIn.zero v,bZ HB3⟩):Y:=h
theorem x7of(h:Y:=by
 repeat (first|exact HK4.out|exact Kp.refl _ _|refine Kp.row ?_ (by omega) _|refine Kp.cell ?_ (by first|(show _<_∨_<=_;omega)|(simp<;>omega)) _|refine Kp.alloc ?_ (by first|omega|(simp<;>omega)) _)):Y:=h
theorem x7r2(h:Y:=by
 rw[<-himg];exact image_calls d L1 (ka:Int) d.rec_ wq (by omega) h (slot_len HOK.out.l0 HOK.out.l1 _) (at_sizes HREC.out _).1 (at_sizes HREC.out _).2.1):Y:=h
theorem x80n(h:Y:=by
 clear c3;go_wp2_with fail;refine bodyPost_ret (rC (devA Dev.zero DLoc.zero)) rfl ⟨DLoc.zero,rfl,.const fun v=>DevIn.zero v,bZ HB5⟩):Y:=h
theorem x8lt(h:Y:=by
 go_wp2_with fail;refine bodyPost_ret (rC (devA Dev.zero DLoc.zero)) rfl ⟨DLoc.zero,rfl,.const fun v=>DevIn.zero v,bZ HB4⟩):Y:=h
theorem DevIn.cops(h:DevIn w d L)(p q:Cop):DevIn w {d with c0:=p,c1:=q} L:=⟨h.k0,h.l0,h.b0,h.k1,h.l1,h.b1,h.kg,h.lg,h.got,h.job,h.ir,h.id⟩
theorem devConfirm_bad(d:Dev)(L:DLoc)(w:World)(h:DevIn w d L)  (hne:devReady d≠0):Calls Tryz.prog 16 #[.agg (devA d L)] w (DvRet w Dev.zero (devReady d)):=by
 have hba:Below w.heap.size w ((w.alloc (.cells (devA d L) 37)).alloc (.cells (devA Dev.zero DLoc.zero) 37)):=bA (bA (Below.refl _ _) _) _;have HBA:=qH hba;have HIN:=qH h;have KB:=qH (fun w h=>ready_bad d L w h hne);have q:(devReady d !=0)=true:=by simp[hne]
 generalize devReady d=n at *
 clear hne h hba;go_enter Tryz.func16,Tryz.ntmps16;go_wp2_with fail;refine(KB.out _ (HIN.out.stays HBA.out)).mono ?_;rintro e w1 ⟨rfl,hb1⟩;have a2:=kp (w.heap.size) (devA d L) hb1;have a1:=kp (w.heap.size+1) (devA Dev.zero DLoc.zero) hb1;have HB1:=bT HBA hb1;clear hb1;exact x5r8
theorem devConfirm_ok(d:Dev)(L:DLoc)(w:World)(h:DevIn w d L)  (hz:devReady d=0):Calls Tryz.prog 16 #[.agg (devA d L)] w (DvRet w (devConfirm d).1 (devConfirm d).2):=by
 have hba:Below w.heap.size w ((w.alloc (.cells (devA d L) 37)).alloc (.cells (devA Dev.zero DLoc.zero) 37)):=bA (bA (Below.refl _ _) _) _;have HBA:=qH hba;have HIN:=qH h;have KR:=qH (fun w h=>ready_ok d L w h hz);have hdef:devConfirm d=if d.running=d.rec_.active then (Dev.zero,5)
   else if (recConfirm d.rec_).2≠0 then (Dev.zero,(recConfirm d.rec_).2)
   else if (recWrite d.c0 d.c1 (recConfirm d.rec_).1 false).2≠0 then (Dev.zero,(recWrite d.c0 d.c1 (recConfirm d.rec_).1 false).2)
   else (d.write (recConfirm d.rec_).1 false,0):=by unfold devConfirm;rw[if_neg (by omega)]
 have K1:=qH (fun w=>confirm_calls d.rec_ w);obtain⟨⟨r1,e1⟩,hq⟩:∃x,recConfirm d.rec_=x:=⟨_,rfl⟩;unfold Dev.write at hdef;rw[hq]at hdef K1;dsimp only at hdef;have K2:=qH (fun w=>write_calls d.c0 d.c1 r1 false w);obtain⟨⟨⟨p1,p2⟩,e2⟩,hw⟩:∃x,recWrite d.c0 d.c1 r1 false=x:=⟨_,rfl⟩;rw[hw]at hdef K2;dsimp only at hdef;have HD:=qH hdef;generalize devConfirm d=res at *
 clear hz h hba hdef hq hw;go_enter Tryz.func16,Tryz.ntmps16;go_wp2_with fail;refine(KR.out _ (HIN.out.stays HBA.out)).mono ?_;rintro e w1 ⟨L1,rfl,hfr,hb1⟩;have a3:=kp (w.heap.size) (devA d L) hb1;have a1:=kp (w.heap.size+1) (devA Dev.zero DLoc.zero) hb1;have HFR:Hid (Fresh (w.heap.size+2) w1 (fun v=>DvOwn v (w.heap.size+2) d L1)):=qH (by simpa[Nat.add_assoc]using hfr);have HB1:=bT HBA hb1;have hsz1:w.heap.size+2<=w1.heap.size:=by have:=hb1.size;simp at this;omega
 have HK1:Hid (Kp (w.heap.size+2) w1 w1):=qH (Kp.refl _ _);clear hb1 hfr;by_cases c1:d.running=d.rec_.active
 ·have hz:res=(Dev.zero,5):=HD.out.trans (if_pos c1);subst hz;have q:(d.running==d.rec_.active)=true:=by simp[c1]
  clear c1;exact x5r8
 have q1:(d.running==d.rec_.active)=false:=by simp[c1]
 have HD1:=qH (HD.out.trans (if_neg c1));clear c1 HD;go_wp2_with fail;refine(K1.out _).mono ?_;rintro e w2 ⟨rfl,hb⟩;have a3:=kp (w.heap.size) (devA d L1) hb;have a1:=kr a1 hb;have a2:=kp (w1.heap.size) (recA d.rec_) hb;have hbs1:=hb.size;have hsz2:w1.heap.size<=w2.heap.size:=by first|omega|(simp at hbs1;omega)
 have HK2:Hid (Kp (w.heap.size+2) w1 w2):=qH (by
  refine Kp.below ?_ (by first|omega|(simp<;>omega)) hb;exact x84a)
 have HB2:=bU HB1 hb;clear hb hbs1;by_cases c2:e1≠0
 ·have hz:res=(Dev.zero,e1):=HD1.out.trans (if_pos c2);subst hz;have q:(e1 !=0)=true:=by simp[c2]
  clear c2;exact x2uc
 have c2:=Decidable.not_not.1 c2;subst c2;have HD2:=qH (HD1.out.trans (if_neg (by decide)));clear HD1;go_wp2_with fail;refine(K2.out _).mono ?_;rintro e w3 ⟨rfl,hb⟩;have a3:=kr a3 hb;have a1:=kr a1 hb;have hbs1:=hb.size;have hsz3:w1.heap.size<=w3.heap.size:=by first|omega|(simp at hbs1;omega)
 have HK3:Hid (Kp (w.heap.size+2) w1 w3):=qH (by
  refine Kp.below ?_ (by first|omega|(simp<;>omega)) hb;exact x9su)
 have HB3:=bU HB2 hb;clear hb hbs1;by_cases c3:e2≠0
 ·have hz:res=(Dev.zero,e2):=HD2.out.trans (if_pos c3);subst hz;have q:(e2 !=0)=true:=by simp[c3]
  clear c3;exact x52i
 have c3:=Decidable.not_not.1 c3;subst c3;have hz:res=({d with c0:=p1,c1:=p2},0):=HD2.out.trans (if_neg (by decide));subst hz;go_wp2_with fail;refine bodyPost_ret (rC (devA {d with c0:=p1,c1:=p2} L1)) rfl ⟨L1,rfl,?_,?_⟩
 ·refine Fresh.imp (P:=fun v=>DvOwn v (w.heap.size+2) d L1) (Fresh.kp HFR.out ?_ (by omega) (by first|omega|(simp<;>omega))) (fun v hv=>hv.devIn.cops p1 p2);exact x17f
 exact bZ HB3
theorem devConfirm_calls(d:Dev)(L:DLoc)(w:World)(h:DevIn w d L):Calls Tryz.prog 16 #[.agg (devA d L)] w (DvRet w (devConfirm d).1 (devConfirm d).2):=by
 by_cases hz:devReady d=0
 ·exact devConfirm_ok d L w h hz
 have e:devConfirm d=(Dev.zero,devReady d):=by unfold devConfirm;rw[if_pos hz]
 rw[e];exact devConfirm_bad d L w h hz
theorem x0yl(h:Y:=by
 unfold Oper.wp execOp;simp only[e1];go_simp
 first|exact h|(rw[hs];exact h)):Y:=h
theorem wp_sb1c{b:Bool}(hx:a.tmps[x]?=some (.pointer (some ⟨g,j,none⟩)))
  (hr:rowOf w g=cs) (hj:j<cs.size) (hf:frOf w g=(0,0)) (h:K a (w.setRow g (cs.setIfInBounds j (.bool b)))):
  Oper.wp Tryz.prog ⟨none,.store 4 (.tmp x) (.const (.bool b)),t,p,af,gd⟩ a w K Q:=by
 have e1:a.eval (.tmp x)=.pointer (some ⟨g,j,none⟩):=by simp[Act.eval,hx]
 obtain⟨t1,hb⟩:=row_blk (w:=w) (g:=g) (by rw[hr];omega);rw[hr,hf]at hb;have hc:w.cell? ⟨g,j,none⟩=some cs[j]:=by rw[cell_of_row _ _ _ _ _ _ hb];simp[hj]
 have hz:w.frozen? ⟨g,j,none⟩=false:=frozen_of_row _ _ _ _ _ hb;have hs:=setCell_eq_setRow w g j cs t1 (0,0) (.bool b) hb;exact x0yl
theorem wp_si1c(hx:a.tmps[x]?=some (.pointer (some ⟨g,j,none⟩)))
  (hr:rowOf w g=cs) (hj:j<cs.size) (hf:frOf w g=(0,0)) (h:K a (w.setRow g (cs.setIfInBounds j (iv 0)))):
  Oper.wp Tryz.prog ⟨none,.store 3 (.tmp x) (.const (iv 0)),t,p,af,gd⟩ a w K Q:=by
 have e1:a.eval (.tmp x)=.pointer (some ⟨g,j,none⟩):=by simp[Act.eval,hx]
 obtain⟨t1,hb⟩:=row_blk (w:=w) (g:=g) (by rw[hr];omega);rw[hr,hf]at hb;have hc:w.cell? ⟨g,j,none⟩=some cs[j]:=by rw[cell_of_row _ _ _ _ _ _ hb];simp[hj]
 have hz:w.frozen? ⟨g,j,none⟩=false:=frozen_of_row _ _ _ _ _ hb;have hs:=setCell_eq_setRow w g j cs t1 (0,0) (iv 0) hb;exact x0yl
theorem wp_sn1c(hx:a.tmps[x]?=some (.pointer (some ⟨g,j,none⟩)))
  (hr:rowOf w g=cs) (hj:j<cs.size) (hf:frOf w g=(0,0)) (h:K a (w.setRow g (cs.setIfInBounds j (.slice none 0 0)))):
  Oper.wp Tryz.prog ⟨none,.store 32 (.tmp x) (.const (.slice none 0 0)),t,p,af,gd⟩ a w K Q:=by
 have e1:a.eval (.tmp x)=.pointer (some ⟨g,j,none⟩):=by simp[Act.eval,hx]
 obtain⟨t1,hb⟩:=row_blk (w:=w) (g:=g) (by rw[hr];omega);rw[hr,hf]at hb;have hc:w.cell? ⟨g,j,none⟩=some cs[j]:=by rw[cell_of_row _ _ _ _ _ _ hb];simp[hj]
 have hz:w.frozen? ⟨g,j,none⟩=false:=frozen_of_row _ _ _ _ _ hb;have hs:=setCell_eq_setRow w g j cs t1 (0,0) (.slice none 0 0) hb;exact x0yl
theorem DevIn.opened(h:DevIn w d L)(p q:Cop){j:Pat}(hj:PatIn w j A c):DevIn w {d with c0:=p,c1:=q,busy:=true,job:=j,done:=0,got:=[]} {L with aj:=A,cj:=c,ag:=none,cg:=0}:=
 ⟨h.k0,h.l0,h.b0,h.k1,h.l1,h.b1,nl,Nat.zero_le _,Chs.nil _ _,hj,h.ir,⟨by show -9223372036854775808<=(0:Int);omega,by show (0:Int)<=9223372036854775807;omega⟩⟩
theorem Fresh.and'{base:Nat}{P Q:World->Prop}(h:Fresh base w P)(g:Fresh base w Q):Fresh base w (fun v=>P v∧Q v):=fun v hv=>⟨h v hv,g v hv⟩
def opJ(w0:World)(g:Nat)(d:Dev)(L:DLoc)(p:Pat)(A:OA)(c:Nat):Nat->(Nat->Value)->World->Prop
 |0,_,w=>w=w0.drew
 |1,_,w=>w=w0.drew.setRow g (devA {d with busy:=true} L)
 |2,_,w=>w=w0.drew.setRow g (devA {d with busy:=true,job:=p} {L with aj:=A,cj:=c})
 |3,_,w=>w=w0.drew.setRow g (devA {d with busy:=true,job:=p,done:=0} {L with aj:=A,cj:=c})
 |_,_,w=>w=w0.drew.setRow g (devA {d with busy:=true,job:=p,done:=0,got:=[]} {L with aj:=A,cj:=c,ag:=none,cg:=0})
theorem opJ_row{w0:World}{q k:Nat}{p:Pat}{cv:Nat->Value}(hJ:opJ w0 g d L p A c k cv w)(hq:q≠g)(hr:rowOf w0 q=cs)(hf:frOf w0 q=(0,0))(hg:0<(rowOf w0 g).size):rowOf w q=cs∧frOf w q=(0,0):=by
 have key:∀new,w=w0.drew.setRow g new->rowOf w q=cs∧frOf w q=(0,0):=fun new e=>by
  subst e;rw[rowOf_setRow _ _ _ _ (by rw[rowOf_drew];exact hg),if_neg hq,frOf_setRow,rowOf_drew,frOf_drew];exact⟨hr,hf⟩
 match k,hJ with
 |0,hJ=>obtain rfl:w=w0.drew:=hJ;rw[rowOf_drew,frOf_drew];exact⟨hr,hf⟩
 |1,hJ=>exact key _ hJ
 |2,hJ=>exact key _ hJ
 |3,hJ=>exact key _ hJ
 |n+4,hJ=>exact key _ hJ
end Go.Proofs.YtefkfglkpebbmacGreat
