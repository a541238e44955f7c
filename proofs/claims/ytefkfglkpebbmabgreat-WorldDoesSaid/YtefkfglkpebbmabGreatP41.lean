/- Walks. No conditions. -/
import Derived.Test.YtefkfglkpebbmabGreatP40
set_option linter.all false
set_option maxRecDepth 100000
set_option maxHeartbeats 0
namespace Go.Proofs.YtefkfglkpebbmabGreat
open Go.RowKit
variable {Y:Prop}
variable {w0:World} {d:Dev}
theorem x1vw(h:Y:=by
 refine⟨.inl ⟨rfl,?_⟩,.inl ⟨rfl,?_⟩,.inl ⟨rfl,?_⟩,.inl ⟨rfl,?_⟩,.inl ⟨rfl,?_⟩,.inl ⟨rfl,?_⟩,.inl ⟨rfl,?_⟩,.inl ⟨rfl,?_⟩,.inl ⟨rfl,?_⟩,.inl ⟨rfl,?_⟩,.inl ⟨rfl,?_⟩,trivial⟩;all_goals intro done a wq hw h
 ·have e1:=cO 0 (.slice (some ⟨g,0,none⟩) l.length c1) h;exact ch_move (ch_ev e1)
 ·have e2:=cN 0 25 h hw;refine ch_pure ?_;go_simp
 ·have e1:=cN 1 26 h hw;have h1:=HL1.out;have h2:=HLN.out;refine ch_pure ?_;go_simp
 ·have e2:=cN 2 27 h hw;exact ch_move (ch_ev e2)
 ·have e1:=cO 0 (.slice (some ⟨g,0,none⟩) l.length c1) h;exact ch_move (ch_ev e1)
 ·have e2:=cN 4 29 h hw;have h1:=HL1.out;have h2:=HLN.out;refine ch_pure ?_;go_simp
 ·have e1:=cN 5 30 h hw;obtain⟨c0,c1_,c2,c3,c4⟩:=HQ.out wq (HD.out wq h.bel);refine ch_pure ?_;go_simp
 ·have e2:=cO 3 (.pointer (some ⟨g0,0,none⟩)) h;have y_:=keep1 h.bel R1 (by go_simp) F1;refine ch_pure ?_;go_simp
 ·have e1:=cN 6 31 h hw;have e32:=cN 7 32 h hw;exact ch_call (vals:=#[.agg (chkA q.from_ q.to_ q.n q.of_ D q.data.length dq),.agg (chkA x.from_ x.to_ x.n x.of_ B1 x.data.length d5)]) (by go_simp) (by go_simp) (by have:=kinY_calls D B1 dq d5 q x wq;rwa [HKN.out]at this)
 ·have e2:=cN 8 33 h hw;refine ch_pure ?_;go_simp
 ·have e1:=cN 3 28 h hw;have e34:=cN 9 34 h hw;exact ch_pick_t e1 (ch_ev e34)):Y:=h
theorem x3u4(h:Y:=by
 clear hO1 hv1 hvg1;go_wp2_with fail;refine HIN.out.mono ?_;rintro e w7 ⟨A',c',rfl,hown,hb1,hk1,hor1⟩;have hba1:=(bW wy).alloc nl (.cells (chkA x.from_ x.to_ x.n x.of_ B1 x.data.length d5) 61);have hG1:=(HG2.out.below hba1).ins (x:=x) (e:=(B1,d5)) (k:=l.length) (by omega) hown hb1 hk1 hor1 (HD3.out.stays hba1) hd1 (fun _ q e e2=>by have h5:=HBB.out q e;have h6:=HA1.out q e2;omega);have HG4:=qH hG1;have HB7:Hid (Below g0 w w7):=qH ((HB6.out.alloc (by omega) _).trans (hb1.mono (by omega)));clear hown hb1 hk1 hor1 hba1 hG1 HIN;go_wp2_with fail;go_ret2;rw[HZ.out];have hlen:(l.take l.length++x::l.drop l.length).length=l.length+1:=by rw[List.length_append,List.length_take,List.length_cons,List.length_drop];omega
 refine⟨A',c',_,by rw[hlen];rfl,HG4.out.mono (by rw[HGE.out];omega),(HN2.out.imp fun q hq=>by rw[HGE.out];omega).ins HG2.out.len (by omega) (fun q e=>by have:=HBB.out q e;rw[HGE.out];omega),HGE.out.symm▸HB7.out⟩):Y:=h
theorem chkAdd_calls(A B:OA)(c d:Nat)(l:List Chk)(x:Chk)(w:World)(hl:l.length<=2513169434843)(hs:Chs w A l)(hx:ChkIn w x B d):
  Calls Tryz.prog 132 #[.slice A l.length c,.agg (chkA x.from_ x.to_ x.n x.of_ B x.data.length d)] w (ChkRet2 w (chkAdd l x).1 (chkAdd l x).2):=by
 have HS:=qH hs;have HX:=qH hx;have K1:=qH (fun w h=>chkList_calls A c l w hl h);have K2:=qH (fun w=>chkCheckX_calls B d x w ⟨hx.i2,hx.i3⟩);have K3:=qH (fun w (hm:l.length<=1048000) h=>chkCopy_calls A c l w (by omega) h);have K4:=qH (fun w h=>cloneBytes_calls B x.data.length d (x.data.map bv) w (by simp) (by have:=hx.len;omega) h (bv_one _));have hba:=(bW w).alloc nl (.cells (chkA x.from_ x.to_ x.n x.of_ B x.data.length d) 61);have HBA:=qH hba;clear hs hx hba;by_cases he1:chkList l≠0
 ·have hz:=chkAdd_err1 (c:=x) he1;rw[hz];have q:(chkList l !=0)=true:=by simp[he1]
  generalize chkList l=e1 at *
  clear he1 hz;go_enter Tryz.func132,Tryz.ntmps132;go_wp2_with fail;refine(K1.out _ (HS.out.stays HBA.out)).mono ?_;rintro e w1 ⟨rfl,hb1⟩;have HB1:=bT HBA hb1;clear hb1;go_wp2_with fail;go_ret2;exact⟨none,0,[],rfl,GRow.nil _ _,Each.nil,HB1.out⟩
 have he1:=Decidable.not_not.1 he1;rw[he1]at K1;by_cases he2:chkCheck x≠0
 ·have hz:=chkAdd_err2 he1 he2;rw[hz];have q:(chkCheck x !=0)=true:=by simp[he2]
  generalize chkCheck x=e2 at *
  clear he1 he2 hz;go_enter Tryz.func132,Tryz.ntmps132;go_wp2_with fail;refine(K1.out _ (HS.out.stays HBA.out)).mono ?_;rintro e w1 ⟨rfl,hb1⟩;obtain⟨a0r,a0f,a0n,a0c,a0z,a0l⟩:=kp (w.heap.size) (chkA x.from_ x.to_ x.n x.of_ B x.data.length d) hb1;have HB1:=bT HBA hb1;clear hb1;go_wp2_with fail;refine(K2.out _).mono ?_;rintro e w2 ⟨rfl,hb1⟩;have HB2:=bT HB1 hb1;clear hb1;go_wp2_with fail;go_ret2;exact⟨none,0,[],rfl,GRow.nil _ _,Each.nil,HB2.out⟩
 have he2:=Decidable.not_not.1 he2;rw[he2]at K2;have hll:=chkList_len he1;have HE1:=qH he1;have HE2:=qH he2;clear he1 he2;obtain⟨r,hr⟩:=eX (chkAdd l x);rw[hr];have HR:=qH hr;clear hr;go_enter Tryz.func132,Tryz.ntmps132;go_wp2_with fail;refine(K1.out _ (HS.out.stays HBA.out)).mono ?_;rintro e w1 ⟨rfl,hb1⟩;obtain⟨a0r,a0f,a0n,a0c,a0z,a0l⟩:=kp (w.heap.size) (chkA x.from_ x.to_ x.n x.of_ B x.data.length d) hb1;have HB1:=bT HBA hb1;clear hb1;go_wp2_with fail;refine(K2.out _).mono ?_;rintro e w2 ⟨rfl,hb1⟩;have b1:=keep1 (g:=w.heap.size) (cs:=chkA x.from_ x.to_ x.n x.of_ B x.data.length d) hb1 a0r (by go_simp) a0f;have HB2:=bT HB1 hb1;clear hb1 a0r a0f a0n a0c a0z a0l;go_wp2_with fail;refine(K3.out _ (by omega) (HS.out.stays HB2.out)).mono ?_;rintro e w3 ⟨A1,c1,ds,rfl,hg1,hn1,hb1⟩;obtain⟨a0r,a0f,a0n,a0c,a0z,a0l⟩:=keep1 (g:=w.heap.size) (cs:=chkA x.from_ x.to_ x.n x.of_ B x.data.length d) hb1 b1.1 (by go_simp) b1.2.1;have HB3:=bT HB2 hb1;have HG1:=qH hg1;have HN1:=qH hn1;have hs1:=HB2.out.size;have hg2:w.heap.size<w2.heap.size:=b1.2.2.2.2.2;have hs2:=hb1.size;clear hb1 b1 hg1 hn1;go_wp2_with fail;refine(K4.out _ (HX.out.data.stays HB3.out).src).mono ?_;rintro e w4 ⟨B1,d5,rfl,ho1,hb1⟩;have b1:=keep1 (g:=w.heap.size) (cs:=chkA x.from_ x.to_ x.n x.of_ B x.data.length d) hb1 a0r (by go_simp) a0f;have HB4:=bT HB3 hb1;have HG2:=qH (HG1.out.below hb1);have hs3:=HB3.out.size;have hs4:w2.heap.size<=w4.heap.size:=Nat.le_trans hs2 hb1.size;have HO1:=qH ho1;clear hb1 a0r a0f a0n a0c a0z a0l ho1;go_wp2_with fail;have hG1:GRow kChk (w4.setCell ⟨w.heap.size,4,none⟩ (.slice B1 x.data.length d5)) w2.heap.size l ds A1 c1:=HG2.out.setOther (fun e=>by have:=(HG2.out.row.block _ e).1;omega) (HN1.out.imp fun k hk=>by omega) _;have hD1:Bts (w4.setCell ⟨w.heap.size,4,none⟩ (.slice B1 x.data.length d5)) B1 x.data:=(HO1.out.setCell_other (p:=⟨w.heap.size,4,none⟩) (fun e=>by have:=(HO1.out.block _ e).1;have h2:w.heap.size=w.heap.size:=rfl;simp only at this;omega) _).src.bts;have hs25':w2.heap.size<=(w4.setCell ⟨w.heap.size,4,none⟩ (.slice B1 x.data.length d5)).heap.size:=by simpa using hs4
 have hb1:Below w.heap.size w (w4.setCell ⟨w.heap.size,4,none⟩ (.slice B1 x.data.length d5)):=HB4.out.setCell (p:=⟨w.heap.size,4,none⟩) nl _;have R1:rowOf (w4.setCell ⟨w.heap.size,4,none⟩ (.slice B1 x.data.length d5)) w.heap.size=chkA x.from_ x.to_ x.n x.of_ B1 x.data.length d5:=by rw[rowOf_setCell,if_pos rfl,b1.1,chkA_set4]
 have F1:frOf (w4.setCell ⟨w.heap.size,4,none⟩ (.slice B1 x.data.length d5)) w.heap.size=(0,0):=by rw[frOf_setCell,b1.2.1]
 have hB5b:∀k,B1.map (·.block)=some k->w3.heap.size<=k:=fun k e=>(HO1.out.block k e).1;have hd1:x.data.length<=d5:=HO1.out.le;have HA1:Hid (∀k,A1.map (·.block)=some k->k<w3.heap.size):=qH (fun k e=>(HG1.out.row.block k e).2);have HBL:Hid (∀k,B1.map (·.block)=some k->k<(w4.setCell ⟨w.heap.size,4,none⟩ (.slice B1 x.data.length d5)).heap.size):=qH (fun k e=>by simpa using (HO1.out.block k e).2);have HG3:=qH hG1;have HD1:=qH hD1;have HB5:=qH hb1;have HR1:=qH (And.intro R1 F1);have HBB:=qH hB5b;have HN2:=HN1;clear hG1 hD1 hb1 R1 F1 hB5b b1 HG2 HO1 HB4 HG1 HN1;generalize w4.setCell ⟨w.heap.size,4,none⟩ (.slice B1 x.data.length d5)=w5 at *
 generalize hg0e:w.heap.size=g0 at *
 have HGE:=qH hg0e;clear hg0e;have HD:Hid (∀wq,Below w5.drew.heap.size w5.drew wq->Below w5.heap.size w5 wq):=qH (fun wq h=>(bW w5).drew.trans h);have R1:rowOf w5.drew g0=chkA x.from_ x.to_ x.n x.of_ B1 x.data.length d5:=HR1.out.1;have F1:frOf w5.drew g0=(0,0):=HR1.out.2;have hs5:=HB5.out.size;by_cases hl1:l.length=0
 ·have HL1:=qH hl1;have HKN1:Hid (∀y,l[0]?=some y->kin y x):=qH (fun y h=>by rw[List.getElem?_eq_none (by omega)]at h;cases h);clear hl1;refine wC (some 25::some 26::some 27::some 28::some 29::some 30::some 31::some 32::some 33::some 34::some 35::[]) (.slice A1 l.length c1::iv (l.length:Int)::.bool false::.bool false::undef::undef::undef::undef::undef::undef::.bool false::[]) 74 ?_ ?_
  ·refine⟨.inl ⟨rfl,?_⟩,.inl ⟨rfl,?_⟩,.inl ⟨rfl,?_⟩,.inl ⟨rfl,?_⟩,.inr ⟨rfl,rfl⟩,.inr ⟨rfl,rfl⟩,.inr ⟨rfl,rfl⟩,.inr ⟨rfl,rfl⟩,.inr ⟨rfl,rfl⟩,.inr ⟨rfl,rfl⟩,.inl ⟨rfl,?_⟩,trivial⟩;all_goals intro done a wq hw h
   ·have e1:=cO 0 (.slice A1 l.length c1) h;exact ch_move (ch_ev e1)
   ·have e2:=cN 0 25 h hw;refine ch_pure ?_;go_simp
   ·have e1:=cN 1 26 h hw;have h1:=HL1.out;refine ch_pure ?_;go_simp
   ·have e2:=cN 2 27 h hw;exact ch_move (ch_ev e2)
   ·have e1:=cN 3 28 h hw;exact ch_pick_f e1 rfl
  intro w6 hb1;simp only[pA];obtain⟨a0r,a0f,a0n,a0c,a0z,a0l⟩:=keep1 (g:=g0) (cs:=chkA x.from_ x.to_ x.n x.of_ B1 x.data.length d5) hb1 R1 (by go_simp) F1;have HB4:Hid (Below g0 w w6):=qH (HB5.out.trans (hb1.mono (by omega)));have HG1:=qH (HG3.out.below hb1);have HD2:=qH (HD1.out.stays hb1);have hs6:=hb1.size;have HRF:=qH (And.intro a0r a0f);clear hb1 R1 F1 a0r a0f a0n a0c a0z;go_wp2_with fail;go_loopw [8] (fun i wr=>∃k:Nat,k<=l.length∧i=iv k∧Hid (∀(j:Nat) (h:j<l.length),j<k->l[j].n<x.n)∧Hid (Below w6.heap.size w6 wr)) (fun i _=>l.length-(intOf i).toNat)
  case atStart=>exact⟨0,Nat.zero_le _,rfl,qH (fun j h hj=>by omega),qH (Below.refl _ _)⟩
  case round=>
   rename World=>wr;obtain⟨k,hk,rfl,HLT,HBR⟩:=hrel;have b1:=keep1 (g:=g0) (cs:=chkA x.from_ x.to_ x.n x.of_ B1 x.data.length d5) HBR.out HRF.out.1 (by go_simp) HRF.out.2;have HGR:=qH (HG1.out.below HBR.out);have HDR:=qH (HD2.out.stays HBR.out);have HBW:Hid (Below g0 w wr):=qH (HB4.out.trans (HBR.out.mono (by omega)));have hsr:=HBR.out.size;by_cases hlt:k<l.length
   ·exfalso;have:=HL1.out;omega
   obtain rfl:k=l.length:=by omega
   have dl:decide ((l.length:Int)<(l.length:Int))=false:=by simp
   have hz:=(chkAdd_is HE1.out HE2.out HKN1.out nl (fun j h hj=>HLT.out j h hj) (fun h=>absurd h (Nat.lt_irrefl _))).2 (fun h=>absurd h (Nat.lt_irrefl _));rw[HR.out]at hz;have HZ:=qH hz;clear hz;go_wp2_with fail;go_quiet (fail)
   go_wp2_with fail;obtain⟨wx,hwx⟩:=eX (wr.drewN nq);rw[hwx];have hbx:Below wr.heap.size wr wx:=hwx▸below_drewN wr nq;have HGR:=qH (HGR.out.below hbx);have HDR:=qH (HDR.out.stays hbx);have HBW:Hid (Below g0 w wx):=qH (HBW.out.trans (hbx.mono (by omega)));have hsr:=Nat.le_trans hsr hbx.size;have b1:=keep1 (g:=g0) (cs:=chkA x.from_ x.to_ x.n x.of_ B1 x.data.length d5) hbx b1.1 (by go_simp) b1.2.1;clear hwx hbx;go_quiet (fail)
   obtain⟨wy,hwx⟩:=eX (wx.drewN nq);rw[hwx];have hbx:Below wx.heap.size wx wy:=hwx▸below_drewN wx nq;have HGR:=qH (HGR.out.below hbx);have HDR:=qH (HDR.out.stays hbx);have HBW:Hid (Below g0 w wy):=qH (HBW.out.trans (hbx.mono (by omega)));have hsr:=Nat.le_trans hsr hbx.size;have b1:=keep1 (g:=g0) (cs:=chkA x.from_ x.to_ x.n x.of_ B1 x.data.length d5) hbx b1.1 (by go_simp) b1.2.1;clear hwx hbx;have HG2:=HGR;have HD3:=HDR;have HB6:=HBW;have hO1:=HG2.out.row.alloc (.cells (chkA x.from_ x.to_ x.n x.of_ B1 x.data.length d5) 61);have hv1:(wy.alloc (.cells (chkA x.from_ x.to_ x.n x.of_ B1 x.data.length d5) 61)).heap[wy.heap.size]?=some (.cells (kChk.cell x (B1,d5)).toArray 61 (0,0)):=blk_top rfl;have hvg1:A1.map (·.block)≠some wy.heap.size:=fun e=>by have:=(HG2.out.row.block _ e).2;omega
   have hbs1:w2.heap.size<=(wy.alloc (.cells (chkA x.from_ x.to_ x.n x.of_ B1 x.data.length d5) 61)).heap.size:=by simp;omega
   have HIN:=qH (insChunks_calls A1 l.length c1 l.length (kChk.cells l ds) wy.heap.size (kChk.cell x (B1,d5)) 61 _ w2.heap.size hO1 rfl hv1 hvg1 (kChk.one _ _) (cells_oneCell _ _) hbs1 (by omega) (by omega));exact x3u4
 have hlp:0<l.length:=by omega
 obtain⟨g,rfl,hgb,hgl⟩:=HG3.out.row.form hlp;obtain⟨q,hq⟩:∃q,l[0]?=some q:=⟨_,List.getElem?_eq_getElem hlp⟩;obtain⟨D,dq,hat⟩:=HG3.out.chkAt hq;rw[Nat.zero_mul]at hat;have HQ:Hid (∀wq,Below w5.heap.size w5 wq->ChkAt wq g 0 q D dq):=qH (fun wq h=>hat.stays hgl h);have HL1:Hid (0<l.length):=qH hlp;have HLN:Hid (¬l=[]):=qH (fun e=>by rw[e]at hlp;simp at hlp);have HQE:=qH hq;clear hl1 hat hq;by_cases hkn:kin q x
 ·have HKN:Hid (decide (kin q x)=true):=qH (decide_eq_true hkn);have HKN1:Hid (∀y,l[0]?=some y->kin y x):=qH (fun y h=>by rw[HQE.out]at h;injection h with h;subst h;exact hkn);clear hkn;refine wC (some 25::some 26::some 27::some 28::some 29::some 30::some 31::some 32::some 33::some 34::some 35::[]) (.slice (some ⟨g,0,none⟩) l.length c1::iv (l.length:Int)::.bool true::.bool true::.slice (some ⟨g,0,none⟩) l.length c1::.pointer (some ⟨g,0,none⟩)::.agg (chkA q.from_ q.to_ q.n q.of_ D q.data.length dq)::.agg (chkA x.from_ x.to_ x.n x.of_ B1 x.data.length d5)::.bool true::.bool false::.bool false::[]) 74 ?_ ?_
  ·exact x1vw
  intro w6 hb1;simp only[pA];obtain⟨a0r,a0f,a0n,a0c,a0z,a0l⟩:=keep1 (g:=g0) (cs:=chkA x.from_ x.to_ x.n x.of_ B1 x.data.length d5) hb1 R1 (by go_simp) F1;have HB4:Hid (Below g0 w w6):=qH (HB5.out.trans (hb1.mono (by omega)));have HG1:=qH (HG3.out.below hb1);have HD2:=qH (HD1.out.stays hb1);have hs6:=hb1.size;have HRF:=qH (And.intro a0r a0f);clear hb1 R1 F1 a0r a0f a0n a0c a0z;go_wp2_with fail;go_loopw [8] (fun i wr=>∃k:Nat,k<=l.length∧i=iv k∧Hid (∀(j:Nat) (h:j<l.length),j<k->l[j].n<x.n)∧Hid (Below w6.heap.size w6 wr)) (fun i _=>l.length-(intOf i).toNat)
  case atStart=>exact⟨0,Nat.zero_le _,rfl,qH (fun j h hj=>by omega),qH (Below.refl _ _)⟩
  case round=>
   rename World=>wr;obtain⟨k,hk,rfl,HLT,HBR⟩:=hrel;have b1:=keep1 (g:=g0) (cs:=chkA x.from_ x.to_ x.n x.of_ B1 x.data.length d5) HBR.out HRF.out.1 (by go_simp) HRF.out.2;have HGR:=qH (HG1.out.below HBR.out);have HDR:=qH (HD2.out.stays HBR.out);have HBW:Hid (Below g0 w wr):=qH (HB4.out.trans (HBR.out.mono (by omega)));have hsr:=HBR.out.size;by_cases hlt:k<l.length
   ·obtain⟨D1,d1,hat⟩:=HGR.out.chkAt (List.getElem?_eq_getElem hlt);have hgr:g<wr.heap.size:=(HGR.out.row.block g rfl).2;obtain⟨y,hy⟩:=eX (l[k]);rw[hy]at hat;have HAT:=qH hat;have HY:=qH hy;obtain⟨c5,c1_,c2,c3,c4⟩:=hat;have dl:decide ((k:Int)<(l.length:Int))=true:=decide_eq_true (by omega);have nb:¬(l.length:Int)<=(k:Int):=by omega
    have hwk:IntKind.i64.wrap ((k:Int)+1)=(k:Int)+1:=IntWalk.i64_in _ (by omega);clear hy;by_cases hn:y.n<x.n
    ·have HN:=qH hn;go_wp2_with fail;go_quiet (fail)
     go_wp2_with fail;go_roundw
     case rel=>exact⟨k+1,by omega,by go_num,qH (fun j h hj=>by
      rcases Nat.lt_or_ge j k with h1|h1
      ·exact HLT.out j h h1
      have e:j=k:=by omega
      subst e;rw[HY.out];exact HN.out),qH (Below.drewN' HBR.out _)⟩
     case measure=>simp[intOf];omega
    have his:=chkAdd_is HE1.out HE2.out HKN1.out hk (fun j h hj=>HLT.out j h hj) (fun h=>by rw[HY.out];exact hn);by_cases he:y.n=x.n
    first|case' inl=>have T14:Hid True:=qH trivial|case' pos=>have T14:Hid True:=qH trivial|case' refine_1=>have T14:Hid True:=qH trivial
    iterate 2
     ·first
       |
        revert T14;intro T14;have hz:=his.1 hlt (by rw[HY.out];exact he)
       |have hz:=his.2 (fun h=>by rw[HY.out];exact he)
      rw[HR.out]at hz;have HZ:=qH hz
      first
       |
        revert T14;intro T14;have de:(y.n==x.n)=true:=by simp[he]
       |have de:(y.n==x.n)=false:=by simp[he]
      clear hz his he;go_wp2_with fail;go_quiet (fail)
      go_wp2_with fail;obtain⟨wx,hwx⟩:=eX (wr.drewN nq);rw[hwx];have hbx:Below wr.heap.size wr wx:=hwx▸below_drewN wr nq;have hat2:=HAT.out.stays hgr hbx;have HAT:=qH hat2;have hgr:g<wx.heap.size:=Nat.lt_of_lt_of_le hgr hbx.size;have HGR:=qH (HGR.out.below hbx);have HDR:=qH (HDR.out.stays hbx);have HBW:Hid (Below g0 w wx):=qH (HBW.out.trans (hbx.mono (by omega)));have hsr:=Nat.le_trans hsr hbx.size;have b1:=keep1 (g:=g0) (cs:=chkA x.from_ x.to_ x.n x.of_ B1 x.data.length d5) hbx b1.1 (by go_simp) b1.2.1;clear hwx hbx;obtain⟨c5,c1_,c2,c3,c4⟩:=hat2;go_quiet (fail)
      obtain⟨wy,hwx⟩:=eX (wx.drewN nq);rw[hwx];have hbx:Below wx.heap.size wx wy:=hwx▸below_drewN wx nq;have hat2:=HAT.out.stays hgr hbx;have HAT:=qH hat2;have hgr:g<wy.heap.size:=Nat.lt_of_lt_of_le hgr hbx.size;have HGR:=qH (HGR.out.below hbx);have HDR:=qH (HDR.out.stays hbx);have HBW:Hid (Below g0 w wy):=qH (HBW.out.trans (hbx.mono (by omega)));have hsr:=Nat.le_trans hsr hbx.size;have b1:=keep1 (g:=g0) (cs:=chkA x.from_ x.to_ x.n x.of_ B1 x.data.length d5) hbx b1.1 (by go_simp) b1.2.1;clear hwx hbx;clear hat2
      first
       |revert T14;intro T14
       |
        have HG7:=HGR;have HD7:=HDR;have HB7:=HBW;have hO7:=HG7.out.row.alloc (.cells (chkA x.from_ x.to_ x.n x.of_ B1 x.data.length d5) 61);have hv7:(wy.alloc (.cells (chkA x.from_ x.to_ x.n x.of_ B1 x.data.length d5) 61)).heap[wy.heap.size]?=some (.cells (kChk.cell x (B1,d5)).toArray 61 (0,0)):=blk_top rfl;have hvg7:(some (⟨g,0,none⟩:Addr)).map (·.block)≠some wy.heap.size:=fun e=>by have:=(HG7.out.row.block _ e).2;omega
        have hbs7:w2.heap.size<=(wy.alloc (.cells (chkA x.from_ x.to_ x.n x.of_ B1 x.data.length d5) 61)).heap.size:=by simp;omega
        have HIN:=qH (insChunks_calls (some ⟨g,0,none⟩) l.length c1 k (kChk.cells l ds) wy.heap.size (kChk.cell x (B1,d5)) 61 _ w2.heap.size hO7 rfl hv7 hvg7 (kChk.one _ _) (cells_oneCell _ _) hbs7 (by omega) (by omega));clear hO7 hv7 hvg7;go_wp2_with fail;refine HIN.out.mono ?_;rintro e w9 ⟨A',c',rfl,hown,hb9,hk9,hor9⟩;have hba7:=(bW wy).alloc nl (.cells (chkA x.from_ x.to_ x.n x.of_ B1 x.data.length d5) 61);have hG9:=(HG7.out.below hba7).ins (x:=x) (e:=(B1,d5)) (k:=k) (by omega) hown hb9 hk9 hor9 (HD7.out.stays hba7) hd1 (fun _ q e e2=>by have h5:=HBB.out q e;have h6:=HA1.out q e2;omega);have HG9:=qH hG9;have HB9:Hid (Below g0 w w9):=qH ((HB7.out.alloc (by omega) _).trans (hb9.mono (by omega)));clear hown hb9 hk9 hor9 hba7 hG9 HIN
      go_wp2_with fail;go_ret2;rw[HZ.out]
      first
       |
        revert T14;intro T14;exact⟨_,_,ds,rfl,HGR.out.mono (by rw[HGE.out];omega),HN2.out.imp fun q hq=>by rw[HGE.out];omega,HGE.out.symm▸HBW.out⟩
       |
        have hlen:(l.take k++x::l.drop k).length=l.length+1:=by rw[List.length_append,List.length_take,List.length_cons,List.length_drop];omega
        refine⟨A',c',_,by rw[hlen];rfl,HG9.out.mono (by rw[HGE.out];omega),(HN2.out.imp fun q hq=>by rw[HGE.out];omega).ins HG7.out.len (by omega) (fun q e=>by have:=HBB.out q e;rw[HGE.out];omega),HGE.out.symm▸HB9.out⟩
   obtain rfl:k=l.length:=by omega
   have dl:decide ((l.length:Int)<(l.length:Int))=false:=by simp
   have hz:=(chkAdd_is HE1.out HE2.out HKN1.out nl (fun j h hj=>HLT.out j h hj) (fun h=>absurd h (Nat.lt_irrefl _))).2 (fun h=>absurd h (Nat.lt_irrefl _));rw[HR.out]at hz;have HZ:=qH hz;clear hz;go_wp2_with fail;go_quiet (fail)
   go_wp2_with fail;obtain⟨wx,hwx⟩:=eX (wr.drewN nq);rw[hwx];have hbx:Below wr.heap.size wr wx:=hwx▸below_drewN wr nq;have HGR:=qH (HGR.out.below hbx);have HDR:=qH (HDR.out.stays hbx);have HBW:Hid (Below g0 w wx):=qH (HBW.out.trans (hbx.mono (by omega)));have hsr:=Nat.le_trans hsr hbx.size;have b1:=keep1 (g:=g0) (cs:=chkA x.from_ x.to_ x.n x.of_ B1 x.data.length d5) hbx b1.1 (by go_simp) b1.2.1;clear hwx hbx;go_quiet (fail)
   obtain⟨wy,hwx⟩:=eX (wx.drewN nq);rw[hwx];have hbx:Below wx.heap.size wx wy:=hwx▸below_drewN wx nq;have HGR:=qH (HGR.out.below hbx);have HDR:=qH (HDR.out.stays hbx);have HBW:Hid (Below g0 w wy):=qH (HBW.out.trans (hbx.mono (by omega)));have hsr:=Nat.le_trans hsr hbx.size;have b1:=keep1 (g:=g0) (cs:=chkA x.from_ x.to_ x.n x.of_ B1 x.data.length d5) hbx b1.1 (by go_simp) b1.2.1;clear hwx hbx;have HG2:=HGR;have HD3:=HDR;have HB6:=HBW;have hO1:=HG2.out.row.alloc (.cells (chkA x.from_ x.to_ x.n x.of_ B1 x.data.length d5) 61);have hv1:(wy.alloc (.cells (chkA x.from_ x.to_ x.n x.of_ B1 x.data.length d5) 61)).heap[wy.heap.size]?=some (.cells (kChk.cell x (B1,d5)).toArray 61 (0,0)):=blk_top rfl;have hvg1:(some (⟨g,0,none⟩:Addr)).map (·.block)≠some wy.heap.size:=fun e=>by have:=(HG2.out.row.block _ e).2;omega
   have hbs1:w2.heap.size<=(wy.alloc (.cells (chkA x.from_ x.to_ x.n x.of_ B1 x.data.length d5) 61)).heap.size:=by simp;omega
   have HIN:=qH (insChunks_calls (some ⟨g,0,none⟩) l.length c1 l.length (kChk.cells l ds) wy.heap.size (kChk.cell x (B1,d5)) 61 _ w2.heap.size hO1 rfl hv1 hvg1 (kChk.one _ _) (cells_oneCell _ _) hbs1 (by omega) (by omega));exact x3u4
 have HKN:Hid (decide (kin q x)=false):=qH (decide_eq_false hkn);have hz:=chkAdd_other HE1.out HE2.out HQE.out hkn;rw[HR.out]at hz;have HZ:=qH hz;clear hkn hz;refine wC (some 25::some 26::some 27::some 28::some 29::some 30::some 31::some 32::some 33::some 34::some 35::[]) (.slice (some ⟨g,0,none⟩) l.length c1::iv (l.length:Int)::.bool true::.bool true::.slice (some ⟨g,0,none⟩) l.length c1::.pointer (some ⟨g,0,none⟩)::.agg (chkA q.from_ q.to_ q.n q.of_ D q.data.length dq)::.agg (chkA x.from_ x.to_ x.n x.of_ B1 x.data.length d5)::.bool false::.bool true::.bool true::[]) 74 ?_ ?_
 ·exact x1vw
 intro w6 hb1;simp only[pA];obtain⟨a0r,a0f,a0n,a0c,a0z,a0l⟩:=keep1 (g:=g0) (cs:=chkA x.from_ x.to_ x.n x.of_ B1 x.data.length d5) hb1 R1 (by go_simp) F1;have HB4:Hid (Below g0 w w6):=qH (HB5.out.trans (hb1.mono (by omega)));have HD2:=qH (HD1.out.stays hb1);have hs6:=hb1.size;clear hb1 R1 F1;go_wp2_with fail;go_ret2;rw[HZ.out];refine⟨_,_,[(B1,d5)],rfl,grow_one (blk_top rfl) (by rw[HGE.out];omega) (HD2.out.stays (bL _)) hd1 (fun k e=>?_),each_one (fun k e=>by have:=HBB.out k e;rw[HGE.out];omega),(HGE.out.symm▸HB4.out.alloc (by omega) _)⟩;have:=HBL.out k e;omega
theorem x5ed(h:Y:=by
 have hk:=hn 10 _ 3 rfl rfl (by decide);obtain⟨hr,hf⟩:=dcJ_row hk HR.out HF.out hJ;have hc:=cell_row (w:=wq) (g:=g) (by rw[hr];simp[devA]);go_simp):Y:=h
theorem x81i(h:Y:=by
 have hk:=hn 7 _ 2 rfl rfl (by decide);obtain⟨hr,hf⟩:=dcK_row hk HR1.out HF1.out HG1.out hJ;have hc:=cell_row (w:=wq) (g:=g) (by rw[hr];simp[devA]);go_simp):Y:=h
def dcJ(w0:World)(g:Nat)(d:Dev)(L:DLoc):Nat->(Nat->Value)->World->Prop
 |0,_,w=>w=w0.drew
 |1,cv,w=>∃A5 c5,cv 3=.slice A5 d.s0.length c5∧Own w w0.heap.size 5 1 A5 d.s0.length c5 (d.s0.map bv)∧Below w0.heap.size w0 w
 |2,cv,w=>∃A5 c5 w1 A6 c6,cv 3=.slice A5 d.s0.length c5∧Own w1 w0.heap.size 5 1 A5 d.s0.length c5 (d.s0.map bv)∧Below w0.heap.size w0 w1∧cv 7=.slice A6 d.s1.length c6∧Own w w1.heap.size 5 1 A6 d.s1.length c6 (d.s1.map bv)∧Below w1.heap.size w1 w
 |3,cv,w=>∃A5 c5 w1 A6 c6,cv 8=.agg (slotsA A5 d.s0.length c5 A6 d.s1.length c6)∧Own w1 w0.heap.size 5 1 A5 d.s0.length c5 (d.s0.map bv)∧Below w0.heap.size w0 w1∧Own w w1.heap.size 5 1 A6 d.s1.length c6 (d.s1.map bv)∧Below w1.heap.size w1 w
 |_,_,w=>∃A5 c5 w1 A6 c6 w2,Own w1 w0.heap.size 5 1 A5 d.s0.length c5 (d.s0.map bv)∧Below w0.heap.size w0 w1∧Own w2 w1.heap.size 5 1 A6 d.s1.length c6 (d.s1.map bv)∧Below w1.heap.size w1 w2∧w=w2.setRow g (devA d {L with a0:=A5,c0:=c5,a1:=A6,c1:=c6})
theorem dcJ_row{w:World}{g k:Nat}{L:DLoc}{cv:Nat->Value}(hk:k<=3)(hr:rowOf w0 g=devA d L)(hf:frOf w0 g=(0,0))(hJ:dcJ w0 g d L k cv w):rowOf w g=devA d L∧frOf w g=(0,0):=by
 have hg:g<w0.heap.size:=row_lt (w:=w0) (by rw[hr];simp[devA]);have key:Below w0.heap.size w0 w->rowOf w g=devA d L∧frOf w g=(0,0):=fun hb=>⟨(rowOf_below hg hb).trans hr,(frOf_below hg hb).trans hf⟩
 match k,hk,hJ with
 |0,_,hJ=>obtain rfl:w=w0.drew:=hJ;exact key (Below.refl _ _).drew
 |1,_,⟨_,_,_,_,h⟩=>exact key h
 |2,_,⟨_,_,w1,_,_,_,_,h,_,_,h2⟩=>exact key (h.trans (h2.mono h.size))
 |3,_,⟨_,_,w1,_,_,_,_,h,_,h2⟩=>exact key (h.trans (h2.mono h.size))
def dcK(w0:World)(g:Nat)(d:Dev)(L:DLoc):Nat->(Nat->Value)->World->Prop
 |0,_,w=>w=w0.drew
 |1,cv,w=>∃A5 c5 ds,cv 2=.slice A5 d.got.length c5∧GRow kChk w w0.heap.size d.got ds A5 c5∧Each kChk d.got ds (fun k=>w0.heap.size<=k)∧Below w0.heap.size w0 w
 |2,cv,w=>∃A5 c5 ds w4 A6 c6,cv 2=.slice A5 d.got.length c5∧cv 5=.agg (patA d.job.from_ d.job.to_ d.job.old d.job.new_ d.job.size A6 d.job.ops.length c6)∧GRow kChk w4 w0.heap.size d.got ds A5 c5∧Each kChk d.got ds (fun k=>w0.heap.size<=k)∧Below w0.heap.size w0 w4∧
  Fresh w4.heap.size w (fun v=>PatIn v d.job A6 c6)∧Below w4.heap.size w4 w
 |3,cv,w=>∃A5 c5 ds w4 A6 c6 w5,cv 5=.agg (patA d.job.from_ d.job.to_ d.job.old d.job.new_ d.job.size A6 d.job.ops.length c6)∧GRow kChk w4 w0.heap.size d.got ds A5 c5∧Each kChk d.got ds (fun k=>w0.heap.size<=k)∧Below w0.heap.size w0 w4∧
  Fresh w4.heap.size w5 (fun v=>PatIn v d.job A6 c6)∧Below w4.heap.size w4 w5∧w=w5.setRow g (devA d {L with ag:=A5,cg:=c5})
 |_,_,w=>∃A5 c5 ds w4 A6 c6 w5,GRow kChk w4 w0.heap.size d.got ds A5 c5∧Each kChk d.got ds (fun k=>w0.heap.size<=k)∧Below w0.heap.size w0 w4∧
  Fresh w4.heap.size w5 (fun v=>PatIn v d.job A6 c6)∧Below w4.heap.size w4 w5∧w=w5.setRow g (devA d {L with ag:=A5,cg:=c5,aj:=A6,cj:=c6})
theorem dcK_row{w:World}{g k:Nat}{L:DLoc}{cv:Nat->Value}(hk:k<=2)(hr:rowOf w0 g=devA d L)(hf:frOf w0 g=(0,0))(hg:g<w0.heap.size)(hJ:dcK w0 g d L k cv w):rowOf w g=devA d L∧frOf w g=(0,0):=by
 have key:Below w0.heap.size w0 w->rowOf w g=devA d L∧frOf w g=(0,0):=fun hb=>⟨(rowOf_below hg hb).trans hr,(frOf_below hg hb).trans hf⟩
 match k,hk,hJ with
 |0,_,hJ=>obtain rfl:w=w0.drew:=hJ;exact key (Below.refl _ _).drew
 |1,_,⟨_,_,_,_,_,_,h⟩=>exact key h
 |2,_,⟨_,_,_,w1,_,_,_,_,_,_,h,_,h2⟩=>exact key (h.trans (h2.mono h.size))
theorem dcEnd{w1 w3 w4 w5 w':World}{L2:DLoc}{A5 A6 A7 A8:OA}{c5 c6 c7 c8:Nat}{ds:List (Option Addr×Nat)}(HIN:DevIn w0 d L2∨True)
  (hl:d.s0.length<=140737488351232∧d.s1.length<=140737488351232∧d.got.length<=2513169434843) (hi:I64 d.running∧I64 d.done) (hbd:∀x∈d.got,ChkB x)
  (h0:Own w3 w0.heap.size 5 1 A5 d.s0.length c5 (d.s0.map bv)) (h1:Own w3 w1.heap.size 5 1 A6 d.s1.length c6 (d.s1.map bv))
  (hbk:(∀k,A5.map (·.block)=some k->k<w1.heap.size)∧(∀k,A6.map (·.block)=some k->k<w3.heap.size)∧w0.heap.size<=w1.heap.size∧w1.heap.size<=w3.heap.size)
  (hg:Fresh w3.heap.size w4 (fun v=>GRow kChk v w3.heap.size d.got ds A7 c7)) (hf:Fresh w4.heap.size w5 (fun v=>PatIn v d.job A8 c8)) (b4:Below w3.heap.size w3 w4) (b5:Below w4.heap.size w4 w5) (hc:d.got.length<=c7)
  (he:L2.a0=A5∧L2.c0=c5∧L2.a1=A6∧L2.c1=c6) (hw:∀k,w0.heap.size<=k->w'.heap[k]?=w5.heap[k]?):DvOwn w' w0.heap.size d {L2 with ag:=A7,cg:=c7,aj:=A8,cj:=c8}:=by
 obtain⟨e1,e2,e3,e4⟩:=he;have s1:=b4.size;have hk:∀k,w0.heap.size<=k->k<w3.heap.size->w'.heap[k]?=w3.heap[k]?:=fun k h1 h2=>(hw k h1).trans (((b5.block k (by omega))).trans (b4.block k h2));refine⟨w1.heap.size,w3.heap.size,hbk.2.2.1,hbk.2.2.2,?_,?_,?_,?_,?_,?_,hl.1,hl.2.1,hc,hl.2.2,hi.1,hi.2⟩
 ·show Own w' _ _ _ L2.a0 _ L2.c0 _;rw[e1,e2];exact own_fresh h0 hk
 ·show ∀k,L2.a0.map (·.block)=some k->_;rw[e1];exact hbk.1
 ·show Own w' _ _ _ L2.a1 _ L2.c1 _;rw[e3,e4];exact own_fresh h1 (fun k h=>hk k (by have:=hbk.2.2.1;omega))
 ·show ∀k,L2.a1.map (·.block)=some k->_;rw[e3];exact hbk.2.1
 ·have g1:Fresh w3.heap.size w5 (fun v=>GRow kChk v w3.heap.size d.got ds A7 c7):=hg.below b5 nl;exact(g1.fresh (fun k h1 h2=>hw k (by have:=hbk.2.2;omega))).imp fun v hv=>hv.src.chs hbd
 exact(hf.mono s1).fresh (fun k h1 h2=>hw k (by have:=hbk.2.2;omega))
@[go_sem] theorem build_slots(a:OA)(k c:Nat)(b:OA)(m e:Nat)(w:World):runBuild Tryz.prog 24 #[(0,.slice a k c),(1,.slice b m e)] w=.ok (.agg (slotsA a k c b m e)) w:=by kernel_rfl
theorem devCopy_calls(d:Dev)(L:DLoc)(w:World)(h:DevIn w d L):Calls Tryz.prog 53 #[.agg (devA d L)] w (DcRet w d):=by
 have HI:=qH h;have HL:Hid (d.s0.length<=140737488351232∧d.s1.length<=140737488351232∧d.got.length<=2513169434843):=qH ⟨h.l0,h.l1,h.lg⟩;have HI1:Hid (I64 d.running∧I64 d.done):=qH ⟨h.ir,h.id⟩;have HBD:Hid (∀x∈d.got,ChkB x):=qH h.got.bound;clear h;go_enter Tryz.func53,Tryz.ntmps53;go_wp2_with fail;have q1:rowOf ((w.alloc (.cells (devA d L) 38)).alloc (.cells (devA Dev.zero DLoc.zero) 38)) w.heap.size=devA d L:=by go_simp
 have q2:frOf ((w.alloc (.cells (devA d L) 38)).alloc (.cells (devA Dev.zero DLoc.zero) 38)) w.heap.size=(0,0):=by go_simp
 have q3:rowOf ((w.alloc (.cells (devA d L) 38)).alloc (.cells (devA Dev.zero DLoc.zero) 38)) (w.heap.size+1)=devA Dev.zero DLoc.zero:=by go_simp
 have q4:frOf ((w.alloc (.cells (devA d L) 38)).alloc (.cells (devA Dev.zero DLoc.zero) 38)) (w.heap.size+1)=(0,0):=by go_simp
 obtain⟨w7,hw1⟩:=eX ((w.alloc (.cells (devA d L) 38)).alloc (.cells (devA Dev.zero DLoc.zero) 38));have HB1:Hid (Below w.heap.size w w7):=qH (by rw[<-hw1];exact(bL _).alloc (by simp) _);obtain⟨g,hg⟩:=eX (w.heap.size);rw[hw1,hg]at q1 q2 q3 q4;have HR:=qH q1;have HF:=qH q2;have HRz:=qH q3;have HFz:=qH q4;have HSZ:Hid (w7.heap.size=g+2):=qH (by rw[<-hw1,<-hg];simp);have HG:Hid (g<w7.heap.size):=qH (by rw[HSZ.out];omega);rw[hw1];rw[hg]at HB1⊢;have HGE:=qH hg;clear hw1 hg q1 q2 q3 q4;have HIN:Hid (DevIn w7 d L):=qH (HI.out.stays (HGE.out▸HB1.out));have K4:Hid (∀wq,Below w7.heap.size w7 wq->Calls Tryz.prog 52 #[.slice L.a0 d.s0.length L.c0] wq (SlRet wq 5 1 d.s0.length (d.s0.map bv))):=qH (fun wq h=>cloneBytes_calls _ _ _ _ wq (by simp) (by have:=HL.out.1;omega) (HIN.out.b0.stays h).src (bv_one _));have K1:Hid (∀wq,Below w7.heap.size w7 wq->Calls Tryz.prog 52 #[.slice L.a1 d.s1.length L.c1] wq (SlRet wq 5 1 d.s1.length (d.s1.map bv))):=qH (fun wq h=>cloneBytes_calls _ _ _ _ wq (by simp) (by have:=HL.out.2.1;omega) (HIN.out.b1.stays h).src (bv_one _));refine wM (some 3::some 4::some 5::some 6::some 7::some 8::some 9::some 10::some 11::some 12::none::[]) (none::none::none::some 0::none::none::none::some 1::some 2::none::some 3::[]) (.pointer (some ⟨g,0,none⟩)::.pointer (some ⟨g,0,none⟩)::.slice L.a0 d.s0.length L.c0::undef::.pointer (some ⟨g,0,none⟩)::.pointer (some ⟨g,1,none⟩)::.slice L.a1 d.s1.length L.c1::undef::undef::.pointer (some ⟨g,0,none⟩)::undef::[]) 4 (dcJ w7 g d L) 22 (rfl) ?_ ?_
 ·refine⟨?_,?_,?_,?_,?_,?_,?_,?_,?_,?_,?_,trivial⟩
  ·exact x1jh
  ·intro done cv k2 a wq hw h hJ hn;have e1:=mN 0 3 h hw;go_simp
  ·intro done cv k1 a wq hw h hJ hn;have e1:=mN 1 4 h hw;exact x5ed
  ·intro done cv a wq hw h hJ;have e1:=mN 2 5 h hw;obtain rfl:wq=w7.drew:=hJ;refine wp_call (vals:=#[.slice L.a0 d.s0.length L.c0]) (by rw[List.map_toArray,List.map_cons,List.map_nil,ch_ev e1]) (enters_of Tryz.func52 (by kernel_rfl) rfl _ _) (K4.out _ ((Below.refl _ _).drew)) ?_;rintro e w' ⟨A1,c1,rfl,hown,hbel⟩;exact⟨_,rfl,_,rfl,A1,c1,by simp,hown,(Below.refl _ _).drew.trans hbel⟩
  ·exact x1jh
  ·intro done cv k2 a wq hw h hJ hn;have e1:=mN 4 7 h hw;go_simp
  ·intro done cv k1 a wq hw h hJ hn;have e1:=mN 5 8 h hw;exact x5ed
  ·intro done cv a wq hw h hJ;have e1:=mN 6 9 h hw;obtain⟨A1,c2,y1,hown,hbel⟩:=hJ;refine wp_call (vals:=#[.slice L.a1 d.s1.length L.c1]) (by rw[List.map_toArray,List.map_cons,List.map_nil,ch_ev e1]) (enters_of Tryz.func52 (by kernel_rfl) rfl _ _) (K1.out _ hbel) ?_;rintro e w' ⟨A2,c1,rfl,hown1,hbel1⟩;exact⟨_,rfl,_,rfl,A1,c2,wq,A2,c1,by simpa using y1,hown,hbel,by simp,hown1,hbel1⟩
  ·intro done cv a wq hw h hJ;have e1:=mx_cv (i:=3) (t:=6) h (hw 3 (by decide)) rfl rfl;have e10:=mx_cv (i:=7) (t:=10) h (hw 7 (by decide)) rfl rfl;obtain⟨A1,c1,w1,A2,c2,y1,hown,hbel,y2,hown1,hbel1⟩:=hJ;rw[y1]at e1;rw[y2]at e10;refine wp_val (v:=.agg (slotsA A1 d.s0.length c1 A2 d.s1.length c2)) (by go_simp) ⟨_,rfl,A1,c1,w1,A2,c2,by simp,hown,hbel,hown1,hbel1⟩
  ·exact x1jh
  ·intro done cv a wq hw h hJ;have e1:=mN 9 12 h hw;have e11:=mx_cv (i:=8) (t:=11) h (hw 8 (by decide)) rfl rfl;obtain⟨A1,c1,w1,A2,c2,y1,hown,hbel,hown1,hbel1⟩:=hJ;rw[y1]at e11;have hbl:=hbel.trans (hbel1.mono hbel.size);refine wp_srow e1 e11 (by go_simp) (by go_simp) (cs:=devA d L) ((rowOf_below HG.out hbl).trans HR.out) (by go_simp) ((frOf_below HG.out hbl).trans HF.out) (by go_simp) ⟨undef,rfl,A1,c1,w1,A2,c2,wq,hown,hbel,hown1,hbel1,?_⟩;rw[devA_splice_slots]
 intro cv w3' hJ;obtain⟨A1,c2,w1,A2,c3,w2,hown,hbel,hown1,hbel1,rfl⟩:=hJ;simp only[mixAll,pA,mA,Nat.reduceAdd];obtain⟨L2,hL1⟩:∃L2:DLoc,{L with a0:=A1,c0:=c2,a1:=A2,c1:=c3}=L2:=⟨_,rfl⟩;have hbl:=hbel.trans (hbel1.mono hbel.size);have hr1:rowOf w2 g=devA d L:=(rowOf_below HG.out hbl).trans HR.out;obtain⟨w3,hw1⟩:=eX (w2.setRow g (devA d {L with a0:=A1,c0:=c2,a1:=A2,c1:=c3}));rw[hw1];rw[hL1]at hw1;have HR1:Hid (rowOf w3 g=devA d L2):=qH (by rw[<-hw1,rowOf_setRow _ _ _ _ (by rw[hr1];simp[devA]),if_pos rfl]);have HF1:Hid (frOf w3 g=(0,0)):=qH (by rw[<-hw1,frOf_setRow];exact(frOf_below HG.out hbl).trans HF.out);have HRz1:Hid (rowOf w3 (g+1)=devA Dev.zero DLoc.zero):=qH (by rw[<-hw1,rowOf_setRow _ _ _ _ (by rw[hr1];simp[devA]),if_neg (by omega)];exact(rowOf_below (by rw[HSZ.out];omega) hbl).trans HRz.out);have HFz1:Hid (frOf w3 (g+1)=(0,0)):=qH (by rw[<-hw1,frOf_setRow];exact(frOf_below (by rw[HSZ.out];omega) hbl).trans HFz.out);have hs3:w3.heap.size=w2.heap.size:=by rw[<-hw1];simp[World.setRow]
 have hs1:=hbel.size;have hs2:=hbel1.size;have hsz:=HSZ.out;have HG1:Hid (g<w3.heap.size):=qH (by omega);have HGz:Hid (g+1<w3.heap.size):=qH (by omega);have HB2:Hid (Below g w w3):=qH (by rw[<-hw1];exact below_row (HB1.out.trans (hbl.mono (by omega))) nl _);have HIN1:Hid (Chs w3 L.ag d.got∧PatIn w3 d.job L.aj L.cj):=qH (by have hi:=HI.out.stays (HGE.out▸HB2.out);exact⟨hi.got,hi.job⟩);have HO2:Hid (Own w3 w7.heap.size 5 1 A1 d.s0.length c2 (d.s0.map bv)):=qH (by rw[<-hw1];exact own_fresh (hown.below hbel1) fun k h1 h2=>setRow_other _ _ _ _ (by omega));have HO1:Hid (Own w3 w1.heap.size 5 1 A2 d.s1.length c3 (d.s1.map bv)):=qH (by rw[<-hw1];exact own_fresh hown1 fun k h1 h2=>setRow_other _ _ _ _ (by omega));have HBK:Hid ((∀k,A1.map (·.block)=some k->k<w1.heap.size)∧(∀k,A2.map (·.block)=some k->k<w3.heap.size)∧w7.heap.size<=w1.heap.size∧w1.heap.size<=w3.heap.size):=qH ⟨fun k hk=>(hown.block k hk).2,fun k hk=>by have:=(hown1.block k hk).2;omega,hs1,by omega⟩;have HE:Hid (L2.ag=L.ag∧L2.cg=L.cg∧L2.aj=L.aj∧L2.cj=L.cj∧L2.a0=A1∧L2.c0=c2∧L2.a1=A2∧L2.c1=c3):=qH (by rw[<-hL1];exact⟨rfl,rfl,rfl,rfl,rfl,rfl,rfl,rfl⟩);have K2:Hid (∀wq,Below w3.heap.size w3 wq->Calls Tryz.prog 54 #[.slice L2.ag d.got.length L2.cg] wq (KrRet kChk wq d.got)):=qH (fun wq h=>chkCopy_calls _ _ _ wq HL.out.2.2 (by rw[HE.out.1];exact HIN1.out.1.stays h));have K3:Hid (∀wq,Below w3.heap.size w3 wq->Calls Tryz.prog 98 #[.agg (patA d.job.from_ d.job.to_ d.job.old d.job.new_ d.job.size L2.aj d.job.ops.length L2.cj)] wq (PcRet wq d.job)):=qH (fun wq h=>patCopy_calls _ _ _ wq (by rw[HE.out.2.2.1,HE.out.2.2.2.1];exact HIN1.out.2.stays h));clear hown hown1 hbel hbel1 hbl hr1 hw1 hL1 hs3 hs1 hs2 hsz K4 K1 HB1 HR HF HRz HFz;go_wp2_with fail;refine wM (some 13::some 14::some 15::some 16::some 17::some 18::some 19::none::some 20::none::[]) (none::none::some 0::none::none::some 1::none::some 2::none::some 3::[]) (.pointer (some ⟨g,28,none⟩)::.slice L2.ag d.got.length L2.cg::undef::.pointer (some ⟨g,30,none⟩)::.agg (patA d.job.from_ d.job.to_ d.job.old d.job.new_ d.job.size L2.aj d.job.ops.length L2.cj)::undef::.pointer (some ⟨g,28,none⟩)::undef::.pointer (some ⟨g,30,none⟩)::undef::[]) 4 (dcK w3 g d L2) 22 (rfl) ?_ ?_
 ·refine⟨?_,?_,?_,?_,?_,?_,?_,?_,?_,?_,trivial⟩
  ·exact x1jh
  ·intro done cv k2 a wq hw h hJ hn;have e1:=mN 0 13 h hw;exact x81i
  ·intro done cv a wq hw h hJ;have e1:=mN 1 14 h hw;obtain rfl:wq=w3.drew:=hJ;refine wp_call (vals:=#[.slice L2.ag d.got.length L2.cg]) (by rw[List.map_toArray,List.map_cons,List.map_nil,ch_ev e1]) (enters_of Tryz.func54 (by kernel_rfl) rfl _ _) (K2.out _ ((Below.refl _ _).drew)) ?_;exact x60d
  ·exact x1jh
  ·intro done cv k2 a wq hw h hJ hn;have e1:=mN 3 16 h hw;exact x81i
  ·intro done cv a wq hw h hJ;have e1:=mN 4 17 h hw;obtain⟨A1,c1,ds,y1,hrow,heach,hbel⟩:=hJ;refine wp_call (vals:=#[.agg (patA d.job.from_ d.job.to_ d.job.old d.job.new_ d.job.size L2.aj d.job.ops.length L2.cj)]) (by rw[List.map_toArray,List.map_cons,List.map_nil,ch_ev e1]) (enters_of Tryz.func98 (by kernel_rfl) rfl _ _) (K3.out _ hbel) ?_;rintro e w' ⟨A2,c3,rfl,hfr,hbel1⟩;exact⟨_,rfl,_,rfl,A1,c1,ds,wq,A2,c3,by simpa using y1,by simp,hrow,heach,hbel,hfr,hbel1⟩
  ·exact x1jh
  ·intro done cv a wq hw h hJ;have e1:=mN 6 19 h hw;have e15:=mx_cv (i:=2) (t:=15) h (hw 2 (by decide)) rfl rfl;obtain⟨A1,c1,ds,w4,A2,c3,y1,y2,hrow,heach,hbel,hfr,hbel1⟩:=hJ;rw[y1]at e15;have hbl:=hbel.trans (hbel1.mono hbel.size);refine wp_ssc e1 e15 (cs:=devA d L2) ((rowOf_below HG1.out hbl).trans HR1.out) (by go_simp) ((frOf_below HG1.out hbl).trans HF1.out) ⟨undef,rfl,A1,c1,ds,w4,A2,c3,wq,by simpa using y2,hrow,heach,hbel,hfr,hbel1,?_⟩;rw[devA_set_got]
  ·exact x1jh
  ·intro done cv a wq hw h hJ;have e1:=mN 8 20 h hw;have e18:=mx_cv (i:=5) (t:=18) h (hw 5 (by decide)) rfl rfl;obtain⟨A1,c1,ds,w4,A2,c3,w5,y1,hrow,heach,hbel,hfr,hbel1,rfl⟩:=hJ;rw[y1]at e18;have hbl:=hbel.trans (hbel1.mono hbel.size);have hr1:rowOf w5 g=devA d L2:=(rowOf_below HG1.out hbl).trans HR1.out;have hf1:frOf w5 g=(0,0):=(frOf_below HG1.out hbl).trans HF1.out;refine wp_srow e1 e18 (by go_simp) (by go_simp) (cs:=devA d {L2 with ag:=A1,cg:=c1}) (by rw[rowOf_setRow _ _ _ _ (by rw[hr1];simp[devA]),if_pos rfl]) (by go_simp) (by rw[frOf_setRow];exact hf1) (by go_simp) ⟨undef,rfl,A1,c1,ds,w4,A2,c3,w5,hrow,heach,hbel,hfr,hbel1,?_⟩;rw[devA_splice_job,setRow_setRow]
 intro cv w6 hJ;obtain⟨A3,c1,ds,w4,A4,c4,w5,hrow,heach,hbel,hfr,hbel1,rfl⟩:=hJ;simp only[mixAll,pA,mA,Nat.reduceAdd];have hbl:=hbel.trans (hbel1.mono hbel.size);have hr1:rowOf w5 g=devA d L2:=(rowOf_below HG1.out hbl).trans HR1.out;have hf1:frOf w5 g=(0,0):=(frOf_below HG1.out hbl).trans HF1.out;have hrz1:rowOf w5 (g+1)=devA Dev.zero DLoc.zero:=(rowOf_below HGz.out hbl).trans HRz1.out;have hfz1:frOf w5 (g+1)=(0,0):=(frOf_below HGz.out hbl).trans HFz1.out;have HGR:=qH (hrow.fresh heach);have HFR:=qH hfr;have HB1:=qH hbel;have HB3:=qH hbel1;have HC1:=qH hrow.row.le;clear hrow heach hfr hbel hbel1 hbl;go_wp2_with fail;refine bodyPost_ret (results_c rfl rfl (cs:=devA d {L2 with ag:=A3,cg:=c1,aj:=A4,cj:=c4}) (by go_simp) (by go_simp) (by go_simp)) rfl ?_;have hsz:=HSZ.out;have hge:=HGE.out;have s1:=HB1.out.size;have s2:=HB3.out.size;have hbk:=HBK.out.2.2;refine⟨_,rfl,DvOwn.fresh (DvOwn.mono (base:=w7.heap.size) (dcEnd (.inr trivial) HL.out HI1.out HBD.out HO2.out HO1.out HBK.out HGR.out HFR.out HB1.out HB3.out HC1.out HE.out.2.2.2.2 ?_) (by omega)),?_⟩
 ·intro k hk;repeat (first|rfl|refine(setRow_other _ _ _ _ (by omega)).trans ?_)
 rw[hge];repeat (first|exact HB2.out.trans ((HB1.out.trans (HB3.out.mono s1)).mono (by omega))|refine bR ?_ _)
