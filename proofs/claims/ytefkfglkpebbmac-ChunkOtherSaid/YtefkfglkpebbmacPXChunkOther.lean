/- The walk of the law ChunkOther. Printed by gen_chunkother.py. Condition: the library's own variable holds some number. -/
import Derived.Test.YtefkfglkpebbmacP5
import Derived.Test.YtefkfglkpebbmacPXChkFunc
set_option linter.unusedVariables false
set_option linter.unusedSimpArgs false
set_option maxRecDepth 100000
set_option maxHeartbeats 40000000
namespace Go.Proofs.Ytefkfglkpebbmac
open Go.RowKit
variable {Y:Prop}
variable {x:Chk}
theorem x1f4(h:Y:=by
 have e1:=cO 0 (.slice (some ⟨b,o,none⟩) l.length cl) h;exact ch_move (ch_ev e1)):Y:=h
theorem x31t(h:Y:=by
 have e2:=cN 2 34 h hw;exact ch_move (ch_ev e2)):Y:=h
theorem x3ys(h:Y:=by
 have e1:=cN 1 33 h hw;exact ch_gtr_int (by kernel_rfl) (ch_ev e1) rfl (by simp;omega)):Y:=h
theorem x564(h:Y:=by
 have e2:=cN 8 40 h hw;have y_:=keep1 h.bel a1.1 (by go_simp) a1.2.1;refine ch_pure ?_;go_simp):Y:=h
theorem x58f(h:Y:=by
 have e2:=cN 6 38 h hw;have hc:=(h.bel.cell (p:=⟨b,o,none⟩) (by simp;omega)).trans (show w4.cell? _=some (iv x.from_) from x5);refine ch_pure ?_;go_simp):Y:=h
theorem x5ej(h:Y:=by
 intro w5 hb;simp only[putAll_some,putAll_none,putAll_nil,List.setIfInBounds_toArray,List.set_cons_zero,List.set_cons_succ];have a1:=keep1 (g:=W.heap.size) (cs:=chkA c.from_ c.to_ c.n c.of_ D c.data.length d) hb a1.1 (by go_simp) a1.2.1;have hbx:Below w4.heap.size w4 w5:=hb;have HB5:=bT HB4 hbx;have HM4:=qH (HM3.out.stays hbx);clear hb hbx;go_wp2_with fail;refine(K4.out _ _ _ (HM4.out.stays (by repeat (first|exact Below.refl _ _|refine bA ?_ _))) (HX.out.stays (by have hs:=HB5.out.size;repeat (first|exact HB5.out|refine bA ?_ _)))).mono ?_;rintro e w6 ⟨A2,c2,ds2,rfl,hg,hn,hb⟩;have a1:=kp (W.heap.size) (chkA c.from_ c.to_ c.n c.of_ D c.data.length d) hb;have hbx:Below w5.heap.size w5 w6:=Below.trans (by repeat (first|exact Below.refl _ _|refine bA ?_ _)) (hb.mono (by first|omega|(simp<;>omega)));have HB6:=bT HB5 hbx;have HM5:=qH (HM4.out.stays hbx);have hg2:=qH (hg.chs HBm.out);clear hg hn;clear hb hbx;go_wp2_with fail;refine(K5.out _ _ _ _ _ (HM5.out.stays (by repeat (first|exact Below.refl _ _|refine bA ?_ _))) (hg2.out.stays (by repeat (first|exact Below.refl _ _|refine bA ?_ _)))).mono ?_;rintro e w7 ⟨rfl,hb⟩;have a1:=kr a1 hb;have hbx:Below w6.heap.size w6 w7:=Below.trans (by repeat (first|exact Below.refl _ _|refine bA ?_ _)) (hb.mono (by first|omega|(simp<;>omega)));have HB7:=bT HB6 hbx;have HM6:=qH (HM5.out.stays hbx);have HN1:=qH (hg2.out.stays hbx);clear hb hbx;have HE:=HO.out hs;subst HE;go_wp2_with fail;refine(K5.out _ _ _ _ _ (HM6.out.stays (by repeat (first|exact Below.refl _ _|refine bA ?_ _))) (chs_one (blk_top rfl) (HX.out.stays (by have hs:=HB7.out.size;repeat (first|exact HB7.out|refine bA ?_ _))))).mono ?_;rintro e w8 ⟨rfl,hb⟩;have a1:=kr a1 hb;have hbx:Below w7.heap.size w7 w8:=Below.trans (by repeat (first|exact Below.refl _ _|refine bA ?_ _)) (hb.mono (by first|omega|(simp<;>omega)));have HB8:=bT HB7 hbx;have HM7:=qH (HM6.out.stays hbx);have HN2:=qH (HN1.out.stays hbx);clear hb hbx;go_wp2_with fail;go_ret;refine⟨ret_bool (by simp),?_⟩;exact bZ HB8):Y:=h
theorem x8fv(h:Y:=by
 have e1:=cN 7 39 h hw;have e41:=cN 9 41 h hw;exact ch_eql_int (by kernel_rfl) (ch_ev e1) (ch_ev e41) (by simp[q3])):Y:=h
theorem x99m(h:Y:=by
 have e1:=cO 3 (.pointer (some ⟨W.heap.size,0,none⟩)) h;refine ch_pure ?_;go_simp):Y:=h
theorem x9k7(h:Y:=by
 have e2:=cN 0 32 h hw;refine ch_pure ?_;go_simp):Y:=h
theorem x9vz(h:Y:=by
 refine⟨.inl ⟨rfl,?_⟩,.inl ⟨rfl,?_⟩,.inl ⟨rfl,?_⟩,.inl ⟨rfl,?_⟩,.inl ⟨rfl,?_⟩,.inl ⟨rfl,?_⟩,.inl ⟨rfl,?_⟩,.inl ⟨rfl,?_⟩,.inl ⟨rfl,?_⟩,.inl ⟨rfl,?_⟩,.inl ⟨rfl,?_⟩,.inl ⟨rfl,?_⟩,.inl ⟨rfl,?_⟩,.inl ⟨rfl,?_⟩,.inl ⟨rfl,?_⟩,.inl ⟨rfl,?_⟩,.inl ⟨rfl,?_⟩,.inl ⟨rfl,?_⟩,.inl ⟨rfl,?_⟩,.inl ⟨rfl,?_⟩,.inl ⟨rfl,?_⟩,.inl ⟨rfl,?_⟩,.inl ⟨rfl,?_⟩,.inl ⟨rfl,?_⟩,.inl ⟨rfl,?_⟩,.inl ⟨rfl,?_⟩,.inl ⟨rfl,?_⟩,.inl ⟨rfl,?_⟩,.inl ⟨rfl,?_⟩,.inl ⟨rfl,?_⟩,.inl ⟨rfl,?_⟩,trivial⟩;all_goals intro done a wq hw h
 ·have e1:=cO 0 (.slice (some ⟨b,o,none⟩) l.length cl) h;exact ch_move (ch_ev e1)
 ·have e2:=cN 0 32 h hw;refine ch_pure ?_;go_simp
 ·have e1:=cN 1 33 h hw;exact ch_gtr_int (by kernel_rfl) (ch_ev e1) rfl (by simp;omega)
 ·have e2:=cN 2 34 h hw;exact ch_move (ch_ev e2)
 ·have e1:=cO 0 (.slice (some ⟨b,o,none⟩) l.length cl) h;exact ch_move (ch_ev e1)
 ·have e2:=cN 4 36 h hw;refine ch_pure ?_;go_simp
 ·have e1:=cN 5 37 h hw;refine ch_pure ?_;go_simp
 ·have e2:=cN 6 38 h hw;have hc:=(h.bel.cell (p:=⟨b,o,none⟩) (by simp;omega)).trans (show w4.cell? _=some (iv x.from_) from x5);refine ch_pure ?_;go_simp
 ·have e1:=cO 3 (.pointer (some ⟨W.heap.size,0,none⟩)) h;refine ch_pure ?_;go_simp
 ·have e2:=cN 8 40 h hw;have y_:=keep1 h.bel a1.1 (by go_simp) a1.2.1;refine ch_pure ?_;go_simp
 ·have e1:=cN 7 39 h hw;have e41:=cN 9 41 h hw;exact ch_eql_int (by kernel_rfl) (ch_ev e1) (ch_ev e41) (by simp[q3])
 ·have e2:=cN 3 35 h hw;have e42:=cN 10 42 h hw;exact ch_pick_t e2 (ch_ev e42)
 ·have e1:=cN 11 43 h hw;exact ch_move (ch_ev e1)
 ·have e2:=cO 0 (.slice (some ⟨b,o,none⟩) l.length cl) h;exact ch_move (ch_ev e2)
 ·have e1:=cN 13 45 h hw;refine ch_pure ?_;go_simp
 ·have e2:=cN 14 46 h hw;refine ch_pure ?_;go_simp
 ·have e1:=cN 15 47 h hw;have hc:=(h.bel.cell (p:=⟨b,o+1,none⟩) (by simp;omega)).trans (show w4.cell? _=some (iv x.to_) from x1);refine ch_pure ?_;go_simp
 ·have e2:=cO 3 (.pointer (some ⟨W.heap.size,0,none⟩)) h;refine ch_pure ?_;go_simp
 ·have e1:=cN 17 49 h hw;have y_:=keep1 h.bel a1.1 (by go_simp) a1.2.1;refine ch_pure ?_;go_simp
 ·have e2:=cN 16 48 h hw;have e50:=cN 18 50 h hw;exact ch_eql_int (by kernel_rfl) (ch_ev e2) (ch_ev e50) (by simp[q1])
 ·have e1:=cN 12 44 h hw;have e51:=cN 19 51 h hw;exact ch_pick_t e1 (ch_ev e51)
 ·have e2:=cN 20 52 h hw;exact ch_move (ch_ev e2)
 ·have e1:=cO 0 (.slice (some ⟨b,o,none⟩) l.length cl) h;exact ch_move (ch_ev e1)
 ·have e2:=cN 22 54 h hw;refine ch_pure ?_;go_simp
 ·have e1:=cN 23 55 h hw;refine ch_pure ?_;go_simp
 ·have e2:=cN 24 56 h hw;have hc:=(h.bel.cell (p:=⟨b,o+3,none⟩) (by simp;omega)).trans (show w4.cell? _=some (iv x.of_) from x3);refine ch_pure ?_;go_simp
 ·have e1:=cO 3 (.pointer (some ⟨W.heap.size,0,none⟩)) h;refine ch_pure ?_;go_simp
 ·have e2:=cN 26 58 h hw;have y_:=keep1 h.bel a1.1 (by go_simp) a1.2.1;refine ch_pure ?_;go_simp
 ·have e1:=cN 25 57 h hw;have e59:=cN 27 59 h hw;exact ch_eql_int (by kernel_rfl) (ch_ev e1) (ch_ev e59) (by simp[q2])
 ·have e2:=cN 21 53 h hw;have e60:=cN 28 60 h hw;exact ch_pick_t e2 (ch_ev e60)
 ·have e1:=cN 29 61 h hw;exact ch_assign (ch_ev e1)):Y:=h
theorem chs_one{w:World}{g:Nat}{D:OA}{d:Nat}{t:TypeId}{fr:Nat×Nat}(h:w.heap[g]?=some (.cells (chkA x.from_ x.to_ x.n x.of_ D x.data.length d) t fr))(hx:ChkIn w x D d):Chs w (some ⟨g,0,none⟩) [x]:=by
 intro i hi;obtain rfl:i=0:=by simpa using hi
 refine⟨g,0,rfl,blk_lt h,chkC x D d,rfl,fun j hj=>?_,D,d,rfl,hx⟩;have hs:=src_blk h;rw[chkA_list]at hs;obtain⟨b',o',e,_,hc⟩:=hs j hj;injection e with e;injection e with e1 e2;subst e1 e2;simpa using hc
theorem chkB_ok(h:chkCheck x=0):ChkB x:=by
 obtain⟨⟨h1,h2,h3,h4,h5,h6,h7,h8⟩,_,h9,_⟩:=chkCheck_ok.1 h;exact x0ek
theorem chkBs_ok{l:List Chk}(h:chkList l=0):∀x∈l,ChkB x:=fun x hx=>chkB_ok ((chkList_ok.1 h).1 x hx)
theorem row_at{w:World}{g:Nat}{D:OA}{d:Nat}(h:∀j,w.cell? ⟨g,j,none⟩=(chkA x.from_ x.to_ x.n x.of_ D x.data.length d)[j]?):ChkAt w g 0 x D d:=
 ⟨(h 0).trans (chkA_get0 _ _ _ _ _ _ _),(h 1).trans (chkA_get1 _ _ _ _ _ _ _),(h 2).trans (chkA_get2 _ _ _ _ _ _ _),(h 3).trans (chkA_get3 _ _ _ _ _ _ _),(h 4).trans (chkA_get4 _ _ _ _ _ _ _)⟩
theorem ChunkOther_walk(W:World)(v0 v1:Value)(l:List Chk)(c:Chk)(g0:ArgChks W v0 l)(g1:ArgChk W v1 c)(hml:ML W):
  Calls Try.prog 6 #[v0,v1] W (RetB W (.bool true)):=by
 obtain⟨L,cl,rfl,hcl,hll,hL⟩:=g0;obtain⟨D,d,rfl,hx⟩:=g1;rw[chkC_eq];have HL:=qH hL;have HX:=qH hx;have HML:=qH hml;have K6:=qH (fun w h=>cut_calls w h);have K1:=qH (fun w h1 h2=>chkAdd_calls L D cl d l c w hll h1 h2);clear hL hx hml;obtain⟨m,e,hm⟩:∃m e,chkAdd l c=(m,e):=⟨_,_,rfl⟩;rw[hm]at K1;dsimp only at K1;have HM:=qH hm;clear hm;by_cases he:e=0
 ·subst he;have hlc:=chkAdd_zero (by rw[HM.out]:(chkAdd l c).2=0);have hag:=add_again hlc.1 hlc.2;rw[HM.out]at hag;dsimp only at hag;obtain⟨ha1,ha2,ha3⟩:=hag;have hml1:=chkList_len ha1;have hml2:m.length<=2513169434843:=by omega
  have HBm:=qH (chkBs_ok ha1);have K2:=qH (fun A k w h=>by have:=chkList_calls A k m w hml2 h;rwa [ha1]at this:∀A k w,Chs w A m->Calls Try.prog 40 #[.slice A m.length k] w (RetB w (iv 0)));have hany:m.any (fun x=>same4 x c)=true:=by
   obtain⟨y,hy,h1,h2,h3,h4⟩:=ha2;exact List.any_eq_true.2 ⟨y,hy,by simp[same4,h1,h2,h3,h4]⟩
  have K3:=qH (fun A k g w h1 h2 h3=>by have:=coA_has A D k d g m c w hml2 h1 h2 h3;rwa [hany]at this:∀A k g w,Chs w A m->g<w.heap.size->ChkAt w g 0 c D d->Calls Try.prog 41 #[.slice A m.length k,.func (Fn.func 42) #[] #[.pointer (some ⟨g,0,none⟩)]] w (RetB w (.bool true)));have K4:=qH (fun A k w h1 h2=>by have:=chkAdd_calls A D k d m c w hml2 h1 h2;rwa [ha3]at this:∀A k w,Chs w A m->ChkIn w c D d->Calls Try.prog 36 #[.slice A m.length k,.agg (chkA c.from_ c.to_ c.n c.of_ D c.data.length d)] w (ChkRet2 w m 0));have K5:=qH (fun A B k j w h1 h2=>by have:=chkSame_calls A B k j m m w hml2 hml2 h1 h2;rwa [show decide (m=m)=true by simp]at this:∀A B k j w,Chs w A m->Chs w B m->Calls Try.prog 39 #[.slice A m.length k,.slice B m.length j] w (RetB w (.bool true)));have hthere:(∃x,l[0]?=some x∧kin x c)->(l.any (fun x=>sameN x c)=true)->m=l:=fun h1 h2=>by
   have:=add_there hlc.1 hlc.2 h1 (by obtain⟨y,hy,h⟩:=List.any_eq_true.1 h2;exact⟨y,hy,by simpa[sameN]using h⟩);rwa [HM.out]at this
  have hnew:(∃x,l[0]?=some x∧kin x c)->(l.any (fun x=>sameN x c)=false)->m.length=l.length+1:=fun h1 h2=>by
   have:=add_new hlc.1 hlc.2 h1 (fun ⟨y,hy,h⟩=>by have:=List.any_eq_false.1 h2 y hy;simp[sameN,h]at this);rwa [HM.out]at this
  have hoth:(¬∃x,l[0]?=some x∧kin x c)->m=[c]:=fun h=>by
   have:=add_other hlc.1 hlc.2 h;rwa [HM.out]at this
  have HT:=qH hthere;have HN:=qH hnew;have HO:=qH hoth;have HK1:=qH (fun g w h1 h2 h3=>coB_has L D cl d g l c w hll h1 h2 h3);clear hlc ha1 ha2 ha3 hany hthere hnew hoth hml1;go_enter Try.func6,Try.ntmps6;go_wp2_with fail;refine(K1.out _ (HL.out.stays (by repeat (first|exact Below.refl _ _|refine bA ?_ _))) (HX.out.stays (by repeat (first|exact Below.refl _ _|refine bA ?_ _)))).mono ?_;rintro e w1 ⟨A1,c1,ds1,rfl,hg,hn,hb⟩;have a1:=kp (W.heap.size) (chkA c.from_ c.to_ c.n c.of_ D c.data.length d) hb;have hbx:Below W.heap.size W w1:=Below.trans (by repeat (first|exact Below.refl _ _|refine bA ?_ _)) (hb.mono (by first|omega|(simp<;>omega)));have HB1:Hid (Below W.heap.size W w1):=qH (hbx);have hg1:=qH (hg.chs HBm.out);clear hg hn;clear hb hbx;go_wp2_with fail;refine(K6.out _ (HML.out.stays (by have hs:=HB1.out.size;repeat (first|exact HB1.out|refine bA ?_ _)))).mono ?_;rintro e w2 ⟨rfl,hb⟩;have a1:=kr a1 hb;have hbx:Below w1.heap.size w1 w2:=Below.trans (by repeat (first|exact Below.refl _ _|refine bA ?_ _)) (hb.mono (by first|omega|(simp<;>omega)));have HB2:=bT HB1 hbx;have HM1:=qH (hg1.out.stays hbx);clear hb hbx;go_wp2_with fail;refine(K2.out _ _ _ (HM1.out.stays (by repeat (first|exact Below.refl _ _|refine bA ?_ _)))).mono ?_;rintro e w3 ⟨rfl,hb⟩;have a1:=kr a1 hb;have hbx:Below w2.heap.size w2 w3:=Below.trans (by repeat (first|exact Below.refl _ _|refine bA ?_ _)) (hb.mono (by first|omega|(simp<;>omega)));have HB3:=bT HB2 hbx;have HM2:=qH (HM1.out.stays hbx);clear hb hbx;go_wp2_with fail;refine(K3.out _ _ _ _ (HM2.out.stays (by repeat (first|exact Below.refl _ _|refine bA ?_ _))) a1.2.2.2.2.2 (row_at a1.2.2.2.1)).mono ?_;rintro e w4 ⟨rfl,hb⟩;have a1:=kr a1 hb;have hbx:Below w3.heap.size w3 w4:=Below.trans (by repeat (first|exact Below.refl _ _|refine bA ?_ _)) (hb.mono (by first|omega|(simp<;>omega)));have HB4:=bT HB3 hbx;have HM3:=qH (HM2.out.stays hbx);clear hb hbx;go_wp2_with fail;by_cases hlp:¬0<l.length
  ·obtain rfl:l=[]:=List.length_eq_zero_iff.1 (by omega);have hs:¬∃x,([]:List Chk)[0]?=some x∧kin x c:=fun ⟨x,h,_⟩=>by simp at h
   refine wp_region_chain (by kernel_rfl) (some 32::some 33::some 34::some 35::some 36::some 37::some 38::some 39::some 40::some 41::some 42::some 43::some 44::some 45::some 46::some 47::some 48::some 49::some 50::some 51::some 52::some 53::some 54::some 55::some 56::some 57::some 58::some 59::some 60::some 61::some 7::[]) (.slice L 0 cl::iv 0::.bool false::.bool false::undef::undef::undef::undef::undef::undef::undef::.bool false::.bool false::undef::undef::undef::undef::undef::undef::undef::.bool false::.bool false::undef::undef::undef::undef::undef::undef::undef::.bool false::.bool false::[]) 99 rfl rfl (by decide+kernel) (by decide+kernel) (by decide+kernel) rfl ?_ ?_
   ·refine⟨.inl ⟨rfl,?_⟩,.inl ⟨rfl,?_⟩,.inl ⟨rfl,?_⟩,.inl ⟨rfl,?_⟩,.inr ⟨rfl,rfl⟩,.inr ⟨rfl,rfl⟩,.inr ⟨rfl,rfl⟩,.inr ⟨rfl,rfl⟩,.inr ⟨rfl,rfl⟩,.inr ⟨rfl,rfl⟩,.inr ⟨rfl,rfl⟩,.inl ⟨rfl,?_⟩,.inl ⟨rfl,?_⟩,.inr ⟨rfl,rfl⟩,.inr ⟨rfl,rfl⟩,.inr ⟨rfl,rfl⟩,.inr ⟨rfl,rfl⟩,.inr ⟨rfl,rfl⟩,.inr ⟨rfl,rfl⟩,.inr ⟨rfl,rfl⟩,.inl ⟨rfl,?_⟩,.inl ⟨rfl,?_⟩,.inr ⟨rfl,rfl⟩,.inr ⟨rfl,rfl⟩,.inr ⟨rfl,rfl⟩,.inr ⟨rfl,rfl⟩,.inr ⟨rfl,rfl⟩,.inr ⟨rfl,rfl⟩,.inr ⟨rfl,rfl⟩,.inl ⟨rfl,?_⟩,.inl ⟨rfl,?_⟩,trivial⟩;all_goals intro done a wq hw h
    ·have e1:=cO 0 (.slice L 0 cl) h;exact ch_move (ch_ev e1)
    ·exact x9k7
    ·have e1:=cN 1 33 h hw;exact ch_gtr_int (by kernel_rfl) (ch_ev e1) rfl (by simp)
    ·exact x31t
    ·have e1:=cN 3 35 h hw;exact ch_pick_f e1 rfl
    ·have e2:=cN 11 43 h hw;exact ch_move (ch_ev e2)
    ·have e1:=cN 12 44 h hw;exact ch_pick_f e1 rfl
    ·have e2:=cN 20 52 h hw;exact ch_move (ch_ev e2)
    ·have e1:=cN 21 53 h hw;exact ch_pick_f e1 rfl
    ·have e2:=cN 29 61 h hw;exact ch_assign (ch_ev e2)
   exact x5ej
  have hlp:=Decidable.not_not.1 hlp;obtain⟨x,hx1⟩:∃x,l[0]?=some x:=⟨_,List.getElem?_eq_getElem hlp⟩;obtain⟨b,o,B,dd,rfl,hbl,hat,_⟩:=(HL.out.stays HB4.out).chk hlp;have hat:ChkAt w4 b o x B dd:=by
   have e1:l[0]=x:=by rw[List.getElem?_eq_getElem hlp]at hx1;injection hx1
   rw[e1]at hat;simpa using hat
  obtain⟨x5,x1,x2,x3,x4⟩:=hat;have HX1:=qH hx1;clear hx1;by_cases q3:¬x.from_=c.from_
  ·have hs:¬∃x,l[0]?=some x∧kin x c:=fun ⟨y,h1,h2⟩=>by
    rw[HX1.out]at h1;injection h1 with h1;subst h1;exact q3 h2.1
   refine wp_region_chain (by kernel_rfl) (some 32::some 33::some 34::some 35::some 36::some 37::some 38::some 39::some 40::some 41::some 42::some 43::some 44::some 45::some 46::some 47::some 48::some 49::some 50::some 51::some 52::some 53::some 54::some 55::some 56::some 57::some 58::some 59::some 60::some 61::some 7::[]) (.slice (some ⟨b,o,none⟩) l.length cl::iv (l.length:Int)::.bool true::.bool true::.slice (some ⟨b,o,none⟩) l.length cl::.pointer (some ⟨b,o,none⟩)::.pointer (some ⟨b,o,none⟩)::iv x.from_::.pointer (some ⟨W.heap.size,0,none⟩)::iv c.from_::.bool false::.bool false::.bool false::undef::undef::undef::undef::undef::undef::undef::.bool false::.bool false::undef::undef::undef::undef::undef::undef::undef::.bool false::.bool false::[]) 99 rfl rfl (by decide+kernel) (by decide+kernel) (by decide+kernel) rfl ?_ ?_
   ·refine⟨.inl ⟨rfl,?_⟩,.inl ⟨rfl,?_⟩,.inl ⟨rfl,?_⟩,.inl ⟨rfl,?_⟩,.inl ⟨rfl,?_⟩,.inl ⟨rfl,?_⟩,.inl ⟨rfl,?_⟩,.inl ⟨rfl,?_⟩,.inl ⟨rfl,?_⟩,.inl ⟨rfl,?_⟩,.inl ⟨rfl,?_⟩,.inl ⟨rfl,?_⟩,.inl ⟨rfl,?_⟩,.inr ⟨rfl,rfl⟩,.inr ⟨rfl,rfl⟩,.inr ⟨rfl,rfl⟩,.inr ⟨rfl,rfl⟩,.inr ⟨rfl,rfl⟩,.inr ⟨rfl,rfl⟩,.inr ⟨rfl,rfl⟩,.inl ⟨rfl,?_⟩,.inl ⟨rfl,?_⟩,.inr ⟨rfl,rfl⟩,.inr ⟨rfl,rfl⟩,.inr ⟨rfl,rfl⟩,.inr ⟨rfl,rfl⟩,.inr ⟨rfl,rfl⟩,.inr ⟨rfl,rfl⟩,.inr ⟨rfl,rfl⟩,.inl ⟨rfl,?_⟩,.inl ⟨rfl,?_⟩,trivial⟩;all_goals intro done a wq hw h
    ·exact x1f4
    ·exact x9k7
    ·exact x3ys
    ·exact x31t
    ·exact x1f4
    ·have e2:=cN 4 36 h hw;refine ch_pure ?_;go_simp
    ·have e1:=cN 5 37 h hw;refine ch_pure ?_;go_simp
    ·exact x58f
    ·exact x99m
    ·exact x564
    ·exact x8fv
    ·have e2:=cN 3 35 h hw;have e42:=cN 10 42 h hw;exact ch_pick_t e2 (ch_ev e42)
    ·have e1:=cN 11 43 h hw;exact ch_move (ch_ev e1)
    ·have e2:=cN 12 44 h hw;exact ch_pick_f e2 rfl
    ·have e1:=cN 20 52 h hw;exact ch_move (ch_ev e1)
    ·have e2:=cN 21 53 h hw;exact ch_pick_f e2 rfl
    ·have e1:=cN 29 61 h hw;exact ch_assign (ch_ev e1)
   exact x5ej
  have q3:=Decidable.not_not.1 q3;by_cases q1:¬x.to_=c.to_
  ·have hs:¬∃x,l[0]?=some x∧kin x c:=fun ⟨y,h1,h2⟩=>by
    rw[HX1.out]at h1;injection h1 with h1;subst h1;exact q1 h2.2.1
   refine wp_region_chain (by kernel_rfl) (some 32::some 33::some 34::some 35::some 36::some 37::some 38::some 39::some 40::some 41::some 42::some 43::some 44::some 45::some 46::some 47::some 48::some 49::some 50::some 51::some 52::some 53::some 54::some 55::some 56::some 57::some 58::some 59::some 60::some 61::some 7::[]) (.slice (some ⟨b,o,none⟩) l.length cl::iv (l.length:Int)::.bool true::.bool true::.slice (some ⟨b,o,none⟩) l.length cl::.pointer (some ⟨b,o,none⟩)::.pointer (some ⟨b,o,none⟩)::iv x.from_::.pointer (some ⟨W.heap.size,0,none⟩)::iv c.from_::.bool true::.bool true::.bool true::.slice (some ⟨b,o,none⟩) l.length cl::.pointer (some ⟨b,o,none⟩)::.pointer (some ⟨b,o+1,none⟩)::iv x.to_::.pointer (some ⟨W.heap.size,1,none⟩)::iv c.to_::.bool false::.bool false::.bool false::undef::undef::undef::undef::undef::undef::undef::.bool false::.bool false::[]) 99 rfl rfl (by decide+kernel) (by decide+kernel) (by decide+kernel) rfl ?_ ?_
   ·refine⟨.inl ⟨rfl,?_⟩,.inl ⟨rfl,?_⟩,.inl ⟨rfl,?_⟩,.inl ⟨rfl,?_⟩,.inl ⟨rfl,?_⟩,.inl ⟨rfl,?_⟩,.inl ⟨rfl,?_⟩,.inl ⟨rfl,?_⟩,.inl ⟨rfl,?_⟩,.inl ⟨rfl,?_⟩,.inl ⟨rfl,?_⟩,.inl ⟨rfl,?_⟩,.inl ⟨rfl,?_⟩,.inl ⟨rfl,?_⟩,.inl ⟨rfl,?_⟩,.inl ⟨rfl,?_⟩,.inl ⟨rfl,?_⟩,.inl ⟨rfl,?_⟩,.inl ⟨rfl,?_⟩,.inl ⟨rfl,?_⟩,.inl ⟨rfl,?_⟩,.inl ⟨rfl,?_⟩,.inr ⟨rfl,rfl⟩,.inr ⟨rfl,rfl⟩,.inr ⟨rfl,rfl⟩,.inr ⟨rfl,rfl⟩,.inr ⟨rfl,rfl⟩,.inr ⟨rfl,rfl⟩,.inr ⟨rfl,rfl⟩,.inl ⟨rfl,?_⟩,.inl ⟨rfl,?_⟩,trivial⟩;all_goals intro done a wq hw h
    ·exact x1f4
    ·exact x9k7
    ·exact x3ys
    ·exact x31t
    ·exact x1f4
    ·have e2:=cN 4 36 h hw;refine ch_pure ?_;go_simp
    ·have e1:=cN 5 37 h hw;refine ch_pure ?_;go_simp
    ·exact x58f
    ·exact x99m
    ·exact x564
    ·exact x8fv
    ·have e2:=cN 3 35 h hw;have e42:=cN 10 42 h hw;exact ch_pick_t e2 (ch_ev e42)
    ·have e1:=cN 11 43 h hw;exact ch_move (ch_ev e1)
    ·have e2:=cO 0 (.slice (some ⟨b,o,none⟩) l.length cl) h;exact ch_move (ch_ev e2)
    ·have e1:=cN 13 45 h hw;refine ch_pure ?_;go_simp
    ·have e2:=cN 14 46 h hw;refine ch_pure ?_;go_simp
    ·have e1:=cN 15 47 h hw;have hc:=(h.bel.cell (p:=⟨b,o+1,none⟩) (by simp;omega)).trans (show w4.cell? _=some (iv x.to_) from x1);refine ch_pure ?_;go_simp
    ·have e2:=cO 3 (.pointer (some ⟨W.heap.size,0,none⟩)) h;refine ch_pure ?_;go_simp
    ·have e1:=cN 17 49 h hw;have y_:=keep1 h.bel a1.1 (by go_simp) a1.2.1;refine ch_pure ?_;go_simp
    ·have e2:=cN 16 48 h hw;have e50:=cN 18 50 h hw;exact ch_eql_int (by kernel_rfl) (ch_ev e2) (ch_ev e50) (by simp[q1])
    ·have e1:=cN 12 44 h hw;have e51:=cN 19 51 h hw;exact ch_pick_t e1 (ch_ev e51)
    ·have e2:=cN 20 52 h hw;exact ch_move (ch_ev e2)
    ·have e1:=cN 21 53 h hw;exact ch_pick_f e1 rfl
    ·have e2:=cN 29 61 h hw;exact ch_assign (ch_ev e2)
   exact x5ej
  have q1:=Decidable.not_not.1 q1;by_cases q2:¬x.of_=c.of_
  ·have hs:¬∃x,l[0]?=some x∧kin x c:=fun ⟨y,h1,h2⟩=>by
    rw[HX1.out]at h1;injection h1 with h1;subst h1;exact q2 h2.2.2
   refine wp_region_chain (by kernel_rfl) (some 32::some 33::some 34::some 35::some 36::some 37::some 38::some 39::some 40::some 41::some 42::some 43::some 44::some 45::some 46::some 47::some 48::some 49::some 50::some 51::some 52::some 53::some 54::some 55::some 56::some 57::some 58::some 59::some 60::some 61::some 7::[]) (.slice (some ⟨b,o,none⟩) l.length cl::iv (l.length:Int)::.bool true::.bool true::.slice (some ⟨b,o,none⟩) l.length cl::.pointer (some ⟨b,o,none⟩)::.pointer (some ⟨b,o,none⟩)::iv x.from_::.pointer (some ⟨W.heap.size,0,none⟩)::iv c.from_::.bool true::.bool true::.bool true::.slice (some ⟨b,o,none⟩) l.length cl::.pointer (some ⟨b,o,none⟩)::.pointer (some ⟨b,o+1,none⟩)::iv x.to_::.pointer (some ⟨W.heap.size,1,none⟩)::iv c.to_::.bool true::.bool true::.bool true::.slice (some ⟨b,o,none⟩) l.length cl::.pointer (some ⟨b,o,none⟩)::.pointer (some ⟨b,o+3,none⟩)::iv x.of_::.pointer (some ⟨W.heap.size,3,none⟩)::iv c.of_::.bool false::.bool false::.bool false::[]) 99 rfl rfl (by decide+kernel) (by decide+kernel) (by decide+kernel) rfl ?_ ?_
   ·exact x9vz
   exact x5ej
  have q2:=Decidable.not_not.1 q2;have hs:∃x,l[0]?=some x∧kin x c:=⟨x,HX1.out,q3,q1,q2⟩;refine wp_region_chain (by kernel_rfl) (some 32::some 33::some 34::some 35::some 36::some 37::some 38::some 39::some 40::some 41::some 42::some 43::some 44::some 45::some 46::some 47::some 48::some 49::some 50::some 51::some 52::some 53::some 54::some 55::some 56::some 57::some 58::some 59::some 60::some 61::some 7::[]) (.slice (some ⟨b,o,none⟩) l.length cl::iv (l.length:Int)::.bool true::.bool true::.slice (some ⟨b,o,none⟩) l.length cl::.pointer (some ⟨b,o,none⟩)::.pointer (some ⟨b,o,none⟩)::iv x.from_::.pointer (some ⟨W.heap.size,0,none⟩)::iv c.from_::.bool true::.bool true::.bool true::.slice (some ⟨b,o,none⟩) l.length cl::.pointer (some ⟨b,o,none⟩)::.pointer (some ⟨b,o+1,none⟩)::iv x.to_::.pointer (some ⟨W.heap.size,1,none⟩)::iv c.to_::.bool true::.bool true::.bool true::.slice (some ⟨b,o,none⟩) l.length cl::.pointer (some ⟨b,o,none⟩)::.pointer (some ⟨b,o+3,none⟩)::iv x.of_::.pointer (some ⟨W.heap.size,3,none⟩)::iv c.of_::.bool true::.bool true::.bool true::[]) 99 rfl rfl (by decide+kernel) (by decide+kernel) (by decide+kernel) rfl ?_ ?_
  ·exact x9vz
  intro w5 hb;simp only[putAll_some,putAll_none,putAll_nil,List.setIfInBounds_toArray,List.set_cons_zero,List.set_cons_succ];have a1:=keep1 (g:=W.heap.size) (cs:=chkA c.from_ c.to_ c.n c.of_ D c.data.length d) hb a1.1 (by go_simp) a1.2.1;have hbx:Below w4.heap.size w4 w5:=hb;have HB5:=bT HB4 hbx;have HM4:=qH (HM3.out.stays hbx);clear hb hbx;obtain⟨hv,hh⟩:=eX (l.any (fun x=>sameN x c));rw[hh]at HK1;go_wp2_with fail;refine(HK1.out _ _ (HL.out.stays (by have hs:=HB5.out.size;repeat (first|exact HB5.out|refine bA ?_ _))) a1.2.2.2.2.2 (row_at a1.2.2.2.1)).mono ?_;rintro e w6 ⟨rfl,hb⟩;have a1:=kp (W.heap.size) (chkA c.from_ c.to_ c.n c.of_ D c.data.length d) hb;have hbx:Below w5.heap.size w5 w6:=Below.trans (by repeat (first|exact Below.refl _ _|refine bA ?_ _)) (hb.mono (by first|omega|(simp<;>omega)));have HB6:=bT HB5 hbx;have HM5:=qH (HM4.out.stays hbx);clear hb hbx
  cases hv
  ·go_wp2_with fail;refine(K4.out _ _ _ (HM5.out.stays (by repeat (first|exact Below.refl _ _|refine bA ?_ _))) (HX.out.stays (by have hs:=HB6.out.size;repeat (first|exact HB6.out|refine bA ?_ _)))).mono ?_;rintro e w7 ⟨A2,c2,ds2,rfl,hg,hn,hb⟩;have a1:=kr a1 hb;have hbx:Below w6.heap.size w6 w7:=Below.trans (by repeat (first|exact Below.refl _ _|refine bA ?_ _)) (hb.mono (by first|omega|(simp<;>omega)));have HB7:=bT HB6 hbx;have HM6:=qH (HM5.out.stays hbx);have hg2:=qH (hg.chs HBm.out);clear hg hn;clear hb hbx;go_wp2_with fail;refine(K5.out _ _ _ _ _ (HM6.out.stays (by repeat (first|exact Below.refl _ _|refine bA ?_ _))) (hg2.out.stays (by repeat (first|exact Below.refl _ _|refine bA ?_ _)))).mono ?_;rintro e w8 ⟨rfl,hb⟩;have a1:=kr a1 hb;have hbx:Below w7.heap.size w7 w8:=Below.trans (by repeat (first|exact Below.refl _ _|refine bA ?_ _)) (hb.mono (by first|omega|(simp<;>omega)));have HB8:=bT HB7 hbx;have HM7:=qH (HM6.out.stays hbx);have HN1:=qH (hg2.out.stays hbx);clear hb hbx;have HE:=HN.out hs hh;have qq:((m.length:Int)==(l.length:Int)+1)=true:=by simp[HE]
   go_wp2_with fail;go_ret;refine⟨ret_bool (by simp),?_⟩;exact bZ HB8
  go_wp2_with fail;refine(K4.out _ _ _ (HM5.out.stays (by repeat (first|exact Below.refl _ _|refine bA ?_ _))) (HX.out.stays (by have hs:=HB6.out.size;repeat (first|exact HB6.out|refine bA ?_ _)))).mono ?_;rintro e w7 ⟨A2,c2,ds2,rfl,hg,hn,hb⟩;have a1:=kr a1 hb;have hbx:Below w6.heap.size w6 w7:=Below.trans (by repeat (first|exact Below.refl _ _|refine bA ?_ _)) (hb.mono (by first|omega|(simp<;>omega)));have HB7:=bT HB6 hbx;have HM6:=qH (HM5.out.stays hbx);have hg2:=qH (hg.chs HBm.out);clear hg hn;clear hb hbx;go_wp2_with fail;refine(K5.out _ _ _ _ _ (HM6.out.stays (by repeat (first|exact Below.refl _ _|refine bA ?_ _))) (hg2.out.stays (by repeat (first|exact Below.refl _ _|refine bA ?_ _)))).mono ?_;rintro e w8 ⟨rfl,hb⟩;have a1:=kr a1 hb;have hbx:Below w7.heap.size w7 w8:=Below.trans (by repeat (first|exact Below.refl _ _|refine bA ?_ _)) (hb.mono (by first|omega|(simp<;>omega)));have HB8:=bT HB7 hbx;have HM7:=qH (HM6.out.stays hbx);have HN1:=qH (hg2.out.stays hbx);clear hb hbx;have HE:=HT.out hs hh;subst HE;go_wp2_with fail;refine(K5.out _ _ _ _ _ (HM7.out.stays (by repeat (first|exact Below.refl _ _|refine bA ?_ _))) (HL.out.stays (by have hs:=HB8.out.size;repeat (first|exact HB8.out|refine bA ?_ _)))).mono ?_;rintro e w9 ⟨rfl,hb⟩;have a1:=kr a1 hb;have hbx:Below w8.heap.size w8 w9:=Below.trans (by repeat (first|exact Below.refl _ _|refine bA ?_ _)) (hb.mono (by first|omega|(simp<;>omega)));have HB9:=bT HB8 hbx;have HM8:=qH (HM7.out.stays hbx);have HN2:=qH (HN1.out.stays hbx);clear hb hbx;go_wp2_with fail;go_ret;refine⟨ret_bool (by simp),?_⟩;exact bZ HB9
 have hne:(e !=0)=true:=by simp[he]
 clear he;go_enter Try.func6,Try.ntmps6;go_wp2_with fail;refine(K1.out _ (HL.out.stays (by repeat (first|exact Below.refl _ _|refine bA ?_ _))) (HX.out.stays (by repeat (first|exact Below.refl _ _|refine bA ?_ _)))).mono ?_;rintro e w1 ⟨A1,c1,ds1,rfl,hg,hn,hb⟩;have a1:=kp (W.heap.size) (chkA c.from_ c.to_ c.n c.of_ D c.data.length d) hb;have hbx:Below W.heap.size W w1:=Below.trans (by repeat (first|exact Below.refl _ _|refine bA ?_ _)) (hb.mono (by first|omega|(simp<;>omega)));have HB1:Hid (Below W.heap.size W w1):=qH (hbx);clear hg hn;clear hb hbx;go_wp2_with fail;refine(K6.out _ (HML.out.stays (by have hs:=HB1.out.size;repeat (first|exact HB1.out|refine bA ?_ _)))).mono ?_;rintro e w2 ⟨rfl,hb⟩;have a1:=kr a1 hb;have hbx:Below w1.heap.size w1 w2:=Below.trans (by repeat (first|exact Below.refl _ _|refine bA ?_ _)) (hb.mono (by first|omega|(simp<;>omega)));have HB2:=bT HB1 hbx;clear hb hbx;go_wp2_with fail;refine(K6.out _ (HML.out.stays (by have hs:=HB2.out.size;repeat (first|exact HB2.out|refine bA ?_ _)))).mono ?_;rintro e w3 ⟨rfl,hb⟩;have a1:=kr a1 hb;exact x1zk
end Go.Proofs.Ytefkfglkpebbmac
