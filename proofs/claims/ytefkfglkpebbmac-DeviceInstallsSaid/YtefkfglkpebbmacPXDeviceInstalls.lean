/- The walk of the law DeviceInstalls. Printed by gen_dinst.py. Condition: the library's variable holds some number. -/
import Derived.Test.YtefkfglkpebbmacPMDeviceTries
import Derived.Test.YtefkfglkpebbmacPXDevInstall
set_option linter.unusedVariables false
set_option linter.unusedSimpArgs false
set_option maxRecDepth 100000
set_option maxHeartbeats 40000000
namespace Go.Proofs.Ytefkfglkpebbmac
open Go.RowKit
variable {Y:Prop}
theorem x1yz(h:Y:=by
 rintro e w' ⟨rfl,rfl⟩;exact⟨_,rfl,_,rfl,isJ_v (by decide) hJ (by simp)⟩):Y:=h
theorem x2c1(h:Y:=by
 have e4:=cO 18 (.pointer (some ⟨gr,0,none⟩)) h;refine ch_pure ?_;go_simp):Y:=h
def isJ(w0:World)(g:Nat)(v1 v3 v5:Value)(done:Nat->Bool)(cv:Nat->Value)(w:World):Prop:=
 (w=if done 8=true then w0.drew.setCell ⟨g,0,none⟩ v3 else w0.drew)∧(done 1=true->cv 1=v1)∧(done 3=true->cv 3=v3)∧(done 5=true->cv 5=v5)∧(done 7=true->cv 7=v1)
section
variable {w0 w:World} {g:Nat} {v1 v3 v5 v:Value} {done:Nat->Bool} {cv:Nat->Value}
theorem isJ_0(h:done 8=false)(hJ:isJ w0 g v1 v3 v5 done cv w):w=w0.drew:=by
 have:=hJ.1;rwa [h,if_neg (by simp)]at this
theorem isJ_v{k:Nat}(hk:k≠8)(hJ:isJ w0 g v1 v3 v5 done cv w)(hv:(k=1->v=v1)∧(k=3->v=v3)∧(k=5->v=v5)∧(k=7->v=v1)):isJ w0 g v1 v3 v5 (fun j=>if j=k then true else done j) (fun j=>if j=k then v else cv j) w:=by
 have key:∀q u,(done q=true->cv q=u)->(k=q->v=u)->(if q=k then true else done q)=true->(if q=k then v else cv q)=u:=fun q u h1 h2 h3=>by
  by_cases e:q=k
  ·rw[if_pos e];exact h2 e.symm
  rw[if_neg e]at h3⊢;exact h1 h3
 refine⟨?_,key _ _ hJ.2.1 hv.1,key _ _ hJ.2.2.1 hv.2.1,key _ _ hJ.2.2.2.1 hv.2.2.1,key _ _ hJ.2.2.2.2 hv.2.2.2⟩;have e:(if 8=k then true else done 8)=done 8:=if_neg (fun e=>hk e.symm)
 show w=if (if 8=k then true else done 8)=true then _ else _
 rw[e];exact hJ.1
theorem isJ_s(h8:done 8=false)(hJ:isJ w0 g v1 v3 v5 done cv w):isJ w0 g v1 v3 v5 (fun j=>if j=8 then true else done j) (fun j=>if j=8 then undef else cv j) (w.setCell ⟨g,0,none⟩ v3):=by
 refine⟨?_,by simpa using hJ.2.1,by simpa using hJ.2.2.1,by simpa using hJ.2.2.2.1,by simpa using hJ.2.2.2.2⟩;rw[if_pos (by simp),isJ_0 h8 hJ]
end
theorem DeviceInstalls_walk(W:World)(v0 v1 v2 v3 v4:Value)(old0 b0:LU)(tz nz kz:Int)(g0:ArgBytes W v0 old0)(g1:ArgBytes W v1 b0)(g2:v2=iv tz∧I64 tz)(g3:v3=iv nz∧I64 nz)(g4:v4=iv kz∧I64 kz)(hml:ML W):Calls Try.prog 9 #[v0,v1,v2,v3,v4] W (RetB W (.bool true)):=by
 obtain⟨A,c,rfl,hc,hl,hr⟩:=g0;obtain⟨B,e1,rfl,hd,hm,hs⟩:=g1;obtain⟨rfl,ht1,ht2⟩:=g2;obtain⟨rfl,hn1,hn2⟩:=g3;obtain⟨rfl,hk1,hk2⟩:=g4;have HI:=qH (fun w=>lawImage_calls A c old0 w hc hl);have HJ:=qH (fun w=>lawImage_calls B e1 b0 w hd hm);have HAT:=qH (fun w=>at_calls tz 30 w ht1 ht2 (by omega) (by omega));have HA1:=qH (fun w=>at_calls nz 8 w hn1 hn2 (by omega) (by omega));have R1:=qH (img_bts hr);have R2:=qH (img_bts hs);have l1:=img_len old0;have l2:=img_len b0;have c1:(img old0).length<=c:=by unfold img;rw[List.length_take];omega
 have c2:(img b0).length<=e1:=by unfold img;rw[List.length_take];omega
 have HML:=qH hml;clear hr hs hl hm hc hd hml;obtain⟨old,hold⟩:=eX (img old0);obtain⟨b,hb_⟩:=eX (img b0);rw[hold]at HI R1 l1 c1;rw[hb_]at HJ R2 l2 c2;clear hold hb_;have HW1:Hid (IntKind.i64.wrap (1+tz%30)=1+tz%30):=qH (IntWalk.i64_in _ (by omega));obtain⟨w2,hw2⟩:=eX ((W.alloc (.cells #[.slice B b0.length e1] 22)).alloc (.cells #[iv kz] 3));have HBX:Hid (∀w,w=w2.drew->w.cell? ⟨W.heap.size,0,none⟩=some (.slice B b0.length e1)∧w.frozen? ⟨W.heap.size,0,none⟩=false):=qH (fun w h=>by
  have hx:Box w W.heap.size 22 (.slice B b0.length e1):=by
   rw[h,<-hw2];exact((Box.new W 22 (.slice B b0.length e1)).alloc _).drew
  exact⟨hx.cell,hx.free⟩)
 have HSB:Hid (Below W.heap.size W w2):=qH (by rw[<-hw2];exact(bL _).alloc (by simp) _);have HSZ:Hid (w2.heap.size=W.heap.size+2):=qH (by rw[<-hw2];simp);have HBB:Hid (Box w2 W.heap.size 22 (.slice B b0.length e1)∧Box w2 (W.heap.size+1) 3 (iv kz)):=qH (by
  rw[<-hw2];refine⟨(Box.new W 22 (.slice B b0.length e1)).alloc _,?_⟩;have:=Box.new (W.alloc (.cells #[.slice B b0.length e1] 22)) 3 (iv kz);simpa using this)
 have HW2:=qH hw2;clear hw2;go_enter Try.func9,Try.ntmps9;go_wp2_with fail;rw[HW2.out];clear HW2;refine wp_region_free (by kernel_rfl) (some 20::some 21::some 22::some 23::some 24::some 25::some 26::some 0::none::some 2::[]) (false::true::false::true::false::true::false::true::true::false::[]) (.slice A old0.length c::undef::.slice B b0.length e1::undef::iv tz::undef::iv (1+tz%30)::undef::undef::iv (1+tz%30)::[]) (isJ w2 W.heap.size (.slice A old.length c) (.slice B b.length e1) (iv (tz%30))) 161 rfl rfl (by decide+kernel) (by decide+kernel) (by decide+kernel) rfl rfl (⟨by simp,by simp,by simp,by simp,by simp⟩) ?_ ?_
 ·refine⟨?_,?_,?_,?_,?_,?_,?_,?_,?_,?_,trivial⟩;all_goals intro done cv a wq hn hw hcl h hJ
  ·have e1:=fr_un (t:=0) (i:=0) (i0:=7) (v:=.slice A old0.length c) h hcl hn rfl (by decide) (by decide) rfl;exact mx_move (ch_ev e1)
  ·have e2:=fN 0 20 h hw;refine wp_call (vals:=#[.slice A old0.length c]) (by rw[List.map_toArray,List.map_cons,List.map_nil,ch_ev e2]) (enters_of Try.func68 (by kernel_rfl) rfl _ _) (HI.out _) ?_;exact x1yz
  ·have e3:=fO 6 (.pointer (some ⟨W.heap.size,0,none⟩)) h;have n1:done 8=false:=Bool.eq_false_iff.2 (fun e=>by have h3:=hcl 8 _ rfl e 3 (by decide);have h2:=hcl 3 _ rfl h3 2 (by decide);rw[hn]at h2;cases h2);obtain⟨z1,z2⟩:=HBX.out _ (isJ_0 (by simp[maskB,n1]) hJ);have hz:wq.cell? ⟨W.heap.size,0,none⟩=some (.slice B b0.length e1):=z1;go_simp
  ·have e2:=fN 2 22 h hw;refine wp_call (vals:=#[.slice B b0.length e1]) (by rw[List.map_toArray,List.map_cons,List.map_nil,ch_ev e2]) (enters_of Try.func68 (by kernel_rfl) rfl _ _) (HJ.out _) ?_;exact x1yz
  ·have e2:=fr_un (t:=2) (i:=4) (i0:=9) (v:=iv tz) h hcl hn rfl (by decide) (by decide) rfl;exact mx_move (ch_ev e2)
  ·have e3:=fN 4 24 h hw;refine wp_call (vals:=#[iv tz,iv 30]) (by rw[List.map_toArray,List.map_cons,List.map_cons,List.map_nil,ch_ev e3];rfl) (enters_of Try.func38 (by kernel_rfl) rfl _ _) (HAT.out _) ?_;exact x1yz
  ·have e2:=fr_cv (i:=5) (t:=25) h (hw 5 (by decide)) rfl rfl;have m1:=hw 5 (by decide);rw[hJ.2.2.2.1 (by simp[maskB,m1])]at e2;have hw1:=HW1.out;go_simp
  ·have e3:=fr_cv (i:=1) (t:=21) h (hw 1 (by decide)) rfl rfl;have m1:=hw 1 (by decide);rw[hJ.2.1 (by simp[maskB,m1])]at e3;refine wp_asg (v:=.slice A old.length c) (ch_ev e3) ⟨_,rfl,isJ_v (by decide) hJ (by simp)⟩
  ·have e2:=fO 6 (.pointer (some ⟨W.heap.size,0,none⟩)) h;have e23:=fr_cv (i:=3) (t:=23) h (hw 3 (by decide)) rfl rfl;have m1:=hw 3 (by decide);have n1:=hn;rw[hJ.2.2.1 (by simp[maskB,m1])]at e23;obtain⟨z1,z2⟩:=HBX.out _ (isJ_0 (by simp[maskB,n1]) hJ);refine wp_ssl e2 e23 z1 z2 ⟨undef,rfl,isJ_s (by simp[maskB,n1]) hJ⟩
  ·have e3:=fN 6 26 h hw;exact mx_assign (ch_ev e3)
 intro dn cv wL hall hJ;obtain⟨hw,-,-,-,h5⟩:=hJ;have h5:=h5 (hall 7 rfl (by decide));rw[hall 8 rfl (by decide),if_pos rfl]at hw;simp only[freeAll,putAll_some,putAll_none,putAll_nil,List.getD_cons_zero,List.getD_cons_succ,Bool.false_eq_true,if_true,if_false,reduceIte,Nat.zero_add,Nat.reduceAdd,List.setIfInBounds_toArray,List.set_cons_zero,List.set_cons_succ];rw[h5];have HBL:Hid (Below W.heap.size W wL):=qH (by rw[hw];exact(HSB.out.drew).setCell (p:=⟨W.heap.size,0,none⟩) nl _);have HRB:Hid (rowOf wL W.heap.size=#[.slice B b.length e1]∧frOf wL W.heap.size=(0,0)):=qH (by
  have hx:Box wL W.heap.size 22 (.slice B b.length e1):=by rw[hw];exact(HBB.out.1.drew).set _
  exact⟨row_of_blk hx,fr_of_blk hx⟩)
 have HRK:Hid (rowOf wL (W.heap.size+1)=#[iv kz]∧frOf wL (W.heap.size+1)=(0,0)):=qH (by
  have hx:Box wL (W.heap.size+1) 3 (iv kz):=by rw[hw];exact(HBB.out.2.drew).other (p:=⟨W.heap.size,0,none⟩) (by simp) _
  exact⟨row_of_blk hx,fr_of_blk hx⟩)
 have hsl:wL.heap.size=W.heap.size+2:=by rw[hw];simpa using HSZ.out
 obtain⟨to_,hto⟩:=eX (1+tz%30);have htr:1<=to_∧to_<=30:=by omega
 rw[hto];clear hall hw h5 hto HBB HBX HSB HSZ HW1 HAT HI HJ ht1 ht2;obtain⟨gb,hgb⟩:=eX (W.heap.size);have HGB:=qH hgb;have R1L:=qH (R1.out.stays HBL.out);have R2L:=qH (R2.out.stays HBL.out);rw[hgb]at HRB HRK hsl⊢;clear hgb;obtain⟨m1,m2,m3⟩:=trP_ok (old:=old) (b:=b) (to_:=to_) l1 l2 htr;obtain⟨k1,k2,k3⟩:=cut_ok m2;have HLN:=qH (trChunks_len (trP old b to_) (bytesOf (trP old b to_)));have K1:=qH (fun w h=>installed_calls w h);have KN:Hid (∀w,Bts w A old->Calls Try.prog 69 #[.slice A old.length c] w (DvRet w (newDev old) 0)):=qH (fun w h=>by
  exact x82s)
 have KM:Hid (∀w,Bts w A old->Bts w B b->Calls Try.prog 24 #[iv 1,iv to_,.slice A old.length c,.slice B b.length e1] w (PaRet w (trP old b to_) 0)):=qH (fun w h h2=>by
  have:=patMake_fit A B c e1 1 to_ old b w ⟨by decide,by decide⟩ ⟨by omega,by omega⟩ (by omega) (by omega) h h2;rwa [m1]at this)
 have KC:Hid (∀E e w,PatIn w (trP old b to_) E e->Calls Try.prog 33 #[.agg (patA (trP old b to_).from_ (trP old b to_).to_ (trP old b to_).old (trP old b to_).new_ (trP old b to_).size E (trP old b to_).ops.length e)] w (ChkRet2 w (chunksOf (trP old b to_) (bytesOf (trP old b to_))) 0)):=qH (fun E e w h=>by
  have:=chkCut_calls E e (trP old b to_) w h;rwa [k1]at this)
 have HCB:Hid (∀x∈chunksOf (trP old b to_) (bytesOf (trP old b to_)),ChkB x):=qH (fun x hx=>cut_bound (p:=trP old b to_) (by rw[k1];exact hx));have T1:=qH (tr_start (to_:=to_) l1 l2 htr);have TH:=qH (fun G k d=>@tr_hear old b to_ G k d);have TO:=qH (fun G k d=>@tr_open old b to_ G k d);have TF:=qH (fun (G:Int) (d:Dev) (n:Int) (h:TrW old b to_ G n d) hn hG=>tr_finish h hn hG l1 l2 htr);have TR:=qH (fun (G:Int) (d:Dev) (h:TrO old b G d) hG=>tr_reboot (to_:=to_) h hG l1 l2 htr);have HN1:Hid (1<=nOf (bytesOf (trP old b to_))∧nOf (bytesOf (trP old b to_))<=10):=qH ⟨k2,k3⟩;have HRM:=qH (tr_room (old:=old));clear m1 m2 m3 k1 k2 k3;obtain⟨P,hP⟩:=eX (trP old b to_);obtain⟨l,hl⟩:=eX (chunksOf P (bytesOf P));rw[hP]at KM KC HCB HN1 HLN;rw[hl]at HLN KC HCB;have TH1:Hid (∀G k d,TrB old b to_ G k d->∀hk:k<l.length,∃e,devHear d (l[k])=(e,0)∧TrB old b to_ G (k+1) e):=qH (fun G k d h hk=>by
  subst hP;subst hl;exact TH.out _ _ _ h hk)
 have TO1:Hid (∀G k d,TrB old b to_ G k d->l.length<=k->∃e,devOpen d=(e,0)∧TrW old b to_ G 0 e):=qH (fun G k d h hk=>by
  refine TO.out _ _ _ h ?_;rw[HLN.out]at hk;subst hP;exact hk)
 have hN:1<=l.length∧l.length<=10:=by rw[HLN.out];exact HN1.out
 obtain⟨hN1,hN2⟩:=hN;clear hP hl TH TO HLN HN1;go_wp2_with fail;refine(KN.out _ R1L.out).mono ?_;rintro e w1 ⟨L1,rfl,hf1,hb1⟩;have HFR:=qH hf1;have HB1:=qH hb1;have hg1:=hb1.size;clear hf1 hb1;go_upto_region 3 with fail
 obtain⟨w3,hw1⟩:=eX ((w1.alloc (.cells (devA (newDev old) L1) 71)).alloc (.cells #[iv 0] 24));have HD1:Hid (DeB w3 w1.heap.size (w1.heap.size+2) (newDev old) L1):=qH (DeB.start HFR.out (by rw[<-hw1];clear hw1;go_simp) (by rw[<-hw1];clear hw1;go_simp) (by omega) (by rw[<-hw1];simp) (fun k h=>by rw[<-hw1];exact(Below.heap_alloc (w1.alloc (.cells (devA (newDev old) L1) 71)) _ k (by simp;omega)).trans (Below.heap_alloc w1 _ k h)));have HE2:Hid (rowOf w3 (w1.heap.size+1)=#[iv 0]∧frOf w3 (w1.heap.size+1)=(0,0)):=qH (by rw[<-hw1];clear hw1;exact⟨by go_simp,by go_simp⟩);have HB2:Hid (Below wL.heap.size wL w3):=qH (by rw[<-hw1];exact(HB1.out.alloc hg1 _).alloc (by simp;omega) _);have hs2:w3.heap.size=w1.heap.size+2:=by rw[<-hw1];simp
 rw[hw1];obtain⟨g,hg⟩:=eX (w1.heap.size);rw[hg]at HD1 HE2 hg1 hs2⊢;clear hw1 hg HFR HB1;have b0k:=keep1 HB2.out HRB.out.1 (by go_simp) HRB.out.2;go_wp2_with fail;refine(KM.out _ (R1L.out.stays HB2.out) (R2L.out.stays HB2.out)).mono ?_;rintro e w4 ⟨A1,c3,rfl,hf1,hb2⟩;have HD2:=qH (HD1.out.below hb2);have HE3:Hid (rowOf w4 (g+1)=#[iv 0]∧frOf w4 (g+1)=(0,0)):=qH ⟨(rowOf_below (by omega) hb2).trans HE2.out.1,(frOf_below (by omega) hb2).trans HE2.out.2⟩;have HB1:=bT HB2 hb2;have hs3:g+2<=w4.heap.size:=by have:=hb2.size;omega
 have HP1:=qH hf1.now;clear hb2 hf1 HD1 HB2 HE2;go_wp2_with fail;have hba:Below w4.heap.size w4 (w4.alloc (.cells (patA P.from_ P.to_ P.old P.new_ P.size A1 P.ops.length c3) 35)):=bL _;have HD1:=qH (HD2.out.below hba);have HE2:Hid (rowOf (w4.alloc (.cells (patA P.from_ P.to_ P.old P.new_ P.size A1 P.ops.length c3) 35)) (g+1)=#[iv 0]∧frOf (w4.alloc (.cells (patA P.from_ P.to_ P.old P.new_ P.size A1 P.ops.length c3) 35)) (g+1)=(0,0)):=qH ⟨(rowOf_below (by omega) hba).trans HE3.out.1,(frOf_below (by omega) hba).trans HE3.out.2⟩;have HB2:Hid (Below wL.heap.size wL (w4.alloc (.cells (patA P.from_ P.to_ P.old P.new_ P.size A1 P.ops.length c3) 35))):=qH (HB1.out.trans (hba.mono HB1.out.size));have HP2:=qH (HP1.out.stays hba);have hs4:g+3<=(w4.alloc (.cells (patA P.from_ P.to_ P.old P.new_ P.size A1 P.ops.length c3) 35)).heap.size:=by simp;omega
 refine(KC.out _ _ _ HP2.out).mono ?_;clear hba;generalize w4.alloc (.cells (patA P.from_ P.to_ P.old P.new_ P.size A1 P.ops.length c3) 35)=w5 at *
 rintro e w6 ⟨A2,c4,ds,rfl,hgr,hea,hb2⟩;have HCH:Hid (Fresh w5.heap.size w6 (fun v=>Chs v A2 l)):=qH (Fresh.imp (hgr.fresh hea) (fun v hv=>hv.src.chs HCB.out));have hc1:=hgr.row.le;obtain⟨ab,ao,_,_,rfl,-,-,-⟩:=HCH.out.now.chk (i:=0) hN1;go_upto_region 5 with fail
 obtain⟨w7,hw1⟩:=eX (w6.alloc (.cells #[.slice (some ⟨ab,ao,none⟩) l.length c4] 43));have hb3:Below w6.heap.size w6 w7:=by rw[<-hw1];exact bL _
 have hb4:Below w5.heap.size w5 w7:=hb2.trans (hb3.mono hb2.size);have HRL:Hid (rowOf w7 w6.heap.size=#[.slice (some ⟨ab,ao,none⟩) l.length c4]∧frOf w7 w6.heap.size=(0,0)):=qH (by rw[<-hw1];clear hw1 hb4 hb3;exact⟨by go_simp,by go_simp⟩);obtain⟨bs,hbs⟩:=eX (w5.heap.size);have HCW:Hid (∀v,Kp bs w7 v->Chs v (some ⟨ab,ao,none⟩) l):=qH (fun v hv=>HCH.out v (fun k h1 h2=>(hv k (by omega) (Nat.lt_of_lt_of_le h2 hb3.size)).trans (hb3.block k h2)));have HIS1:Hid (IS wL w7 bs g (newDev old) L1 w7):=qH ⟨⟨HD1.out.below hb4,HB2.out.trans (hb4.mono HB2.out.size),Kp.refl _ _,nl⟩,(rowOf_below (by omega) hb4).trans HE2.out.1,(frOf_below (by omega) hb4).trans HE2.out.2⟩;have hgl:bs<=w6.heap.size:=by have:=hb2.size;omega
 rw[hbs]at hs4;have HML1:Hid (ML w7):=qH (HML.out.stays (HBL.out.trans (HIS1.out.ds.bel.mono HBL.out.size)));rw[hw1];obtain⟨gl,hgl_⟩:=eX (w6.heap.size);rw[hgl_]at HRL hgl⊢;clear hgr hea hb2 hb3 hb4 hw1 hbs hgl_ HD1 HB2 HE2 HP2 HD2 HB1 HE3 HP1 HCH KM KC KN HML b0k;have a1:=keep1 (bW w7) HIS1.out.er (by go_simp) HIS1.out.ef;go_wp2_with fail;refine(K1.out _ HML1.out).mono ?_;rintro e w8 ⟨rfl,hb2⟩;have HIS:=qH (HIS1.out.below hb2);clear hb2 HIS1 HML1 K1;have a2:=keep1 (bW w8) HIS.out.ds.box.row (by go_simp) HIS.out.ds.box.fr;have a1:=keep1 (bW w8) HIS.out.er (by go_simp) HIS.out.ef;have b0k:=keep1 HIS.out.ds.bel HRB.out.1 (by go_simp) HRB.out.2;go_wp2_with fail;refine(HA1.out _).mono ?_;rintro e w8_ ⟨rfl,rfl⟩;have hz2:0<=nz%8∧nz%8<=7:=by omega
 have hzw:IntKind.i64.wrap (nz%8*8)=nz%8*8:=IntWalk.i64_in _ (by omega);obtain⟨z,hz⟩:=eX (nz%8*8);have hz1:0<=z∧z%8=0∧z<=64:=by omega
 rw[hz]at hzw;have HZ:=qH hz;clear hz hz2;go_upto_region 9 with fail
 try rw[HZ.out]
 go_wp2_with fail;refine(install_calls (keep:=kz) (gl:=gl) (gb:=gb) (gk:=gb+1) hg1 (by omega) l2 (.inr ⟨hz1.1,hz1.2.1⟩) hz1.2.2 (TH1.out 1) (TO1.out 1) HRB.out HRK.out HRL.out hgl HCW.out hc1 (by omega) HIS.out T1.out).mono ?_;rintro en w9 ⟨rfl,dA,LA,hIA,hor⟩;have HIA:=qH hIA;have hs5:dA.s0=room old:=by
  rcases hor with ⟨_,_,h⟩|⟨_,n,_,h⟩
  ·exact h.s0
  exact tr_s0 h
 have HOR:=qH hor;have HEQ:Hid (∀(d:Dev) (L:DLoc) (w:World),DevIn w d L->d.s0=room old->Bts w A old->(∀W,(Instr.slice 22 (.slice L.a0 d.s0.length L.c0) none (some (iv (old.length:Int))) none).run Try.prog W=.ok (.slice L.a0 old.length L.c0) W)∧Calls Try.prog 23 #[.slice L.a0 old.length L.c0,.slice A old.length c] w (RetB w (.bool true))):=qH (fun d L w hin h0 hA=>by
  have h1:d.s0.length=64:=by rw[h0];exact room_len l1
  obtain⟨zb,zo,hA1,-⟩:=hin.b0 0 (by omega);refine⟨pre_slice (A:=L.a0) (n:=d.s0.length) (c:=L.c0) old.length rfl hin.k0 (by omega) (by omega) ⟨zb,zo,hA1⟩,?_⟩;have h2:=(bytesEqual_calls L.a0 A L.c0 c (d.s0.take old.length) old w (by rw[List.length_take];have:=hin.k0;omega) c1 (mid_take hin.b0 _) hA).mono (fun _ _ h=>h.to);rw[h0,HRM.out]at h2;simpa using h2)
 have HE1:=qH (HEQ.out dA LA w9 HIA.out.ds.box.now hs5 (R1L.out.stays HIA.out.ds.bel));clear hIA hor hs5 HIS T1;have a2:=keep1 (bW w9) HIA.out.ds.box.row (by go_simp) HIA.out.ds.box.fr;have a1:=keep1 (bW w9) HIA.out.er (by go_simp) HIA.out.ef;have b0k:=keep1 HIA.out.ds.bel HRB.out.1 (by go_simp) HRB.out.2;have hsl1:=HE1.out.1;go_wp2_with fail;refine HE1.out.2.mono ?_;rintro en w10 ⟨rfl,hb2⟩;have HIB:=qH (HIA.out.below hb2);clear hb2 hsl1 HE1 HIA;have a2:=keep1 (bW w10) HIB.out.ds.box.row (by go_simp) HIB.out.ds.box.fr;have a1:=keep1 (bW w10) HIB.out.er (by go_simp) HIB.out.ef;have b0k:=keep1 HIB.out.ds.bel HRB.out.1 (by go_simp) HRB.out.2;go_upto_if 80 with fail
 go_cut [] (fun wx=>∃(d:Dev) (L:DLoc) (n:Int),(b.length:Int)<=n∧Hid (IS wL w7 bs g d L wx)∧Hid (TrW old b to_ 2 n d))
 case first=>
  by_cases hzb:z<(b.length:Int)
  ·have q1:decide (z<(b.length:Int))=true:=decide_eq_true hzb;have htO:TrO old b 2 dA:=by
    rcases HOR.out with ⟨_,_,h⟩|⟨h,_⟩
    ·exact h
    exact absurd h (by omega)
   obtain⟨eb,h1,hru,hbu,h2⟩:=TR.out _ _ htO (by decide);have hup:dA.up=false:=htO.up;have HX:=qH h1;have HT1:=qH h2;have HRU:=qH (And.intro hru hbu);clear h1 h2 htO HOR hru hbu;go_wp2_with fail;have KH:=qH (devBoot_calls dA LA _ HIB.out.ds.box.now);rw[HX.out]at KH;refine KH.out.mono ?_;rintro en w11 ⟨L2,rfl,hf1,hb1⟩;have HI1:=qH (HIB.out.step hg1 (by omega) hb1 hf1);have a2:=kp g (devA dA LA) hb1;have a1:=kp (g+1) (#[iv 0]) hb1;clear hb1 hf1 KH HIB hup HX;go_upto_region 15 with fail
   generalize (w11.setRow g (devA eb L2)).setCell ⟨g+1,0,none⟩ (iv 0)=wa at *
   have a2:=keep1 (bW wa) HI1.out.ds.box.row (by go_simp) HI1.out.ds.box.fr;have a1:=keep1 (bW wa) HI1.out.er (by go_simp) HI1.out.ef;have b0k:=keep1 HI1.out.ds.bel HRB.out.1 (by go_simp) HRB.out.2;have hru:=HRU.out.1;have hbu:=HRU.out.2;go_wp2_with fail;refine(install_calls (keep:=kz) (gl:=gl) (gb:=gb) (gk:=gb+1) (z:= -1) hg1 (by omega) l2 (.inl rfl) (by decide) (TH1.out 2) (TO1.out 2) HRB.out HRK.out HRL.out hgl HCW.out hc1 (by omega) HI1.out HT1.out).mono ?_;rintro en w12 ⟨rfl,d1,L3,hI1,hor1⟩;have HI2:=qH hI1;have HOR:=qH hor1;clear hI1 hor1 hru hbu;go_wp2_with fail;go_meet
   case rel=>
    rcases HOR.out with ⟨h,_⟩|⟨_,n,hn,h⟩
    ·exact absurd h (by decide)
    exact⟨d1,L3,n,hn,HI2,qH h⟩
  have q1:decide (z<(b.length:Int))=false:=decide_eq_false hzb;go_wp2_with fail;go_meet
  case rel=>
   rcases HOR.out with ⟨_,h,_⟩|⟨_,n,hn,h⟩
   ·exact absurd h (by omega)
   exact⟨dA,LA,n,hn,HIB,qH (h.mono (by decide))⟩
 case rest=>
 clear HOR HIB TR a2 a1 b0k;obtain⟨d,L,n,hn,HI,HT⟩:=hcut;obtain⟨e3,h1,hs1,ht1⟩:=TF.out _ _ _ HT.out hn (by decide);have HX:=qH h1;have HT1:=qH ht1;have HS1:=qH hs1;clear h1 hs1 ht1 HT TF;have a2:=keep1 (bW wc) HI.out.ds.box.row (by go_simp) HI.out.ds.box.fr;have a1:=keep1 (bW wc) HI.out.er (by go_simp) HI.out.ef;have b0k:=keep1 HI.out.ds.bel HRB.out.1 (by go_simp) HRB.out.2;go_wp2_with fail;have KH:=qH (devFinish_calls d L false _ HI.out.ds.box.now);rw[HX.out]at KH;refine KH.out.mono ?_;rintro en w11 ⟨L2,rfl,hf1,hb2⟩;have HI1:=qH (HI.out.step hg1 (by omega) hb2 hf1);have a2:=kp g (devA d L) hb2;have a1:=kp (g+1) (#[iv 0]) hb2;clear hb2 hf1 KH HI HX;go_upto_region 18 with fail
 generalize (w11.setRow g (devA e3 L2)).setCell ⟨g+1,0,none⟩ (iv 0)=wa at *
 have a2:=keep1 (bW wa) HI1.out.ds.box.row (by go_simp) HI1.out.ds.box.fr;have a1:=keep1 (bW wa) HI1.out.er (by go_simp) HI1.out.ef;have b0k:=keep1 HI1.out.ds.bel HRB.out.1 (by go_simp) HRB.out.2;obtain⟨s2,htr1⟩:=HT1.out.try_;have hcp:=htr1.ok.cops;have hso:e3.s0=room old:=htr1.s0;have h1l:e3.s1.length=64:=htr1.ok.l1;have KR:=qH (fun w=>read_ok e3.c0 e3.c1 w hcp);have hrec:(recRead e3.c0 e3.c1).1=e3.rec_:=rfl;rw[hrec]at KR;obtain⟨rk,hrk⟩:=eX ((recRead e3.c0 e3.c1).2);rw[hrk]at KR;have HTR:=qH HT1.out.tr;have HAC:=qH HT1.out.act;have hat1:=HT1.out.at1;have hb1:e3.rec_.at_ 1=e3.rec_.b:=by unfold Rec.at_;rw[if_neg (by decide)]
 rw[hb1]at hat1;have HV1:Hid (e3.rec_.b.ver=to_):=qH (by rw[hat1]);have HV2:Hid (e3.rec_.b.size=(b.length:Int)):=qH (by rw[hat1]);generalize e3.rec_=r at *
 clear hcp hrec hrk hat1 hb1 htr1;go_wp2_with fail;refine(KR.out _).mono ?_;rintro en w12 ⟨rfl,hb1⟩;have HI2:=qH (HI1.out.below hb1);have a2:=kp g (devA e3 L2) hb1;have a1:=kp (g+1) (#[iv 0]) hb1;clear hb1 HI1 KR;go_wp2_with fail;obtain⟨w15,hw1⟩:=eX (w12.alloc (.cells (recA r) 66));have hb1:Below w12.heap.size w12 w15:=by rw[<-hw1];exact bL _
 have HI1:=qH (HI2.out.below hb1);have RR:Hid (rowOf w15 w12.heap.size=recA r∧frOf w15 w12.heap.size=(0,0)):=qH (by rw[<-hw1];exact⟨by rw[rowOf_alloc,if_pos rfl],by rw[frOf_alloc,if_pos rfl]⟩);obtain⟨gr,hgr⟩:=eX (w12.heap.size);rw[hw1,hgr];rw[hgr]at RR;clear hw1 hgr hb1 HI2 a2 a1 b0k;have RD:Hid (rowOf w15 g=devA e3 L2∧frOf w15 g=(0,0)):=qH ⟨HI1.out.ds.box.row,HI1.out.ds.box.fr⟩;have RE:Hid (rowOf w15 (g+1)=#[iv 0]∧frOf w15 (g+1)=(0,0)):=qH ⟨HI1.out.er,HI1.out.ef⟩;have RB:Hid (rowOf w15 gb=#[.slice B b.length e1]∧frOf w15 gb=(0,0)):=qH (by
  obtain⟨q1,q2,_⟩:=keep1 HI1.out.ds.bel HRB.out.1 (by go_simp) HRB.out.2;exact⟨q1,q2⟩)
 have HIN:=qH HI1.out.ds.box.now;have HSL2:=qH (HEQ.out e3 L2 w15 HIN.out hso (R1L.out.stays HI1.out.ds.bel)).1;have KE2:Hid (∀w,Below w15.drew.heap.size w15.drew w->Calls Try.prog 23 #[.slice L2.a0 old.length L2.c0,.slice A old.length c] w (RetB w (.bool true))):=qH (fun w hb=>(HEQ.out e3 L2 w (HIN.out.stays ((Below.refl _ _).drew.trans hb)) hso ((R1L.out.stays HI1.out.ds.bel).stays ((Below.refl _ _).drew.trans hb))).2);obtain⟨zb,zo,hA1,-⟩:=HIN.out.b1 0 (by omega);have HSL1:=qH (pre_slice (A:=L2.a1) (n:=e3.s1.length) (c:=L2.c1) b.length rfl HIN.out.k1 (by omega) (by omega) ⟨zb,zo,hA1⟩);have KE1:Hid (∀w,Below w15.drew.heap.size w15.drew w->Calls Try.prog 23 #[.slice L2.a1 b.length L2.c1,.slice B b.length e1] w (RetB w (.bool true))):=qH (fun w hb=>by
  have h1:=(bytesEqual_calls L2.a1 B L2.c1 e1 (e3.s1.take b.length) b w (by rw[List.length_take];have:=HIN.out.k1;omega) c2 ((mid_take HIN.out.b1 _).stays ((Below.refl _ _).drew.trans hb)) ((R2L.out.stays HI1.out.ds.bel).stays ((Below.refl _ _).drew.trans hb))).mono (fun _ _ h=>h.to);rw[HS1.out]at h1;simpa using h1)
 clear hA1 hso h1l;refine wp_region_chain (by kernel_rfl) (some 116::some 117::some 118::some 119::some 120::some 121::some 122::some 123::some 124::some 125::some 126::some 127::some 128::some 129::some 130::some 131::some 132::some 133::some 134::some 135::some 136::some 137::some 138::some 139::some 140::some 141::some 142::some 143::some 144::some 145::some 146::some 147::some 148::some 149::some 150::some 151::some 152::some 153::some 154::some 155::some 156::some 157::some 158::some 159::some 160::some 10::[]) (iv 0::.bool true::.bool true::iv 0::.bool true::.bool true::.bool true::.pointer (some ⟨gr,2,none⟩)::.bool true::.bool true::.bool true::.pointer (some ⟨gr,1,none⟩)::iv r.active::.bool true::.bool true::.bool true::.pointer (some ⟨gr,5,none⟩)::.pointer (some ⟨gr,8,none⟩)::.pointer (some ⟨gr,8,none⟩)::iv to_::iv to_::.bool true::.bool true::.bool true::.pointer (some ⟨g,0,none⟩)::.pointer (some ⟨g,1,none⟩)::.slice L2.a1 e3.s1.length L2.c1::.pointer (some ⟨gr,5,none⟩)::.pointer (some ⟨gr,8,none⟩)::.pointer (some ⟨gr,9,none⟩)::iv (b.length:Int)::.slice L2.a1 b.length L2.c1::.slice B b.length e1::.bool true::.bool true::.bool true::.pointer (some ⟨g,0,none⟩)::.pointer (some ⟨g,0,none⟩)::.slice L2.a0 e3.s0.length L2.c0::.slice A old.length c::iv (old.length:Int)::.slice L2.a0 old.length L2.c0::.slice A old.length c::.bool true::.bool true::.bool true::[]) 161 rfl rfl (by decide+kernel) (by decide+kernel) (by decide+kernel) rfl ?_ ?_
 ·refine⟨.inl ⟨rfl,?_⟩,.inl ⟨rfl,?_⟩,.inl ⟨rfl,?_⟩,.inl ⟨rfl,?_⟩,.inl ⟨rfl,?_⟩,.inl ⟨rfl,?_⟩,.inl ⟨rfl,?_⟩,.inl ⟨rfl,?_⟩,.inl ⟨rfl,?_⟩,.inl ⟨rfl,?_⟩,.inl ⟨rfl,?_⟩,.inl ⟨rfl,?_⟩,.inl ⟨rfl,?_⟩,.inl ⟨rfl,?_⟩,.inl ⟨rfl,?_⟩,.inl ⟨rfl,?_⟩,.inl ⟨rfl,?_⟩,.inl ⟨rfl,?_⟩,.inl ⟨rfl,?_⟩,.inl ⟨rfl,?_⟩,.inl ⟨rfl,?_⟩,.inl ⟨rfl,?_⟩,.inl ⟨rfl,?_⟩,.inl ⟨rfl,?_⟩,.inl ⟨rfl,?_⟩,.inl ⟨rfl,?_⟩,.inl ⟨rfl,?_⟩,.inl ⟨rfl,?_⟩,.inl ⟨rfl,?_⟩,.inl ⟨rfl,?_⟩,.inl ⟨rfl,?_⟩,.inl ⟨rfl,?_⟩,.inl ⟨rfl,?_⟩,.inl ⟨rfl,?_⟩,.inl ⟨rfl,?_⟩,.inl ⟨rfl,?_⟩,.inl ⟨rfl,?_⟩,.inl ⟨rfl,?_⟩,.inl ⟨rfl,?_⟩,.inl ⟨rfl,?_⟩,.inl ⟨rfl,?_⟩,.inl ⟨rfl,?_⟩,.inl ⟨rfl,?_⟩,.inl ⟨rfl,?_⟩,.inl ⟨rfl,?_⟩,.inl ⟨rfl,?_⟩,trivial⟩;all_goals intro done a wq hw h
  ·have e2:=cO 12 (.pointer (some ⟨g+1,0,none⟩)) h;have y_:=keep1 (g:=g+1) (cs:=#[iv 0]) h.bel RE.out.1 (by first|(go_simp;done)|simp[recA]) RE.out.2;refine ch_pure ?_;go_simp
  ·have e4:=cN 0 116 h hw;exact ch_eql_int (by kernel_rfl) (ch_ev e4) rfl (by simp)
  ·have e2:=cN 1 117 h hw;exact ch_move (ch_ev e2)
  ·have e4:=cO 14 (iv 0) h;exact ch_move (ch_ev e4)
  ·have e2:=cN 3 119 h hw;exact ch_eql_int (by kernel_rfl) (ch_ev e2) rfl (by simp)
  ·have e4:=cN 2 118 h hw;have e120:=cN 4 120 h hw;exact ch_pick_t e4 (ch_ev e120)
  ·have e2:=cN 5 121 h hw;exact ch_move (ch_ev e2)
  ·exact x2c1
  ·have e2:=cN 7 123 h hw;have y_:=keep1 (g:=gr) (cs:=recA r) h.bel RR.out.1 (by first|(go_simp;done)|simp[recA]) RR.out.2;have ht_:=HTR.out;refine ch_pure ?_;go_simp
  ·have e4:=cN 6 122 h hw;have e124:=cN 8 124 h hw;exact ch_pick_t e4 (ch_ev e124)
  ·have e2:=cN 9 125 h hw;exact ch_move (ch_ev e2)
  ·exact x2c1
  ·have e2:=cN 11 127 h hw;have y_:=keep1 (g:=gr) (cs:=recA r) h.bel RR.out.1 (by first|(go_simp;done)|simp[recA]) RR.out.2;refine ch_pure ?_;go_simp
  ·have e4:=cN 12 128 h hw;exact ch_eql_int (by kernel_rfl) (ch_ev e4) rfl (by rw[HAC.out];rfl)
  ·have e2:=cN 10 126 h hw;have e129:=cN 13 129 h hw;exact ch_pick_t e2 (ch_ev e129)
  ·have e4:=cN 14 130 h hw;exact ch_move (ch_ev e4)
  ·have e2:=cO 18 (.pointer (some ⟨gr,0,none⟩)) h;refine ch_pure ?_;go_simp
  ·have e4:=cN 16 132 h hw;refine ch_pure ?_;go_simp
  ·have e2:=cN 17 133 h hw;refine ch_pure ?_;go_simp
  ·have e4:=cN 18 134 h hw;have y_:=keep1 (g:=gr) (cs:=recA r) h.bel RR.out.1 (by first|(go_simp;done)|simp[recA]) RR.out.2;have hv_:=HV1.out;refine ch_pure ?_;go_simp
  ·have e2:=cO 2 (iv to_) h;exact ch_move (ch_ev e2)
  ·have e4:=cN 19 135 h hw;have e136:=cN 20 136 h hw;exact ch_eql_int (by kernel_rfl) (ch_ev e4) (ch_ev e136) (by simp)
  ·have e2:=cN 15 131 h hw;have e137:=cN 21 137 h hw;exact ch_pick_t e2 (ch_ev e137)
  ·have e4:=cN 22 138 h hw;exact ch_move (ch_ev e4)
  ·have e2:=cO 11 (.pointer (some ⟨g,0,none⟩)) h;refine ch_pure ?_;go_simp
  ·have e4:=cN 24 140 h hw;refine ch_pure ?_;go_simp
  ·have e2:=cN 25 141 h hw;have y_:=keep1 (g:=g) (cs:=devA e3 L2) h.bel RD.out.1 (by first|(go_simp;done)|simp[recA]) RD.out.2;refine ch_pure ?_;go_simp
  ·exact x2c1
  ·have e2:=cN 27 143 h hw;refine ch_pure ?_;go_simp
  ·have e4:=cN 28 144 h hw;refine ch_pure ?_;go_simp
  ·have e2:=cN 29 145 h hw;have y_:=keep1 (g:=gr) (cs:=recA r) h.bel RR.out.1 (by first|(go_simp;done)|simp[recA]) RR.out.2;have hv_:=HV2.out;refine ch_pure ?_;go_simp
  ·have e4:=cN 26 142 h hw;have e146:=cN 30 146 h hw;have hs_:=HSL1.out;refine ch_pure ?_;go_simp
  ·have e2:=cO 6 (.pointer (some ⟨gb,0,none⟩)) h;have y_:=keep1 (g:=gb) (cs:=#[.slice B b.length e1]) h.bel RB.out.1 (by first|(go_simp;done)|simp[recA]) RB.out.2;refine ch_pure ?_;go_simp
  ·have e4:=cN 31 147 h hw;have e148:=cN 32 148 h hw;exact ch_call (by go_simp) (by go_simp) (KE1.out _ h.bel)
  ·have e2:=cN 23 139 h hw;have e149:=cN 33 149 h hw;exact ch_pick_t e2 (ch_ev e149)
  ·have e4:=cN 34 150 h hw;exact ch_move (ch_ev e4)
  ·have e2:=cO 11 (.pointer (some ⟨g,0,none⟩)) h;refine ch_pure ?_;go_simp
  ·have e4:=cN 36 152 h hw;refine ch_pure ?_;go_simp
  ·have e2:=cN 37 153 h hw;have y_:=keep1 (g:=g) (cs:=devA e3 L2) h.bel RD.out.1 (by first|(go_simp;done)|simp[recA]) RD.out.2;refine ch_pure ?_;go_simp
  ·have e1:=cO 0 (.slice A old.length c) h;exact ch_move (ch_ev e1)
  ·have e2:=cN 39 155 h hw;refine ch_pure ?_;go_simp
  ·have e4:=cN 38 154 h hw;have e156:=cN 40 156 h hw;have hs_:=HSL2.out;refine ch_pure ?_;go_simp
  ·have e1:=cO 0 (.slice A old.length c) h;exact ch_move (ch_ev e1)
  ·have e2:=cN 41 157 h hw;have e158:=cN 42 158 h hw;exact ch_call (by go_simp) (by go_simp) (KE2.out _ h.bel)
  ·have e4:=cN 35 151 h hw;have e159:=cN 43 159 h hw;exact ch_pick_t e4 (ch_ev e159)
  ·have e2:=cN 44 160 h hw;exact ch_assign (ch_ev e2)
 intro w13 hb;simp only[putAll_some,putAll_none,putAll_nil,List.setIfInBounds_toArray,List.set_cons_zero,List.set_cons_succ];have HBE:Hid (Below W.heap.size W w13):=qH (HBL.out.trans ((HI1.out.ds.bel.trans (hb.mono HI1.out.ds.bel.size)).mono HBL.out.size));clear hb;go_wp2_with fail;go_ret;exact⟨rfl,HBE.out⟩
end Go.Proofs.Ytefkfglkpebbmac
