/- Walks of functions, and plain words. No conditions. -/
import Derived.Test.YtefkfglkpebbmacGreatP10
import Derived.Test.YtefkfglkpebbmacGreatP11
set_option linter.unusedVariables false
set_option linter.unusedSimpArgs false
set_option maxRecDepth 100000
set_option maxHeartbeats 40000000
namespace Go.Proofs.YtefkfglkpebbmacGreat
open Go.RowKit
variable {Y:Prop}
def inV(x:Option Addr×Nat):Nat->Value
 |6=>.tuple #[.agg (patA iP.from_ iP.to_ iP.old iP.new_ iP.size x.1 iP.ops.length x.2),iv 0]
 |7=>.tuple #[.agg (patA iP.from_ iP.to_ iP.old iP.new_ iP.size x.1 iP.ops.length x.2),iv 0]
 |8=>.agg (patA iP.from_ iP.to_ iP.old iP.new_ iP.size x.1 iP.ops.length x.2)
 |9=>iv 0
 |12=>iv 0
 |_=>undef
def inV6(x:DLoc):Nat->Value
 |4=>.tuple #[.agg (devA iD1 x),iv 0]
 |5=>.tuple #[.agg (devA iD1 x),iv 0]
 |6=>.agg (devA iD1 x)
 |7=>iv 0
 |9=>iv 0
 |_=>undef
theorem installed_calls(W:World)(hml:ML W):Calls Tryz.prog 6 #[] W (RetB W (.bool true)):=by
 have HML:=qH hml;have KM:Hid (∀A B c d w,ML w->im0.length<=c->im1.length<=d->Bts w A im0->Bts w B im1->Calls Tryz.prog 32 #[iv 1,iv 2,.slice A im0.length c,.slice B im1.length d] w (PaRet w iP 0)):=qH (fun A B c d w h1 h2 h3 h4 h5=>by
  have:=refMade_calls A B c d 1 2 im0 im1 w h1 h2 h3 ⟨by decide,by decide⟩ ⟨by decide,by decide⟩ (by decide) (by decide) h4 h5;rwa [inst_made]at this)
 have KN:Hid (∀A c w,Bts w A im0->Calls Tryz.prog 4 #[.slice A im0.length c] w (DvRet w iD0 0)):=qH (fun A c w h=>by
  have:=devNew_calls A c im0 w (by decide) h;rwa [inst_new]at this)
 have KC:Hid (∀A c w,PatIn w iP A c->Calls Tryz.prog 33 #[.agg (patA iP.from_ iP.to_ iP.old iP.new_ iP.size A iP.ops.length c)] w (fun en w'=>∃b o c B e,en=.returned (.tuple #[.slice (some ⟨b,o,none⟩) 1 c,iv 0])∧1<=c∧b<w'.heap.size∧ChkAt w' b o iC B e∧ChkIn w' iC B e∧Below w.heap.size w w')):=qH (fun A c w h=>by
  have h1:=refChunks_calls A c iP w h;rw[inst_cut]at h1;refine h1.mono ?_;rintro en w' ⟨A,c,ds,rfl,hg,he,hb⟩;have hcb:∀x∈[iC],ChkB x:=fun x hx=>cut_bound (p:=iP) (by rw[inst_cut];exact hx);obtain⟨b,o,B,e,rfl,hbl,hat,hin⟩:=(hg.src.chs hcb).chk (i:=0) (by decide);rw[Nat.zero_mul,Nat.add_zero]at hat;exact⟨b,o,c,B,e,rfl,hg.row.le,hbl,hat,hin,hb⟩)
 have KH:Hid (∀L B e w,DevIn w iD0 L->ChkIn w iC B e->Calls Tryz.prog 12 #[.agg (devA iD0 L),.agg (chkA iC.from_ iC.to_ iC.n iC.of_ B iC.data.length e)] w (DvRet w iD1 0)):=qH (fun L B e w h h2=>by
  have:=devHear_calls iD0 L iC B e w h h2;rwa [inst_hear]at this)
 have KOp:Hid (∀L w,DevIn w iD1 L->Calls Tryz.prog 13 #[.agg (devA iD1 L)] w (DvRet w iD2 0)):=qH (fun L w h=>by
  have:=devOpen_calls iD1 L w h;rwa [inst_open]at this)
 have KWr:Hid (∀L w,DevIn w iD2 L->Calls Tryz.prog 14 #[.agg (devA iD2 L),.bool false,iv 0] w (DvRet w iD3 0)):=qH (fun L w h=>by
  have:=devWrite_calls iD2 L false 0 w h;rwa [inst_write]at this)
 have KWr1:Hid (∀L w,DevIn w iD3 L->Calls Tryz.prog 14 #[.agg (devA iD3 L),.bool false,iv 0] w (DvRet w iD4 0)):=qH (fun L w h=>by
  have:=devWrite_calls iD3 L false 0 w h;rwa [inst_write2]at this)
 have KFi:Hid (∀L w,DevIn w iD4 L->Calls Tryz.prog 15 #[.agg (devA iD4 L),.bool false] w (DvRet w iD5 0)):=qH (fun L w h=>by
  have:=devFinish_calls iD4 L false w h;rwa [inst_finish]at this)
 have KCr:Hid (∀L w,DevIn w iD5 L->Calls Tryz.prog 17 #[.agg (devA iD5 L)] w (DvRet w iD6 0)):=qH (fun L w h=>by
  have:=devCrash_calls iD5 L w h;rwa [inst_crash]at this)
 have KBo:Hid (∀L w,DevIn w iD6 L->Calls Tryz.prog 18 #[.agg (devA iD6 L)] w (DvRet w iD7 0)):=qH (fun L w h=>by
  have:=devBoot_calls iD6 L w h;rwa [inst_boot]at this)
 have KCo:Hid (∀L w,DevIn w iD7 L->Calls Tryz.prog 16 #[.agg (devA iD7 L)] w (DvRet w iD8 0)):=qH (fun L w h=>by
  have:=devConfirm_calls iD7 L w h;rwa [inst_confirm]at this)
 have KLa:Hid (∀L w,DevIn w iD3 L->Calls Tryz.prog 15 #[.agg (devA iD3 L),.bool false] w (DvRet w (devFinish iD3 false).1 5)):=qH (fun L w h=>by
  have:=devFinish_calls iD3 L false w h;rwa [inst_late]at this)
 have KCk:Hid (∀L w,DevIn w iD8 L->Calls Tryz.prog 7 #[.agg (devA iD8 L)] w (RetB w (iv 0))):=qH (fun L w h=>by
  have:=devCheck_calls iD8 L w h;rwa [inst_end.2.2]at this)
 have HL1:Hid (im0.length=8∧im1.length=9):=qH ⟨rfl,rfl⟩;clear hml;go_enter Tryz.func6,Tryz.ntmps6;go_wp2_with fail;refine(lawImages_calls _).mono ?_;rintro e wa ⟨A,c,rfl,hc,hi,hb1⟩;obtain⟨b2,o2,B3,m11,rfl,hbl,hcell,hm1,hbt⟩:=hi.at_ (n:=0) (by decide);have hlen:ims.length=3:=rfl;have p1:wa.cell? ⟨b2,o2,none⟩=some (.slice B3 im0.length m11):=by
  have h:wa.cell? ⟨b2,o2+0,none⟩=some (.slice B3 im0.length m11):=hcell;simpa using h
 have HBT:Hid (Bts wa B3 im0):=qH hbt;have HB1:=qH hb1;have HLEN:=qH hlen;rw[hlen]at hc⊢;clear hb1 hi hbt hcell hlen;go_wp2_with fail;refine(KN.out _ _ _ HBT.out).mono ?_;rintro e wb ⟨L9,rfl,hf1,hb⟩;have HB2:=bT HB1 hb;have HF1:=qH hf1;have hsb:W.heap.size<=wb.heap.size:=HB2.out.size;clear hb hf1 HBT p1 hbl hc hm1;go_wp2_with fail;obtain⟨w1,hw1⟩:=eX (wb.alloc (.cells (devA iD0 L9) 37));obtain⟨g1,hg1⟩:=eX (wb.heap.size);have HR1:Hid (rowOf w1 g1=devA iD0 L9∧frOf w1 g1=(0,0)):=qH (by rw[<-hw1,<-hg1];exact⟨by rw[rowOf_alloc,if_pos rfl],by rw[frOf_alloc,if_pos rfl]⟩);have HB3:Hid (Below W.heap.size W w1∧W.heap.size<=g1∧g1<w1.heap.size):=qH (by
  rw[<-hw1,<-hg1];exact⟨HB2.out.alloc hsb _,hsb,by simp⟩)
 have HD1:Hid (DevIn w1 iD0 L9):=qH (by rw[<-hw1];exact HF1.out.now.stays (bL _));have HML1:Hid (ML w1):=qH (HML.out.stays HB3.out.1);rw[hw1];try rw[hg1]
 clear hw1 hg1 HB2 HF1 HB1 hsb;refine wp_region_free (by kernel_rfl) (some 23::some 24::some 25::some 26::some 27::some 28::some 29::some 22::some 30::some 31::some 3::none::some 4::[]) (true::true::true::true::true::true::true::true::true::true::true::true::true::[]) (undef::undef::undef::undef::undef::undef::undef::undef::undef::undef::undef::undef::undef::[]) (fun dn cv w=>tbJ w1 6 10 11 [6,7,8,9,12] inV (fun x=>patA iP.from_ iP.to_ iP.old iP.new_ iP.size x.1 iP.ops.length x.2) (patA 0 0 0 0 0 none 0 0) (fun x v=>PatIn v iP x.1 x.2) dn cv w∧(dn 6=false->imC 0 1 2 0 im0 dn cv w∧imC 3 4 5 1 im1 dn cv w)) 157 rfl rfl (by decide+kernel) (by decide+kernel) (by decide+kernel) rfl rfl (⟨tbJ_start (none,0),fun _=>⟨⟨fun e=>by simp at e,fun e=>by simp at e⟩,⟨fun e=>by simp at e,fun e=>by simp at e⟩⟩⟩) ?_ ?_
 ·refine⟨?_,?_,?_,?_,?_,?_,?_,?_,?_,?_,?_,?_,?_,trivial⟩;all_goals intro done cv a wq hn hw hcl h hJ
  ·have n3:=hn;have n1:=nW 1 0 hcl n3;have n2:=nW 2 1 hcl n1;have n4:=nW 6 2 hcl n2;refine wp_call (vals:=#[]) (by simp) (enters_of Tryz.func31 (by kernel_rfl) rfl _ _) (lawImages_calls _) ?_;rintro e w' ⟨A,c,rfl,hc,hi,hb⟩;obtain⟨b,o,rfl⟩:∃b o,A=some ⟨b,o,none⟩:=by
    obtain⟨b,o,h1,_⟩:=hi 0 (by decide);exact⟨b,o,h1⟩
   exact⟨_,rfl,_,rfl,tbJ_o (by decide) (by decide) (by decide) (by simp) hJ.1 hb,fun _=>⟨imC_0 (b:=b) (o:=o) (c:=c) (by decide) (by decide) (by simp[maskB,n1]) (by simp[maskB,n2]) rfl hc hi,imC_o (by decide) (by decide) (by decide) (hJ.2 (by simp[maskB,n4])).2 hb⟩⟩
  ·have e1:=fr_cv (i:=0) (t:=23) h (hw 0 (by decide)) rfl rfl;have n1:=hn;have n2:=nW 2 1 hcl n1;have n3:=nW 6 2 hcl n2;have m1:=hw 0 (by decide);obtain⟨b,o,c,y1,hc,hk⟩:=imC_1 (by decide) (by decide) (by simp[maskB,m1]) (by simp[maskB,n2]) (hJ.2 (by simp[maskB,n3])).1;rw[y1]at e1;have k1:(0:Int)<=3:=by decide
   refine wp_val (v:=.pointer (some ⟨b,o+0,none⟩)) (by go_simp) ⟨_,rfl,tbJ_o (by decide) (by decide) (by decide) (by simp) hJ.1 (Below.refl _ _),fun _=>⟨hk _ rfl,imC_o (by decide) (by decide) (by decide) (hJ.2 (by simp[maskB,n3])).2 (Below.refl _ _)⟩⟩
  ·have e2:=fr_cv (i:=1) (t:=24) h (hw 1 (by decide)) rfl rfl;have n1:=hn;have n2:=nW 6 2 hcl n1;have m1:=hw 1 (by decide);have m2:=hcl 1 _ rfl m1 0 (by decide);obtain⟨b,o,B,m,y1,hcell,hk⟩:=imC_2 (by decide) (by decide) (by simp[maskB,m2]) (by simp[maskB,m1]) (by decide) rfl (hJ.2 (by simp[maskB,n2])).1;try rw[Nat.add_zero]at hcell y1
   rw[y1]at e2;refine wp_val (v:=.slice B (im0).length m) (by go_simp) ⟨_,rfl,tbJ_o (by decide) (by decide) (by decide) (by simp) hJ.1 (Below.refl _ _),fun _=>⟨hk _ rfl,imC_o (by decide) (by decide) (by decide) (hJ.2 (by simp[maskB,n2])).2 (Below.refl _ _)⟩⟩
  ·have n3:=hn;have n1:=nW 4 3 hcl n3;have n2:=nW 5 4 hcl n1;have n4:=nW 6 5 hcl n2;refine wp_call (vals:=#[]) (by simp) (enters_of Tryz.func31 (by kernel_rfl) rfl _ _) (lawImages_calls _) ?_;rintro e w' ⟨A,c,rfl,hc,hi,hb⟩;obtain⟨b,o,rfl⟩:∃b o,A=some ⟨b,o,none⟩:=by
    obtain⟨b,o,h1,_⟩:=hi 0 (by decide);exact⟨b,o,h1⟩
   exact⟨_,rfl,_,rfl,tbJ_o (by decide) (by decide) (by decide) (by simp) hJ.1 hb,fun _=>⟨imC_o (by decide) (by decide) (by decide) (hJ.2 (by simp[maskB,n4])).1 hb,imC_0 (b:=b) (o:=o) (c:=c) (by decide) (by decide) (by simp[maskB,n1]) (by simp[maskB,n2]) rfl hc hi⟩⟩
  ·have e1:=fr_cv (i:=3) (t:=26) h (hw 3 (by decide)) rfl rfl;have n1:=hn;have n2:=nW 5 4 hcl n1;have n3:=nW 6 5 hcl n2;have m1:=hw 3 (by decide);obtain⟨b,o,c,y1,hc,hk⟩:=imC_1 (by decide) (by decide) (by simp[maskB,m1]) (by simp[maskB,n2]) (hJ.2 (by simp[maskB,n3])).2;rw[y1]at e1;have k1:(0:Int)<=3:=by decide
   refine wp_val (v:=.pointer (some ⟨b,o+1,none⟩)) (by go_simp) ⟨_,rfl,tbJ_o (by decide) (by decide) (by decide) (by simp) hJ.1 (Below.refl _ _),fun _=>⟨imC_o (by decide) (by decide) (by decide) (hJ.2 (by simp[maskB,n3])).1 (Below.refl _ _),hk _ rfl⟩⟩
  ·have e2:=fr_cv (i:=4) (t:=27) h (hw 4 (by decide)) rfl rfl;have n1:=hn;have n2:=nW 6 5 hcl n1;have m1:=hw 4 (by decide);have m2:=hcl 4 _ rfl m1 3 (by decide);obtain⟨b,o,B,m,y1,hcell,hk⟩:=imC_2 (by decide) (by decide) (by simp[maskB,m2]) (by simp[maskB,m1]) (by decide) rfl (hJ.2 (by simp[maskB,n2])).2;try rw[Nat.add_zero]at hcell y1
   rw[y1]at e2;refine wp_val (v:=.slice B (im1).length m) (by go_simp) ⟨_,rfl,tbJ_o (by decide) (by decide) (by decide) (by simp) hJ.1 (Below.refl _ _),fun _=>⟨imC_o (by decide) (by decide) (by decide) (hJ.2 (by simp[maskB,n2])).1 (Below.refl _ _),hk _ rfl⟩⟩
  ·have e1:=fr_cv (i:=2) (t:=25) h (hw 2 (by decide)) rfl rfl;have e28:=fr_cv (i:=5) (t:=28) h (hw 5 (by decide)) rfl rfl;have n1:=hn;have n2:=nW 7 6 hcl n1;have n3:=nW 8 7 hcl n2;have n4:=nW 9 7 hcl n2;have n5:=nW 12 9 hcl n4;have n6:=nW 11 8 hcl n3;have m2:=hw 2 (by decide);have m3:=hw 5 (by decide);obtain⟨hq1,hq2⟩:=hJ.2 (by simp[maskB,n1]);obtain⟨B1,m1,y1,z1,hb1⟩:=hq1.2 (by simp[maskB,m2]);obtain⟨B2,m2_,y2,z2,hb2⟩:=hq2.2 (by simp[maskB,m3]);rw[y1]at e1;rw[y2]at e28;have hi_:∀j∈[6,7,8,9,12],j≠6->maskB [true,true,true,true,true,true,true,true,true,true,true,true,true] done j=false:=by
    intro j hj hne;simp only[List.mem_cons,List.not_mem_nil,or_false]at hj;rcases hj with rfl|rfl|rfl|rfl|rfl
    ·exact absurd rfl hne
    ·exact(by simp[maskB,n2])
    ·exact(by simp[maskB,n3])
    ·exact(by simp[maskB,n4])
    exact(by simp[maskB,n5])
   refine wp_call (vals:=#[iv 1,iv 2,.slice B1 im0.length m1,.slice B2 im1.length m2_]) (by rw[List.map_toArray,List.map_cons,List.map_cons,List.map_cons,List.map_cons,List.map_nil,ch_ev e1,ch_ev e28];rfl) (enters_of Tryz.func32 (by kernel_rfl) rfl _ _) (KM.out _ _ _ _ _ (HML1.out.stays (tbJ_bel hJ.1)) z1 z2 hb1 hb2) ?_;rintro e w' ⟨A,c,rfl,hf,hb⟩;exact⟨_,rfl,_,rfl,tbJ_c hi_ (by simp[maskB,n6]) (by decide) (by decide) hJ.1 (x:=(A,c)) rfl hf hb,fun e=>by simp at e⟩
  ·have e2:=fr_cv (i:=6) (t:=29) h (hw 6 (by decide)) rfl rfl;have m1:=hw 6 (by decide);obtain⟨x,hv,hJ1⟩:=tbJ_k (k:=7) (by simp[maskB,m1]) (by decide) (by decide) (by decide) hJ.1;have yv:cv 6=.tuple #[.agg (patA iP.from_ iP.to_ iP.old iP.new_ iP.size x.1 iP.ops.length x.2),iv 0]:=hv 6 (by simp) (by simp[maskB,m1]);rw[yv]at e2;refine wp_val (v:=_) (mx_move (ch_ev e2)) ⟨_,rfl,hJ1 _ rfl,fun e=>by simp[maskB,m1]at e⟩
  ·have e1:=fr_cv (i:=7) (t:=22) h (hw 7 (by decide)) rfl rfl;have m1:=hw 7 (by decide);have m2:=hcl 7 _ rfl m1 6 (by decide);obtain⟨x,hv,hJ1⟩:=tbJ_k (k:=8) (by simp[maskB,m2]) (by decide) (by decide) (by decide) hJ.1;have yv:cv 7=.tuple #[.agg (patA iP.from_ iP.to_ iP.old iP.new_ iP.size x.1 iP.ops.length x.2),iv 0]:=hv 7 (by simp) (by simp[maskB,m1]);rw[yv]at e1;refine wp_val (v:=.agg (patA iP.from_ iP.to_ iP.old iP.new_ iP.size x.1 iP.ops.length x.2)) ?_ ⟨_,rfl,hJ1 _ rfl,fun e=>by simp[maskB,m2]at e⟩;go_simp
  ·have e2:=fr_cv (i:=7) (t:=22) h (hw 7 (by decide)) rfl rfl;have m1:=hw 7 (by decide);have m2:=hcl 7 _ rfl m1 6 (by decide);obtain⟨x,hv,hJ1⟩:=tbJ_k (k:=9) (by simp[maskB,m2]) (by decide) (by decide) (by decide) hJ.1;have yv:cv 7=.tuple #[.agg (patA iP.from_ iP.to_ iP.old iP.new_ iP.size x.1 iP.ops.length x.2),iv 0]:=hv 7 (by simp) (by simp[maskB,m1]);rw[yv]at e2;refine wp_val (v:=iv 0) ?_ ⟨_,rfl,hJ1 _ rfl,fun e=>by simp[maskB,m2]at e⟩;go_simp
  ·have n1:=hn;have n2:=nW 11 10 hcl n1;refine wp_alloc (zr:=patA 0 0 0 0 0 none 0 0) (fun ev=>by go_simp) ⟨_,rfl,tbJ_a (by simp[maskB,n1]) (by simp[maskB,n2]) (by simp) (by decide) (by decide) hJ.1,fun e=>?_⟩;have e1:maskB [true,true,true,true,true,true,true,true,true,true,true,true,true] done 6=false:=by simpa using e
   obtain⟨q1,q2⟩:=hJ.2 e1;exact⟨imC_o (by decide) (by decide) (by decide) q1 (bL _),imC_o (by decide) (by decide) (by decide) q2 (bL _)⟩
  ·have e2:=fr_cv (i:=10) (t:=3) h (hw 10 (by decide)) rfl rfl;have e30:=fr_cv (i:=8) (t:=30) h (hw 8 (by decide)) rfl rfl;have n1:=hn;have m1:=hw 10 (by decide);have m2:=hw 8 (by decide);have m3:=hcl 8 _ rfl m2 7 (by decide);have m4:=hcl 7 _ rfl m3 6 (by decide);obtain⟨x,gb_,yb_,hv,r_,f_,hJ1⟩:=tbJ_s (by go_simp) (by simp[maskB,m4]) (by simp[maskB,n1]) (by simp[maskB,m1]) (by simp) (by decide) (by decide) hJ.1;rw[yb_]at e2;have yv:cv 8=.agg (patA iP.from_ iP.to_ iP.old iP.new_ iP.size x.1 iP.ops.length x.2):=hv 8 (by simp) (by simp[maskB,m2]);rw[yv]at e30;refine wp_srow e2 e30 (by go_simp) (by go_simp) r_ (by go_simp) f_ (by go_simp) ⟨undef,rfl,?_⟩;rw[splice_all _ _ (by go_simp)];exact⟨hJ1 undef,fun e=>by simp[maskB,m4]at e⟩
  ·have e1:=fr_cv (i:=9) (t:=31) h (hw 9 (by decide)) rfl rfl;have m1:=hw 9 (by decide);have m2:=hcl 9 _ rfl m1 7 (by decide);have m3:=hcl 7 _ rfl m2 6 (by decide);obtain⟨x,hv,hJ1⟩:=tbJ_k (k:=12) (by simp[maskB,m3]) (by decide) (by decide) (by decide) hJ.1;have yv:cv 9=iv 0:=hv 9 (by simp) (by simp[maskB,m1]);rw[yv]at e1;refine wp_asg (v:=_) (ch_ev e1) ⟨_,rfl,hJ1 _ rfl,fun e=>by simp[maskB,m3]at e⟩
 intro dn cv w2 hall hJ;obtain⟨x,b_,g2,w2_,hv,v3,hrow,hfr,hg1,hg2,hbel,hbb,hfre,hkp,hsz1,hap⟩:=tbJ_end (hall 6 rfl (by decide)) (hall 10 rfl (by decide)) (hall 11 rfl (by decide)) hJ.1;have v4:cv 12=iv 0:=hv 12 (by simp) (hall 12 rfl (by decide));have hF:=hfre.kp hkp hbb hsz1;simp only[freeAll,putAll_some,putAll_none,putAll_nil,List.getD_cons_zero,List.getD_cons_succ,Bool.false_eq_true,if_true,if_false,reduceIte,Nat.zero_add,Nat.reduceAdd,List.setIfInBounds_toArray,List.set_cons_zero,List.set_cons_succ];rw[v3,v4];obtain⟨A1,c2⟩:=x;dsimp only at hrow hF⊢;obtain⟨a0r,a0f,a0n,a0c,a0z,a0l⟩:=keep1 (g:=g1) (cs:=devA iD0 L9) hbel HR1.out.1 (by go_simp) HR1.out.2;have HB1:Hid (Below W.heap.size W w2):=qH (HB3.out.1.trans (hbel.mono HB3.out.1.size));have HD2:=qH (HD1.out.stays hbel);have HP1:=qH hF.now;clear hJ hv v3 v4 hall hfre hkp hsz1 hap hbb hbel hF;generalize cv=cw at *
 go_wp2_with fail;refine(KC.out _ _ _ HP1.out).mono ?_;rintro e w3 ⟨bl,ol,cl,Bc,ec,rfl,hcl1,hbl,hat,hin,hb⟩;obtain⟨a0r,a0f,a0n,a0c,a0z,a0l⟩:=keep1 (g:=g1) (cs:=devA iD0 L9) hb a0r (by go_simp) a0f;have HB2:=bT HB1 hb;have HD3:=qH (HD2.out.stays hb);have HCK:=qH hin;have HCA:Hid (∀wq,Below w3.heap.size w3 wq->ChkAt wq bl ol iC Bc ec):=qH (fun wq hq=>hat.stays hbl hq);have HLC:=qH hcl1;have HR2:Hid (rowOf w3 g1=devA iD0 L9∧frOf w3 g1=(0,0)):=qH ⟨a0r,a0f⟩;clear hb hat hin hrow hfr hg1 hg2 hbl hcl1;go_wp2_with fail;refine wp_region_free (by kernel_rfl) (some 53::some 54::some 55::some 56::some 57::some 52::some 58::some 59::none::some 2::[]) (false::false::false::false::true::true::true::true::true::true::[]) (.agg (devA iD0 L9)::.slice (some ⟨bl,ol,none⟩) 1 cl::.pointer (some ⟨bl,ol,none⟩)::.agg (chkA iC.from_ iC.to_ iC.n iC.of_ Bc iC.data.length ec)::undef::undef::undef::undef::undef::undef::[]) (tlJ [] 4 8 (fun _ _ w=>Below w3.heap.size w3 w) (fun x w=>Fresh w3.heap.size w (fun v=>DevIn v iD1 x)∧Below w3.heap.size w3 w) [4,5,6,7,9] inV6 (fun x w=>w.setRow g1 (devA iD1 x))) 157 rfl rfl (by decide+kernel) (by decide+kernel) (by decide+kernel) rfl rfl (tl_start ((Below.refl _ _).drew)) ?_ ?_
 ·refine⟨?_,?_,?_,?_,?_,?_,?_,?_,?_,?_,trivial⟩;all_goals intro done cv a wq hn hw hcl h hJ
  ·have e1:=fO 1 (.pointer (some ⟨g1,0,none⟩)) h;have n1:=hn;have n2:=nW 4 0 hcl n1;have hP:=tl_pre hJ (by simp[maskB,n2]);have b0k:=keep1 (g:=g1) (cs:=devA iD0 L9) hP HR2.out.1 (by go_simp) HR2.out.2;go_simp
  ·have e2:=fO 5 (.slice (some ⟨bl,ol,none⟩) 1 cl) h;exact mx_move (ch_ev e2)
  ·have e1:=fN 1 54 h hw;have k1:=HLC.out;go_simp
  ·have e2:=fN 2 55 h hw;have n1:=hn;have n2:=nW 4 3 hcl n1;have hP:=tl_pre hJ (by simp[maskB,n2]);obtain⟨y5,y1,y2,y3,y4⟩:=HCA.out _ hP;go_simp
  ·have e1:=fN 0 53 h hw;have e56:=fN 3 56 h hw;have n1:=hn;have n2:=nW 5 4 hcl n1;have n3:=nW 6 5 hcl n2;have n4:=nW 7 5 hcl n2;have n5:=nW 8 6 hcl n3;have n6:=nW 9 7 hcl n4;have hP:=tl_pre hJ (by simp[maskB,n1]);have hi_:∀j∈[4,5,6,7,9],j≠4->maskB [false,false,false,false,true,true,true,true,true,true] done j=false:=by
    intro j hj hne;simp only[List.mem_cons,List.not_mem_nil,or_false]at hj;rcases hj with rfl|rfl|rfl|rfl|rfl
    ·exact absurd rfl hne
    ·exact(by simp[maskB,n2])
    ·exact(by simp[maskB,n3])
    ·exact(by simp[maskB,n4])
    exact(by simp[maskB,n6])
   refine wp_call (vals:=#[.agg (devA iD0 L9),.agg (chkA iC.from_ iC.to_ iC.n iC.of_ Bc iC.data.length ec)]) (by rw[List.map_toArray,List.map_cons,List.map_cons,List.map_nil,ch_ev e1,ch_ev e56]) (enters_of Tryz.func12 (by kernel_rfl) rfl _ _) (KH.out _ _ _ _ (HD3.out.stays hP) (HCK.out.stays hP)) ?_;rintro e w' ⟨L1,rfl,hf1,hb⟩;exact⟨_,rfl,_,rfl,tl_ci hJ (by simp) hi_ (by simp[maskB,n5]) (by decide) (x:=L1) rfl ⟨hf1.mono hP.size,hP.trans (hb.mono hP.size)⟩⟩
  ·have e2:=fr_cv (i:=4) (t:=57) h (hw 4 (by decide)) rfl rfl;have m1:=hw 4 (by decide);obtain⟨x,hv,hJ1⟩:=tl_ix (k:=5) hJ (by simp[maskB,m1]) (by decide) (by decide) (by simp);have yv:cv 4=.tuple #[.agg (devA iD1 x),iv 0]:=hv 4 (by simp) (by simp[maskB,m1]);rw[yv]at e2;refine wp_val (v:=_) (mx_move (ch_ev e2)) ⟨_,rfl,hJ1 _ rfl⟩
  ·have e1:=fr_cv (i:=5) (t:=52) h (hw 5 (by decide)) rfl rfl;have m1:=hw 5 (by decide);have m2:=hcl 5 _ rfl m1 4 (by decide);obtain⟨x,hv,hJ1⟩:=tl_ix (k:=6) hJ (by simp[maskB,m2]) (by decide) (by decide) (by simp);have yv:cv 5=.tuple #[.agg (devA iD1 x),iv 0]:=hv 5 (by simp) (by simp[maskB,m1]);rw[yv]at e1;refine wp_val (v:=.agg (devA iD1 x)) ?_ ⟨_,rfl,hJ1 _ rfl⟩;go_simp
  ·have e2:=fr_cv (i:=5) (t:=52) h (hw 5 (by decide)) rfl rfl;have m1:=hw 5 (by decide);have m2:=hcl 5 _ rfl m1 4 (by decide);obtain⟨x,hv,hJ1⟩:=tl_ix (k:=7) hJ (by simp[maskB,m2]) (by decide) (by decide) (by simp);have yv:cv 5=.tuple #[.agg (devA iD1 x),iv 0]:=hv 5 (by simp) (by simp[maskB,m1]);rw[yv]at e2;refine wp_val (v:=iv 0) ?_ ⟨_,rfl,hJ1 _ rfl⟩;go_simp
  ·have e1:=fO 1 (.pointer (some ⟨g1,0,none⟩)) h;have e58:=fr_cv (i:=6) (t:=58) h (hw 6 (by decide)) rfl rfl;have n1:=hn;have m1:=hw 6 (by decide);have m2:=hcl 6 _ rfl m1 5 (by decide);have m3:=hcl 5 _ rfl m2 4 (by decide);obtain⟨x,hP,hv,hJ1⟩:=tl_st hJ (by simp[maskB,m3]) (by simp[maskB,n1]) (by decide) (by simp) (by simp);have yv:cv 6=.agg (devA iD1 x):=hv 6 (by simp) (by simp[maskB,m1]);rw[yv]at e58;have b0k:=keep1 (g:=g1) (cs:=devA iD0 L9) hP.2 HR2.out.1 (by go_simp) HR2.out.2;refine wp_srow e1 e58 (by go_simp) (by go_simp) b0k.1 (by go_simp) b0k.2.1 (by go_simp) ⟨undef,rfl,?_⟩;rw[splice_all _ _ (by go_simp)];exact hJ1 undef
  ·have e2:=fr_cv (i:=7) (t:=59) h (hw 7 (by decide)) rfl rfl;have m1:=hw 7 (by decide);have m2:=hcl 7 _ rfl m1 5 (by decide);have m3:=hcl 5 _ rfl m2 4 (by decide);obtain⟨x,hv,hJ1⟩:=tl_ix (k:=9) hJ (by simp[maskB,m3]) (by decide) (by decide) (by simp);have yv:cv 7=iv 0:=hv 7 (by simp) (by simp[maskB,m1]);rw[yv]at e2;refine wp_asg (v:=_) (ch_ev e2) ⟨_,rfl,hJ1 _ rfl⟩
 intro dn cv w4 hall hJ;obtain⟨L1,u9,hP,hv,rfl⟩:=tl_end hJ (hall 4 rfl (by decide)) (hall 8 rfl (by decide));have v3:cv 9=iv 0:=hv 9 (by simp) (hall 9 rfl (by decide));simp only[freeAll,putAll_some,putAll_none,putAll_nil,List.getD_cons_zero,List.getD_cons_succ,Bool.false_eq_true,if_true,if_false,reduceIte,Nat.zero_add,Nat.reduceAdd,List.setIfInBounds_toArray,List.set_cons_zero,List.set_cons_succ];rw[v3];obtain⟨hf,hb⟩:=hP;clear hJ hv v3 hall;generalize cv=cx at *
 obtain⟨a0r,a0f,a0n,a0c,a0z,a0l⟩:=keep1 (g:=g1) (cs:=devA iD0 L9) hb HR2.out.1 (by go_simp) HR2.out.2;have hlw:g1<w3.heap.size:=row_lt (w:=w3) (by rw[HR2.out.1];simp[devA]);have hp3:0<(rowOf u9 g1).size:=by rw[a0r];simp[devA]
 have HD1i:Hid (DevIn (u9.setRow g1 (devA iD1 L1)) iD1 L1):=qH (hf _ (fun k h1 h2=>setRow_other _ _ _ _ (by omega)));have HB4:Hid (Below W.heap.size W (u9.setRow g1 (devA iD1 L1))):=qH (below_row (HB2.out.trans (hb.mono HB2.out.size)) HB3.out.2.1 _);clear hf hb a0c a0z a0l HD3 HCA HLC HCK HR2 HP1 HD2 HB1 HB2 hlw;clear HR1 HD1;go_wp2_with fail;refine(KOp.out _ _ (by first|exact HD1i.out|exact HD1i.out.stays (Below.refl _ _))).mono ?_;rintro e u1 ⟨L2,rfl,hf,hb⟩;obtain⟨a0r,a0f,a0n,a0c,a0z,a0l⟩:=kp g1 (devA iD1 L1) hb;have hlw:g1<(u9.setRow g1 (devA iD1 L1)).heap.size:=row_lt (w:=u9.setRow g1 (devA iD1 L1)) (by first|(go_simp;done)|(rw[rowOf_setRow _ _ _ _ hp3,if_pos rfl];simp[devA]));have hb1:Below (u9.setRow g1 (devA iD1 L1)).heap.size (u9.setRow g1 (devA iD1 L1)) u1:=hb;have hp1:0<(rowOf u1 g1).size:=by rw[a0r];simp[devA]
 have HD2i:Hid (DevIn (u1.setRow g1 (devA iD2 L2)) iD2 L2):=qH (hf _ (fun k h1 h2=>setRow_other _ _ _ _ (by omega)));have HB1:Hid (Below W.heap.size W (u1.setRow g1 (devA iD2 L2))):=qH (below_row (HB4.out.trans (hb1.mono HB4.out.size)) HB3.out.2.1 _);clear hf hb hb1 hlw a0c a0z a0l HD1i HB4 hp3;go_wp2_with fail;refine(KWr.out _ _ (by first|exact HD2i.out|exact HD2i.out.stays (Below.refl _ _))).mono ?_;rintro e u2 ⟨L3,rfl,hf,hb⟩;obtain⟨a0r,a0f,a0n,a0c,a0z,a0l⟩:=kp g1 (devA iD2 L2) hb;have hlw:g1<(u1.setRow g1 (devA iD2 L2)).heap.size:=row_lt (w:=u1.setRow g1 (devA iD2 L2)) (by first|(go_simp;done)|(rw[rowOf_setRow _ _ _ _ hp1,if_pos rfl];simp[devA]));have hb1:Below (u1.setRow g1 (devA iD2 L2)).heap.size (u1.setRow g1 (devA iD2 L2)) u2:=hb;have hp2:0<(rowOf u2 g1).size:=by rw[a0r];simp[devA]
 have HD3i:Hid (DevIn (u2.setRow g1 (devA iD3 L3)) iD3 L3):=qH (hf _ (fun k h1 h2=>setRow_other _ _ _ _ (by omega)));have HB2:Hid (Below W.heap.size W (u2.setRow g1 (devA iD3 L3))):=qH (below_row (HB1.out.trans (hb1.mono HB1.out.size)) HB3.out.2.1 _);clear hf hb hb1 hlw a0c a0z a0l HD2i HB1 hp1;go_wp2_with fail;refine(KLa.out _ _ (by first|exact HD3i.out|exact HD3i.out.stays (Below.refl _ _))).mono ?_;rintro e u3 ⟨Lz,rfl,hf,hb⟩;obtain⟨a0r,a0f,a0n,a0c,a0z,a0l⟩:=kp g1 (devA iD3 L3) hb;have hlw:g1<(u2.setRow g1 (devA iD3 L3)).heap.size:=row_lt (w:=u2.setRow g1 (devA iD3 L3)) (by first|(go_simp;done)|(rw[rowOf_setRow _ _ _ _ hp2,if_pos rfl];simp[devA]));have hb1:Below (u2.setRow g1 (devA iD3 L3)).heap.size (u2.setRow g1 (devA iD3 L3)) u3:=hb;have hba:Below (u2.setRow g1 (devA iD3 L3)).heap.size (u2.setRow g1 (devA iD3 L3)) (u3.alloc (.cells (devA (devFinish iD3 false).1 Lz) 37)):=hb1.alloc hb1.size _;have HD3b:Hid (DevIn (u3.alloc (.cells (devA (devFinish iD3 false).1 Lz) 37)) iD3 L3):=qH (HD3i.out.stays hba);have HBa:Hid (Below W.heap.size W (u3.alloc (.cells (devA (devFinish iD3 false).1 Lz) 37))):=qH (HB2.out.trans (hba.mono HB2.out.size));have HP1:Hid (0<(rowOf u3 g1).size):=qH (by rw[a0r];simp[devA]);clear hf hb hb1 hba hlw a0c a0z HD3i HB2 hp2;have HD3i:=HD3b;clear HD3b;go_wp2_with fail;refine(KWr1.out _ _ (by first|exact HD3i.out|exact HD3i.out.stays (Below.refl _ _))).mono ?_;rintro e u4 ⟨L4,rfl,hf,hb⟩;obtain⟨a0r,a0f,a0n,a0c,a0z,a0l⟩:=kp g1 (devA iD3 L3) hb;have hlw:g1<(u3.alloc (.cells (devA (devFinish iD3 false).1 Lz) 37)).heap.size:=by simp;omega
 have hb1:Below (u3.alloc (.cells (devA (devFinish iD3 false).1 Lz) 37)).heap.size (u3.alloc (.cells (devA (devFinish iD3 false).1 Lz) 37)) u4:=hb;have hp1:0<(rowOf u4 g1).size:=by rw[a0r];simp[devA]
 have HD4i:Hid (DevIn (u4.setRow g1 (devA iD4 L4)) iD4 L4):=qH (hf _ (fun k h1 h2=>setRow_other _ _ _ _ (by omega)));have HB1:Hid (Below W.heap.size W (u4.setRow g1 (devA iD4 L4))):=qH (below_row (HBa.out.trans (hb1.mono HBa.out.size)) HB3.out.2.1 _);clear hf hb hb1 hlw a0c a0z a0l HD3i HBa;clear HP1;go_wp2_with fail;refine(KFi.out _ _ (by first|exact HD4i.out|exact HD4i.out.stays (Below.refl _ _))).mono ?_;rintro e u5 ⟨L5,rfl,hf,hb⟩;obtain⟨a0r,a0f,a0n,a0c,a0z,a0l⟩:=kp g1 (devA iD4 L4) hb;have hlw:g1<(u4.setRow g1 (devA iD4 L4)).heap.size:=row_lt (w:=u4.setRow g1 (devA iD4 L4)) (by first|(go_simp;done)|(rw[rowOf_setRow _ _ _ _ hp1,if_pos rfl];simp[devA]));have hb1:Below (u4.setRow g1 (devA iD4 L4)).heap.size (u4.setRow g1 (devA iD4 L4)) u5:=hb;have hp2:0<(rowOf u5 g1).size:=by rw[a0r];simp[devA]
 have HD5i:Hid (DevIn (u5.setRow g1 (devA iD5 L5)) iD5 L5):=qH (hf _ (fun k h1 h2=>setRow_other _ _ _ _ (by omega)));have HB2:Hid (Below W.heap.size W (u5.setRow g1 (devA iD5 L5))):=qH (below_row (HB1.out.trans (hb1.mono HB1.out.size)) HB3.out.2.1 _);clear hf hb hb1 hlw a0c a0z a0l HD4i HB1 hp1;go_wp2_with fail;refine(KCr.out _ _ (by first|exact HD5i.out|exact HD5i.out.stays (Below.refl _ _))).mono ?_;rintro e u6 ⟨L6,rfl,hf,hb⟩;obtain⟨a0r,a0f,a0n,a0c,a0z,a0l⟩:=kp g1 (devA iD5 L5) hb;have hlw:g1<(u5.setRow g1 (devA iD5 L5)).heap.size:=row_lt (w:=u5.setRow g1 (devA iD5 L5)) (by first|(go_simp;done)|(rw[rowOf_setRow _ _ _ _ hp2,if_pos rfl];simp[devA]));have hb1:Below (u5.setRow g1 (devA iD5 L5)).heap.size (u5.setRow g1 (devA iD5 L5)) u6:=hb;have hp1:0<(rowOf u6 g1).size:=by rw[a0r];simp[devA]
 have HD6i:Hid (DevIn (u6.setRow g1 (devA iD6 L6)) iD6 L6):=qH (hf _ (fun k h1 h2=>setRow_other _ _ _ _ (by omega)));have HB1:Hid (Below W.heap.size W (u6.setRow g1 (devA iD6 L6))):=qH (below_row (HB2.out.trans (hb1.mono HB2.out.size)) HB3.out.2.1 _);clear hf hb hb1 hlw a0c a0z a0l HD5i HB2 hp2;go_wp2_with fail;refine(KBo.out _ _ (by first|exact HD6i.out|exact HD6i.out.stays (Below.refl _ _))).mono ?_;rintro e u7 ⟨L7,rfl,hf,hb⟩;obtain⟨a0r,a0f,a0n,a0c,a0z,a0l⟩:=kp g1 (devA iD6 L6) hb;have hlw:g1<(u6.setRow g1 (devA iD6 L6)).heap.size:=row_lt (w:=u6.setRow g1 (devA iD6 L6)) (by first|(go_simp;done)|(rw[rowOf_setRow _ _ _ _ hp1,if_pos rfl];simp[devA]));have hb1:Below (u6.setRow g1 (devA iD6 L6)).heap.size (u6.setRow g1 (devA iD6 L6)) u7:=hb;have hp2:0<(rowOf u7 g1).size:=by rw[a0r];simp[devA]
 have HD7i:Hid (DevIn (u7.setRow g1 (devA iD7 L7)) iD7 L7):=qH (hf _ (fun k h1 h2=>setRow_other _ _ _ _ (by omega)));have HB2:Hid (Below W.heap.size W (u7.setRow g1 (devA iD7 L7))):=qH (below_row (HB1.out.trans (hb1.mono HB1.out.size)) HB3.out.2.1 _);clear hf hb hb1 hlw a0c a0z a0l HD6i HB1 hp1;go_wp2_with fail;refine(KCo.out _ _ (by first|exact HD7i.out|exact HD7i.out.stays (Below.refl _ _))).mono ?_;rintro e u8 ⟨L8,rfl,hf,hb⟩;obtain⟨a0r,a0f,a0n,a0c,a0z,a0l⟩:=kp g1 (devA iD7 L7) hb;have hlw:g1<(u7.setRow g1 (devA iD7 L7)).heap.size:=row_lt (w:=u7.setRow g1 (devA iD7 L7)) (by first|(go_simp;done)|(rw[rowOf_setRow _ _ _ _ hp2,if_pos rfl];simp[devA]));have hb1:Below (u7.setRow g1 (devA iD7 L7)).heap.size (u7.setRow g1 (devA iD7 L7)) u8:=hb;have hba:Below (u7.setRow g1 (devA iD7 L7)).heap.size (u7.setRow g1 (devA iD7 L7)) (u8.alloc (.cells (devA iD8 L8) 37)):=hb1.alloc hb1.size _;have HD7b:Hid (DevIn (u8.alloc (.cells (devA iD8 L8) 37)) iD7 L7):=qH (HD7i.out.stays hba);have HD8b:Hid (DevIn (u8.alloc (.cells (devA iD8 L8) 37)) iD8 L8):=qH (hf.now.stays (bL _));have HBa:Hid (Below W.heap.size W (u8.alloc (.cells (devA iD8 L8) 37))):=qH (HB2.out.trans (hba.mono HB2.out.size));clear hf hb hb1 hba hlw a0c a0z HD7i HB2 hp2;have q1:rowOf (u8.alloc (.cells (devA iD8 L8) 37)) g1=devA iD7 L7:=by go_simp
 have q2:frOf (u8.alloc (.cells (devA iD8 L8) 37)) g1=(0,0):=by go_simp
 have q3:rowOf (u8.alloc (.cells (devA iD8 L8) 37)) u8.heap.size=devA iD8 L8:=by go_simp
 have q4:frOf (u8.alloc (.cells (devA iD8 L8) 37)) u8.heap.size=(0,0):=by go_simp
 have hl1:=HB3.out;obtain⟨_,_,_,q7,q8,_⟩:=keep1 (g:=g1) (cs:=devA iD7 L7) (Below.refl (u8.alloc (.cells (devA iD8 L8) 37)).heap.size (u8.alloc (.cells (devA iD8 L8) 37))) q1 (by go_simp) q2;have q5:g1<(u8.alloc (.cells (devA iD8 L8) 37)).heap.size:=by simp;omega
 have q6:u8.heap.size<(u8.alloc (.cells (devA iD8 L8) 37)).heap.size:=by simp
 clear a0r a0f a0n a0l hl1;obtain⟨y1,y2,y3⟩:=inst_end;have hl1:9<=iD7.s1.length:=by have:=congrArg List.length y2;simp[im1]at this;omega
 have hk1:=HD7b.out.k1;have hbt:=HD7b.out.b1;obtain⟨b1,o1,ha1,hzz⟩:=hbt 0 (by omega);have hslc:∀wq,(Instr.slice 22 (.slice L7.a1 iD7.s1.length L7.c1) none (some (iv 9)) none).run Tryz.prog wq=.ok (.slice L7.a1 9 L7.c1) wq:=fun wq=>by
  have k1:(9:Int)<=(L7.c1:Int):=by omega
  have k2:¬L7.c1=0:=by omega
  rw[ha1];go_simp
 have hcv:∀wq,Below (u8.alloc (.cells (devA iD8 L8) 37)).heap.size (u8.alloc (.cells (devA iD8 L8) 37)) wq->(convert 22 9 (.slice L7.a1 9 L7.c1)).run Tryz.prog wq=.ok (.string ⟨#[120,101,102,103,104,97,98,99,100]⟩) wq:=fun wq hq=>conv_str L7.a1 L7.c1 im1 wq (by show 9<=_;omega) (by rw[<-y2];exact bts_take (hbt.stays hq) 9);have HCV:=hcv _ (Below.refl (u8.alloc (.cells (devA iD8 L8) 37)).heap.size (u8.alloc (.cells (devA iD8 L8) 37)));clear hzz y2 y3 hl1 hk1 hbt ha1 hcv HD7b;go_wp2_with fail;refine(KCk.out _ _ HD8b.out).mono ?_;rintro e v1 ⟨rfl,hb⟩;have HBv:=bT HBa hb;have HD8c:=qH (HD8b.out.stays hb);have r1:=keep1 (g:=u8.heap.size) (cs:=devA iD8 L8) hb q3 (by go_simp) q4;clear hb q1 q2 q3 q4 q5 q6 q7 q8 HCV hslc HBa HD8b;go_wp2_with fail;refine(devSame_self iD8 L8 L8 _ HD8c.out HD8c.out).mono ?_;rintro e v2 ⟨rfl,hb⟩;have HBx:=bT HBv hb;clear hb r1;go_wp2_with fail;go_ret;refine⟨rfl,?_⟩
 first|exact HBx.out|(repeat (first|exact HBx.out|refine below_drewN ?_ _|refine Below.drew ?_))
theorem devSame_dec(d g:Dev):decide (d=g)=(decide (d.s0=g.s0)&&decide (d.s1=g.s1)&&(decide (d.c0=g.c0)&&decide (d.c1=g.c1))&&(d.up==g.up)&&(d.running==g.running)&&decide (d.got=g.got)&&(d.busy==g.busy)&&decide (d.job=g.job)&&(d.done==g.done)):=by
 exact x4ns
theorem devSame_calls(d g:Dev)(L M:DLoc)(w:World)(h:DevIn w d L)(h':DevIn w g M):Calls Tryz.prog 8 #[.agg (devA d L),.agg (devA g M)] w (RetB w (.bool (decide (d=g)))):=by
 have H:=qH h;have H':=qH h';have HBA:Hid (Below w.heap.size w ((w.alloc (.cells (devA d L) 37)).alloc (.cells (devA g M) 37))):=qH ((bL _).alloc (by simp) _);have K4:Hid (∀w,Bts w L.a0 d.s0->Bts w M.a0 g.s0->Calls Tryz.prog 39 #[.slice L.a0 d.s0.length L.c0,.slice M.a0 g.s0.length M.c0] w (RetB w (.bool (decide (d.s0=g.s0))))):=qH (fun w ha hb=>(equalBytes_calls L.a0 M.a0 L.c0 M.c0 d.s0 g.s0 w h.l0 h'.l0 ha hb).mono (fun _ _ ⟨h1,n,h2⟩=>⟨h1,by rw[<-h2];exact below_drewN _ n⟩));have K1:Hid (∀w,Bts w L.a1 d.s1->Bts w M.a1 g.s1->Calls Tryz.prog 39 #[.slice L.a1 d.s1.length L.c1,.slice M.a1 g.s1.length M.c1] w (RetB w (.bool (decide (d.s1=g.s1))))):=qH (fun w ha hb=>(equalBytes_calls L.a1 M.a1 L.c1 M.c1 d.s1 g.s1 w h.l1 h'.l1 ha hb).mono (fun _ _ ⟨h1,n,h2⟩=>⟨h1,by rw[<-h2];exact below_drewN _ n⟩));have K2:=qH (fun w ha hb=>chkSame_calls L.ag M.ag L.cg M.cg d.got g.got w h.lg h'.lg ha hb);have K3:=qH (fun w ha hb=>patSameA_calls L.aj M.aj L.cj M.cj d.job.from_ d.job.to_ d.job.old d.job.new_ d.job.size g.job.from_ g.job.to_ g.job.old g.job.new_ g.job.size d.job.ops g.job.ops w h.job.len h'.job.len ha hb);have HR:=qH (devSame_dec d g);obtain⟨bj,hbj⟩:∃b,decide (d.job=g.job)=b:=⟨_,rfl⟩;have hbj1:decide ((⟨d.job.from_,d.job.to_,d.job.old,d.job.new_,d.job.size,d.job.ops⟩:Pat)=⟨g.job.from_,g.job.to_,g.job.old,g.job.new_,g.job.size,g.job.ops⟩)=bj:=hbj;rw[hbj]at HR;rw[hbj1]at K3;clear hbj hbj1;generalize decide (d=g)=r at *
 generalize decide (d.s0=g.s0)=b0 at *
 generalize decide (d.s1=g.s1)=b1 at *
 generalize decide (d.got=g.got)=bg at *
 clear h h';go_enter Tryz.func8,Tryz.ntmps8;go_wp2_with fail;refine(K4.out _ (H.out.b0.stays HBA.out) (H'.out.b0.stays HBA.out)).mono ?_;rintro e w1 ⟨rfl,hb⟩;have a2:=kp (w.heap.size) (devA d L) hb;have a1:=kp (w.heap.size+1) (devA g M) hb;have HB1:=bT HBA hb;clear hb
 cases b0
 ·go_wp2_with fail;go_ret;exact⟨ret_bool HR.out.symm,HB1.out⟩
 go_wp2_with fail;refine(K1.out _ (H.out.b1.stays HB1.out) (H'.out.b1.stays HB1.out)).mono ?_;rintro e w2 ⟨rfl,hb⟩;have a2:=kr a2 hb;have a1:=kr a1 hb;have HB2:=bT HB1 hb;clear hb
 cases b1
 ·exact x228
 cases qc:(decide (d.c0=g.c0)&&decide (d.c1=g.c1))
 ·rw[qc]at HR;exact x228
 rw[qc]at HR
 cases qup:(d.up==g.up)
 ·rw[qup]at HR;exact x228
 rw[qup]at HR
 cases qrun:(d.running==g.running)
 ·rw[qrun]at HR;exact x228
 rw[qrun]at HR;go_wp2_with fail;refine(K2.out _ (H.out.got.stays HB2.out) (H'.out.got.stays HB2.out)).mono ?_;rintro e w3 ⟨rfl,hb⟩;have a2:=kr a2 hb;have a1:=kr a1 hb;have HB3:=bT HB2 hb;clear hb
 cases bg
 ·exact x92b
 cases qbusy:(d.busy==g.busy)
 ·rw[qbusy]at HR;exact x92b
 rw[qbusy]at HR;go_wp2_with fail;refine(K3.out _ (H.out.job.ops.stays HB3.out) (H'.out.job.ops.stays HB3.out)).mono ?_;rintro e w4 ⟨rfl,hb⟩;have a2:=kr a2 hb;have a1:=kr a1 hb;have HB4:=bT HB3 hb;clear hb
 cases bj
 ·exact x8nf
 exact x8nf
theorem without_calls(d:Dev)(L:DLoc)(w:World):Calls Tryz.prog 57 #[.agg (devA d L)] w (RetB w (.agg (devA d.down L.down))):=by
 go_enter Tryz.func57,Tryz.ntmps57;go_wp2_with fail;refine bodyPost_ret (results_c rfl rfl (cs:=devA d.down L.down) (by go_simp;first|rfl|done) (by go_simp) (by go_simp)) rfl ⟨rfl,?_⟩;exact x9w3
theorem refChkSame1_calls(x y:Chk)(B D:OA)(c d:Nat)(w:World)(hx:ChkIn w x B c)(hy:ChkIn w y D d):
  Calls Tryz.prog 80 #[.agg (chkA x.from_ x.to_ x.n x.of_ B x.data.length c),.agg (chkA y.from_ y.to_ y.n y.of_ D y.data.length d)] w (RetB w (.bool (decide (x=y)))):=by
 have bl:=((bW w).alloc nl (.cells (chkA x.from_ x.to_ x.n x.of_ B x.data.length c) 39)).alloc (by simp) (.cells (chkA y.from_ y.to_ y.n y.of_ D y.data.length d) 39);have HB:=qH bl;have HC:=qH (bytesEqual_calls B D c d x.data y.data _ hx.cap hy.cap (hx.data.stays bl) (hy.data.stays bl));clear hx hy bl;obtain⟨r,hr⟩:=eX (decide (x=y));rw[hr];have HR:=qH hr;clear hr;obtain⟨f,t,n,o,l⟩:=x;obtain⟨f1,t1,n1,o1,l1⟩:=y;dsimp only at *
 by_cases h4:¬f=f1
 ·have hz:false=r:=(decide_eq_false (fun e=>by injection e;contradiction)).symm.trans HR.out;have HZ:=qH hz;have q:(f==f1)=false:=by simp[h4]
  clear HC hz h4;go_enter Tryz.func80,Tryz.ntmps80;exact x4jq
 have h4:=Decidable.not_not.1 h4;subst h4;have q4:(f==f)=true:=by simp
 by_cases h1:¬t=t1
 ·have hz:false=r:=(decide_eq_false (fun e=>by injection e;contradiction)).symm.trans HR.out;have HZ:=qH hz;have q:(t==t1)=false:=by simp[h1]
  clear HC hz h1;go_enter Tryz.func80,Tryz.ntmps80;exact x4jq
 have h1:=Decidable.not_not.1 h1;subst h1;have q1:(t==t)=true:=by simp
 by_cases h2:¬n=n1
 ·have hz:false=r:=(decide_eq_false (fun e=>by injection e;contradiction)).symm.trans HR.out;have HZ:=qH hz;have q:(n==n1)=false:=by simp[h2]
  clear HC hz h2;go_enter Tryz.func80,Tryz.ntmps80;exact x4jq
 have h2:=Decidable.not_not.1 h2;subst h2;have q2:(n==n)=true:=by simp
 by_cases h3:¬o=o1
 ·have hz:false=r:=(decide_eq_false (fun e=>by injection e;contradiction)).symm.trans HR.out;have HZ:=qH hz;have q:(o==o1)=false:=by simp[h3]
  clear HC hz h3;go_enter Tryz.func80,Tryz.ntmps80;exact x4jq
 have h3:=Decidable.not_not.1 h3;subst h3;have q3:(o==o)=true:=by simp
 have hz:decide (l=l1)=r:=by
  rw[<-HR.out];by_cases e:l=l1
  ·subst e;simp
  rw[decide_eq_false e,decide_eq_false (fun h=>e (by injection h))]
 have HZ:=qH hz;clear hz;go_enter Tryz.func80,Tryz.ntmps80;go_wp2_with fail;refine HC.out.mono ?_;rintro e w1 ⟨rfl,rfl⟩;exact x4jq
theorem refChkSame_eqf(A B:OA)(c d:Nat)(l m:List Chk)(w:World)(hl:l.length<=2513169434843)(hm:m.length<=2513169434843)(ha:Chs w A l)(hb:Chs w B m):
  Calls Tryz.prog 78 #[.slice A l.length c,.slice B m.length d,.func (Fn.func 80) #[] #[]] w (RetB w (.bool (decide (l=m)))):=by
 by_cases hne:l.length=m.length
 ·have hdl:((l.length:Int) !=(m.length:Int))=false:=by simp[hne]
  have HE:=qH hne;have hm1:l.length<=m.length:=by omega
  have hm2:m.length<=l.length:=by omega
  clear hne;go_enter Tryz.func78,Tryz.ntmps78;go_wp2_with fail;go_loopw [17] (fun i wr=>∃k:Nat,k<=l.length∧i=iv k∧Hid (l.take k=m.take k)∧Hid (Below w.heap.size w wr)) (fun i _=>l.length-(intOf i).toNat)
  case atStart=>exact⟨0,Nat.zero_le _,rfl,qH rfl,qH (Below.refl _ _)⟩
  case round=>
   obtain⟨k,hk,rfl,HT,HB⟩:=hrel;by_cases hlt:k<l.length
   ·obtain⟨b1,o1,B1,c1,rfl,hs1,p6,p1,p2,p3,p4,p5⟩:=(ha.stays HB.out).at_ hlt;obtain⟨b2,o2,B2,c2,rfl,hs2,r6,r1,r2,r3,r4,r5⟩:=(hb.stays HB.out).at_ (i:=k) (by omega);have hsz:=HB.out.size;have HX:Hid (∀e:l[k]=m[k]'(by omega),l.take (k+1)=m.take (k+1)):=qH fun e=>take_eq_succ HT.out hlt (by omega) e;have HN:Hid (∀e:l[k]≠m[k]'(by omega),l≠m):=qH fun e=>ne_of_at hlt (by omega) e;generalize l[k]=x at *
    generalize m[k]'(by omega)=y at *
    have hsb:=fun w2 (h:Below wr.heap.size wr w2)=>refChkSame1_calls x y B1 B2 c1 c2 w2 (p5.stays h) (r5.stays h);have HC:=qH hsb;clear hsb p5 r5;go_wp2_with fail;refine(HC.out _ ?_).mono ?_
    ·exact x0rc
    rintro e w1 ⟨rfl,hb1⟩;have HB1:Hid (Below w.heap.size w w1):=by
     exact x7ta
    clear hb1;exact x6ww
   exact x99v
 exact x14j
theorem refChkSame_calls(A B:OA)(c d:Nat)(l m:List Chk)(w:World)(hl:l.length<=2513169434843)(hm:m.length<=2513169434843)(ha:Chs w A l)(hb:Chs w B m):
  Calls Tryz.prog 41 #[.slice A l.length c,.slice B m.length d] w (RetB w (.bool (decide (l=m)))):=by
 go_enter Tryz.func41,Tryz.ntmps41;go_wp2_with fail;refine(refChkSame_eqf A B c d l m w hl hm ha hb).mono ?_;exact x3rf
theorem refDevSame_dec(d g:Dev):decide (d=g)=(decide (d.s0=g.s0)&&decide (d.s1=g.s1)&&(decide (d.c0=g.c0)&&decide (d.c1=g.c1))&&(d.up==g.up)&&(d.running==g.running)&&decide (d.got=g.got)&&(d.busy==g.busy)&&(d.done==g.done)&&decide (d.job=g.job)):=by
 exact x4ns
theorem refDevSame_calls(d g:Dev)(L M:DLoc)(w:World)(h:DevIn w d L)(h':DevIn w g M):Calls Tryz.prog 9 #[.agg (devA d L),.agg (devA g M)] w (RetB w (.bool (decide (d=g)))):=by
 have H:=qH h;have H':=qH h';have HBA:Hid (Below w.heap.size w ((w.alloc (.cells (devA d L) 37)).alloc (.cells (devA g M) 37))):=qH ((bL _).alloc (by simp) _);have K4:Hid (∀w,Bts w L.a0 d.s0->Bts w M.a0 g.s0->Calls Tryz.prog 29 #[.slice L.a0 d.s0.length L.c0,.slice M.a0 g.s0.length M.c0] w (RetB w (.bool (decide (d.s0=g.s0))))):=qH (fun w ha hb=>(bytesEqual_calls L.a0 M.a0 L.c0 M.c0 d.s0 g.s0 w h.k0 h'.k0 ha hb).mono (fun _ _ h=>h.to));have K1:Hid (∀w,Bts w L.a1 d.s1->Bts w M.a1 g.s1->Calls Tryz.prog 29 #[.slice L.a1 d.s1.length L.c1,.slice M.a1 g.s1.length M.c1] w (RetB w (.bool (decide (d.s1=g.s1))))):=qH (fun w ha hb=>(bytesEqual_calls L.a1 M.a1 L.c1 M.c1 d.s1 g.s1 w h.k1 h'.k1 ha hb).mono (fun _ _ h=>h.to));have K2:=qH (fun w ha hb=>refChkSame_calls L.ag M.ag L.cg M.cg d.got g.got w h.lg h'.lg ha hb);have K3:=qH (fun w ha hb=>refPatSameA_calls L.aj M.aj L.cj M.cj d.job.from_ d.job.to_ d.job.old d.job.new_ d.job.size g.job.from_ g.job.to_ g.job.old g.job.new_ g.job.size d.job.ops g.job.ops w h.job.len h'.job.len ha hb);have HR:=qH (refDevSame_dec d g);obtain⟨bj,hbj⟩:∃b,decide (d.job=g.job)=b:=⟨_,rfl⟩;have hbj1:decide ((⟨d.job.from_,d.job.to_,d.job.old,d.job.new_,d.job.size,d.job.ops⟩:Pat)=⟨g.job.from_,g.job.to_,g.job.old,g.job.new_,g.job.size,g.job.ops⟩)=bj:=hbj;rw[hbj]at HR;rw[hbj1]at K3;clear hbj hbj1;generalize decide (d=g)=r at *
 generalize decide (d.s0=g.s0)=b0 at *
 generalize decide (d.s1=g.s1)=b1 at *
 generalize decide (d.got=g.got)=bg at *
 clear h h';go_enter Tryz.func9,Tryz.ntmps9;go_wp2_with fail;refine(K4.out _ (H.out.b0.stays HBA.out) (H'.out.b0.stays HBA.out)).mono ?_;rintro e w1 ⟨rfl,hb⟩;have a2:=kp (w.heap.size) (devA d L) hb;have a1:=kp (w.heap.size+1) (devA g M) hb;have HB1:=bT HBA hb;clear hb
 cases b0
 ·go_wp2_with fail;go_ret;exact⟨ret_bool HR.out.symm,HB1.out⟩
 go_wp2_with fail;refine(K1.out _ (H.out.b1.stays HB1.out) (H'.out.b1.stays HB1.out)).mono ?_;rintro e w2 ⟨rfl,hb⟩;have a2:=kr a2 hb;have a1:=kr a1 hb;have HB2:=bT HB1 hb;clear hb
 cases b1
 ·exact x228
 cases qc:(decide (d.c0=g.c0)&&decide (d.c1=g.c1))
 ·rw[qc]at HR;exact x228
 rw[qc]at HR
 cases qup:(d.up==g.up)
 ·rw[qup]at HR;exact x228
 rw[qup]at HR
 cases qrun:(d.running==g.running)
 ·rw[qrun]at HR;exact x228
 rw[qrun]at HR;go_wp2_with fail;refine(K2.out _ (H.out.got.stays HB2.out) (H'.out.got.stays HB2.out)).mono ?_;rintro e w3 ⟨rfl,hb⟩;have a2:=kr a2 hb;have a1:=kr a1 hb;have HB3:=bT HB2 hb;clear hb
 cases bg
 ·exact x92b
 cases qbusy:(d.busy==g.busy)
 ·rw[qbusy]at HR;exact x92b
 rw[qbusy]at HR
 cases qdone:(d.done==g.done)
 ·rw[qdone]at HR;exact x92b
 rw[qdone]at HR;go_wp2_with fail;refine(K3.out _ (H.out.job.ops.stays HB3.out) (H'.out.job.ops.stays HB3.out)).mono ?_;rintro e w4 ⟨rfl,hb⟩;have a2:=kr a2 hb;have a1:=kr a1 hb;have HB4:=bT HB3 hb;clear hb;exact x8nf
end Go.Proofs.YtefkfglkpebbmacGreat
