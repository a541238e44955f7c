/- Walks of functions, and plain words. No conditions. -/
import Derived.Test.YtefkfglkpebbmacPMBtsTake
import Derived.Test.YtefkfglkpebbmacPMTail
import Derived.Test.YtefkfglkpebbmacPMErrFuncs
import Derived.Test.YtefkfglkpebbmacPMDelErrs
set_option linter.unusedVariables false
set_option linter.unusedSimpArgs false
set_option maxRecDepth 100000
set_option maxHeartbeats 40000000
namespace Go.Proofs.Ytefkfglkpebbmac
open Go.RowKit
variable {Y:Prop}
variable {w:World}
theorem x2bv(h:Y:=by
 intro j hj hne;simp only[List.mem_cons,List.not_mem_nil,or_false]at hj;rcases hj with rfl|rfl|rfl|rfl|rfl|rfl|rfl
 ·exact absurd rfl hne
 ·exact(by simp[maskB,n2])
 ·exact(by simp[maskB,n3])
 ·exact(by simp[maskB,n4])
 ·exact(by simp[maskB,n5])
 ·exact(by simp[maskB,n7])
 exact(by simp[maskB,n8])):Y:=h
theorem x4l2(h:Y:=by
 rw[yv]at e2;refine wp_asg (v:=_) (ch_ev e2) ⟨_,rfl,hJ1 _ rfl⟩):Y:=h
theorem x4l4(h:Y:=by
 have e1:=fO 1 (.func (Fn.func 129) #[] #[]) h;exact mx_move (ch_ev e1)):Y:=h
theorem x6w4(h:Y:=by
 rw[yv]at e1;refine wp_val (v:=_) (mx_move (ch_ev e1)) ⟨_,rfl,hJ1 _ rfl⟩):Y:=h
theorem x77r(h:Y:=by
 rw[yv]at e2;refine wp_val (v:=iv 0) ?_ ⟨_,rfl,hJ1 _ rfl⟩;go_simp):Y:=h
theorem x7sp(h:Y:=by
 rw[yv]at e2;refine wp_val (v:=.agg (worA y x.1)) ?_ ⟨_,rfl,hJ1 _ rfl⟩;go_simp):Y:=h
theorem x7xh(h:Y:=by
 rw[splice_all _ _ (by go_simp)];exact hJ1 undef):Y:=h
theorem x9km(h:Y:=by
 rintro e w' ⟨rfl,hb⟩;exact⟨_,rfl,_,rfl,tl_one hJ (by simp[maskB,n3]) (by decide) (by simp) (gnP_one (by decide) hP hb)⟩):Y:=h
theorem wp_valw{P:Program}{o:Oper}{a:Act}{w':World}{K:Act->World->Prop}{Q:Exit->Act->World->Prop}{v:Value}(e:(execOp a.eval o).run P w=.ok (.value v) w')(h:K (a.put o.dst v) w'):Oper.wp P o a w K Q:=by
 unfold Oper.wp;rw[e];exact h
def goneA:Array Value:=#[iv 1,iv 2,iv 2,iv 0,iv 5,iv 0,iv 6,iv 0,iv 8,iv 0,iv 6,iv 0,iv 7,iv 0,iv 9,iv 0,iv 10,iv 0,iv 8,iv 0]
theorem hps_gone{g:Nat}{t:TypeId}{f:Nat×Nat}(h:w.heap[g]?=some (.cells goneA t f)):Hps w (some ⟨g,0,none⟩) goneL:=by
 intro i hi;have hi':i<10:=hi;refine⟨g,0,rfl,blk_lt h,[iv (goneL[i]).1,iv (goneL[i]).2],rfl,fun j hj=>?_,rfl,?_⟩
 ·rw[cell_of_row w g _ _ _ _ h];have hj':j<2:=hj
  match i,j,hi',hj' with
  |0,0,_,_=>rfl
  |0,1,_,_=>rfl
  |1,0,_,_=>rfl
  |1,1,_,_=>rfl
  |2,0,_,_=>rfl
  |2,1,_,_=>rfl
  |3,0,_,_=>rfl
  |3,1,_,_=>rfl
  |4,0,_,_=>rfl
  |4,1,_,_=>rfl
  |5,0,_,_=>rfl
  |5,1,_,_=>rfl
  |6,0,_,_=>rfl
  |6,1,_,_=>rfl
  |7,0,_,_=>rfl
  |7,1,_,_=>rfl
  |8,0,_,_=>rfl
  |8,1,_,_=>rfl
  |9,0,_,_=>rfl
  |9,1,_,_=>rfl
 match i,hi' with
 |0,_=>exact⟨⟨of_decide_eq_true rfl,of_decide_eq_true rfl⟩,⟨of_decide_eq_true rfl,of_decide_eq_true rfl⟩⟩
 |1,_=>exact⟨⟨of_decide_eq_true rfl,of_decide_eq_true rfl⟩,⟨of_decide_eq_true rfl,of_decide_eq_true rfl⟩⟩
 |2,_=>exact⟨⟨of_decide_eq_true rfl,of_decide_eq_true rfl⟩,⟨of_decide_eq_true rfl,of_decide_eq_true rfl⟩⟩
 |3,_=>exact⟨⟨of_decide_eq_true rfl,of_decide_eq_true rfl⟩,⟨of_decide_eq_true rfl,of_decide_eq_true rfl⟩⟩
 |4,_=>exact⟨⟨of_decide_eq_true rfl,of_decide_eq_true rfl⟩,⟨of_decide_eq_true rfl,of_decide_eq_true rfl⟩⟩
 |5,_=>exact⟨⟨of_decide_eq_true rfl,of_decide_eq_true rfl⟩,⟨of_decide_eq_true rfl,of_decide_eq_true rfl⟩⟩
 |6,_=>exact⟨⟨of_decide_eq_true rfl,of_decide_eq_true rfl⟩,⟨of_decide_eq_true rfl,of_decide_eq_true rfl⟩⟩
 |7,_=>exact⟨⟨of_decide_eq_true rfl,of_decide_eq_true rfl⟩,⟨of_decide_eq_true rfl,of_decide_eq_true rfl⟩⟩
 |8,_=>exact⟨⟨of_decide_eq_true rfl,of_decide_eq_true rfl⟩,⟨of_decide_eq_true rfl,of_decide_eq_true rfl⟩⟩
 |9,_=>exact⟨⟨of_decide_eq_true rfl,of_decide_eq_true rfl⟩,⟨of_decide_eq_true rfl,of_decide_eq_true rfl⟩⟩
def gnP(w0:World)(dn:Nat->Bool)(cv:Nat->Value)(w:World):Prop:=
 Below w0.heap.size w0 w∧(dn 21=true->∃g,cv 21=.slice (some ⟨g,0,none⟩) 10 10∧g<w.heap.size∧∃t f,w.heap[g]?=some (.cells goneA t f))
theorem gnP_one{w0 w':World}{dn:Nat->Bool}{cv:Nat->Value}{k:Nat}{v:Value}(hk:21≠k)(h:gnP w0 dn cv w)(hb:Below w.heap.size w w'):gnP w0 (fun j=>if j=k then true else dn j) (fun j=>if j=k then v else cv j) w':=by
 refine⟨h.1.trans (hb.mono h.1.size),fun e=>?_⟩;dsimp only at e⊢;rw[if_neg hk]at e⊢;obtain⟨g,h1,h2,t,f,h3⟩:=h.2 e;exact⟨g,h1,Nat.lt_of_lt_of_le h2 hb.size,t,f,(hb.block g h2).trans h3⟩
theorem gnP_bs{w0:World}{dn:Nat->Bool}{cv:Nat->Value}(h:gnP w0 dn cv w):gnP w0 (fun j=>if j=21 then true else dn j) (fun j=>if j=21 then .slice (some ⟨w.heap.size,0,none⟩) 10 10 else cv j) (w.alloc (.cells goneA 106)):=
 ⟨h.1.alloc h.1.size _,fun _=>⟨w.heap.size,by simp,by simp,_,_,blk_top rfl⟩⟩
def gnPost(w0:World)(y:Wor)(x:WLoc×Option Addr×Nat×Nat)(w:World):Prop:=
 Own w x.2.2.2 24 1 x.2.1 10 x.2.2.1 ([0,0,0,0,5,0,0,0,0,0].map iv)∧w0.heap.size<=x.2.2.2∧(∀v:World,(∀q,x.2.2.2<=q->x.2.1.map (·.block)≠some q->q<w.heap.size->v.heap[q]?=w.heap[q]?)->WorIn v y x.1)∧Below w0.heap.size w0 w
def gnV(y:Wor)(x:WLoc×Option Addr×Nat×Nat):Nat->Value
 |22=>.tuple #[.agg (worA y x.1),.slice x.2.1 10 x.2.2.1,iv 0]
 |23=>.tuple #[.agg (worA y x.1),.slice x.2.1 10 x.2.2.1,iv 0]
 |24=>.agg (worA y x.1)
 |25=>.slice x.2.1 10 x.2.2.1
 |26=>iv 0
 |28=>.slice x.2.1 10 x.2.2.1
 |29=>iv 0
 |_=>undef
theorem gone_calls(W:World):Calls Try.prog 72 #[] W (RetB W (.bool true)):=by
 obtain⟨x1,hx1⟩:=eX ((worNew ims).1);obtain⟨y,hy⟩:=eX ((worRun x1 goneL).1);have f1:=gone_said;have f2:=gone_world;rw[hx1]at f1 f2;rw[hy]at f2;have K1:Hid (∀A c w,ims.length<=c->Ims w A ims->Calls Try.prog 130 #[.slice A ims.length c] w (WvRet w x1 0)):=qH (fun A c w hc h=>by
  have:=worNew_calls A c ims w hc (by decide) h;rwa [gone_new,hx1]at this)
 have K2:Hid (∀L B cl w,WorIn w x1 L->10<=cl->Hps w B goneL->Calls Try.prog 71 #[.agg (worA x1 L),.slice B 10 cl] w (WrRet w y [0,0,0,0,5,0,0,0,0,0] 0)):=qH (fun L B cl w h hc hh=>by
  have:=worRun_calls x1 L B cl goneL w h (by decide) hc hh;rwa [f1,hy]at this)
 have HY:=qH f2;clear f1 f2 hx1 hy;go_enter Try.func72,Try.ntmps72;go_wp2_with fail;refine(lawImages_calls _).mono ?_;rintro e w1 ⟨A,c,rfl,hc,hi,hb1⟩;have HB1:=qH hb1;have HI1:=qH hi;have HC1:=qH hc;clear hb1 hi hc;go_wp2_with fail;refine(K1.out _ _ _ HC1.out (by first|exact HI1.out|exact HI1.out.stays (Below.refl _ _))).mono ?_;rintro e w2 ⟨L,rfl,hf,hb2⟩;have HW1:=qH hf.now;have HB2:=bT HB1 hb2;clear hb2 hf;go_wp2_with fail;obtain⟨w3,hw1⟩:=eX (w2.alloc (.cells (worA x1 L) 88));obtain⟨gq,hgq⟩:=eX (w2.heap.size);have HIN:Hid (WorIn w3 x1 L):=qH (by rw[<-hw1];exact HW1.out.stays (bL _));have HR:Hid (rowOf w3 gq=worA x1 L∧frOf w3 gq=(0,0)):=qH (by rw[<-hw1,<-hgq];exact⟨by rw[rowOf_alloc,if_pos rfl],by rw[frOf_alloc,if_pos rfl]⟩);have HB3:Hid (Below W.heap.size W w3∧W.heap.size<=gq∧gq<w3.heap.size):=qH (by
  have hs:=HB2.out.size;rw[<-hw1,<-hgq];exact⟨HB2.out.alloc hs _,hs,by simp⟩)
 rw[hw1];try rw[hgq]
 clear hw1 hgq HW1 HB2 HB1 HI1 HC1;refine wp_region_free (by kernel_rfl) (some 13::some 14::some 15::some 16::some 17::some 18::some 19::some 20::some 21::some 22::some 23::some 24::some 25::some 26::some 27::some 28::some 29::some 30::some 31::some 32::some 33::some 34::some 35::some 12::some 36::some 37::some 38::none::some 4::some 5::[]) (false::false::true::false::true::false::true::false::true::false::true::false::true::false::true::false::true::false::true::false::true::true::true::true::true::true::true::true::true::true::[]) (.agg (worA x1 L)::.func (Fn.func 129) #[] #[]::undef::.func (Fn.func 129) #[] #[]::undef::.func (Fn.func 129) #[] #[]::undef::.func (Fn.func 129) #[] #[]::undef::.func (Fn.func 129) #[] #[]::undef::.func (Fn.func 129) #[] #[]::undef::.func (Fn.func 129) #[] #[]::undef::.func (Fn.func 129) #[] #[]::undef::.func (Fn.func 129) #[] #[]::undef::.func (Fn.func 129) #[] #[]::undef::undef::undef::undef::undef::undef::undef::undef::undef::undef::[]) (tlJ ([(2,.agg #[iv 1,iv 2]),(4,.agg #[iv 2,iv 0]),(6,.agg #[iv 5,iv 0]),(8,.agg #[iv 6,iv 0]),(10,.agg #[iv 8,iv 0]),(12,.agg #[iv 6,iv 0]),(14,.agg #[iv 7,iv 0]),(16,.agg #[iv 9,iv 0]),(18,.agg #[iv 10,iv 0]),(20,.agg #[iv 8,iv 0])]) 22 27 (gnP w3) (gnPost w3 y) [22,23,24,25,26,28,29] (gnV y) (fun x w=>w.setRow gq (worA y x.1))) 78 rfl rfl (by decide+kernel) (by decide+kernel) (by decide+kernel) rfl rfl (tl_start ⟨(Below.refl _ _).drew,by simp⟩) ?_ ?_
 ·refine⟨?_,?_,?_,?_,?_,?_,?_,?_,?_,?_,?_,?_,?_,?_,?_,?_,?_,?_,?_,?_,?_,?_,?_,?_,?_,?_,?_,?_,?_,?_,trivial⟩;all_goals intro done cv a wq hn hw hcl h hJ
  ·have e1:=fO 2 (.pointer (some ⟨gq,0,none⟩)) h;have n1:=hn;have n2:=nW 22 0 hcl n1;have hP:=tl_pre hJ (by simp[maskB,n2]);have b1:=keep1 (g:=gq) (cs:=worA x1 L) hP.1 HR.out.1 (by go_simp) HR.out.2;go_simp
  ·exact x4l4
  ·have e2:=fN 1 14 h hw;have n1:=hn;have n2:=nW 21 2 hcl n1;have n3:=nW 22 21 hcl n2;have hP:=tl_pre hJ (by simp[maskB,n3]);refine wp_callv (f:=129) (cap:=#[]) (vals:=#[iv 1,iv 2]) e2 (by simp[Act.eval]) (enters_of Try.func129 (by kernel_rfl) rfl _ _) (ofHap_calls 1 2 _) ?_;exact x9km
  ·exact x4l4
  ·have e2:=fN 3 16 h hw;have n1:=hn;have n2:=nW 21 4 hcl n1;have n3:=nW 22 21 hcl n2;have hP:=tl_pre hJ (by simp[maskB,n3]);refine wp_callv (f:=129) (cap:=#[]) (vals:=#[iv 2,iv 0]) e2 (by simp[Act.eval]) (enters_of Try.func129 (by kernel_rfl) rfl _ _) (ofHap_calls 2 0 _) ?_;exact x9km
  ·exact x4l4
  ·have e2:=fN 5 18 h hw;have n1:=hn;have n2:=nW 21 6 hcl n1;have n3:=nW 22 21 hcl n2;have hP:=tl_pre hJ (by simp[maskB,n3]);refine wp_callv (f:=129) (cap:=#[]) (vals:=#[iv 5,iv 0]) e2 (by simp[Act.eval]) (enters_of Try.func129 (by kernel_rfl) rfl _ _) (ofHap_calls 5 0 _) ?_;exact x9km
  ·exact x4l4
  ·have e2:=fN 7 20 h hw;have n1:=hn;have n2:=nW 21 8 hcl n1;have n3:=nW 22 21 hcl n2;have hP:=tl_pre hJ (by simp[maskB,n3]);refine wp_callv (f:=129) (cap:=#[]) (vals:=#[iv 6,iv 0]) e2 (by simp[Act.eval]) (enters_of Try.func129 (by kernel_rfl) rfl _ _) (ofHap_calls 6 0 _) ?_;exact x9km
  ·exact x4l4
  ·have e2:=fN 9 22 h hw;have n1:=hn;have n2:=nW 21 10 hcl n1;have n3:=nW 22 21 hcl n2;have hP:=tl_pre hJ (by simp[maskB,n3]);refine wp_callv (f:=129) (cap:=#[]) (vals:=#[iv 8,iv 0]) e2 (by simp[Act.eval]) (enters_of Try.func129 (by kernel_rfl) rfl _ _) (ofHap_calls 8 0 _) ?_;exact x9km
  ·exact x4l4
  ·have e2:=fN 11 24 h hw;have n1:=hn;have n2:=nW 21 12 hcl n1;have n3:=nW 22 21 hcl n2;have hP:=tl_pre hJ (by simp[maskB,n3]);refine wp_callv (f:=129) (cap:=#[]) (vals:=#[iv 6,iv 0]) e2 (by simp[Act.eval]) (enters_of Try.func129 (by kernel_rfl) rfl _ _) (ofHap_calls 6 0 _) ?_;exact x9km
  ·exact x4l4
  ·have e2:=fN 13 26 h hw;have n1:=hn;have n2:=nW 21 14 hcl n1;have n3:=nW 22 21 hcl n2;have hP:=tl_pre hJ (by simp[maskB,n3]);refine wp_callv (f:=129) (cap:=#[]) (vals:=#[iv 7,iv 0]) e2 (by simp[Act.eval]) (enters_of Try.func129 (by kernel_rfl) rfl _ _) (ofHap_calls 7 0 _) ?_;exact x9km
  ·exact x4l4
  ·have e2:=fN 15 28 h hw;have n1:=hn;have n2:=nW 21 16 hcl n1;have n3:=nW 22 21 hcl n2;have hP:=tl_pre hJ (by simp[maskB,n3]);refine wp_callv (f:=129) (cap:=#[]) (vals:=#[iv 9,iv 0]) e2 (by simp[Act.eval]) (enters_of Try.func129 (by kernel_rfl) rfl _ _) (ofHap_calls 9 0 _) ?_;exact x9km
  ·exact x4l4
  ·have e2:=fN 17 30 h hw;have n1:=hn;have n2:=nW 21 18 hcl n1;have n3:=nW 22 21 hcl n2;have hP:=tl_pre hJ (by simp[maskB,n3]);refine wp_callv (f:=129) (cap:=#[]) (vals:=#[iv 10,iv 0]) e2 (by simp[Act.eval]) (enters_of Try.func129 (by kernel_rfl) rfl _ _) (ofHap_calls 10 0 _) ?_;exact x9km
  ·exact x4l4
  ·have e2:=fN 19 32 h hw;have n1:=hn;have n2:=nW 21 20 hcl n1;have n3:=nW 22 21 hcl n2;have hP:=tl_pre hJ (by simp[maskB,n3]);refine wp_callv (f:=129) (cap:=#[]) (vals:=#[iv 8,iv 0]) e2 (by simp[Act.eval]) (enters_of Try.func129 (by kernel_rfl) rfl _ _) (ofHap_calls 8 0 _) ?_;exact x9km
  ·have e1:=fr_cv (i:=2) (t:=15) h (hw 2 (by decide)) rfl rfl;have e17:=fr_cv (i:=4) (t:=17) h (hw 4 (by decide)) rfl rfl;have e19:=fr_cv (i:=6) (t:=19) h (hw 6 (by decide)) rfl rfl;have e21:=fr_cv (i:=8) (t:=21) h (hw 8 (by decide)) rfl rfl;have e23:=fr_cv (i:=10) (t:=23) h (hw 10 (by decide)) rfl rfl;have e25:=fr_cv (i:=12) (t:=25) h (hw 12 (by decide)) rfl rfl;have e27:=fr_cv (i:=14) (t:=27) h (hw 14 (by decide)) rfl rfl;have e29:=fr_cv (i:=16) (t:=29) h (hw 16 (by decide)) rfl rfl;have e31:=fr_cv (i:=18) (t:=31) h (hw 18 (by decide)) rfl rfl;have e33:=fr_cv (i:=20) (t:=33) h (hw 20 (by decide)) rfl rfl;have n1:=hn;have n2:=nW 22 21 hcl n1;have hP:=tl_pre hJ (by simp[maskB,n2]);have m1:=hw 2 (by decide);have y1:cv 2=.agg #[iv 1,iv 2]:=tl_kn hJ (2,.agg #[iv 1,iv 2]) (by simp) (by simp[maskB,m1]);rw[y1]at e1;have m2:=hw 4 (by decide);have y2:cv 4=.agg #[iv 2,iv 0]:=tl_kn hJ (4,.agg #[iv 2,iv 0]) (by simp) (by simp[maskB,m2]);rw[y2]at e17;have m3:=hw 6 (by decide);have y3:cv 6=.agg #[iv 5,iv 0]:=tl_kn hJ (6,.agg #[iv 5,iv 0]) (by simp) (by simp[maskB,m3]);rw[y3]at e19;have m4:=hw 8 (by decide);have y4:cv 8=.agg #[iv 6,iv 0]:=tl_kn hJ (8,.agg #[iv 6,iv 0]) (by simp) (by simp[maskB,m4]);rw[y4]at e21;have m5:=hw 10 (by decide);have y5:cv 10=.agg #[iv 8,iv 0]:=tl_kn hJ (10,.agg #[iv 8,iv 0]) (by simp) (by simp[maskB,m5]);rw[y5]at e23;have m6:=hw 12 (by decide);have y6:cv 12=.agg #[iv 6,iv 0]:=tl_kn hJ (12,.agg #[iv 6,iv 0]) (by simp) (by simp[maskB,m6]);rw[y6]at e25;have m7:=hw 14 (by decide);have y7:cv 14=.agg #[iv 7,iv 0]:=tl_kn hJ (14,.agg #[iv 7,iv 0]) (by simp) (by simp[maskB,m7]);rw[y7]at e27;have m8:=hw 16 (by decide);have y8:cv 16=.agg #[iv 9,iv 0]:=tl_kn hJ (16,.agg #[iv 9,iv 0]) (by simp) (by simp[maskB,m8]);rw[y8]at e29;have m9:=hw 18 (by decide);have y9:cv 18=.agg #[iv 10,iv 0]:=tl_kn hJ (18,.agg #[iv 10,iv 0]) (by simp) (by simp[maskB,m9]);rw[y9]at e31;have m10:=hw 20 (by decide);have y10:cv 20=.agg #[iv 8,iv 0]:=tl_kn hJ (20,.agg #[iv 8,iv 0]) (by simp) (by simp[maskB,m10]);rw[y10]at e33;refine wp_valw (v:=.slice (some ⟨wq.heap.size,0,none⟩) 10 10) (w':=wq.alloc (.cells #[iv 1,iv 2,iv 2,iv 0,iv 5,iv 0,iv 6,iv 0,iv 8,iv 0,iv 6,iv 0,iv 7,iv 0,iv 9,iv 0,iv 10,iv 0,iv 8,iv 0] 106)) (by go_simp) ⟨_,rfl,tl_one hJ (by simp[maskB,n2]) (by decide) (by simp) (gnP_bs hP)⟩
  ·have e2:=fN 0 13 h hw;have e34:=fr_cv (i:=21) (t:=34) h (hw 21 (by decide)) rfl rfl;have n1:=hn;have n2:=nW 23 22 hcl n1;have n3:=nW 24 23 hcl n2;have n4:=nW 25 23 hcl n2;have n5:=nW 26 23 hcl n2;have n6:=nW 27 24 hcl n3;have n7:=nW 28 25 hcl n4;have n8:=nW 29 26 hcl n5;have hP:=tl_pre hJ (by simp[maskB,n1]);have m1:=hw 21 (by decide);have hi_:∀j∈[22,23,24,25,26,28,29],j≠22->maskB [false,false,true,false,true,false,true,false,true,false,true,false,true,false,true,false,true,false,true,false,true,true,true,true,true,true,true,true,true,true] done j=false:=by
    exact x2bv
   obtain⟨g,y1,hg,tT,tF,hg1⟩:=hP.2 (by simp[maskB,m1]);rw[y1]at e34;refine wp_call (vals:=#[.agg (worA x1 L),.slice (some ⟨g,0,none⟩) 10 10]) (by rw[List.map_toArray,List.map_cons,List.map_cons,List.map_nil,ch_ev e2,ch_ev e34]) (enters_of Try.func71 (by kernel_rfl) rfl _ _) (K2.out _ _ _ _ (HIN.out.stays hP.1) nl (hps_gone hg1)) ?_;rintro e w' ⟨L1,A1,c1,b1,rfl,ho1,hbs1,hw1,hb⟩;exact⟨_,rfl,_,rfl,tl_ci hJ (by simp) hi_ (by simp[maskB,n6]) (by decide) (x:=(L1,A1,c1,b1)) rfl ⟨ho1,Nat.le_trans hP.1.size hbs1,hw1,hP.1.trans (hb.mono hP.1.size)⟩⟩
  ·have e1:=fr_cv (i:=22) (t:=35) h (hw 22 (by decide)) rfl rfl;have m1:=hw 22 (by decide);obtain⟨x,hv,hJ1⟩:=tl_ix (k:=23) hJ (by simp[maskB,m1]) (by decide) (by decide) (by simp);have yv:cv 22=.tuple #[.agg (worA y x.1),.slice x.2.1 10 x.2.2.1,iv 0]:=hv 22 (by simp) (by simp[maskB,m1]);exact x6w4
  ·have e2:=fr_cv (i:=23) (t:=12) h (hw 23 (by decide)) rfl rfl;have m1:=hw 23 (by decide);have m2:=hcl 23 _ rfl m1 22 (by decide);obtain⟨x,hv,hJ1⟩:=tl_ix (k:=24) hJ (by simp[maskB,m2]) (by decide) (by decide) (by simp);have yv:cv 23=.tuple #[.agg (worA y x.1),.slice x.2.1 10 x.2.2.1,iv 0]:=hv 23 (by simp) (by simp[maskB,m1]);exact x7sp
  ·have e1:=fr_cv (i:=23) (t:=12) h (hw 23 (by decide)) rfl rfl;have m1:=hw 23 (by decide);have m2:=hcl 23 _ rfl m1 22 (by decide);obtain⟨x,hv,hJ1⟩:=tl_ix (k:=25) hJ (by simp[maskB,m2]) (by decide) (by decide) (by simp);have yv:cv 23=.tuple #[.agg (worA y x.1),.slice x.2.1 10 x.2.2.1,iv 0]:=hv 23 (by simp) (by simp[maskB,m1]);rw[yv]at e1;refine wp_val (v:=.slice x.2.1 10 x.2.2.1) ?_ ⟨_,rfl,hJ1 _ rfl⟩;go_simp
  ·have e2:=fr_cv (i:=23) (t:=12) h (hw 23 (by decide)) rfl rfl;have m1:=hw 23 (by decide);have m2:=hcl 23 _ rfl m1 22 (by decide);obtain⟨x,hv,hJ1⟩:=tl_ix (k:=26) hJ (by simp[maskB,m2]) (by decide) (by decide) (by simp);have yv:cv 23=.tuple #[.agg (worA y x.1),.slice x.2.1 10 x.2.2.1,iv 0]:=hv 23 (by simp) (by simp[maskB,m1]);exact x77r
  ·have e1:=fO 2 (.pointer (some ⟨gq,0,none⟩)) h;have e36:=fr_cv (i:=24) (t:=36) h (hw 24 (by decide)) rfl rfl;have n1:=hn;have m1:=hw 24 (by decide);have m2:=hcl 24 _ rfl m1 23 (by decide);have m3:=hcl 23 _ rfl m2 22 (by decide);obtain⟨x,hP,hv,hJ1⟩:=tl_st hJ (by simp[maskB,m3]) (by simp[maskB,n1]) (by decide) (by simp) (by simp);have yv:cv 24=.agg (worA y x.1):=hv 24 (by simp) (by simp[maskB,m1]);rw[yv]at e36;have b1:=keep1 (g:=gq) (cs:=worA x1 L) hP.2.2.2 HR.out.1 (by go_simp) HR.out.2;refine wp_srow e1 e36 (by go_simp) (by go_simp) b1.1 (by go_simp) b1.2.1 (by go_simp) ⟨undef,rfl,?_⟩;exact x7xh
  ·have e2:=fr_cv (i:=25) (t:=37) h (hw 25 (by decide)) rfl rfl;have m1:=hw 25 (by decide);have m2:=hcl 25 _ rfl m1 23 (by decide);have m3:=hcl 23 _ rfl m2 22 (by decide);obtain⟨x,hv,hJ1⟩:=tl_ix (k:=28) hJ (by simp[maskB,m3]) (by decide) (by decide) (by simp);have yv:cv 25=.slice x.2.1 10 x.2.2.1:=hv 25 (by simp) (by simp[maskB,m1]);exact x4l2
  ·have e1:=fr_cv (i:=26) (t:=38) h (hw 26 (by decide)) rfl rfl;have m1:=hw 26 (by decide);have m2:=hcl 26 _ rfl m1 23 (by decide);have m3:=hcl 23 _ rfl m2 22 (by decide);obtain⟨x,hv,hJ1⟩:=tl_ix (k:=29) hJ (by simp[maskB,m3]) (by decide) (by decide) (by simp);have yv:cv 26=iv 0:=hv 26 (by simp) (by simp[maskB,m1]);rw[yv]at e1;refine wp_asg (v:=_) (ch_ev e1) ⟨_,rfl,hJ1 _ rfl⟩
 intro dn cv w4 hall hJ;obtain⟨x,w5,hP,hv,rfl⟩:=tl_end hJ (hall 22 rfl (by decide)) (hall 27 rfl (by decide));have v1:cv 28=.slice x.2.1 10 x.2.2.1:=hv 28 (by simp) (hall 28 rfl (by decide));have v2:cv 29=iv 0:=hv 29 (by simp) (hall 29 rfl (by decide));simp only[freeAll,putAll_some,putAll_none,putAll_nil,List.getD_cons_zero,List.getD_cons_succ,Bool.false_eq_true,if_true,if_false,reduceIte,Nat.zero_add,Nat.reduceAdd,List.setIfInBounds_toArray,List.set_cons_zero,List.set_cons_succ];rw[v1,v2];obtain⟨L5,A1,c2,b5⟩:=x;obtain⟨ho,hb2,hin,hbel⟩:=hP;dsimp only at ho hb2 hin hbel;clear hJ hv v1 v2 hall;generalize cv=cw at *
 obtain⟨g1,rfl⟩:∃g5,A1=some ⟨g5,0,none⟩:=by
  rcases ho.2 with ⟨h1,h2⟩|⟨g,cap,cur,h1,_⟩
  ·injection h1 with h1 h3 h4;cases h3
  injection h1 with h1;exact⟨g,h1⟩
 obtain⟨q1,q2⟩:=ho.block g1 rfl;have a2:=keep1 (g:=gq) (cs:=worA x1 L) hbel HR.out.1 (by go_simp) HR.out.2;have hp1:0<(rowOf w5 gq).size:=by rw[a2.1];simp[worA]
 have hgb:=HB3.out.2.2;obtain⟨wz,hwz⟩:=eX (w5.setRow gq (worA y L5));have hkz:∀k,k≠gq->wz.heap[k]?=w5.heap[k]?:=fun k hk=>by rw[<-hwz];exact setRow_other _ _ _ _ hk
 have HOZ:Hid (Own wz b5 24 1 (some ⟨g1,0,none⟩) 10 c2 ([0,0,0,0,5,0,0,0,0,0].map iv)):=qH (ho.same (fun k hk=>hkz k (by have e9:g1=k:=(by simpa using hk);omega)));have hrz:rowOf wz gq=worA y L5:=by rw[<-hwz,rowOf_setRow _ _ _ _ hp1,if_pos rfl]
 have hfz:frOf wz gq=(0,0):=by rw[<-hwz,frOf_setRow];exact a2.2.1
 have HIZ:Hid (∀v:World,(∀q,b5<=q->q≠g1->q<wz.heap.size->v.heap[q]?=wz.heap[q]?)->WorIn v y L5):=qH (fun v hv=>hin v (fun q h1 h2 h3=>(hv q h1 (fun e=>h2 (by rw[e];rfl)) (by rw[<-hwz];simpa[World.setRow]using h3)).trans (hkz q (by omega))));have hsz:wz.heap.size=w5.heap.size:=by rw[<-hwz];simp[World.setRow]
 have HBZ:Hid (Below W.heap.size W wz):=qH (by rw[<-hwz];exact below_row (HB3.out.1.trans (hbel.mono HB3.out.1.size)) HB3.out.2.1 _);rw[hwz];clear hwz hkz ho hin hbel a2 hp1;have a2:=keep1 (g:=gq) (cs:=worA y L5) (bW wz) hrz (by go_simp) hfz;have HG:Hid (b5<=g1∧g1<wz.heap.size∧gq<b5):=qH ⟨q1,by omega,by omega⟩;clear q1 q2 hrz hfz hb2 hgb hsz;go_wp2_with fail;refine(indexErrs_calls (some ⟨g1,0,none⟩) c2 [0,0,0,0,5,0,0,0,0,0] 5 _ (by decide) HOZ.out.src.nts).mono ?_;rintro e w6 ⟨rfl,hb⟩;rw[show idxE (fun x=>(5:Int)==x) [0,0,0,0,5,0,0,0,0,0] 0=4 by decide];have a2:=keep1 (g:=gq) (cs:=worA y L5) hb a2.1 (by go_simp) a2.2.1;have HB1:=bT HBZ hb;have HO1:Hid (Own w6 b5 24 1 (some ⟨g1,0,none⟩) 10 c2 ([0,0,0,0,5,0,0,0,0,0].map iv)):=qH (HOZ.out.below hb);have HI1:Hid (∀v:World,(∀q,b5<=q->q≠g1->q<w6.heap.size->v.heap[q]?=w6.heap[q]?)->WorIn v y L5):=qH (fun v hv=>HIZ.out v (fun q h1 h2 h3=>(hv q h1 h2 (Nat.lt_of_lt_of_le h3 hb.size)).trans (hb.block q h3)));have hb5w:W.heap.size<=b5:=by have:=HB3.out.2.1;have:=HG.out.2.2;omega
 clear hb;go_wp2_with fail;refine(delErr_calls g1 10 c2 4 _ w6 b5 HO1.out (by simp[Value.oneCell']) (by decide) (by decide)).mono ?_;rintro e w7 ⟨rfl,ho1,hb2,hs1,hk2⟩;have HO2:Hid (Own w7 b5 24 1 (some ⟨g1,0,none⟩) 9 c2 ([0,0,0,0,0,0,0,0,0].map iv)):=qH ho1;have HB2:Hid (Below W.heap.size W w7):=qH (HB1.out.trans (hb2.mono hb5w));have HI2:Hid (WorIn w7 y L5):=qH (HI1.out w7 (fun q h1 h2 h3=>hk2 q h2));have e1:=rowOf_heap (hk2 gq (by have:=HG.out;omega));have hr1:rowOf w7 gq=worA y L5:=e1.1.trans a2.1;have hf1:frOf w7 gq=(0,0):=e1.2.trans a2.2.1;clear ho1 hb2 hs1 hk2 e1 a2;have a2:=keep1 (g:=gq) (cs:=worA y L5) (bW w7) hr1 (by go_simp) hf1;clear hr1 hf1;go_wp2_with fail;refine(anyErrs_calls (some ⟨g1,0,none⟩) c2 [0,0,0,0,0,0,0,0,0] _ (by decide) HO2.out.src.nts).mono ?_;rintro e w8 ⟨rfl,hb⟩;rw[show ([0,0,0,0,0,0,0,0,0]:List Int).any (fun x=>x !=0)=false by decide];have a2:=keep1 (g:=gq) (cs:=worA y L5) hb a2.1 (by go_simp) a2.2.1;have HB4:=bT HB2 hb;have hi1:=HI2.out.stays hb;obtain⟨y1,y2,y3⟩:=HY.out;have hl1:9<=y.d.s1.length:=by have:=congrArg List.length y2;simp[im1]at this;omega
 have hk1:=hi1.dev.k1;have hbt:=hi1.dev.b1;obtain⟨b1,o1,ha1,hzz⟩:=hbt 0 (by omega);have hslc:∀wq,(Instr.slice 22 (.slice L5.l.a1 y.d.s1.length L5.l.c1) none (some (iv 9)) none).run Try.prog wq=.ok (.slice L5.l.a1 9 L5.l.c1) wq:=fun wq=>by
  have k1:(9:Int)<=(L5.l.c1:Int):=by omega
  have k2:¬L5.l.c1=0:=by omega
  rw[ha1];go_simp
 have hb1:Bts w8 L5.l.a1 im1:=by rw[<-y2];exact bts_take hbt 9
 have hcv:(convert 22 9 (.slice L5.l.a1 9 L5.l.c1)).run Try.prog w8=.ok (.string ⟨#[120,101,102,103,104,97,98,99,100]⟩) w8:=conv_str L5.l.a1 L5.l.c1 im1 w8 (by show 9<=_;omega) hb1;have hnl:y.net.length=0:=by rw[y3];rfl
 have HY1:=qH y1;clear hzz;clear hb y2 y3 hi1 hl1 hk1 hbt ha1 hb1 HY y1;have y1:=HY1.out;go_wp2_with fail;go_ret;refine⟨rfl,?_⟩
 first|exact HB4.out|(repeat (first|exact HB4.out|refine below_drewN ?_ _|refine Below.drew ?_))
end Go.Proofs.Ytefkfglkpebbmac
