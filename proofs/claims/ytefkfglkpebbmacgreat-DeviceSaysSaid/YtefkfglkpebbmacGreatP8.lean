/- Walks of functions, and plain words. No conditions. -/
import Derived.Test.YtefkfglkpebbmacGreatP7
set_option linter.unusedVariables false
set_option linter.unusedSimpArgs false
set_option maxRecDepth 100000
set_option maxHeartbeats 40000000
namespace Go.Proofs.YtefkfglkpebbmacGreat
open Go.RowKit
variable {Y:Prop}
variable {d:Dev} {w:World} {g k base:Nat} {l:List Chk} {c x:Chk} {ds:List (Option Addr×Nat)}
theorem x2uc(h:Y:=by
 go_wp2_with fail;refine bodyPost_ret (rC (devA Dev.zero DLoc.zero)) rfl ⟨DLoc.zero,rfl,.const fun v=>DevIn.zero v,bZ HB2⟩):Y:=h
theorem x5r8(h:Y:=by
 go_wp2_with fail;refine bodyPost_ret (rC (devA Dev.zero DLoc.zero)) rfl ⟨DLoc.zero,rfl,.const fun v=>DevIn.zero v,bZ HB1⟩):Y:=h
theorem x84a(h:Y:=by
 repeat (first|exact HK1.out|exact Kp.refl _ _|refine Kp.row ?_ (by omega) _|refine Kp.cell ?_ (by first|(show _<_∨_<=_;omega)|(simp<;>omega)) _|refine Kp.alloc ?_ (by first|omega|(simp<;>omega)) _)):Y:=h
theorem x9su(h:Y:=by
 repeat (first|exact HK2.out|exact Kp.refl _ _|refine Kp.row ?_ (by omega) _|refine Kp.cell ?_ (by first|(show _<_∨_<=_;omega)|(simp<;>omega)) _|refine Kp.alloc ?_ (by first|omega|(simp<;>omega)) _)):Y:=h
def RdRet(w:World)(d:Dev):Ending->World->Prop:=fun en w'=>
 ∃L,en=.returned (.tuple #[.agg (devA d L),.agg (recA d.rec_),iv 0])∧Fresh w.heap.size w' (fun v=>DvOwn v w.heap.size d L)∧Below w.heap.size w w'
theorem devReady_check(h:devCheck d≠0):devReady d=devCheck d:=by unfold devReady;rw[if_pos h]
theorem devReady_off(h:devCheck d=0)(hu:d.up=false):devReady d=5:=by unfold devReady;rw[if_neg (by omega),if_pos hu]
theorem devReady_up(h:devReady d=0):devCheck d=0∧d.up=true:=by
 have:=devReady_ok.1 h;exact⟨devCheck_ok.2 this.1,this.2⟩
theorem ready_bad(d:Dev)(L:DLoc)(w:World)(h:DevIn w d L)(hne:devReady d≠0):Calls Tryz.prog 43 #[.agg (devA d L)] w (RetB w (.tuple #[.agg (devA Dev.zero DLoc.zero),.agg (recA Rec.zero),iv (devReady d)])):=by
 have hba:=(((bW w).alloc nl (.cells (devA d L) 37)).alloc (by simp) (.cells (devA Dev.zero DLoc.zero) 37)).alloc (by simp;omega) (.cells (recA Rec.zero) 28);have HBA:=qH hba;have HIN:=qH h;have K1:=qH (fun w h=>devCheck_calls d L w h);by_cases hc:devCheck d≠0
 first|case' inl=>have T2:Hid True:=qH trivial|case' pos=>have T2:Hid True:=qH trivial|case' refine_1=>have T2:Hid True:=qH trivial
 iterate 2
  ·first
    |
     revert T2;intro T2;rw[devReady_check hc];have q:(devCheck d !=0)=true:=by simp[hc]
     generalize devCheck d=n at *
    |
     have hc:=Decidable.not_not.1 hc;have hu:d.up=false:=by
      cases hu:d.up
      ·rfl
      exact absurd (devReady_ok.2 ⟨devCheck_ok.1 hc,hu⟩) hne
     rw[devReady_off hc hu];rw[hc]at K1
   clear hne hc h hba;go_enter Tryz.func43,Tryz.ntmps43;go_wp2_with fail;refine(K1.out _ (HIN.out.stays HBA.out)).mono ?_;rintro e w1 ⟨rfl,hb1⟩;have a0:=kp (w.heap.size) (devA d L) hb1;have a1:=kp (w.heap.size+1) (devA Dev.zero DLoc.zero) hb1;have a2:=kp (w.heap.size+1+1) (recA Rec.zero) hb1;have HB1:=bT HBA hb1;clear hb1;go_wp2_with fail;refine bodyPost_ret (results_cct rfl rfl (cs:=devA Dev.zero DLoc.zero) (ds:=recA Rec.zero) (by go_simp) (by go_simp) (by go_simp) rfl (by go_simp) (by go_simp) (by go_simp)) rfl ⟨rfl,bZ HB1⟩
def rdJ(w0:World)(g:Nat)(d:Dev):Nat->(Nat->Value)->World->Prop
 |0,_,w=>w=w0.drew
 |1,cv,w=>∃L2,cv 1=.agg (devA d L2)∧Fresh w0.heap.size w (fun v=>DvOwn v w0.heap.size d L2)∧Below w0.heap.size w0 w
 |2,_,w=>∃L2 w2,Fresh w0.heap.size w2 (fun v=>DvOwn v w0.heap.size d L2)∧Below w0.heap.size w0 w2∧w=w2.setRow (g+1) (devA d L2)
 |_,_,w=>∃L2 w2,Fresh w0.heap.size w2 (fun v=>DvOwn v w0.heap.size d L2)∧Below w0.heap.size w0 w2∧w=(w2.setRow (g+1) (devA d L2)).setRow (g+1+1) (recA d.rec_)
theorem rdJ_bel{w0:World}{cv:Nat->Value}(hk:k<=1)(hJ:rdJ w0 g d k cv w):Below w0.heap.size w0 w:=by
 match k,hk,hJ with
 |0,_,hJ=>obtain rfl:w=w0.drew:=hJ;exact(Below.refl _ _).drew
 |1,_,⟨_,_,_,h⟩=>exact h
theorem rdJ_any{w0:World}{g6:Nat}{cv:Nat->Value}(hk:k<=2)(hg:g6≠g+1)(hr:rowOf w0 g6=recA d.rec_)(hf:frOf w0 g6=(0,0))(hz:rowOf w0 (g+1)=devA Dev.zero DLoc.zero)(hJ:rdJ w0 g d k cv w):rowOf w g6=recA d.rec_∧frOf w g6=(0,0):=by
 have hlt:=row_lt (w:=w0) (g:=g6) (by rw[hr];simp[recA]);have hlt1:=row_lt (w:=w0) (g:=g+1) (by rw[hz];simp[devA])
 match k,hk,hJ with
 |0,_,hJ=>have hb:=rdJ_bel (k:=0) (by omega) hJ;exact⟨(rowOf_below hlt hb).trans hr,(frOf_below hlt hb).trans hf⟩
 |1,_,hJ=>have hb:=rdJ_bel (k:=1) (by omega) hJ;exact⟨(rowOf_below hlt hb).trans hr,(frOf_below hlt hb).trans hf⟩
 |2,_,⟨L2,w2,_,hb,e⟩=>
  subst e;rw[rowOf_setRow _ _ _ _ (by rw[rowOf_below hlt1 hb,hz];simp[devA]),if_neg hg,frOf_setRow];exact⟨(rowOf_below hlt hb).trans hr,(frOf_below hlt hb).trans hf⟩
theorem ready_ok(d:Dev)(L:DLoc)(w:World)(h:DevIn w d L)(hz:devReady d=0):Calls Tryz.prog 43 #[.agg (devA d L)] w (RdRet w d):=by
 have hba:=(((bW w).alloc nl (.cells (devA d L) 37)).alloc (by simp) (.cells (devA Dev.zero DLoc.zero) 37)).alloc (by simp;omega) (.cells (recA Rec.zero) 28);have HBA:=qH hba;have HIN:=qH h;have K1:=qH (fun w h=>devCheck_calls d L w h);obtain⟨hc,hu⟩:=devReady_up hz;have K2:=qH (fun w=>read_ok d.c0 d.c1 w (devCheck_ok.1 hc).cops);obtain⟨rk,hrk⟩:=eX ((recRead d.c0 d.c1).2);have hrec:(recRead d.c0 d.c1).1=d.rec_:=rfl;rw[hrk,hrec]at K2;rw[hc]at K1;clear hz hc h hba hrk hrec;go_enter Tryz.func43,Tryz.ntmps43;go_wp2_with fail;refine(K1.out _ (HIN.out.stays HBA.out)).mono ?_;rintro e w1 ⟨rfl,hb1⟩;have a3:=kp (w.heap.size) (devA d L) hb1;have a1:=kp (w.heap.size+1) (devA Dev.zero DLoc.zero) hb1;have a2:=kp (w.heap.size+1+1) (recA Rec.zero) hb1;have HB1:=bT HBA hb1;clear hb1;go_wp2_with fail;refine(K2.out _).mono ?_;rintro e w2 ⟨rfl,hb1⟩;have a3:=kr a3 hb1;have a1:=kr a1 hb1;have a2:=kr a2 hb1;have HB2:=bT HB1 hb1;clear hb1;go_wp2_with fail;have q1:rowOf (w2.alloc (.cells (recA d.rec_) 28)) w.heap.size=devA d L:=by rw[rowOf_alloc,if_neg a3.2.2.1];exact a3.1
 have q2:frOf (w2.alloc (.cells (recA d.rec_) 28)) w.heap.size=(0,0):=by rw[frOf_alloc,if_neg a3.2.2.1];exact a3.2.1
 have q3:rowOf (w2.alloc (.cells (recA d.rec_) 28)) (w.heap.size+1)=devA Dev.zero DLoc.zero:=by rw[rowOf_alloc,if_neg a1.2.2.1];exact a1.1
 have q4:frOf (w2.alloc (.cells (recA d.rec_) 28)) (w.heap.size+1)=(0,0):=by rw[frOf_alloc,if_neg a1.2.2.1];exact a1.2.1
 have q5:rowOf (w2.alloc (.cells (recA d.rec_) 28)) (w.heap.size+1+1)=recA Rec.zero:=by rw[rowOf_alloc,if_neg a2.2.2.1];exact a2.1
 have q6:frOf (w2.alloc (.cells (recA d.rec_) 28)) (w.heap.size+1+1)=(0,0):=by rw[frOf_alloc,if_neg a2.2.2.1];exact a2.2.1
 have q7:rowOf (w2.alloc (.cells (recA d.rec_) 28)) w2.heap.size=recA d.rec_:=by rw[rowOf_alloc,if_pos rfl]
 have q8:frOf (w2.alloc (.cells (recA d.rec_) 28)) w2.heap.size=(0,0):=by rw[frOf_alloc,if_pos rfl]
 have HB3:Hid (Below w.heap.size w (w2.alloc (.cells (recA d.rec_) 28))):=qH (HB2.out.alloc HB2.out.size _);have HSZ:Hid (w.heap.size+1+1<(w2.alloc (.cells (recA d.rec_) 28)).heap.size):=qH (by simp;omega);have HG1:Hid (w2.heap.size≠w.heap.size+1):=qH (by omega);obtain⟨g1,hg1⟩:=eX (w2.heap.size);obtain⟨w3,hw1⟩:=eX (w2.alloc (.cells (recA d.rec_) 28));obtain⟨g,hg⟩:=eX (w.heap.size);rw[hw1,hg]at q1 q2 q3 q4 q5 q6 HB3 HSZ;rw[hw1,hg1]at q7 q8;rw[hg1,hg]at HG1;rw[hw1,hg1,hg];have RD:=qH q1;have FD:=qH q2;have RZ:=qH q3;have FZ:=qH q4;have RY:=qH q5;have FY:=qH q6;have RR:=qH q7;have FR:=qH q8;have HG:=qH hg;have KC:Hid (∀wq,Below w3.heap.size w3 wq->Calls Tryz.prog 49 #[.agg (devA d L)] wq (DcRet wq d)):=qH (fun wq h=>devCopy_calls d L wq ((HIN.out.stays (HG.out▸HB3.out)).stays h));clear q1 q2 q3 q4 q5 q6 q7 q8 hw1 hg1 hg a3 a1 a2;refine wp_region_mix (by kernel_rfl) (some 28::some 29::some 30::some 31::none::none::some 4::[]) (none::some 0::none::none::some 1::some 2::none::[]) (.agg (devA d L)::undef::.agg (recA d.rec_)::iv 0::undef::undef::iv 0::[]) 3 (rdJ w3 g d) 32 rfl rfl (by decide+kernel) (by decide+kernel) (by decide+kernel) (by decide+kernel) rfl rfl (by decide+kernel) (by decide+kernel) (rfl) ?_ ?_
 ·refine⟨?_,?_,?_,?_,?_,?_,?_,trivial⟩
  ·intro done cv k1 a wq hw h hJ hn;have e1:=mO 1 (.pointer (some ⟨g,0,none⟩)) h;have hk:=hn 4 _ 1 rfl rfl (by decide);have hb:=rdJ_bel hk hJ;obtain⟨r_,f_,n_,c_,z_,l_⟩:=keep1 hb RD.out (by go_simp) FD.out;go_simp
  ·intro done cv a wq hw h hJ;have e1:=mN 0 28 h hw;obtain rfl:wq=w3.drew:=hJ;refine wp_call (vals:=#[.agg (devA d L)]) (by rw[List.map_toArray,List.map_cons,List.map_nil,ch_ev e1]) (enters_of Tryz.func49 (by kernel_rfl) rfl _ _) (KC.out _ ((Below.refl _ _).drew)) ?_;rintro e w' ⟨L1,rfl,hfr,hbel⟩;exact⟨_,rfl,_,rfl,L1,by simp,hfr,(Below.refl _ _).drew.trans hbel⟩
  ·intro done cv k1 a wq hw h hJ hn;have e1:=mO 6 (.pointer (some ⟨g1,0,none⟩)) h;have hk:=hn 5 _ 2 rfl rfl (by decide);obtain⟨r_,f_⟩:=rdJ_any hk HG1.out RR.out FR.out RZ.out hJ;go_simp
  ·intro done cv k2 a wq hw h hJ hn;have e1:=mO 8 (iv 0) h;exact mx_move (ch_ev e1)
  ·intro done cv a wq hw h hJ;have e1:=mO 2 (.pointer (some ⟨g+1,0,none⟩)) h;have e29:=mx_cv (i:=1) (t:=29) h (hw 1 (by decide)) rfl rfl;obtain⟨L1,y1,hfr,hbel⟩:=hJ;rw[y1]at e29;obtain⟨r_,f_,n_,c_,z_,l_⟩:=keep1 hbel RZ.out (by go_simp) FZ.out;refine wp_srow e1 e29 (by go_simp) (by go_simp) r_ (by go_simp) f_ (by go_simp) ⟨undef,rfl,L1,wq,hfr,hbel,?_⟩;rw[splice_all _ _ (by simp[devA])]
  ·intro done cv a wq hw h hJ;have e1:=mO 3 (.pointer (some ⟨g+1+1,0,none⟩)) h;have e30:=mN 2 30 h hw;obtain⟨L1,w2,hfr,hbel,rfl⟩:=hJ;obtain⟨r_,f_,n_,c_,z_,l_⟩:=keep1 hbel RY.out (by go_simp) FY.out;have r2_:=keep1 hbel RZ.out (by go_simp) FZ.out;refine wp_srow e1 e30 (by go_simp) (by go_simp) (cs:=recA Rec.zero) (by rw[rowOf_setRow _ _ _ _ (by rw[r2_.1];simp[devA]),if_neg (by omega)];exact r_) (by go_simp) (by rw[frOf_setRow];exact f_) (by go_simp) ⟨undef,rfl,L1,w2,hfr,hbel,?_⟩;rw[splice_all _ _ (by simp[recA])]
  ·intro done cv k1 a wq hw h hJ hn;have e1:=mN 3 31 h hw;exact mx_assign (ch_ev e1)
 intro cv w4 hJ;obtain⟨L1,w5,hfr,hbel,rfl⟩:=hJ;simp only[mixAll,putAll_some,putAll_none,putAll_nil,List.getElem?_cons_zero,List.getElem?_cons_succ,Nat.zero_add,Nat.reduceAdd,List.setIfInBounds_toArray,List.set_cons_zero,List.set_cons_succ];have hsz:=HSZ.out;have hge:=HG.out;obtain⟨r_,f_,n_,c_,z_,l_⟩:=keep1 hbel RY.out (by go_simp) FY.out;have r2_:=keep1 hbel RZ.out (by go_simp) FZ.out;have HFR:=qH hfr;have HB4:=qH hbel;clear hfr hbel;go_wp2_with fail;refine bodyPost_ret (results_cct rfl rfl (cs:=devA d L1) (ds:=recA d.rec_) (by go_simp) (by go_simp) (by go_simp) rfl (by go_simp) (by go_simp) (by go_simp)) rfl ⟨L1,rfl,?_,?_⟩
 ·refine Fresh.imp (P:=fun v=>DvOwn v w3.heap.size d L1) (Fresh.mono (base:=w3.heap.size) ?_ (by omega)) (fun v hv=>hv.mono (by omega));repeat (first|exact HFR.out|refine Fresh.row ?_ (by omega) _)
 rw[hge];have hb1:=HB3.out.size;have hb:=HB3.out.trans (HB4.out.mono (by omega));repeat (first|exact hb|refine bR ?_ _)
theorem x2ao(h:Y:=by
 intro done cv k1 a wq hw h hJ hn;have e1:=mO 0 (.slice (some ⟨g,0,none⟩) (n+1) c) h;exact mx_move (ch_ev e1)):Y:=h
theorem x4n4(h:Y:=by
 intro done cv k1 a wq hw h hJ hn;have e1:=mO 1 (iv (i:Int)) h;exact mx_move (ch_ev e1)):Y:=h
theorem x8ew(h:Y:=by
 intro done cv k1 a wq hw h hJ hn;have e1:=mO 7 (iv 1) h;exact mx_move (ch_ev e1)):Y:=h
theorem x9zw(h:Y:=by
 have k1:((i:Int)+1).toNat=i+1:=by omega
 have k1:(0:Int)<=(i:Int)+1:=by omega
 go_simp):Y:=h
def InsRet(w:World)(base n:Nat)(A:OA)(out:List Value):Ending->World->Prop:=fun en w'=>
 ∃A' c',en=.returned (.slice A' (n+1) c')∧Own w' base 39 5 A' (n+1) c' out∧Below base w w'∧(∀k,k<w.heap.size->A.map (·.block)≠some k->w'.heap[k]?=w.heap[k]?)∧(A'.map (·.block)=A.map (·.block)∨∀k,A'.map (·.block)=some k->w.heap.size<=k)
def insJ(w0 w1:World):Nat->(Nat->Value)->World->Prop
 |0,_,w=>w=w0.drew
 |_,_,w=>w=w1.drew∧True
theorem addr_plus(b o j:Nat):(⟨b,o,none⟩:Addr).add j=⟨b,o+j,none⟩:=by unfold Addr.add;split<;>simp_all
theorem insEnd0_calls(V:Addr)(vc:Nat)(ns:List Value)(w:World)(base:Nat)(hns:ns.length=5)(hv:Src w (some V) ns)(h1:∀u∈ns,u.oneCell'=true)(hb:base<=w.heap.size):
  Calls Tryz.prog 84 #[.slice none 0 0,iv 0,.slice (some V) 1 vc] w (InsRet w base 0 none ns):=by
 have hO:Own w base 39 5 none 0 0 []:=Own.nil_ _ _ _ _;have H1:=qH h1;clear h1;go_enter Tryz.func84,Tryz.ntmps84;go_wp2_with (at_builtin;go_must (refine wpList_app w rfl _ _ 32 rfl elChunks base none 0 0 [] rfl hO (some V) 1 vc ns rfl hv hns H1.out (by omega) hb ?_;intro A' c' w1 hown hg hb1 hor));go_ret;exact⟨A',c',by simp,by simpa using hown,hb1,fun k hk _=>hg.block k hk (by simp),by
  rcases hor with h|h
  ·exact .inl h
  exact .inr (fun k hk=>by rw[h]at hk;injection hk with hk;omega)⟩
theorem insEnd_calls(g n c:Nat)(xs:List Value)(V:Addr)(vc:Nat)(ns:List Value)(w:World)(base:Nat)(hO:Own w base 39 5 (some ⟨g,0,none⟩) n c xs)(hns:ns.length=5)(hv:Src w (some V) ns)(h1:∀u∈ns,u.oneCell'=true)(hb:base<=w.heap.size)(hn:n<=1000):
  Calls Tryz.prog 84 #[.slice (some ⟨g,0,none⟩) n c,iv n,.slice (some V) 1 vc] w (InsRet w base n (some ⟨g,0,none⟩) (xs++ns)):=by
 have hle:=hO.le;have HO:=qH hO;have H1:=qH h1;have q1:(n:Int)<=(c:Int):=by omega
 have q1:¬(n:Int)<0:=by omega
 have q1:((n:Int)==(n:Int))=true:=by simp
 have HD:Hid (∃v,∀wq,(Instr.slice 32 (.slice (some ⟨g,0,none⟩) n c) (some (iv (n:Int))) none none).run Tryz.prog wq=.ok v wq):=qH (by
  by_cases e:c=n
  ·exact⟨.slice (some ⟨g,0,none⟩) 0 0,fun wq=>by go_simp⟩
  exact⟨.slice (some ⟨g,n*5,none⟩) 0 (c-n),fun wq=>by go_simp⟩)
 obtain⟨v,hv1⟩:=HD.out;clear hO h1 HD;go_enter Tryz.func84,Tryz.ntmps84;go_wp2_with (at_builtin;go_must (refine wpList_app w rfl _ _ 32 rfl elChunks base (some ⟨g,0,none⟩) n c xs rfl HO.out (some V) 1 vc ns rfl hv hns H1.out (by omega) hb ?_;intro A' c' w1 hown hg hb1 hor));go_ret;refine⟨A',c',rfl,hown,hb1,fun k hk hne=>hg.block k hk (fun e=>hne e.symm),?_⟩;rcases hor with h|h
 ·exact .inl (by simpa using h)
 exact .inr (fun k hk=>by rw[h]at hk;injection hk with hk;omega)
theorem insRoom_calls(g n c i:Nat)(xs:List Value)(v vc:Nat)(ns:List Value)(tV:TypeId)(w:World)(base:Nat)(hO:Own w base 39 5 (some ⟨g,0,none⟩) n c xs)(hns:ns.length=5)(hv:w.heap[v]?=some (.cells ns.toArray tV (0,0)))(hvg:v≠g)(h1:∀u∈ns,u.oneCell'=true)(h2:∀u∈xs,u.oneCell'=true)(hb:base<=w.heap.size)(hn:n<=1000)(hi:i<n)(hc:n+1<=c):
  Calls Tryz.prog 84 #[.slice (some ⟨g,0,none⟩) n c,iv i,.slice (some ⟨v,0,none⟩) 1 vc] w (InsRet w base n (some ⟨g,0,none⟩) (xs.take (i*5)++ns++xs.drop (i*5))):=by
 obtain⟨hxl,⟨hv3,_⟩|⟨g',cap,cur,hv3,hbg,hgc,hncap,hmax,hcs,hxs1⟩⟩:=hO
 ·cases hv3
 injection hv3 with e1 e2 e3;injection e1 with e1;injection e1 with e1 e4;subst e1 e3;obtain⟨L,hL⟩:=eX (cur.toList);have hcur:cur=L.toArray:=by rw[<-hL]
 subst hcur;simp only[List.size_toArray]at hcs;have hxs:xs=L.take (n*5):=by simpa using hxs1.symm
 have hcm:c<=9223372036854775807:=by simp only[maxLen]at hmax;omega
 have q3:((i:Int)==(n:Int))=false:=beq_eq_false_iff_ne.2 (by omega);have q1:decide ((c:Int)<(n:Int)+1)=false:=decide_eq_false (by omega);have q1:IntKind.i64.wrap ((n:Int)+1)=(n:Int)+1:=IntWalk.i64_in _ (by omega);have HWI:Hid (IntKind.i64.wrap ((i:Int)+1)=(i:Int)+1):=qH (IntWalk.i64_in _ (by omega));have hS5:∀wq,(Instr.slice 32 (.slice (some ⟨g,0,none⟩) n c) (some (iv (i:Int))) none none).run Tryz.prog wq=.ok (.slice (some ⟨g,i*5,none⟩) (n-i) (c-i)) wq:=fun wq=>by
  have k1:¬c=i:=by omega
  have k1:(i:Int)<=(n:Int):=by omega
  go_simp
 have hS1:∀wq,(Instr.slice 32 (.slice (some ⟨g,0,none⟩) n c) none (some (iv ((n:Int)+1))) none).run Tryz.prog wq=.ok (.slice (some ⟨g,0,none⟩) (n+1) c) wq:=fun wq=>by
  have k1:¬c=0:=by omega
  have k1:(n:Int)+1<=(c:Int):=by omega
  have k1:(0:Int)<=(n:Int)+1:=by omega
  go_simp
 have hS1:∀wq,(Instr.slice 32 (.slice (some ⟨g,0,none⟩) (n+1) c) (some (iv ((i:Int)+1))) none none).run Tryz.prog wq=.ok (.slice (some ⟨g,(i+1)*5,none⟩) (n-i) (c-(i+1))) wq:=fun wq=>by
  have k1:¬c=i+1:=by omega
  have k1:(i:Int)+1<=(n:Int)+1:=by omega
  have k1:n+1-(i+1)=n-i:=by omega
  exact x9zw
 have hS2:∀wq,(Instr.slice 32 (.slice (some ⟨g,0,none⟩) (n+1) c) (some (iv (i:Int))) none none).run Tryz.prog wq=.ok (.slice (some ⟨g,i*5,none⟩) (n+1-i) (c-i)) wq:=fun wq=>by
  have k1:¬c=i:=by omega
  have k1:(i:Int)<=(n:Int)+1:=by omega
  go_simp
 have HS1:=qH hS1;have HS2:=qH hS2;have hsv:w.shape? v=some (tV,5):=by
  unfold World.shape?;rw[hv];simp[hns]
 have hsg:w.shape? g=some (39,c*5):=by
  unfold World.shape?;rw[hgc];simp[hcs]
 have hov:∀la lb cb,(callFunc 104 #[.slice (some ⟨v,0,none⟩) 1 la,.slice (some ⟨g,(i+1)*5,none⟩) lb cb]).run Tryz.prog w=.ok (.value (.bool false)) w:=fun la lb cb=>by
  rw[run_callFunc_extern Tryz.func104 (by kernel_rfl) (by kernel_rfl) (by kernel_rfl) (e:=Extern.SlicesOverlaps.overlaps #[32,32] #[4]) (by kernel_rfl)];have:=Lib.run_overlaps_apart (P:=Tryz.prog) w 32 4 39 Tryz.underlying32 5 (fun w=>by kernel_rfl) ⟨v,0,none⟩ ⟨g,(i+1)*5,none⟩ 1 la lb cb hvg tV 39 5 (c*5) hsv hsg (by omega) (by simp[World.frozen?,hv]) (by simp[World.frozen?,hv]);rw[this];rfl
 have hcl:((L.take (n*5)).drop (i*5)).length=(n-i)*5:=by simp;omega
 have hone:∀u∈(L.take (n*5)).drop (i*5),u.oneCell'=true:=fun u hu=>h2 u (by rw[hxs];exact List.mem_of_mem_drop hu);have hadd:∀(b o j:Nat),(⟨b,o,none⟩:Addr).add j=⟨b,o+j,none⟩:=addr_plus;have hC1:∀ty dc sc,(Builtin.copy_ #[32,32] ty #[.slice (some ⟨g,(i+1)*5,none⟩) (n-i) dc,.slice (some ⟨g,i*5,none⟩) (n+1-i) sc]).run Tryz.prog w.drew=.ok (goInt (Nat.min (n+1-i) (n-i))) (w.drew.setRow g (over L ((i+1)*5) ((L.take (n*5)).drop (i*5))).toArray):=fun ty dc sc=>
  run_copy_rowN w.drew 32 32 ty 39 g ((i+1)*5) (n-i) dc ⟨g,i*5,none⟩ (n+1-i) sc L 39 ((L.take (n*5)).drop (i*5)) 5 Tryz.underlying32 (by kernel_rfl) hgc (by rw[hcl];simp only[Nat.min_def];split<;>omega)
   (fun j u hj=>by
     rw[hadd,cell_of_row _ _ _ _ _ _ (show w.drew.heap[g]?=_ from hgc)];rw[List.getElem?_drop,List.getElem?_take]at hj;split at hj
     ·simpa using hj
     cases hj) (by omega) hone
 have HC1:=qH hC1;obtain⟨w1,hw1⟩:=eX (w.setRow g (over L ((i+1)*5) ((L.take (n*5)).drop (i*5))).toArray);have hol:=over_len L ((i+1)*5) ((L.take (n*5)).drop (i*5)) (by omega);have hg1:w1.heap[g]?=some (.cells (over L ((i+1)*5) ((L.take (n*5)).drop (i*5))).toArray 39 (0,0)):=by rw[<-hw1];exact setRow_heap w g _ _ _ _ hgc
 have hv1:w1.heap[v]?=some (.cells ns.toArray tV (0,0)):=by rw[<-hw1,setRow_other w g v _ hvg];exact hv
 have hC2:∀ty dc,(Builtin.copy_ #[32,32] ty #[.slice (some ⟨g,i*5,none⟩) (n+1-i) dc,.slice (some ⟨v,0,none⟩) 1 vc]).run Tryz.prog w1.drew=.ok (goInt (Nat.min 1 (n+1-i))) (w1.drew.setRow g (over (over L ((i+1)*5) ((L.take (n*5)).drop (i*5))) (i*5) ns).toArray):=fun ty dc=>
  run_copy_rowN w1.drew 32 32 ty 39 g (i*5) (n+1-i) dc ⟨v,0,none⟩ 1 vc _ 39 ns 5 Tryz.underlying32 (by kernel_rfl) hg1 (by rw[hns];simp only[Nat.min_def];split<;>omega)
   (fun j u hj=>by
     rw[hadd,cell_of_row _ _ _ _ _ _ (show w1.drew.heap[v]?=_ from hv1)];simpa using hj) (by omega) h1
 have HC2:=qH hC2;have HEND:Hid (InsRet w base n (some ⟨g,0,none⟩) (xs.take (i*5)++ns++xs.drop (i*5)) (.returned (.slice (some ⟨g,0,none⟩) (n+1) c)) (w1.drew.setRow g (over (over L ((i+1)*5) ((L.take (n*5)).drop (i*5))) (i*5) ns).toArray)):=qH (by
  have hol1:=over_len (over L ((i+1)*5) ((L.take (n*5)).drop (i*5))) (i*5) ns (by omega);have hin:=ins_room L ns (i*5) (n*5) (by omega) (by omega);rw[show i*5+ns.length=(i+1)*5 by omega]at hin;refine⟨some ⟨g,0,none⟩,c,rfl,⟨by simp;omega,Or.inr ⟨g,c,(over (over L ((i+1)*5) ((L.take (n*5)).drop (i*5))) (i*5) ns).toArray,rfl,hbg,setRow_heap w1.drew g _ _ _ _ hg1,by omega,hmax,by simp;omega,?_⟩⟩,?_,?_,.inl rfl⟩
  ·rw[hxs,<-hin];simp;congr 1;omega
  ·have hb1:Below base w w1:=by rw[<-hw1];exact below_row (Below.refl _ _) hbg _
   exact below_row hb1.drew hbg _
  intro k hk hne;have hkg:k≠g:=fun e=>hne (by rw[e];rfl);rw[setRow_other w1.drew g k _ hkg]
  show w1.heap[k]?=_;rw[<-hw1,setRow_other w g k _ hkg])
 clear hS1 hS2 hC1 hC2 hg1 hv1 hol hcl hone hxs hxs1 h2 h1 hgc hv hxl hL hadd;go_enter Tryz.func84,Tryz.ntmps84;go_wp2_with (simp only[hov]);refine wp_region_mix (by kernel_rfl) (some 69::some 70::some 71::some 72::some 73::some 74::some 75::some 76::some 77::[]) (none::none::none::none::none::none::none::none::some 0::[]) (.slice (some ⟨g,0,none⟩) (n+1) c::iv (i:Int)::iv 1::iv ((i:Int)+1)::.slice (some ⟨g,(i+1)*5,none⟩) (n-i) (c-(i+1))::.slice (some ⟨g,0,none⟩) (n+1) c::iv (i:Int)::.slice (some ⟨g,i*5,none⟩) (n+1-i) (c-i)::undef::[]) 1 (insJ w (w.setRow g (over L ((i+1)*5) ((L.take (n*5)).drop (i*5))).toArray)) 95 rfl rfl (by decide+kernel) (by decide+kernel) (by decide+kernel) (by decide+kernel) rfl rfl (by decide+kernel) (by decide+kernel) (rfl) ?_ ?_
 ·refine⟨?_,?_,?_,?_,?_,?_,?_,?_,?_,trivial⟩
  ·exact x2ao
  ·exact x4n4
  ·exact x8ew
  ·intro done cv k1 a wq hw h hJ hn;have e1:=mN 1 70 h hw;have e71:=mN 2 71 h hw;have h1:=HWI.out;go_simp
  ·intro done cv k1 a wq hw h hJ hn;have e1:=mN 0 69 h hw;have e72:=mN 3 72 h hw;have h1:=HS1.out;go_simp
  ·exact x2ao
  ·exact x4n4
  ·intro done cv k1 a wq hw h hJ hn;have e1:=mN 5 74 h hw;have e75:=mN 6 75 h hw;have h1:=HS2.out;go_simp
  ·intro done cv a wq hw h hJ;have e1:=mN 4 73 h hw;have e76:=mN 7 76 h hw;obtain rfl:wq=w.drew:=hJ;refine wp_copyN (.tmp 73) (.tmp 76) 32 32 rfl _ _ (ch_ev e1) (ch_ev e76) (HC1.out _ _ _) ⟨_,rfl,?_⟩;exact⟨rfl,trivial⟩
 intro cv w1 hJ;obtain⟨rfl,-⟩:=hJ;rw[hw1];simp only[mixAll,putAll_some,putAll_none,putAll_nil,List.getElem?_cons_zero,List.getElem?_cons_succ,Nat.zero_add,Nat.reduceAdd,List.setIfInBounds_toArray,List.set_cons_zero,List.set_cons_succ];clear HC1;have hS1:=HS2.out;have hC1:=HC2.out;go_wp2_with fail;go_ret;exact HEND.out
theorem insGrow_calls(g n c i:Nat)(xs:List Value)(v vc:Nat)(ns:List Value)(tV:TypeId)(w:World)(base:Nat)(hO:Own w base 39 5 (some ⟨g,0,none⟩) n c xs)(hns:ns.length=5)(hv:w.heap[v]?=some (.cells ns.toArray tV (0,0)))(h1:∀u∈ns,u.oneCell'=true)(h2:∀u∈xs,u.oneCell'=true)(hb:base<=w.heap.size)(hn:n<=1000)(hi:i<n)(hc:c<n+1):
  Calls Tryz.prog 84 #[.slice (some ⟨g,0,none⟩) n c,iv i,.slice (some ⟨v,0,none⟩) 1 vc] w (InsRet w base n (some ⟨g,0,none⟩) (xs.take (i*5)++ns++xs.drop (i*5))):=by
 have hnc:=hO.le;have hxl:=hO.len;have hsrc:=hO.src;have hgl:g<w.heap.size:=(hO.block g rfl).2;have hcn:c=n:=by omega
 clear hO hnc;subst hcn;have q5:((i:Int)==(c:Int))=false:=beq_eq_false_iff_ne.2 (by omega);have q1:decide ((c:Int)<(c:Int)+1)=true:=decide_eq_true (by omega);have q1:IntKind.i64.wrap ((c:Int)+1)=(c:Int)+1:=IntWalk.i64_in _ (by omega);have q1:(c:Int)+1-(i:Int)=((c+1-i:Nat):Int):=by omega
 have q1:IntKind.i64.wrap (((c+1-i:Nat):Int))=((c+1-i:Nat):Int):=IntWalk.i64_in _ (by omega);have HWI:Hid (IntKind.i64.wrap ((i:Int)+1)=(i:Int)+1):=qH (IntWalk.i64_in _ (by omega));have hS4:∀wq,(Instr.slice 32 (.slice (some ⟨g,0,none⟩) c c) (some (iv (i:Int))) none none).run Tryz.prog wq=.ok (.slice (some ⟨g,i*5,none⟩) (c-i) (c-i)) wq:=fun wq=>by
  have k1:¬c=i:=by omega
  have k1:(i:Int)<=(c:Int):=by omega
  go_simp
 have hS1:∀wq,(Instr.slice 32 (.slice (some ⟨g,0,none⟩) c c) none (some (iv (i:Int))) none).run Tryz.prog wq=.ok (.slice (some ⟨g,0,none⟩) i c) wq:=fun wq=>by
  have k1:¬c=0:=by omega
  have k1:(i:Int)<=(c:Int):=by omega
  go_simp
 obtain⟨inf,hif,hiz,his,hib⟩:=info_parts (P:=Tryz.prog) (e:=39) (z:=.agg #[iv 0,iv 0,iv 0,iv 0,.slice none 0 0]) (size:=5) (bytes:=56) (by kernel_rfl);have hpl:(xs.take (i*5)).length=i*5:=by simp;omega
 have hcell:∀(W:World),(∀k,k<w.heap.size->W.heap[k]?=w.heap[k]?)->∀j u,xs[j]?=some u->W.cell? ⟨g,j,none⟩=some u:=fun W hW j u hj=>by
  obtain⟨hjl,rfl⟩:=List.getElem?_eq_some_iff.1 hj;obtain⟨b',o',e,hlt,hcc⟩:=hsrc j hjl;injection e with e;injection e with e1 e2;subst e1 e2;rw[World.cell?_of_block (hW g hgl)];simpa using hcc
 have hold:(Builtin.firstCells inf.size i (.slice (some ⟨g,0,none⟩) i c)).run Tryz.prog w.drew=.ok (xs.take (i*5)).toArray w.drew:=by
  have:=run_loadCells_list (P:=Tryz.prog) w.drew ⟨g,0,none⟩ (xs.take (i*5)) (fun j u hj=>by
   rw[addr_plus,Nat.zero_add];rw[List.getElem?_take]at hj;split at hj
   ·exact hcell w.drew (fun _ _=>rfl) j u hj
   cases hj)
  rw[hpl]at this;rw[his];exact this
 have hr:=fun ty=>Lib.run_append_grow_zeros (P:=Tryz.prog) w 32 3 ty 39 inf (.agg #[iv 0,iv 0,iv 0,iv 0,.slice none 0 0]) .i64 .i64 Tryz.underlying32 Tryz.underlying3 hif hiz (some ⟨g,0,none⟩) i c _ hold (c+1-i) (by omega) (by omega) (by omega) (by omega) (by rw[hib];omega)
  (growslice_fits (by omega) (by rw[hib];omega))
 have hik:i+(c+1-i)=c+1:=by omega
 rw[hik]at hr;have hG:=grownCap_ge w (c+1) c 39;have hG1:=grownCap_le_maxLen w (c+1) c 39 (by unfold maxLen;omega);obtain⟨cap,hcd⟩:∃cap,cap=grownCap w (c+1) c 39:=⟨_,rfl⟩;rw[<-hcd]at hr hG hG1;obtain⟨Z,hZ⟩:∃Z:List Value,(Builtin.zeroCells (Value.cells (.agg #[iv 0,iv 0,iv 0,iv 0,.slice none 0 0])) (c+1-i)++Builtin.zeroCells (Value.cells (.agg #[iv 0,iv 0,iv 0,iv 0,.slice none 0 0])) (cap-(c+1))).toList=Z:=⟨_,rfl⟩;have hZl:Z.length=(cap-i)*5:=by rw[<-hZ];simp[Builtin.zeroCells,Value.cells];omega
 have hcells:(xs.take (i*5)).toArray++Builtin.zeroCells (Value.cells (.agg #[iv 0,iv 0,iv 0,iv 0,.slice none 0 0])) (c+1-i)++Builtin.zeroCells (Value.cells (.agg #[iv 0,iv 0,iv 0,iv 0,.slice none 0 0])) (cap-(c+1))=(xs.take (i*5)++Z).toArray:=by
  rw[<-hZ]
  apply Array.ext'
  simp
 rw[hcells]at hr;have hcm:cap<=9223372036854775807:=by simp only[maxLen]at hG1;omega
 clear hcd hcells hZ hif hiz his hib hold;obtain⟨w1,hw1⟩:=eX (w.drew.alloc (.cells (xs.take (i*5)++Z).toArray 39));rw[hw1]at hr;have hg1:w1.heap[w.heap.size]?=some (.cells (xs.take (i*5)++Z).toArray 39 (0,0)):=by rw[<-hw1];exact blk_top rfl
 have hb1:Below w.heap.size w w1:=by rw[<-hw1];exact(Below.refl _ _).drew.alloc nl _
 have hXl:(xs.take (i*5)++Z).length=cap*5:=by rw[List.length_append,hpl,hZl];omega
 have hvl:=blk_lt hv;have hv1:w1.heap[v]?=some (.cells ns.toArray tV (0,0)):=(hb1.block v hvl).trans hv;have hS1:∀wq,(Instr.slice 32 (.slice (some ⟨w.heap.size,0,none⟩) (c+1) cap) (some (iv (i:Int))) none none).run Tryz.prog wq=.ok (.slice (some ⟨w.heap.size,i*5,none⟩) (c+1-i) (cap-i)) wq:=fun wq=>by
  have k1:¬cap=i:=by omega
  have k1:(i:Int)<=(c:Int)+1:=by omega
  go_simp
 have hC1:∀ty dc,(Builtin.copy_ #[32,32] ty #[.slice (some ⟨w.heap.size,i*5,none⟩) (c+1-i) dc,.slice (some ⟨v,0,none⟩) 1 vc]).run Tryz.prog w1=.ok (goInt (Nat.min 1 (c+1-i))) (w1.setRow w.heap.size (over (xs.take (i*5)++Z) (i*5) ns).toArray):=fun ty dc=>
  run_copy_rowN w1 32 32 ty 39 w.heap.size (i*5) (c+1-i) dc ⟨v,0,none⟩ 1 vc _ 39 ns 5 Tryz.underlying32 (by kernel_rfl) hg1 (by rw[hns];simp only[Nat.min_def];split<;>omega)
   (fun j u hj=>by
     rw[addr_plus,cell_of_row _ _ _ _ _ _ hv1];simpa using hj) (by omega) h1
 obtain⟨w2,hw1⟩:=eX (w1.setRow w.heap.size (over (xs.take (i*5)++Z) (i*5) ns).toArray);have hol:=over_len (xs.take (i*5)++Z) (i*5) ns (by omega);have hg2:w2.heap[w.heap.size]?=some (.cells (over (xs.take (i*5)++Z) (i*5) ns).toArray 39 (0,0)):=by rw[<-hw1];exact setRow_heap w1 _ _ _ _ _ hg1
 have hb2:Below w.heap.size w w2:=by rw[<-hw1];exact below_row hb1 nl _
 have hS1:∀wq,(Instr.slice 32 (.slice (some ⟨w.heap.size,0,none⟩) (c+1) cap) (some (iv ((i:Int)+1))) none none).run Tryz.prog wq=.ok (.slice (some ⟨w.heap.size,(i+1)*5,none⟩) (c-i) (cap-(i+1))) wq:=fun wq=>by
  have k1:¬cap=i+1:=by omega
  have k1:(i:Int)+1<=(c:Int)+1:=by omega
  have k1:c+1-(i+1)=c-i:=by omega
  exact x9zw
 have HS1:=qH hS1;have HS2:=qH hS4;have hdl:(xs.drop (i*5)).length=(c-i)*5:=by simp;omega
 have hC1:∀ty dc sc,(Builtin.copy_ #[32,32] ty #[.slice (some ⟨w.heap.size,(i+1)*5,none⟩) (c-i) dc,.slice (some ⟨g,i*5,none⟩) (c-i) sc]).run Tryz.prog w2.drew=.ok (goInt (Nat.min (c-i) (c-i))) (w2.drew.setRow w.heap.size (over (over (xs.take (i*5)++Z) (i*5) ns) ((i+1)*5) (xs.drop (i*5))).toArray):=fun ty dc sc=>
  run_copy_rowN w2.drew 32 32 ty 39 w.heap.size ((i+1)*5) (c-i) dc ⟨g,i*5,none⟩ (c-i) sc _ 39 (xs.drop (i*5)) 5 Tryz.underlying32 (by kernel_rfl) hg2 (by rw[hdl];simp)
   (fun j u hj=>by
     rw[addr_plus];rw[List.getElem?_drop]at hj;exact hcell w2.drew (fun k hk=>hb2.block k hk) _ _ hj) (by omega) (fun u hu=>h2 u (List.mem_of_mem_drop hu))
 have HC1:=qH hC1;have HEND:Hid (InsRet w base c (some ⟨g,0,none⟩) (xs.take (i*5)++ns++xs.drop (i*5)) (.returned (.slice (some ⟨w.heap.size,0,none⟩) (c+1) cap)) (w2.drew.setRow w.heap.size (over (over (xs.take (i*5)++Z) (i*5) ns) ((i+1)*5) (xs.drop (i*5))).toArray)):=qH (by
  have hol1:=over_len (over (xs.take (i*5)++Z) (i*5) ns) ((i+1)*5) (xs.drop (i*5)) (by omega);have hin:=ins_grown xs Z ns (i*5) (c*5) 5 (by omega) hxl hns (by omega);rw[show i*5+5=(i+1)*5 by omega]at hin;refine⟨some ⟨w.heap.size,0,none⟩,cap,rfl,⟨by simp;omega,Or.inr ⟨w.heap.size,cap,_,rfl,hb,setRow_heap w2.drew _ _ _ _ _ hg2,by omega,hG1,by simp;omega,?_⟩⟩,?_,?_,.inr (fun k hk=>by injection hk with hk;have hk:w.heap.size=k:=hk;omega)⟩
  ·rw[<-hin];simp;congr 1;omega
  ·exact below_row (hb2.drew.mono hb) hb _
  intro k hk hne;rw[setRow_other w2.drew w.heap.size k _ (by omega)];exact hb2.block k hk)
 clear hS4 hS1 hC1 hg1 hv1 hol hdl h2 h1 hv hxl hg2 hcell hsrc hpl hXl hb1 hb2 hvl;have hS1:=HS2.out;go_enter Tryz.func84,Tryz.ntmps84;go_wp2_with (at_builtin;refine Lib.wpList_append_run _ rfl _ _ _ _ rfl _ _ rfl rfl _ _ (hr _) ?_);refine wp_region_mix (by kernel_rfl) (some 46::some 47::some 48::some 49::some 50::some 51::some 52::some 53::some 54::[]) (none::none::none::none::none::none::none::none::some 0::[]) (.slice (some ⟨w.heap.size,0,none⟩) (c+1) cap::iv (i:Int)::iv 1::iv ((i:Int)+1)::.slice (some ⟨w.heap.size,(i+1)*5,none⟩) (c-i) (cap-(i+1))::.slice (some ⟨g,0,none⟩) c c::iv (i:Int)::.slice (some ⟨g,i*5,none⟩) (c-i) (c-i)::undef::[]) 1 (insJ w2 (w2.setRow w.heap.size (over (over (xs.take (i*5)++Z) (i*5) ns) ((i+1)*5) (xs.drop (i*5))).toArray)) 95 rfl rfl (by decide+kernel) (by decide+kernel) (by decide+kernel) (by decide+kernel) rfl rfl (by decide+kernel) (by decide+kernel) (rfl) ?_ ?_
 ·refine⟨?_,?_,?_,?_,?_,?_,?_,?_,?_,trivial⟩
  ·intro done cv k1 a wq hw h hJ hn;have e1:=mO 9 (.slice (some ⟨w.heap.size,0,none⟩) (c+1) cap) h;exact mx_move (ch_ev e1)
  ·exact x4n4
  ·exact x8ew
  ·intro done cv k1 a wq hw h hJ hn;have e1:=mN 1 47 h hw;have e48:=mN 2 48 h hw;have h1:=HWI.out;go_simp
  ·intro done cv k1 a wq hw h hJ hn;have e1:=mN 0 46 h hw;have e49:=mN 3 49 h hw;have h1:=HS1.out;go_simp
  ·intro done cv k1 a wq hw h hJ hn;have e1:=mO 0 (.slice (some ⟨g,0,none⟩) c c) h;exact mx_move (ch_ev e1)
  ·exact x4n4
  ·intro done cv k1 a wq hw h hJ hn;have e1:=mN 5 51 h hw;have e52:=mN 6 52 h hw;have h1:=HS2.out;go_simp
  ·intro done cv a wq hw h hJ;have e1:=mN 4 50 h hw;have e53:=mN 7 53 h hw;obtain rfl:wq=w2.drew:=hJ;refine wp_copyN (.tmp 50) (.tmp 53) 32 32 rfl _ _ (ch_ev e1) (ch_ev e53) (HC1.out _ _ _) ⟨_,rfl,?_⟩;exact⟨rfl,trivial⟩
 intro cv w1 hJ;obtain⟨rfl,-⟩:=hJ;simp only[mixAll,putAll_some,putAll_none,putAll_nil,List.getElem?_cons_zero,List.getElem?_cons_succ,Nat.zero_add,Nat.reduceAdd,List.setIfInBounds_toArray,List.set_cons_zero,List.set_cons_succ];go_wp2_with fail;go_ret;exact HEND.out
theorem insChunks_calls(A:OA)(n c i:Nat)(xs:List Value)(v:Nat)(ns:List Value)(tV:TypeId)(w:World)(base:Nat)(hO:Own w base 39 5 A n c xs)(hns:ns.length=5)(hv:w.heap[v]?=some (.cells ns.toArray tV (0,0)))(hvg:A.map (·.block)≠some v)(h1:∀u∈ns,u.oneCell'=true)(h2:∀u∈xs,u.oneCell'=true)(hb:base<=w.heap.size)(hn:n<=1000)(hi:i<=n):
  Calls Tryz.prog 84 #[.slice A n c,iv i,.slice (some ⟨v,0,none⟩) 1 1] w (InsRet w base n A (xs.take (i*5)++ns++xs.drop (i*5))):=by
 have hsv:Src w (some ⟨v,0,none⟩) ns:=by
  intro j hj;refine⟨v,0,rfl,blk_lt hv,?_⟩;rw[cell_of_row _ _ _ _ _ _ hv];simp[hj]
 have hxl:=hO.len;rcases hO.2 with ⟨hv0,h0⟩|⟨g,cap,cur,hv0,hbg,hgc,hncap,hmax,hcs,hxs⟩
 ·injection hv0 with e1 e2 e3;subst e1 e2 e3;obtain rfl:i=0:=by omega
  have hx1:xs=[]:=List.eq_nil_of_length_eq_zero (by omega);subst hx1;simpa using insEnd0_calls ⟨v,0,none⟩ 1 ns w base hns hsv h1 hb
 injection hv0 with e1 e2 e3;subst e1;rcases Nat.lt_or_ge i n with hlt|hge
 ·rcases Nat.lt_or_ge c (n+1)with hc|hc
  ·exact insGrow_calls g n c i xs v 1 ns tV w base hO hns hv h1 h2 hb hn hlt hc
  ·exact insRoom_calls g n c i xs v 1 ns tV w base hO hns hv (fun e=>hvg (by rw[e];rfl)) h1 h2 hb hn hlt hc
 obtain rfl:i=n:=by omega
 rw[List.take_of_length_le (by omega),List.drop_eq_nil_of_le (by omega),List.append_nil];exact insEnd_calls g i c xs ⟨v,0,none⟩ 1 ns w base hO hns hsv h1 hb hn
theorem lined_len:∀(l:List Chk) (q:Chk),chkCheck q=0->Lined (some q) l->(l.length:Int)<=51-q.n
 |[],q,hq,_=>by
  have h:=(chkCheck_ok.1 hq).1;unfold Chk.range at h;simp only[List.length_nil];omega
 |c::l,q,hq,h=>by
  unfold Lined at h;have ih:=lined_len l c h.1 h.2.2;have h2:=(h.2.1 q rfl).2;simp only[List.length_cons];omega
theorem chkList_len(h:chkList l=0):l.length<=52:=by
 unfold chkList at h;rw[listGo_ok]at h;rcases l with _|⟨c,l⟩
 ·simp
 unfold Lined at h;have h1:=lined_len l c h.1 h.2.2;have h1:=(chkCheck_ok.1 h.1).1;unfold Chk.range at h1;simp only[List.length_cons];omega
theorem insAt_is{n:Int}(hk:k<=l.length)(h1:∀(j:Nat) (h:j<l.length),j<k->l[j].n<n)(h2:∀h:k<l.length,¬l[k].n<n):insAt l n=k:=by
 unfold insAt;have e:l.takeWhile (fun c=>decide (c.n<n))=l.take k:=by
  conv=>lhs;rw[<-List.take_append_drop k l]
  rw[List.takeWhile_append_of_pos (fun a ha=>by
   obtain⟨j,hj,rfl⟩:=List.mem_iff_getElem.1 ha;simp only[List.length_take]at hj;simp only[List.getElem_take];exact decide_eq_true (h1 j (by omega) (by omega)))]
  rcases Nat.lt_or_ge k l.length with hlt|hge
  ·rw[List.drop_eq_getElem_cons hlt,List.takeWhile_cons_of_neg (by simpa using h2 hlt),List.append_nil]
  rw[List.drop_eq_nil_of_le hge];simp
 rw[e,List.length_take];omega
theorem chkAdd_err1(h:chkList l≠0):chkAdd l c=([],chkList l):=by unfold chkAdd;rw[if_pos h]
theorem chkAdd_err2(h:chkList l=0)(g:chkCheck c≠0):chkAdd l c=([],chkCheck c):=by unfold chkAdd;rw[if_neg (by simpa using h),if_pos g]
theorem chkAdd_other{y:Chk}(h:chkList l=0)(g:chkCheck c=0)(hy:l[0]?=some y)(hk:¬kin y c):chkAdd l c=([c],0):=by
 unfold chkAdd;rw[if_neg (by simpa using h),if_neg (by simpa using g)];rcases l with _|⟨x,r⟩
 ·simp at hy
 have e:x=y:=by simpa using hy
 subst e;dsimp only;rw[if_pos hk]
theorem chkAdd_is(h:chkList l=0)(g:chkCheck c=0)(hkin:∀y,l[0]?=some y->kin y c)(hk:k<=l.length)(h1:∀(j:Nat) (h:j<l.length),j<k->l[j].n<c.n)(h2:∀h:k<l.length,¬l[k].n<c.n):
  (∀h:k<l.length,l[k].n=c.n->chkAdd l c=(l,0))∧((∀h:k<l.length,l[k].n≠c.n)->chkAdd l c=(l.take k++c::l.drop k,0)):=by
 have hins:=insAt_is hk h1 h2;obtain⟨hl1,hl2⟩:=chkList_ok.1 h;have hpw:=List.pairwise_iff_getElem.1 hl2;rcases l with _|⟨x,r⟩
 ·refine⟨fun h=>by simp at h,fun _=>?_⟩;unfold chkAdd;rw[if_neg (by simpa using h),if_neg (by simpa using g)];have:k=0:=by simpa using hk
  subst this;rfl
 have hx:=hkin x rfl;refine⟨fun hlt e=>?_,fun hne=>?_⟩
 ·unfold chkAdd;rw[if_neg (by simpa using h),if_neg (by simpa using g)];dsimp only;rw[if_neg (by simpa using hx),if_pos ⟨_,List.getElem_mem hlt,e⟩]
 unfold chkAdd;rw[if_neg (by simpa using h),if_neg (by simpa using g)];dsimp only;rw[if_neg (by simpa using hx),if_neg ?_,hins];rintro⟨y,hy,hyn⟩;obtain⟨j,hj,rfl⟩:=List.mem_iff_getElem.1 hy;rcases Nat.lt_trichotomy j k with hjk|hjk|hjk
 ·have:=h1 j hj hjk;omega
 ·subst hjk;exact hne hj hyn
 have h1:=(hpw k j (by omega) hj hjk).2;have h1:=h2 (by omega);omega
theorem own_blk5{e:Option Addr×Nat}(h:w.heap[g]?=some (.cells (chkA x.from_ x.to_ x.n x.of_ e.1 x.data.length e.2) 39 (0,0)))(hb:base<=g):Own w base 39 5 (some ⟨g,0,none⟩) 1 1 (kChk.cell x e):=
 ⟨by simp[kChk],Or.inr ⟨g,1,_,rfl,hb,h,nl,by unfold maxLen;omega,by simp[chkA],by simp[kChk,chkA]⟩⟩
theorem grow_one{e:Option Addr×Nat}(h:w.heap[g]?=some (.cells (chkA x.from_ x.to_ x.n x.of_ e.1 x.data.length e.2) 39 (0,0)))(hb:base<=g)(hd:Bts w e.1 x.data)(hd2:x.data.length<=e.2)(hne:∀k,e.1.map (·.block)=some k->k≠g):GRow kChk w base [x] [e] (some ⟨g,0,none⟩) 1:=
 ⟨rfl,by rw[cells_one];exact own_blk5 h hb,fun i o d h1 h2=>by
   match i with
   |0=>
    have e1:x=o:=by simpa using h1
    have e2:e=d:=by simpa using h2
    subst e1 e2;exact⟨hd,hd2⟩
   |i+1=>simp at h1,fun i o d h1 h2 hx k hk e3=>by
   match i with
   |0=>
    have e2:e=d:=by simpa using h2
    subst e2;have e4:g=k:=by simpa using e3
    exact hne k hk e4.symm
   |i+1=>simp at h1⟩
theorem each_one{e:Option Addr×Nat}{P:Nat->Prop}(h:∀k,e.1.map (·.block)=some k->P k):Each kChk [x] [e] P:=fun i o d h1 h2 hx k hk=>by
 match i with
 |0=>
  have e2:e=d:=by simpa using h2
  subst e2;exact h k hk
 |i+1=>simp at h1
theorem GRow.chkAt{c:Nat}(h:GRow kChk w base l ds (some ⟨g,0,none⟩) c){i:Nat}(hi:l[i]?=some x):∃B d,ChkAt w g (i*5) x B d:=by
 have hil:=(List.getElem?_eq_some_iff.1 hi).1;have hd:ds[i]?=some (ds[i]'(by rw[h.len];exact hil)):=List.getElem?_eq_getElem _;have hc:∀j,j<5->w.cell? ⟨g,i*5+j,none⟩=(kChk.cell x (ds[i]'(by rw[h.len];exact hil)))[j]?:=fun j hj=>by
  rw[h.row.cellAt _ (show i*5+j<l.length*5 by omega)];exact cells_at (K:=kChk) l ds h.len i j x _ hi hd hj
 exact⟨_,_,hc 0 (by decide),hc 1 (by decide),hc 2 (by decide),hc 3 (by decide),hc 4 (by decide)⟩
theorem ins_at{α:Type}{l:List α}{x o:α}{i:Nat}(hk:k<=l.length)(h:(l.take k++x::l.drop k)[i]?=some o):(i<k∧l[i]?=some o)∨(i=k∧o=x)∨(k<i∧l[i-1]?=some o):=by
 rcases Nat.lt_trichotomy i k with hi|hi|hi
 ·rw[List.getElem?_append_left (by simp;omega),List.getElem?_take,if_pos hi]at h;exact .inl ⟨hi,h⟩
 ·subst hi;rw[List.getElem?_append_right (by simp;omega)]at h;have:i-(l.take i).length=0:=by simp;omega
  rw[this]at h;simp at h;exact .inr (.inl ⟨rfl,h.symm⟩)
 rw[List.getElem?_append_right (by simp;omega)]at h;have:i-(l.take k).length=(i-k-1)+1:=by simp;omega
 rw[this,List.getElem?_cons_succ,List.getElem?_drop]at h;exact .inr (.inr ⟨hi,by rw[show i-1=k+(i-k-1) by omega];exact h⟩)
theorem GRow.ins{w':World}{B:Nat}{A A':OA}{c c':Nat}{e:Option Addr×Nat}(h:GRow kChk w base l ds A c)(hk:k<=l.length)
  (h1:Own w' base 39 5 A' (l.length+1) c' ((kChk.cells l ds).take (k*5)++kChk.cell x e++(kChk.cells l ds).drop (k*5))) (hb:Below B w w') (hkk:∀k,k<w.heap.size->A.map (·.block)≠some k->w'.heap[k]?=w.heap[k]?) (h3:A'.map (·.block)=A.map (·.block)∨∀k,A'.map (·.block)=some k->w.heap.size<=k)
  (hd:Bts w e.1 x.data) (hd2:x.data.length<=e.2) (hd3:x.data≠[]->∀k,e.1.map (·.block)=some k->A.map (·.block)≠some k):GRow kChk w' base (l.take k++x::l.drop k) (ds.take k++e::ds.drop k) A' c':=by
 have hlen:=h.len;have hc:=cells_take (K:=kChk) l ds hlen k hk;refine h.remake (by simp;omega) ?_ hb hkk h3 fun i o d hi hd'=>?_
 ·have e1:kChk.cells (l.take k++x::l.drop k) (ds.take k++e::ds.drop k)=(kChk.cells l ds).take (k*5)++kChk.cell x e++(kChk.cells l ds).drop (k*5):=by
   rw[cells_append _ _ _ _ (by simp;omega),show kChk.cells (x::l.drop k) (e::ds.drop k)=kChk.cell x e++kChk.cells (l.drop k) (ds.drop k) from rfl,hc.1,hc.2,List.append_assoc];rfl
  rw[e1,show (l.take k++x::l.drop k).length=l.length+1 by simp;omega];exact h1
 rcases ins_at hk hi with ⟨h4,h5⟩|⟨h4,h5⟩|⟨h4,h5⟩
 ·rcases ins_at (by omega) hd' with ⟨_,h7⟩|⟨h6,_⟩|⟨h6,_⟩
  ·exact .inl ⟨i,h5,h7⟩
  ·omega
  ·omega
 ·rcases ins_at (by omega) hd' with ⟨h6,_⟩|⟨_,h7⟩|⟨h6,_⟩
  ·omega
  ·subst h5 h7;exact .inr ⟨hd,hd2,hd3⟩
  ·omega
 rcases ins_at (by omega) hd' with ⟨h6,_⟩|⟨h6,_⟩|⟨_,h7⟩
 ·omega
 ·omega
 exact .inl ⟨i-1,h5,h7⟩
theorem Each.ins{e:Option Addr×Nat}{P:Nat->Prop}(h:Each kChk l ds P)(hl:ds.length=l.length)(hk:k<=l.length)(hd:∀k,e.1.map (·.block)=some k->P k):Each kChk (l.take k++x::l.drop k) (ds.take k++e::ds.drop k) P:=fun i o d hi hd' hx q hq=>by
 rcases ins_at hk hi with ⟨h4,h5⟩|⟨h4,h5⟩|⟨h4,h5⟩
 ·rcases ins_at (by omega) hd' with ⟨_,h7⟩|⟨h6,_⟩|⟨h6,_⟩
  ·exact h i o d h5 h7 hx q hq
  ·omega
  ·omega
 ·rcases ins_at (by omega) hd' with ⟨h6,_⟩|⟨_,h7⟩|⟨h6,_⟩
  ·omega
  ·subst h7;exact hd q hq
  ·omega
 rcases ins_at (by omega) hd' with ⟨h6,_⟩|⟨h6,_⟩|⟨_,h7⟩
 ·omega
 ·omega
 exact h (i-1) o d h5 h7 hx q hq
end Go.Proofs.YtefkfglkpebbmacGreat
