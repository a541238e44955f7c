/- Walks. No conditions. -/
import Derived.Test.YtefkfglkpebbmabGreatP21
set_option linter.all false
set_option maxRecDepth 100000
set_option maxHeartbeats 0
namespace Go.Proofs.YtefkfglkpebbmabGreat
open Go.RowKit
variable {Y:Prop}
variable {w0 w:World} {x:Wor} {cv:Nat->Value} {l:List (Int×Int)} {k n:Int}
theorem x13e(h:Y:=by
 obtain⟨r_,f_⟩:=wcJ_row (by have hk:=hn 10 _ 4 rfl rfl (by decide);omega) HR.out HF.out hJ;have c_:=cell_row (w:=wq) (g:=g) (by rw[r_];simp[worA]);go_simp):Y:=h
def wcJ(w0:World)(g:Nat)(x:Wor):Nat->(Nat->Value)->World->Prop
 |0,_,w=>w=w0.drew
 |1,cv,w1=>∃A5 c5 ds,cv 2=.slice A5 x.rel.length c5∧GRow kImg w1 w0.heap.size x.rel ds A5 c5∧Each kImg x.rel ds (fun k=>w0.heap.size<=k)∧Below w0.heap.size w0 w1
 |2,cv,w2=>∃A5 c5 ds w1 L6,cv 2=.slice A5 x.rel.length c5∧cv 5=.agg (devA x.d L6)∧GRow kImg w1 w0.heap.size x.rel ds A5 c5∧Each kImg x.rel ds (fun k=>w0.heap.size<=k)∧Below w0.heap.size w0 w1∧Fresh w1.heap.size w2 (fun v=>DvOwn v w1.heap.size x.d L6)∧Below w1.heap.size w1 w2
 |3,cv,w=>∃A5 c5 ds w1 L6 w2 A7 c7 ds7,cv 2=.slice A5 x.rel.length c5∧cv 5=.agg (devA x.d L6)∧cv 8=.slice A7 x.net.length c7∧GRow kImg w1 w0.heap.size x.rel ds A5 c5∧Each kImg x.rel ds (fun k=>w0.heap.size<=k)∧Below w0.heap.size w0 w1∧Fresh w1.heap.size w2 (fun v=>DvOwn v w1.heap.size x.d L6)∧Below w1.heap.size w1 w2∧GRow kChk w w2.heap.size x.net ds7 A7 c7∧Each kChk x.net ds7 (fun k=>w2.heap.size<=k)∧Below w2.heap.size w2 w
 |4,cv,w=>∃A5 c5 ds w1 L6 w2 A7 c7 ds7,cv 9=.agg (worA ⟨x.rel,x.d,x.net⟩ ⟨A5,c5,L6,A7,c7⟩)∧GRow kImg w1 w0.heap.size x.rel ds A5 c5∧Each kImg x.rel ds (fun k=>w0.heap.size<=k)∧Below w0.heap.size w0 w1∧Fresh w1.heap.size w2 (fun v=>DvOwn v w1.heap.size x.d L6)∧Below w1.heap.size w1 w2∧GRow kChk w w2.heap.size x.net ds7 A7 c7∧Each kChk x.net ds7 (fun k=>w2.heap.size<=k)∧Below w2.heap.size w2 w
 |_,_,w=>∃A5 c5 ds w1 L6 w2 A7 c7 ds7 w3,GRow kImg w1 w0.heap.size x.rel ds A5 c5∧Each kImg x.rel ds (fun k=>w0.heap.size<=k)∧Below w0.heap.size w0 w1∧Fresh w1.heap.size w2 (fun v=>DvOwn v w1.heap.size x.d L6)∧Below w1.heap.size w1 w2∧GRow kChk w3 w2.heap.size x.net ds7 A7 c7∧Each kChk x.net ds7 (fun k=>w2.heap.size<=k)∧Below w2.heap.size w2 w3∧w=w3.setRow (g+1) (worA ⟨x.rel,x.d,x.net⟩ ⟨A5,c5,L6,A7,c7⟩)
theorem wcJ_row{g k:Nat}{L:WLoc}(hk:k<=4)(hr:rowOf w0 g=worA x L)(hf:frOf w0 g=(0,0))(hJ:wcJ w0 g x k cv w):rowOf w g=worA x L∧frOf w g=(0,0):=by
 have hg:g<w0.heap.size:=row_lt (w:=w0) (by rw[hr];simp[worA]);have key:Below w0.heap.size w0 w->rowOf w g=worA x L∧frOf w g=(0,0):=fun hb=>⟨(rowOf_below hg hb).trans hr,(frOf_below hg hb).trans hf⟩;rcases (show k=0∨k=1∨k=2∨k=3∨k=4 by omega)with rfl|rfl|rfl|rfl|rfl
 ·have hJ':w=w0.drew:=hJ;subst hJ';exact key (Below.refl _ _).drew
 ·exact x27l
 ·obtain⟨A2,c2,ds,w1,L1,y1,y2,g1,g2,h,g3,h1⟩:=hJ;exact key (h.trans (h1.mono h.size))
 ·obtain⟨A1,c1,ds,w1,L2,w2,A3,c3,ds1,y1,y2,y3,g1,g2,h,g3,h2,g4,g5,h3⟩:=hJ;exact key (h.trans ((h2.trans (h3.mono h2.size)).mono h.size))
 obtain⟨A1,c1,ds,w1,L1,w2,A2,c2,ds1,y1,g1,g2,h,g3,h1,g4,g5,h3⟩:=hJ;exact key (h.trans ((h1.trans (h3.mono h1.size)).mono h.size))
theorem worCopy_calls(x:Wor)(L:WLoc)(w:World)(h:WorIn w x L):Calls Tryz.prog 17 #[.agg (worA x L)] w (WcRet w x):=by
 have HI:=qH h;have HBD:Hid ((∀y∈x.net,ChkB y)∧∀y∈x.rel,y.length<=140737488351232):=qH ⟨h.net.bound,h.rel.bound⟩;clear h;go_enter Tryz.func17,Tryz.ntmps17;go_wp2_with fail;have q1:rowOf ((w.alloc (.cells (worA x L) 40)).alloc (.cells (worA Wor.zero WLoc.zero) 40)) w.heap.size=worA x L:=by go_simp
 have q2:frOf ((w.alloc (.cells (worA x L) 40)).alloc (.cells (worA Wor.zero WLoc.zero) 40)) w.heap.size=(0,0):=by go_simp
 have q3:rowOf ((w.alloc (.cells (worA x L) 40)).alloc (.cells (worA Wor.zero WLoc.zero) 40)) (w.heap.size+1)=worA Wor.zero WLoc.zero:=by go_simp
 have q4:frOf ((w.alloc (.cells (worA x L) 40)).alloc (.cells (worA Wor.zero WLoc.zero) 40)) (w.heap.size+1)=(0,0):=by go_simp
 obtain⟨w5,hw1⟩:=eX ((w.alloc (.cells (worA x L) 40)).alloc (.cells (worA Wor.zero WLoc.zero) 40));have HB1:Hid (Below w.heap.size w w5):=qH (by rw[<-hw1];exact(bL _).alloc (by simp) _);have HSZ:Hid (w5.heap.size=w.heap.size+2):=qH (by rw[<-hw1];simp);obtain⟨g,hg⟩:=eX (w.heap.size);rw[hw1,hg]at q1 q2 q3 q4;have HR:=qH q1;have HF:=qH q2;have HRz:=qH q3;have HFz:=qH q4;rw[hg]at HSZ;have HGz:Hid (g+1<w5.heap.size):=qH (by rw[HSZ.out];omega);rw[hw1];rw[hg]at HB1⊢;have HGE:=qH hg;clear hw1 hg q1 q2 q3 q4;have HIN:Hid (WorIn w5 x L):=qH (HI.out.stays (HGE.out▸HB1.out));have KA:Hid (∀wq,Below w5.heap.size w5 wq->Calls Tryz.prog 16 #[.slice L.ar x.rel.length L.cr] wq (KrRet kImg wq x.rel)):=qH (fun wq h=>images_calls _ _ _ wq HI.out.lr (HIN.out.rel.stays h));have KB:Hid (∀wq,Below w5.heap.size w5 wq->Calls Tryz.prog 53 #[.agg (devA x.d L.l)] wq (DcRet wq x.d)):=qH (fun wq h=>devCopy_calls _ _ wq (HIN.out.dev.stays h));have KN:Hid (∀wq,Below w5.heap.size w5 wq->Calls Tryz.prog 54 #[.slice L.an x.net.length L.cn] wq (KrRet kChk wq x.net)):=qH (fun wq h=>chkCopy_calls _ _ _ wq HI.out.ln (HIN.out.net.stays h));refine wM (some 3::some 4::some 5::some 6::some 7::some 8::some 9::some 10::some 11::some 12::none::[]) (none::none::some 0::none::none::some 1::none::none::some 2::some 3::some 4::[]) (.pointer (some ⟨g,0,none⟩)::.slice L.ar x.rel.length L.cr::undef::.pointer (some ⟨g,1,none⟩)::.agg (devA x.d L.l)::undef::.pointer (some ⟨g,38,none⟩)::.slice L.an x.net.length L.cn::undef::undef::undef::[]) 5 (wcJ w5 g x) 13 (rfl) ?_ ?_
 ·refine⟨?_,?_,?_,?_,?_,?_,?_,?_,?_,?_,?_,trivial⟩
  ·exact x1jh
  ·intro done cv k2 a wq hw h hJ hn;have e1:=mN 0 3 h hw;exact x13e
  ·intro done cv a wq hw h hJ;have e1:=mN 1 4 h hw;obtain rfl:wq=w5.drew:=hJ;refine wp_call (vals:=#[.slice L.ar x.rel.length L.cr]) (by rw[List.map_toArray,List.map_cons,List.map_nil,ch_ev e1]) (enters_of Tryz.func16 (by kernel_rfl) rfl _ _) (KA.out _ ((Below.refl _ _).drew)) ?_;exact x60d
  ·exact x1jh
  ·intro done cv k2 a wq hw h hJ hn;have e1:=mN 3 6 h hw;exact x13e
  ·intro done cv a wq hw h hJ;have e1:=mN 4 7 h hw;obtain⟨A1,c1,ds,y1,hrow,heach,hbel⟩:=hJ;refine wp_call (vals:=#[.agg (devA x.d L.l)]) (by rw[List.map_toArray,List.map_cons,List.map_nil,ch_ev e1]) (enters_of Tryz.func53 (by kernel_rfl) rfl _ _) (KB.out _ hbel) ?_;rintro e w' ⟨L1,rfl,hfr,hbel1⟩;exact⟨_,rfl,_,rfl,A1,c1,ds,wq,L1,by simpa using y1,by simp,hrow,heach,hbel,hfr,hbel1⟩
  ·exact x1jh
  ·intro done cv k2 a wq hw h hJ hn;have e1:=mN 6 9 h hw;exact x13e
  ·intro done cv a wq hw h hJ;have e1:=mN 7 10 h hw;obtain⟨A1,c1,ds,w1,L1,y1,y2,hrow,heach,hbel,hfr,hbel1⟩:=hJ;refine wp_call (vals:=#[.slice L.an x.net.length L.cn]) (by rw[List.map_toArray,List.map_cons,List.map_nil,ch_ev e1]) (enters_of Tryz.func54 (by kernel_rfl) rfl _ _) (KN.out _ (hbel.trans (hbel1.mono hbel.size))) ?_;rintro e w' ⟨A2,c2,ds1,rfl,hrow1,heach1,hbel2⟩;exact⟨_,rfl,_,rfl,A1,c1,ds,w1,L1,wq,A2,c2,ds1,by simpa using y1,by simpa using y2,by simp,hrow,heach,hbel,hfr,hbel1,hrow1,heach1,hbel2⟩
  ·intro done cv a wq hw h hJ;have e1:=mx_cv (i:=2) (t:=5) h (hw 2 (by decide)) rfl rfl;have e8:=mx_cv (i:=5) (t:=8) h (hw 5 (by decide)) rfl rfl;have e11:=mx_cv (i:=8) (t:=11) h (hw 8 (by decide)) rfl rfl;obtain⟨A1,c1,ds,w1,L1,w2,A2,c2,ds1,y1,y2,y3,hrow,heach,hbel,hfr,hbel1,hrow1,heach1,hbel3⟩:=hJ;rw[y1]at e1;rw[y2]at e8;rw[y3]at e11;refine wp_val (v:=.agg (worA ⟨x.rel,x.d,x.net⟩ ⟨A1,c1,L1,A2,c2⟩)) (by go_simp) ⟨_,rfl,A1,c1,ds,w1,L1,w2,A2,c2,ds1,by simp,hrow,heach,hbel,hfr,hbel1,hrow1,heach1,hbel3⟩
  ·intro done cv a wq hw h hJ;have e1:=mO 2 (.pointer (some ⟨g+1,0,none⟩)) h;have e12:=mx_cv (i:=9) (t:=12) h (hw 9 (by decide)) rfl rfl;obtain⟨A1,c1,ds,w1,L1,w2,A2,c2,ds1,y1,hrow,heach,hbel,hfr,hbel1,hrow1,heach1,hbel3⟩:=hJ;rw[y1]at e12;have hbl:=hbel.trans ((hbel1.trans (hbel3.mono hbel1.size)).mono hbel.size);refine wp_srow e1 e12 (by go_simp) (by go_simp) (cs:=worA Wor.zero WLoc.zero) ((rowOf_below HGz.out hbl).trans HRz.out) (by go_simp) ((frOf_below HGz.out hbl).trans HFz.out) (by go_simp) ⟨undef,rfl,A1,c1,ds,w1,L1,w2,A2,c2,ds1,wq,hrow,heach,hbel,hfr,hbel1,hrow1,heach1,hbel3,?_⟩;rw[splice_all _ _ (by simp[worA])]
 intro cv w4 hJ;obtain⟨A1,c1,ds,w1,L1,w2,A2,c2,ds1,w3,hrow,heach,hbel,hfr,hbel1,hrow1,heach1,hbel3,rfl⟩:=hJ;simp only[mixAll,pA,mA,Nat.reduceAdd];have hbl:=hbel.trans ((hbel1.trans (hbel3.mono hbel1.size)).mono hbel.size);have r1:0<(rowOf w3 (g+1)).size:=by rw[rowOf_below HGz.out hbl,HRz.out];simp[worA]
 have hs4:=HSZ.out;have hs1:=hbel.size;have hs2:=hbel1.size;have hs3:=hbel3.size;have HW:Hid (WorAt w3 w5.heap.size w2.heap.size w3.heap.size ds1 x ⟨A1,c1,L1,A2,c2⟩):=qH ⟨by omega,hs3,nl,by
   have h1:FrIn w5.heap.size w1.heap.size w1 (fun v=>Ims v A1 x.rel):=((hrow.fresh heach).imp fun v hv=>hv.src.ims HBD.out.2).frIn;exact(h1.of (v:=w3) (fun k a b=>((hbel3.block k (by omega)).trans (hbel1.block k b)))).wider nl hs2,by
   have h2:FrIn w1.heap.size w2.heap.size w2 (fun v=>DevIn v x.d L1):=(hfr.imp fun v hv=>hv.devIn).frIn;exact(h2.wider hs1 nl).of (fun k a b=>hbel3.block k b),hrow1,(fun i o d e1 e2 hx k hk=>⟨heach1 i o d e1 e2 hx k hk,hrow1.src.each i o d e1 e2 hx k hk⟩),(fun k e=>(hrow1.row.block k e).2),HBD.out.1,hrow.row.le,HI.out.lr,HI.out.ln⟩
 have HB2:Hid (Below g w (w3.setRow (g+1) (worA ⟨x.rel,x.d,x.net⟩ ⟨A1,c1,L1,A2,c2⟩))):=qH (below_row (HB1.out.trans (hbl.mono (by omega))) (by omega) _);clear hrow heach hbel hfr hbel1 hrow1 heach1 hbel3 KA KB KN;have r2:rowOf (w3.setRow (g+1) (worA ⟨x.rel,x.d,x.net⟩ ⟨A1,c1,L1,A2,c2⟩)) (g+1)=worA ⟨x.rel,x.d,x.net⟩ ⟨A1,c1,L1,A2,c2⟩:=by rw[rowOf_setRow _ _ _ _ r1,if_pos rfl]
 go_wp2_with fail;refine bodyPost_ret (results_c rfl rfl (cs:=worA ⟨x.rel,x.d,x.net⟩ ⟨A1,c1,L1,A2,c2⟩) r2 (by go_simp) (by go_simp)) rfl ⟨⟨A1,c1,L1,A2,c2⟩,w2.heap.size,ds1,rfl,?_,?_⟩
 ·rw[HGE.out,<-hs4];have h1:=HW.out.same (v:=w3.setRow (g+1) (worA ⟨x.rel,x.d,x.net⟩ ⟨A1,c1,L1,A2,c2⟩)) (fun k a b=>setRow_other _ _ _ _ (by omega)) (by simp[World.setRow]);have e1:(w3.setRow (g+1) (worA ⟨x.rel,x.d,x.net⟩ ⟨A1,c1,L1,A2,c2⟩)).heap.size=w3.heap.size:=by simp[World.setRow]
  rw[e1];exact h1
 rw[HGE.out];exact HB2.out
theorem x0yz(h:Y:=by
 rcases hor6 with h9|h9
 ·exact .inl (h9▸e)
 rw[h9]at e;injection e with e
 simp[World.setRow]at e;exact .inr (by omega)):Y:=h
theorem x8cd(h:Y:=by
 have h1:=rowOf_heap (hk1 (g+1) (by omega) (hgA _ (by omega)) (by omega));exact⟨h1.1.trans b1.1,h1.2.trans b1.2.1⟩):Y:=h
theorem x8q3(h:Y:=by
 go_enter Tryz.func28,Tryz.ntmps28;go_wp2_with fail;refine(K1.out _ (HIN.out.stays HBA.out)).mono ?_;rintro e w1 ⟨rfl,hb⟩;have a2:=kp (w.heap.size) (worA x0 L0) hb;have a1:=kp (w.heap.size+1) (worA Wor.zero WLoc.zero) hb;have hs1:w.heap.size+2<=w1.heap.size:=by have:=hb.size;simp at this;omega
 have HB1:=bT HBA hb;clear hb;go_wp2_with fail;refine bodyPost_ret (results_ctt rfl rfl (cs:=worA Wor.zero WLoc.zero) (by go_simp) (by go_simp) (by go_simp)) rfl ⟨WLoc.zero,none,0,w.heap.size,rfl,Own.nil_ _ _ _ _,nl,fun v _=>WorIn.zero v,bZ HB1⟩):Y:=h
def rHap:CR (Int×Int):=fun w cs x=>cs=[iv x.1,iv x.2]∧I64 x.1∧I64 x.2
abbrev Hps (w:World) (A:OA) (l:List (Int×Int)):=Elems 2 rHap w A l
def WrRet(w:World)(x:Wor)(said:List Int)(n:Int):Ending->World->Prop:=fun en w'=>
 ∃L A c b,en=.returned (.tuple #[.agg (worA x L),.slice A said.length c,iv n])∧Own w' b 43 1 A said.length c (said.map iv)∧w.heap.size<=b∧(∀v:World,(∀q,b<=q->A.map (·.block)≠some q->q<w'.heap.size->v.heap[q]?=w'.heap[q]?)->WorIn v x L)∧Below w.heap.size w w'
theorem said_len:∀(l:List (Int×Int)) (x:Wor),(worSaid l x).length=l.length
 |[],x=>rfl
 |y::l,x=>by simp[worSaid,said_len l]
theorem worRun_bad(h:worCheck x≠0):worRun x l=(Wor.zero,[],worCheck x):=by unfold worRun;rw[if_pos h]
theorem worRun_many(h:worCheck x=0)(g:200<l.length):worRun x l=(Wor.zero,[],1):=by unfold worRun;rw[if_neg (by omega),if_pos g]
theorem worRun_ok(h:worCheck x=0)(g:¬200<l.length):worRun x l=(worGo l x,worSaid l x,0):=by unfold worRun;rw[if_neg (by omega),if_neg g]
theorem worRun_gen(x0:Wor)(L0:WLoc)(B:OA)(cl:Nat)(l:List (Int×Int))(w:World)(h:WorIn w x0 L0)(hl:l.length<=140737488351232)(hcl:l.length<=cl)(hh:Hps w B l)(KHP:∀y∈l,HapOk y.1 y.2):Calls Tryz.prog 28 #[.agg (worA x0 L0),.slice B l.length cl] w (WrRet w (worRun x0 l).1 (worRun x0 l).2.1 (worRun x0 l).2.2):=by
 have hba:Below w.heap.size w ((w.alloc (.cells (worA x0 L0) 40)).alloc (.cells (worA Wor.zero WLoc.zero) 40)):=bA (bA (Below.refl _ _) _) _;have HBA:=qH hba;have HIN:=qH h;have HH:=qH hh;have HKP:=qH KHP;clear KHP;have K1:=qH (fun w h=>worCheck_calls x0 L0 w h);by_cases hc:worCheck x0≠0
 ·rw[worRun_bad hc];have q:(worCheck x0 !=0)=true:=by simp[hc]
  generalize worCheck x0=cc at *
  clear hc hba h hh;exact x8q3
 have hc:=Decidable.not_not.1 hc;have hok:=worCheck_ok.1 hc;by_cases hm:200<l.length
 ·rw[worRun_many hc hm];rw[hc]at K1;have q:(200:Int)<(l.length:Int):=by omega
  clear hc hba h hh hok;exact x8q3
 rw[worRun_ok hc hm];rw[hc]at K1;have q1:¬(200:Int)<(l.length:Int):=by omega
 have HOK:=qH hok;clear hc hba h hh hok;go_enter Tryz.func28,Tryz.ntmps28;go_wp2_with fail;refine(K1.out _ (HIN.out.stays HBA.out)).mono ?_;rintro e w1 ⟨rfl,hb⟩;have a3:=kp (w.heap.size) (worA x0 L0) hb;have a1:=kp (w.heap.size+1) (worA Wor.zero WLoc.zero) hb;have hs1:w.heap.size+2<=w1.heap.size:=by have:=hb.size;simp at this;omega
 have HB1:=bT HBA hb;clear hb;go_wp2_with fail;refine(worCopy_calls x0 L0 _ (HIN.out.stays HB1.out)).mono ?_;rintro e w2 ⟨L1,m,ds,rfl,hwa,hb⟩;have a3:=kr a3 hb;have a1:=kr a1 hb;have hs2:w1.heap.size<=w2.heap.size:=hb.size;have HB2:=bT HB1 hb;have hp1:0<(rowOf w2 w.heap.size).size:=by rw[a3.1];simp[worA]
 have HW1:Hid (∀v:World,(∀q,w.heap.size+2<=q->q<w2.heap.size->v.heap[q]?=w2.heap[q]?)->WorIn v x0 L1):=qH (fun v hv=>hwa.wex (fun k a b=>hv k (by omega) b));have HRW:Hid (rowOf (w2.setRow w.heap.size (worA x0 L1)) w.heap.size=worA x0 L1∧frOf (w2.setRow w.heap.size (worA x0 L1)) w.heap.size=(0,0)∧rowOf (w2.setRow w.heap.size (worA x0 L1)) (w.heap.size+1)=worA Wor.zero WLoc.zero∧frOf (w2.setRow w.heap.size (worA x0 L1)) (w.heap.size+1)=(0,0)):=qH
  ⟨by rw[rowOf_setRow _ _ _ _ hp1,if_pos rfl],by rw[frOf_setRow];exact a3.2.1,by rw[rowOf_setRow _ _ _ _ hp1,if_neg (by omega)];exact a1.1,by rw[frOf_setRow];exact a1.2.1⟩
 clear hb hwa;go_wp2_with fail;clear a3 a1 hp1;obtain⟨g,hg⟩:=eX (w.heap.size);have HG:=qH hg;rw[hg]at HRW HW1 hs1⊢;clear hg;go_loopw [8,27] (fun s i wr=>∃(k:Nat) (x:Wor) (L:WLoc) (A:OA) (c:Nat),k<=l.length∧i=iv k∧s=.slice A k c∧Hid (x=worGo (l.take k) x0∧WorOk x)∧Hid (rowOf wr g=worA x L∧frOf wr g=(0,0)∧rowOf wr (g+1)=worA Wor.zero WLoc.zero∧frOf wr (g+1)=(0,0))∧
  Hid (∀v:World,(∀q,g+2<=q->A.map (·.block)≠some q->q<wr.heap.size->v.heap[q]?=wr.heap[q]?)->WorIn v x L)∧Hid (Own wr (g+2) 43 1 A k c ((worSaid (l.take k) x0).map iv))∧Hid (Below g w wr∧g+2<=wr.heap.size)) (fun _ i _=>l.length-(intOf i).toNat)
 case atStart=>
  refine⟨0,x0,L1,none,0,Nat.zero_le _,rfl,rfl,qH ⟨rfl,HOK.out⟩,HRW,qH (fun v hv=>HW1.out v (fun q h1 h2=>(hv q h1 (by simp) (by simpa[World.setRow]using h2)).trans (setRow_other _ _ _ _ (by omega)))),qH (by simpa[worSaid]using Own.nil_ _ _ _ _),qH ⟨?_,by simp[World.setRow];omega⟩⟩;exact below_row (HG.out▸HB2.out) nl _
 case round=>
  rename World=>wr;obtain⟨k,x,L,A,c,hk,rfl,rfl,HX,HR,HI,HO,HB⟩:=hrel;clear HRW HW1;have hsz:=HB.out.2;by_cases hlt:k<l.length
  ·obtain⟨b,o,rfl,hbl,cs,hcs,hcc,rfl,hi1,hi2⟩:=HH.out k hlt;obtain⟨⟨kd,n⟩,hy⟩:∃y,l[k]=y:=⟨_,rfl⟩;rw[hy]at hcc hi1 hi2;have hb1:b<wr.heap.size:=Nat.lt_of_lt_of_le hbl (by rw[HG.out];omega);have hwb:∀j,wr.cell? ⟨b,j,none⟩=w.cell? ⟨b,j,none⟩:=fun j=>HB.out.1.cell (p:=⟨b,j,none⟩) (by rw[<-HG.out];exact hbl);have p2:wr.cell? ⟨b,o+k*2,none⟩=some (iv kd):=by rw[hwb];have:=hcc 0 (by simp);simpa using this
   have p1:wr.cell? ⟨b,o+k*2+1,none⟩=some (iv n):=by rw[hwb];have:=hcc 1 (by simp);simpa using this
   have HY:=qH hy;have HI1:Hid (I64 n):=qH hi2;have a3:=keep1 (bW wr) HR.out.1 (by go_simp) HR.out.2.1;have a1:=keep1 (bW wr) HR.out.2.2.1 (by go_simp) HR.out.2.2.2;have hwk:IntKind.i64.wrap ((k:Int)+1)=(k:Int)+1:=IntWalk.i64_in _ (by omega);have dl:decide ((k:Int)<(l.length:Int))=true:=decide_eq_true (by omega);have hcap:(l.length:Int)<=(cl:Int):=by omega
   clear hcc hi1 hi2 hcs hy hwb hbl;go_wp2_with fail;have hx1:WorIn (wr.alloc (.cells #[iv kd,iv n] 42)) x L:=HI.out _ (fun q _ _ h2=>Below.heap_alloc wr _ q h2);refine(worCopy_calls x L _ hx1).mono ?_;rintro e w2 ⟨L3,m1,ds1,rfl,hwa,hb⟩;have a3:=kp g (worA x L) hb;have a1:=kp (g+1) (worA Wor.zero WLoc.zero) hb;have a2:=kp (wr.heap.size) (#[iv kd,iv n]) hb;have hs3:wr.heap.size+1<=w2.heap.size:=by have:=hb.size;simpa using this
   have hkb:∀q,q<wr.heap.size->w2.heap[q]?=wr.heap[q]?:=fun q h=>(hb.block q (by simp;omega)).trans (Below.heap_alloc wr _ q h);have HB2':Hid (Below g w w2):=qH ((HB.out.1.alloc (by omega) _).trans (hb.mono (by simp;omega)));have HWA:Hid (WorAt w2 (wr.heap.size+1+2) m1 w2.heap.size ds1 x L3):=qH (by simpa using hwa);have hw1:wr.heap.size+1+2<=w2.heap.size:=by have:=HWA.out.h1;have:=HWA.out.h2;have:=HWA.out.h3;omega
   clear hb hwa hx1;go_wp2_with fail;obtain⟨w3,hw3e⟩:=eX (w2.alloc (.cells (worA x L3) 40));have z1:rowOf w3 w2.heap.size=worA x L3:=by rw[<-hw3e,rowOf_alloc,if_pos rfl]
   have z2:frOf w3 w2.heap.size=(0,0):=by rw[<-hw3e,frOf_alloc,if_pos rfl]
   have hs4:w3.heap.size=w2.heap.size+1:=by rw[<-hw3e];simp
   have hk1:∀q,q<w2.heap.size->w3.heap[q]?=w2.heap[q]?:=fun q h=>by rw[<-hw3e];exact Below.heap_alloc w2 _ q h
   have HW1:Hid (WorAt w3 (wr.heap.size+1+2) m1 w2.heap.size ds1 x L3):=qH (HWA.out.same (fun q a b=>hk1 q b) (by omega));have HB3:Hid (Below g w w3):=qH (by rw[<-hw3e];exact HB2'.out.alloc (by omega) _);try rw[hw3e]
   obtain⟨⟨x',e'⟩,hres⟩:∃res,worHappen x kd n=res:=⟨_,rfl⟩;have KH:=qH (HKP.out (kd,n) (by rw[<-HY.out];exact List.getElem_mem hlt) w2.heap.size (wr.heap.size+1+2) m1 w2.heap.size ds1 x L3 w3 z1 z2 (.inr nl) HW1.out HX.out.2 HI1.out);rw[hres]at KH;have HRES:=qH hres;have y6:=rowOf_heap (hk1 g (by omega));have y1:=rowOf_heap (hk1 (g+1) (by omega));have y2:=y6.1.trans a3.1;have y3:=y6.2.trans a3.2.1;have y4:=y1.1.trans a1.1;have y5:=y1.2.trans a1.2.1;clear hw3e hres z1 z2 y6 y1 a3 a1 a2;refine KH.out.mono ?_;rintro e w4 ⟨rfl,hz,hx,hs5⟩;have HZ:=qH hz;have HX1:=qH hx;have e2:=rowOf_heap (hx.2 g (by omega) (by omega));have e1:=rowOf_heap (hx.2 (g+1) (by omega) (by omega));have r2:=e2.1.trans y2;have f2:=e2.2.trans y3;have r1:=e1.1.trans y4;have f1:=e1.2.trans y5;have HB4:Hid (Below g w w4):=qH (HB3.out.trans (hx.to (by omega) (by omega)));have hk2:∀q,q<wr.heap.size->w4.heap[q]?=wr.heap[q]?:=fun q h=>(hx.2 q (by omega) (by omega)).trans ((hk1 q (by omega)).trans (hkb q h));have HK1:=qH hk2;have HO1:Hid (Own w4 (g+2) 43 1 A k c ((worSaid (l.take k) x0).map iv)):=qH (HO.out.same (fun q e=>hk2 q (HO.out.block q e).2));have HAB:Hid (∀q,A.map (·.block)=some q->g+2<=q∧q<wr.heap.size):=qH (fun q e=>HO.out.block q e);have HSD:Hid (worSaid (l.take (k+1)) x0=worSaid (l.take k) x0++[e']∧worGo (l.take (k+1)) x0=worTry x (kd,n)):=qH (by
    have h1:=worGo_append (l.take k) [(kd,n)] x0;rw[List.take_succ_eq_append_getElem hlt,HY.out,h1.1,h1.2,<-HX.out.1];refine⟨?_,rfl⟩;congr 1
    show [(worHappen x kd n).2]=[e'];rw[HRES.out])
   have b3:=keep1 (bW w4) r2 (by go_simp) f2;have b1:=keep1 (bW w4) r1 (by go_simp) f1;clear hz hx KH e2 e1 r2 f2 r1 f1 y2 y3 y4 y5 hk2 hk1 hkb;by_cases c1:e'=0
   ·subst c1;obtain⟨L2,r1,f1,hw2⟩:=HZ.out rfl;have b2:=keep1 (bW w4) r1 (by go_simp) f1;have HW2:=qH hw2;have q:((0:Int)==0)=true:=rfl;have hp1:0<(rowOf w4 g).size:=by rw[b3.1];simp[worA]
    have hg1:¬w2.heap.size=g:=by omega
    have hg2:¬g=w2.heap.size:=by omega
    have hg3:¬g+1=g:=by omega
    have hown1:Own ((w4.setRow g (worA x' L2)).alloc (.cells #[iv 0] 43)) (g+2) 43 1 A k c ((worSaid (l.take k) x0).map iv):=HO1.out.same (fun q e=>(Below.heap_alloc (w4.setRow g (worA x' L2)) _ q (by have:=(HO1.out.block q e).2;simpa[World.setRow]using this)).trans (setRow_other _ _ _ _ (by have:=(HAB.out q e).1;omega)));have hsrc:Src ((w4.setRow g (worA x' L2)).alloc (.cells #[iv 0] 43)) (some ⟨w4.heap.size,0,none⟩) [iv 0]:=src_blk (blk_top (by simp[World.setRow]));have hbase1:g+2<=((w4.setRow g (worA x' L2)).alloc (.cells #[iv 0] 43)).heap.size:=by simp[World.setRow];omega
    have hlim:k+1<=137438953472:=by omega
    clear hw2 r1 f1;go_wp2_with (at_builtin;go_must (refine wpList_app ((w4.setRow g (worA x' L2)).alloc (.cells #[iv 0] 43)) rfl _ _ 70 rfl elErrs (g+2) A k c ((worSaid (l.take k) x0).map iv) rfl hown1 (some ⟨w4.heap.size,0,none⟩) 1 1 [iv 0] rfl hsrc rfl (by simp[Value.oneCell']) hlim hbase1 ?_;intro A' c' w6 hown6 hg6 hb6 hor6));have hk1:∀q,q<w4.heap.size->A.map (·.block)≠some q->q≠g->w6.heap[q]?=w4.heap[q]?:=fun q h1 h2 h3=>(hg6.block q (by simp[World.setRow];omega) (fun e=>h2 e.symm)).trans ((Below.heap_alloc (w4.setRow g (worA x' L2)) _ q (by simpa[World.setRow]using h1)).trans (setRow_other _ _ _ _ h3));have hgA:∀q,q<g+2->A.map (·.block)≠some q:=fun q h e=>by have:=(HAB.out q e).1;omega
    have hs6:=hb6.size;have hs6':w4.heap.size+1<=w6.heap.size:=by simpa[World.setRow]using hs6
    have hA1:∀q,A'.map (·.block)=some q->A.map (·.block)=some q∨w4.heap.size<=q:=fun q e=>by
     exact x0yz
    have hrow1:rowOf w6 (g+1)=worA Wor.zero WLoc.zero∧frOf w6 (g+1)=(0,0):=by
     exact x8cd
    have hrow2:rowOf w6 g=worA x' L2∧frOf w6 g=(0,0):=by
     have h1:w6.heap[g]?=(w4.setRow g (worA x' L2)).heap[g]?:=(hg6.block g (by simp[World.setRow];omega) (fun e=>hgA g (by omega) e.symm)).trans (Below.heap_alloc (w4.setRow g (worA x' L2)) _ g (by simp[World.setRow];omega));have h2:=rowOf_heap h1;refine⟨h2.1.trans (by rw[rowOf_setRow _ _ _ _ hp1,if_pos rfl]),h2.2.trans (by rw[frOf_setRow];exact b3.2.1)⟩
    have hbel1:Below g w w6:=((below_row HB4.out nl _).alloc (by simp[World.setRow];omega) _).trans (hb6.mono (by omega));have HNEW:Hid (x'=worGo (l.take (k+1)) x0∧WorOk x'):=qH (by
     have h1:(worHappen x kd n).2=0:=by rw[HRES.out]
     have h2:=happen_keeps HX.out.2 h1;rw[HRES.out]at h2;refine⟨?_,h2.1⟩;rw[HSD.out.2];unfold worTry;dsimp only;rw[HRES.out,if_pos rfl])
    have HI2:Hid (∀v:World,(∀q,g+2<=q->A'.map (·.block)≠some q->q<w6.heap.size->v.heap[q]?=w6.heap[q]?)->WorIn v x' L2):=qH (fun v hv=>HW2.out v (fun q h1 h2 h3=>(hv q (by omega) (fun e=>by
      rcases hA1 q e with h9|h9
      ·have:=(HAB.out q h9).2;omega
      omega) (by omega)).trans (hk1 q h3 (fun e=>by have:=(HAB.out q e).2;omega) (by omega))))
    have HR1:Hid (rowOf w6 g=worA x' L2∧frOf w6 g=(0,0)∧rowOf w6 (g+1)=worA Wor.zero WLoc.zero∧frOf w6 (g+1)=(0,0)):=qH ⟨hrow2.1,hrow2.2,hrow1.1,hrow1.2⟩;have HO2:Hid (Own w6 (g+2) 43 1 A' (k+1) c' ((worSaid (l.take (k+1)) x0).map iv)):=qH (by rw[HSD.out.1,List.map_append];exact hown6);have HB5:Hid (Below g w w6∧g+2<=w6.heap.size):=qH ⟨hbel1,by omega⟩;clear hown6 hg6 hb6 hor6 hk1 hA1 hrow1 hrow2 hbel1 hown1 hsrc hs6 b3 b1;go_roundw
    case rel=>exact⟨k+1,x',L2,A',c',by omega,by go_num,by first|rfl|go_num,HNEW,HR1,HI2,HO2,HB5⟩
    case measure=>simp[intOf];omega
   have q:(e'==0)=false:=by simp[c1]
   have hown1:Own (w4.alloc (.cells #[iv e'] 43)) (g+2) 43 1 A k c ((worSaid (l.take k) x0).map iv):=HO1.out.same (fun q e=>Below.heap_alloc w4 _ q (HO1.out.block q e).2);have hsrc:Src (w4.alloc (.cells #[iv e'] 43)) (some ⟨w4.heap.size,0,none⟩) [iv e']:=src_blk (blk_top rfl);have hbase1:g+2<=(w4.alloc (.cells #[iv e'] 43)).heap.size:=by simp;omega
   have hlim:k+1<=137438953472:=by omega
   have HC1:=qH c1;clear c1;go_wp2_with (at_builtin;go_must (refine wpList_app (w4.alloc (.cells #[iv e'] 43)) rfl _ _ 70 rfl elErrs (g+2) A k c ((worSaid (l.take k) x0).map iv) rfl hown1 (some ⟨w4.heap.size,0,none⟩) 1 1 [iv e'] rfl hsrc rfl (by simp[Value.oneCell']) hlim hbase1 ?_;intro A' c' w6 hown6 hg6 hb6 hor6));have hk1:∀q,q<w4.heap.size->A.map (·.block)≠some q->q≠g->w6.heap[q]?=w4.heap[q]?:=fun q h1 h2 h3=>(hg6.block q (by simp[World.setRow];omega) (fun e=>h2 e.symm)).trans (Below.heap_alloc w4 _ q h1);have hgA:∀q,q<g+2->A.map (·.block)≠some q:=fun q h e=>by have:=(HAB.out q e).1;omega
   have hs6:=hb6.size;have hs6':w4.heap.size+1<=w6.heap.size:=by simpa[World.setRow]using hs6
   have hA1:∀q,A'.map (·.block)=some q->A.map (·.block)=some q∨w4.heap.size<=q:=fun q e=>by
    exact x0yz
   have hrow1:rowOf w6 (g+1)=worA Wor.zero WLoc.zero∧frOf w6 (g+1)=(0,0):=by
    exact x8cd
   have hrow2:rowOf w6 g=worA x L∧frOf w6 g=(0,0):=by
    have h1:=rowOf_heap (hg6.block g (by simp;omega) (fun e=>hgA g (by omega) e.symm));have h2:=rowOf_heap (Below.heap_alloc w4 (.cells #[iv e'] 43) g (by omega));exact⟨(h1.1.trans h2.1).trans b3.1,(h1.2.trans h2.2).trans b3.2.1⟩
   have hbel1:Below g w w6:=(HB4.out.alloc (by omega) _).trans (hb6.mono (by omega));have HNEW:Hid (x=worGo (l.take (k+1)) x0∧WorOk x):=qH (by
    refine⟨?_,HX.out.2⟩;rw[HSD.out.2];unfold worTry;dsimp only;rw[HRES.out,if_neg HC1.out])
   have HI2:Hid (∀v:World,(∀q,g+2<=q->A'.map (·.block)≠some q->q<w6.heap.size->v.heap[q]?=w6.heap[q]?)->WorIn v x L):=qH (fun v hv=>HI.out v (fun q h1 h2 h3=>(hv q h1 (fun e=>by
     rcases hA1 q e with h9|h9
     ·exact h2 h9
     omega) (by omega)).trans ((hk1 q (by omega) h2 (by omega)).trans (HK1.out q h3))))
   have HR1:Hid (rowOf w6 g=worA x L∧frOf w6 g=(0,0)∧rowOf w6 (g+1)=worA Wor.zero WLoc.zero∧frOf w6 (g+1)=(0,0)):=qH ⟨hrow2.1,hrow2.2,hrow1.1,hrow1.2⟩;have HO2:Hid (Own w6 (g+2) 43 1 A' (k+1) c' ((worSaid (l.take (k+1)) x0).map iv)):=qH (by rw[HSD.out.1,List.map_append];exact hown6);have HB5:Hid (Below g w w6∧g+2<=w6.heap.size):=qH ⟨hbel1,by omega⟩;clear hown6 hg6 hb6 hor6 hk1 hA1 hrow1 hrow2 hbel1 hown1 hsrc hs6 b3 b1;go_roundw
   case rel=>exact⟨k+1,x,L,A',c',by omega,by go_num,by first|rfl|go_num,HNEW,HR1,HI2,HO2,HB5⟩
   case measure=>simp[intOf];omega
  obtain rfl:k=l.length:=by omega
  have dl:decide ((l.length:Int)<(l.length:Int))=false:=by simp
  have hxx:=HX.out.1;rw[List.take_length]at hxx;have hoo:=HO.out;rw[List.take_length]at hoo;have HXX:=qH hxx;have HOO:=qH hoo;have a2:=keep1 (bW wr) HR.out.1 (by go_simp) HR.out.2.1;have a1:=keep1 (bW wr) HR.out.2.2.1 (by go_simp) HR.out.2.2.2;clear hxx hoo;go_wp2_with fail;refine bodyPost_ret (results_ctt rfl rfl (cs:=worA x L) (by go_simp) (by go_simp) (by go_simp)) rfl ?_;rw[<-HXX.out];refine⟨L,A,c,g+2,by rw[said_len];rfl,?_,by rw[HG.out];omega,?_,?_⟩
  ·rw[said_len];exact HOO.out.same (w':=wr.setRow (g+1) (worA x L)) (fun q e=>setRow_other _ _ _ _ (by have:=(HOO.out.block q e).1;omega))
  ·exact fun v hv=>HI.out v (fun q h1 h2 h3=>(hv q h1 h2 (by simpa[World.setRow]using h3)).trans (setRow_other _ _ _ _ (by omega)))
  rw[HG.out];exact below_row HB.out.1 (by omega) _
theorem worRun_calls(x0:Wor)(L0:WLoc)(B:OA)(cl:Nat)(l:List (Int×Int))(w:World)(h:WorIn w x0 L0)(hl:l.length<=140737488351232)(hcl:l.length<=cl)(hh:Hps w B l):Calls Tryz.prog 28 #[.agg (worA x0 L0),.slice B l.length cl] w (WrRet w (worRun x0 l).1 (worRun x0 l).2.1 (worRun x0 l).2.2):=worRun_gen x0 L0 B cl l w h hl hcl hh fun y _ g base m top ds x L w hr hf hg h hok hi=>happen_calls g base m top ds y.2 x L w hr hf hg h hok hi y.1
theorem x06z(h:Y:=by
 have e1:=fO 1 (.func (Fn.func 26) #[] #[]) h;exact mx_move (ch_ev e1)):Y:=h
theorem x9km(h:Y:=by
 rintro e w' ⟨rfl,hb⟩;exact⟨_,rfl,_,rfl,tl_one hJ (by simp[maskB,n3]) (by decide) (by simp) (gnP_one (by decide) hP hb)⟩):Y:=h
theorem wp_valw{P:Program}{o:Oper}{a:Act}{w':World}{K:Act->World->Prop}{Q:Exit->Act->World->Prop}{v:Value}(e:(execOp a.eval o).run P w=.ok (.value v) w')(h:K (a.put o.dst v) w'):Oper.wp P o a w K Q:=by
 unfold Oper.wp;rw[e];exact h
def goneA:Array Value:=#[iv 1,iv 2,iv 2,iv 0,iv 5,iv 0,iv 6,iv 0,iv 8,iv 0,iv 6,iv 0,iv 7,iv 0,iv 9,iv 0,iv 10,iv 0,iv 8,iv 0]
theorem hps_gone{g:Nat}{t:TypeId}{f:Nat×Nat}(h:w.heap[g]?=some (.cells goneA t f)):Hps w (some ⟨g,0,none⟩) goneL:=by
 intro i hi;have hi':i<10:=hi;refine⟨g,0,rfl,blk_lt h,[iv (goneL[i]).1,iv (goneL[i]).2],rfl,fun j hj=>?_,rfl,?_⟩
 ·rw[cell_of_row w g _ _ _ _ h];have hj':j<2:=hj
  match i,j,hi',hj' with
  |0,0,_,_=>rfl
  |0,1,_,_=>rfl
  |1,0,_,_=>rfl
  |1,1,_,_=>rfl
  |2,0,_,_=>rfl
  |2,1,_,_=>rfl
  |3,0,_,_=>rfl
  |3,1,_,_=>rfl
  |4,0,_,_=>rfl
  |4,1,_,_=>rfl
  |5,0,_,_=>rfl
  |5,1,_,_=>rfl
  |6,0,_,_=>rfl
  |6,1,_,_=>rfl
  |7,0,_,_=>rfl
  |7,1,_,_=>rfl
  |8,0,_,_=>rfl
  |8,1,_,_=>rfl
  |9,0,_,_=>rfl
  |9,1,_,_=>rfl
 match i,hi' with
 |0,_=>exact⟨⟨of_decide_eq_true rfl,of_decide_eq_true rfl⟩,⟨of_decide_eq_true rfl,of_decide_eq_true rfl⟩⟩
 |1,_=>exact⟨⟨of_decide_eq_true rfl,of_decide_eq_true rfl⟩,⟨of_decide_eq_true rfl,of_decide_eq_true rfl⟩⟩
 |2,_=>exact⟨⟨of_decide_eq_true rfl,of_decide_eq_true rfl⟩,⟨of_decide_eq_true rfl,of_decide_eq_true rfl⟩⟩
 |3,_=>exact⟨⟨of_decide_eq_true rfl,of_decide_eq_true rfl⟩,⟨of_decide_eq_true rfl,of_decide_eq_true rfl⟩⟩
 |4,_=>exact⟨⟨of_decide_eq_true rfl,of_decide_eq_true rfl⟩,⟨of_decide_eq_true rfl,of_decide_eq_true rfl⟩⟩
 |5,_=>exact⟨⟨of_decide_eq_true rfl,of_decide_eq_true rfl⟩,⟨of_decide_eq_true rfl,of_decide_eq_true rfl⟩⟩
 |6,_=>exact⟨⟨of_decide_eq_true rfl,of_decide_eq_true rfl⟩,⟨of_decide_eq_true rfl,of_decide_eq_true rfl⟩⟩
 |7,_=>exact⟨⟨of_decide_eq_true rfl,of_decide_eq_true rfl⟩,⟨of_decide_eq_true rfl,of_decide_eq_true rfl⟩⟩
 |8,_=>exact⟨⟨of_decide_eq_true rfl,of_decide_eq_true rfl⟩,⟨of_decide_eq_true rfl,of_decide_eq_true rfl⟩⟩
 |9,_=>exact⟨⟨of_decide_eq_true rfl,of_decide_eq_true rfl⟩,⟨of_decide_eq_true rfl,of_decide_eq_true rfl⟩⟩
def gnP(w0:World)(dn:Nat->Bool)(cv:Nat->Value)(w:World):Prop:=
 Below w0.heap.size w0 w∧(dn 21=true->∃g,cv 21=.slice (some ⟨g,0,none⟩) 10 10∧g<w.heap.size∧∃t f,w.heap[g]?=some (.cells goneA t f))
theorem gnP_one{w':World}{dn:Nat->Bool}{k:Nat}{v:Value}(hk:21≠k)(h:gnP w0 dn cv w)(hb:Below w.heap.size w w'):gnP w0 (fun j=>if j=k then true else dn j) (fun j=>if j=k then v else cv j) w':=by
 refine⟨h.1.trans (hb.mono h.1.size),fun e=>?_⟩;dsimp only at e⊢;rw[if_neg hk]at e⊢;obtain⟨g,h1,h2,t,f,h3⟩:=h.2 e;exact⟨g,h1,Nat.lt_of_lt_of_le h2 hb.size,t,f,(hb.block g h2).trans h3⟩
theorem gnP_bs{dn:Nat->Bool}(h:gnP w0 dn cv w):gnP w0 (fun j=>if j=21 then true else dn j) (fun j=>if j=21 then .slice (some ⟨w.heap.size,0,none⟩) 10 10 else cv j) (w.alloc (.cells goneA 42)):=
 ⟨h.1.alloc h.1.size _,fun _=>⟨w.heap.size,by simp,by simp,_,_,blk_top rfl⟩⟩
def gnPost(w0:World)(y:Wor)(x:WLoc×Option Addr×Nat×Nat)(w:World):Prop:=
 Own w x.2.2.2 43 1 x.2.1 10 x.2.2.1 ([0,0,0,0,5,0,0,0,0,0].map iv)∧w0.heap.size<=x.2.2.2∧(∀v:World,(∀q,x.2.2.2<=q->x.2.1.map (·.block)≠some q->q<w.heap.size->v.heap[q]?=w.heap[q]?)->WorIn v y x.1)∧Below w0.heap.size w0 w
def gnV(y:Wor)(x:WLoc×Option Addr×Nat×Nat):Nat->Value
 |22=>.tuple #[.agg (worA y x.1),.slice x.2.1 10 x.2.2.1,iv 0]
 |23=>.tuple #[.agg (worA y x.1),.slice x.2.1 10 x.2.2.1,iv 0]
 |24=>.agg (worA y x.1)
 |25=>.slice x.2.1 10 x.2.2.1
 |26=>iv 0
 |28=>.slice x.2.1 10 x.2.2.1
 |29=>iv 0
 |_=>undef
theorem gone_calls(W:World):Calls Tryz.prog 9 #[] W (RetB W (.bool true)):=by
 obtain⟨x1,hx1⟩:=eX ((worNew ims).1);obtain⟨y,hy⟩:=eX ((worRun x1 goneL).1);have f1:=gone_said;have f2:=gone_world;rw[hx1]at f1 f2;rw[hy]at f2;have K1:Hid (∀A c w,ims.length<=c->Ims w A ims->Calls Tryz.prog 4 #[.slice A ims.length c] w (WvRet w x1 0)):=qH (fun A c w hc h=>by
  have:=worNew_calls A c ims w hc (by decide) h;rwa [gone_new,hx1]at this)
 have K2:Hid (∀L B cl w,WorIn w x1 L->10<=cl->Hps w B goneL->Calls Tryz.prog 28 #[.agg (worA x1 L),.slice B 10 cl] w (WrRet w y [0,0,0,0,5,0,0,0,0,0] 0)):=qH (fun L B cl w h hc hh=>by
  have:=worRun_calls x1 L B cl goneL w h (by decide) hc hh;rwa [f1,hy]at this)
 have HY:=qH f2;clear f1 f2 hx1 hy;go_enter Tryz.func9,Tryz.ntmps9;go_wp2_with fail;refine(lawImages_calls _).mono ?_;rintro e w1 ⟨A,c,rfl,hc,hi,hb1⟩;have HB1:=qH hb1;have HI1:=qH hi;have HC1:=qH hc;clear hb1 hi hc;go_wp2_with fail;refine(K1.out _ _ _ HC1.out (by first|exact HI1.out|exact HI1.out.stays (Below.refl _ _))).mono ?_;rintro e w2 ⟨L,rfl,hf,hb2⟩;have HW1:=qH hf.now;have HB2:=bT HB1 hb2;clear hb2 hf;go_wp2_with fail;obtain⟨w3,hw1⟩:=eX (w2.alloc (.cells (worA x1 L) 40));obtain⟨gq,hgq⟩:=eX (w2.heap.size);have HIN:Hid (WorIn w3 x1 L):=qH (by rw[<-hw1];exact HW1.out.stays (bL _));have HR:Hid (rowOf w3 gq=worA x1 L∧frOf w3 gq=(0,0)):=qH (by rw[<-hw1,<-hgq];exact⟨by rw[rowOf_alloc,if_pos rfl],by rw[frOf_alloc,if_pos rfl]⟩);have HB3:Hid (Below W.heap.size W w3∧W.heap.size<=gq∧gq<w3.heap.size):=qH (by
  have hs:=HB2.out.size;rw[<-hw1,<-hgq];exact⟨HB2.out.alloc hs _,hs,by simp⟩)
 rw[hw1];try rw[hgq]
 clear hw1 hgq HW1 HB2 HB1 HI1 HC1;refine wF (some 13::some 14::some 15::some 16::some 17::some 18::some 19::some 20::some 21::some 22::some 23::some 24::some 25::some 26::some 27::some 28::some 29::some 30::some 31::some 32::some 33::some 34::some 35::some 12::some 36::some 37::some 38::none::some 4::some 5::[]) (false::false::true::false::true::false::true::false::true::false::true::false::true::false::true::false::true::false::true::false::true::true::true::true::true::true::true::true::true::true::[]) (.agg (worA x1 L)::.func (Fn.func 26) #[] #[]::undef::.func (Fn.func 26) #[] #[]::undef::.func (Fn.func 26) #[] #[]::undef::.func (Fn.func 26) #[] #[]::undef::.func (Fn.func 26) #[] #[]::undef::.func (Fn.func 26) #[] #[]::undef::.func (Fn.func 26) #[] #[]::undef::.func (Fn.func 26) #[] #[]::undef::.func (Fn.func 26) #[] #[]::undef::.func (Fn.func 26) #[] #[]::undef::undef::undef::undef::undef::undef::undef::undef::undef::undef::[]) (tlJ ([(2,.agg #[iv 1,iv 2]),(4,.agg #[iv 2,iv 0]),(6,.agg #[iv 5,iv 0]),(8,.agg #[iv 6,iv 0]),(10,.agg #[iv 8,iv 0]),(12,.agg #[iv 6,iv 0]),(14,.agg #[iv 7,iv 0]),(16,.agg #[iv 9,iv 0]),(18,.agg #[iv 10,iv 0]),(20,.agg #[iv 8,iv 0])]) 22 27 (gnP w3) (gnPost w3 y) [22,23,24,25,26,28,29] (gnV y) (fun x w=>w.setRow gq (worA y x.1))) 78 (tl_start ⟨(Below.refl _ _).drew,by simp⟩) ?_ ?_
 ·refine⟨?_,?_,?_,?_,?_,?_,?_,?_,?_,?_,?_,?_,?_,?_,?_,?_,?_,?_,?_,?_,?_,?_,?_,?_,?_,?_,?_,?_,?_,?_,trivial⟩;all_goals intro done cv a wq hn hw hcl h hJ
  ·have e1:=fO 2 (.pointer (some ⟨gq,0,none⟩)) h;have n1:=hn;have n2:=nW 22 0 hcl n1;have hP:=tl_pre hJ (by simp[maskB,n2]);have b1:=keep1 (g:=gq) (cs:=worA x1 L) hP.1 HR.out.1 (by go_simp) HR.out.2;go_simp
  ·exact x06z
  ·have e2:=fN 1 14 h hw;have n1:=hn;have n2:=nW 21 2 hcl n1;have n3:=nW 22 21 hcl n2;have hP:=tl_pre hJ (by simp[maskB,n3]);refine wp_callv (f:=26) (cap:=#[]) (vals:=#[iv 1,iv 2]) e2 (by simp[Act.eval]) (enters_of Tryz.func26 (by kernel_rfl) rfl _ _) (ofHap_calls 1 2 _) ?_;exact x9km
  ·exact x06z
  ·have e2:=fN 3 16 h hw;have n1:=hn;have n2:=nW 21 4 hcl n1;have n3:=nW 22 21 hcl n2;have hP:=tl_pre hJ (by simp[maskB,n3]);refine wp_callv (f:=26) (cap:=#[]) (vals:=#[iv 2,iv 0]) e2 (by simp[Act.eval]) (enters_of Tryz.func26 (by kernel_rfl) rfl _ _) (ofHap_calls 2 0 _) ?_;exact x9km
  ·exact x06z
  ·have e2:=fN 5 18 h hw;have n1:=hn;have n2:=nW 21 6 hcl n1;have n3:=nW 22 21 hcl n2;have hP:=tl_pre hJ (by simp[maskB,n3]);refine wp_callv (f:=26) (cap:=#[]) (vals:=#[iv 5,iv 0]) e2 (by simp[Act.eval]) (enters_of Tryz.func26 (by kernel_rfl) rfl _ _) (ofHap_calls 5 0 _) ?_;exact x9km
  ·exact x06z
  ·have e2:=fN 7 20 h hw;have n1:=hn;have n2:=nW 21 8 hcl n1;have n3:=nW 22 21 hcl n2;have hP:=tl_pre hJ (by simp[maskB,n3]);refine wp_callv (f:=26) (cap:=#[]) (vals:=#[iv 6,iv 0]) e2 (by simp[Act.eval]) (enters_of Tryz.func26 (by kernel_rfl) rfl _ _) (ofHap_calls 6 0 _) ?_;exact x9km
  ·exact x06z
  ·have e2:=fN 9 22 h hw;have n1:=hn;have n2:=nW 21 10 hcl n1;have n3:=nW 22 21 hcl n2;have hP:=tl_pre hJ (by simp[maskB,n3]);refine wp_callv (f:=26) (cap:=#[]) (vals:=#[iv 8,iv 0]) e2 (by simp[Act.eval]) (enters_of Tryz.func26 (by kernel_rfl) rfl _ _) (ofHap_calls 8 0 _) ?_;exact x9km
  ·exact x06z
  ·have e2:=fN 11 24 h hw;have n1:=hn;have n2:=nW 21 12 hcl n1;have n3:=nW 22 21 hcl n2;have hP:=tl_pre hJ (by simp[maskB,n3]);refine wp_callv (f:=26) (cap:=#[]) (vals:=#[iv 6,iv 0]) e2 (by simp[Act.eval]) (enters_of Tryz.func26 (by kernel_rfl) rfl _ _) (ofHap_calls 6 0 _) ?_;exact x9km
  ·exact x06z
  ·have e2:=fN 13 26 h hw;have n1:=hn;have n2:=nW 21 14 hcl n1;have n3:=nW 22 21 hcl n2;have hP:=tl_pre hJ (by simp[maskB,n3]);refine wp_callv (f:=26) (cap:=#[]) (vals:=#[iv 7,iv 0]) e2 (by simp[Act.eval]) (enters_of Tryz.func26 (by kernel_rfl) rfl _ _) (ofHap_calls 7 0 _) ?_;exact x9km
  ·exact x06z
  ·have e2:=fN 15 28 h hw;have n1:=hn;have n2:=nW 21 16 hcl n1;have n3:=nW 22 21 hcl n2;have hP:=tl_pre hJ (by simp[maskB,n3]);refine wp_callv (f:=26) (cap:=#[]) (vals:=#[iv 9,iv 0]) e2 (by simp[Act.eval]) (enters_of Tryz.func26 (by kernel_rfl) rfl _ _) (ofHap_calls 9 0 _) ?_;exact x9km
  ·exact x06z
  ·have e2:=fN 17 30 h hw;have n1:=hn;have n2:=nW 21 18 hcl n1;have n3:=nW 22 21 hcl n2;have hP:=tl_pre hJ (by simp[maskB,n3]);refine wp_callv (f:=26) (cap:=#[]) (vals:=#[iv 10,iv 0]) e2 (by simp[Act.eval]) (enters_of Tryz.func26 (by kernel_rfl) rfl _ _) (ofHap_calls 10 0 _) ?_;exact x9km
  ·exact x06z
  ·have e2:=fN 19 32 h hw;have n1:=hn;have n2:=nW 21 20 hcl n1;have n3:=nW 22 21 hcl n2;have hP:=tl_pre hJ (by simp[maskB,n3]);refine wp_callv (f:=26) (cap:=#[]) (vals:=#[iv 8,iv 0]) e2 (by simp[Act.eval]) (enters_of Tryz.func26 (by kernel_rfl) rfl _ _) (ofHap_calls 8 0 _) ?_;exact x9km
  ·have e1:=fr_cv (i:=2) (t:=15) h (hw 2 (by decide)) rfl rfl;have e17:=fr_cv (i:=4) (t:=17) h (hw 4 (by decide)) rfl rfl;have e19:=fr_cv (i:=6) (t:=19) h (hw 6 (by decide)) rfl rfl;have e21:=fr_cv (i:=8) (t:=21) h (hw 8 (by decide)) rfl rfl;have e23:=fr_cv (i:=10) (t:=23) h (hw 10 (by decide)) rfl rfl;have e25:=fr_cv (i:=12) (t:=25) h (hw 12 (by decide)) rfl rfl;have e27:=fr_cv (i:=14) (t:=27) h (hw 14 (by decide)) rfl rfl;have e29:=fr_cv (i:=16) (t:=29) h (hw 16 (by decide)) rfl rfl;have e31:=fr_cv (i:=18) (t:=31) h (hw 18 (by decide)) rfl rfl;have e33:=fr_cv (i:=20) (t:=33) h (hw 20 (by decide)) rfl rfl;have n1:=hn;have n2:=nW 22 21 hcl n1;have hP:=tl_pre hJ (by simp[maskB,n2]);have m1:=hw 2 (by decide);have y1:cv 2=.agg #[iv 1,iv 2]:=tl_kn hJ (2,.agg #[iv 1,iv 2]) (by simp) (by simp[maskB,m1]);rw[y1]at e1;have m2:=hw 4 (by decide);have y2:cv 4=.agg #[iv 2,iv 0]:=tl_kn hJ (4,.agg #[iv 2,iv 0]) (by simp) (by simp[maskB,m2]);rw[y2]at e17;have m3:=hw 6 (by decide);have y3:cv 6=.agg #[iv 5,iv 0]:=tl_kn hJ (6,.agg #[iv 5,iv 0]) (by simp) (by simp[maskB,m3]);rw[y3]at e19;have m4:=hw 8 (by decide);have y4:cv 8=.agg #[iv 6,iv 0]:=tl_kn hJ (8,.agg #[iv 6,iv 0]) (by simp) (by simp[maskB,m4]);rw[y4]at e21;have m5:=hw 10 (by decide);have y5:cv 10=.agg #[iv 8,iv 0]:=tl_kn hJ (10,.agg #[iv 8,iv 0]) (by simp) (by simp[maskB,m5]);rw[y5]at e23;have m6:=hw 12 (by decide);have y6:cv 12=.agg #[iv 6,iv 0]:=tl_kn hJ (12,.agg #[iv 6,iv 0]) (by simp) (by simp[maskB,m6]);rw[y6]at e25;have m7:=hw 14 (by decide);have y7:cv 14=.agg #[iv 7,iv 0]:=tl_kn hJ (14,.agg #[iv 7,iv 0]) (by simp) (by simp[maskB,m7]);rw[y7]at e27;have m8:=hw 16 (by decide);have y8:cv 16=.agg #[iv 9,iv 0]:=tl_kn hJ (16,.agg #[iv 9,iv 0]) (by simp) (by simp[maskB,m8]);rw[y8]at e29;have m9:=hw 18 (by decide);have y9:cv 18=.agg #[iv 10,iv 0]:=tl_kn hJ (18,.agg #[iv 10,iv 0]) (by simp) (by simp[maskB,m9]);rw[y9]at e31;have m10:=hw 20 (by decide);have y10:cv 20=.agg #[iv 8,iv 0]:=tl_kn hJ (20,.agg #[iv 8,iv 0]) (by simp) (by simp[maskB,m10]);rw[y10]at e33;refine wp_valw (v:=.slice (some ⟨wq.heap.size,0,none⟩) 10 10) (w':=wq.alloc (.cells #[iv 1,iv 2,iv 2,iv 0,iv 5,iv 0,iv 6,iv 0,iv 8,iv 0,iv 6,iv 0,iv 7,iv 0,iv 9,iv 0,iv 10,iv 0,iv 8,iv 0] 42)) (by go_simp) ⟨_,rfl,tl_one hJ (by simp[maskB,n2]) (by decide) (by simp) (gnP_bs hP)⟩
  ·have e2:=fN 0 13 h hw;have e34:=fr_cv (i:=21) (t:=34) h (hw 21 (by decide)) rfl rfl;have n1:=hn;have n2:=nW 23 22 hcl n1;have n3:=nW 24 23 hcl n2;have n4:=nW 25 23 hcl n2;have n5:=nW 26 23 hcl n2;have n6:=nW 27 24 hcl n3;have n7:=nW 28 25 hcl n4;have n8:=nW 29 26 hcl n5;have hP:=tl_pre hJ (by simp[maskB,n1]);have m1:=hw 21 (by decide);have hi_:∀j∈[22,23,24,25,26,28,29],j≠22->maskB [false,false,true,false,true,false,true,false,true,false,true,false,true,false,true,false,true,false,true,false,true,true,true,true,true,true,true,true,true,true] done j=false:=by
    intro j hj hne;simp only[List.mem_cons,List.not_mem_nil,or_false]at hj;rcases hj with rfl|rfl|rfl|rfl|rfl|rfl|rfl
    ·exact absurd rfl hne
    ·exact(by simp[maskB,n2])
    ·exact(by simp[maskB,n3])
    ·exact(by simp[maskB,n4])
    ·exact(by simp[maskB,n5])
    ·exact(by simp[maskB,n7])
    exact(by simp[maskB,n8])
   obtain⟨g,y1,hg,tT,tF,hg1⟩:=hP.2 (by simp[maskB,m1]);rw[y1]at e34;refine wp_call (vals:=#[.agg (worA x1 L),.slice (some ⟨g,0,none⟩) 10 10]) (by rw[List.map_toArray,List.map_cons,List.map_cons,List.map_nil,ch_ev e2,ch_ev e34]) (enters_of Tryz.func28 (by kernel_rfl) rfl _ _) (K2.out _ _ _ _ (HIN.out.stays hP.1) nl (hps_gone hg1)) ?_;rintro e w' ⟨L1,A1,c1,b1,rfl,ho1,hbs1,hw1,hb⟩;exact⟨_,rfl,_,rfl,tl_ci hJ (by simp) hi_ (by simp[maskB,n6]) (by decide) (x:=(L1,A1,c1,b1)) rfl ⟨ho1,Nat.le_trans hP.1.size hbs1,hw1,hP.1.trans (hb.mono hP.1.size)⟩⟩
  ·have e1:=fr_cv (i:=22) (t:=35) h (hw 22 (by decide)) rfl rfl;have m1:=hw 22 (by decide);obtain⟨x,hv,hJ1⟩:=tl_ix (k:=23) hJ (by simp[maskB,m1]) (by decide) (by decide) (by simp);have yv:cv 22=.tuple #[.agg (worA y x.1),.slice x.2.1 10 x.2.2.1,iv 0]:=hv 22 (by simp) (by simp[maskB,m1]);rw[yv]at e1;refine wp_val (v:=_) (mx_move (ch_ev e1)) ⟨_,rfl,hJ1 _ rfl⟩
  ·have e2:=fr_cv (i:=23) (t:=12) h (hw 23 (by decide)) rfl rfl;have m1:=hw 23 (by decide);have m2:=hcl 23 _ rfl m1 22 (by decide);obtain⟨x,hv,hJ1⟩:=tl_ix (k:=24) hJ (by simp[maskB,m2]) (by decide) (by decide) (by simp);have yv:cv 23=.tuple #[.agg (worA y x.1),.slice x.2.1 10 x.2.2.1,iv 0]:=hv 23 (by simp) (by simp[maskB,m1]);rw[yv]at e2;refine wp_val (v:=.agg (worA y x.1)) ?_ ⟨_,rfl,hJ1 _ rfl⟩;go_simp
  ·have e1:=fr_cv (i:=23) (t:=12) h (hw 23 (by decide)) rfl rfl;have m1:=hw 23 (by decide);have m2:=hcl 23 _ rfl m1 22 (by decide);obtain⟨x,hv,hJ1⟩:=tl_ix (k:=25) hJ (by simp[maskB,m2]) (by decide) (by decide) (by simp);have yv:cv 23=.tuple #[.agg (worA y x.1),.slice x.2.1 10 x.2.2.1,iv 0]:=hv 23 (by simp) (by simp[maskB,m1]);rw[yv]at e1;refine wp_val (v:=.slice x.2.1 10 x.2.2.1) ?_ ⟨_,rfl,hJ1 _ rfl⟩;go_simp
  ·have e2:=fr_cv (i:=23) (t:=12) h (hw 23 (by decide)) rfl rfl;have m1:=hw 23 (by decide);have m2:=hcl 23 _ rfl m1 22 (by decide);obtain⟨x,hv,hJ1⟩:=tl_ix (k:=26) hJ (by simp[maskB,m2]) (by decide) (by decide) (by simp);have yv:cv 23=.tuple #[.agg (worA y x.1),.slice x.2.1 10 x.2.2.1,iv 0]:=hv 23 (by simp) (by simp[maskB,m1]);rw[yv]at e2;refine wp_val (v:=iv 0) ?_ ⟨_,rfl,hJ1 _ rfl⟩;go_simp
  ·have e1:=fO 2 (.pointer (some ⟨gq,0,none⟩)) h;have e36:=fr_cv (i:=24) (t:=36) h (hw 24 (by decide)) rfl rfl;have n1:=hn;have m1:=hw 24 (by decide);have m2:=hcl 24 _ rfl m1 23 (by decide);have m3:=hcl 23 _ rfl m2 22 (by decide);obtain⟨x,hP,hv,hJ1⟩:=tl_st hJ (by simp[maskB,m3]) (by simp[maskB,n1]) (by decide) (by simp) (by simp);have yv:cv 24=.agg (worA y x.1):=hv 24 (by simp) (by simp[maskB,m1]);rw[yv]at e36;have b1:=keep1 (g:=gq) (cs:=worA x1 L) hP.2.2.2 HR.out.1 (by go_simp) HR.out.2;refine wp_srow e1 e36 (by go_simp) (by go_simp) b1.1 (by go_simp) b1.2.1 (by go_simp) ⟨undef,rfl,?_⟩;rw[splice_all _ _ (by go_simp)];exact hJ1 undef
  ·have e2:=fr_cv (i:=25) (t:=37) h (hw 25 (by decide)) rfl rfl;have m1:=hw 25 (by decide);have m2:=hcl 25 _ rfl m1 23 (by decide);have m3:=hcl 23 _ rfl m2 22 (by decide);obtain⟨x,hv,hJ1⟩:=tl_ix (k:=28) hJ (by simp[maskB,m3]) (by decide) (by decide) (by simp);have yv:cv 25=.slice x.2.1 10 x.2.2.1:=hv 25 (by simp) (by simp[maskB,m1]);rw[yv]at e2;refine wp_asg (v:=_) (ch_ev e2) ⟨_,rfl,hJ1 _ rfl⟩
  ·have e1:=fr_cv (i:=26) (t:=38) h (hw 26 (by decide)) rfl rfl;have m1:=hw 26 (by decide);have m2:=hcl 26 _ rfl m1 23 (by decide);have m3:=hcl 23 _ rfl m2 22 (by decide);obtain⟨x,hv,hJ1⟩:=tl_ix (k:=29) hJ (by simp[maskB,m3]) (by decide) (by decide) (by simp);have yv:cv 26=iv 0:=hv 26 (by simp) (by simp[maskB,m1]);rw[yv]at e1;refine wp_asg (v:=_) (ch_ev e1) ⟨_,rfl,hJ1 _ rfl⟩
 intro dn cv w4 hall hJ;obtain⟨x,w5,hP,hv,rfl⟩:=tl_end hJ (hall 22 rfl (by decide)) (hall 27 rfl (by decide));have v1:cv 28=.slice x.2.1 10 x.2.2.1:=hv 28 (by simp) (hall 28 rfl (by decide));have v2:cv 29=iv 0:=hv 29 (by simp) (hall 29 rfl (by decide));simp only[freeAll,pA,fA,Bool.false_eq_true,if_true,if_false,reduceIte,Nat.reduceAdd];rw[v1,v2];obtain⟨L5,A1,c2,b5⟩:=x;obtain⟨ho,hb2,hin,hbel⟩:=hP;dsimp only at ho hb2 hin hbel;clear hJ hv v1 v2 hall;generalize cv=cw at *
 obtain⟨g1,rfl⟩:∃g5,A1=some ⟨g5,0,none⟩:=by
  rcases ho.2 with ⟨h1,h2⟩|⟨g,cap,cur,h1,_⟩
  ·injection h1 with h1 h3 h4;cases h3
  injection h1 with h1;exact⟨g,h1⟩
 obtain⟨q1,q2⟩:=ho.block g1 rfl;have a2:=keep1 (g:=gq) (cs:=worA x1 L) hbel HR.out.1 (by go_simp) HR.out.2;have hp1:0<(rowOf w5 gq).size:=by rw[a2.1];simp[worA]
 have hgb:=HB3.out.2.2;obtain⟨wz,hwz⟩:=eX (w5.setRow gq (worA y L5));have hkz:∀k,k≠gq->wz.heap[k]?=w5.heap[k]?:=fun k hk=>by rw[<-hwz];exact setRow_other _ _ _ _ hk
 have HOZ:Hid (Own wz b5 43 1 (some ⟨g1,0,none⟩) 10 c2 ([0,0,0,0,5,0,0,0,0,0].map iv)):=qH (ho.same (fun k hk=>hkz k (by have e9:g1=k:=(by simpa using hk);omega)));have hrz:rowOf wz gq=worA y L5:=by rw[<-hwz,rowOf_setRow _ _ _ _ hp1,if_pos rfl]
 have hfz:frOf wz gq=(0,0):=by rw[<-hwz,frOf_setRow];exact a2.2.1
 have HIZ:Hid (∀v:World,(∀q,b5<=q->q≠g1->q<wz.heap.size->v.heap[q]?=wz.heap[q]?)->WorIn v y L5):=qH (fun v hv=>hin v (fun q h1 h2 h3=>(hv q h1 (fun e=>h2 (by rw[e];rfl)) (by rw[<-hwz];simpa[World.setRow]using h3)).trans (hkz q (by omega))));have hsz:wz.heap.size=w5.heap.size:=by rw[<-hwz];simp[World.setRow]
 have HBZ:Hid (Below W.heap.size W wz):=qH (by rw[<-hwz];exact below_row (HB3.out.1.trans (hbel.mono HB3.out.1.size)) HB3.out.2.1 _);rw[hwz];clear hwz hkz ho hin hbel a2 hp1;have a2:=keep1 (g:=gq) (cs:=worA y L5) (bW wz) hrz (by go_simp) hfz;have HG:Hid (b5<=g1∧g1<wz.heap.size∧gq<b5):=qH ⟨q1,by omega,by omega⟩;clear q1 q2 hrz hfz hb2 hgb hsz;go_wp2_with fail;refine(indexErrs_calls (some ⟨g1,0,none⟩) c2 [0,0,0,0,5,0,0,0,0,0] 5 _ (by decide) HOZ.out.src.nts).mono ?_;rintro e w6 ⟨rfl,hb⟩;rw[show idxE (fun x=>(5:Int)==x) [0,0,0,0,5,0,0,0,0,0] 0=4 by decide];have a2:=keep1 (g:=gq) (cs:=worA y L5) hb a2.1 (by go_simp) a2.2.1;have HB1:=bT HBZ hb;have HO1:Hid (Own w6 b5 43 1 (some ⟨g1,0,none⟩) 10 c2 ([0,0,0,0,5,0,0,0,0,0].map iv)):=qH (HOZ.out.below hb);have HI1:Hid (∀v:World,(∀q,b5<=q->q≠g1->q<w6.heap.size->v.heap[q]?=w6.heap[q]?)->WorIn v y L5):=qH (fun v hv=>HIZ.out v (fun q h1 h2 h3=>(hv q h1 h2 (Nat.lt_of_lt_of_le h3 hb.size)).trans (hb.block q h3)));have hb5w:W.heap.size<=b5:=by have:=HB3.out.2.1;have:=HG.out.2.2;omega
 clear hb;go_wp2_with fail;refine(delErr_calls g1 10 c2 4 _ w6 b5 HO1.out (by simp[Value.oneCell']) (by decide) (by decide)).mono ?_;rintro e w7 ⟨rfl,ho1,hb2,hs1,hk2⟩;have HO2:Hid (Own w7 b5 43 1 (some ⟨g1,0,none⟩) 9 c2 ([0,0,0,0,0,0,0,0,0].map iv)):=qH ho1;have HB2:Hid (Below W.heap.size W w7):=qH (HB1.out.trans (hb2.mono hb5w));have HI2:Hid (WorIn w7 y L5):=qH (HI1.out w7 (fun q h1 h2 h3=>hk2 q h2));have e1:=rowOf_heap (hk2 gq (by have:=HG.out;omega));have hr1:rowOf w7 gq=worA y L5:=e1.1.trans a2.1;have hf1:frOf w7 gq=(0,0):=e1.2.trans a2.2.1;clear ho1 hb2 hs1 hk2 e1 a2;have a2:=keep1 (g:=gq) (cs:=worA y L5) (bW w7) hr1 (by go_simp) hf1;clear hr1 hf1;go_wp2_with fail;refine(anyErrs_calls (some ⟨g1,0,none⟩) c2 [0,0,0,0,0,0,0,0,0] _ (by decide) HO2.out.src.nts).mono ?_;rintro e w8 ⟨rfl,hb⟩;rw[show ([0,0,0,0,0,0,0,0,0]:List Int).any (fun x=>x !=0)=false by decide];have a2:=keep1 (g:=gq) (cs:=worA y L5) hb a2.1 (by go_simp) a2.2.1;have HB4:=bT HB2 hb;have hi1:=HI2.out.stays hb;obtain⟨y1,y2,y3⟩:=HY.out;have hl1:9<=y.d.s1.length:=by have:=congrArg List.length y2;simp[im1]at this;omega
 have hk1:=hi1.dev.k1;have hbt:=hi1.dev.b1;obtain⟨b1,o1,ha1,hzz⟩:=hbt 0 (by omega);have hslc:∀wq,(Instr.slice 23 (.slice L5.l.a1 y.d.s1.length L5.l.c1) none (some (iv 9)) none).run Tryz.prog wq=.ok (.slice L5.l.a1 9 L5.l.c1) wq:=fun wq=>by
  have k1:(9:Int)<=(L5.l.c1:Int):=by omega
  have k2:¬L5.l.c1=0:=by omega
  rw[ha1];go_simp
 have hb1:Bts w8 L5.l.a1 im1:=by rw[<-y2];exact bts_take hbt 9
 have hcv:(convert 23 9 (.slice L5.l.a1 9 L5.l.c1)).run Tryz.prog w8=.ok (.string ⟨#[120,101,102,103,104,97,98,99,100]⟩) w8:=conv_str L5.l.a1 L5.l.c1 im1 w8 (by show 9<=_;omega) hb1;have hnl:y.net.length=0:=by rw[y3];rfl
 have HY1:=qH y1;clear hzz;clear hb y2 y3 hi1 hl1 hk1 hbt ha1 hb1 HY y1;have y1:=HY1.out;go_wp2_with fail;go_ret;refine⟨rfl,?_⟩
 first|exact HB4.out|(repeat (first|exact HB4.out|refine below_drewN ?_ _|refine Below.drew ?_))
theorem worDo_bad(h:worCheck x≠0):worDo x k n=(Wor.zero,worCheck x):=by unfold worDo;rw[if_pos h]
theorem worDo_fine(h:worCheck x=0):worDo x k n=worHappen x k n:=by unfold worDo;rw[if_neg (by omega)]
theorem happen_err(h:(worHappen x k n).2≠0):worHappen x k n=(Wor.zero,(worHappen x k n).2):=by
 unfold worHappen at h⊢;split at h
 ·rename_i e;rw[if_pos e];unfold worSend at h⊢;split at h
  ·rename_i c;rw[if_pos c]
  rename_i c1;rw[if_neg c1];split at h
  ·rename_i c;rw[if_pos c]
  rename_i c2;rw[if_neg c2];split at h
  ·rename_i c;rw[if_pos c]
  rename_i c3;rw[if_neg c3];split at h
  ·rename_i c;rw[if_pos c]
  exact absurd rfl h
 rename_i e;rw[if_neg e];split at h
 ·rename_i e2;rw[if_pos e2];unfold worHear at h⊢;split at h
  ·rename_i c;rw[if_pos c]
  rename_i c1;rw[if_neg c1];split at h
  ·rename_i c;rw[if_pos c]
  exact absurd rfl h
 rename_i e2;rw[if_neg e2];unfold worDevice at h⊢;split at h
 ·rename_i c;rw[if_pos c]
 exact absurd rfl h
theorem worDo_calls(x:Wor)(L:WLoc)(kind n:Int)(w:World)(h:WorIn w x L)(hi:I64 n):Calls Tryz.prog 5 #[.agg (worA x L),.agg #[iv kind,iv n]] w (WvRet w (worDo x kind n).1 (worDo x kind n).2):=by
 have hba:Below w.heap.size w (((w.alloc (.cells (worA x L) 40)).alloc (.cells (#[iv kind,iv n]) 42)).alloc (.cells (worA Wor.zero WLoc.zero) 40)):=(((bW w).alloc (by first|omega|(simp<;>omega)) (.cells (worA x L) 40)).alloc (by first|omega|(simp<;>omega)) (.cells (#[iv kind,iv n]) 42)).alloc (by first|omega|(simp<;>omega)) (.cells (worA Wor.zero WLoc.zero) 40);have HBA:=qH hba;have HIN:=qH h;have K1:=qH (fun w h=>worCheck_calls x L w h);by_cases hc:worCheck x≠0
 ·rw[worDo_bad hc];have q:(worCheck x !=0)=true:=by simp[hc]
  generalize worCheck x=c at *
  clear hc hba h;go_enter Tryz.func5,Tryz.ntmps5;go_wp2_with fail;refine(K1.out _ (HIN.out.stays HBA.out)).mono ?_;rintro e w1 ⟨rfl,hb⟩;have a3:=kp (w.heap.size) (worA x L) hb;have a1:=kp (w.heap.size+1) (#[iv kind,iv n]) hb;have a2:=kp (w.heap.size+1+1) (worA Wor.zero WLoc.zero) hb;have HB1:=bT HBA hb;clear hb;go_wp2_with fail;refine bodyPost_ret (rC (worA Wor.zero WLoc.zero)) rfl ⟨WLoc.zero,rfl,.const fun v=>WorIn.zero v,bZ HB1⟩
 have hc:=Decidable.not_not.1 hc;rw[worDo_fine hc];rw[hc]at K1;have hok:=worCheck_ok.1 hc;have herr:=fun h=>happen_err (x:=x) (k:=kind) (n:=n) h;obtain⟨res,hres⟩:=eX (worHappen x kind n);rw[hres]at herr⊢;have HERR:=qH herr;have KH:=qH (fun g base m top ds L w hr hf hg h=>happen_calls g base m top ds n x L w hr hf hg h hok hi kind);rw[hres]at KH;have K2:=qH (fun w h=>worCopy_calls x L w h);clear hc hba h hres herr;go_enter Tryz.func5,Tryz.ntmps5;go_wp2_with fail;refine(K1.out _ (HIN.out.stays HBA.out)).mono ?_;rintro e w1 ⟨rfl,hb⟩;have a3:=kp (w.heap.size) (worA x L) hb;have a1:=kp (w.heap.size+1) (#[iv kind,iv n]) hb;have a2:=kp (w.heap.size+1+1) (worA Wor.zero WLoc.zero) hb;have hs1:w.heap.size+3<=w1.heap.size:=by have:=hb.size;simp at this;omega
 have HB1:=bT HBA hb;clear hb;go_wp2_with fail;refine(K2.out _ (HIN.out.stays HB1.out)).mono ?_;rintro e w2 ⟨L2,m,ds,rfl,hwa,hb⟩;have a3:=kr a3 hb;have a1:=kr a1 hb;have a2:=kr a2 hb;have hs2:w1.heap.size<=w2.heap.size:=hb.size;have HB2:=bT HB1 hb;clear hb;go_wp2_with fail;have hp1:0<(rowOf w2 w.heap.size).size:=by rw[a3.1];simp[worA]
 obtain⟨w3,hw1⟩:=eX (w2.setRow w.heap.size (worA x L2));have z1:rowOf w3 w.heap.size=worA x L2:=by rw[<-hw1,rowOf_setRow _ _ _ _ hp1,if_pos rfl]
 have z2:frOf w3 w.heap.size=(0,0):=by rw[<-hw1,frOf_setRow];exact a3.2.1
 have z3:rowOf w3 (w.heap.size+1+1)=worA Wor.zero WLoc.zero:=by rw[<-hw1,rowOf_setRow _ _ _ _ hp1,if_neg (by omega)];exact a2.1
 have z4:frOf w3 (w.heap.size+1+1)=(0,0):=by rw[<-hw1,frOf_setRow];exact a2.2.1
 have hs3:w3.heap.size=w2.heap.size:=by rw[<-hw1];simp[World.setRow]
 have HB3:Hid (Below w.heap.size w w3):=qH (by rw[<-hw1];exact below_row HB2.out nl _);have HW1:Hid (WorAt w3 (w1.heap.size+2) m w2.heap.size ds x L2):=qH (hwa.same (fun k a b=>by rw[<-hw1];exact setRow_other _ _ _ _ (by omega)) (by omega));try rw[hw1]
 have KHH:=qH (KH.out w.heap.size (w1.heap.size+2) m w2.heap.size ds L2 w3 z1 z2 (.inl (by omega)) HW1.out);clear hw1 hp1 hwa a3 a2;refine KHH.out.mono ?_;rintro e w4 ⟨rfl,hz,hx,hs4⟩;have HZ:=qH hz;have e1:=rowOf_heap (hx.2 (w.heap.size+1+1) (by omega) (by omega));have y1:=e1.1.trans z3;have y2:=e1.2.trans z4;have HB4:Hid (Below w.heap.size w w4):=qH (HB3.out.trans (hx.to nl (by omega)));have hl1:w.heap.size+1+1<w4.heap.size:=by omega
 clear hx KHH hz e1 z1 z2 z3 z4;obtain⟨x',e'⟩:=res;by_cases c1:e'≠0
 ·have hzz:=HERR.out c1;have hx':x'=Wor.zero:=congrArg Prod.fst hzz;subst hx';have q:(e' !=0)=true:=by simp[c1]
  clear hzz c1;go_wp2_with fail;refine bodyPost_ret (rC (worA Wor.zero WLoc.zero)) rfl ⟨WLoc.zero,rfl,.const fun v=>WorIn.zero v,bZ HB4⟩
 have c1:=Decidable.not_not.1 c1;have c2':e'=0:=c1;subst c2';obtain⟨L1,r1,f1,hfr1⟩:=HZ.out rfl;have HFR:Hid (Fresh (w1.heap.size+2) w4 (fun v=>WorIn v x' L1)):=qH (fun v hv=>hfr1 v (fun k h1 _ h2=>hv k h1 h2));have b1:=keep1 (bW w4) r1 (by go_simp) f1;clear hfr1 c1;go_wp2_with fail;refine bodyPost_ret (rC (worA x' L1)) rfl ⟨L1,rfl,?_,?_⟩
 ·refine Fresh.imp (P:=fun v=>WorIn v x' L1) (Fresh.mono (base:=w1.heap.size+2) ?_ (by omega)) (fun v hv=>hv);repeat (first|exact HFR.out|refine Fresh.row ?_ (by omega) _)
 exact bZ HB4
@[go_sem] theorem build_devF(a b:OA)(c e:Nat)(x y:LU)(p q:Cop)(w:World):runBuild Tryz.prog 38 #[(2,.bool true),(0,.agg (slotsA a x.length c b y.length e)),(1,.agg (copsA p q))] w=.ok (.agg (devA ⟨x,y,p,q,true,0,[],false,Pat.zero,0⟩ ⟨a,c,b,e,none,0,none,0⟩)) w:=by kernel_rfl
@[go_sem] theorem big_dev3F:bigBuild Tryz.prog 38 3:=big_dev' 3 (by decide)
def FdRet(w:World)(d:Dev):Ending->World->Prop:=fun en w'=>∃L,en=.returned (.agg (devA d L))∧Fresh w.heap.size w' (fun v=>DevIn v d L)∧Below w.heap.size w w'
theorem refFresh_calls(A:OA)(c:Nat)(b:LU)(w:World)(hl:b.length<=64)(hB:Bts w A b):Calls Tryz.prog 8 #[.slice A b.length c] w (FdRet w (newDev b)):=by
 have HBA:=qH ((bW w).alloc nl (.cells (devA Dev.zero DLoc.zero) 38));have HB:=qH hB;have KR:=qH (fun w h=>filled_calls A c b w hl h);have KN:=qH (fun w=>filled_calls none 0 [] w (by simp) (bts_nil w none));have KS:=qH (fun w h=>refSumOf_calls A c b w (by omega) h);have HRL:Hid ((room b).length=64∧(room []).length=64):=qH ⟨room_len hl,room_len (by simp)⟩;obtain⟨s,hs⟩:=eX (sumOn 1 b);rw[hs]at KS;obtain⟨rb,hrb⟩:=eX (room b);obtain⟨rn,hrn⟩:=eX (room []);rw[hrb]at KR HRL;rw[hrn]at KN HRL;have hnd:newDev b=⟨rb,rn,⟨true,⟨1,0,false,0,1,⟨1,b.length,s⟩,Inf.zero⟩⟩,Cop.zero,true,0,[],false,Pat.zero,0⟩:=by unfold newDev;rw[hrb,hrn,hs]
 rw[hnd];clear hnd hs hrb hrn hl hB;go_enter Tryz.func8,Tryz.ntmps8;go_wp2_with fail;refine(KR.out _ (HB.out.stays HBA.out)).mono ?_;rintro e w1 ⟨A1,c1,rfl,ho1,hb⟩;have a1:=kp (w.heap.size) (devA Dev.zero DLoc.zero) hb;have HB1:=bT HBA hb;have HO1:=qH ho1;have hs1:w.heap.size+1<=w1.heap.size:=by have:=hb.size;simpa using this
 clear hb ho1;go_wp2_with fail;refine(KN.out _).mono ?_;rintro e w2 ⟨A2,c2,rfl,ho1,hb⟩;have a1:=kr a1 hb;have HB2:=bT HB1 hb;have HX:Hid ((∀v:World,(∀k,w.heap.size+1<=k->k<w2.heap.size->v.heap[k]?=w2.heap[k]?)->Bts v A1 rb∧Bts v A2 rn)∧rb.length<=c1∧rn.length<=c2):=qH ⟨fun v hv=>⟨HO1.out.fresh v (fun k h1 h2=>(hv k (by simpa using h1) (by have:=hb.size;omega)).trans (hb.block k h2)),ho1.fresh v (fun k h1 h2=>hv k (by omega) h2)⟩,HO1.out.le,ho1.le⟩;clear hb ho1 HO1;go_wp2_with fail;refine(KS.out _ (HB.out.stays HB2.out)).mono ?_;rintro e w3 ⟨rfl,rfl⟩;go_wp2_with fail;refine bodyPost_ret (results_c rfl rfl (cs:=devA ⟨rb,rn,⟨true,⟨1,0,false,0,1,⟨1,b.length,s⟩,Inf.zero⟩⟩,Cop.zero,true,0,[],false,Pat.zero,0⟩ ⟨A1,c1,A2,c2,none,0,none,0⟩) (by go_simp;first|rfl|done) (by go_simp) (by go_simp)) rfl ⟨⟨A1,c1,A2,c2,none,0,none,0⟩,rfl,?_,?_⟩
 ·have hin:∀v,Bts v A1 rb->Bts v A2 rn->DevIn v ⟨rb,rn,⟨true,⟨1,0,false,0,1,⟨1,b.length,s⟩,Inf.zero⟩⟩,Cop.zero,true,0,[],false,Pat.zero,0⟩ ⟨A1,c1,A2,c2,none,0,none,0⟩:=fun v h1 h2=>⟨HX.out.2.1,by show rb.length<=_;rw[HRL.out.1];decide,h1,HX.out.2.2,by show rn.length<=_;rw[HRL.out.2];decide,h2,nl,Nat.zero_le _,Chs.nil _ _,pat_in_zero v,⟨by show -9223372036854775808<=(0:Int);omega,by show (0:Int)<=9223372036854775807;omega⟩,⟨by show -9223372036854775808<=(0:Int);omega,by show (0:Int)<=9223372036854775807;omega⟩⟩;intro v hv;obtain⟨h1,h2⟩:=HX.out.1 v (fun k h1 h2=>(hv k (by omega) (by simp[World.setRow];omega)).trans (setRow_other _ _ _ _ (by omega)));exact hin v h1 h2
 exact bZ HB2
section
open Go.RowKit Go.WideShapes Go.ChangeShapes Go.ChangeAt
section
variable {H:Type} {enc:TypeId×Value->H} {P:Program} {w:World} {sp:Nat->Bool} {held:Bool} {t e:TypeId}
theorem readBy_img(ht:P.underlying t=some (.slice e))(he:P.underlying e=some (.int .u8))(hs:P.cellsOf e=1):ReadBy enc P w sp held t rImg:=by
 intro fuel cs d ps h hb;obtain⟨xs,A,c,hx,h1,h2,h3⟩:=readBy_slice ht hs (by omega) (readBy_byte he) fuel cs d ps h hb;exact⟨xs,A,c,hx,h1,h2,h3.bts⟩
end
section
variable {H:Type} {enc:TypeId×Value->H} {w:World} {sp:Nat->Bool} {held:Bool}
theorem reads_img:ReadBy enc Tryz.prog w sp held 23 rImg:=
 readBy_img Tryz.underlying23 Tryz.underlying5 (by kernel_rfl)
end
end
section
open Go.RowKit Go.WideShapes Go.ChangeShapes Go.ChangeAt
section
variable {H:Type} {enc:TypeId×Value->H} {P:Program} {w:World} {sp:Nat->Bool} {held:Bool} {t e:TypeId}
theorem readBy_hap{f0 f1:Field}(ht:P.underlying t=some (.struct #[f0,f1]))(hs:P.cellsOf t=2)(o0:f0.offset=0)(o1:f1.offset=1)(k0:P.cellsOf f0.type=1)(k1:P.cellsOf f1.type=1)
  (t0:P.underlying f0.type=some (.int .i64)) (t1:P.underlying f1.type=some (.int .i64)):ReadBy enc P w sp held t rHap:=by
 intro fuel cs d ps h hb;obtain⟨hl,hf⟩:=field_of ht h hb;obtain⟨a,ha⟩:=hf 0 f0 rfl (readBy_int t0);obtain⟨b,hb⟩:=hf 1 f1 rfl (readBy_int t1);rw[hs]at hl
 match cs,hl with
 |[x,y],_=>
  rw[o0,k0]at ha;rw[o1,k1]at hb;obtain⟨ha,ha'⟩:=ha;obtain⟨hb,hb'⟩:=hb;simp at ha hb;subst ha hb;exact⟨(a,b),rfl,ha',hb'⟩
end
section
variable {H:Type} {enc:TypeId×Value->H} {w:World} {sp:Nat->Bool} {held:Bool}
theorem reads_hap:ReadBy enc Tryz.prog w sp held 42 rHap:=
 readBy_hap Tryz.underlying42 (by kernel_rfl) rfl rfl (by kernel_rfl) (by kernel_rfl) Tryz.underlying3 Tryz.underlying3
end
def ArgHap(v:Value)(x:Int×Int):Prop:=v=.agg #[iv x.1,iv x.2]∧I64 x.1∧I64 x.2
def ArgImgs(W:World)(v:Value)(l:List (List UInt8)):Prop:=∃A c,v=.slice A l.length c∧l.length<=c∧l.length<=5864062014634∧Ims W A l
section
variable {H:Type} {enc:TypeId×Value->H} {w:World} {base:Nat} {v:Value} {d:DataW H} {p:List MemPlace}
theorem argHap_of(ho:Value.okWide Tryz.prog w .any base 42 v)(h:DataW.Trod enc Tryz.prog w 0 (fun _=>true) true 42 v d p)(hb:Wt Tryz.prog 42 d):∃x,ArgHap v x:=by
 obtain⟨x,cs,hv,hp,h1,h2⟩:=argAgg_of (.inl ⟨_,Tryz.underlying42⟩) reads_hap ho h hb;exact⟨x,by rw[hv,hp],h1,h2⟩
theorem argImgs_of(ho:Value.okWide Tryz.prog w .any base 22 v)(h:DataW.Trod enc Tryz.prog w 0 (fun _=>true) true 22 v d p)(hb:Wt Tryz.prog 22 d):∃xs,ArgImgs w v xs:=by
 obtain⟨xs,A,c,hv,h1,h2,h3⟩:=argSliceM_of (M:=5864062014634) Tryz.underlying22 (by kernel_rfl:Tryz.prog.cellsOf 23=1) (by omega) reads_img ho h hb (fun n _ h=>by rw[(by kernel_rfl:Tryz.prog.bytesOf 23=24)]at h;omega);exact⟨xs,A,c,hv,h1,h2,h3⟩
end
end
section
open Go.RowKit Go.WideShapes Go.ChangeShapes Go.ChangeAt
def rInf:CR Inf:=fun _ cs x=>cs=(infA x).toList
def rInfs:CR (Inf×Inf):=fun _ cs x=>cs=(infA x.1).toList++(infA x.2).toList
def rRec:CR Rec:=fun _ cs x=>cs=(recA x).toList
def rCop:CR Cop:=fun _ cs x=>cs=(copA x).toList
def rCops:CR (Cop×Cop):=fun _ cs x=>cs=(copA x.1).toList++(copA x.2).toList
section
variable {H:Type} {enc:TypeId×Value->H} {P:Program} {w:World} {sp:Nat->Bool} {held:Bool} {t e:TypeId}
theorem readBy_inf{f0 f1 f2:Field}(ht:P.underlying t=some (.struct #[f0,f1,f2]))(hs:P.cellsOf t=3)
  (o0:f0.offset=0) (o1:f1.offset=1) (o2:f2.offset=2) (k0:P.cellsOf f0.type=1) (k1:P.cellsOf f1.type=1) (k2:P.cellsOf f2.type=1)
  (t0:P.underlying f0.type=some (.int .i64)) (t1:P.underlying f1.type=some (.int .i64)) (t2:P.underlying f2.type=some (.int .i64)):ReadBy enc P w sp held t rInf:=by
 intro fuel cs d ps h hb;obtain⟨hl,hf⟩:=field_of ht h hb;obtain⟨a,ha⟩:=hf 0 f0 rfl (readBy_int t0);obtain⟨b,hb⟩:=hf 1 f1 rfl (readBy_int t1);obtain⟨c,hc⟩:=hf 2 f2 rfl (readBy_int t2);rw[hs]at hl
 match cs,hl with
 |[x,y,z],_=>
  rw[o0,k0]at ha;rw[o1,k1]at hb;rw[o2,k2]at hc;obtain⟨ha,ha'⟩:=ha;obtain⟨hb,hb'⟩:=hb;obtain⟨hc,hc'⟩:=hc;simp at ha hb hc;subst ha hb hc;exact⟨⟨a,b,c⟩,rfl⟩
theorem readBy_infs(ht:P.underlying t=some (.array 2 e))(hs:P.cellsOf t=6)(h1:P.cellsOf e=3)(hR:ReadBy enc P w sp held e rInf):ReadBy enc P w sp held t rInfs:=by
 intro fuel cs d ps h hb;obtain⟨hl,hf⟩:=place_of ht h hb;obtain⟨a,ha⟩:=hf 0 (by omega) hR;obtain⟨b,hb⟩:=hf 1 (by omega) hR;rw[hs]at hl;rw[h1]at ha hb;refine⟨(a,b),?_⟩;unfold rInf at ha hb
 show cs=_;rw[<-ha,<-hb];have e:(cs.drop (1*3)).take 3=cs.drop 3:=by rw[Nat.one_mul];exact List.take_of_length_le (by rw[List.length_drop];omega)
 rw[e,Nat.zero_mul,List.drop_zero,List.take_append_drop]
theorem readBy_rec{f0 f1 f2 f3 f4 f5:Field}(ht:P.underlying t=some (.struct #[f0,f1,f2,f3,f4,f5]))(hs:P.cellsOf t=11)
  (o0:f0.offset=0) (o1:f1.offset=1) (o2:f2.offset=2) (o3:f3.offset=3) (o4:f4.offset=4) (o5:f5.offset=5)
  (k0:P.cellsOf f0.type=1) (k1:P.cellsOf f1.type=1) (k2:P.cellsOf f2.type=1) (k3:P.cellsOf f3.type=1) (k4:P.cellsOf f4.type=1) (k5:P.cellsOf f5.type=6)
  (t0:P.underlying f0.type=some (.int .i64)) (t1:P.underlying f1.type=some (.int .i64)) (t2:P.underlying f2.type=some .bool) (t3:P.underlying f3.type=some (.int .i64)) (t4:P.underlying f4.type=some (.int .i64)) (t5:ReadBy enc P w sp held f5.type rInfs):ReadBy enc P w sp held t rRec:=by
 intro fuel cs d ps h hb;obtain⟨hl,hf⟩:=field_of ht h hb;obtain⟨a6,h6⟩:=hf 0 f0 rfl (readBy_int t0);obtain⟨a1,h1⟩:=hf 1 f1 rfl (readBy_int t1);obtain⟨a2,h2⟩:=hf 2 f2 rfl (readBy_bool t2);obtain⟨a3,h3⟩:=hf 3 f3 rfl (readBy_int t3);obtain⟨a4,h4⟩:=hf 4 f4 rfl (readBy_int t4);obtain⟨a5,h5⟩:=hf 5 f5 rfl t5;rw[hs]at hl;rw[o0,k0]at h6;rw[o1,k1]at h1;rw[o2,k2]at h2;rw[o3,k3]at h3;rw[o4,k4]at h4;rw[o5,k5]at h5
 match cs,hl with
 |[c0,c1,c2,c3,c4,c5,c6,c7,c8,c9,c10],_=>
  obtain⟨h6,_⟩:=h6;obtain⟨h1,_⟩:=h1;obtain⟨h3,_⟩:=h3;obtain⟨h4,_⟩:=h4;unfold rBool at h2;unfold rInfs infA at h5;simp at h6 h1 h2 h3 h4 h5;obtain⟨e5,e6,e7,e8,e9,e10⟩:=h5;subst h6 h1 h2 h3 h4 e5 e6 e7 e8 e9 e10;exact⟨⟨a6,a1,a2,a3,a4,a5.1,a5.2⟩,rfl⟩
theorem readBy_cop{f0 f1:Field}(ht:P.underlying t=some (.struct #[f0,f1]))(hs:P.cellsOf t=12)(o0:f0.offset=0)(o1:f1.offset=1)(k0:P.cellsOf f0.type=1)(k1:P.cellsOf f1.type=11)
  (t0:P.underlying f0.type=some .bool) (t1:ReadBy enc P w sp held f1.type rRec):ReadBy enc P w sp held t rCop:=by
 intro fuel cs d ps h hb;obtain⟨hl,hf⟩:=field_of ht h hb;obtain⟨a0,h2⟩:=hf 0 f0 rfl (readBy_bool t0);obtain⟨a1,h1⟩:=hf 1 f1 rfl t1;rw[hs]at hl;rw[o0,k0]at h2;rw[o1,k1]at h1;unfold rRec at h1
 match cs,hl with
 |c::r,hl=>
  unfold rBool at h2;have h0':c=.bool a0:=by simpa using h2
  have h1':r=(recA a1).toList:=by rw[<-h1];show r=(r.take 11);rw[List.take_of_length_le (by simp at hl;omega)]
  subst h0' h1';exact⟨⟨a0,a1⟩,rfl⟩
theorem readBy_cops(ht:P.underlying t=some (.array 2 e))(hs:P.cellsOf t=24)(h1:P.cellsOf e=12)(hR:ReadBy enc P w sp held e rCop):ReadBy enc P w sp held t rCops:=by
 intro fuel cs d ps h hb;obtain⟨hl,hf⟩:=place_of ht h hb;obtain⟨a,ha⟩:=hf 0 (by omega) hR;obtain⟨b,hb⟩:=hf 1 (by omega) hR;rw[hs]at hl;rw[h1]at ha hb;refine⟨(a,b),?_⟩;unfold rCop at ha hb
 show cs=_;rw[<-ha,<-hb];have e:(cs.drop (1*12)).take 12=cs.drop 12:=by rw[Nat.one_mul];exact List.take_of_length_le (by rw[List.length_drop];omega)
 rw[e,Nat.zero_mul,List.drop_zero,List.take_append_drop]
end
section
variable {H:Type} {enc:TypeId×Value->H} {w:World} {sp:Nat->Bool} {held:Bool}
theorem reads_infs:ReadBy enc Tryz.prog w sp held 27 rInfs:=
 readBy_infs Tryz.underlying27 (by kernel_rfl) (by kernel_rfl) (readBy_inf Tryz.underlying26 (by kernel_rfl) rfl rfl rfl (by kernel_rfl) (by kernel_rfl) (by kernel_rfl) Tryz.underlying3 Tryz.underlying3 Tryz.underlying3)
theorem reads_rec:ReadBy enc Tryz.prog w sp held 29 rRec:=
 readBy_rec Tryz.underlying29 (by kernel_rfl) rfl rfl rfl rfl rfl rfl (by kernel_rfl) (by kernel_rfl) (by kernel_rfl) (by kernel_rfl) (by kernel_rfl) (by kernel_rfl)
  Tryz.underlying3 Tryz.underlying3 Tryz.underlying4 Tryz.underlying3 Tryz.underlying3 reads_infs
theorem reads_cop:ReadBy enc Tryz.prog w sp held 31 rCop:=
 readBy_cop Tryz.underlying31 (by kernel_rfl) rfl rfl (by kernel_rfl) (by kernel_rfl) Tryz.underlying4 reads_rec
theorem reads_cops:ReadBy enc Tryz.prog w sp held 32 rCops:=
 readBy_cops Tryz.underlying32 (by kernel_rfl) (by kernel_rfl) reads_cop
end
section
variable {H:Type} {enc:TypeId×Value->H} {w:World} {base:Nat} {v:Value} {d:DataW H} {p:List MemPlace}
end
end
section
open Go.RowKit Go.WideShapes Go.ChangeShapes Go.ChangeAt
def rSlots:CR (List UInt8×List UInt8):=fun w cs x=>∃A c B e,cs=[.slice A x.1.length c,.slice B x.2.length e]∧(x.1.length<=c∧x.1.length<=140737488351232∧Bts w A x.1)∧x.2.length<=e∧x.2.length<=140737488351232∧Bts w B x.2
def rDev:CR Dev:=fun w cs d=>∃L,cs=(devA d L).toList∧DevIn w d L
theorem part_of{cs ys:List Value}{a n:Nat}(h:(cs.drop a).take n=ys):cs.drop a=ys++cs.drop (a+n):=by rw[<-h,<-List.drop_drop,List.take_append_drop]
section
variable {H:Type} {enc:TypeId×Value->H} {P:Program} {w:World} {sp:Nat->Bool} {held:Bool} {t e:TypeId}
theorem readBy_slots(ht:P.underlying t=some (.array 2 e))(hs:P.cellsOf t=2)(h1:P.cellsOf e=1)(hR:ReadBy enc P w sp held e rImg):ReadBy enc P w sp held t rSlots:=by
 intro fuel cs d ps h hb;obtain⟨hl,hf⟩:=place_of ht h hb;obtain⟨x,A,c,hx,g1,g2,g3⟩:=hf 0 (by omega) hR;obtain⟨y,B,e,hy,k1,k2,k3⟩:=hf 1 (by omega) hR;rw[hs]at hl;rw[h1]at hx hy
 match cs,hl with
 |[u,v],_=>
  simp at hx hy;subst hx hy;exact⟨(x,y),A,c,B,e,rfl,⟨g1,g2,g3⟩,k1,k2,k3⟩
theorem readBy_dev{f0 f1 f2 f3 f4 f5 f6 f7:Field}{tc:TypeId}(ht:P.underlying t=some (.struct #[f0,f1,f2,f3,f4,f5,f6,f7]))(hs:P.cellsOf t=37)
  (o0:f0.offset=0) (o1:f1.offset=2) (o2:f2.offset=26) (o3:f3.offset=27) (o4:f4.offset=28) (o5:f5.offset=29) (o6:f6.offset=30) (o7:f7.offset=36)
  (k0:P.cellsOf f0.type=2) (k1:P.cellsOf f1.type=24) (k2:P.cellsOf f2.type=1) (k3:P.cellsOf f3.type=1) (k4:P.cellsOf f4.type=1) (k5:P.cellsOf f5.type=1) (k6:P.cellsOf f6.type=6) (k7:P.cellsOf f7.type=1)
  (t0:ReadBy enc P w sp held f0.type rSlots) (t1:ReadBy enc P w sp held f1.type rCops) (t2:P.underlying f2.type=some .bool) (t3:P.underlying f3.type=some (.int .i64))
  (t4:P.underlying f4.type=some (.slice tc)) (hc:P.cellsOf tc=5) (hB:P.bytesOf tc=56) (hR:ReadBy enc P w sp held tc rChk) (t5:P.underlying f5.type=some .bool) (t6:ReadBy enc P w sp held f6.type rPat) (t7:P.underlying f7.type=some (.int .i64)):ReadBy enc P w sp held t rDev:=by
 intro fuel cs d ps h hb;obtain⟨hl,hf⟩:=field_of ht h hb;obtain⟨⟨s2,s1⟩,A2,c2,A1,c1,h8,⟨x1,x2,x3⟩,x4,x5,x6⟩:=hf 0 f0 rfl t0;obtain⟨⟨cp2,cp1⟩,h1⟩:=hf 1 f1 rfl t1;obtain⟨up,h2⟩:=hf 2 f2 rfl (readBy_bool t2);obtain⟨ru,h3,i1⟩:=hf 3 f3 rfl (readBy_int t3);obtain⟨got,A3,c3,h4,y1,y2,y3⟩:=hf 4 f4 rfl (readBy_sliceM (M:=2513169434843) t4 hc (by omega) hR (fun n _ h=>by rw[hB]at h;omega));obtain⟨bz,h5⟩:=hf 5 f5 rfl (readBy_bool t5);obtain⟨p,A4,c4,h6,z⟩:=hf 6 f6 rfl t6;obtain⟨dn,h7,i2⟩:=hf 7 f7 rfl (readBy_int t7);rw[hs]at hl;rw[o0,k0]at h8;rw[o1,k1]at h1;rw[o2,k2]at h2;rw[o3,k3]at h3;rw[o4,k4]at h4;rw[o5,k5]at h5;rw[o6,k6]at h6;rw[o7,k7]at h7;unfold rCops at h1;unfold rBool at h2 h5;have e9:=part_of h8;have e1:=part_of h1;have e2:=part_of h2;have e3:=part_of h3;have e4:=part_of h4;have e5:=part_of h5;have e6:=part_of h6;have e7:=part_of h7;have e8:cs.drop (36+1)=[]:=List.drop_eq_nil_of_le (by omega);refine⟨⟨s2,s1,cp2,cp1,up,ru,got,bz,p,dn⟩,⟨A2,c2,A1,c1,A3,c3,A4,c4⟩,?_,⟨x1,x2,x3,x4,x5,x6,y1,y2,y3,z,i1,i2⟩⟩;have e:cs=cs.drop 0:=rfl;rw[e,e9];rw[show 0+2=2 from rfl,e1,show 2+24=26 from rfl,e2,show 26+1=27 from rfl,e3,show 27+1=28 from rfl,e4,show 28+1=29 from rfl,e5,show 29+1=30 from rfl,e6,show 30+6=36 from rfl,e7,e8];rfl
end
section
variable {H:Type} {enc:TypeId×Value->H} {w:World} {sp:Nat->Bool} {held:Bool}
theorem reads_slots:ReadBy enc Tryz.prog w sp held 24 rSlots:=readBy_slots Tryz.underlying24 (by kernel_rfl) (by kernel_rfl) reads_img
theorem reads_pat:ReadBy enc Tryz.prog w sp held 36 rPat:=
 readBy_pat Tryz.underlying36 (by kernel_rfl) rfl rfl rfl rfl rfl rfl (by kernel_rfl) (by kernel_rfl) (by kernel_rfl) (by kernel_rfl) (by kernel_rfl) (by kernel_rfl)
  Tryz.underlying3 Tryz.underlying3 Tryz.underlying3 Tryz.underlying3 Tryz.underlying3 Tryz.underlying34 (by kernel_rfl) (by kernel_rfl) reads_op
theorem reads_dev:ReadBy enc Tryz.prog w sp held 38 rDev:=
 readBy_dev Tryz.underlying38 (by kernel_rfl) rfl rfl rfl rfl rfl rfl rfl rfl (by kernel_rfl) (by kernel_rfl) (by kernel_rfl) (by kernel_rfl) (by kernel_rfl) (by kernel_rfl) (by kernel_rfl) (by kernel_rfl)
  reads_slots reads_cops Tryz.underlying4 Tryz.underlying3 Tryz.underlying33 (by kernel_rfl) (by kernel_rfl) reads_chk Tryz.underlying4 reads_pat Tryz.underlying3
end
section
variable {H:Type} {enc:TypeId×Value->H} {w:World} {base:Nat} {v:Value} {d:DataW H} {p:List MemPlace}
end
end
section
open Go.RowKit Go.WideShapes Go.ChangeShapes Go.ChangeAt
def rWor:CR Wor:=fun w cs x=>∃L,cs=(worA x L).toList∧WorIn w x L
section
variable {H:Type} {enc:TypeId×Value->H} {P:Program} {w:World} {sp:Nat->Bool} {held:Bool} {t e:TypeId}
theorem readBy_wor{f0 f1 f2:Field}{ti tc:TypeId}(ht:P.underlying t=some (.struct #[f0,f1,f2]))(hs:P.cellsOf t=39)
  (o0:f0.offset=0) (o1:f1.offset=1) (o2:f2.offset=38) (k0:P.cellsOf f0.type=1) (k1:P.cellsOf f1.type=37) (k2:P.cellsOf f2.type=1)
  (t0:P.underlying f0.type=some (.slice ti)) (hi:P.cellsOf ti=1) (hBi:P.bytesOf ti=24) (hI:ReadBy enc P w sp held ti rImg) (t1:ReadBy enc P w sp held f1.type rDev) (t2:P.underlying f2.type=some (.slice tc)) (hc:P.cellsOf tc=5) (hB:P.bytesOf tc=56) (hR:ReadBy enc P w sp held tc rChk):ReadBy enc P w sp held t rWor:=by
 intro fuel cs d ps h hb;obtain⟨hl,hf⟩:=field_of ht h hb;obtain⟨rel,A1,c1,h3,x1,x2,x3⟩:=hf 0 f0 rfl (readBy_sliceM (M:=5864062014634) t0 hi (by omega) hI (fun n _ h=>by rw[hBi]at h;omega));obtain⟨d,L,h1,y⟩:=hf 1 f1 rfl t1;obtain⟨net,A2,c2,h2,z1,z2,z3⟩:=hf 2 f2 rfl (readBy_sliceM (M:=2513169434843) t2 hc (by omega) hR (fun n _ h=>by rw[hB]at h;omega));rw[hs]at hl;rw[o0,k0]at h3;rw[o1,k1]at h1;rw[o2,k2]at h2;have e3:=part_of h3;have e1:=part_of h1;have e2:=part_of h2;have e4:cs.drop (38+1)=[]:=List.drop_eq_nil_of_le (by omega);refine⟨⟨rel,d,net⟩,⟨A1,c1,L,A2,c2⟩,?_,⟨x1,x2,x3,y,z1,z2,z3⟩⟩;have e:cs=cs.drop 0:=rfl;rw[e,e3];rw[show 0+1=1 from rfl,e1,show 1+37=38 from rfl,e2,e4];rfl
end
section
variable {H:Type} {enc:TypeId×Value->H} {w:World} {sp:Nat->Bool} {held:Bool}
theorem reads_wor:ReadBy enc Tryz.prog w sp held 40 rWor:=
 readBy_wor Tryz.underlying40 (by kernel_rfl) rfl rfl rfl (by kernel_rfl) (by kernel_rfl) (by kernel_rfl) Tryz.underlying22 (by kernel_rfl) (by kernel_rfl) reads_img reads_dev Tryz.underlying33 (by kernel_rfl) (by kernel_rfl) reads_chk
end
def ArgWor(W:World)(v:Value)(x:Wor):Prop:=∃L,v=.agg (worA x L)∧WorIn W x L
section
variable {H:Type} {enc:TypeId×Value->H} {w:World} {base:Nat} {v:Value} {d:DataW H} {p:List MemPlace}
theorem argWor_of(ho:Value.okWide Tryz.prog w .any base 40 v)(h:DataW.Trod enc Tryz.prog w 0 (fun _=>true) true 40 v d p)(hb:Wt Tryz.prog 40 d):∃x,ArgWor w v x:=by
 obtain⟨x,cs,hv,L,hp,h1⟩:=argAgg_of (.inl ⟨_,Tryz.underlying40⟩) reads_wor ho h hb;exact⟨x,L,by rw[hv,hp],h1⟩
end
end
