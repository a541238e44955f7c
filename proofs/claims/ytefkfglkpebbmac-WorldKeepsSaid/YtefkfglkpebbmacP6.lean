/- Walks of functions, and plain words. No conditions. -/
import Derived.Test.YtefkfglkpebbmacP5
import Derived.BigRegion
set_option linter.unusedVariables false
set_option linter.unusedSimpArgs false
set_option maxRecDepth 100000
set_option maxHeartbeats 40000000
namespace Go.Proofs.Ytefkfglkpebbmac
open Go.RowKit
variable {Y:Prop}
variable {l:List Chk} {ds:List (Option Addr×Nat)} {i:Nat} {w:World}
theorem x5u3(h:Y:=by
 clear hn;go_quiet (fail)
 go_wp2_with fail;go_ret;exact⟨rfl,fun e=>absurd e (by decide),HX.out.below (below_drewN _ _) (by omega) (by omega),by simp;omega⟩):Y:=h
theorem x7pt(h:Y:=by
 have hk:=hn 13 _ 1 rfl rfl (by decide);obtain⟨r_,f_,c_⟩:=dhJ_row hk (by omega) RX1.out FX1.out (by simp) hJ;go_simp):Y:=h
theorem cells_del(h:ds.length=l.length)(hi:i<l.length):kChk.cells (l.eraseIdx i) (ds.eraseIdx i)=(kChk.cells l ds).take (i*5)++(kChk.cells l ds).drop ((i+1)*5):=by
 have h1:=cells_take (K:=kChk) l ds h i (by omega);have h2:=cells_take (K:=kChk) l ds h (i+1) (by omega);rw[List.eraseIdx_eq_take_drop_succ,List.eraseIdx_eq_take_drop_succ,cells_append _ _ _ _ (by simp;omega),h1.1,h2.2];rfl
theorem erase_at{α:Type}{l:List α}{j:Nat}{o:α}(h:(l.eraseIdx i)[j]?=some o):l[if j<i then j else j+1]?=some o:=by
 rw[List.getElem?_eraseIdx]at h;split at h
 ·rename_i hj;rw[if_pos hj];exact h
 rename_i hj;rw[if_neg hj];exact h
theorem GRow.del{w':World}{base c g:Nat}(h:GRow kChk w base l ds (some ⟨g,0,none⟩) c)(hi:i<l.length)(ho:Own w' base 49 5 (some ⟨g,0,none⟩) (l.length-1) c ((kChk.cells l ds).take (i*5)++(kChk.cells l ds).drop ((i+1)*5)))
  (hk:∀k,k≠g->w'.heap[k]?=w.heap[k]?) (hs:w'.heap.size=w.heap.size):GRow kChk w' base (l.eraseIdx i) (ds.eraseIdx i) (some ⟨g,0,none⟩) c:=by
 have hl:=h.len;refine⟨by rw[List.length_eraseIdx_of_lt hi,List.length_eraseIdx_of_lt (by omega)];omega,?_,fun j o d h1 h2=>?_,fun j o d h1 h2 hx k hk2=>h.off _ o d (erase_at h1) (erase_at h2) hx k hk2⟩
 ·rw[cells_del hl hi,List.length_eraseIdx_of_lt hi];exact ho
 obtain⟨h3,h4⟩:=h.data _ o d (erase_at h1) (erase_at h2);refine⟨bts_keep h3 (by omega) fun hx k hlt e=>hk k fun e2=>?_,h4⟩;have:=h.off _ o d (erase_at h1) (erase_at h2) hx k e;subst e2;exact this rfl
theorem Each.del{P:Nat->Prop}(h:Each kChk l ds P):Each kChk (l.eraseIdx i) (ds.eraseIdx i) P:=fun j o d h1 h2 hx k hk=>h _ o d (erase_at h1) (erase_at h2) hx k hk
def dhJ(w0:World)(g gn m:Nat)(x:Wor)(L:WLoc)(i:Nat)(out:List Value):Nat->(Nat->Value)->World->Prop
 |0,_,w=>w=w0.drew
 |1,cv,w=>cv 10=.slice (some ⟨gn,0,none⟩) (x.net.eraseIdx i).length L.cn∧Own w m 49 5 (some ⟨gn,0,none⟩) (x.net.length-1) L.cn out∧w.heap.size=w0.heap.size∧(∀k,k≠gn->w.heap[k]?=w0.heap[k]?)∧Below m w0 w
 |_,_,w=>∃w1,Own w1 m 49 5 (some ⟨gn,0,none⟩) (x.net.length-1) L.cn out∧w1.heap.size=w0.heap.size∧(∀k,k≠gn->w1.heap[k]?=w0.heap[k]?)∧Below m w0 w1∧w=w1.setRow g (worA {x with net:=x.net.eraseIdx i} {L with an:=some ⟨gn,0,none⟩,cn:=L.cn})
theorem dhJ_row{w0:World}{g gn m k q:Nat}{x:Wor}{L:WLoc}{out:List Value}{cv:Nat->Value}{cs:Array Value}(hk:k<=1)(hq:q≠gn)(hr:rowOf w0 q=cs)(hf:frOf w0 q=(0,0))(h0:0<cs.size)(hJ:dhJ w0 g gn m x L i out k cv w):
  rowOf w q=cs∧frOf w q=(0,0)∧(∀j,w.cell? ⟨q,j,none⟩=cs[j]?):=by
 have key:w.heap[q]?=w0.heap[q]?->rowOf w q=cs∧frOf w q=(0,0)∧(∀j,w.cell? ⟨q,j,none⟩=cs[j]?):=fun e=>by
  obtain⟨e1,e2⟩:=rowOf_heap e;have e3:=e1.trans hr;exact⟨e3,e2.trans hf,fun j=>by rw[cell_row (by rw[e3];exact h0),e3]⟩
 rcases (show k=0∨k=1 by omega)with rfl|rfl
 ·have hJ':w=w0.drew:=hJ;subst hJ';exact key rfl
 obtain⟨_,_,_,h,_⟩:=hJ;exact key (h q hq)
theorem bel2{a b c:World}(h:Below a.heap.size a b)(h2:Below b.heap.size b c):Below a.heap.size a c:=h.trans (h2.mono h.size)
theorem hear_box(g base m top:Nat)(ds:List (Option Addr×Nat))(n:Int)(x:Wor)(L:WLoc)(w:World)(hr:rowOf w g=worA x L)(hf:frOf w g=(0,0))(hg:g<base∨top<=g)(h:WorAt w base m top ds x L)(k:Int)(w1:World)(hw1:w.alloc (.cells #[iv k,iv n] 106)=w1):
  rowOf w1 g=worA x L∧frOf w1 g=(0,0)∧rowOf w1 w.heap.size=#[iv k,iv n]∧frOf w1 w.heap.size=(0,0)∧Bex g base w w1∧WorAt w1 base m top ds x L∧w1.heap.size=w.heap.size+1∧g<w.heap.size∧(∀j,w1.cell? ⟨g,j,none⟩=(worA x L)[j]?)∧(∀j,w1.cell? ⟨w.heap.size,j,none⟩=#[iv k,iv n][j]?):=by
 have hlt:g<w.heap.size:=row_lt (w:=w) (by rw[hr];simp[worA]);have hm3:=h.h3;have hm2:=h.h2;have hm1:=h.h1;subst hw1;have q1:rowOf (w.alloc (.cells #[iv k,iv n] 106)) g=worA x L:=by rw[rowOf_alloc,if_neg (by omega)];exact hr
 have q2:rowOf (w.alloc (.cells #[iv k,iv n] 106)) w.heap.size=#[iv k,iv n]:=by rw[rowOf_alloc,if_pos rfl]
 exact⟨q1,by rw[frOf_alloc,if_neg (by omega)];exact hf,q2,by rw[frOf_alloc,if_pos rfl],(Bex.refl _ _ _).alloc (by omega) (by omega) _,h.same (fun k a b=>Below.heap_alloc w _ k (by omega)) (by simp;omega),by simp,hlt,
  fun j=>by rw[cell_row (by rw[q1];simp[worA]),q1],fun j=>by rw[cell_row (by rw[q2];simp),q2]⟩
theorem hear_who(g base m top:Nat)(ds:List (Option Addr×Nat))(n:Int)(x:Wor)(L:WLoc)(w:World)(hr:rowOf w g=worA x L)(hf:frOf w g=(0,0))(hg:g<base∨top<=g)(h:WorAt w base m top ds x L)(hnet:x.net.length<=120)(k:Int)(hn:n<0∨(x.net.length:Int)<=n):Calls Try.prog 155 #[.pointer (some ⟨g,0,none⟩),.agg #[iv k,iv n]] w (HaRet w g base Wor.zero 4):=by
 obtain⟨w1,hw1⟩:=eX (w.alloc (.cells #[iv k,iv n] 106));obtain⟨-,-,-,-,hx,hw,hs,hlt,q1,q2⟩:=hear_box g base m top ds n x L w hr hf hg h k w1 hw1;have hm1:=hw.h1;have hm2:=hw.h2;have hm3:=hw.h3;have HX:=qH hx;clear hr hf h hx hw;go_enter Try.func155,Try.ntmps155;go_wp2_with fail;try rw[hw1]
 clear hw1;by_cases c1:n<0
 ·have c2:=c1;exact x5u3
 have c2:=hn.resolve_left c1;exact x5u3
theorem hear_at(g base m top:Nat)(ds:List (Option Addr×Nat))(n:Int)(x:Wor)(L:WLoc)(w:World)(hr:rowOf w g=worA x L)(hf:frOf w g=(0,0))(hg:g<base∨top<=g)(h:WorAt w base m top ds x L)(hnet:x.net.length<=120)(k:Int)(hk:k=2∨k=3∨k=4)(i:Nat)(hni:n=(i:Int))(hi:i<x.net.length):Calls Try.prog 155 #[.pointer (some ⟨g,0,none⟩),.agg #[iv k,iv n]] w (HaRet w g base (worHear x k n).1 (worHear x k n).2):=by
 subst hni;obtain⟨w1,hw1⟩:=eX (w.alloc (.cells #[iv k,iv (i:Int)] 106));obtain⟨r1,f1,r2,f2,hx,hw,hs1,hlt,q1,q2⟩:=hear_box g base m top ds i x L w hr hf hg h k w1 hw1;have hm1:=hw.h1;have hm2:=hw.h2;have hm3:=hw.h3;obtain⟨y,hy⟩:=eX (x.net[i]);obtain⟨⟨d1,e2⟩,hd1⟩:∃z,devHear x.d y=z:=⟨_,rfl⟩;have hdef:worHear x k i=if k≠4∧e2≠0 then (Wor.zero,e2)else (⟨x.rel,if k≠4 then d1 else x.d,if k≠3 then x.net.eraseIdx i else x.net⟩,0):=by
  unfold worHear;rw[if_neg (by omega),Int.toNat_natCast,show x.net.getD i Chk.zero=y by rw[<-hy];simp[hi],hd1]
 have HD:=qH hdef;have hin:=(h.net.src.chs h.bd).chk hi;rw[hy]at hin;generalize worHear x k i=res at *
 obtain⟨gn,on,B,e,hAn,hbn,hck,hci⟩:=hin;obtain⟨gq,hAn1,hgn1,hgn2⟩:=h.net.row.form (by omega);rw[hAn]at hAn1;injection hAn1 with hAn1;injection hAn1 with e1 e2;subst e1 e2;have hgnT:=h.blk gn (by rw[hAn];rfl);have HB1:Below w.heap.size w w1:=by rw[<-hw1];exact bL _
 have HAN:=qH hAn;have HCI:Hid (ChkIn w1 y B e):=qH (hci.stays HB1);have HCK:Hid (ChkAt w1 gn (0+i*5) y B e):=qH (hck.stays hbn HB1);have hcn:=h.net.row.le;have HEA:=qH h.each;have HBD:=qH h.bd;have HKR:=qH (And.intro h.kr h.lr);have HX1:=qH hx;have HW1:=qH hw;have RW:=qH r1;have FW:=qH f1;have RX:=qH r2;have FX:=qH f2;have HD1:=qH hd1;clear hr hf h hx hw r1 f1 r2 f2 hdef hy hd1 hAn hck hci HB1;have c1:¬(i:Int)<0:=by omega
 have c2:¬(x.net.length:Int)<=(i:Int):=by omega
 go_enter Try.func155,Try.ntmps155;go_wp2_with fail;try rw[hw1]
 clear hw1;go_cut [19] (fun v wx=>v=.bool false∧Hid (Below w1.heap.size w1 wx))
 case first=>
  go_quiet (fail)
  go_wp2_with fail;go_meet
  case rel=>exact⟨by rw[decide_eq_false (by omega),decide_eq_false (by omega)];rfl,qH (below_drewN _ _)⟩
 case rest=>
 obtain⟨rfl,hb⟩:=hcut;generalize wc=w3 at *
 have hb1:=hb.out;have hs2:=hb1.size;obtain⟨a0r,a0f,a0n,a0c,a0z,a0l⟩:=keep1 hb1 RW.out (by go_simp) FW.out;obtain⟨a1r,a1f,a1n,a1c,a1z,a1l⟩:=keep1 hb1 RX.out (by simp) FX.out;have HX2:=qH (HX1.out.below hb1 (by omega) (by omega));have HW2:Hid (WorAt w3 base m top ds x L):=qH (HW1.out.same (fun k a b=>hb1.block k (by omega)) (by omega));have HCI1:Hid (ChkIn w3 y B e):=qH (HCI.out.stays hb1);have HCK1:Hid (ChkAt w3 gn (0+i*5) y B e):=qH (HCK.out.stays (by omega) hb1);clear hb hb1 RW FW RX FX HX1 HW1 HCI HCK q1 q2 c1 c2;have RW1:=qH a0r;have FW1:=qH a0f;have RX1:=qH a1r;have FX1:=qH a1f;go_upto_if 22 with fail
 go_cut [] (fun wx=>∃d3 L2,Hid (rowOf wx g=worA {x with d:=d3} {L with l:=L2}∧frOf wx g=(0,0))∧Hid (rowOf wx w.heap.size=#[iv k,iv (i:Int)]∧frOf wx w.heap.size=(0,0))∧Hid (res=(⟨x.rel,d3,if k≠3 then x.net.eraseIdx i else x.net⟩,0))∧Hid (Bex g base w wx∧w1.heap.size<=wx.heap.size)∧Hid (∀k,m<=k->k<top->wx.heap[k]?=w3.heap[k]?)
  ∧Hid (∀v:World,(∀k,base<=k->k≠gn->k≠g->k<wx.heap.size->v.heap[k]?=wx.heap[k]?)->DevIn v d3 L2∧Ims v L.ar x.rel))
 case first=>
  by_cases c1:k=4
  ·have q:(k !=4)=false:=by simp[c1]
   go_wp2_with fail;go_meet
   case rel=>exact⟨x.d,L.l,qH ⟨RW1.out,FW1.out⟩,qH ⟨RX1.out,FX1.out⟩,qH (HD.out.trans ((if_neg (by simp[c1])).trans (by rw[if_neg (by simp[c1])]))),qH ⟨HX2.out,hs2⟩,qH fun _ _ _=>rfl,
    qH fun v hv=>⟨HW2.out.dev v fun k h1 h2=>hv k h1 (by omega) (by omega) (by omega),HW2.out.rel v fun k h1 h2=>hv k h1 (by omega) (by omega) (by omega)⟩⟩
  have q:(k !=4)=true:=by simp[c1]
  have KH:Hid (∀wq,Below w3.heap.size w3 wq->Calls Try.prog 55 #[.agg (devA x.d L.l),.agg (chkA y.from_ y.to_ y.n y.of_ B y.data.length e)] wq (DvRet wq d1 e2)):=qH (fun wq hb=>by
   have h1:=devHear_calls x.d L.l y B e wq (HW2.out.dev.now.stays hb) (HCI1.out.stays hb);rw[HD1.out]at h1;exact h1)
  clear a0r a0f a0n a0c a0z a1r a1f a1n a1c a1z;go_upto_region 4 with fail
  go_cut [5,6] (fun v1 v2 wx=>∃L2 gb,v1=.pointer (some ⟨gb,0,none⟩)∧v2=iv e2∧Hid (rowOf wx gb=devA d1 L2∧frOf wx gb=(0,0))∧Hid (w3.heap.size<=gb∧gb<wx.heap.size)∧Hid (∀v:World,(∀k,w3.heap.size<=k->k≠gb->k<wx.heap.size->v.heap[k]?=wx.heap[k]?)->DevIn v d1 L2)∧Hid (Below w3.heap.size w3 wx))
  case first=>
   have hbb:Below w3.heap.size w3 w3.drew:=(Below.refl _ _).drew;have hq3:=fun v (h:Below w3.heap.size w3 v)=>keep1 h RW1.out (by go_simp) FW1.out;have hq1:=fun v (h:Below w3.heap.size w3 v)=>keep1 h RX1.out (by simp) FX1.out;have hq2:=fun v (h:Below w3.heap.size w3 v)=>HCK1.out.stays (by omega) h;simp only[ChkAt,Nat.zero_add]at hq2;have h_:=HAN.out;have h2_:(i:Int)<(x.net.length:Int):=by omega
   have h3_:(x.net.length:Int)<=(L.cn:Int):=by omega
   go_region_held3 (fun v=>Below w3.heap.size w3 v) ((have hs9:=hbb.size;repeat (first|exact hbb|refine bR ?_ _|refine bA ?_ _)))
    ((go_at_call 55;refine(KH.out _ (by assumption)).mono ?_;rintro e w5 ⟨L2,rfl,hfr,h5⟩;have hbb:=bel2 (a:=w3) (by assumption) h5;try (have hrow:=keep1 (g:=w3.heap.size) (cs:=devA Dev.zero DLoc.zero) h5 (by first|(go_simp;done)|fail) (by first|(go_simp;done)|fail) (by first|(go_simp;done)|fail))))
   all_goals (
    go_wp2_with fail;go_meet
    case rel=>
     have hs3:=hbb.size;have hs4:=h5.size;try simp at hs4
     refine⟨_,_,rfl,rfl,qH ⟨by go_simp,by go_simp⟩,qH ⟨by omega,by first|omega|(simp[World.setRow]<;>omega)⟩,qH (fun v hv=>hfr v fun k h1 h2=>?_),qH (by repeat (first|exact hbb|refine bR ?_ _|refine bA ?_ _))⟩;try simp at h1
     first|exact(hv k (by omega) (by omega) (by simp[World.setRow]<;>omega)).trans (setRow_other _ _ _ _ (by omega))|exact(hv k (by omega) (by omega) (by simp<;>omega)).trans (Below.heap_alloc w5 _ k (by omega)))
  case rest=>
  obtain⟨L1,gb,rfl,rfl,hrb,hgb,hfr,hbel⟩:=hcut;generalize wc=w5 at *
  have hs3:=hbel.out.size;obtain⟨hgb1,hgb2⟩:=hgb.out;obtain⟨rb,fb⟩:=hrb.out;obtain⟨a0r,a0f,a0n,a0c,a0z,a0l⟩:=keep1 hbel.out RW1.out (by go_simp) FW1.out;obtain⟨a1r,a1f,a1n,a1c,a1z,a1l⟩:=keep1 hbel.out RX1.out (by simp) FX1.out;have HX1:=qH (HX2.out.below hbel.out (by omega) (by omega));have HW1:Hid (WorAt w5 base m top ds x L):=qH (HW2.out.same (fun k a b=>hbel.out.block k (by omega)) (by omega));have hgg:¬gb=g:=by omega
  have hgg1:¬g=gb:=by omega
  clear KH RW1 FW1 RX1 FX1 hrb hgb;by_cases c2:e2≠0
  ·have hz:res=(Wor.zero,e2):=HD.out.trans (if_pos ⟨c1,c2⟩);subst hz;have q:(e2 !=0)=true:=by simp[c2]
   have HC1:=qH c2;clear c2;go_wp2_with fail;go_ret;exact⟨rfl,fun e=>absurd e HC1.out,HX1.out,by omega⟩
  have c2:=Decidable.not_not.1 c2;subst c2;have hp1:0<(rowOf w5 g).size:=by rw[a0r];simp[worA]
  go_wp2_with fail;go_meet
  case rel=>
   exact⟨d1,L1,qH ⟨by rw[rowOf_setRow _ _ _ _ hp1,if_pos rfl],by rw[frOf_setRow];exact a0f⟩,qH ⟨by rw[rowOf_setRow _ _ _ _ hp1,if_neg (by omega)];exact a1r,by rw[frOf_setRow];exact a1f⟩,
    qH (HD.out.trans ((if_neg (by simp)).trans (by rw[if_pos c1]))),qH ⟨HX1.out.row (.inl rfl) _,by simp[World.setRow];omega⟩,qH fun k h1 h2=>(setRow_other _ _ _ _ (by omega)).trans (hbel.out.block k (by omega)),
    qH fun v hv=>⟨hfr.out v fun k h1 h2 h3=>(hv k (by omega) (by omega) (by omega) (by simp[World.setRow];omega)).trans (setRow_other _ _ _ _ (by omega)),HW1.out.rel v fun k h1 h2=>(hv k h1 (by omega) (by omega) (by simp[World.setRow];omega)).trans (setRow_other _ _ _ _ (by omega))⟩⟩
 case rest=>
 obtain⟨d1,L1,hrz,hrx,hres,hxz,hkz,HDZ⟩:=hcut;generalize wc=wz at *
 obtain⟨z1,z2⟩:=hrz.out;obtain⟨z3,z4⟩:=hrx.out;obtain⟨hxz1,hzl⟩:=hxz.out;have hz:=hres.out;have HXZ:=qH hxz1;have HGN:Hid (GRow kChk wz m x.net ds (some ⟨gn,0,none⟩) L.cn):=qH (by
  have h1:=HW2.out.net.ex (v:=wz) (fun k e=>hkz.out k (by have:=(HW2.out.net.row.block k e).1;omega) (HW2.out.blk k e)) (HEA.out.imp fun k hk=>hkz.out k hk.1 hk.2);rw[HAN.out]at h1;exact h1)
 have hgng:gn≠g:=by omega
 clear HD HD1 a0r a0f a0n a0c a0z a0l a1r a1f a1n a1c a1z a1l RW1 FW1 RX1 FX1 HX2 HCI1 HCK1 hrz hrx hres hxz hxz1 hkz;obtain⟨_,h11,h1,h2,h3,h4⟩:=keep1 (Below.refl _ _) z1 (by simp[worA]) z2;obtain⟨_,h5,h6,h7,h8,h9⟩:=keep1 (Below.refl _ _) z3 (by simp) z4;by_cases c1:k=3
 ·have q:(k !=3)=false:=by simp[c1]
  rw[if_neg (by simp[c1])]at hz;subst hz;go_wp2_with fail;go_ret;refine⟨rfl,fun _=>⟨{L with l:=L1},z1,z2,fun v hv=>?_⟩,HXZ.out,by omega⟩;have hdz:=HDZ.out v fun k a b c d=>hv k a c d;refine⟨HKR.out.1,HKR.out.2,hdz.2,hdz.1,hcn,HW2.out.ln,?_⟩;have hgr:=HGN.out.ex (v:=v) (fun k e=>by have e':gn=k:=(by simpa using e);exact hv k (by omega) (by omega) (by omega)) (HEA.out.imp fun k hk=>by
   have hk':m<=k∧k<top:=hk;exact hv k (by omega) (by omega) (by omega))
  have h10:=hgr.src.chs HBD.out;rw[<-HAN.out]at h10;exact h10
 have q:(k !=3)=true:=by simp[c1]
 rw[if_pos c1]at hz;subst hz;have hzlt:w.heap.size<wz.heap.size:=by omega
 have HWR:Hid (IntKind.i64.wrap ((i:Int)+1)=(i:Int)+1):=qH (IntWalk.i64_in _ (by omega));have RZ:=qH z1;have FZ:=qH z2;have RX1:=qH z3;have FX1:=qH z4;have HLE:Hid ((x.net.eraseIdx i).length=x.net.length-1):=qH (List.length_eraseIdx_of_lt hi);have KD:Hid (Calls Try.prog 83 #[.slice (some ⟨gn,0,none⟩) x.net.length L.cn,iv (i:Int),iv ((i:Int)+1)] wz.drew (DelRet wz.drew m x.net.length L.cn gn ((kChk.cells x.net ds).take (i*5)++(kChk.cells x.net ds).drop ((i+1)*5)))):=qH (delChunk_calls gn x.net.length L.cn i (kChk.cells x.net ds) wz.drew m HGN.out.row (cells_oneCell _ _) hi (by omega));have hgnw:gn≠w.heap.size:=by omega
 go_upto_region 9 with fail
 clear z1 z2 z3 z4 h11 h1 h2 h3 h4 h5 h6 h7 h8 h9;refine wp_region_mix (by kernel_rfl) (some 49::some 50::some 51::some 52::some 53::some 54::some 55::some 56::some 57::some 58::some 59::some 60::some 61::none::[]) (none::none::none::none::none::none::none::none::none::none::some 0::none::none::some 1::[]) (.pointer (some ⟨g,0,none⟩)::.pointer (some ⟨g,0,none⟩)::.pointer (some ⟨g,0,none⟩)::.pointer (some ⟨g,38,none⟩)::.slice (some ⟨gn,0,none⟩) x.net.length L.cn::.pointer (some ⟨w.heap.size,1,none⟩)::iv (i:Int)::.pointer (some ⟨w.heap.size,1,none⟩)::iv (i:Int)::iv ((i:Int)+1)::undef::.pointer (some ⟨g,0,none⟩)::.pointer (some ⟨g,38,none⟩)::undef::[]) 2 (dhJ wz g gn m {x with d:=d1} {L with l:=L1} i ((kChk.cells x.net ds).take (i*5)++(kChk.cells x.net ds).drop ((i+1)*5))) 62 rfl rfl (by decide+kernel) (by decide+kernel) (by decide+kernel) (by decide+kernel) rfl rfl (by decide+kernel) (by decide+kernel) (rfl) ?_ ?_
 ·refine⟨?_,?_,?_,?_,?_,?_,?_,?_,?_,?_,?_,?_,?_,?_,trivial⟩
  ·intro done cv k1 a wq hw h hJ hn;have e1:=mO 0 (.pointer (some ⟨g,0,none⟩)) h;exact mx_move (ch_ev e1)
  ·intro done cv k2 a wq hw h hJ hn;have e1:=mO 0 (.pointer (some ⟨g,0,none⟩)) h;exact mx_move (ch_ev e1)
  ·intro done cv k1 a wq hw h hJ hn;have e1:=mN 1 50 h hw;go_simp
  ·intro done cv k2 a wq hw h hJ hn;have e1:=mN 2 51 h hw;go_simp
  ·intro done cv k1 a wq hw h hJ hn;have e1:=mN 3 52 h hw;have hk:=hn 13 _ 1 rfl rfl (by decide);obtain⟨r_,f_,c_⟩:=dhJ_row hk (by omega) RZ.out FZ.out (by simp[worA]) hJ;have h_:=HAN.out;go_simp
  ·intro done cv k2 a wq hw h hJ hn;exact x8x7
  ·intro done cv k1 a wq hw h hJ hn;have e1:=mN 5 54 h hw;exact x7pt
  ·intro done cv k2 a wq hw h hJ hn;exact x8x7
  ·intro done cv k1 a wq hw h hJ hn;have e1:=mN 7 56 h hw;exact x7pt
  ·intro done cv k2 a wq hw h hJ hn;have e1:=mN 8 57 h hw;have h_:=HWR.out;go_simp
  ·intro done cv a wq hw h hJ;have e1:=mN 4 53 h hw;have e55:=mN 6 55 h hw;have e58:=mN 9 58 h hw;obtain rfl:wq=wz.drew:=hJ;refine wp_call (vals:=#[.slice (some ⟨gn,0,none⟩) x.net.length L.cn,iv (i:Int),iv ((i:Int)+1)]) (by rw[List.map_toArray,List.map_cons,List.map_cons,List.map_cons,List.map_nil,ch_ev e1,ch_ev e55,ch_ev e58]) (enters_of Try.func83 (by kernel_rfl) rfl _ _) KD.out ?_;rintro e w' ⟨rfl,hown,hbel,hsz,hkk⟩;exact⟨_,rfl,_,rfl,by rw[HLE.out];simp,hown,hsz,hkk,(Below.refl _ _).drew.trans hbel⟩
  ·intro done cv k1 a wq hw h hJ hn;have e1:=mN 0 49 h hw;go_simp
  ·intro done cv k2 a wq hw h hJ hn;have e1:=mN 11 60 h hw;go_simp
  ·intro done cv a wq hw h hJ;have e1:=mN 12 61 h hw;have e59:=mx_cv (i:=10) (t:=59) h (hw 10 (by decide)) rfl rfl;obtain⟨y1,hown,hsz,hkk,hbel⟩:=hJ;rw[y1]at e59;obtain⟨e1_,e2_⟩:=rowOf_heap (hkk g (by omega));refine wp_ssc e1 e59 (cs:=worA {x with d:=d1} {L with l:=L1}) (e1_.trans RZ.out) (by go_simp) (e2_.trans FZ.out) ⟨undef,rfl,wq,hown,hsz,hkk,hbel,?_⟩;rw[worA_set_net]
 intro cv1 w2 hJ;obtain⟨w4,hown,hsz1,hkk,hbel1,rfl⟩:=hJ;simp only[mixAll,putAll_some,putAll_none,putAll_nil,List.getElem?_cons_zero,List.getElem?_cons_succ,Nat.zero_add,Nat.reduceAdd,List.setIfInBounds_toArray,List.set_cons_zero,List.set_cons_succ];have e1:=rowOf_heap (hkk g (by omega));have hp1:0<(rowOf w4 g).size:=by rw[e1.1,RZ.out];simp[worA]
 have hG1:=HGN.out.del hi hown hkk hsz1;have hE1:=HEA.out.del (i:=i);have hbd1:∀y∈x.net.eraseIdx i,ChkB y:=fun y hy=>HBD.out y (List.mem_of_mem_eraseIdx hy);have HG1:=qH hG1;have HE1:=qH hE1;have HB1:=qH hbd1;have HKK:=qH hkk;have HX1:Hid (Bex g base w w4):=qH ⟨HXZ.out.1.trans (hbel1.mono (Nat.zero_le _)),fun k h1 h2=>(hkk k (by omega)).trans (HXZ.out.2 k h1 h2)⟩;have r1:rowOf (w4.setRow g (worA {x with d:=d1,net:=x.net.eraseIdx i} {L with l:=L1,an:=some ⟨gn,0,none⟩,cn:=L.cn})) g=worA {x with d:=d1,net:=x.net.eraseIdx i} {L with l:=L1,an:=some ⟨gn,0,none⟩,cn:=L.cn}:=by rw[rowOf_setRow _ _ _ _ hp1,if_pos rfl]
 clear hown hbel1 hG1 hE1 hbd1 hkk;go_wp2_with fail;go_ret;refine⟨rfl,fun _=>⟨{L with l:=L1,an:=some ⟨gn,0,none⟩,cn:=L.cn},r1,?_,?_⟩,HX1.out.row (.inl rfl) _,?_⟩
 ·rw[frOf_setRow,e1.2];exact FZ.out
 ·intro v hv;have hb1:∀k,base<=k->k≠g->k<w4.heap.size->v.heap[k]?=w4.heap[k]?:=fun k h1 h11 h2=>(hv k h1 h11 (by simp[World.setRow];omega)).trans (setRow_other _ _ _ _ h11);have hbz:∀k,base<=k->k≠gn->k≠g->k<wz.heap.size->v.heap[k]?=wz.heap[k]?:=fun k h1 h2 h11 h3=>(hb1 k h1 h11 (by omega)).trans (HKK.out k h2);have hgr:=HG1.out.ex (v:=v) (fun k e=>by have e':gn=k:=(by simpa using e);exact hb1 k (by omega) (by omega) (by omega)) (HE1.out.imp fun k hk=>by
   have hk':m<=k∧k<top:=hk;exact hb1 k (by omega) (by omega) (by omega))
  exact⟨HKR.out.1,HKR.out.2,(HDZ.out v hbz).2,(HDZ.out v hbz).1,hgr.row.le,by show (x.net.eraseIdx i).length<=_;rw[HLE.out];omega,hgr.src.chs HB1.out⟩
 simp[World.setRow];omega
theorem x2fr(h:Y:=by
 simp only[n5,n6,if_false];intro ha;obtain⟨g1,g2,g3,g4,g5,g6⟩:=h.box ha;exact⟨g1,g2,Nat.lt_of_lt_of_le g3 hb.size,(frOf_below g3 hb).trans g4,fun e=>(rowOf_below g3 hb).trans (g5 e),fun e=>by rw[h7]at e;cases e⟩):Y:=h
theorem x2hi(h:Y:=by
 simp only[n6,if_false,if_true];refine fun _=>⟨b1,b2,by simp[World.setRow];exact b3,by rw[frOf_setRow];exact b4,fun e=>by simp at e,fun _=>by rw[rowOf_setRow _ _ _ _ (by rw[hr];exact hz),if_pos rfl]⟩):Y:=h
theorem x38b(h:Y:=by
 by_cases e:j=ci
 ·rw[if_pos e,e];exact hv
 rw[if_neg e,hi j hj e]at hd;cases hd):Y:=h
theorem x874(h:Y:=by
 simp only[n6,if_false,if_true];refine fun _=>⟨trivial,hsz,by simp,by rw[frOf_alloc,if_pos rfl],fun _=>by rw[rowOf_alloc,if_pos rfl],fun e=>by rw[hs]at e;cases e⟩):Y:=h
structure CbJ{α:Type}(w0:World)(ci cm e0 e1 al st a1:Nat)(row:α->Array Value)(zr:Array Value)(n:Int)(R:α->Nat->World->Prop)(x:α)(b gb:Nat)(w2:World)(dn:Nat->Bool)(cv:Nat->Value)(w:World):Prop where
 bel:Below w0.heap.size w0 w
 call:dn ci=true->cv ci=.tuple #[.agg (row x),iv n]∧w0.heap.size<=b∧R x b w2∧Kp b w2 w∧w2.heap.size<=w.heap.size
 v1:dn cm=true->cv cm=.tuple #[.agg (row x),iv n]
 v2:dn e0=true->cv e0=.agg (row x)
 v3:dn e1=true->cv e1=iv n
 v4:dn a1=true->cv a1=iv n
 box:dn al=true->cv al=.pointer (some ⟨gb,0,none⟩)∧w0.heap.size<=gb∧gb<w.heap.size∧frOf w gb=(0,0)∧(dn st=false->rowOf w gb=zr)∧(dn st=true->rowOf w gb=row x)
 apart:dn ci=true->dn al=true->gb<b∨w2.heap.size<=gb
def cbJ{α:Type}(w0:World)(ci cm e0 e1 al st a1:Nat)(row:α->Array Value)(zr:Array Value)(n:Int)(R:α->Nat->World->Prop)(dn:Nat->Bool)(cv:Nat->Value)(w:World):Prop:=
 ∃(x:α) (b gb:Nat) (w2:World),CbJ w0 ci cm e0 e1 al st a1 row zr n R x b gb w2 dn cv w
section
variable {α:Type} {w0 w w':World} {ci cm e0 e1 al st a1:Nat} {row:α->Array Value} {zr:Array Value} {n:Int} {R:α->Nat->World->Prop} {dn:Nat->Bool} {cv:Nat->Value}
theorem cbJ_start(x:α):cbJ w0 ci cm e0 e1 al st a1 row zr n R (fun _=>false) (fun _=>undef) w0.drew:=
 ⟨x,0,0,w0,(Below.refl _ _).drew,by simp,by simp,by simp,by simp,by simp,by simp,by simp⟩
theorem cbJ_bel(h:cbJ w0 ci cm e0 e1 al st a1 row zr n R dn cv w):Below w0.heap.size w0 w:=by
 obtain⟨_,_,_,_,h⟩:=h;exact h.bel
theorem cbJ_c(h2:dn cm=false)(h3:dn e0=false)(h4:dn e1=false)(h5:dn a1=false)(h7:dn st=false)(n1:cm≠ci)(n2:e0≠ci)(n3:e1≠ci)(n4:a1≠ci)(n5:al≠ci)(n6:st≠ci)(h:cbJ w0 ci cm e0 e1 al st a1 row zr n R dn cv w){x:α}(hp:R x w.heap.size w')(hb:Below w.heap.size w w'):
  cbJ w0 ci cm e0 e1 al st a1 row zr n R (fun j=>if j=ci then true else dn j) (fun j=>if j=ci then .tuple #[.agg (row x),iv n] else cv j) w':=by
 obtain⟨x1,b1,gb,w1,h⟩:=h;have hs:=h.bel.size;refine⟨x,w.heap.size,gb,w',h.bel.trans (hb.mono hs),fun _=>⟨by simp,hs,hp,Kp.refl _ _,nl⟩,by simp[n1,h2],by simp[n2,h3],by simp[n3,h4],by simp[n4,h5],?_,?_⟩
 ·exact x2fr
 simp only[n5,if_false];exact fun _ ha=>.inl (h.box ha).2.2.1
theorem cbJ_k{k:Nat}{v:Value}(hne:ci≠k)(hal:al≠k)(hst:st≠k)(h:cbJ w0 ci cm e0 e1 al st a1 row zr n R dn cv w)
  (hv:∀x,(dn ci=true->cv ci=.tuple #[.agg (row x),iv n])->(dn cm=true->cv cm=.tuple #[.agg (row x),iv n])->(dn e0=true->cv e0=.agg (row x))->(dn e1=true->cv e1=iv n)->(cm=k->v=.tuple #[.agg (row x),iv n])∧(e0=k->v=.agg (row x))∧(e1=k->v=iv n)∧(a1=k->v=iv n)):
  cbJ w0 ci cm e0 e1 al st a1 row zr n R (fun j=>if j=k then true else dn j) (fun j=>if j=k then v else cv j) w:=by
 obtain⟨x,b,gb,w1,h⟩:=h;obtain⟨v1,v2,v3,v4⟩:=hv x (fun e=>(h.call e).1) h.v1 h.v2 h.v3;have key:∀(q:Nat) (y:Value),(dn q=true->cv q=y)->(q=k->v=y)->((if q=k then true else dn q)=true->(if q=k then v else cv q)=y):=by
  intro q y h1 h2 h3;by_cases e:q=k
  ·rw[if_pos e];exact h2 e
  rw[if_neg e]at h3⊢;exact h1 h3
 refine⟨x,b,gb,w1,h.bel,by simp only[hne,if_false];exact h.call,key _ _ h.v1 v1,key _ _ h.v2 v2,key _ _ h.v3 v3,key _ _ h.v4 v4,by simp only[hal,hst,if_false];exact h.box,by simp only[hne,hal,if_false];exact h.apart⟩
theorem cbJ_a{ty:TypeId}(hz:0<zr.size)(hal:dn al=false)(hs:dn st=false)(n1:cm≠al)(n2:e0≠al)(n3:e1≠al)(n4:a1≠al)(n5:ci≠al)(n6:st≠al)(h:cbJ w0 ci cm e0 e1 al st a1 row zr n R dn cv w):
  cbJ w0 ci cm e0 e1 al st a1 row zr n R (fun j=>if j=al then true else dn j) (fun j=>if j=al then .pointer (some ⟨w.heap.size,0,none⟩)else cv j) (w.alloc (.cells zr ty)):=by
 obtain⟨x,b,gb,w1,h⟩:=h;have hsz:=h.bel.size;refine⟨x,b,w.heap.size,w1,h.bel.alloc hsz _,?_,by simpa[n1]using h.v1,by simpa[n2]using h.v2,by simpa[n3]using h.v3,by simpa[n4]using h.v4,?_,?_⟩
 ·simp only[n5,if_false];intro e;obtain⟨g1,g2,g3,g4,g5⟩:=h.call e;exact⟨g1,g2,g3,g4.alloc g5 _,by simp;omega⟩
 ·exact x874
 simp only[n5,if_false];intro e _;exact .inr (h.call e).2.2.2.2
theorem cbJ_s(hz:0<zr.size)(hd:dn ci=true)(hs:dn st=false)(hal:dn al=true)(he0:dn e0=true)(n1:cm≠st)(n2:e0≠st)(n3:e1≠st)(n4:a1≠st)(n5:ci≠st)(n6:al≠st)(h:cbJ w0 ci cm e0 e1 al st a1 row zr n R dn cv w){v:Value}:
  ∃(x:α) (gb:Nat),cv al=.pointer (some ⟨gb,0,none⟩)∧cv e0=.agg (row x)∧rowOf w gb=zr∧frOf w gb=(0,0)∧cbJ w0 ci cm e0 e1 al st a1 row zr n R (fun j=>if j=st then true else dn j) (fun j=>if j=st then v else cv j) (w.setRow gb (row x)):=by
 obtain⟨x,b,gb,w1,h⟩:=h;obtain⟨b1,b2,b3,b4,b5,b6⟩:=h.box hal;have hr:=b5 hs;refine⟨x,gb,b1,h.v2 he0,hr,b4,x,b,gb,w1,below_row h.bel b2 _,?_,by simpa[n1]using h.v1,by simpa[n2]using h.v2,by simpa[n3]using h.v3,by simpa[n4]using h.v4,?_,?_⟩
 ·simp only[n5,if_false];intro e;obtain⟨g1,g2,g3,g4,g5⟩:=h.call e;exact⟨g1,g2,g3,g4.row (h.apart e hal) _,by simp[World.setRow];exact g5⟩
 ·exact x2hi
 simp only[n5,n6,if_false];exact h.apart
theorem cbJ_end(h1:dn ci=true)(h2:dn cm=true)(h3:dn e0=true)(h4:dn e1=true)(h5:dn a1=true)(h6:dn al=true)(h7:dn st=true)(h:cbJ w0 ci cm e0 e1 al st a1 row zr n R dn cv w):
  ∃(x:α) (b gb:Nat) (w2:World),cv ci=.tuple #[.agg (row x),iv n]∧cv cm=.tuple #[.agg (row x),iv n]∧cv e0=.agg (row x)∧cv e1=iv n∧cv a1=iv n∧cv al=.pointer (some ⟨gb,0,none⟩)∧
   rowOf w gb=row x∧frOf w gb=(0,0)∧w0.heap.size<=gb∧gb<w.heap.size∧Below w0.heap.size w0 w∧w0.heap.size<=b∧R x b w2∧Kp b w2 w∧w2.heap.size<=w.heap.size∧(gb<b∨w2.heap.size<=gb):=by
 obtain⟨x,b,gb,w1,h⟩:=h;obtain⟨g1,g2,g3,g4,g5⟩:=h.call h1;obtain⟨b1,b2,b3,b4,b5,b6⟩:=h.box h6;exact⟨x,b,gb,w1,g1,h.v1 h2,h.v2 h3,h.v3 h4,h.v4 h5,b1,b6 h7,b4,b2,b3,h.bel,g2,g3,g4,g5,h.apart h1 h6⟩
end
theorem wp_alloc{P:Program}{a:Act}{K:Act->World->Prop}{Q:Exit->Act->World->Prop}{ty t:TypeId}{p:String}{af:Array Edge}{gd:Option (Nat×Bool)}{d:Tmp}{zr:Array Value}(he:∀ev:Operand->Value,(execOp ev ⟨some d,.alloc ty,t,p,af,gd⟩).run P w=.ok (.value (.pointer (some ⟨w.heap.size,0,none⟩))) (w.alloc (.cells zr ty)))
  (h:K (a.put (some d) (.pointer (some ⟨w.heap.size,0,none⟩))) (w.alloc (.cells zr ty))):Oper.wp P ⟨some d,.alloc ty,t,p,af,gd⟩ a w K Q:=by
 unfold Oper.wp;rw[he];exact h
theorem GRow.append{w':World}{base:Nat}{t:List Chk}{es:List (Option Addr×Nat)}{A B A':OA}{c e c' b2:Nat}(h:GRow kChk w base l ds A c)(g:GRow kChk w b2 t es B e)(hab:Each kChk t es (fun k=>A.map (·.block)≠some k))
  (h1:Own w' base 49 5 A' (l.length+t.length) c' (kChk.cells l ds++kChk.cells t es)) (hg:w.grownBy w' (A.map (·.block))) (hb:Below base w w') (hor:A'.map (·.block)=A.map (·.block)∨A'.map (·.block)=some w.heap.size):GRow kChk w' base (l++t) (ds++es) A' c':=by
 have hl:=h.len;have ht:=g.len;refine h.remake (by simp;omega) ?_ hb (fun k hk hn=>hg.block k hk (fun e=>hn e.symm)) ?_ fun i o d hi hd=>?_
 ·rw[cells_append _ _ _ _ hl,List.length_append];exact h1
 ·rcases hor with h|h
  ·exact .inl h
  ·exact x55s
 by_cases hil:i<l.length
 ·rw[List.getElem?_append_left hil]at hi;rw[List.getElem?_append_left (by omega)]at hd;exact .inl ⟨i,hi,hd⟩
 rw[List.getElem?_append_right (by omega)]at hi;rw[List.getElem?_append_right (by omega),show i-ds.length=i-l.length by omega]at hd;have h1:=g.data _ o d hi hd;exact .inr ⟨h1.1,h1.2,fun hx k hk=>hab _ o d hi hd hx k hk⟩
theorem Each.append{t:List Chk}{es:List (Option Addr×Nat)}{P:Nat->Prop}(h:Each kChk l ds P)(g:Each kChk t es P)(hl:ds.length=l.length):Each kChk (l++t) (ds++es) P:=fun i o d hi hd hx k hk=>by
 by_cases hil:i<l.length
 ·rw[List.getElem?_append_left hil]at hi;rw[List.getElem?_append_left (by omega)]at hd;exact h _ o d hi hd hx k hk
 rw[List.getElem?_append_right (by omega)]at hi;rw[List.getElem?_append_right (by omega),show i-ds.length=i-l.length by omega]at hd;exact g _ o d hi hd hx k hk
theorem send_calls(g base m top:Nat)(ds:List (Option Addr×Nat))(t:Int)(x:Wor)(L:WLoc)(w:World)(hr:rowOf w g=worA x L)(hf:frOf w g=(0,0))(hg:g<base∨top<=g)(h:WorAt w base m top ds x L)(hok:WorOk x)(hit:I64 t):Calls Try.prog 154 #[.pointer (some ⟨g,0,none⟩),iv t] w (HaRet w g base (worSend x t).1 (worSend x t).2):=by
 have hlt:g<w.heap.size:=row_lt (w:=w) (by rw[hr];simp[worA]);have hm3:=h.h3;have hm2:=h.h2;have hm1:=h.h1;have hrec:=rec_ok hok.dev;have HREC:=qH hrec;have hact:=rec_active hrec;have HIT:=qH hit;have HW:=qH h;have K1:=qH (fun w=>read_ok x.d.c0 x.d.c1 w hok.dev.cops);obtain⟨rk,hrk⟩:=eX ((recRead x.d.c0 x.d.c1).2);have hre:(recRead x.d.c0 x.d.c1).1=x.d.rec_:=rfl;rw[hrk,hre]at K1;have hdef:worSend x t=if t<1∨(x.rel.length:Int)<t∨(x.rel.length:Int)<x.d.good then (Wor.zero,4)
  else if (patMake (sumOn 1) x.d.good t (relAt x.rel x.d.good) (relAt x.rel t)).2≠0 then (Wor.zero,(patMake (sumOn 1) x.d.good t (relAt x.rel x.d.good) (relAt x.rel t)).2)
  else if (chkCut (patMake (sumOn 1) x.d.good t (relAt x.rel x.d.good) (relAt x.rel t)).1).2≠0 then (Wor.zero,(chkCut (patMake (sumOn 1) x.d.good t (relAt x.rel x.d.good) (relAt x.rel t)).1).2)
  else if 120<x.net.length+(chkCut (patMake (sumOn 1) x.d.good t (relAt x.rel x.d.good) (relAt x.rel t)).1).1.length then (Wor.zero,1)
  else ({x with net:=x.net++(chkCut (patMake (sumOn 1) x.d.good t (relAt x.rel x.d.good) (relAt x.rel t)).1).1},0):=rfl
 have HD:=qH hdef;generalize worSend x t=res at *
 obtain⟨a0r,a0f,a0n,a0c,a0z,a0l⟩:=keep1 (bW w) hr (by go_simp) hf;clear hdef hrec hrk hre hr hf h hit;go_enter Try.func154,Try.ntmps154;go_wp2_with fail;refine(K1.out _).mono ?_;rintro e w1 ⟨rfl,hb⟩;obtain⟨a0r,a0f,a0n,a0c,a0z,a0l⟩:=keep1 (g:=g) (cs:=worA x L) hb a0r (by go_simp) a0f;have hs1:=hb.size;have HX1:Hid (Bex g base w w1):=qH ((Bex.refl g base w).below hb (by omega) (by omega));have HW1:Hid (WorAt w1 base m top ds x L):=qH (HW.out.same (fun k a b=>hb.block k (by omega)) (by omega));clear hb HW;rcases hact with hk|hk
 first|case' inl=>have T2:Hid True:=qH trivial|case' pos=>have T2:Hid True:=qH trivial|case' refine_1=>have T2:Hid True:=qH trivial
 iterate 2
  ·first
    |
     revert T2;intro T2;have hgood:x.d.good=x.d.rec_.a.ver:=by unfold Dev.good;rw[hk,at_0]
    |have hgood:x.d.good=x.d.rec_.b.ver:=by unfold Dev.good;rw[hk,at_1]
   have HGD:=qH hgood
   first
    |
     revert T2;intro T2;obtain⟨fv,hfv⟩:=eX (x.d.rec_.a.ver)
    |obtain⟨fv,hfv⟩:∃fv,x.d.rec_.b.ver=fv:=⟨_,rfl⟩
   have hfv1:1<=fv∧fv<=30:=by
    have hp:=recCheck_parts HREC.out
    first
     |
      revert T2;intro T2;have hi:=hp.2.1
     |have hi:=hp.2.2.1
    have hv:=hp.2.2.2.1
    first
     |
      revert T2;intro T2;rw[hk,at_0]at hv
     |rw[hk,at_1]at hv
    unfold infCheck at hi
    first
     |
      revert T2;intro T2;by_cases hh:InfRange x.d.rec_.a
     |by_cases hh:InfRange x.d.rec_.b
    ·unfold InfRange at hh;omega
    rw[if_neg hh]at hi;exact absurd hi (by decide)
   rw[hgood,hfv]at HD;have HFV:=qH hfv;have hfv1':=hfv1;clear hgood;by_cases c1:t<1∨(x.rel.length:Int)<t∨(x.rel.length:Int)<fv
   ·have hz:res=(Wor.zero,4):=HD.out.trans (if_pos c1);subst hz;have hsx:w.heap.size<=(w1.alloc (.cells (recA x.d.rec_) 66)).heap.size:=by simp;omega
    by_cases d1:t<1
    ·clear c1;go_wp2_with fail;go_ret;exact⟨rfl,fun e=>absurd e (by decide),HX1.out.alloc (by omega) (by omega) _,hsx⟩
    by_cases d2:(x.rel.length:Int)<t
    ·clear c1;go_wp2_with fail;go_ret;exact⟨rfl,fun e=>absurd e (by decide),HX1.out.alloc (by omega) (by omega) _,hsx⟩
    have d3:(x.rel.length:Int)<fv:=(c1.resolve_left d1).resolve_left d2;clear c1;go_wp2_with fail;go_ret;exact⟨rfl,fun e=>absurd e (by decide),HX1.out.alloc (by omega) (by omega) _,hsx⟩
   have HD2:=qH (HD.out.trans (if_neg c1));have d1:¬t<1:=fun e=>c1 (.inl e);have d2:¬(x.rel.length:Int)<t:=fun e=>c1 (.inr (.inl e));have d3:¬(x.rel.length:Int)<fv:=fun e=>c1 (.inr (.inr e));clear c1 HD;obtain⟨fi,hfi⟩:∃fi:Nat,fv=(fi:Int)+1:=⟨(fv-1).toNat,by omega⟩;obtain⟨ti,hti⟩:∃ti:Nat,t=(ti:Int)+1:=⟨(t-1).toNat,by omega⟩;have hfl:fi<x.rel.length:=by omega
   have htl:ti<x.rel.length:=by omega
   have hr1:relAt x.rel fv=x.rel[fi]:=by unfold relAt;rw[show (fv-1).toNat=fi by omega];simp[hfl]
   have hr2:relAt x.rel t=x.rel[ti]:=by unfold relAt;rw[show (t-1).toNat=ti by omega];simp[htl]
   rw[hr1,hr2]at HD2;have HFI:=qH hfi;have HTI:=qH hti;clear hfi hti hr1 hr2;go_wp2_with fail;clear hk hfv;obtain⟨w3,hw3⟩:=eX (w1.alloc (.cells (recA x.d.rec_) 66));have z1:rowOf w3 g=worA x L:=by rw[<-hw3,rowOf_alloc,if_neg (by omega)];exact a0r
   have z2:frOf w3 g=(0,0):=by rw[<-hw3,frOf_alloc,if_neg (by omega)];exact a0f
   have hsz3:w3.heap.size=w1.heap.size+1:=by rw[<-hw3];simp
   have HX3:Hid (Bex g base w w3):=qH (by rw[<-hw3];exact HX1.out.alloc (by omega) (by omega) _);have HW3:Hid (WorAt w3 base m top ds x L):=qH (HW1.out.same (fun k a b=>by rw[<-hw3];exact Below.heap_alloc w1 _ k (by omega)) (by omega));try rw[hw3]
   have RW3:=qH z1;have FW3:=qH z2;obtain⟨br,orr,hAr,hbr,cs1,hcl1,hcc1,B1,e1,rfl,hd1,hd2,hd3⟩:=HW3.out.rel.now fi hfl;obtain⟨br2,orr2,hAr2,hbr2,cs2,hcl2,hcc2,B2,e2,rfl,hd4,hd5,hd6⟩:=HW3.out.rel.now ti htl;rw[hAr]at hAr2;injection hAr2 with hAr2;injection hAr2 with q1 q2;subst q1 q2;obtain⟨b1,hb1⟩:=eX (x.rel[fi]);obtain⟨b2,hb2⟩:=eX (x.rel[ti]);rw[hb1]at hcc1 hd1 hd3 HD2;rw[hb2]at hcc2 hd4 hd6 HD2;have HC1:Hid (w3.cell? ⟨br,orr+fi,none⟩=some (.slice B1 b1.length e1)):=qH (by have:=hcc1 0 (by simp);simpa using this);have HC2:Hid (w3.cell? ⟨br,orr+ti,none⟩=some (.slice B2 b2.length e2)):=qH (by have:=hcc2 0 (by simp);simpa using this);have HLB:Hid (b1.length<=64∧b2.length<=64):=qH (by
    have hre:=(relCheck_ok.1 hok.rel).2.2;exact⟨by rw[<-hb1];exact hre _ (List.getElem_mem hfl),by rw[<-hb2];exact hre _ (List.getElem_mem htl)⟩)
   have HB1:Hid (Bts w3 B1 b1):=qH hd3;have HB2:Hid (Bts w3 B2 b2):=qH hd6;have HAR:=qH hAr;have HBR:=qH hbr;obtain⟨⟨p,en⟩,hpm⟩:∃z,patMake (sumOn 1) fv t b1 b2=z:=⟨_,rfl⟩;rw[hpm]at HD2;have KM:Hid (∀wq,Below w3.heap.size w3 wq->Calls Try.prog 24 #[iv fv,iv t,.slice B1 b1.length e1,.slice B2 b2.length e2] wq (PaRet wq p en)):=qH (fun wq hq=>by
    have h9:=patMake_fit B1 B2 e1 e2 fv t b1 b2 wq ⟨by omega,by omega⟩ HIT.out HLB.out.1 HLB.out.2 (HB1.out.stays hq) (HB2.out.stays hq);rw[hpm]at h9;exact h9)
   have hkr:=HW3.out.kr;have hr30:=(relCheck_ok.1 hok.rel).2.1;have HW1':Hid (IntKind.i64.wrap (fv-1)=(fi:Int)):=qH (by rw[HFI.out,show (fi:Int)+1-1=(fi:Int) by omega];exact IntWalk.i64_in _ (by omega));have HW2':Hid (IntKind.i64.wrap (t-1)=(ti:Int)):=qH (by rw[HTI.out,show (ti:Int)+1-1=(ti:Int) by omega];exact IntWalk.i64_in _ (by omega));clear hcc1 hcc2 hd1 hd2 hd3 hd4 hd5 hd6 hcl1 hcl2 hAr hbr hbr2 hb1 hb2 hpm hw3 z1 z2 a0r a0f a0n a0c a0z a0l;refine wp_region_free (by kernel_rfl) (some 51::some 52::some 53::some 54::some 55::some 56::some 57::some 58::some 59::some 60::some 61::some 62::some 63::some 64::some 65::some 66::some 67::some 68::some 69::some 50::some 70::some 71::some 9::none::some 7::[]) (false::false::false::false::false::false::false::false::false::false::false::false::false::false::false::false::false::false::true::true::true::true::true::true::true::[]) (iv fv::iv t::.pointer (some ⟨g,0,none⟩)::.pointer (some ⟨g,0,none⟩)::.pointer (some ⟨g,0,none⟩)::.slice L.ar x.rel.length L.cr::iv fv::iv (fi:Int)::.pointer (some ⟨br,orr+fi,none⟩)::.slice B1 b1.length e1::.pointer (some ⟨g,0,none⟩)::.pointer (some ⟨g,0,none⟩)::.pointer (some ⟨g,0,none⟩)::.slice L.ar x.rel.length L.cr::iv t::iv (ti:Int)::.pointer (some ⟨br,orr+ti,none⟩)::.slice B2 b2.length e2::undef::undef::undef::undef::undef::undef::undef::[]) (cbJ w3 18 19 20 21 22 23 24 (fun q:Option Addr×Nat=>patA p.from_ p.to_ p.old p.new_ p.size q.1 p.ops.length q.2) (patA 0 0 0 0 0 none 0 0) en (fun q b v=>Fresh b v (fun u=>PatIn u p q.1 q.2))) 101 rfl rfl (by decide+kernel) (by decide+kernel) (by decide+kernel) rfl rfl (cbJ_start ((none,0):Option Addr×Nat)) ?_ ?_
   ·refine⟨?_,?_,?_,?_,?_,?_,?_,?_,?_,?_,?_,?_,?_,?_,?_,?_,?_,?_,?_,?_,?_,?_,?_,?_,?_,trivial⟩;all_goals intro done cv a wq hn hw hcl h hJ
    ·have e8:=fO 8 (iv fv) h;exact mx_move (ch_ev e8)
    ·have e1:=fO 1 (iv t) h;exact mx_move (ch_ev e1)
    ·have e0:=fO 0 (.pointer (some ⟨g,0,none⟩)) h;exact mx_move (ch_ev e0)
    ·have e53:=fN 2 53 h hw;go_simp
    ·have e54:=fN 3 54 h hw;go_simp
    ·have e55:=fN 4 55 h hw;obtain⟨r_,f_,n_,c_,z_,l_⟩:=kq (cbJ_bel hJ) RW3 FW3;go_simp
    ·have e8:=fO 8 (iv fv) h;exact mx_move (ch_ev e8)
    ·have e57:=fN 6 57 h hw;have h_:=HW1'.out;go_simp
    ·have e56:=fN 5 56 h hw;have e58:=fN 7 58 h hw;have h_:=HAR.out;have h2_:(fi:Int)<(x.rel.length:Int):=by omega
     have h3_:(x.rel.length:Int)<=(L.cr:Int):=by omega
     go_simp
    ·have e59:=fN 8 59 h hw;have hq_:=((cbJ_bel hJ).cell (p:=⟨br,orr+fi,none⟩) HBR.out).trans HC1.out;go_simp
    ·have e0:=fO 0 (.pointer (some ⟨g,0,none⟩)) h;exact mx_move (ch_ev e0)
    ·have e61:=fN 10 61 h hw;go_simp
    ·have e62:=fN 11 62 h hw;go_simp
    ·have e63:=fN 12 63 h hw;obtain⟨r_,f_,n_,c_,z_,l_⟩:=kq (cbJ_bel hJ) RW3 FW3;go_simp
    ·have e1:=fO 1 (iv t) h;exact mx_move (ch_ev e1)
    ·have e65:=fN 14 65 h hw;have h_:=HW2'.out;go_simp
    ·have e64:=fN 13 64 h hw;have e66:=fN 15 66 h hw;have h_:=HAR.out;have h2_:(ti:Int)<(x.rel.length:Int):=by omega
     have h3_:(x.rel.length:Int)<=(L.cr:Int):=by omega
     go_simp
    ·have e67:=fN 16 67 h hw;have hq_:=((cbJ_bel hJ).cell (p:=⟨br,orr+ti,none⟩) HBR.out).trans HC2.out;go_simp
    ·have e51:=fN 0 51 h hw;have e52:=fN 1 52 h hw;have e60:=fN 9 60 h hw;have e68:=fN 17 68 h hw;have n18:=hn;have n19:=nW 19 18 hcl n18;have n20:=nW 20 19 hcl n19;have n21:=nW 21 19 hcl n19;have n24:=nW 24 21 hcl n21;have n23:=nW 23 20 hcl n20;have hbq:=cbJ_bel hJ;refine wp_call (vals:=#[iv fv,iv t,.slice B1 b1.length e1,.slice B2 b2.length e2]) (by rw[List.map_toArray,List.map_cons,List.map_cons,List.map_cons,List.map_cons,List.map_nil,ch_ev e51,ch_ev e52,ch_ev e60,ch_ev e68]) (enters_of Try.func24 (by kernel_rfl) rfl _ _) (KM.out _ hbq) ?_;rintro e w' ⟨A3,c3,rfl,hfr,hbel⟩;exact⟨_,rfl,_,rfl,cbJ_c (by simp[maskB,n19]) (by simp[maskB,n20]) (by simp[maskB,n21]) (by simp[maskB,n24]) (by simp[maskB,n23]) (by decide) (by decide) (by decide) (by decide) (by decide) (by decide) hJ (x:=(A3,c3)) hfr hbel⟩
    ·have e69:=fr_cv (i:=18) (t:=69) h (hw 18 (by decide)) rfl rfl;have m18:=hw 18 (by decide);refine wp_val (v:=cv 18) (mx_move (ch_ev e69)) ⟨_,rfl,cbJ_k (by decide) (by decide) (by decide) hJ (fun x q _ _ _=>⟨fun _=>q (by simp[maskB,m18]),fun h=>absurd h (by decide),fun h=>absurd h (by decide),fun h=>absurd h (by decide)⟩)⟩
    ·have e50:=fr_cv (i:=19) (t:=50) h (hw 19 (by decide)) rfl rfl;have m19:=hw 19 (by decide);obtain⟨x,b_,gb_,w2_,hj_⟩:=hJ;have y:=hj_.v1 (by simp[maskB,m19]);rw[y]at e50;refine wp_val (v:=.agg ((fun q:Option Addr×Nat=>patA p.from_ p.to_ p.old p.new_ p.size q.1 p.ops.length q.2) x)) (by go_simp) ⟨_,rfl,cbJ_k (by decide) (by decide) (by decide) ⟨x,b_,gb_,w2_,hj_⟩ (fun x3 _ h8 _ _=>⟨fun h=>absurd h (by decide),fun _=>by have q9:=h8 (by simp[maskB,m19]);rw[y]at q9;simp at q9⊢;first|exact q9|exact q9.symm|trivial,fun h=>absurd h (by decide),fun h=>absurd h (by decide)⟩)⟩
    ·have e50:=fr_cv (i:=19) (t:=50) h (hw 19 (by decide)) rfl rfl;have m19:=hw 19 (by decide);obtain⟨x,b_,gb_,w2_,hj_⟩:=hJ;have y:=hj_.v1 (by simp[maskB,m19]);rw[y]at e50;refine wp_val (v:=iv en) (by go_simp) ⟨_,rfl,cbJ_k (by decide) (by decide) (by decide) ⟨x,b_,gb_,w2_,hj_⟩ (fun x3 _ h8 _ _=>⟨fun h=>absurd h (by decide),fun h=>absurd h (by decide),fun _=>rfl,fun h=>absurd h (by decide)⟩)⟩
    ·have n22:=hn;have n23:=nW 23 22 hcl n22;refine wp_alloc (zr:=patA 0 0 0 0 0 none 0 0) (fun ev=>by go_simp) ⟨_,rfl,cbJ_a (by go_simp) (by simp[maskB,n22]) (by simp[maskB,n23]) (by decide) (by decide) (by decide) (by decide) (by decide) (by decide) hJ⟩
    ·have e9:=fr_cv (i:=22) (t:=9) h (hw 22 (by decide)) rfl rfl;have e70:=fr_cv (i:=20) (t:=70) h (hw 20 (by decide)) rfl rfl;have n23:=hn;have m22:=hw 22 (by decide);have m20:=hw 20 (by decide);have m19:=hcl 20 _ rfl m20 19 (by decide);have m18:=hcl 19 _ rfl m19 18 (by decide);obtain⟨x,gb_,y1,y2,r_,f_,hJ2⟩:=cbJ_s (v:=undef) (by go_simp) (by simp[maskB,m18]) (by simp[maskB,n23]) (by simp[maskB,m22]) (by simp[maskB,m20]) (by decide) (by decide) (by decide) (by decide) (by decide) (by decide) hJ;rw[y1]at e9;rw[y2]at e70;refine wp_srow e9 e70 (by go_simp) (by go_simp) r_ (by go_simp) f_ (by go_simp) ⟨undef,rfl,?_⟩;rw[splice_all _ _ (by go_simp)];exact hJ2
    ·have e71:=fr_cv (i:=21) (t:=71) h (hw 21 (by decide)) rfl rfl;have m21:=hw 21 (by decide);obtain⟨x,b_,gb_,w2_,hj_⟩:=hJ;have y:=hj_.v3 (by simp[maskB,m21]);rw[y]at e71;refine wp_asg (v:=iv en) (ch_ev e71) ⟨_,rfl,cbJ_k (by decide) (by decide) (by decide) ⟨x,b_,gb_,w2_,hj_⟩ (fun x3 _ _ _ _=>⟨fun h=>absurd h (by decide),fun h=>absurd h (by decide),fun h=>absurd h (by decide),fun _=>rfl⟩)⟩
   intro dn cv w5 hall hJ;obtain⟨⟨A3,c3⟩,b5,gb,w4,y18,g4,g5,g6,g7,g8,rb,fb,hgb1,hgb2,hbel,hb5,hfr,hkp,hsz4,hap⟩:=cbJ_end (hall 18 rfl (by decide)) (hall 19 rfl (by decide)) (hall 20 rfl (by decide)) (hall 21 rfl (by decide)) (hall 24 rfl (by decide)) (hall 22 rfl (by decide)) (hall 23 rfl (by decide)) hJ;simp only[freeAll,putAll_some,putAll_none,putAll_nil,List.getD_cons_zero,List.getD_cons_succ,Bool.false_eq_true,if_true,if_false,reduceIte,Nat.zero_add,Nat.reduceAdd,List.setIfInBounds_toArray,List.set_cons_zero,List.set_cons_succ];rw[y18,g4,g5,g6,g7,g8];dsimp only at rb hfr;have hs4:=hbel.size;obtain⟨a0r,a0f,a0n,a0c,a0z,a0l⟩:=keep1 hbel RW3.out (by go_simp) FW3.out;have HX5:=qH (HX3.out.below hbel (by omega) (by omega));have HW5:Hid (WorAt w5 base m top ds x L):=qH (HW3.out.same (fun k a b=>hbel.block k (by omega)) (by omega));have HP5:Hid (PatIn w5 p A3 c3):=qH (Fresh.kp hfr hkp nl hsz4).now;have HRB:=qH rb;have HFB:=qH fb;clear hJ hall y18 g4 g5 g6 g7 g8 hfr hbel KM RW3 FW3 hkp hap rb fb;by_cases c2:en≠0
   ·have hz:res=(Wor.zero,en):=HD2.out.trans (if_pos c2);subst hz;have q:(en !=0)=true:=by simp[c2]
    have HC:=qH c2;clear c2;go_wp2_with fail;go_ret;exact⟨rfl,fun e=>absurd e HC.out,HX5.out,by omega⟩
   have c2:=Decidable.not_not.1 c2;subst c2;have HD3:=qH (HD2.out.trans (if_neg (by simp)));clear HD2;dsimp only at HD3;obtain⟨⟨l,e3⟩,hct⟩:∃z,chkCut p=z:=⟨_,rfl⟩;rw[hct]at HD3;have KC:=qH (chkCut_calls A3 c3 p w5 HP5.out);rw[hct]at KC;have HBL:Hid (∀y∈l,ChkB y):=qH (fun y hy=>by
    have h9:l=(chkCut p).1:=by rw[hct]
    rw[h9]at hy;exact cut_bound hy)
   have q0:((0:Int) !=0)=false:=rfl;have r0:=HRB.out;have r1:=HFB.out;clear hct;go_wp2_with fail;refine KC.out.mono ?_;rintro e w6 ⟨A4,c4,ds4,rfl,hrow,heach,hb⟩;obtain⟨a0r,a0f,a0n,a0c,a0z,a0l⟩:=keep1 (g:=g) (cs:=worA x L) hb a0r (by go_simp) a0f;have hs6:=hb.size;have HX6:=qH (HX5.out.below hb (by omega) (by omega));have HW6:Hid (WorAt w6 base m top ds x L):=qH (HW5.out.same (fun k a b=>hb.block k (by omega)) (by omega));have HR4:=qH hrow;have HE4:=qH heach;clear hb hrow heach KC r0 r1;by_cases k3:e3≠0
   ·have hz:res=(Wor.zero,e3):=HD3.out.trans (if_pos k3);subst hz;have q:(e3 !=0)=true:=by simp[k3]
    have HC:=qH k3;clear k3;go_wp2_with fail;go_ret;exact⟨rfl,fun e=>absurd e HC.out,HX6.out,by omega⟩
   have k3:=Decidable.not_not.1 k3;subst k3;have HD4:=qH (HD3.out.trans (if_neg (by simp)));clear HD3;have hnl:=HW6.out.ln;have hwr:IntKind.i64.wrap (120-(x.net.length:Int))=120-(x.net.length:Int):=IntWalk.i64_in _ (by omega);by_cases k4:120<x.net.length+l.length
   ·have hz:res=(Wor.zero,1):=HD4.out.trans (if_pos k4);subst hz;have q:120-(x.net.length:Int)<(l.length:Int):=by omega
    have q':120<(l.length:Int)+(x.net.length:Int):=by omega
    go_wp2_with fail;go_ret;exact⟨rfl,fun e=>absurd e (by decide),HX6.out,by omega⟩
   have hz:res=({x with net:=x.net++l},0):=HD4.out.trans (if_neg k4);subst hz;have q:¬120-(x.net.length:Int)<(l.length:Int):=by omega
   have hown:=HW6.out.net.row;have hsrc:=HR4.out.row.src;have hcl4:(kChk.cells l ds4).length=l.length*5:=cells_len _ _ HR4.out.len;have hone:=cells_oneCell (K:=kChk) l ds4;have hm6:m<=w6.heap.size:=by omega
   have hlim:x.net.length+l.length<=137438953472:=by omega
   have hgA:some g≠L.an.map (·.block):=fun e=>by
    have e1:=HW6.out.blk g e.symm;have e2:=(HW6.out.net.row.block g e.symm).1;omega
   go_wp2_with (at_builtin;go_must (refine wpList_app w6 rfl _ _ 43 rfl elChunks m L.an x.net.length L.cn (kChk.cells x.net ds) rfl hown A4 l.length c4 (kChk.cells l ds4) rfl hsrc hcl4 hone hlim hm6 ?_;intro A' c' w7 hown7 hg7 hb7 hor7;have b7r:rowOf w7 g=worA x L:=(rowOf_heap (hg7.block g a0l (fun e=>hgA e))).1.trans a0r;have b7f:frOf w7 g=(0,0):=(rowOf_heap (hg7.block g a0l (fun e=>hgA e))).2.trans a0f;have b7c:∀j,w7.cell? ⟨g,j,none⟩=(worA x L)[j]?:=(fun j=>by rw[cell_row (by rw[b7r];simp[worA]),b7r]);have b7z:∀j,w7.frozen? ⟨g,j,none⟩=false:=(fun j=>frozen_row (by rw[b7r];simp[worA]) b7f j)));have hG7:GRow kChk w7 m (x.net++l) (ds++ds4) A' c':=HW6.out.net.append HR4.out (fun i o d h1 h2 hx k hk e=>by
    have h9:=HE4.out i o d h1 h2 hx k hk;have h8:=HW6.out.blk k e;omega) hown7 hg7 hb7 hor7
   have hE7:Each kChk (x.net++l) (ds++ds4) (fun k=>m<=k∧k≠g∧k<w6.heap.size):=(HW6.out.each.imp fun k hk=>by
    have hk':m<=k∧k<top:=hk;omega).append (fun i o d h1 h2 hx k hk=>by
    have h9:w5.heap.size<=k:=HE4.out i o d h1 h2 hx k hk;have h8:=HR4.out.src.each i o d h1 h2 hx k hk;omega) HW6.out.net.len
   have hblk7:∀k,A'.map (·.block)=some k->m<=k∧k≠g:=fun k e=>by
    rcases hor7 with h9|h9
    ·rw[h9]at e;have e1:=HW6.out.blk k e;have e2:=(HW6.out.net.row.block k e).1;omega
    rw[h9]at e;injection e with e;omega
   have hnl2:(x.net++l).length=x.net.length+l.length:=List.length_append;have hrow8:rowOf (w7.setCell ⟨g,38,none⟩ (.slice A' (x.net.length+l.length) c')) g=worA {x with net:=x.net++l} {L with an:=A',cn:=c'}:=by
    rw[rowOf_setCell,if_pos rfl,b7r,<-hnl2,worA_set_net]
   have hs7:=hb7.size;have HG7:=qH hG7;have HE7:=qH hE7;have HBK:=qH hblk7;have HB7:Hid (∀y∈x.net++l,ChkB y):=qH (fun y hy=>by
    rcases List.mem_append.1 hy with hy|hy
    ·exact HW6.out.bd y hy
    exact HBL.out y hy)
   have HX7:Hid (Bex g base w w7):=qH ⟨HX6.out.1.trans (hb7.mono (Nat.zero_le _)),fun k h1 h2=>(hb7.block k (by omega)).trans (HX6.out.2 k h1 h2)⟩;clear hown7 hg7 hor7 hG7 hE7 hblk7;go_ret;refine⟨rfl,fun _=>⟨{L with an:=A',cn:=c'},hrow8,by rw[frOf_setCell];exact b7f,?_⟩,?_,?_⟩
   ·intro v hv;have hb8:∀k,base<=k->k≠g->k<w7.heap.size->v.heap[k]?=w7.heap[k]?:=fun k h1 h0 h2=>(hv k h1 h0 (by simp;omega)).trans (Below.heap_setCell _ _ _ _ h0);have hbm:∀k,base<=k->k<m->v.heap[k]?=w6.heap[k]?:=fun k h1 h2=>(hb8 k h1 (by omega) (by omega)).trans (hb7.block k h2);have hgr:=HG7.out.ex (v:=v) (fun k e=>by
     have h9:=HBK.out k e;have h8:=(HG7.out.row.block k e).2;exact hb8 k (by omega) h9.2 h8) (HE7.out.imp fun k hk=>by
     have hk':m<=k∧k≠g∧k<w6.heap.size:=hk;exact hb8 k (by omega) hk'.2.1 (by omega))
    exact⟨HW6.out.kr,HW6.out.lr,HW6.out.rel v hbm,HW6.out.dev v hbm,hgr.row.le,by show (x.net++l).length<=_;rw[hnl2];omega,hgr.src.chs HB7.out⟩
   ·exact⟨HX7.out.1.setCell (p:=⟨g,38,none⟩) (Nat.zero_le _) _,fun k h1 h2=>(Below.heap_setCell _ _ _ _ (by show k≠g;omega)).trans (HX7.out.2 k h1 h2)⟩
   simp;omega
attribute [go_sem] setRow_setRow
theorem write_bad(c d:Cop)(r:Rec)(torn:Bool)(w:World)(h:copCheck c d≠0):Calls Try.prog 122 #[.agg (copsA c d),.agg (recA r),.bool torn] w (RetB w (.tuple #[.agg (copsA Cop.zero Cop.zero),iv (copCheck c d)])):=by
 have hb:(copCheck c d !=0)=true:=by simp[h]
 go_enter Try.func122,Try.ntmps122;go_wp2_with fail;refine(read_bad c d _ h).mono ?_;rintro e w1 ⟨rfl,hb1⟩;have r4:=keep1 (g:=w.heap.size) (cs:=copsA c d) hb1 (by go_simp) (by go_simp) (by go_simp);have r1:=keep1 (g:=w.heap.size+1) (cs:=recA r) hb1 (by go_simp) (by go_simp) (by go_simp);have r1:=keep1 (g:=w.heap.size+1+1) (cs:=copsA Cop.zero Cop.zero) hb1 (by go_simp) (by go_simp) (by go_simp);have r1:=keep1 (g:=w.heap.size+1+1+1) (cs:=copsA Cop.zero Cop.zero) hb1 (by go_simp) (by go_simp) (by go_simp);have HB:=qH (((((bL _).alloc (by simp) _).alloc (by simp;omega) _).alloc (by simp;omega) _).trans (hb1.mono (B':=w.heap.size) (by simp;omega)));clear hb1 h;go_wp2_with fail;refine bodyPost_ret (rC (copsA Cop.zero Cop.zero)) rfl ⟨rfl,bZ HB⟩
theorem write_ok(c d:Cop)(r:Rec)(torn:Bool)(w:World)(h:copCheck c d=0):Calls Try.prog 122 #[.agg (copsA c d),.agg (recA r),.bool torn] w
  (RetB w (.tuple #[.agg (copsA (recWrite c d r torn).1.1 (recWrite c d r torn).1.2),iv (recWrite c d r torn).2])):=by
 have hrg:=recCheck_range0 (recRead_ok h);have hk:(recRead c d).2=0∨(recRead c d).2=1:=by unfold recRead;split<;>simp
 have hw:recWrite c d r torn=if recCheck {r with gen:=(recRead c d).1.gen+1}=0 then (recPut c d r torn,0)else ((Cop.zero,Cop.zero),recCheck {r with gen:=(recRead c d).1.gen+1}):=by unfold recWrite;rw[if_pos h]
 have hp:recPut c d r torn=if (recRead c d).2=0 then (c,if torn=true then Cop.zero else ⟨true,{r with gen:=(recRead c d).1.gen+1}⟩)else (if torn=true then Cop.zero else ⟨true,{r with gen:=(recRead c d).1.gen+1}⟩,d):=rfl
 have hread:=read_ok c d;have hread:=fun w=>hread w h;generalize recRead c d=q at *
 obtain⟨was,k⟩:=q;simp only at hk hw hp hread hrg;have HW:=qH hw;have HP:=qH hp;have HRd:=qH hread;have hg1:=hrg.1;have hg1:=hrg.2.1;clear hw hp hread hrg h;go_enter Try.func122,Try.ntmps122;go_wp2_with fail;refine(HRd.out _).mono ?_;rintro e w1 ⟨rfl,hb1⟩;have r4:=keep1 (g:=w.heap.size) (cs:=copsA c d) hb1 (by go_simp) (by go_simp) (by go_simp);have r1:=keep1 (g:=w.heap.size+1) (cs:=recA r) hb1 (by go_simp) (by go_simp) (by go_simp);have r2:=keep1 (g:=w.heap.size+1+1) (cs:=copsA Cop.zero Cop.zero) hb1 (by go_simp) (by go_simp) (by go_simp);have r3:=keep1 (g:=w.heap.size+1+1+1) (cs:=copsA Cop.zero Cop.zero) hb1 (by go_simp) (by go_simp) (by go_simp);have HB:=qH (((((bL _).alloc (by simp) _).alloc (by simp;omega) _).alloc (by simp;omega) _).trans (hb1.mono (B':=w.heap.size) (by simp;omega)));clear hb1;go_wp2_with fail;refine(recCheckA_calls {r with gen:=was.gen+1} _).mono ?_;rintro e w1 ⟨rfl,hb1⟩;have r5:=keep1 (g:=w.heap.size) (cs:=copsA c d) hb1 (by go_simp) (by go_simp) (by go_simp);have r5:=keep1 (g:=w.heap.size+1) (cs:=recA {r with gen:=was.gen+1}) hb1 (by go_simp) (by go_simp) (by go_simp);have r5:=keep1 (g:=w.heap.size+1+1) (cs:=copsA Cop.zero Cop.zero) hb1 (by go_simp) (by go_simp) (by go_simp);have r5:=keep1 (g:=w.heap.size+1+1+1) (cs:=copsA Cop.zero Cop.zero) hb1 (by go_simp) (by go_simp) (by go_simp);have hs:=HB.out.size;have HB1:Hid (Below w.heap.size w w1):=((HB.out.setCell (p:=⟨w.heap.size+1,0,none⟩) (by simp) (iv (was.gen+1))).alloc (by simp;omega) (.cells (recA was) 66)).trans (hb1.mono (by simp;omega));have hs1:=HB1.out.size;clear hb1 r4 r1 r2 r3 hs;by_cases hz:recCheck {r with gen:=was.gen+1}=0
 ·have hz':(recCheck {r with gen:=was.gen+1} !=0)=false:=by simp[hz]
  have HE:=qH (HW.out.trans (if_pos hz));clear hz HW;rcases hk with rfl|rfl
  ·have HP1:=qH (HP.out.trans (if_pos rfl))
   cases torn
   ·go_wp2_with fail;refine bodyPost_ret (results_ct rfl rfl (cs:=copsA c ⟨true,{r with gen:=was.gen+1}⟩) (by go_simp) (by go_simp) (by first|(go_simp;done)|(go_simp;kernel_rfl))) rfl ⟨by rw[HE.out,HP1.out];rfl,?_⟩;exact x0ap
   go_wp2_with fail;refine bodyPost_ret (results_ct rfl rfl (cs:=copsA c Cop.zero) (by go_simp) (by go_simp) (by first|(go_simp;done)|(go_simp;kernel_rfl))) rfl ⟨by rw[HE.out,HP1.out];rfl,?_⟩;exact x0ap
  have HP1:=qH (HP.out.trans (if_neg (by decide)))
  cases torn
  ·go_wp2_with fail;refine bodyPost_ret (results_ct rfl rfl (cs:=copsA ⟨true,{r with gen:=was.gen+1}⟩ d) (by go_simp) (by go_simp) (by first|(go_simp;done)|(go_simp;kernel_rfl))) rfl ⟨by rw[HE.out,HP1.out];rfl,?_⟩;exact x0ap
  go_wp2_with fail;refine bodyPost_ret (results_ct rfl rfl (cs:=copsA Cop.zero d) (by go_simp) (by go_simp) (by first|(go_simp;done)|(go_simp;kernel_rfl))) rfl ⟨by rw[HE.out,HP1.out];rfl,?_⟩;exact x0ap
 have hz':(recCheck {r with gen:=was.gen+1} !=0)=true:=by simp[hz]
 have HE:=qH (HW.out.trans (if_neg hz));clear hz HW HP hk;go_wp2_with fail;refine bodyPost_ret (results_ct rfl rfl (cs:=copsA Cop.zero Cop.zero) (by go_simp) (by go_simp) (by first|(go_simp;done)|(go_simp;kernel_rfl))) rfl ⟨by rw[HE.out];rfl,?_⟩;exact x0ap
theorem write_calls(c d:Cop)(r:Rec)(torn:Bool)(w:World):Calls Try.prog 122 #[.agg (copsA c d),.agg (recA r),.bool torn] w
  (RetB w (.tuple #[.agg (copsA (recWrite c d r torn).1.1 (recWrite c d r torn).1.2),iv (recWrite c d r torn).2])):=by
 by_cases h:copCheck c d=0
 ·exact write_ok c d r torn w h
 have e:recWrite c d r torn=((Cop.zero,Cop.zero),copCheck c d):=by unfold recWrite;rw[if_neg h]
 rw[e];exact write_bad c d r torn w h
theorem x4b3(h:Y:=by
 repeat (first|exact hA|refine bR ?_ _|refine bC ?_ _|refine bA ?_ _|refine Below.drew ?_)):Y:=h
theorem start_calls(r:Rec)(w:World):Calls Try.prog 125 #[.agg (recA r)] w (RetB w (.tuple #[iv (recStart r).1,.agg (recA (recStart r).2.1),iv (recStart r).2.2])):=by
 go_enter Try.func125,Try.ntmps125;go_wp2_with fail;refine(recCheckA_calls r _).mono ?_;rintro e w1 ⟨rfl,hb1⟩;have r2:=keep1 (g:=w.heap.size) (cs:=recA r) hb1 (by go_simp) (by go_simp) (by go_simp);have r1:=keep1 (g:=w.heap.size+1) (cs:=recA Rec.zero) hb1 (by go_simp) (by go_simp) (by go_simp);have HB:=qH (((bL _).alloc (by simp) _).trans (hb1.mono (B':=w.heap.size) (by simp;omega)));have hs:=HB.out.size;clear hb1;by_cases hz:recCheck r=0
 ·have hz':(recCheck r !=0)=false:=by simp[hz]
  have hrg:=recCheck_range0 hz;have hg1:=hrg.2.2.1;have hg1:=hrg.2.2.2.1;have hg1:=hrg.2.2.2.2.1;have hg1:=hrg.2.2.2.2.2.1
  cases ht:r.trying
  ·have hE:recStart r=(r.active,r,0):=by unfold recStart;rw[if_pos hz,if_neg (by simp[ht])]
   have HE:=qH hE;clear hE hrg hz;go_wp2_with fail;go_region
   all_goals (
    go_wp2_with fail;refine bodyPost_ret (results_tct rfl rfl (cs:=recA r) (by go_simp) (by go_simp) (by go_simp)) rfl ⟨by rw[HE.out];rfl,?_⟩;exact x4b3)
  by_cases h1:r.tries=0
  ·have hE:recStart r=(r.active,{r with trying:=false},0):=by unfold recStart;rw[if_pos hz,if_pos ht,if_pos h1]
   have h0':(r.tries==0)=true:=by simp[h1]
   have HE:=qH hE;clear hE hrg hz h1;go_wp2_with fail;go_region
   all_goals (
    go_wp2_with fail;refine bodyPost_ret (results_tct rfl rfl (cs:=recA {r with trying:=false}) (by go_simp) (by go_simp) (by go_simp)) rfl ⟨by rw[HE.out];rfl,?_⟩;exact x4b3)
  have hE:recStart r=(1-r.active,{r with tries:=r.tries-1},0):=by unfold recStart;rw[if_pos hz,if_pos ht,if_neg h1]
  have h0':(r.tries==0)=false:=by simp[h1]
  have HE:=qH hE;clear hE hrg hz h1;go_wp2_with fail;go_region
  all_goals (
   go_wp2_with fail;refine bodyPost_ret (results_tct rfl rfl (cs:=recA {r with tries:=r.tries-1}) (by go_simp) (by go_simp) (by go_simp)) rfl ⟨by rw[HE.out];rfl,?_⟩;exact x4b3)
 have hz':(recCheck r !=0)=true:=by simp[hz]
 have hE:recStart r=(0,Rec.zero,recCheck r):=by unfold recStart;rw[if_neg hz]
 have HE:=qH hE;clear hE hz;go_wp2_with fail;all_goals (
  go_wp2_with fail;refine bodyPost_ret (results_tct rfl rfl (cs:=recA Rec.zero) (by go_simp) (by go_simp) (by go_simp)) rfl ⟨by rw[HE.out];rfl,?_⟩;exact x4b3)
theorem confirm_calls(r:Rec)(w:World):Calls Try.prog 126 #[.agg (recA r)] w (RetB w (.tuple #[.agg (recA (recConfirm r).1),iv (recConfirm r).2])):=by
 go_enter Try.func126,Try.ntmps126;go_wp2_with fail;refine(recCheckA_calls r _).mono ?_;rintro e w1 ⟨rfl,hb1⟩;have r2:=keep1 (g:=w.heap.size) (cs:=recA r) hb1 (by go_simp) (by go_simp) (by go_simp);have r1:=keep1 (g:=w.heap.size+1) (cs:=recA Rec.zero) hb1 (by go_simp) (by go_simp) (by go_simp);have HB:=qH (((bL _).alloc (by simp) _).trans (hb1.mono (B':=w.heap.size) (by simp;omega)));have hs:=HB.out.size;clear hb1;by_cases hz:recCheck r=0
 ·have hz':(recCheck r !=0)=false:=by simp[hz]
  have hrg:=recCheck_range0 hz;have hg1:=hrg.2.2.1;have hg1:=hrg.2.2.2.1;have hg1:=hrg.2.2.2.2.1;have hg1:=hrg.2.2.2.2.2.1;have hg1:=hrg.2.2.2.2.2.2.1;have hg1:=hrg.2.2.2.2.2.2.2
  cases ht:r.trying
  ·have hE:recConfirm r=(Rec.zero,5):=by unfold recConfirm;rw[if_pos hz,if_neg (by simp[ht])]
   have HE:=qH hE;clear hE hrg hz;go_wp2_with fail;refine bodyPost_ret (rC (recA Rec.zero)) rfl ⟨by rw[HE.out];rfl,?_⟩;exact x4b3
  have hE:recConfirm r=(recDone r,0):=by unfold recConfirm;rw[if_pos hz,if_pos ht]
  have hk:r.active=0∨r.active=1:=by omega
  clear hrg hz;rcases hk with hk|hk
  ·have HE:=qH (hE.trans (show _=((⟨r.gen,1,false,0,max r.floor r.b.ver,r.a,r.b⟩:Rec),(0:Int)) by unfold recDone Rec.at_;simp[hk]));clear hE;go_wp2_with fail;go_region
   all_goals go_wp2_with fail
   all_goals (
    refine bodyPost_ret (results_ct rfl rfl (cs:=recA ⟨r.gen,1,false,0,max r.floor r.b.ver,r.a,r.b⟩) (by first|(go_simp;done)|(go_simp;refine congrArg (fun z=>recA ⟨_,_,_,_,z,_,_⟩) ?_<;>omega)) (by go_simp) (by go_simp)) rfl ⟨by rw[HE.out];rfl,?_⟩;exact x4b3)
  have HE:=qH (hE.trans (show _=((⟨r.gen,0,false,0,max r.floor r.a.ver,r.a,r.b⟩:Rec),(0:Int)) by unfold recDone Rec.at_;simp[hk]));clear hE;go_wp2_with fail;go_region
  all_goals go_wp2_with fail
  all_goals (
   refine bodyPost_ret (results_ct rfl rfl (cs:=recA ⟨r.gen,0,false,0,max r.floor r.a.ver,r.a,r.b⟩) (by first|(go_simp;done)|(go_simp;refine congrArg (fun z=>recA ⟨_,_,_,_,z,_,_⟩) ?_<;>omega)) (by go_simp) (by go_simp)) rfl ⟨by rw[HE.out];rfl,?_⟩;exact x4b3)
 have hz':(recCheck r !=0)=true:=by simp[hz]
 have hE:recConfirm r=(Rec.zero,recCheck r):=by unfold recConfirm;rw[if_neg hz]
 have HE:=qH hE;clear hE hz;go_wp2_with fail;refine bodyPost_ret (rC (recA Rec.zero)) rfl ⟨by rw[HE.out];rfl,?_⟩;exact x4b3
theorem x0ss(h:Y:=by
 rw[<-himg];unfold Dev.image;rw[List.length_take];have:=(at_sizes HREC.out (ka:Int)).2.1;omega):Y:=h
theorem x17f(h:Y:=by
 repeat (first|exact HK3.out|exact Kp.refl _ _|refine Kp.row ?_ (by omega) _|refine Kp.cell ?_ (by first|(show _<_∨_<=_;omega)|(simp<;>omega)) _|refine Kp.alloc ?_ (by first|omega|(simp<;>omega)) _)):Y:=h
theorem x52i(h:Y:=by
 go_wp2_with fail;refine bodyPost_ret (rC (devA Dev.zero DLoc.zero)) rfl ⟨DLoc.zero,rfl,.const fun v=>DevIn.zero v,bZ HB3⟩):Y:=h
theorem x7of(h:Y:=by
 repeat (first|exact HK4.out|exact Kp.refl _ _|refine Kp.row ?_ (by omega) _|refine Kp.cell ?_ (by first|(show _<_∨_<=_;omega)|(simp<;>omega)) _|refine Kp.alloc ?_ (by first|omega|(simp<;>omega)) _)):Y:=h
theorem x7r2(h:Y:=by
 rw[<-himg];exact image_calls d L1 (ka:Int) d.rec_ wq (by omega) h (slot_len HOK.out.l0 HOK.out.l1 _) (at_sizes HREC.out _).1 (at_sizes HREC.out _).2.1):Y:=h
theorem x80n(h:Y:=by
 clear c3;go_wp2_with fail;refine bodyPost_ret (rC (devA Dev.zero DLoc.zero)) rfl ⟨DLoc.zero,rfl,.const fun v=>DevIn.zero v,bZ HB5⟩):Y:=h
theorem x8lt(h:Y:=by
 go_wp2_with fail;refine bodyPost_ret (rC (devA Dev.zero DLoc.zero)) rfl ⟨DLoc.zero,rfl,.const fun v=>DevIn.zero v,bZ HB4⟩):Y:=h
theorem DevIn.cops{d:Dev}{L:DLoc}(h:DevIn w d L)(p q:Cop):DevIn w {d with c0:=p,c1:=q} L:=⟨h.k0,h.l0,h.b0,h.k1,h.l1,h.b1,h.kg,h.lg,h.got,h.job,h.ir,h.id⟩
theorem devConfirm_bad(d:Dev)(L:DLoc)(w:World)(h:DevIn w d L)  (hne:devReady d≠0):Calls Try.prog 67 #[.agg (devA d L)] w (DvRet w Dev.zero (devReady d)):=by
 have hba:Below w.heap.size w ((w.alloc (.cells (devA d L) 71)).alloc (.cells (devA Dev.zero DLoc.zero) 71)):=bA (bA (Below.refl _ _) _) _;have HBA:=qH hba;have HIN:=qH h;have KB:=qH (fun w h=>ready_bad d L w h hne);have q:(devReady d !=0)=true:=by simp[hne]
 generalize devReady d=n at *
 clear hne h hba;go_enter Try.func67,Try.ntmps67;go_wp2_with fail;refine(KB.out _ (HIN.out.stays HBA.out)).mono ?_;rintro e w1 ⟨rfl,hb1⟩;have a2:=kp (w.heap.size) (devA d L) hb1;have a1:=kp (w.heap.size+1) (devA Dev.zero DLoc.zero) hb1;have HB1:=bT HBA hb1;clear hb1;exact x5r8
theorem devConfirm_ok(d:Dev)(L:DLoc)(w:World)(h:DevIn w d L)  (hz:devReady d=0):Calls Try.prog 67 #[.agg (devA d L)] w (DvRet w (devConfirm d).1 (devConfirm d).2):=by
 have hba:Below w.heap.size w ((w.alloc (.cells (devA d L) 71)).alloc (.cells (devA Dev.zero DLoc.zero) 71)):=bA (bA (Below.refl _ _) _) _;have HBA:=qH hba;have HIN:=qH h;have KR:=qH (fun w h=>ready_ok d L w h hz);have hdef:devConfirm d=if d.running=d.rec_.active then (Dev.zero,5)
   else if (recConfirm d.rec_).2≠0 then (Dev.zero,(recConfirm d.rec_).2)
   else if (recWrite d.c0 d.c1 (recConfirm d.rec_).1 false).2≠0 then (Dev.zero,(recWrite d.c0 d.c1 (recConfirm d.rec_).1 false).2)
   else (d.write (recConfirm d.rec_).1 false,0):=by unfold devConfirm;rw[if_neg (by omega)]
 have K1:=qH (fun w=>confirm_calls d.rec_ w);obtain⟨⟨r1,e1⟩,hq⟩:∃x,recConfirm d.rec_=x:=⟨_,rfl⟩;unfold Dev.write at hdef;rw[hq]at hdef K1;dsimp only at hdef;have K2:=qH (fun w=>write_calls d.c0 d.c1 r1 false w);obtain⟨⟨⟨p1,p2⟩,e2⟩,hw⟩:∃x,recWrite d.c0 d.c1 r1 false=x:=⟨_,rfl⟩;rw[hw]at hdef K2;dsimp only at hdef;have HD:=qH hdef;generalize devConfirm d=res at *
 clear hz h hba hdef hq hw;go_enter Try.func67,Try.ntmps67;go_wp2_with fail;refine(KR.out _ (HIN.out.stays HBA.out)).mono ?_;rintro e w1 ⟨L1,rfl,hfr,hb1⟩;have a3:=kp (w.heap.size) (devA d L) hb1;have a1:=kp (w.heap.size+1) (devA Dev.zero DLoc.zero) hb1;have HFR:Hid (Fresh (w.heap.size+2) w1 (fun v=>DvOwn v (w.heap.size+2) d L1)):=qH (by simpa[Nat.add_assoc]using hfr);have HB1:=bT HBA hb1;have hsz1:w.heap.size+2<=w1.heap.size:=by have:=hb1.size;simp at this;omega
 have HK1:Hid (Kp (w.heap.size+2) w1 w1):=qH (Kp.refl _ _);clear hb1 hfr;by_cases c1:d.running=d.rec_.active
 ·have hz:res=(Dev.zero,5):=HD.out.trans (if_pos c1);subst hz;have q:(d.running==d.rec_.active)=true:=by simp[c1]
  clear c1;exact x5r8
 have q1:(d.running==d.rec_.active)=false:=by simp[c1]
 have HD1:=qH (HD.out.trans (if_neg c1));clear c1 HD;go_wp2_with fail;refine(K1.out _).mono ?_;rintro e w2 ⟨rfl,hb⟩;have a3:=kp (w.heap.size) (devA d L1) hb;have a1:=kr a1 hb;have a2:=kp (w1.heap.size) (recA d.rec_) hb;have hbs1:=hb.size;have hsz2:w1.heap.size<=w2.heap.size:=by first|omega|(simp at hbs1;omega)
 have HK2:Hid (Kp (w.heap.size+2) w1 w2):=qH (by
  refine Kp.below ?_ (by first|omega|(simp<;>omega)) hb;exact x84a)
 have HB2:=bU HB1 hb;clear hb hbs1;by_cases c2:e1≠0
 ·have hz:res=(Dev.zero,e1):=HD1.out.trans (if_pos c2);subst hz;have q:(e1 !=0)=true:=by simp[c2]
  clear c2;exact x2uc
 have c2:=Decidable.not_not.1 c2;subst c2;have HD2:=qH (HD1.out.trans (if_neg (by decide)));clear HD1;go_wp2_with fail;refine(K2.out _).mono ?_;rintro e w3 ⟨rfl,hb⟩;have a3:=kr a3 hb;have a1:=kr a1 hb;have hbs1:=hb.size;have hsz3:w1.heap.size<=w3.heap.size:=by first|omega|(simp at hbs1;omega)
 have HK3:Hid (Kp (w.heap.size+2) w1 w3):=qH (by
  refine Kp.below ?_ (by first|omega|(simp<;>omega)) hb;exact x9su)
 have HB3:=bU HB2 hb;clear hb hbs1;by_cases c3:e2≠0
 ·have hz:res=(Dev.zero,e2):=HD2.out.trans (if_pos c3);subst hz;have q:(e2 !=0)=true:=by simp[c3]
  clear c3;exact x52i
 have c3:=Decidable.not_not.1 c3;subst c3;have hz:res=({d with c0:=p1,c1:=p2},0):=HD2.out.trans (if_neg (by decide));subst hz;go_wp2_with fail;refine bodyPost_ret (rC (devA {d with c0:=p1,c1:=p2} L1)) rfl ⟨L1,rfl,?_,?_⟩
 ·refine Fresh.imp (P:=fun v=>DvOwn v (w.heap.size+2) d L1) (Fresh.kp HFR.out ?_ (by omega) (by first|omega|(simp<;>omega))) (fun v hv=>hv.devIn.cops p1 p2);exact x17f
 exact bZ HB3
theorem devConfirm_calls(d:Dev)(L:DLoc)(w:World)(h:DevIn w d L):Calls Try.prog 67 #[.agg (devA d L)] w (DvRet w (devConfirm d).1 (devConfirm d).2):=by
 by_cases hz:devReady d=0
 ·exact devConfirm_ok d L w h hz
 have e:devConfirm d=(Dev.zero,devReady d):=by unfold devConfirm;rw[if_pos hz]
 rw[e];exact devConfirm_bad d L w h hz
end Go.Proofs.Ytefkfglkpebbmac
