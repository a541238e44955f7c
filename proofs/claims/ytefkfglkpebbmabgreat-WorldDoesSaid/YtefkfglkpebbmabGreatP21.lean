/- Walks. No conditions. -/
import Derived.Test.YtefkfglkpebbmabGreatP42
import Derived.Test.YtefkfglkpebbmabGreatP19
import Derived.Test.YtefkfglkpebbmabGreatP20
set_option linter.all false
set_option maxRecDepth 100000
set_option maxHeartbeats 0
namespace Go.Proofs.YtefkfglkpebbmabGreat
open Go.RowKit
variable {Y:Prop}
variable {l:List Chk} {ds:List (Option Addr×Nat)} {i base c g n:Nat} {w w':World} {A:OA} {d:Dev} {L:DLoc} {r:Rec} {nb:LU}
theorem x5u3(h:Y:=by
 clear hn;go_quiet (fail)
 go_wp2_with fail;go_ret;exact⟨rfl,fun e=>absurd e (by decide),HX.out.below (below_drewN _ _) (by omega) (by omega),by simp;omega⟩):Y:=h
theorem x7pt(h:Y:=by
 have hk:=hn 13 _ 1 rfl rfl (by decide);obtain⟨r_,f_,c_⟩:=dhJ_row hk (by omega) RX1.out FX1.out (by simp) hJ;go_simp):Y:=h
theorem cells_del(h:ds.length=l.length)(hi:i<l.length):kChk.cells (l.eraseIdx i) (ds.eraseIdx i)=(kChk.cells l ds).take (i*5)++(kChk.cells l ds).drop ((i+1)*5):=by
 have h1:=cells_take (K:=kChk) l ds h i (by omega);have h2:=cells_take (K:=kChk) l ds h (i+1) (by omega);rw[List.eraseIdx_eq_take_drop_succ,List.eraseIdx_eq_take_drop_succ,cells_append _ _ _ _ (by simp;omega),h1.1,h2.2];rfl
theorem erase_at{α:Type}{l:List α}{j:Nat}{o:α}(h:(l.eraseIdx i)[j]?=some o):l[if j<i then j else j+1]?=some o:=by
 rw[List.getElem?_eraseIdx]at h;split at h
 ·rename_i hj;rw[if_pos hj];exact h
 rename_i hj;rw[if_neg hj];exact h
theorem GRow.del(h:GRow kChk w base l ds (some ⟨g,0,none⟩) c)(hi:i<l.length)(ho:Own w' base 61 5 (some ⟨g,0,none⟩) (l.length-1) c ((kChk.cells l ds).take (i*5)++(kChk.cells l ds).drop ((i+1)*5)))
  (hk:∀k,k≠g->w'.heap[k]?=w.heap[k]?) (hs:w'.heap.size=w.heap.size):GRow kChk w' base (l.eraseIdx i) (ds.eraseIdx i) (some ⟨g,0,none⟩) c:=by
 have hl:=h.len;refine⟨by rw[List.length_eraseIdx_of_lt hi,List.length_eraseIdx_of_lt (by omega)];omega,?_,fun j o d h1 h2=>?_,fun j o d h1 h2 hx k hk2=>h.off _ o d (erase_at h1) (erase_at h2) hx k hk2⟩
 ·rw[cells_del hl hi,List.length_eraseIdx_of_lt hi];exact ho
 obtain⟨h3,h4⟩:=h.data _ o d (erase_at h1) (erase_at h2);refine⟨bts_keep h3 (by omega) fun hx k hlt e=>hk k fun e2=>?_,h4⟩;have:=h.off _ o d (erase_at h1) (erase_at h2) hx k e;subst e2;exact this rfl
theorem Each.del{P:Nat->Prop}(h:Each kChk l ds P):Each kChk (l.eraseIdx i) (ds.eraseIdx i) P:=fun j o d h1 h2 hx k hk=>h _ o d (erase_at h1) (erase_at h2) hx k hk
def dhJ(w0:World)(g gn m:Nat)(x:Wor)(L:WLoc)(i:Nat)(out:List Value):Nat->(Nat->Value)->World->Prop
 |0,_,w=>w=w0.drew
 |1,cv,w=>cv 10=.slice (some ⟨gn,0,none⟩) (x.net.eraseIdx i).length L.cn∧Own w m 61 5 (some ⟨gn,0,none⟩) (x.net.length-1) L.cn out∧w.heap.size=w0.heap.size∧(∀k,k≠gn->w.heap[k]?=w0.heap[k]?)∧Below m w0 w
 |_,_,w=>∃w1,Own w1 m 61 5 (some ⟨gn,0,none⟩) (x.net.length-1) L.cn out∧w1.heap.size=w0.heap.size∧(∀k,k≠gn->w1.heap[k]?=w0.heap[k]?)∧Below m w0 w1∧w=w1.setRow g (worA {x with net:=x.net.eraseIdx i} {L with an:=some ⟨gn,0,none⟩,cn:=L.cn})
theorem dhJ_row{w0:World}{gn m k q:Nat}{x:Wor}{L:WLoc}{out:List Value}{cv:Nat->Value}{cs:Array Value}(hk:k<=1)(hq:q≠gn)(hr:rowOf w0 q=cs)(hf:frOf w0 q=(0,0))(h0:0<cs.size)(hJ:dhJ w0 g gn m x L i out k cv w):
  rowOf w q=cs∧frOf w q=(0,0)∧(∀j,w.cell? ⟨q,j,none⟩=cs[j]?):=by
 have key:w.heap[q]?=w0.heap[q]?->rowOf w q=cs∧frOf w q=(0,0)∧(∀j,w.cell? ⟨q,j,none⟩=cs[j]?):=fun e=>by
  obtain⟨e1,e2⟩:=rowOf_heap e;have e3:=e1.trans hr;exact⟨e3,e2.trans hf,fun j=>by rw[cell_row (by rw[e3];exact h0),e3]⟩
 rcases (show k=0∨k=1 by omega)with rfl|rfl
 ·have hJ':w=w0.drew:=hJ;subst hJ';exact key rfl
 obtain⟨_,_,_,h,_⟩:=hJ;exact key (h q hq)
theorem bel2{a b c:World}(h:Below a.heap.size a b)(h2:Below b.heap.size b c):Below a.heap.size a c:=h.trans (h2.mono h.size)
theorem hear_box(g base m top:Nat)(ds:List (Option Addr×Nat))(n:Int)(x:Wor)(L:WLoc)(w:World)(hr:rowOf w g=worA x L)(hf:frOf w g=(0,0))(hg:g<base∨top<=g)(h:WorAt w base m top ds x L)(k:Int)(w1:World)(hw1:w.alloc (.cells #[iv k,iv n] 42)=w1):
  rowOf w1 g=worA x L∧frOf w1 g=(0,0)∧rowOf w1 w.heap.size=#[iv k,iv n]∧frOf w1 w.heap.size=(0,0)∧Bex g base w w1∧WorAt w1 base m top ds x L∧w1.heap.size=w.heap.size+1∧g<w.heap.size∧(∀j,w1.cell? ⟨g,j,none⟩=(worA x L)[j]?)∧(∀j,w1.cell? ⟨w.heap.size,j,none⟩=#[iv k,iv n][j]?):=by
 have hlt:g<w.heap.size:=row_lt (w:=w) (by rw[hr];simp[worA]);have hm3:=h.h3;have hm2:=h.h2;have hm1:=h.h1;subst hw1;have q1:rowOf (w.alloc (.cells #[iv k,iv n] 42)) g=worA x L:=by rw[rowOf_alloc,if_neg (by omega)];exact hr
 have q2:rowOf (w.alloc (.cells #[iv k,iv n] 42)) w.heap.size=#[iv k,iv n]:=by rw[rowOf_alloc,if_pos rfl]
 exact⟨q1,by rw[frOf_alloc,if_neg (by omega)];exact hf,q2,by rw[frOf_alloc,if_pos rfl],(Bex.refl _ _ _).alloc (by omega) (by omega) _,h.same (fun k a b=>Below.heap_alloc w _ k (by omega)) (by simp;omega),by simp,hlt,
  fun j=>by rw[cell_row (by rw[q1];simp[worA]),q1],fun j=>by rw[cell_row (by rw[q2];simp),q2]⟩
theorem hear_who(g base m top:Nat)(ds:List (Option Addr×Nat))(n:Int)(x:Wor)(L:WLoc)(w:World)(hr:rowOf w g=worA x L)(hf:frOf w g=(0,0))(hg:g<base∨top<=g)(h:WorAt w base m top ds x L)(hnet:x.net.length<=120)(k:Int)(hn:n<0∨(x.net.length:Int)<=n):Calls Tryz.prog 56 #[.pointer (some ⟨g,0,none⟩),.agg #[iv k,iv n]] w (HaRet w g base Wor.zero 4):=by
 obtain⟨w1,hw1⟩:=eX (w.alloc (.cells #[iv k,iv n] 42));obtain⟨-,-,-,-,hx,hw,hs,hlt,q1,q2⟩:=hear_box g base m top ds n x L w hr hf hg h k w1 hw1;have hm1:=hw.h1;have hm2:=hw.h2;have hm3:=hw.h3;have HX:=qH hx;clear hr hf h hx hw;go_enter Tryz.func56,Tryz.ntmps56;go_wp2_with fail;try rw[hw1]
 clear hw1;by_cases c1:n<0
 ·have c2:=c1;exact x5u3
 have c2:=hn.resolve_left c1;exact x5u3
theorem hear_at(g base m top:Nat)(ds:List (Option Addr×Nat))(n:Int)(x:Wor)(L:WLoc)(w:World)(hr:rowOf w g=worA x L)(hf:frOf w g=(0,0))(hg:g<base∨top<=g)(h:WorAt w base m top ds x L)(hnet:x.net.length<=120)(k:Int)(hk:k=2∨k=3∨k=4)(i:Nat)(hni:n=(i:Int))(hi:i<x.net.length):Calls Tryz.prog 56 #[.pointer (some ⟨g,0,none⟩),.agg #[iv k,iv n]] w (HaRet w g base (worHear x k n).1 (worHear x k n).2):=by
 subst hni;obtain⟨w1,hw1⟩:=eX (w.alloc (.cells #[iv k,iv (i:Int)] 42));obtain⟨r1,f1,r2,f2,hx,hw,hs1,hlt,q1,q2⟩:=hear_box g base m top ds i x L w hr hf hg h k w1 hw1;have hm1:=hw.h1;have hm2:=hw.h2;have hm3:=hw.h3;obtain⟨y,hy⟩:=eX (x.net[i]);obtain⟨⟨d1,e2⟩,hd1⟩:∃z,devHear x.d y=z:=⟨_,rfl⟩;have hdef:worHear x k i=if k≠4∧e2≠0 then (Wor.zero,e2)else (⟨x.rel,if k≠4 then d1 else x.d,if k≠3 then x.net.eraseIdx i else x.net⟩,0):=by
  unfold worHear;rw[if_neg (by omega),Int.toNat_natCast,show x.net.getD i Chk.zero=y by rw[<-hy];simp[hi],hd1]
 have HD:=qH hdef;have hin:=(h.net.src.chs h.bd).chk hi;rw[hy]at hin;generalize worHear x k i=res at *
 obtain⟨gn,on,B,e,hAn,hbn,hck,hci⟩:=hin;obtain⟨gq,hAn1,hgn1,hgn2⟩:=h.net.row.form (by omega);rw[hAn]at hAn1;injection hAn1 with hAn1;injection hAn1 with e1 e2;subst e1 e2;have hgnT:=h.blk gn (by rw[hAn];rfl);have HB1:Below w.heap.size w w1:=by rw[<-hw1];exact bL _
 have HAN:=qH hAn;have HCI:Hid (ChkIn w1 y B e):=qH (hci.stays HB1);have HCK:Hid (ChkAt w1 gn (0+i*5) y B e):=qH (hck.stays hbn HB1);have hcn:=h.net.row.le;have HEA:=qH h.each;have HBD:=qH h.bd;have HKR:=qH (And.intro h.kr h.lr);have HX1:=qH hx;have HW1:=qH hw;have RW:=qH r1;have FW:=qH f1;have RX:=qH r2;have FX:=qH f2;have HD1:=qH hd1;clear hr hf h hx hw r1 f1 r2 f2 hdef hy hd1 hAn hck hci HB1;have c1:¬(i:Int)<0:=by omega
 have c2:¬(x.net.length:Int)<=(i:Int):=by omega
 go_enter Tryz.func56,Tryz.ntmps56;go_wp2_with fail;try rw[hw1]
 clear hw1;go_cut [19] (fun v wx=>v=.bool false∧Hid (Below w1.heap.size w1 wx))
 case first=>
  go_quiet (fail)
  go_wp2_with fail;go_meet
  case rel=>exact⟨by rw[decide_eq_false (by omega),decide_eq_false (by omega)];rfl,qH (below_drewN _ _)⟩
 case rest=>
 obtain⟨rfl,hb⟩:=hcut;generalize wc=w3 at *
 have hb1:=hb.out;have hs2:=hb1.size;obtain⟨a0r,a0f,a0n,a0c,a0z,a0l⟩:=keep1 hb1 RW.out (by go_simp) FW.out;obtain⟨a1r,a1f,a1n,a1c,a1z,a1l⟩:=keep1 hb1 RX.out (by simp) FX.out;have HX2:=qH (HX1.out.below hb1 (by omega) (by omega));have HW2:Hid (WorAt w3 base m top ds x L):=qH (HW1.out.same (fun k a b=>hb1.block k (by omega)) (by omega));have HCI1:Hid (ChkIn w3 y B e):=qH (HCI.out.stays hb1);have HCK1:Hid (ChkAt w3 gn (0+i*5) y B e):=qH (HCK.out.stays (by omega) hb1);clear hb hb1 RW FW RX FX HX1 HW1 HCI HCK q1 q2 c1 c2;have RW1:=qH a0r;have FW1:=qH a0f;have RX1:=qH a1r;have FX1:=qH a1f;go_upto_if 22 with fail
 go_cut [] (fun wx=>∃d3 L2,Hid (rowOf wx g=worA {x with d:=d3} {L with l:=L2}∧frOf wx g=(0,0))∧Hid (rowOf wx w.heap.size=#[iv k,iv (i:Int)]∧frOf wx w.heap.size=(0,0))∧Hid (res=(⟨x.rel,d3,if k≠3 then x.net.eraseIdx i else x.net⟩,0))∧Hid (Bex g base w wx∧w1.heap.size<=wx.heap.size)∧Hid (∀k,m<=k->k<top->wx.heap[k]?=w3.heap[k]?)
  ∧Hid (∀v:World,(∀k,base<=k->k≠gn->k≠g->k<wx.heap.size->v.heap[k]?=wx.heap[k]?)->DevIn v d3 L2∧Ims v L.ar x.rel))
 case first=>
  by_cases c1:k=4
  ·have q:(k !=4)=false:=by simp[c1]
   go_wp2_with fail;go_meet
   case rel=>exact⟨x.d,L.l,qH ⟨RW1.out,FW1.out⟩,qH ⟨RX1.out,FX1.out⟩,qH (HD.out.trans ((if_neg (by simp[c1])).trans (by rw[if_neg (by simp[c1])]))),qH ⟨HX2.out,hs2⟩,qH fun _ _ _=>rfl,
    qH fun v hv=>⟨HW2.out.dev v fun k h1 h2=>hv k h1 (by omega) (by omega) (by omega),HW2.out.rel v fun k h1 h2=>hv k h1 (by omega) (by omega) (by omega)⟩⟩
  have q:(k !=4)=true:=by simp[c1]
  have KH:Hid (∀wq,Below w3.heap.size w3 wq->Calls Tryz.prog 102 #[.agg (devA x.d L.l),.agg (chkA y.from_ y.to_ y.n y.of_ B y.data.length e)] wq (DvRet wq d1 e2)):=qH (fun wq hb=>by
   have h1:=devHear_calls x.d L.l y B e wq (HW2.out.dev.now.stays hb) (HCI1.out.stays hb);rw[HD1.out]at h1;exact h1)
  clear a0r a0f a0n a0c a0z a1r a1f a1n a1c a1z;go_upto_region 4 with fail
  go_cut [5,6] (fun v1 v2 wx=>∃L2 gb,v1=.pointer (some ⟨gb,0,none⟩)∧v2=iv e2∧Hid (rowOf wx gb=devA d1 L2∧frOf wx gb=(0,0))∧Hid (w3.heap.size<=gb∧gb<wx.heap.size)∧Hid (∀v:World,(∀k,w3.heap.size<=k->k≠gb->k<wx.heap.size->v.heap[k]?=wx.heap[k]?)->DevIn v d1 L2)∧Hid (Below w3.heap.size w3 wx))
  case first=>
   have hbb:Below w3.heap.size w3 w3.drew:=(Below.refl _ _).drew;have hq3:=fun v (h:Below w3.heap.size w3 v)=>keep1 h RW1.out (by go_simp) FW1.out;have hq1:=fun v (h:Below w3.heap.size w3 v)=>keep1 h RX1.out (by simp) FX1.out;have hq2:=fun v (h:Below w3.heap.size w3 v)=>HCK1.out.stays (by omega) h;simp only[ChkAt,Nat.zero_add]at hq2;have h_:=HAN.out;have h2_:(i:Int)<(x.net.length:Int):=by omega
   have h3_:(x.net.length:Int)<=(L.cn:Int):=by omega
   go_region_held3 (fun v=>Below w3.heap.size w3 v) ((have hs9:=hbb.size;repeat (first|exact hbb|refine bR ?_ _|refine bA ?_ _)))
    ((go_at_call 102;refine(KH.out _ (by assumption)).mono ?_;rintro e w5 ⟨L2,rfl,hfr,h5⟩;have hbb:=bel2 (a:=w3) (by assumption) h5;try (have hrow:=keep1 (g:=w3.heap.size) (cs:=devA Dev.zero DLoc.zero) h5 (by first|(go_simp;done)|fail) (by first|(go_simp;done)|fail) (by first|(go_simp;done)|fail))))
   all_goals (
    go_wp2_with fail;go_meet
    case rel=>
     have hs3:=hbb.size;have hs4:=h5.size;try simp at hs4
     refine⟨_,_,rfl,rfl,qH ⟨by go_simp,by go_simp⟩,qH ⟨by omega,by first|omega|(simp[World.setRow]<;>omega)⟩,qH (fun v hv=>hfr v fun k h1 h2=>?_),qH (by repeat (first|exact hbb|refine bR ?_ _|refine bA ?_ _))⟩;try simp at h1
     first|exact(hv k (by omega) (by omega) (by simp[World.setRow]<;>omega)).trans (setRow_other _ _ _ _ (by omega))|exact(hv k (by omega) (by omega) (by simp<;>omega)).trans (Below.heap_alloc w5 _ k (by omega)))
  case rest=>
  obtain⟨L1,gb,rfl,rfl,hrb,hgb,hfr,hbel⟩:=hcut;generalize wc=w5 at *
  have hs3:=hbel.out.size;obtain⟨hgb1,hgb2⟩:=hgb.out;obtain⟨rb,fb⟩:=hrb.out;obtain⟨a0r,a0f,a0n,a0c,a0z,a0l⟩:=keep1 hbel.out RW1.out (by go_simp) FW1.out;obtain⟨a1r,a1f,a1n,a1c,a1z,a1l⟩:=keep1 hbel.out RX1.out (by simp) FX1.out;have HX1:=qH (HX2.out.below hbel.out (by omega) (by omega));have HW1:Hid (WorAt w5 base m top ds x L):=qH (HW2.out.same (fun k a b=>hbel.out.block k (by omega)) (by omega));have hgg:¬gb=g:=by omega
  have hgg1:¬g=gb:=by omega
  clear KH RW1 FW1 RX1 FX1 hrb hgb;by_cases c2:e2≠0
  ·have hz:res=(Wor.zero,e2):=HD.out.trans (if_pos ⟨c1,c2⟩);subst hz;have q:(e2 !=0)=true:=by simp[c2]
   have HC1:=qH c2;clear c2;go_wp2_with fail;go_ret;exact⟨rfl,fun e=>absurd e HC1.out,HX1.out,by omega⟩
  have c2:=Decidable.not_not.1 c2;subst c2;have hp1:0<(rowOf w5 g).size:=by rw[a0r];simp[worA]
  go_wp2_with fail;go_meet
  case rel=>
   exact⟨d1,L1,qH ⟨by rw[rowOf_setRow _ _ _ _ hp1,if_pos rfl],by rw[frOf_setRow];exact a0f⟩,qH ⟨by rw[rowOf_setRow _ _ _ _ hp1,if_neg (by omega)];exact a1r,by rw[frOf_setRow];exact a1f⟩,
    qH (HD.out.trans ((if_neg (by simp)).trans (by rw[if_pos c1]))),qH ⟨HX1.out.row (.inl rfl) _,by simp[World.setRow];omega⟩,qH fun k h1 h2=>(setRow_other _ _ _ _ (by omega)).trans (hbel.out.block k (by omega)),
    qH fun v hv=>⟨hfr.out v fun k h1 h2 h3=>(hv k (by omega) (by omega) (by omega) (by simp[World.setRow];omega)).trans (setRow_other _ _ _ _ (by omega)),HW1.out.rel v fun k h1 h2=>(hv k h1 (by omega) (by omega) (by simp[World.setRow];omega)).trans (setRow_other _ _ _ _ (by omega))⟩⟩
 case rest=>
 obtain⟨d1,L1,hrz,hrx,hres,hxz,hkz,HDZ⟩:=hcut;generalize wc=wz at *
 obtain⟨z1,z2⟩:=hrz.out;obtain⟨z3,z4⟩:=hrx.out;obtain⟨hxz1,hzl⟩:=hxz.out;have hz:=hres.out;have HXZ:=qH hxz1;have HGN:Hid (GRow kChk wz m x.net ds (some ⟨gn,0,none⟩) L.cn):=qH (by
  have h1:=HW2.out.net.ex (v:=wz) (fun k e=>hkz.out k (by have:=(HW2.out.net.row.block k e).1;omega) (HW2.out.blk k e)) (HEA.out.imp fun k hk=>hkz.out k hk.1 hk.2);rw[HAN.out]at h1;exact h1)
 have hgng:gn≠g:=by omega
 clear HD HD1 a0r a0f a0n a0c a0z a0l a1r a1f a1n a1c a1z a1l RW1 FW1 RX1 FX1 HX2 HCI1 HCK1 hrz hrx hres hxz hxz1 hkz;obtain⟨_,h11,h1,h2,h3,h4⟩:=keep1 (Below.refl _ _) z1 (by simp[worA]) z2;obtain⟨_,h5,h6,h7,h8,h9⟩:=keep1 (Below.refl _ _) z3 (by simp) z4;by_cases c1:k=3
 ·have q:(k !=3)=false:=by simp[c1]
  rw[if_neg (by simp[c1])]at hz;subst hz;go_wp2_with fail;go_ret;refine⟨rfl,fun _=>⟨{L with l:=L1},z1,z2,fun v hv=>?_⟩,HXZ.out,by omega⟩;have hdz:=HDZ.out v fun k a b c d=>hv k a c d;refine⟨HKR.out.1,HKR.out.2,hdz.2,hdz.1,hcn,HW2.out.ln,?_⟩;have hgr:=HGN.out.ex (v:=v) (fun k e=>by have e':gn=k:=(by simpa using e);exact hv k (by omega) (by omega) (by omega)) (HEA.out.imp fun k hk=>by
   have hk':m<=k∧k<top:=hk;exact hv k (by omega) (by omega) (by omega))
  have h10:=hgr.src.chs HBD.out;rw[<-HAN.out]at h10;exact h10
 have q:(k !=3)=true:=by simp[c1]
 rw[if_pos c1]at hz;subst hz;have hzlt:w.heap.size<wz.heap.size:=by omega
 have HWR:Hid (IntKind.i64.wrap ((i:Int)+1)=(i:Int)+1):=qH (IntWalk.i64_in _ (by omega));have RZ:=qH z1;have FZ:=qH z2;have RX1:=qH z3;have FX1:=qH z4;have HLE:Hid ((x.net.eraseIdx i).length=x.net.length-1):=qH (List.length_eraseIdx_of_lt hi);have KD:Hid (Calls Tryz.prog 103 #[.slice (some ⟨gn,0,none⟩) x.net.length L.cn,iv (i:Int),iv ((i:Int)+1)] wz.drew (DelRet wz.drew m x.net.length L.cn gn ((kChk.cells x.net ds).take (i*5)++(kChk.cells x.net ds).drop ((i+1)*5)))):=qH (delChunk_calls gn x.net.length L.cn i (kChk.cells x.net ds) wz.drew m HGN.out.row (cells_oneCell _ _) hi (by omega));have hgnw:gn≠w.heap.size:=by omega
 go_upto_region 9 with fail
 clear z1 z2 z3 z4 h11 h1 h2 h3 h4 h5 h6 h7 h8 h9;refine wM (some 49::some 50::some 51::some 52::some 53::some 54::some 55::some 56::some 57::some 58::some 59::some 60::some 61::none::[]) (none::none::none::none::none::none::none::none::none::none::some 0::none::none::some 1::[]) (.pointer (some ⟨g,0,none⟩)::.pointer (some ⟨g,0,none⟩)::.pointer (some ⟨g,0,none⟩)::.pointer (some ⟨g,38,none⟩)::.slice (some ⟨gn,0,none⟩) x.net.length L.cn::.pointer (some ⟨w.heap.size,1,none⟩)::iv (i:Int)::.pointer (some ⟨w.heap.size,1,none⟩)::iv (i:Int)::iv ((i:Int)+1)::undef::.pointer (some ⟨g,0,none⟩)::.pointer (some ⟨g,38,none⟩)::undef::[]) 2 (dhJ wz g gn m {x with d:=d1} {L with l:=L1} i ((kChk.cells x.net ds).take (i*5)++(kChk.cells x.net ds).drop ((i+1)*5))) 62 (rfl) ?_ ?_
 ·refine⟨?_,?_,?_,?_,?_,?_,?_,?_,?_,?_,?_,?_,?_,?_,trivial⟩
  ·intro done cv k1 a wq hw h hJ hn;have e1:=mO 0 (.pointer (some ⟨g,0,none⟩)) h;exact mx_move (ch_ev e1)
  ·intro done cv k2 a wq hw h hJ hn;have e1:=mO 0 (.pointer (some ⟨g,0,none⟩)) h;exact mx_move (ch_ev e1)
  ·intro done cv k1 a wq hw h hJ hn;have e1:=mN 1 50 h hw;go_simp
  ·intro done cv k2 a wq hw h hJ hn;have e1:=mN 2 51 h hw;go_simp
  ·intro done cv k1 a wq hw h hJ hn;have e1:=mN 3 52 h hw;have hk:=hn 13 _ 1 rfl rfl (by decide);obtain⟨r_,f_,c_⟩:=dhJ_row hk (by omega) RZ.out FZ.out (by simp[worA]) hJ;have h_:=HAN.out;go_simp
  ·intro done cv k2 a wq hw h hJ hn;exact x1ro
  ·intro done cv k1 a wq hw h hJ hn;have e1:=mN 5 54 h hw;exact x7pt
  ·intro done cv k2 a wq hw h hJ hn;exact x1ro
  ·intro done cv k1 a wq hw h hJ hn;have e1:=mN 7 56 h hw;exact x7pt
  ·intro done cv k2 a wq hw h hJ hn;have e1:=mN 8 57 h hw;have h_:=HWR.out;go_simp
  ·intro done cv a wq hw h hJ;have e1:=mN 4 53 h hw;have e55:=mN 6 55 h hw;have e58:=mN 9 58 h hw;obtain rfl:wq=wz.drew:=hJ;refine wp_call (vals:=#[.slice (some ⟨gn,0,none⟩) x.net.length L.cn,iv (i:Int),iv ((i:Int)+1)]) (by rw[List.map_toArray,List.map_cons,List.map_cons,List.map_cons,List.map_nil,ch_ev e1,ch_ev e55,ch_ev e58]) (enters_of Tryz.func103 (by kernel_rfl) rfl _ _) KD.out ?_;rintro e w' ⟨rfl,hown,hbel,hsz,hkk⟩;exact⟨_,rfl,_,rfl,by rw[HLE.out];simp,hown,hsz,hkk,(Below.refl _ _).drew.trans hbel⟩
  ·intro done cv k1 a wq hw h hJ hn;have e1:=mN 0 49 h hw;go_simp
  ·intro done cv k2 a wq hw h hJ hn;have e1:=mN 11 60 h hw;go_simp
  ·intro done cv a wq hw h hJ;have e1:=mN 12 61 h hw;have e59:=mx_cv (i:=10) (t:=59) h (hw 10 (by decide)) rfl rfl;obtain⟨y1,hown,hsz,hkk,hbel⟩:=hJ;rw[y1]at e59;obtain⟨e1_,e2_⟩:=rowOf_heap (hkk g (by omega));refine wp_ssc e1 e59 (cs:=worA {x with d:=d1} {L with l:=L1}) (e1_.trans RZ.out) (by go_simp) (e2_.trans FZ.out) ⟨undef,rfl,wq,hown,hsz,hkk,hbel,?_⟩;rw[worA_set_net]
 intro cv1 w2 hJ;obtain⟨w4,hown,hsz1,hkk,hbel1,rfl⟩:=hJ;simp only[mixAll,pA,mA,Nat.reduceAdd];have e1:=rowOf_heap (hkk g (by omega));have hp1:0<(rowOf w4 g).size:=by rw[e1.1,RZ.out];simp[worA]
 have hG1:=HGN.out.del hi hown hkk hsz1;have hE1:=HEA.out.del (i:=i);have hbd1:∀y∈x.net.eraseIdx i,ChkB y:=fun y hy=>HBD.out y (List.mem_of_mem_eraseIdx hy);have HG1:=qH hG1;have HE1:=qH hE1;have HB1:=qH hbd1;have HKK:=qH hkk;have HX1:Hid (Bex g base w w4):=qH ⟨HXZ.out.1.trans (hbel1.mono (Nat.zero_le _)),fun k h1 h2=>(hkk k (by omega)).trans (HXZ.out.2 k h1 h2)⟩;have r1:rowOf (w4.setRow g (worA {x with d:=d1,net:=x.net.eraseIdx i} {L with l:=L1,an:=some ⟨gn,0,none⟩,cn:=L.cn})) g=worA {x with d:=d1,net:=x.net.eraseIdx i} {L with l:=L1,an:=some ⟨gn,0,none⟩,cn:=L.cn}:=by rw[rowOf_setRow _ _ _ _ hp1,if_pos rfl]
 clear hown hbel1 hG1 hE1 hbd1 hkk;go_wp2_with fail;go_ret;refine⟨rfl,fun _=>⟨{L with l:=L1,an:=some ⟨gn,0,none⟩,cn:=L.cn},r1,?_,?_⟩,HX1.out.row (.inl rfl) _,?_⟩
 ·rw[frOf_setRow,e1.2];exact FZ.out
 ·intro v hv;have hb1:∀k,base<=k->k≠g->k<w4.heap.size->v.heap[k]?=w4.heap[k]?:=fun k h1 h11 h2=>(hv k h1 h11 (by simp[World.setRow];omega)).trans (setRow_other _ _ _ _ h11);have hbz:∀k,base<=k->k≠gn->k≠g->k<wz.heap.size->v.heap[k]?=wz.heap[k]?:=fun k h1 h2 h11 h3=>(hb1 k h1 h11 (by omega)).trans (HKK.out k h2);have hgr:=HG1.out.ex (v:=v) (fun k e=>by have e':gn=k:=(by simpa using e);exact hb1 k (by omega) (by omega) (by omega)) (HE1.out.imp fun k hk=>by
   have hk':m<=k∧k<top:=hk;exact hb1 k (by omega) (by omega) (by omega))
  exact⟨HKR.out.1,HKR.out.2,(HDZ.out v hbz).2,(HDZ.out v hbz).1,hgr.row.le,by show (x.net.eraseIdx i).length<=_;rw[HLE.out];omega,hgr.src.chs HB1.out⟩
 simp[World.setRow];omega
theorem GRow.append{t:List Chk}{es:List (Option Addr×Nat)}{B A':OA}{e c' b2:Nat}(h:GRow kChk w base l ds A c)(g:GRow kChk w b2 t es B e)(hab:Each kChk t es (fun k=>A.map (·.block)≠some k))
  (h1:Own w' base 61 5 A' (l.length+t.length) c' (kChk.cells l ds++kChk.cells t es)) (hg:w.grownBy w' (A.map (·.block))) (hb:Below base w w') (hor:A'.map (·.block)=A.map (·.block)∨A'.map (·.block)=some w.heap.size):GRow kChk w' base (l++t) (ds++es) A' c':=by
 have hl:=h.len;have ht:=g.len;refine h.remake (by simp;omega) ?_ hb (fun k hk hn=>hg.block k hk (fun e=>hn e.symm)) ?_ fun i o d hi hd=>?_
 ·rw[cells_append _ _ _ _ hl,List.length_append];exact h1
 ·rcases hor with h|h
  ·exact .inl h
  ·exact x55s
 by_cases hil:i<l.length
 ·rw[List.getElem?_append_left hil]at hi;rw[List.getElem?_append_left (by omega)]at hd;exact .inl ⟨i,hi,hd⟩
 rw[List.getElem?_append_right (by omega)]at hi;rw[List.getElem?_append_right (by omega),show i-ds.length=i-l.length by omega]at hd;have h1:=g.data _ o d hi hd;exact .inr ⟨h1.1,h1.2,fun hx k hk=>hab _ o d hi hd hx k hk⟩
theorem Each.append{t:List Chk}{es:List (Option Addr×Nat)}{P:Nat->Prop}(h:Each kChk l ds P)(g:Each kChk t es P)(hl:ds.length=l.length):Each kChk (l++t) (ds++es) P:=fun i o d hi hd hx k hk=>by
 by_cases hil:i<l.length
 ·rw[List.getElem?_append_left hil]at hi;rw[List.getElem?_append_left (by omega)]at hd;exact h _ o d hi hd hx k hk
 rw[List.getElem?_append_right (by omega)]at hi;rw[List.getElem?_append_right (by omega),show i-ds.length=i-l.length by omega]at hd;exact g _ o d hi hd hx k hk
theorem send_calls(g base m top:Nat)(ds:List (Option Addr×Nat))(t:Int)(x:Wor)(L:WLoc)(w:World)(hr:rowOf w g=worA x L)(hf:frOf w g=(0,0))(hg:g<base∨top<=g)(h:WorAt w base m top ds x L)(hok:WorOk x)(hit:I64 t):Calls Tryz.prog 55 #[.pointer (some ⟨g,0,none⟩),iv t] w (HaRet w g base (worSend x t).1 (worSend x t).2):=by
 have hlt:g<w.heap.size:=row_lt (w:=w) (by rw[hr];simp[worA]);have hm3:=h.h3;have hm2:=h.h2;have hm1:=h.h1;have hrec:=rec_ok hok.dev;have HREC:=qH hrec;have hact:=rec_active hrec;have HIT:=qH hit;have HW:=qH h;have K1:=qH (fun w=>read_ok x.d.c0 x.d.c1 w hok.dev.cops);obtain⟨rk,hrk⟩:=eX ((recRead x.d.c0 x.d.c1).2);have hre:(recRead x.d.c0 x.d.c1).1=x.d.rec_:=rfl;rw[hrk,hre]at K1;have hdef:worSend x t=if t<1∨(x.rel.length:Int)<t∨(x.rel.length:Int)<x.d.good then (Wor.zero,4)
  else if (patMake (sumOn 1) x.d.good t (relAt x.rel x.d.good) (relAt x.rel t)).2≠0 then (Wor.zero,(patMake (sumOn 1) x.d.good t (relAt x.rel x.d.good) (relAt x.rel t)).2)
  else if (chkCut (patMake (sumOn 1) x.d.good t (relAt x.rel x.d.good) (relAt x.rel t)).1).2≠0 then (Wor.zero,(chkCut (patMake (sumOn 1) x.d.good t (relAt x.rel x.d.good) (relAt x.rel t)).1).2)
  else if 120<x.net.length+(chkCut (patMake (sumOn 1) x.d.good t (relAt x.rel x.d.good) (relAt x.rel t)).1).1.length then (Wor.zero,1)
  else ({x with net:=x.net++(chkCut (patMake (sumOn 1) x.d.good t (relAt x.rel x.d.good) (relAt x.rel t)).1).1},0):=rfl
 have HD:=qH hdef;generalize worSend x t=res at *
 obtain⟨a0r,a0f,a0n,a0c,a0z,a0l⟩:=keep1 (bW w) hr (by go_simp) hf;clear hdef hrec hrk hre hr hf h hit;go_enter Tryz.func55,Tryz.ntmps55;go_wp2_with fail;refine(K1.out _).mono ?_;rintro e w1 ⟨rfl,hb⟩;obtain⟨a0r,a0f,a0n,a0c,a0z,a0l⟩:=keep1 (g:=g) (cs:=worA x L) hb a0r (by go_simp) a0f;have hs1:=hb.size;have HX1:Hid (Bex g base w w1):=qH ((Bex.refl g base w).below hb (by omega) (by omega));have HW1:Hid (WorAt w1 base m top ds x L):=qH (HW.out.same (fun k a b=>hb.block k (by omega)) (by omega));clear hb HW;rcases hact with hk|hk
 first|case' inl=>have T2:Hid True:=qH trivial|case' pos=>have T2:Hid True:=qH trivial|case' refine_1=>have T2:Hid True:=qH trivial
 iterate 2
  ·first
    |
     revert T2;intro T2;have hgood:x.d.good=x.d.rec_.a.ver:=by unfold Dev.good;rw[hk,at_0]
    |have hgood:x.d.good=x.d.rec_.b.ver:=by unfold Dev.good;rw[hk,at_1]
   have HGD:=qH hgood
   first
    |
     revert T2;intro T2;obtain⟨fv,hfv⟩:=eX (x.d.rec_.a.ver)
    |obtain⟨fv,hfv⟩:∃fv,x.d.rec_.b.ver=fv:=⟨_,rfl⟩
   have hfv1:1<=fv∧fv<=30:=by
    have hp:=recCheck_parts HREC.out
    first
     |
      revert T2;intro T2;have hi:=hp.2.1
     |have hi:=hp.2.2.1
    have hv:=hp.2.2.2.1
    first
     |
      revert T2;intro T2;rw[hk,at_0]at hv
     |rw[hk,at_1]at hv
    unfold infCheck at hi
    first
     |
      revert T2;intro T2;by_cases hh:InfRange x.d.rec_.a
     |by_cases hh:InfRange x.d.rec_.b
    ·unfold InfRange at hh;omega
    rw[if_neg hh]at hi;exact absurd hi (by decide)
   rw[hgood,hfv]at HD;have HFV:=qH hfv;have hfv1':=hfv1;clear hgood;by_cases c1:t<1∨(x.rel.length:Int)<t∨(x.rel.length:Int)<fv
   ·have hz:res=(Wor.zero,4):=HD.out.trans (if_pos c1);subst hz;have hsx:w.heap.size<=(w1.alloc (.cells (recA x.d.rec_) 29)).heap.size:=by simp;omega
    by_cases d1:t<1
    ·clear c1;go_wp2_with fail;go_ret;exact⟨rfl,fun e=>absurd e (by decide),HX1.out.alloc (by omega) (by omega) _,hsx⟩
    by_cases d2:(x.rel.length:Int)<t
    ·clear c1;go_wp2_with fail;go_ret;exact⟨rfl,fun e=>absurd e (by decide),HX1.out.alloc (by omega) (by omega) _,hsx⟩
    have d3:(x.rel.length:Int)<fv:=(c1.resolve_left d1).resolve_left d2;clear c1;go_wp2_with fail;go_ret;exact⟨rfl,fun e=>absurd e (by decide),HX1.out.alloc (by omega) (by omega) _,hsx⟩
   have HD2:=qH (HD.out.trans (if_neg c1));have d1:¬t<1:=fun e=>c1 (.inl e);have d2:¬(x.rel.length:Int)<t:=fun e=>c1 (.inr (.inl e));have d3:¬(x.rel.length:Int)<fv:=fun e=>c1 (.inr (.inr e));clear c1 HD;obtain⟨fi,hfi⟩:∃fi:Nat,fv=(fi:Int)+1:=⟨(fv-1).toNat,by omega⟩;obtain⟨ti,hti⟩:∃ti:Nat,t=(ti:Int)+1:=⟨(t-1).toNat,by omega⟩;have hfl:fi<x.rel.length:=by omega
   have htl:ti<x.rel.length:=by omega
   have hr1:relAt x.rel fv=x.rel[fi]:=by unfold relAt;rw[show (fv-1).toNat=fi by omega];simp[hfl]
   have hr2:relAt x.rel t=x.rel[ti]:=by unfold relAt;rw[show (t-1).toNat=ti by omega];simp[htl]
   rw[hr1,hr2]at HD2;have HFI:=qH hfi;have HTI:=qH hti;clear hfi hti hr1 hr2;go_wp2_with fail;clear hk hfv;obtain⟨w3,hw3⟩:=eX (w1.alloc (.cells (recA x.d.rec_) 29));have z1:rowOf w3 g=worA x L:=by rw[<-hw3,rowOf_alloc,if_neg (by omega)];exact a0r
   have z2:frOf w3 g=(0,0):=by rw[<-hw3,frOf_alloc,if_neg (by omega)];exact a0f
   have hsz3:w3.heap.size=w1.heap.size+1:=by rw[<-hw3];simp
   have HX3:Hid (Bex g base w w3):=qH (by rw[<-hw3];exact HX1.out.alloc (by omega) (by omega) _);have HW3:Hid (WorAt w3 base m top ds x L):=qH (HW1.out.same (fun k a b=>by rw[<-hw3];exact Below.heap_alloc w1 _ k (by omega)) (by omega));try rw[hw3]
   have RW3:=qH z1;have FW3:=qH z2;obtain⟨br,orr,hAr,hbr,cs1,hcl1,hcc1,B1,e1,rfl,hd1,hd2,hd3⟩:=HW3.out.rel.now fi hfl;obtain⟨br2,orr2,hAr2,hbr2,cs2,hcl2,hcc2,B2,e2,rfl,hd4,hd5,hd6⟩:=HW3.out.rel.now ti htl;rw[hAr]at hAr2;injection hAr2 with hAr2;injection hAr2 with q1 q2;subst q1 q2;obtain⟨b1,hb1⟩:=eX (x.rel[fi]);obtain⟨b2,hb2⟩:=eX (x.rel[ti]);rw[hb1]at hcc1 hd1 hd3 HD2;rw[hb2]at hcc2 hd4 hd6 HD2;have HC1:Hid (w3.cell? ⟨br,orr+fi,none⟩=some (.slice B1 b1.length e1)):=qH (by have:=hcc1 0 (by simp);simpa using this);have HC2:Hid (w3.cell? ⟨br,orr+ti,none⟩=some (.slice B2 b2.length e2)):=qH (by have:=hcc2 0 (by simp);simpa using this);have HLB:Hid (b1.length<=64∧b2.length<=64):=qH (by
    have hre:=(relCheck_ok.1 hok.rel).2.2;exact⟨by rw[<-hb1];exact hre _ (List.getElem_mem hfl),by rw[<-hb2];exact hre _ (List.getElem_mem htl)⟩)
   have HB1:Hid (Bts w3 B1 b1):=qH hd3;have HB2:Hid (Bts w3 B2 b2):=qH hd6;have HAR:=qH hAr;have HBR:=qH hbr;obtain⟨⟨p,en⟩,hpm⟩:∃z,patMake (sumOn 1) fv t b1 b2=z:=⟨_,rfl⟩;rw[hpm]at HD2;have KM:Hid (∀wq,Below w3.heap.size w3 wq->Calls Tryz.prog 100 #[iv fv,iv t,.slice B1 b1.length e1,.slice B2 b2.length e2] wq (PaRet wq p en)):=qH (fun wq hq=>by
    have h9:=patMake_fit B1 B2 e1 e2 fv t b1 b2 wq ⟨by omega,by omega⟩ HIT.out HLB.out.1 HLB.out.2 (HB1.out.stays hq) (HB2.out.stays hq);rw[hpm]at h9;exact h9)
   have hkr:=HW3.out.kr;have hr30:=(relCheck_ok.1 hok.rel).2.1;have HW1':Hid (IntKind.i64.wrap (fv-1)=(fi:Int)):=qH (by rw[HFI.out,show (fi:Int)+1-1=(fi:Int) by omega];exact IntWalk.i64_in _ (by omega));have HW2':Hid (IntKind.i64.wrap (t-1)=(ti:Int)):=qH (by rw[HTI.out,show (ti:Int)+1-1=(ti:Int) by omega];exact IntWalk.i64_in _ (by omega));clear hcc1 hcc2 hd1 hd2 hd3 hd4 hd5 hd6 hcl1 hcl2 hAr hbr hbr2 hb1 hb2 hpm hw3 z1 z2 a0r a0f a0n a0c a0z a0l;refine wF (some 51::some 52::some 53::some 54::some 55::some 56::some 57::some 58::some 59::some 60::some 61::some 62::some 63::some 64::some 65::some 66::some 67::some 68::some 69::some 50::some 70::some 71::some 9::none::some 7::[]) (false::false::false::false::false::false::false::false::false::false::false::false::false::false::false::false::false::false::true::true::true::true::true::true::true::[]) (iv fv::iv t::.pointer (some ⟨g,0,none⟩)::.pointer (some ⟨g,0,none⟩)::.pointer (some ⟨g,0,none⟩)::.slice L.ar x.rel.length L.cr::iv fv::iv (fi:Int)::.pointer (some ⟨br,orr+fi,none⟩)::.slice B1 b1.length e1::.pointer (some ⟨g,0,none⟩)::.pointer (some ⟨g,0,none⟩)::.pointer (some ⟨g,0,none⟩)::.slice L.ar x.rel.length L.cr::iv t::iv (ti:Int)::.pointer (some ⟨br,orr+ti,none⟩)::.slice B2 b2.length e2::undef::undef::undef::undef::undef::undef::undef::[]) (cbJ w3 18 19 20 21 22 23 24 (fun q:Option Addr×Nat=>patA p.from_ p.to_ p.old p.new_ p.size q.1 p.ops.length q.2) (patA 0 0 0 0 0 none 0 0) en (fun q b v=>Fresh b v (fun u=>PatIn u p q.1 q.2))) 101 (cbJ_start ((none,0):Option Addr×Nat)) ?_ ?_
   ·refine⟨?_,?_,?_,?_,?_,?_,?_,?_,?_,?_,?_,?_,?_,?_,?_,?_,?_,?_,?_,?_,?_,?_,?_,?_,?_,trivial⟩;all_goals intro done cv a wq hn hw hcl h hJ
    ·have e8:=fO 8 (iv fv) h;exact mx_move (ch_ev e8)
    ·have e1:=fO 1 (iv t) h;exact mx_move (ch_ev e1)
    ·have e0:=fO 0 (.pointer (some ⟨g,0,none⟩)) h;exact mx_move (ch_ev e0)
    ·have e53:=fN 2 53 h hw;go_simp
    ·have e54:=fN 3 54 h hw;go_simp
    ·have e55:=fN 4 55 h hw;obtain⟨r_,f_,n_,c_,z_,l_⟩:=kq (cbJ_bel hJ) RW3 FW3;go_simp
    ·have e8:=fO 8 (iv fv) h;exact mx_move (ch_ev e8)
    ·have e57:=fN 6 57 h hw;have h_:=HW1'.out;go_simp
    ·have e56:=fN 5 56 h hw;have e58:=fN 7 58 h hw;have h_:=HAR.out;have h2_:(fi:Int)<(x.rel.length:Int):=by omega
     have h3_:(x.rel.length:Int)<=(L.cr:Int):=by omega
     go_simp
    ·have e59:=fN 8 59 h hw;have hq_:=((cbJ_bel hJ).cell (p:=⟨br,orr+fi,none⟩) HBR.out).trans HC1.out;go_simp
    ·have e0:=fO 0 (.pointer (some ⟨g,0,none⟩)) h;exact mx_move (ch_ev e0)
    ·have e61:=fN 10 61 h hw;go_simp
    ·have e62:=fN 11 62 h hw;go_simp
    ·have e63:=fN 12 63 h hw;obtain⟨r_,f_,n_,c_,z_,l_⟩:=kq (cbJ_bel hJ) RW3 FW3;go_simp
    ·have e1:=fO 1 (iv t) h;exact mx_move (ch_ev e1)
    ·have e65:=fN 14 65 h hw;have h_:=HW2'.out;go_simp
    ·have e64:=fN 13 64 h hw;have e66:=fN 15 66 h hw;have h_:=HAR.out;have h2_:(ti:Int)<(x.rel.length:Int):=by omega
     have h3_:(x.rel.length:Int)<=(L.cr:Int):=by omega
     go_simp
    ·have e67:=fN 16 67 h hw;have hq_:=((cbJ_bel hJ).cell (p:=⟨br,orr+ti,none⟩) HBR.out).trans HC2.out;go_simp
    ·have e51:=fN 0 51 h hw;have e52:=fN 1 52 h hw;have e60:=fN 9 60 h hw;have e68:=fN 17 68 h hw;have n18:=hn;have n19:=nW 19 18 hcl n18;have n20:=nW 20 19 hcl n19;have n21:=nW 21 19 hcl n19;have n24:=nW 24 21 hcl n21;have n23:=nW 23 20 hcl n20;have hbq:=cbJ_bel hJ;refine wp_call (vals:=#[iv fv,iv t,.slice B1 b1.length e1,.slice B2 b2.length e2]) (by rw[List.map_toArray,List.map_cons,List.map_cons,List.map_cons,List.map_cons,List.map_nil,ch_ev e51,ch_ev e52,ch_ev e60,ch_ev e68]) (enters_of Tryz.func100 (by kernel_rfl) rfl _ _) (KM.out _ hbq) ?_;rintro e w' ⟨A3,c3,rfl,hfr,hbel⟩;exact⟨_,rfl,_,rfl,cbJ_c (by simp[maskB,n19]) (by simp[maskB,n20]) (by simp[maskB,n21]) (by simp[maskB,n24]) (by simp[maskB,n23]) (by decide) (by decide) (by decide) (by decide) (by decide) (by decide) hJ (x:=(A3,c3)) hfr hbel⟩
    ·have e69:=fr_cv (i:=18) (t:=69) h (hw 18 (by decide)) rfl rfl;have m18:=hw 18 (by decide);refine wp_val (v:=cv 18) (mx_move (ch_ev e69)) ⟨_,rfl,cbJ_k (by decide) (by decide) (by decide) hJ (fun x q _ _ _=>⟨fun _=>q (by simp[maskB,m18]),fun h=>absurd h (by decide),fun h=>absurd h (by decide),fun h=>absurd h (by decide)⟩)⟩
    ·have e50:=fr_cv (i:=19) (t:=50) h (hw 19 (by decide)) rfl rfl;have m19:=hw 19 (by decide);obtain⟨x,b_,gb_,w2_,hj_⟩:=hJ;have y:=hj_.v1 (by simp[maskB,m19]);rw[y]at e50;refine wp_val (v:=.agg ((fun q:Option Addr×Nat=>patA p.from_ p.to_ p.old p.new_ p.size q.1 p.ops.length q.2) x)) (by go_simp) ⟨_,rfl,cbJ_k (by decide) (by decide) (by decide) ⟨x,b_,gb_,w2_,hj_⟩ (fun x3 _ h8 _ _=>⟨fun h=>absurd h (by decide),fun _=>by have q9:=h8 (by simp[maskB,m19]);rw[y]at q9;simp at q9⊢;first|exact q9|exact q9.symm|trivial,fun h=>absurd h (by decide),fun h=>absurd h (by decide)⟩)⟩
    ·have e50:=fr_cv (i:=19) (t:=50) h (hw 19 (by decide)) rfl rfl;have m19:=hw 19 (by decide);obtain⟨x,b_,gb_,w2_,hj_⟩:=hJ;have y:=hj_.v1 (by simp[maskB,m19]);rw[y]at e50;refine wp_val (v:=iv en) (by go_simp) ⟨_,rfl,cbJ_k (by decide) (by decide) (by decide) ⟨x,b_,gb_,w2_,hj_⟩ (fun x3 _ h8 _ _=>⟨fun h=>absurd h (by decide),fun h=>absurd h (by decide),fun _=>rfl,fun h=>absurd h (by decide)⟩)⟩
    ·have n22:=hn;have n23:=nW 23 22 hcl n22;refine wp_alloc (zr:=patA 0 0 0 0 0 none 0 0) (fun ev=>by go_simp) ⟨_,rfl,cbJ_a (by go_simp) (by simp[maskB,n22]) (by simp[maskB,n23]) (by decide) (by decide) (by decide) (by decide) (by decide) (by decide) hJ⟩
    ·have e9:=fr_cv (i:=22) (t:=9) h (hw 22 (by decide)) rfl rfl;have e70:=fr_cv (i:=20) (t:=70) h (hw 20 (by decide)) rfl rfl;have n23:=hn;have m22:=hw 22 (by decide);have m20:=hw 20 (by decide);have m19:=hcl 20 _ rfl m20 19 (by decide);have m18:=hcl 19 _ rfl m19 18 (by decide);obtain⟨x,gb_,y1,y2,r_,f_,hJ2⟩:=cbJ_s (v:=undef) (by go_simp) (by simp[maskB,m18]) (by simp[maskB,n23]) (by simp[maskB,m22]) (by simp[maskB,m20]) (by decide) (by decide) (by decide) (by decide) (by decide) (by decide) hJ;rw[y1]at e9;rw[y2]at e70;refine wp_srow e9 e70 (by go_simp) (by go_simp) r_ (by go_simp) f_ (by go_simp) ⟨undef,rfl,?_⟩;rw[splice_all _ _ (by go_simp)];exact hJ2
    ·have e71:=fr_cv (i:=21) (t:=71) h (hw 21 (by decide)) rfl rfl;have m21:=hw 21 (by decide);obtain⟨x,b_,gb_,w2_,hj_⟩:=hJ;have y:=hj_.v3 (by simp[maskB,m21]);rw[y]at e71;refine wp_asg (v:=iv en) (ch_ev e71) ⟨_,rfl,cbJ_k (by decide) (by decide) (by decide) ⟨x,b_,gb_,w2_,hj_⟩ (fun x3 _ _ _ _=>⟨fun h=>absurd h (by decide),fun h=>absurd h (by decide),fun h=>absurd h (by decide),fun _=>rfl⟩)⟩
   intro dn cv w5 hall hJ;obtain⟨⟨A3,c3⟩,b5,gb,w4,y18,g4,g5,g6,g7,g8,rb,fb,hgb1,hgb2,hbel,hb5,hfr,hkp,hsz4,hap⟩:=cbJ_end (hall 18 rfl (by decide)) (hall 19 rfl (by decide)) (hall 20 rfl (by decide)) (hall 21 rfl (by decide)) (hall 24 rfl (by decide)) (hall 22 rfl (by decide)) (hall 23 rfl (by decide)) hJ;simp only[freeAll,pA,fA,Bool.false_eq_true,if_true,if_false,reduceIte,Nat.reduceAdd];rw[y18,g4,g5,g6,g7,g8];dsimp only at rb hfr;have hs4:=hbel.size;obtain⟨a0r,a0f,a0n,a0c,a0z,a0l⟩:=keep1 hbel RW3.out (by go_simp) FW3.out;have HX5:=qH (HX3.out.below hbel (by omega) (by omega));have HW5:Hid (WorAt w5 base m top ds x L):=qH (HW3.out.same (fun k a b=>hbel.block k (by omega)) (by omega));have HP5:Hid (PatIn w5 p A3 c3):=qH (Fresh.kp hfr hkp nl hsz4).now;have HRB:=qH rb;have HFB:=qH fb;clear hJ hall y18 g4 g5 g6 g7 g8 hfr hbel KM RW3 FW3 hkp hap rb fb;by_cases c2:en≠0
   ·have hz:res=(Wor.zero,en):=HD2.out.trans (if_pos c2);subst hz;have q:(en !=0)=true:=by simp[c2]
    have HC:=qH c2;clear c2;go_wp2_with fail;go_ret;exact⟨rfl,fun e=>absurd e HC.out,HX5.out,by omega⟩
   have c2:=Decidable.not_not.1 c2;subst c2;have HD3:=qH (HD2.out.trans (if_neg (by simp)));clear HD2;dsimp only at HD3;obtain⟨⟨l,e3⟩,hct⟩:∃z,chkCut p=z:=⟨_,rfl⟩;rw[hct]at HD3;have KC:=qH (chkCut_calls A3 c3 p w5 HP5.out);rw[hct]at KC;have HBL:Hid (∀y∈l,ChkB y):=qH (fun y hy=>by
    have h9:l=(chkCut p).1:=by rw[hct]
    rw[h9]at hy;exact cut_bound hy)
   have q0:((0:Int) !=0)=false:=rfl;have r0:=HRB.out;have r1:=HFB.out;clear hct;go_wp2_with fail;refine KC.out.mono ?_;rintro e w6 ⟨A4,c4,ds4,rfl,hrow,heach,hb⟩;obtain⟨a0r,a0f,a0n,a0c,a0z,a0l⟩:=keep1 (g:=g) (cs:=worA x L) hb a0r (by go_simp) a0f;have hs6:=hb.size;have HX6:=qH (HX5.out.below hb (by omega) (by omega));have HW6:Hid (WorAt w6 base m top ds x L):=qH (HW5.out.same (fun k a b=>hb.block k (by omega)) (by omega));have HR4:=qH hrow;have HE4:=qH heach;clear hb hrow heach KC r0 r1;by_cases k3:e3≠0
   ·have hz:res=(Wor.zero,e3):=HD3.out.trans (if_pos k3);subst hz;have q:(e3 !=0)=true:=by simp[k3]
    have HC:=qH k3;clear k3;go_wp2_with fail;go_ret;exact⟨rfl,fun e=>absurd e HC.out,HX6.out,by omega⟩
   have k3:=Decidable.not_not.1 k3;subst k3;have HD4:=qH (HD3.out.trans (if_neg (by simp)));clear HD3;have hnl:=HW6.out.ln;have hwr:IntKind.i64.wrap (120-(x.net.length:Int))=120-(x.net.length:Int):=IntWalk.i64_in _ (by omega);by_cases k4:120<x.net.length+l.length
   ·have hz:res=(Wor.zero,1):=HD4.out.trans (if_pos k4);subst hz;have q:120-(x.net.length:Int)<(l.length:Int):=by omega
    have q':120<(l.length:Int)+(x.net.length:Int):=by omega
    go_wp2_with fail;go_ret;exact⟨rfl,fun e=>absurd e (by decide),HX6.out,by omega⟩
   have hz:res=({x with net:=x.net++l},0):=HD4.out.trans (if_neg k4);subst hz;have q:¬120-(x.net.length:Int)<(l.length:Int):=by omega
   have hown:=HW6.out.net.row;have hsrc:=HR4.out.row.src;have hcl4:(kChk.cells l ds4).length=l.length*5:=cells_len _ _ HR4.out.len;have hone:=cells_oneCell (K:=kChk) l ds4;have hm6:m<=w6.heap.size:=by omega
   have hlim:x.net.length+l.length<=137438953472:=by omega
   have hgA:some g≠L.an.map (·.block):=fun e=>by
    have e1:=HW6.out.blk g e.symm;have e2:=(HW6.out.net.row.block g e.symm).1;omega
   go_wp2_with (at_builtin;go_must (refine wpList_app w6 rfl _ _ 33 rfl elChunks m L.an x.net.length L.cn (kChk.cells x.net ds) rfl hown A4 l.length c4 (kChk.cells l ds4) rfl hsrc hcl4 hone hlim hm6 ?_;intro A' c' w7 hown7 hg7 hb7 hor7;have b7r:rowOf w7 g=worA x L:=(rowOf_heap (hg7.block g a0l (fun e=>hgA e))).1.trans a0r;have b7f:frOf w7 g=(0,0):=(rowOf_heap (hg7.block g a0l (fun e=>hgA e))).2.trans a0f;have b7c:∀j,w7.cell? ⟨g,j,none⟩=(worA x L)[j]?:=(fun j=>by rw[cell_row (by rw[b7r];simp[worA]),b7r]);have b7z:∀j,w7.frozen? ⟨g,j,none⟩=false:=(fun j=>frozen_row (by rw[b7r];simp[worA]) b7f j)));have hG7:GRow kChk w7 m (x.net++l) (ds++ds4) A' c':=HW6.out.net.append HR4.out (fun i o d h1 h2 hx k hk e=>by
    have h9:=HE4.out i o d h1 h2 hx k hk;have h8:=HW6.out.blk k e;omega) hown7 hg7 hb7 hor7
   have hE7:Each kChk (x.net++l) (ds++ds4) (fun k=>m<=k∧k≠g∧k<w6.heap.size):=(HW6.out.each.imp fun k hk=>by
    have hk':m<=k∧k<top:=hk;omega).append (fun i o d h1 h2 hx k hk=>by
    have h9:w5.heap.size<=k:=HE4.out i o d h1 h2 hx k hk;have h8:=HR4.out.src.each i o d h1 h2 hx k hk;omega) HW6.out.net.len
   have hblk7:∀k,A'.map (·.block)=some k->m<=k∧k≠g:=fun k e=>by
    rcases hor7 with h9|h9
    ·rw[h9]at e;have e1:=HW6.out.blk k e;have e2:=(HW6.out.net.row.block k e).1;omega
    rw[h9]at e;injection e with e;omega
   have hnl2:(x.net++l).length=x.net.length+l.length:=List.length_append;have hrow8:rowOf (w7.setCell ⟨g,38,none⟩ (.slice A' (x.net.length+l.length) c')) g=worA {x with net:=x.net++l} {L with an:=A',cn:=c'}:=by
    rw[rowOf_setCell,if_pos rfl,b7r,<-hnl2,worA_set_net]
   have hs7:=hb7.size;have HG7:=qH hG7;have HE7:=qH hE7;have HBK:=qH hblk7;have HB7:Hid (∀y∈x.net++l,ChkB y):=qH (fun y hy=>by
    rcases List.mem_append.1 hy with hy|hy
    ·exact HW6.out.bd y hy
    exact HBL.out y hy)
   have HX7:Hid (Bex g base w w7):=qH ⟨HX6.out.1.trans (hb7.mono (Nat.zero_le _)),fun k h1 h2=>(hb7.block k (by omega)).trans (HX6.out.2 k h1 h2)⟩;clear hown7 hg7 hor7 hG7 hE7 hblk7;go_ret;refine⟨rfl,fun _=>⟨{L with an:=A',cn:=c'},hrow8,by rw[frOf_setCell];exact b7f,?_⟩,?_,?_⟩
   ·intro v hv;have hb8:∀k,base<=k->k≠g->k<w7.heap.size->v.heap[k]?=w7.heap[k]?:=fun k h1 h0 h2=>(hv k h1 h0 (by simp;omega)).trans (Below.heap_setCell _ _ _ _ h0);have hbm:∀k,base<=k->k<m->v.heap[k]?=w6.heap[k]?:=fun k h1 h2=>(hb8 k h1 (by omega) (by omega)).trans (hb7.block k h2);have hgr:=HG7.out.ex (v:=v) (fun k e=>by
     have h9:=HBK.out k e;have h8:=(HG7.out.row.block k e).2;exact hb8 k (by omega) h9.2 h8) (HE7.out.imp fun k hk=>by
     have hk':m<=k∧k≠g∧k<w6.heap.size:=hk;exact hb8 k (by omega) hk'.2.1 (by omega))
    exact⟨HW6.out.kr,HW6.out.lr,HW6.out.rel v hbm,HW6.out.dev v hbm,hgr.row.le,by show (x.net++l).length<=_;rw[hnl2];omega,hgr.src.chs HB7.out⟩
   ·exact⟨HX7.out.1.setCell (p:=⟨g,38,none⟩) (Nat.zero_le _) _,fun k h1 h2=>(Below.heap_setCell _ _ _ _ (by show k≠g;omega)).trans (HX7.out.2 k h1 h2)⟩
   simp;omega
theorem x05s(h:Y:=by
 intro done cv k1 a wq hw h hJ hn;have e1:=mO 1 (.pointer (some ⟨w.heap.size,0,none⟩)) h;go_simp):Y:=h
theorem splice_oth(r:Rec){a a':Nat}(ha:r.active=(a:Int))(h:a+a'=1):splice (recA r) (5+a'*3) (infA Inf.zero)=recA (r.setOther Inf.zero):=by
 exact x7dr
theorem devOpen_bad(d:Dev)(L:DLoc)(w:World)(h:DevIn w d L)  (hne:devReady d≠0):Calls Tryz.prog 57 #[.agg (devA d L)] w (DvRet w Dev.zero (devReady d)):=by
 have hba:Below w.heap.size w ((w.alloc (.cells (devA d L) 38)).alloc (.cells (devA Dev.zero DLoc.zero) 38)):=bA (bA (Below.refl _ _) _) _;have HBA:=qH hba;have HIN:=qH h;have KB:=qH (fun w h=>ready_bad d L w h hne);have q:(devReady d !=0)=true:=by simp[hne]
 generalize devReady d=n at *
 clear hne h hba;go_enter Tryz.func57,Tryz.ntmps57;go_wp2_with fail;refine(KB.out _ (HIN.out.stays HBA.out)).mono ?_;rintro e w1 ⟨rfl,hb1⟩;have a2:=kp (w.heap.size) (devA d L) hb1;have a1:=kp (w.heap.size+1) (devA Dev.zero DLoc.zero) hb1;have HB1:=bT HBA hb1;clear hb1;exact x5r8
theorem devOpen_ok(d:Dev)(L:DLoc)(w:World)(h:DevIn w d L)  (hz:devReady d=0):Calls Tryz.prog 57 #[.agg (devA d L)] w (DvRet w (devOpen d).1 (devOpen d).2):=by
 have hba:Below w.heap.size w ((w.alloc (.cells (devA d L) 38)).alloc (.cells (devA Dev.zero DLoc.zero) 38)):=bA (bA (Below.refl _ _) _) _;have HBA:=qH hba;have HIN:=qH h;have KR:=qH (fun w h=>ready_ok d L w h hz);have hdef:devOpen d=if d.busy=true∨d.rec_.trying=true then (Dev.zero,5)
   else if (chkJoin d.got).2≠0 then (Dev.zero,(chkJoin d.got).2)
   else if (chkJoin d.got).1.from_≠(d.rec_.at_ d.rec_.active).ver∨(chkJoin d.got).1.to_<d.rec_.floor then (Dev.zero,4)
   else if (patDo (sumOn 1) (chkJoin d.got).1 (d.image d.rec_.active d.rec_)).2≠0 then (Dev.zero,(patDo (sumOn 1) (chkJoin d.got).1 (d.image d.rec_.active d.rec_)).2)
   else if (recWrite d.c0 d.c1 (d.rec_.setOther Inf.zero) false).2≠0 then (Dev.zero,(recWrite d.c0 d.c1 (d.rec_.setOther Inf.zero) false).2)
   else ({d with c0:=(recWrite d.c0 d.c1 (d.rec_.setOther Inf.zero) false).1.1,c1:=(recWrite d.c0 d.c1 (d.rec_.setOther Inf.zero) false).1.2,busy:=true,job:=(chkJoin d.got).1,done:=0,got:=[]},0):=by unfold devOpen;rw[if_neg (by omega)];rfl
 obtain⟨hok,hup⟩:=devReady_ok.1 hz;have hrec:=rec_ok hok;have hact:=rec_active hrec;have HOK:=qH hok;have HREC:=qH hrec;have HLG:=qH h.lg;have KJ:=qH (fun A c w hs=>chkJoin_calls A c d.got w HLG.out hs);obtain⟨⟨p,e2⟩,hq⟩:∃y,chkJoin d.got=y:=⟨_,rfl⟩;rw[hq]at hdef KJ;dsimp only at hdef KJ;obtain⟨⟨⟨p1,p2⟩,e3⟩,hw⟩:∃y,recWrite d.c0 d.c1 (d.rec_.setOther Inf.zero) false=y:=⟨_,rfl⟩;have KW:=qH (fun w=>write_calls d.c0 d.c1 (d.rec_.setOther Inf.zero) false w);rw[hw]at hdef KW;dsimp only at hdef KW;have HD:=qH hdef;generalize devOpen d=res at *
 clear hz h hba hdef hok hrec hup hq hw;go_enter Tryz.func57,Tryz.ntmps57;go_wp2_with fail;refine(KR.out _ (HIN.out.stays HBA.out)).mono ?_;rintro e w1 ⟨L1,rfl,hfr,hb1⟩;have a4:=kp (w.heap.size) (devA d L) hb1;have a1:=kp (w.heap.size+1) (devA Dev.zero DLoc.zero) hb1;have HFR:Hid (Fresh (w.heap.size+2) w1 (fun v=>DvOwn v (w.heap.size+2) d L1)):=qH (by simpa[Nat.add_assoc]using hfr);have HB1:=bT HBA hb1;have hsz1:w.heap.size+2<=w1.heap.size:=by have:=hb1.size;simp at this;omega
 have HK1:Hid (Kp (w.heap.size+2) w1 w1):=qH (Kp.refl _ _);clear hb1 hfr
 cases hbz:d.busy
 case true=>
  have hz:res=(Dev.zero,5):=HD.out.trans (if_pos (.inl hbz));subst hz;exact x5r8
 cases ht:d.rec_.trying
 case true=>
  have hz:res=(Dev.zero,5):=HD.out.trans (if_pos (.inr ht));subst hz;exact x5r8
 have HD1:=qH (HD.out.trans (if_neg (by rw[hbz,ht];decide)));clear HD;go_wp2_with fail;refine(KJ.out L1.ag L1.cg _ ?_).mono ?_
 ·refine(Fresh.kp (B:=w.heap.size+2) HFR.out ?_ nl (by first|omega|(simp<;>omega))).now.devIn.got;exact x84a
 rintro en w2 ⟨A1,c2,rfl,hfr1,hb⟩;have HS1:Hid (w1.heap.size+1<=w2.heap.size):=qH (by have:=hb.size;simpa using this);have a4:=kp (w.heap.size) (devA d L1) hb;have a1:=kr a1 hb;have a2:=kp (w1.heap.size) (recA d.rec_) hb;have hbs1:=hb.size;have hsz2:w1.heap.size<=w2.heap.size:=by first|omega|(simp at hbs1;omega)
 have HK2:Hid (Kp (w.heap.size+2) w1 w2):=qH (by
  refine Kp.below ?_ (by first|omega|(simp<;>omega)) hb;exact x84a)
 have HB2:=bU HB1 hb;clear hb hbs1;have HGP:Hid (Fresh (w1.heap.size+1) w2 (fun v=>PatIn v p A1 c2)):=qH (by simpa using hfr1);have hsz2b:=HS1.out;clear hfr1 hbz ht;by_cases c2':e2≠0
 ·have hz:res=(Dev.zero,e2):=HD1.out.trans (if_pos c2');subst hz;have q:(e2 !=0)=true:=by simp[c2']
  clear c2';exact x2uc
 have c2':=Decidable.not_not.1 c2';subst c2';have HD2:=qH (HD1.out.trans (if_neg (by decide)));clear HD1;have q2:((0:Int) !=0)=false:=rfl;obtain⟨ka,ha⟩:∃ka:Nat,d.rec_.active=(ka:Int):=⟨d.rec_.active.toNat,by omega⟩;have ha1:ka<=1:=by omega
 obtain⟨kb,hab⟩:∃kb:Nat,ka+kb=1:=⟨1-ka,by omega⟩;have HA:=qH ha;have hsp:=splice_oth d.rec_ ha hab;have pv:=recA_ver d.rec_ ha1;rw[ha]at HD2;obtain⟨img,himg⟩:=eX (d.image (ka:Int) d.rec_);rw[himg]at HD2;obtain⟨⟨b,en⟩,hpd⟩:∃y,patDo (sumOn 1) p img=y:=⟨_,rfl⟩;rw[hpd]at HD2;have HIL:Hid (img.length<=64):=qH (by
  exact x0ss)
 have KI1:Hid (∀wq,DevIn wq d L1->Calls Tryz.prog 75 #[.agg (devA d L1),iv (ka:Int),.agg (recA d.rec_)] wq (ImRet wq img)):=qH (fun wq h=>by
  exact x7r2)
 have HPD:=qH hpd;generalize d.rec_.setOther Inf.zero=r2 at *
 generalize d.rec_=r at *
 clear himg hpd hact;go_upto_region 9 with fail
 obtain⟨w2p,hw2p⟩:=eX (w2.alloc (.cells (patA p.from_ p.to_ p.old p.new_ p.size A1 p.ops.length c2) 36));have r4:rowOf w2p w.heap.size=devA d L1:=by rw[<-hw2p,rowOf_alloc,if_neg a4.2.2.1];exact a4.1
 have r0f:frOf w2p w.heap.size=(0,0):=by rw[<-hw2p,frOf_alloc,if_neg a4.2.2.1];exact a4.2.1
 have r1:rowOf w2p (w.heap.size+1)=devA Dev.zero DLoc.zero:=by rw[<-hw2p,rowOf_alloc,if_neg a1.2.2.1];exact a1.1
 have r1f:frOf w2p (w.heap.size+1)=(0,0):=by rw[<-hw2p,frOf_alloc,if_neg a1.2.2.1];exact a1.2.1
 have r2_:rowOf w2p w1.heap.size=recA r:=by rw[<-hw2p,rowOf_alloc,if_neg a2.2.2.1];exact a2.1
 have r2f:frOf w2p w1.heap.size=(0,0):=by rw[<-hw2p,frOf_alloc,if_neg a2.2.2.1];exact a2.2.1
 have r3:rowOf w2p w2.heap.size=patA p.from_ p.to_ p.old p.new_ p.size A1 p.ops.length c2:=by rw[<-hw2p,rowOf_alloc,if_pos rfl]
 have r3f:frOf w2p w2.heap.size=(0,0):=by rw[<-hw2p,frOf_alloc,if_pos rfl]
 have hszp:w2p.heap.size=w2.heap.size+1:=by rw[<-hw2p];simp
 have HBP:Hid (Below w.heap.size w w2p):=qH (by rw[<-hw2p];exact HB2.out.alloc HB2.out.size _);have HKP:Hid (Kp (w.heap.size+2) w1 w2p):=qH (by rw[<-hw2p];exact HK2.out.alloc (by omega) _);have HGQ:Hid (Kp (w1.heap.size+1) w2 w2p):=qH (by rw[<-hw2p];exact(Kp.refl _ _).alloc nl _);rw[hw2p];have a4:=keep1 (bW w2p) r4 (by go_simp) r0f;have a1:=keep1 (bW w2p) r1 (by go_simp) r1f;have a2:=keep1 (bW w2p) r2_ (by simp[recA]) r2f;have a3:=keep1 (bW w2p) r3 (by simp[patA]) r3f;clear hw2p r4 r0f r1 r1f r2_ r2f r3 r3f;obtain⟨bad1,hbad⟩:∃b,decide (p.from_≠(r.at_ (ka:Int)).ver∨p.to_<r.floor)=b:=⟨_,rfl⟩;have HBAD:=qH hbad;clear hbad;go_cut [51] (fun v wx=>v=.bool bad1∧Hid (Below w2p.heap.size w2p wx))
 case first=>
  have k1:(0:Int)<=(ka:Int):=by omega
  have k2:(ka:Int)<2:=by omega
  have k3:¬(2:Int)<=(ka:Int):=by omega
  have ha:=HA.out;by_cases c1:p.from_=(r.at_ (ka:Int)).ver
  ·have q1:(p.from_ !=(r.at_ (ka:Int)).ver)=false:=by simp[c1]
   by_cases c3:p.to_<r.floor
   ·have hres:bad1=true:=by rw[<-HBAD.out];exact decide_eq_true (.inr c3)
    clear c1;exact x0af
   have hres:bad1=false:=by rw[<-HBAD.out];exact decide_eq_false (fun h=>h.elim (fun h=>h c1) c3)
   clear c1;exact x0af
  have q1:(p.from_ !=(r.at_ (ka:Int)).ver)=true:=by simp[c1]
  have hres:bad1=true:=by rw[<-HBAD.out];exact decide_eq_true (.inl c1)
  clear c1;exact x0af
 case rest=>
 obtain⟨rfl,hb⟩:=hcut;have hb1:=hb.out;have a4:=keep1 hb1 a4.1 (by go_simp) a4.2.1;have a1:=keep1 hb1 a1.1 (by go_simp) a1.2.1;have a2:=keep1 hb1 a2.1 (by simp[recA]) a2.2.1;have a3:=keep1 hb1 a3.1 (by simp[patA]) a3.2.1;have hs1:=hb1.size;have HB3:=bT HBP hb1;have HK3:Hid (Kp (w.heap.size+2) w1 wc):=qH (HKP.out.below (by omega) hb1);have HG1:Hid (Kp (w1.heap.size+1) w2 wc):=qH (HGQ.out.below (by omega) hb1);clear hb hb1
 cases hbd:bad1
 case true=>
  have hz:res=(Dev.zero,4):=HD2.out.trans (if_pos (of_decide_eq_true (HBAD.out.trans hbd)));subst hz;clear hbd;exact x52i
 have HD1:=qH (HD2.out.trans (if_neg (of_decide_eq_false (HBAD.out.trans hbd))));clear HD2 HBAD hbd;obtain⟨w3,hw2⟩:=eX (wc);subst hw2;go_wp2_with fail;have RD:=qH a4.1;have FD:=qH a4.2.1;have RZ:=qH a1.1;have FZ:=qH a1.2.1;have RR:=qH a2.1;have FR:=qH a2.2.1;have RP:=qH a3.1;have FP:=qH a3.2.1;have HI1:Hid (DevIn wc d L1):=qH (Fresh.kp HFR.out HK3.out nl (by omega)).now.devIn;have HP1:Hid (PatIn wc p A1 c2):=qH (Fresh.kp HGP.out HG1.out nl (by omega)).now;have KI:Hid (∀wq,Below wc.heap.size wc wq->Calls Tryz.prog 75 #[.agg (devA d L1),iv (ka:Int),.agg (recA r)] wq (ImRet wq img)):=qH (fun wq h=>KI1.out wq (HI1.out.stays h));have KD:Hid (∀wq A c,Below wc.heap.size wc wq->img.length<=c->Bts wq A img->Calls Tryz.prog 74 #[.agg (patA p.from_ p.to_ p.old p.new_ p.size A1 p.ops.length c2),.slice A img.length c] wq (ByRet2 wq b en)):=qH (fun wq A c h hc hb=>by
  have hq:=patDo_calls A1 A c2 c p img wq hc (by have:=HIL.out;omega) hb (HP1.out.stays h);rw[HPD.out]at hq;exact hq)
 have hq3:=fun v (h:Below wc.heap.size wc v)=>keep1 h RP.out (by go_simp) FP.out;have hq1:=fun v (h:Below wc.heap.size wc v)=>keep1 h RD.out (by go_simp) FD.out;have hq2:=fun v (h:Below wc.heap.size wc v)=>keep1 h RR.out (by go_simp) FR.out;have hf1:=HA.out
 go_region_held3 (fun v=>Below wc.heap.size wc v) (first|exact hbb|exact(Below.refl _ _).drew)
  (first
    |(go_at_call 75;refine(KI.out _ (by assumption)).mono ?_;rintro e wj ⟨Aj,cj,rfl,h3,h4,h5⟩;have hbb:=(bW wc).drew.trans (h5.mono (by simp)))
    |(go_at_call 74;refine(KD.out _ _ _ (by assumption) h3 h4).mono ?_;rintro e w4 ⟨A5,c5,rfl,g1,g2,g9⟩;have hbb:=hbb.trans (g9.mono hbb.size)))
 have g3:=hbb;clear hbb g9 h3 h4 h5 hq3 hq1 hq2 hf1;have a4:=keep1 g3 RD.out (by go_simp) FD.out;have a1:=keep1 g3 RZ.out (by go_simp) FZ.out;have a2:=keep1 g3 RR.out (by go_simp) FR.out;have a3:=keep1 g3 RP.out (by go_simp) FP.out;have hs2:=g3.size;have HB4:Hid (Below w.heap.size w w4):=qH (HB3.out.trans (g3.mono HB3.out.size));have HK4:Hid (Kp (w.heap.size+2) w1 w4):=qH (HK3.out.below (by omega) g3);have HG2:Hid (Kp (w1.heap.size+1) w2 w4):=qH (HG1.out.below (by omega) g3);clear g1 g2 g3 KI KD RD FD RZ FZ RR FR RP FP KI1 HI1 HP1;by_cases e1:en≠0
 ·have hz:res=(Dev.zero,en):=HD1.out.trans (if_pos e1);subst hz;have q:(en !=0)=true:=by simp[e1]
  clear e1;exact x8lt
 have e1:=Decidable.not_not.1 e1;subst e1;have HD2:=qH (HD1.out.trans (if_neg (by decide)));clear HD1;have hle:5+kb*3+3<=11:=by omega
 have hw1:IntKind.i64.wrap ((1:Int)-(ka:Int))=(kb:Int):=by rw[IntWalk.i64_in _ (by omega)];omega
 have i1:(0:Int)<=(kb:Int):=by omega
 have i2:(kb:Int)<2:=by omega
 have i3:¬(2:Int)<=(kb:Int):=by omega
 have ha:=HA.out;go_wp2_with fail;refine(KW.out _).mono ?_;rintro e w5 ⟨rfl,hb⟩;have hbs:=hb.size;have hsz3:w4.heap.size<=w5.heap.size:=by simpa[World.setRow]using hbs
 have a4:=kp (w.heap.size) (devA d L1) hb;have a1:=kp (w.heap.size+1) (devA Dev.zero DLoc.zero) hb;have hne1:¬w2.heap.size=w1.heap.size:=by omega
 have a3:=kp (w2.heap.size) (patA p.from_ p.to_ p.old p.new_ p.size A1 p.ops.length c2) hb;have HB5:=bU HB4 hb;have HK5:Hid (Kp (w.heap.size+2) w1 w5):=qH (by
  refine Kp.below ?_ (by first|omega|(simp[World.setRow]<;>omega)) hb;exact x7of)
 have HG3:Hid (Kp (w1.heap.size+1) w2 w5):=qH (by
  refine Kp.below ?_ (by first|omega|(simp[World.setRow]<;>omega)) hb;repeat (first|exact HG2.out|exact Kp.refl _ _|refine Kp.row ?_ (by omega) _|refine Kp.cell ?_ (by first|(show _<_∨_<=_;omega)|(simp<;>omega)) _|refine Kp.alloc ?_ (by first|omega|(simp<;>omega)) _))
 clear hb hbs hle hw1 i1 i2 i3 ha a2;by_cases c3:e3≠0
 ·have hz:res=(Dev.zero,e3):=HD2.out.trans (if_pos c3);subst hz;have q:(e3 !=0)=true:=by simp[c3]
  exact x80n
 have c3:=Decidable.not_not.1 c3;subst c3;have hz:res=({d with c0:=p1,c1:=p2,busy:=true,job:=p,done:=0,got:=[]},0):=HD2.out.trans (if_neg (by decide));subst hz;clear HD2;go_wp2_with fail;have hp1:0<(rowOf w5 w.heap.size).size:=by rw[a4.1];simp[devA]
 obtain⟨w4,hw1⟩:=eX (w5.setRow w.heap.size (devA {d with c0:=p1,c1:=p2} L1));have RD:Hid (rowOf w4 w.heap.size=devA {d with c0:=p1,c1:=p2} L1):=qH (by rw[<-hw1,rowOf_setRow _ _ _ _ hp1,if_pos rfl]);have FD:Hid (frOf w4 w.heap.size=(0,0)):=qH (by rw[<-hw1,frOf_setRow];exact a4.2.1);have RZ:Hid (rowOf w4 (w.heap.size+1)=devA Dev.zero DLoc.zero):=qH (by rw[<-hw1,rowOf_setRow _ _ _ _ hp1,if_neg (by omega)];exact a1.1);have FZ:Hid (frOf w4 (w.heap.size+1)=(0,0)):=qH (by rw[<-hw1,frOf_setRow];exact a1.2.1);have RP:Hid (rowOf w4 w2.heap.size=patA p.from_ p.to_ p.old p.new_ p.size A1 p.ops.length c2):=qH (by rw[<-hw1,rowOf_setRow _ _ _ _ hp1,if_neg (by omega)];exact a3.1);have FP:Hid (frOf w4 w2.heap.size=(0,0)):=qH (by rw[<-hw1,frOf_setRow];exact a3.2.1);have hsz4:w4.heap.size=w5.heap.size:=by rw[<-hw1];simp[World.setRow]
 have HB6:Hid (Below w.heap.size w w4):=qH (by rw[<-hw1];exact below_row HB5.out nl _);have HK6:Hid (Kp (w.heap.size+2) w1 w4):=qH (by rw[<-hw1];exact HK5.out.row (.inl (by omega)) _);have HG4:Hid (Kp (w1.heap.size+1) w2 w4):=qH (by rw[<-hw1];exact HG3.out.row (.inl (by omega)) _);have HQ1:Hid (w2.heap.size≠w.heap.size):=qH (by omega);have HP1:Hid (0<(rowOf w4 w.heap.size).size):=qH (by rw[RD.out];simp[devA]);rw[hw1];clear hw1 hp1 a4 a1 a3;refine wM (some 85::some 86::none::some 87::none::some 88::none::some 89::none::[]) (none::none::some 0::none::some 1::none::some 2::none::some 3::[]) (.agg (patA p.from_ p.to_ p.old p.new_ p.size A1 p.ops.length c2)::.pointer (some ⟨w.heap.size,29,none⟩)::undef::.pointer (some ⟨w.heap.size,30,none⟩)::undef::.pointer (some ⟨w.heap.size,36,none⟩)::undef::.pointer (some ⟨w.heap.size,28,none⟩)::undef::[]) 4 (opJ w4 w.heap.size {d with c0:=p1,c1:=p2} L1 p A1 c2) 91 (rfl) ?_ ?_
 ·refine⟨?_,?_,?_,?_,?_,?_,?_,?_,?_,trivial⟩
  ·intro done cv k1 a wq hw h hJ hn;have e4:=mO 6 (.pointer (some ⟨w2.heap.size,0,none⟩)) h;obtain⟨r_,f_⟩:=opJ_row hJ HQ1.out RP.out FP.out HP1.out;go_simp
  ·intro done cv k2 a wq hw h hJ hn;have e1:=mO 1 (.pointer (some ⟨w.heap.size,0,none⟩)) h;go_simp
  ·intro done cv a wq hw h hJ;have e4:=mN 1 86 h hw;obtain rfl:wq=w4.drew:=hJ;refine wp_sb1c e4 (cs:=devA {d with c0:=p1,c1:=p2} L1) (by rw[rowOf_drew];exact RD.out) (by go_simp) (by rw[frOf_drew];exact FD.out) ⟨undef,rfl,?_⟩
   show _=_;rw[devA_set_busy]
  ·exact x05s
  ·intro done cv a wq hw h hJ;have e4:=mN 3 87 h hw;have e85:=mN 0 85 h hw;have hJ':wq=w4.drew.setRow w.heap.size (devA {{d with c0:=p1,c1:=p2} with busy:=true} L1):=hJ;subst hJ';refine wp_srow e4 e85 (by go_simp) (by go_simp) (cs:=devA {{d with c0:=p1,c1:=p2} with busy:=true} L1) (by rw[rowOf_setRow _ _ _ _ (by rw[rowOf_drew];exact HP1.out),if_pos rfl]) (by go_simp) (by rw[frOf_setRow,frOf_drew];exact FD.out) (by go_simp) ⟨undef,rfl,?_⟩
   show _=_;rw[devA_splice_job,setRow_setRow]
  ·exact x05s
  ·intro done cv a wq hw h hJ;have e4:=mN 5 88 h hw;have hJ':wq=w4.drew.setRow w.heap.size (devA {{d with c0:=p1,c1:=p2} with busy:=true,job:=p} {L1 with aj:=A1,cj:=c2}):=hJ;subst hJ';refine wp_si1c e4 (cs:=devA {{d with c0:=p1,c1:=p2} with busy:=true,job:=p} {L1 with aj:=A1,cj:=c2}) (by rw[rowOf_setRow _ _ _ _ (by rw[rowOf_drew];exact HP1.out),if_pos rfl]) (by go_simp) (by rw[frOf_setRow,frOf_drew];exact FD.out) ⟨undef,rfl,?_⟩
   show _=_;rw[devA_set_done,setRow_setRow]
  ·exact x05s
  ·intro done cv a wq hw h hJ;have e4:=mN 7 89 h hw;have hJ':wq=w4.drew.setRow w.heap.size (devA {{d with c0:=p1,c1:=p2} with busy:=true,job:=p,done:=0} {L1 with aj:=A1,cj:=c2}):=hJ;subst hJ';refine wp_sn1c e4 (cs:=devA {{d with c0:=p1,c1:=p2} with busy:=true,job:=p,done:=0} {L1 with aj:=A1,cj:=c2}) (by rw[rowOf_setRow _ _ _ _ (by rw[rowOf_drew];exact HP1.out),if_pos rfl]) (by go_simp) (by rw[frOf_setRow,frOf_drew];exact FD.out) ⟨undef,rfl,?_⟩
   show _=_;rw[devA_set_got0,setRow_setRow]
 intro cv1 w6 hJ;have hw1:w6=w4.drew.setRow w.heap.size (devA {d with c0:=p1,c1:=p2,busy:=true,job:=p,done:=0,got:=[]} {L1 with aj:=A1,cj:=c2,ag:=none,cg:=0}):=hJ;simp only[mixAll,pA,mA,Nat.reduceAdd];have r1:rowOf w6 w.heap.size=devA {d with c0:=p1,c1:=p2,busy:=true,job:=p,done:=0,got:=[]} {L1 with aj:=A1,cj:=c2,ag:=none,cg:=0}:=by rw[hw1,rowOf_setRow _ _ _ _ (by rw[rowOf_drew];exact HP1.out),if_pos rfl]
 have r7f:frOf w6 w.heap.size=(0,0):=by rw[hw1,frOf_setRow,frOf_drew];exact FD.out
 have r7z:rowOf w6 (w.heap.size+1)=devA Dev.zero DLoc.zero:=by rw[hw1,rowOf_setRow _ _ _ _ (by rw[rowOf_drew];exact HP1.out),if_neg (by omega),rowOf_drew];exact RZ.out
 have r7zf:frOf w6 (w.heap.size+1)=(0,0):=by rw[hw1,frOf_setRow,frOf_drew];exact FZ.out
 have hsz5:w6.heap.size=w4.heap.size:=by
  have h1:w6.heap.size=w4.drew.heap.size:=by rw[hw1];simp[World.setRow]
  exact h1
 have HB7:Hid (Below w.heap.size w w6):=qH (by rw[hw1];exact below_row HB6.out.drew nl _);have HK7:Hid (Kp (w.heap.size+2) w1 w6):=qH (by rw[hw1];exact Kp.row (w:=w4.drew) HK6.out (.inl (by omega)) _);have HG5:Hid (Kp (w1.heap.size+1) w2 w6):=qH (by rw[hw1];exact Kp.row (w:=w4.drew) HG4.out (.inl (by omega)) _);clear hJ hw1 RD FD RZ FZ RP FP HP1;go_wp2_with fail;refine bodyPost_ret (rC (devA {d with c0:=p1,c1:=p2,busy:=true,job:=p,done:=0,got:=[]} {L1 with aj:=A1,cj:=c2,ag:=none,cg:=0})) rfl ⟨{L1 with aj:=A1,cj:=c2,ag:=none,cg:=0},rfl,?_,?_⟩
 ·refine Fresh.imp (P:=fun v=>DvOwn v (w.heap.size+2) d L1∧PatIn v p A1 c2) (Fresh.and' (Fresh.kp HFR.out ?_ (by omega) (by first|omega|(simp[World.setRow]<;>omega))) (Fresh.kp HGP.out ?_ (by omega) (by first|omega|(simp[World.setRow]<;>omega)))) (fun v hv=>hv.1.devIn.opened p1 p2 hv.2)
  ·repeat (first|exact HK7.out|exact Kp.refl _ _|refine Kp.row ?_ (by omega) _|refine Kp.cell ?_ (by first|(show _<_∨_<=_;omega)|(simp<;>omega)) _|refine Kp.alloc ?_ (by first|omega|(simp<;>omega)) _)
  ·repeat (first|exact HG5.out|exact Kp.refl _ _|refine Kp.row ?_ (by omega) _|refine Kp.cell ?_ (by first|(show _<_∨_<=_;omega)|(simp<;>omega)) _|refine Kp.alloc ?_ (by first|omega|(simp<;>omega)) _)
 exact bZ HB7
theorem devOpen_calls(d:Dev)(L:DLoc)(w:World)(h:DevIn w d L):Calls Tryz.prog 57 #[.agg (devA d L)] w (DvRet w (devOpen d).1 (devOpen d).2):=by
 by_cases hz:devReady d=0
 ·exact devOpen_ok d L w h hz
 have e:devOpen d=(Dev.zero,devReady d):=by unfold devOpen;rw[if_pos hz]
 rw[e];exact devOpen_bad d L w h hz
theorem DevIn.booted(h:DevIn w d L)(p q:Cop)(k:Int)(hk:k=0∨k=1):DevIn w {d with c0:=p,c1:=q,up:=true,running:=k} L:=⟨h.k0,h.l0,h.b0,h.k1,h.l1,h.b1,h.kg,h.lg,h.got,h.job,⟨by show -9223372036854775808<=k;omega,by show k<=9223372036854775807;omega⟩,h.id⟩
theorem start_slot(h:recCheck r=0):(recStart r).1=0∨(recStart r).1=1:=by
 have:=rec_active h;unfold recStart;repeat' split
 all_goals (try dsimp only)
 all_goals first|omega|(unfold nowAt;omega)
theorem devBoot_bad(d:Dev)(L:DLoc)(w:World)(h:DevIn w d L)(hne:devCheck d≠0):Calls Tryz.prog 62 #[.agg (devA d L)] w (DvRet w Dev.zero (devCheck d)):=by
 have hba:Below w.heap.size w ((w.alloc (.cells (devA d L) 38)).alloc (.cells (devA Dev.zero DLoc.zero) 38)):=bA (bA (Below.refl _ _) _) _;have HBA:=qH hba;have HIN:=qH h;have K1:=qH (fun w h=>devCheck_calls d L w h);have q:(devCheck d !=0)=true:=by simp[hne]
 generalize devCheck d=n at *
 clear hne h hba;go_enter Tryz.func62,Tryz.ntmps62;go_wp2_with fail;refine(K1.out _ (HIN.out.stays HBA.out)).mono ?_;rintro e w1 ⟨rfl,hb1⟩;have a2:=kp (w.heap.size) (devA d L) hb1;have a1:=kp (w.heap.size+1) (devA Dev.zero DLoc.zero) hb1;have HB1:=bT HBA hb1;have hsz1:w.heap.size+2<=w1.heap.size:=by have:=hb1.size;simp at this;omega
 clear hb1;exact x5r8
theorem devBoot_late(d:Dev)(L:DLoc)(w:World)(h:DevIn w d L)(hz:devCheck d=0)(hu:d.up=true):Calls Tryz.prog 62 #[.agg (devA d L)] w (DvRet w Dev.zero 5):=by
 have hba:Below w.heap.size w ((w.alloc (.cells (devA d L) 38)).alloc (.cells (devA Dev.zero DLoc.zero) 38)):=bA (bA (Below.refl _ _) _) _;have HBA:=qH hba;have HIN:=qH h;have K1:=qH (fun w h=>devCheck_calls d L w h);rw[hz]at K1;clear hz h hba;go_enter Tryz.func62,Tryz.ntmps62;go_wp2_with fail;refine(K1.out _ (HIN.out.stays HBA.out)).mono ?_;rintro e w1 ⟨rfl,hb1⟩;have a2:=kp (w.heap.size) (devA d L) hb1;have a1:=kp (w.heap.size+1) (devA Dev.zero DLoc.zero) hb1;have HB1:=bT HBA hb1;have hsz1:w.heap.size+2<=w1.heap.size:=by have:=hb1.size;simp at this;omega
 clear hb1;exact x5r8
theorem devBoot_ok(d:Dev)(L:DLoc)(w:World)(h:DevIn w d L)(hz:devCheck d=0)(hu:d.up=false):Calls Tryz.prog 62 #[.agg (devA d L)] w (DvRet w (devBoot d).1 (devBoot d).2):=by
 have hba:Below w.heap.size w ((w.alloc (.cells (devA d L) 38)).alloc (.cells (devA Dev.zero DLoc.zero) 38)):=bA (bA (Below.refl _ _) _) _;have HBA:=qH hba;have HIN:=qH h;have K1:=qH (fun w h=>devCheck_calls d L w h);have hdef:devBoot d=if (recStart d.rec_).2.2≠0 then (Dev.zero,(recStart d.rec_).2.2)
   else if (recStart d.rec_).2.1≠d.rec_ then
    (if (recWrite d.c0 d.c1 (recStart d.rec_).2.1 false).2≠0 then (Dev.zero,(recWrite d.c0 d.c1 (recStart d.rec_).2.1 false).2)
    else ({d with c0:=(recWrite d.c0 d.c1 (recStart d.rec_).2.1 false).1.1,c1:=(recWrite d.c0 d.c1 (recStart d.rec_).2.1 false).1.2,up:=true,running:=(recStart d.rec_).1},0))
   else ({d with c0:=d.c0,c1:=d.c1,up:=true,running:=(recStart d.rec_).1},0):=by unfold devBoot;rw[if_neg (by omega),if_neg (by rw[hu];decide)];rfl
 have hok:=devCheck_ok.1 hz;have hrec:=rec_ok hok;have HSL:=qH (start_slot hrec);have KC:=qH (fun w h=>devCopy_calls d L w h);have K2:=qH (fun w=>read_ok d.c0 d.c1 w hok.cops);obtain⟨rk,hrk⟩:=eX ((recRead d.c0 d.c1).2);have hre:(recRead d.c0 d.c1).1=d.rec_:=rfl;rw[hrk,hre]at K2;have K3:=qH (fun w=>start_calls d.rec_ w);obtain⟨⟨k,nx,e1⟩,hq⟩:∃x,recStart d.rec_=x:=⟨_,rfl⟩;rw[hq]at hdef K3 HSL;dsimp only at hdef K3 HSL;have K4:=qH (fun w=>write_calls d.c0 d.c1 nx false w);obtain⟨⟨⟨p1,p2⟩,e2⟩,hw⟩:∃x,recWrite d.c0 d.c1 nx false=x:=⟨_,rfl⟩;rw[hw]at hdef K4;dsimp only at hdef;have HD:=qH hdef;rw[hz]at K1;generalize devBoot d=res at *
 clear hdef hok hrec hrk hre hq hw hz h hba;go_enter Tryz.func62,Tryz.ntmps62;go_wp2_with fail;refine(K1.out _ (HIN.out.stays HBA.out)).mono ?_;rintro e w1 ⟨rfl,hb1⟩;have a3:=kp (w.heap.size) (devA d L) hb1;have a1:=kp (w.heap.size+1) (devA Dev.zero DLoc.zero) hb1;have HB1:=bT HBA hb1;have hsz1:w.heap.size+2<=w1.heap.size:=by have:=hb1.size;simp at this;omega
 clear hb1;go_wp2_with fail;refine(KC.out _ (HIN.out.stays HB1.out)).mono ?_;rintro e w2 ⟨L1,rfl,hfr,hb⟩;have a3:=kr a3 hb;have a1:=kr a1 hb;have HFR:=qH hfr;have hsz2:w1.heap.size<=w2.heap.size:=hb.size;have HB2:=bT HB1 hb;have HK1:Hid (Kp w1.heap.size w2 w2):=qH (Kp.refl _ _);clear hb hfr;go_wp2_with fail;refine(K2.out _).mono ?_;rintro e w3 ⟨rfl,hb⟩;have a3:=kp (w.heap.size) (devA d L1) hb;have a1:=kr a1 hb;have hbs1:=hb.size;have hsz3:w2.heap.size<=w3.heap.size:=by first|omega|(simp[World.setRow]at hbs1;omega)
 have HK2:Hid (Kp w1.heap.size w2 w3):=qH (by
  refine Kp.below ?_ (by first|omega|(simp[World.setRow]<;>omega)) hb;exact x84a)
 have HB3:=bU HB2 hb;clear hb hbs1;go_wp2_with fail;refine(K3.out _).mono ?_;rintro e w4 ⟨rfl,hb⟩;have a3:=kr a3 hb;have a1:=kr a1 hb;have a2:=kp (w3.heap.size) (recA d.rec_) hb;have hbs1:=hb.size;have hsz4:w2.heap.size<=w4.heap.size:=by first|omega|(simp[World.setRow]at hbs1;omega)
 have HK3:Hid (Kp w1.heap.size w2 w4):=qH (by
  refine Kp.below ?_ (by first|omega|(simp[World.setRow]<;>omega)) hb;exact x9su)
 have HB4:=bU HB3 hb;clear hb hbs1;have hsz6:w3.heap.size<w4.heap.size:=a2.2.2.2.2.2;by_cases c2:e1≠0
 ·have hz:res=(Dev.zero,e1):=HD.out.trans (if_pos c2);subst hz;have q:(e1 !=0)=true:=by simp[c2]
  clear c2;exact x8lt
 have c2:=Decidable.not_not.1 c2;subst c2;have HD1:=qH (HD.out.trans (if_neg (by decide)));clear HD;by_cases c3:nx≠d.rec_
 ·have HD2:=qH (HD1.out.trans (if_pos c3));have q1:decide (nx=d.rec_)=false:=decide_eq_false c3;clear HD1 c3;go_wp2_with fail;refine(K4.out _).mono ?_;rintro e w5 ⟨rfl,hb⟩;have a3:=kr a3 hb;have a1:=kr a1 hb;have hbs1:=hb.size;have hsz5:w2.heap.size<=w5.heap.size:=by first|omega|(simp[World.setRow]at hbs1;omega)
  have HK4:Hid (Kp w1.heap.size w2 w5):=qH (by
   refine Kp.below ?_ (by first|omega|(simp[World.setRow]<;>omega)) hb;exact x17f)
  have HB5:=bU HB4 hb;clear hb hbs1;by_cases c3:e2≠0
  ·have hz:res=(Dev.zero,e2):=HD2.out.trans (if_pos c3);subst hz;have q:(e2 !=0)=true:=by simp[c3]
   exact x80n
  have c3:=Decidable.not_not.1 c3;subst c3;have hz:res=({d with c0:=p1,c1:=p2,up:=true,running:=k},0):=HD2.out.trans (if_neg (by decide));subst hz;clear hu;go_wp2_with fail;refine bodyPost_ret (rC (devA {d with c0:=p1,c1:=p2,up:=true,running:=k} L1)) rfl ⟨L1,rfl,?_,?_⟩
  ·refine Fresh.imp (P:=fun v=>DvOwn v w1.heap.size d L1) (Fresh.kp HFR.out ?_ (by omega) (by first|omega|(simp[World.setRow]<;>omega))) (fun v hv=>hv.devIn.booted p1 p2 k HSL.out);exact x7of
  exact bZ HB5
 have hz:res=({d with c0:=d.c0,c1:=d.c1,up:=true,running:=k},0):=HD1.out.trans (if_neg c3);have q1:decide (nx=d.rec_)=true:=decide_eq_true (Decidable.not_not.1 c3);subst hz;clear c3 hu;go_wp2_with fail;refine bodyPost_ret (rC (devA {d with c0:=d.c0,c1:=d.c1,up:=true,running:=k} L1)) rfl ⟨L1,rfl,?_,?_⟩
 ·refine Fresh.imp (P:=fun v=>DvOwn v w1.heap.size d L1) (Fresh.kp HFR.out ?_ (by omega) (by first|omega|(simp[World.setRow]<;>omega))) (fun v hv=>hv.devIn.booted d.c0 d.c1 k HSL.out);exact x17f
 exact bZ HB4
theorem devBoot_calls(d:Dev)(L:DLoc)(w:World)(h:DevIn w d L):Calls Tryz.prog 62 #[.agg (devA d L)] w (DvRet w (devBoot d).1 (devBoot d).2):=by
 by_cases hz:devCheck d=0
 ·cases hu:d.up
  ·exact devBoot_ok d L w h hz hu
  ·have e:devBoot d=(Dev.zero,5):=by unfold devBoot;rw[if_neg (by omega),if_pos hu]
   rw[e];exact devBoot_late d L w h hz hu
 have e:devBoot d=(Dev.zero,devCheck d):=by unfold devBoot;rw[if_pos hz]
 rw[e];exact devBoot_bad d L w h hz
theorem devCrash_bad(d:Dev)(L:DLoc)(w:World)(h:DevIn w d L)  (hne:devReady d≠0):Calls Tryz.prog 61 #[.agg (devA d L)] w (DvRet w Dev.zero (devReady d)):=by
 have hba:Below w.heap.size w ((w.alloc (.cells (devA d L) 38)).alloc (.cells (devA Dev.zero DLoc.zero) 38)):=bA (bA (Below.refl _ _) _) _;have HBA:=qH hba;have HIN:=qH h;have KB:=qH (fun w h=>ready_bad d L w h hne);have q:(devReady d !=0)=true:=by simp[hne]
 generalize devReady d=n at *
 clear hne h hba;go_enter Tryz.func61,Tryz.ntmps61;go_wp2_with fail;refine(KB.out _ (HIN.out.stays HBA.out)).mono ?_;rintro e w1 ⟨rfl,hb1⟩;have a2:=kp (w.heap.size) (devA d L) hb1;have a1:=kp (w.heap.size+1) (devA Dev.zero DLoc.zero) hb1;have HB1:=bT HBA hb1;clear hb1;exact x5r8
theorem devCrash_ok(d:Dev)(L:DLoc)(w:World)(h:DevIn w d L)  (hz:devReady d=0):Calls Tryz.prog 61 #[.agg (devA d L)] w (DvRet w d.down 0):=by
 have hba:Below w.heap.size w ((w.alloc (.cells (devA d L) 38)).alloc (.cells (devA Dev.zero DLoc.zero) 38)):=bA (bA (Below.refl _ _) _) _;have HBA:=qH hba;have HIN:=qH h;have KR:=qH (fun w h=>ready_ok d L w h hz);clear hz h hba;go_enter Tryz.func61,Tryz.ntmps61;go_wp2_with fail;refine(KR.out _ (HIN.out.stays HBA.out)).mono ?_;rintro e w1 ⟨L1,rfl,hfr,hb1⟩;have a2:=kp (w.heap.size) (devA d L) hb1;have a1:=kp (w.heap.size+1) (devA Dev.zero DLoc.zero) hb1;have HFR:Hid (Fresh (w.heap.size+2) w1 (fun v=>DvOwn v (w.heap.size+2) d L1)):=qH (by simpa[Nat.add_assoc]using hfr);have HB1:=bT HBA hb1;have hsz1:w.heap.size+2<=w1.heap.size:=by have:=hb1.size;simp at this;omega
 have HK1:Hid (Kp (w.heap.size+2) w1 w1):=qH (Kp.refl _ _);clear hb1 hfr;go_wp2_with fail;refine(down_calls d L1 _).mono ?_;rintro e w2 ⟨rfl,hb1⟩;have a2:=kp (w.heap.size) (devA d L1) hb1;have a1:=kr a1 hb1;have HB3:Hid (Below w1.heap.size w1 w2∨True):=qH (.inr trivial);have hs1:=HB1.out.size;have HX:Hid (Fresh (w.heap.size+2) w2 (fun v=>DvOwn v (w.heap.size+2) d L1)):=qH (by
  refine Fresh.below ?_ hb1 nl;repeat (first|exact HFR.out|refine Fresh.row ?_ (by omega) _|refine Fresh.alloc ?_ _))
 have HB2:Hid (Below w.heap.size w w2):=qH (by
  refine Below.trans ?_ (hb1.mono (by first|omega|(simp<;>omega)));exact x0ap)
 clear hb1 HFR;go_wp2_with fail;refine bodyPost_ret (rC (devA d.down L1.down)) rfl ⟨L1.down,rfl,?_,?_⟩
 ·refine Fresh.imp (P:=fun v=>DvOwn v (w.heap.size+2) d L1) (Fresh.mono (base:=w.heap.size+2) ?_ (by omega)) (fun v hv=>hv.devIn.down);repeat (first|exact HX.out|refine Fresh.row ?_ (by omega) _)
 exact bZ HB2
theorem devCrash_calls(d:Dev)(L:DLoc)(w:World)(h:DevIn w d L):Calls Tryz.prog 61 #[.agg (devA d L)] w (DvRet w (devCrash d).1 (devCrash d).2):=by
 unfold devCrash;by_cases hz:devReady d=0
 ·rw[if_neg (by omega)];exact devCrash_ok d L w h hz
 rw[if_pos hz];exact devCrash_bad d L w h hz
theorem x7jh(h:Y:=by
 rw[hd1]at KD⊢;obtain⟨res,hres⟩:=eX (worDevice x (d1,e1));rw[hres];have HD:Hid (res=if e1≠0 then (Wor.zero,e1)else ({x with d:=d1},0)):=qH (by rw[<-hres];unfold worDevice;rfl);clear hd1 hres hr hf h;go_enter Tryz.func18,Tryz.ntmps18;go_wp2_with fail;refine KD.out.mono ?_;rintro e w1 ⟨L1,rfl,hfr,hb⟩;have hg1:¬w.heap.size+1=g:=by omega
 have hg2:¬g=w.heap.size+1:=by omega
 have a2:=kp g (worA x L) hb;have a1:=kp (w.heap.size+1) (devA x.d L.l) hb;have hs2:w.heap.size+2<=w1.heap.size:=by have:=hb.size;omega
 have HX2:Hid (Bex g base w w1):=qH (HX1.out.below hb (by omega) (by omega));have HW2:Hid (WorAt w1 base m top ds x L):=qH (HW1.out.same (fun k a b=>hb.block k (by omega)) (by omega));have HFR:Hid (Fresh (w.heap.size+2) w1 (fun v=>DevIn v d1 L1)):=qH (by simpa[Nat.add_assoc]using hfr);clear hb hfr KD HX1 HW1;by_cases c1:e1≠0
 ·have hz:res=(Wor.zero,e1):=HD.out.trans (if_pos c1);subst hz;have q:(e1==0)=false:=by simp[c1]
  have HC:=qH c1;clear c1;go_wp2_with fail;go_ret;refine⟨rfl,fun e=>absurd e HC.out,HX2.out.row (.inr (by omega)) _,by simp[World.setRow];omega⟩
 have c1:=Decidable.not_not.1 c1;subst c1;have hz:res=({x with d:=d1},0):=HD.out.trans (if_neg (by simp));subst hz;go_wp2_with fail;have hp1:0<(rowOf w1 (w.heap.size+1)).size:=by rw[a1.1];simp[devA]
 have hp2:0<(rowOf (w1.setRow (w.heap.size+1) (devA d1 L1)) g).size:=by rw[rowOf_setRow _ _ _ _ hp1,if_neg (by omega),a2.1];simp[worA]
 go_ret;refine⟨rfl,fun _=>⟨{L with l:=L1},?_,?_,?_⟩,?_,?_⟩
 ·rw[rowOf_setRow _ _ _ _ hp2,if_pos rfl]
 ·rw[frOf_setRow,frOf_setRow];exact a2.2.1
 ·intro v hv;have hb1:∀k,base<=k->k≠g->k≠w.heap.size+1->k<w1.heap.size->v.heap[k]?=w1.heap[k]?:=fun k h1 h0 h3 h2=>(hv k h1 h0 (by simp[World.setRow];omega)).trans ((setRow_other _ _ _ _ h0).trans (setRow_other _ _ _ _ h3));have hi:=HW2.out.wex (v:=v) (fun k h1 h2=>hb1 k h1 (by omega) (by omega) (by omega));exact⟨hi.kr,hi.lr,hi.rel,HFR.out v (fun k h1 h2=>hb1 k (by omega) (by omega) (by omega) h2),hi.kn,hi.ln,hi.net⟩
 ·exact(HX2.out.row (.inr (by omega)) _).row (.inl rfl) _
 simp[World.setRow];omega):Y:=h
theorem happen_box(g base m top:Nat)(ds:List (Option Addr×Nat))(n:Int)(x:Wor)(L:WLoc)(w:World)(hr:rowOf w g=worA x L)(hf:frOf w g=(0,0))(hg:g<base∨top<=g)(h:WorAt w base m top ds x L)(k:Int):g<w.heap.size∧base<=m∧m<=top∧top<=w.heap.size∧Hid (Below w.heap.size w ((w.alloc (.cells #[iv k,iv n] 42)).alloc (.cells (devA x.d L.l) 38)))∧Hid (WorAt ((w.alloc (.cells #[iv k,iv n] 42)).alloc (.cells (devA x.d L.l) 38)) base m top ds x L)∧Hid (Bex g base w ((w.alloc (.cells #[iv k,iv n] 42)).alloc (.cells (devA x.d L.l) 38)))∧((w.alloc (.cells #[iv k,iv n] 42)).alloc (.cells (devA x.d L.l) 38)).heap.size=w.heap.size+2∧rowOf ((w.alloc (.cells #[iv k,iv n] 42)).alloc (.cells (devA x.d L.l) 38)) g=worA x L∧frOf ((w.alloc (.cells #[iv k,iv n] 42)).alloc (.cells (devA x.d L.l) 38)) g=(0,0):=by
 have hlt:g<w.heap.size:=row_lt (w:=w) (by rw[hr];simp[worA]);have hm3:=h.h3;have hm2:=h.h2;have hm1:=h.h1;have HB:Below w.heap.size w ((w.alloc (.cells #[iv k,iv n] 42)).alloc (.cells (devA x.d L.l) 38)):=(bL _).alloc (by simp) _;exact⟨hlt,hm1,hm2,hm3,qH HB,qH (h.same (fun k a b=>HB.block k (by omega)) (by simp;omega)),qH ((Bex.refl g base w).below HB (by omega) (by omega)),by simp,
  by rw[rowOf_alloc,if_neg (by simp;omega),rowOf_alloc,if_neg (by omega)];exact hr,by rw[frOf_alloc,if_neg (by simp;omega),frOf_alloc,if_neg (by omega)];exact hf⟩
theorem happen_9(g base m top:Nat)(ds:List (Option Addr×Nat))(n:Int)(x:Wor)(L:WLoc)(w:World)(hr:rowOf w g=worA x L)(hf:frOf w g=(0,0))(hg:g<base∨top<=g)(h:WorAt w base m top ds x L):Calls Tryz.prog 18 #[.pointer (some ⟨g,0,none⟩),.agg #[iv 9,iv n]] w (HaRet w g base (worDevice x (devCrash x.d)).1 (worDevice x (devCrash x.d)).2):=by
 obtain⟨hlt,hm1,hm2,hm3,HBA,HW1,HX1,hs1,-,-⟩:=happen_box g base m top ds n x L w hr hf hg h 9;have a2:=keep1 (bW w) hr (by go_simp) hf;obtain⟨⟨d1,e1⟩,hd1⟩:∃z,devCrash x.d=z:=⟨_,rfl⟩;have KD:=qH (devCrash_calls x.d L.l _ HW1.out.dev.now);exact x7jh
theorem x3q5(h:Y:=by
 obtain⟨r_,f_⟩:=wrJ_row (curs:=#[]) hJ HN1.out RD.out FD.out (by simp[devA]) HG2.out;have c_:=cell_row (w:=wq) (g:=w.heap.size) (by rw[r_];simp[devA]);go_simp):Y:=h
theorem sl_mid{z1 z2:Int}(i m:Nat)(h1:z1=(i:Int))(h2:z2=(i:Int)+(m:Int))(hn:n<=c)(hm:i+m<=n)(hi:i<c)(W:World):
  (Instr.slice 23 (.slice (some ⟨g,0,none⟩) n c) (some (iv z1)) (some (iv z2)) none).run Tryz.prog W=.ok (.slice (some ⟨g,i,none⟩) m (c-i)) W:=by
 subst h1 h2;have q1:(i:Int)+(m:Int)<=(c:Int):=by omega
 have q2:(i:Int)<=(i:Int)+(m:Int):=by omega
 have q3:i+m-i=m:=by omega
 have q4:¬c=i:=by omega
 go_simp;try omega
theorem sl_from{z1:Int}(i:Nat)(h1:z1=(i:Int))(hn:n<=c)(hi:i<=n)(hc:i<c)(W:World):
  (Instr.slice 23 (.slice (some ⟨g,0,none⟩) n c) (some (iv z1)) none none).run Tryz.prog W=.ok (.slice (some ⟨g,i,none⟩) (n-i) (c-i)) W:=by
 subst h1;have q1:(i:Int)<=(n:Int):=by omega
 have q2:(n:Int)<=(c:Int):=by omega
 have q3:¬c=i:=by omega
 go_simp;try omega
theorem devA_len0(h:nb.length=d.s0.length):devA {d with s0:=nb} L=devA d L:=by simp[devA,h]
theorem devA_len1(h:nb.length=d.s1.length):devA {d with s1:=nb} L=devA d L:=by simp[devA,h]
theorem put_takeN{α:Type}(L cs:List α)(dn m n:Nat)(hc:cs.length=m)(h:dn+m<=n)(hL:n<=L.length):(L.take dn++cs++L.drop (dn+m)).take n=(L.take n).take dn++cs++(L.take n).drop (dn+m):=by
 have e1:(L.take n).take dn=L.take dn:=by rw[List.take_take];congr 1;omega
 have e2:(L.take n).drop (dn+m)=(L.drop (dn+m)).take (n-(dn+m)):=by rw[List.drop_take]
 have hl:(L.take dn++cs).length=dn+m:=by simp;omega
 rw[e1,e2,List.take_append,hl,List.take_of_length_le (by omega)]
section
variable {w w5:World} {base m1 m2 gs:Nat} {d:Dev} {L:DLoc} {cur new:Array Value} {nb:LU} {dd:Int}
theorem own_new{xs ys:List Value}{cur new:Array Value}(h:Own w base 5 1 A n c xs)(hA:A=some ⟨g,0,none⟩)(hcur:w.heap[g]?=some (.cells cur 5 (0,0)))(hn:new.size=cur.size)(ht:new.toList.take n=ys)(hl:ys.length=n)
  (hw:w'.heap[g]?=some (.cells new 5 (0,0))):Own w' base 5 1 A n c ys:=by
 subst hA;obtain⟨h1,h2⟩:=h;rcases h2 with ⟨h2,_⟩|⟨g',cap,cur',e,h3,h4,h5,h6,h7,h8⟩
 ·cases h2
 injection e with e1 e2 e3;injection e1 with e1;injection e1 with e1;subst e1 e3;have e1:cur=cur':=by rw[hcur]at h4;injection h4 with h4;injection h4
 subst e1;exact⟨by omega,Or.inr ⟨g,c,new,rfl,h3,hw,h5,h6,by omega,by rw[Nat.mul_one];exact ht⟩⟩
theorem DevOwn.put1(h:DevOwn w base m1 m2 d L)(hb:Below w.heap.size w w5)(hA:L.a1=some ⟨gs,0,none⟩)(hcur:w.heap[gs]?=some (.cells cur 5 (0,0)))(hl:nb.length=d.s1.length)(hn:new.size=cur.size)(ht:new.toList.take d.s1.length=nb.map bv)(hi:I64 dd):
  DevOwn (w5.setRow gs new) base m1 m2 {d with s1:=nb,done:=dd} L:=by
 have hgb:=h.o1.block gs (by rw[hA];rfl);have hg1:=h.b1 gs (by rw[hA];rfl);have h3:w5.heap[gs]?=some (.cells cur 5 (0,0)):=(hb.block gs hgb.2).trans hcur;refine⟨h.h1,h.h2,?_,h.b0,?_,h.b1,?_,?_,h.l0,by show nb.length<=_;rw[hl];exact h.l1,h.kg,h.lg,h.ir,hi⟩
 ·refine h.o0.same (fun k e=>(setRow_other _ _ _ _ ?_).trans (hb.block k (h.o0.block k e).2));have:=h.b0 k e;omega
 ·show Own _ m1 _ 1 L.a1 nb.length L.c1 (nb.map bv);rw[hl];exact own_new h.o1 hA hcur hn ht (by simp[hl]) (setRow_heap w5 gs _ new _ _ h3)
 ·exact(h.got.below hb nl).row hg1 new
 exact(h.job.below hb nl).row hg1 new
theorem DevOwn.put0(h:DevOwn w base m1 m2 d L)(hb:Below w.heap.size w w5)(hA:L.a0=some ⟨gs,0,none⟩)(hcur:w.heap[gs]?=some (.cells cur 5 (0,0)))(hl:nb.length=d.s0.length)(hn:new.size=cur.size)(ht:new.toList.take d.s0.length=nb.map bv)(hi:I64 dd):
  DevOwn (w5.setRow gs new) base m1 m2 {d with s0:=nb,done:=dd} L:=by
 have hgb:=h.o0.block gs (by rw[hA];rfl);have hg1:=h.b0 gs (by rw[hA];rfl);have hm:=h.h2;have h3:w5.heap[gs]?=some (.cells cur 5 (0,0)):=(hb.block gs hgb.2).trans hcur;refine⟨h.h1,h.h2,?_,h.b0,?_,h.b1,?_,?_,by show nb.length<=_;rw[hl];exact h.l0,h.l1,h.kg,h.lg,h.ir,hi⟩
 ·show Own _ base _ 1 L.a0 nb.length L.c0 (nb.map bv);rw[hl];exact own_new h.o0 hA hcur hn ht (by simp[hl]) (setRow_heap w5 gs _ new _ _ h3)
 ·refine h.o1.same (fun k e=>(setRow_other _ _ _ _ ?_).trans (hb.block k (h.o1.block k e).2));have:=(h.o1.block k e).1;omega
 ·exact(h.got.below hb nl).row (by omega) new
 exact(h.job.below hb nl).row (by omega) new
end
theorem own_cells0{e:Nat}{xs:List Value}(h:Own w base e 1 A n c xs)(hn:0<n):∃g cur,A=some ⟨g,0,none⟩∧base<=g∧w.heap[g]?=some (.cells cur e (0,0))∧n<=c∧cur.size=c∧cur.toList.take n=xs:=by
 obtain⟨h1,⟨_,h2⟩|⟨g,cap,cur,e1,h3,h4,h5,h6,h7,h8⟩⟩:=h
 ·omega
 injection e1 with e1 e2 e3;subst e1 e3;exact⟨g,cur,rfl,h3,h4,h5,by omega,by rw[Nat.mul_one]at h8;exact h8⟩
theorem DevOwn.slotS{m1 m2:Nat}(h:DevOwn w base m1 m2 d L)(l0:d.s0.length=64)(l1:d.s1.length=64){kb:Nat}(hb:kb<=1):∃(gs:Nat) (cur:Array Value) (c:Nat),(devA d L)[kb]?=some (.slice (some ⟨gs,0,none⟩) 64 c)∧base<=gs∧gs<w.heap.size∧w.heap[gs]?=some (.cells cur 5 (0,0))∧64<=c∧cur.size=c∧cur.toList.take 64=(d.slot (kb:Int)).map bv∧
  ∀(w5:World) (new:Array Value) (nb:LU) (dd:Int),Below w.heap.size w w5->nb.length=64->new.size=cur.size->new.toList.take 64=nb.map bv->I64 dd->DevOwn (w5.setRow gs new) base m1 m2 {d.setSlot (kb:Int) nb with done:=dd} L:=by
 have hm:=h.h1
 match kb,hb with
 |0,_=>
  obtain⟨gs,cur,hA,h1,h2,h3,h4,h5⟩:=own_cells0 h.o0 (by rw[l0];decide);rw[l0]at h3 h5;exact⟨gs,cur,L.c0,by simp[devA,hA,l0],h1,(h.o0.block gs (by rw[hA];rfl)).2,h2,h3,h4,h5,fun w5 new nb dd hb hl hn ht hi=>h.put0 hb hA h2 (hl.trans l0.symm) hn (by rw[l0];exact ht) hi⟩
 |1,_=>
  obtain⟨gs,cur,hA,h1,h2,h3,h4,h5⟩:=own_cells0 h.o1 (by rw[l1];decide);rw[l1]at h3 h5;exact⟨gs,cur,L.c1,by simp[devA,hA,l1],by omega,(h.o1.block gs (by rw[hA];rfl)).2,h2,h3,h4,h5,fun w5 new nb dd hb hl hn ht hi=>h.put1 hb hA h2 (hl.trans l1.symm) hn (by rw[l1];exact ht) hi⟩
theorem devA_slot(l0:d.s0.length=64)(l1:d.s1.length=64){kb:Nat}(hb:kb<=1)(hn:nb.length=64):devA (d.setSlot (kb:Int) nb) L=devA d L:=by
 match kb,hb with
 |0,_=>exact devA_len0 (hn.trans l0.symm)
 |1,_=>exact devA_len1 (hn.trans l1.symm)
def wrJ(w0:World)(rb:LU)(dn gs:Nat)(new:Array Value):Nat->(Nat->Value)->World->Prop
 |0,_,w=>w=w0.drew
 |1,cv,w=>∃A c,cv 14=.slice A rb.length c∧Own w w0.heap.size 5 1 A rb.length c (rb.map bv)∧Below w0.heap.size w0 w
 |2,cv,w=>∃g3 c3,cv 17=.slice (some ⟨g3,dn,none⟩) (rb.length-dn) c3∧Bts w (some ⟨g3,0,none⟩) rb∧w0.heap.size<=g3∧Below w0.heap.size w0 w
 |_,_,w=>∃w5,Below w0.heap.size w0 w5∧w=w5.setRow gs new
theorem wrJ_row{w0:World}{rb:LU}{dn gs k q:Nat}{new cs curs:Array Value}{cv:Nat->Value}(hJ:wrJ w0 rb dn gs new k cv w)(hq:q≠gs)(hr:rowOf w0 q=cs)(hf:frOf w0 q=(0,0))(h0:0<cs.size)(hgs:0<(rowOf w0 gs).size):rowOf w q=cs∧frOf w q=(0,0):=by
 have hlt:=row_lt (w:=w0) (g:=q) (by rw[hr];exact h0);have hls:=row_lt hgs;have key:Below w0.heap.size w0 w->rowOf w q=cs∧frOf w q=(0,0):=fun hb=>⟨(rowOf_below hlt hb).trans hr,(frOf_below hlt hb).trans hf⟩
 match k,hJ with
 |0,hJ=>obtain rfl:w=w0.drew:=hJ;exact key (Below.refl _ _).drew
 |1,⟨_,_,_,_,h⟩=>exact key h
 |2,⟨_,_,_,_,_,h⟩=>exact key h
 |n+3,⟨w5,h,e⟩=>
  subst e;rw[rowOf_setRow _ _ _ _ (by rw[rowOf_below hls h];exact hgs),if_neg hq,frOf_setRow];exact⟨(rowOf_below hlt h).trans hr,(frOf_below hlt h).trans hf⟩
theorem devWrite_bad(d:Dev)(L:DLoc)(torn:Bool)(keep:Int)(w:World)(h:DevIn w d L)  (hne:devReady d≠0):Calls Tryz.prog 58 #[.agg (devA d L),.bool torn,iv keep] w (DvRet w Dev.zero (devReady d)):=by
 have hba:Below w.heap.size w ((w.alloc (.cells (devA d L) 38)).alloc (.cells (devA Dev.zero DLoc.zero) 38)):=bA (bA (Below.refl _ _) _) _;have HBA:=qH hba;have HIN:=qH h;have KB:=qH (fun w h=>ready_bad d L w h hne);have q:(devReady d !=0)=true:=by simp[hne]
 generalize devReady d=n at *
 clear hne h hba;go_enter Tryz.func58,Tryz.ntmps58;go_wp2_with fail;refine(KB.out _ (HIN.out.stays HBA.out)).mono ?_;rintro e w1 ⟨rfl,hb1⟩;have a2:=kp (w.heap.size) (devA d L) hb1;have a1:=kp (w.heap.size+1) (devA Dev.zero DLoc.zero) hb1;have HB1:=bT HBA hb1;clear hb1;exact x5r8
theorem devWrite_ok(d:Dev)(L:DLoc)(torn:Bool)(keep:Int)(w:World)(h:DevIn w d L)  (hz:devReady d=0):Calls Tryz.prog 58 #[.agg (devA d L),.bool torn,iv keep] w (DvRet w (devWrite d torn keep).1 (devWrite d torn keep).2):=by
 have hba:Below w.heap.size w ((w.alloc (.cells (devA d L) 38)).alloc (.cells (devA Dev.zero DLoc.zero) 38)):=bA (bA (Below.refl _ _) _) _;have HBA:=qH hba;have HIN:=qH h;have KR:=qH (fun w h=>ready_ok d L w h hz);have hdef:devWrite d torn keep=if d.busy=false∨d.job.size<=d.done then (Dev.zero,5)
   else if (patDo (sumOn 1) d.job (d.image d.rec_.active d.rec_)).2≠0 then (Dev.zero,(patDo (sumOn 1) d.job (d.image d.rec_.active d.rec_)).2)
   else (if torn=true then (d.wrote torn keep).down else d.wrote torn keep,0):=by unfold devWrite;rw[if_neg (by omega)];rfl
 obtain⟨hok,hup⟩:=devReady_ok.1 hz;have hrec:=rec_ok hok;have hact:=rec_active hrec;have HOK:=qH hok;have HREC:=qH hrec;have HUP:=qH hup;have HD:=qH hdef;generalize devWrite d torn keep=res at *
 clear hz h hba hdef hok hrec hup;go_enter Tryz.func58,Tryz.ntmps58;go_wp2_with fail;refine(KR.out _ (HIN.out.stays HBA.out)).mono ?_;rintro e w1 ⟨L1,rfl,hfr,hb1⟩;have a2:=kp (w.heap.size) (devA d L) hb1;have a1:=kp (w.heap.size+1) (devA Dev.zero DLoc.zero) hb1;have HFR:Hid (Fresh (w.heap.size+2) w1 (fun v=>DvOwn v (w.heap.size+2) d L1)):=qH (by simpa[Nat.add_assoc]using hfr);have HB1:=bT HBA hb1;have hsz1:w.heap.size+2<=w1.heap.size:=by have:=hb1.size;simp at this;omega
 have HK1:Hid (Kp (w.heap.size+2) w1 w1):=qH (Kp.refl _ _);clear hb1 hfr
 cases hbz:d.busy
 ·have hz:res=(Dev.zero,5):=HD.out.trans (if_pos (.inl hbz));subst hz;exact x5r8
 by_cases c1:d.job.size<=d.done
 ·have hz:res=(Dev.zero,5):=HD.out.trans (if_pos (.inr c1));subst hz;exact x5r8
 have HBK:Hid (BusyOk d d.rec_):=qH (HOK.out.work HUP.out hbz);have HD1:Hid (res=(if torn=true then (d.wrote torn keep).down else d.wrote torn keep,0)):=qH (HD.out.trans (by rw[if_neg (by rw[hbz];simpa using c1),if_neg (by rw[HBK.out.does];decide)]));clear HD;obtain⟨ka,ha⟩:∃ka:Nat,d.rec_.active=(ka:Int):=⟨d.rec_.active.toNat,by omega⟩;have ha1:ka<=1:=by omega
 obtain⟨kb,hab⟩:∃kb:Nat,ka+kb=1:=⟨1-ka,by omega⟩;have hb1:kb<=1:=by omega
 have HKB:Hid ((1:Int)-(ka:Int)=(kb:Int)):=qH (by omega);obtain⟨img,himg⟩:=eX (d.image (ka:Int) d.rec_);obtain⟨b,hb⟩:=eX (d.next);have hpd:patDo (sumOn 1) d.job img=(b,0):=by
  rw[<-himg,<-hb];have h1:=HBK.out.does;unfold Dev.next;rw[ha]at h1⊢;exact Prod.ext rfl h1
 have hbl:=busy_len HBK.out;have hbe:(patDo (sumOn 1) d.job (d.image d.rec_.active d.rec_)).1=b:=hb;rw[hbe]at hbl;have HBL:Hid ((b.length:Int)=d.job.size∧d.job.size<=64):=qH hbl;have KI1:Hid (∀wq,DevIn wq d L1->Calls Tryz.prog 75 #[.agg (devA d L1),iv (ka:Int),.agg (recA d.rec_)] wq (ImRet wq img)):=qH (fun wq h=>by
  exact x7r2)
 have HPD:=qH hpd;have HIL:Hid (img.length<=64):=qH (by
  exact x0ss)
 have HNX:=qH hb;have HA:=qH ha;clear himg hb hpd hbl hbe hact;go_wp2_with fail;obtain⟨w2,hw1⟩:=eX ((w1.setRow w.heap.size (devA d L1)).alloc (.cells (recA d.rec_) 29));have hp1:0<(rowOf w1 w.heap.size).size:=by rw[a2.1];simp[devA]
 have q1:rowOf w2 w.heap.size=devA d L1:=by rw[<-hw1,rowOf_alloc,if_neg (by simp[World.setRow];omega),rowOf_setRow _ _ _ _ hp1,if_pos rfl]
 have q2:frOf w2 w.heap.size=(0,0):=by rw[<-hw1,frOf_alloc,if_neg (by simp[World.setRow];omega),frOf_setRow];exact a2.2.1
 have q3:rowOf w2 (w.heap.size+1)=devA Dev.zero DLoc.zero:=by rw[<-hw1,rowOf_alloc,if_neg (by simp[World.setRow];omega),rowOf_setRow _ _ _ _ hp1,if_neg (by omega)];exact a1.1
 have q4:frOf w2 (w.heap.size+1)=(0,0):=by rw[<-hw1,frOf_alloc,if_neg (by simp[World.setRow];omega),frOf_setRow];exact a1.2.1
 have q5:rowOf w2 w1.heap.size=recA d.rec_:=by rw[<-hw1,rowOf_alloc,if_pos (by simp[World.setRow])]
 have q6:frOf w2 w1.heap.size=(0,0):=by rw[<-hw1,frOf_alloc,if_pos (by simp[World.setRow])]
 have hsz2:w2.heap.size=w1.heap.size+1:=by rw[<-hw1];simp[World.setRow]
 have HB2:Hid (Below w.heap.size w w2):=qH (by rw[<-hw1];exact(below_row HB1.out nl _).alloc (by simp[World.setRow];omega) _);have HK2:Hid (Kp (w.heap.size+2) w1 w2):=qH (by rw[<-hw1];exact(HK1.out.row (.inl (by omega)) _).alloc (by simp[World.setRow]) _);rw[hw1];have RD:=qH q1;have FD:=qH q2;have RZ:=qH q3;have FZ:=qH q4;have RR:=qH q5;have FR:=qH q6;have HI1:Hid (DevIn w2 d L1):=qH (Fresh.kp HFR.out HK2.out nl (by omega)).now.devIn;have KI:Hid (∀wq,Below w2.heap.size w2 wq->Calls Tryz.prog 75 #[.agg (devA d L1),iv (ka:Int),.agg (recA d.rec_)] wq (ImRet wq img)):=qH (fun wq h=>KI1.out wq (HI1.out.stays h));have KD:Hid (∀wq A c,Below w2.heap.size w2 wq->img.length<=c->Bts wq A img->Calls Tryz.prog 74 #[.agg (patA d.job.from_ d.job.to_ d.job.old d.job.new_ d.job.size L1.aj d.job.ops.length L1.cj),.slice A img.length c] wq (ByRet2 wq b 0)):=qH (fun wq A c h hc hb=>by
  have hq:=patDo_calls L1.aj A L1.cj c d.job img wq hc (by have:=HIL.out;omega) hb (HI1.out.job.stays h);rw[HPD.out]at hq;exact hq)
 clear hw1 hp1 q1 q2 q3 q4 q5 q6 a2 a1;have hq2:=fun v (h:Below w2.heap.size w2 v)=>keep1 h RD.out (by go_simp) FD.out;have hq1:=fun v (h:Below w2.heap.size w2 v)=>keep1 h RR.out (by go_simp) FR.out;have hf1:=HA.out;have HSZ1:=qH hsz2;clear hsz2
 go_region_held3 (fun v=>Below w2.heap.size w2 v) (first|exact hbb|exact(Below.refl _ _).drew)
  (first
    |(go_at_call 75;refine(KI.out _ (by assumption)).mono ?_;rintro e wj ⟨Aj,cj,rfl,h3,h4,h5⟩;have hbb:=(bW w2).drew.trans (h5.mono (by simp)))
    |(go_at_call 74;refine(KD.out _ _ _ (by assumption) h3 h4).mono ?_;rintro e w4 ⟨A2,c2,rfl,g1,g2,g9⟩;have hbb:=hbb.trans (g9.mono hbb.size)))
 have g3:=hbb;have hsz2:=HSZ1.out;clear hbb g9 h3 h4 h5 hq2 hq1 hf1;have b3:=keep1 g3 RD.out (by go_simp) FD.out;have b1:=keep1 g3 RZ.out (by go_simp) FZ.out;have b2:=keep1 g3 RR.out (by go_simp) FR.out;have hs1:=g3.size;have HB3:Hid (Below w.heap.size w w4):=qH (HB2.out.trans (g3.mono HB2.out.size));have HK3:Hid (Kp (w.heap.size+2) w1 w4):=qH (HK2.out.below (by omega) g3);have HBB:=qH g1;have HC1:=qH g2;clear g1 g2 g3 KI KD RD FD RZ FZ RR FR KI1 HI1;have hdj:=HBK.out;have hd3:=hdj.d0;have hd1:=hdj.d1;have hd4:=hdj.d8;have hbl:=HBL.out;obtain⟨dn,hdn⟩:∃dn:Nat,d.done=(dn:Int):=⟨d.done.toNat,by omega⟩;have hdn1:dn<=56:=by omega
 have HDN:=qH hdn;obtain⟨rb,hrb⟩:=eX (room b);have hb2:b.length<=64:=by omega
 have HRL:Hid (rb.length=64):=qH (by rw[<-hrb];exact room_len hb2);have HB4:=qH hb2;have HRB:=qH hrb;have hown1:=(Fresh.kp HFR.out HK3.out nl (by omega)).now;obtain⟨m1,m2,hdo⟩:=hown1;obtain⟨gs,cur,cs,hslot,hgs,hgs1,hcur,hcc,hcsz,hct,hput⟩:=hdo.slotS HOK.out.l0 HOK.out.l1 hb1;have hbase:w.heap.size+2<=gs:=hgs;have hgsw:gs<w1.heap.size:=by
  obtain⟨m1',m2',hdo'⟩:=HFR.out.now;obtain⟨gs',_,_,hslot',_,hgs2',_⟩:=hdo'.slotS HOK.out.l0 HOK.out.l1 hb1;rw[hslot]at hslot';injection hslot' with h9;injection h9 with h9 _ _;injection h9 with h9;injection h9 with h9 _;omega
 have HSLOT:=qH hslot;have HCUR:=qH hcur;have HCT:=qH hct;have HCSZ:=qH hcsz;have HPUT:=qH hput;clear hdj hdn hrb hb2 hbl hd3 hd1 hd4 hdo hslot hcur hct hcsz hput hs1 hbz;obtain⟨m,hm⟩:∃m:Nat,keepN torn keep=(m:Int):=⟨(keepN torn keep).toNat,by have:=keepN_bd torn keep;omega⟩;have hm1:m<=8:=by have:=keepN_bd torn keep;omega
 have HM:=qH hm;clear hm;go_upto_if 49 with fail
 go_cut [11] (fun v wx=>v=iv (m:Int)∧w4=wx)
 case first=>
  cases torn
  case false=>
   have hmm:Hid ((8:Int)=(m:Int)):=qH (by rw[<-HM.out];simp[keepN]);go_wp2_with fail;go_meet
   case rel=>exact⟨by rw[<-hmm.out],rfl⟩
  case true=>
   have hmm:max 0 (min 8 keep)=(m:Int):=by rw[<-HM.out];simp[keepN]
   have h1x:=run_min8 keep;have h2x:=run_max0 (min 8 keep);rw[hmm]at h2x;generalize min 8 keep=mn at h1x h2x;clear hmm;exact x3dq
 case rest=>
 obtain⟨rfl,rfl⟩:=hcut;go_wp2_with fail;have RD:=qH b3.1;have FD:=qH b3.2.1;have RR:=qH b2.1;have FR:=qH b2.2.1;have HN1:Hid (w.heap.size≠gs):=qH (by omega);have HN2:Hid (w1.heap.size≠gs):=qH (by omega);have HG1:Hid (gs<w4.heap.size):=qH hgs1;have HG2:Hid (0<(rowOf w4 gs).size):=qH (by rw[row_of_blk HCUR.out,HCSZ.out];omega);have HWR:Hid (IntKind.i64.wrap (d.done+(m:Int))=d.done+(m:Int)):=qH (IntWalk.i64_in _ (by have:=HDN.out;omega));have HW1:Hid (IntKind.i64.wrap ((1:Int)-(ka:Int))=(kb:Int)):=qH (by rw[HKB.out];exact IntWalk.i64_in _ (by omega));have HSL:Hid (∀W,(Instr.slice 23 (.slice (some ⟨gs,0,none⟩) 64 cs) (some (iv d.done)) (some (iv (d.done+(m:Int)))) none).run Tryz.prog W=.ok (.slice (some ⟨gs,dn,none⟩) m (cs-dn)) W):=qH (sl_mid dn m HDN.out (by rw[HDN.out]) hcc (by omega) (by omega));have i1:(0:Int)<=(kb:Int):=by omega
 have i2:(kb:Int)<2:=by omega
 have i3:¬(2:Int)<=(kb:Int):=by omega
 obtain⟨new,hnew⟩:=eX ((cur.toList.take dn++((rb.drop dn).take m).map bv++cur.toList.drop (dn+m)).toArray);have HNEW:=qH hnew;clear hnew;refine wM (some 54::some 55::some 56::some 57::some 58::some 59::some 60::some 61::some 62::some 63::some 64::some 65::some 66::some 67::some 68::some 69::some 70::some 71::some 72::[]) (none::none::none::none::none::none::none::none::none::none::none::none::none::none::some 0::none::none::some 1::some 2::[]) (.pointer (some ⟨w1.heap.size,1,none⟩)::iv (ka:Int)::iv (kb:Int)::.pointer (some ⟨w.heap.size,0,none⟩)::.pointer (some ⟨w.heap.size,kb,none⟩)::.slice (some ⟨gs,0,none⟩) 64 cs::.pointer (some ⟨w.heap.size,36,none⟩)::iv d.done::.pointer (some ⟨w.heap.size,36,none⟩)::iv d.done::iv (m:Int)::iv (d.done+(m:Int))::.slice (some ⟨gs,dn,none⟩) m (cs-dn)::.slice A2 b.length c2::undef::.pointer (some ⟨w.heap.size,36,none⟩)::iv d.done::undef::undef::[]) 3 (wrJ w4 rb dn gs new) 82 (rfl) ?_ ?_
 ·refine⟨?_,?_,?_,?_,?_,?_,?_,?_,?_,?_,?_,?_,?_,?_,?_,?_,?_,?_,?_,trivial⟩
  ·intro done cv k1 a wq hw h hJ hn;have e1:=mO 8 (.pointer (some ⟨w1.heap.size,0,none⟩)) h;go_simp
  ·intro done cv k2 a wq hw h hJ hn;have e1:=mN 0 54 h hw;obtain⟨r_,f_⟩:=wrJ_row (curs:=#[]) hJ HN2.out RR.out FR.out (by simp[recA]) HG2.out;have c_:=cell_row (w:=wq) (g:=w1.heap.size) (by rw[r_];simp[recA]);have hk_:=HA.out;go_simp
  ·intro done cv k1 a wq hw h hJ hn;have e1:=mN 1 55 h hw;have hw_:=HW1.out;go_simp
  ·intro done cv k2 a wq hw h hJ hn;exact x1ro
  ·intro done cv k1 a wq hw h hJ hn;have i1_:=i1;have i2_:=i2;have i3_:=i3;have e1:=mN 3 57 h hw;have e56:=mN 2 56 h hw;go_simp
  ·intro done cv k2 a wq hw h hJ hn;have e1:=mN 4 58 h hw;have hs_:=HSLOT.out;exact x3q5
  ·intro done cv k1 a wq hw h hJ hn;exact x1ro
  ·intro done cv k2 a wq hw h hJ hn;have e1:=mN 6 60 h hw;exact x3q5
  ·intro done cv k1 a wq hw h hJ hn;exact x1ro
  ·intro done cv k2 a wq hw h hJ hn;have e1:=mN 8 62 h hw;exact x3q5
  ·intro done cv k1 a wq hw h hJ hn;have e1:=mO 11 (iv (m:Int)) h;exact mx_move (ch_ev e1)
  ·intro done cv k2 a wq hw h hJ hn;have e1:=mN 9 63 h hw;have e64:=mN 10 64 h hw;have hw_:=HWR.out;go_simp
  ·intro done cv k1 a wq hw h hJ hn;have e1:=mN 5 59 h hw;have e61:=mN 7 61 h hw;have e65:=mN 11 65 h hw;have hs_:=HSL.out;go_simp
  ·intro done cv k2 a wq hw h hJ hn;have e1:=mO 10 (.slice A2 b.length c2) h;exact mx_move (ch_ev e1)
  ·intro done cv a wq hw h hJ;have e1:=mN 13 67 h hw;obtain rfl:wq=w4.drew:=hJ;refine wp_call (vals:=#[.slice A2 b.length c2]) (by rw[List.map_toArray,List.map_cons,List.map_nil,ch_ev e1]) (enters_of Tryz.func50 (by kernel_rfl) rfl _ _) (room_calls A2 c2 b _ HB4.out (HBB.out.stays (Below.refl _ _).drew)) ?_;rintro e w' ⟨A1,c2,rfl,hown,hbel⟩;rw[HRB.out]at hown⊢;exact⟨_,rfl,_,rfl,A1,c2,by simp,hown,(Below.refl _ _).drew.trans hbel⟩
  ·intro done cv k1 a wq hw h hJ hn;exact x1ro
  ·intro done cv k2 a wq hw h hJ hn;have e1:=mN 15 69 h hw;exact x3q5
  ·intro done cv a wq hw h hJ;have e1:=mx_cv (i:=14) (t:=68) h (hw 14 (by decide)) rfl rfl;have e70:=mN 16 70 h hw;obtain⟨A1,c2,y1,hown,hbel⟩:=hJ;rw[y1]at e1;obtain⟨g1,hA1,hg1,_⟩:=hown.form (by rw[HRL.out];decide);subst hA1;have hs_:=sl_from (g:=g1) (n:=rb.length) (c:=c2) dn HDN.out hown.le (by rw[HRL.out];omega) (by have h9:=hown.le;rw[HRL.out]at h9;omega);refine wp_val (v:=.slice (some ⟨g1,dn,none⟩) (rb.length-dn) (c2-dn)) (by go_simp) ⟨_,rfl,g1,c2-dn,by simp,hown.src.bts,hg1,hbel⟩
  ·intro done cv a wq hw h hJ;have e3:=mN 12 66 h hw;have e71:=mx_cv (i:=17) (t:=71) h (hw 17 (by decide)) rfl rfl;obtain⟨g3,c2,y1,hbt,hg1,hbel⟩:=hJ;rw[y1]at e71;have hcb:=(hbel.block gs HG1.out).trans HCUR.out;have hcl:(((rb.drop dn).take m).map bv).length=m:=by rw[List.length_map,List.length_take,List.length_drop,HRL.out];omega
   refine wp_copyN (.tmp 66) (.tmp 71) 23 23 rfl _ _ (ch_ev e3) (ch_ev e71) (run_copy_row Tryz.prog wq 23 23 _ 5 gs dn m (cs-dn) ⟨g3,dn,none⟩ (rb.length-dn) c2 cur 5 (((rb.drop dn).take m).map bv) Tryz.underlying23 (by kernel_rfl) hcb (by rw[hcl,HRL.out];show m=min (64-dn) m;omega) ?_ (by rw[hcl,HCSZ.out];omega) (bv_one _)) ⟨_,rfl,wq,hbel,?_⟩
   ·intro j v hv;obtain⟨hj,rfl⟩:=List.getElem?_eq_some_iff.1 hv;have hjm:j<m:=by rw[hcl]at hj;exact hj
    obtain⟨bb,oo,e1,_,hc⟩:=hbt (dn+j) (by rw[HRL.out];omega);injection e1 with e1;injection e1 with e1 e2;subst e1 e2;have hx:w4.heap.size<=g3:=hg1;rw[show (⟨g3,dn,none⟩:Addr).add j=⟨g3,0+(dn+j),none⟩ by simp[Addr.add]];rw[hc];simp
   rw[hcl,HNEW.out]
 intro cv1 w3 hJ;obtain⟨w4,hb2,rfl⟩:=hJ;simp only[mixAll,pA,mA,Nat.reduceAdd];obtain⟨nb,hnb⟩:=eX (d.put d.next m);have hsl:=slot_len HOK.out.l0 HOK.out.l1 (kb:Int);have hnb1:nb=(d.slot (kb:Int)).take dn++(rb.drop dn).take m++(d.slot (kb:Int)).drop (dn+m):=by
  rw[<-hnb];unfold Dev.put;rw[HA.out,HKB.out,HNX.out,HRB.out,show d.done.toNat=dn by rw[HDN.out];rfl]
 have hnbl:nb.length=64:=by
  rw[hnb1];simp only[List.length_append,List.length_take,List.length_drop,HRL.out,hsl];omega
 have hcul:cur.toList.length=cs:=by rw[Array.length_toList,HCSZ.out]
 have hcl:(((rb.drop dn).take m).map bv).length=m:=by rw[List.length_map,List.length_take,List.length_drop,HRL.out];omega
 have hnsz:new.size=cur.size:=by
  rw[<-HNEW.out,HCSZ.out];simp only[List.size_toArray,List.length_append,List.length_take,List.length_drop,hcl,hcul];omega
 have hnt:new.toList.take 64=nb.map bv:=by
  rw[<-HNEW.out,put_takeN _ _ dn m 64 hcl (by omega) (by omega),HCT.out,hnb1];simp[List.map_take,List.map_drop]
 obtain⟨d2,hd1⟩:=eX (d.setSlot (kb:Int) nb);have hwv:d.wrote torn keep={d2 with done:=d.done+(m:Int)}:=by
  unfold Dev.wrote;rw[HM.out,HA.out,HKB.out,show ((m:Int)).toNat=m from rfl,hnb,hd1]
 have hpo:=HPUT.out w4 new nb (d.done+(m:Int)) hb2 hnbl hnsz hnt ⟨by have:=HDN.out;omega,by have:=HDN.out;omega⟩;rw[hd1]at hpo;have hown2:DvOwn (w4.setRow gs new) (w.heap.size+2) {d2 with done:=d.done+(m:Int)} L1:=⟨m1,m2,hpo⟩;have HO1:=qH hown2.fresh;have hz:res=(if torn=true then ({d2 with done:=d.done+(m:Int)}:Dev).down else {d2 with done:=d.done+(m:Int)},0):=by rw[HD1.out,hwv]
 have hdev:devA d2 L1=devA d L1:=by rw[<-hd1];exact devA_slot HOK.out.l0 HOK.out.l1 hb1 hnbl
 have hdn2:d2.done=d.done:=by rw[<-hd1];unfold Dev.setSlot;split<;>rfl
 have HB5:=bT HB3 hb2;have d3:=keep1 hb2 RD.out (by go_simp) FD.out;have d1:=keep1 hb2 b1.1 (by go_simp) b1.2.1;have hsr:0<(rowOf w4 gs).size:=by rw[rowOf_below hgs1 hb2];exact HG2.out
 have hs1:=hb2.size;obtain⟨w3,hw1⟩:=eX (w4.setRow gs new);have e0r:rowOf w3 w.heap.size=devA d2 L1:=by rw[<-hw1,rowOf_setRow _ _ _ _ hsr,if_neg (by omega),d3.1,hdev]
 have e0f:frOf w3 w.heap.size=(0,0):=by rw[<-hw1,frOf_setRow];exact d3.2.1
 have e1r:rowOf w3 (w.heap.size+1)=devA Dev.zero DLoc.zero:=by rw[<-hw1,rowOf_setRow _ _ _ _ hsr,if_neg (by omega)];exact d1.1
 have e1f:frOf w3 (w.heap.size+1)=(0,0):=by rw[<-hw1,frOf_setRow];exact d1.2.1
 have hs2:w3.heap.size=w4.heap.size:=by rw[<-hw1];simp[World.setRow]
 have HB6:Hid (Below w.heap.size w w3):=qH (by rw[<-hw1];exact below_row HB5.out (by omega) _);have e0n:¬w.heap.size=w3.heap.size:=by omega
 have e1n:¬w.heap.size+1=w3.heap.size:=by omega
 have e0c:∀j,w3.cell? ⟨w.heap.size,j,none⟩=(devA d2 L1)[j]?:=fun j=>by rw[cell_row (by rw[e0r];simp[devA]),e0r]
 have e0z:∀j,w3.frozen? ⟨w.heap.size,j,none⟩=false:=fun j=>frozen_row (by rw[e0r];simp[devA]) e0f j;have hwr1:IntKind.i64.wrap (d2.done+(m:Int))=d2.done+(m:Int):=by rw[hdn2];exact HWR.out
 rw[hw1]at HO1⊢;rw[<-hdn2]at HO1 hz;have HFR:=HO1;subst hz;clear hw1 hown2 hnt hnsz hcl hcul hnbl hnb1 hsl hnb hdev hd1 hwv hpo hdn2 d3 d1 b3 b1 b2 hb2 hsr RD FD RR FR HG2;have HK4:Hid (Kp (w.heap.size+2) w3 w3):=qH (Kp.refl _ _);obtain⟨tk,htk⟩:=eX (d2.done+(m:Int));rw[htk]at HFR HO1 hwr1⊢
 cases torn
 case false=>
  go_wp2_with fail;refine bodyPost_ret (rC (devA {d2 with done:=tk} L1)) rfl ⟨L1,rfl,?_,?_⟩
  ·refine Fresh.imp (P:=fun v=>DvOwn v (w.heap.size+2) {d2 with done:=tk} L1) (Fresh.kp HFR.out ?_ (by omega) (by first|omega|(simp<;>omega))) (fun v hv=>hv.devIn);exact x7of
  exact bZ HB6
 case true=>
  go_wp2_with fail;refine(down_calls {d2 with done:=tk} L1 _).mono ?_;rintro e w5 ⟨rfl,hb⟩;have a2:=kp (w.heap.size+1) (devA Dev.zero DLoc.zero) hb;have a1:=kp (w.heap.size) (devA {d2 with done:=tk} L1) hb;have hbs1:=hb.size;have hsz3:w3.heap.size<=w5.heap.size:=by first|omega|(simp at hbs1;omega)
  have HK5:Hid (Kp (w.heap.size+2) w3 w5):=qH (by
   refine Kp.below ?_ (by first|omega|(simp<;>omega)) hb;exact x7of)
  have HB7:=bU HB6 hb;clear hb hbs1;go_wp2_with fail;refine bodyPost_ret (rC (devA ({d2 with done:=tk}:Dev).down L1.down)) rfl ⟨L1.down,rfl,?_,?_⟩
  ·refine Fresh.imp (P:=fun v=>DvOwn v (w.heap.size+2) {d2 with done:=tk} L1) (Fresh.kp HFR.out ?_ (by omega) (by first|omega|(simp<;>omega))) (fun v hv=>hv.devIn.down);repeat (first|exact HK5.out|exact Kp.refl _ _|refine Kp.row ?_ (by omega) _|refine Kp.cell ?_ (by first|(show _<_∨_<=_;omega)|(simp<;>omega)) _|refine Kp.alloc ?_ (by first|omega|(simp<;>omega)) _)
  exact bZ HB7
theorem devWrite_calls(d:Dev)(L:DLoc)(torn:Bool)(keep:Int)(w:World)(h:DevIn w d L):Calls Tryz.prog 58 #[.agg (devA d L),.bool torn,iv keep] w (DvRet w (devWrite d torn keep).1 (devWrite d torn keep).2):=by
 by_cases hz:devReady d=0
 ·exact devWrite_ok d L torn keep w h hz
 have e:devWrite d torn keep=(Dev.zero,devReady d):=by unfold devWrite;rw[if_pos hz]
 rw[e];exact devWrite_bad d L torn keep w h hz
theorem DevIn.fin(h:DevIn w d L)(p q:Cop):DevIn w {d with c0:=p,c1:=q,busy:=false,job:=Pat.zero,done:=0} {L with aj:=none,cj:=0}:=⟨h.k0,h.l0,h.b0,h.k1,h.l1,h.b1,h.kg,h.lg,h.got,pat_in_zero w,h.ir,⟨by show -9223372036854775808<=(0:Int);omega,by show (0:Int)<=9223372036854775807;omega⟩⟩
theorem tryIt0(h:r.active=0)(x:Inf):r.tryIt x={r with trying:=true,tries:=3,b:=x}:=by unfold Rec.tryIt Rec.setOther;rw[if_pos (by exact h)]
theorem tryIt1(h:r.active=1)(x:Inf):r.tryIt x={r with trying:=true,tries:=3,a:=x}:=by unfold Rec.tryIt Rec.setOther;rw[if_neg (by show ¬r.active=0;omega)]
theorem devFinish_bad(d:Dev)(L:DLoc)(torn:Bool)(w:World)(h:DevIn w d L)  (hne:devReady d≠0):Calls Tryz.prog 59 #[.agg (devA d L),.bool torn] w (DvRet w Dev.zero (devReady d)):=by
 have hba:Below w.heap.size w ((w.alloc (.cells (devA d L) 38)).alloc (.cells (devA Dev.zero DLoc.zero) 38)):=bA (bA (Below.refl _ _) _) _;have HBA:=qH hba;have HIN:=qH h;have KB:=qH (fun w h=>ready_bad d L w h hne);have q:(devReady d !=0)=true:=by simp[hne]
 generalize devReady d=n at *
 clear hne h hba;go_enter Tryz.func59,Tryz.ntmps59;go_wp2_with fail;refine(KB.out _ (HIN.out.stays HBA.out)).mono ?_;rintro e w1 ⟨rfl,hb1⟩;have a2:=kp (w.heap.size) (devA d L) hb1;have a1:=kp (w.heap.size+1) (devA Dev.zero DLoc.zero) hb1;have HB1:=bT HBA hb1;clear hb1;exact x5r8
theorem devFinish_ok(d:Dev)(L:DLoc)(torn:Bool)(w:World)(h:DevIn w d L)  (hz:devReady d=0):Calls Tryz.prog 59 #[.agg (devA d L),.bool torn] w (DvRet w (devFinish d torn).1 (devFinish d torn).2):=by
 have hba:Below w.heap.size w ((w.alloc (.cells (devA d L) 38)).alloc (.cells (devA Dev.zero DLoc.zero) 38)):=bA (bA (Below.refl _ _) _) _;have HBA:=qH hba;have HIN:=qH h;have KR:=qH (fun w h=>ready_ok d L w h hz);have hdef:devFinish d torn=if d.busy=false∨d.done<d.job.size then (Dev.zero,5)
   else if (recWrite d.c0 d.c1 (d.rec_.tryIt ⟨d.job.to_,d.job.size,d.job.new_⟩) torn).2≠0 then (Dev.zero,(recWrite d.c0 d.c1 (d.rec_.tryIt ⟨d.job.to_,d.job.size,d.job.new_⟩) torn).2)
   else (if torn=true then ({d.write (d.rec_.tryIt ⟨d.job.to_,d.job.size,d.job.new_⟩) torn with busy:=false,job:=Pat.zero,done:=0}:Dev).down else {d.write (d.rec_.tryIt ⟨d.job.to_,d.job.size,d.job.new_⟩) torn with busy:=false,job:=Pat.zero,done:=0},0):=by unfold devFinish;rw[if_neg (by omega)]
 have hact:=rec_active (rec_ok (devReady_ok.1 hz).1);unfold Dev.write at hdef;obtain⟨rt,hrt⟩:=eX (d.rec_.tryIt ⟨d.job.to_,d.job.size,d.job.new_⟩);have HT2:Hid (d.rec_.active=0->rt=⟨d.rec_.gen,0,true,3,d.rec_.floor,d.rec_.a,⟨d.job.to_,d.job.size,d.job.new_⟩⟩):=qH (fun e=>by rw[<-hrt,tryIt0 e,Rec.mk.injEq];exact⟨rfl,e,rfl,rfl,rfl,rfl,rfl⟩);have HT1:Hid (d.rec_.active=1->rt=⟨d.rec_.gen,1,true,3,d.rec_.floor,⟨d.job.to_,d.job.size,d.job.new_⟩,d.rec_.b⟩):=qH (fun e=>by rw[<-hrt,tryIt1 e,Rec.mk.injEq];exact⟨rfl,e,rfl,rfl,rfl,rfl,rfl⟩);rw[hrt]at hdef;have K1:=qH (fun w=>write_calls d.c0 d.c1 rt torn w);obtain⟨⟨⟨p1,p2⟩,e1⟩,hw⟩:∃x,recWrite d.c0 d.c1 rt torn=x:=⟨_,rfl⟩;rw[hw]at hdef K1;dsimp only at hdef;have HD:=qH hdef;generalize devFinish d torn=res at *
 clear hz h hba hdef hw hrt;go_enter Tryz.func59,Tryz.ntmps59;go_wp2_with fail;refine(KR.out _ (HIN.out.stays HBA.out)).mono ?_;rintro e w1 ⟨L1,rfl,hfr,hb1⟩;have a2:=kp (w.heap.size) (devA d L) hb1;have a1:=kp (w.heap.size+1) (devA Dev.zero DLoc.zero) hb1;have HFR:Hid (Fresh (w.heap.size+2) w1 (fun v=>DvOwn v (w.heap.size+2) d L1)):=qH (by simpa[Nat.add_assoc]using hfr);have HB1:=bT HBA hb1;have hsz1:w.heap.size+2<=w1.heap.size:=by have:=hb1.size;simp at this;omega
 have HK1:Hid (Kp (w.heap.size+2) w1 w1):=qH (Kp.refl _ _);clear hb1 hfr
 cases hbz:d.busy
 ·have hz:res=(Dev.zero,5):=HD.out.trans (if_pos (.inl hbz));subst hz;exact x5r8
 by_cases c1:d.done<d.job.size
 ·have hz:res=(Dev.zero,5):=HD.out.trans (if_pos (.inr c1));subst hz;exact x5r8
 have HD1:=qH (HD.out.trans (if_neg (by rw[hbz];simpa using c1)));clear HD;rcases hact with hk|hk
 first|case' inl=>have T2:Hid True:=qH trivial|case' pos=>have T2:Hid True:=qH trivial|case' refine_1=>have T2:Hid True:=qH trivial
 iterate 2
  ·first
    |
     revert T2;intro T2;have HT:=qH (HT2.out hk)
    |have HT:=qH (HT1.out hk)
   clear HT2 HT1;have w1e:IntKind.i64.wrap (1-0)=1:=by decide
   have w2e:IntKind.i64.wrap (1-1)=0:=by decide
   have w3e:IntKind.i64.wrap 1=1:=by decide
   have w4e:IntKind.i64.wrap 0=0:=by decide
   go_wp2_with fail;rw[<-HT.out];refine(K1.out _).mono ?_;rintro e w3 ⟨rfl,hb⟩;have a2:=kp (w.heap.size) (devA d L1) hb;have a1:=kr a1 hb;have hbs3:=hb.size;have hsz3:w1.heap.size<=w3.heap.size:=by first|omega|(simp at hbs3;omega)
   have HK3:Hid (Kp (w.heap.size+2) w1 w3):=qH (by
    refine Kp.below ?_ (by first|omega|(simp<;>omega)) hb;repeat (first|exact HK1.out|exact Kp.refl _ _|refine Kp.row ?_ (by omega) _|refine Kp.cell ?_ (by first|(show _<_∨_<=_;omega)|(simp<;>omega)) _|refine Kp.alloc ?_ (by first|omega|(simp<;>omega)) _))
   have HB3:=bU HB1 hb;clear hb hbs3;by_cases c3:e1≠0
   ·have hz:res=(Dev.zero,e1):=HD1.out.trans (if_pos c3);subst hz;have q:(e1 !=0)=true:=by simp[c3]
    clear c3;go_wp2_with fail;refine bodyPost_ret (rC (devA Dev.zero DLoc.zero)) rfl ⟨DLoc.zero,rfl,.const fun v=>DevIn.zero v,bZ HB3⟩
   have c3:=Decidable.not_not.1 c3;subst c3;have HD3:=qH (HD1.out.trans (if_neg (by decide)));clear HD1
   cases torn
   case false=>
    have hz:res=({d with c0:=p1,c1:=p2,busy:=false,job:=Pat.zero,done:=0},0):=HD3.out.trans (by rw[if_neg (by decide)]);subst hz;go_wp2_with fail;refine bodyPost_ret (rC (devA {d with c0:=p1,c1:=p2,busy:=false,job:=Pat.zero,done:=0} {L1 with aj:=none,cj:=0})) rfl ⟨{L1 with aj:=none,cj:=0},rfl,?_,?_⟩
    ·refine Fresh.imp (P:=fun v=>DvOwn v (w.heap.size+2) d L1) (Fresh.kp HFR.out ?_ (by omega) (by first|omega|(simp<;>omega))) (fun v hv=>hv.devIn.fin p1 p2);repeat (first|exact HK3.out|exact Kp.refl _ _|refine Kp.row ?_ (by omega) _|refine Kp.cell ?_ (by first|(show _<_∨_<=_;omega)|(simp<;>omega)) _|refine Kp.alloc ?_ (by first|omega|(simp<;>omega)) _)
    exact bZ HB3
   case true=>
    have hz:res=(({d with c0:=p1,c1:=p2,busy:=false,job:=Pat.zero,done:=0}:Dev).down,0):=HD3.out.trans (by rw[if_pos rfl]);subst hz;go_wp2_with fail;refine(down_calls {d with c0:=p1,c1:=p2,busy:=false,job:=Pat.zero,done:=0} {L1 with aj:=none,cj:=0} _).mono ?_;rintro e w4 ⟨rfl,hb⟩;have a2:=kp (w.heap.size+1) (devA Dev.zero DLoc.zero) hb;have a1:=kp (w.heap.size) (devA {d with c0:=p1,c1:=p2,busy:=false,job:=Pat.zero,done:=0} {L1 with aj:=none,cj:=0}) hb;have hbs4:=hb.size;have hsz4:w1.heap.size<=w4.heap.size:=by first|omega|(simp at hbs4;omega)
    have HK4:Hid (Kp (w.heap.size+2) w1 w4):=qH (by
     refine Kp.below ?_ (by first|omega|(simp<;>omega)) hb;repeat (first|exact HK3.out|exact Kp.refl _ _|refine Kp.row ?_ (by omega) _|refine Kp.cell ?_ (by first|(show _<_∨_<=_;omega)|(simp<;>omega)) _|refine Kp.alloc ?_ (by first|omega|(simp<;>omega)) _))
    have HB4:=bU HB3 hb;clear hb hbs4;go_wp2_with fail;refine bodyPost_ret (rC (devA ({d with c0:=p1,c1:=p2,busy:=false,job:=Pat.zero,done:=0}:Dev).down ({L1 with aj:=none,cj:=0}:DLoc).down)) rfl ⟨({L1 with aj:=none,cj:=0}:DLoc).down,rfl,?_,?_⟩
    ·refine Fresh.imp (P:=fun v=>DvOwn v (w.heap.size+2) d L1) (Fresh.kp HFR.out ?_ (by omega) (by first|omega|(simp<;>omega))) (fun v hv=>(hv.devIn.fin p1 p2).down);repeat (first|exact HK4.out|exact Kp.refl _ _|refine Kp.row ?_ (by omega) _|refine Kp.cell ?_ (by first|(show _<_∨_<=_;omega)|(simp<;>omega)) _|refine Kp.alloc ?_ (by first|omega|(simp<;>omega)) _)
    exact bZ HB4
theorem devFinish_calls(d:Dev)(L:DLoc)(torn:Bool)(w:World)(h:DevIn w d L):Calls Tryz.prog 59 #[.agg (devA d L),.bool torn] w (DvRet w (devFinish d torn).1 (devFinish d torn).2):=by
 by_cases hz:devReady d=0
 ·exact devFinish_ok d L torn w h hz
 have e:devFinish d torn=(Dev.zero,devReady d):=by unfold devFinish;rw[if_pos hz]
 rw[e];exact devFinish_bad d L torn w h hz
theorem x0zk(h:Y:=by
 clear hr hf h z1 z2;go_enter Tryz.func18,Tryz.ntmps18;go_wp2_with fail;refine KS.out.mono ?_;rintro e w1 ⟨rfl,hz,hx,hs⟩;have HZ:=qH hz;have HX2:Hid (Bex g base w w1):=qH ⟨HX1.out.1.trans hx.1,fun k a b=>(hx.2 k a b).trans (HX1.out.2 k a b)⟩;have hs2:w.heap.size<=w1.heap.size:=by omega
 clear hz hx KS;go_wp2_with fail;go_ret;exact⟨rfl,HZ.out,HX2.out,hs2⟩):Y:=h
theorem happen_5(g base m top:Nat)(ds:List (Option Addr×Nat))(n:Int)(x:Wor)(L:WLoc)(w:World)(hr:rowOf w g=worA x L)(hf:frOf w g=(0,0))(hg:g<base∨top<=g)(h:WorAt w base m top ds x L):Calls Tryz.prog 18 #[.pointer (some ⟨g,0,none⟩),.agg #[iv 5,iv n]] w (HaRet w g base (worDevice x (devOpen x.d)).1 (worDevice x (devOpen x.d)).2):=by
 obtain⟨hlt,hm1,hm2,hm3,HBA,HW1,HX1,hs1,-,-⟩:=happen_box g base m top ds n x L w hr hf hg h 5;have a2:=keep1 (bW w) hr (by go_simp) hf;obtain⟨⟨d1,e1⟩,hd1⟩:∃z,devOpen x.d=z:=⟨_,rfl⟩;have KD:=qH (devOpen_calls x.d L.l _ HW1.out.dev.now);exact x7jh
theorem happen_6(g base m top:Nat)(ds:List (Option Addr×Nat))(n:Int)(x:Wor)(L:WLoc)(w:World)(hr:rowOf w g=worA x L)(hf:frOf w g=(0,0))(hg:g<base∨top<=g)(h:WorAt w base m top ds x L):Calls Tryz.prog 18 #[.pointer (some ⟨g,0,none⟩),.agg #[iv 6,iv n]] w (HaRet w g base (worDevice x (devWrite x.d false n)).1 (worDevice x (devWrite x.d false n)).2):=by
 obtain⟨hlt,hm1,hm2,hm3,HBA,HW1,HX1,hs1,-,-⟩:=happen_box g base m top ds n x L w hr hf hg h 6;have a2:=keep1 (bW w) hr (by go_simp) hf;obtain⟨⟨d1,e1⟩,hd1⟩:∃z,devWrite x.d false n=z:=⟨_,rfl⟩;have KD:=qH (devWrite_calls x.d L.l false n _ HW1.out.dev.now);exact x7jh
theorem happen_7(g base m top:Nat)(ds:List (Option Addr×Nat))(n:Int)(x:Wor)(L:WLoc)(w:World)(hr:rowOf w g=worA x L)(hf:frOf w g=(0,0))(hg:g<base∨top<=g)(h:WorAt w base m top ds x L):Calls Tryz.prog 18 #[.pointer (some ⟨g,0,none⟩),.agg #[iv 7,iv n]] w (HaRet w g base (worDevice x (devFinish x.d false)).1 (worDevice x (devFinish x.d false)).2):=by
 obtain⟨hlt,hm1,hm2,hm3,HBA,HW1,HX1,hs1,-,-⟩:=happen_box g base m top ds n x L w hr hf hg h 7;have a2:=keep1 (bW w) hr (by go_simp) hf;obtain⟨⟨d1,e1⟩,hd1⟩:∃z,devFinish x.d false=z:=⟨_,rfl⟩;have KD:=qH (devFinish_calls x.d L.l false _ HW1.out.dev.now);exact x7jh
theorem happen_8(g base m top:Nat)(ds:List (Option Addr×Nat))(n:Int)(x:Wor)(L:WLoc)(w:World)(hr:rowOf w g=worA x L)(hf:frOf w g=(0,0))(hg:g<base∨top<=g)(h:WorAt w base m top ds x L):Calls Tryz.prog 18 #[.pointer (some ⟨g,0,none⟩),.agg #[iv 8,iv n]] w (HaRet w g base (worDevice x (devConfirm x.d)).1 (worDevice x (devConfirm x.d)).2):=by
 obtain⟨hlt,hm1,hm2,hm3,HBA,HW1,HX1,hs1,-,-⟩:=happen_box g base m top ds n x L w hr hf hg h 8;have a2:=keep1 (bW w) hr (by go_simp) hf;obtain⟨⟨d1,e1⟩,hd1⟩:∃z,devConfirm x.d=z:=⟨_,rfl⟩;have KD:=qH (devConfirm_calls x.d L.l _ HW1.out.dev.now);exact x7jh
theorem happen_10(g base m top:Nat)(ds:List (Option Addr×Nat))(n:Int)(x:Wor)(L:WLoc)(w:World)(hr:rowOf w g=worA x L)(hf:frOf w g=(0,0))(hg:g<base∨top<=g)(h:WorAt w base m top ds x L):Calls Tryz.prog 18 #[.pointer (some ⟨g,0,none⟩),.agg #[iv 10,iv n]] w (HaRet w g base (worDevice x (devBoot x.d)).1 (worDevice x (devBoot x.d)).2):=by
 obtain⟨hlt,hm1,hm2,hm3,HBA,HW1,HX1,hs1,-,-⟩:=happen_box g base m top ds n x L w hr hf hg h 10;have a2:=keep1 (bW w) hr (by go_simp) hf;obtain⟨⟨d1,e1⟩,hd1⟩:∃z,devBoot x.d=z:=⟨_,rfl⟩;have KD:=qH (devBoot_calls x.d L.l _ HW1.out.dev.now);exact x7jh
theorem happen_11(g base m top:Nat)(ds:List (Option Addr×Nat))(n:Int)(x:Wor)(L:WLoc)(w:World)(hr:rowOf w g=worA x L)(hf:frOf w g=(0,0))(hg:g<base∨top<=g)(h:WorAt w base m top ds x L):Calls Tryz.prog 18 #[.pointer (some ⟨g,0,none⟩),.agg #[iv 11,iv n]] w (HaRet w g base (worDevice x (devWrite x.d true n)).1 (worDevice x (devWrite x.d true n)).2):=by
 obtain⟨hlt,hm1,hm2,hm3,HBA,HW1,HX1,hs1,-,-⟩:=happen_box g base m top ds n x L w hr hf hg h 11;have a2:=keep1 (bW w) hr (by go_simp) hf;obtain⟨⟨d1,e1⟩,hd1⟩:∃z,devWrite x.d true n=z:=⟨_,rfl⟩;have KD:=qH (devWrite_calls x.d L.l true n _ HW1.out.dev.now);exact x7jh
theorem happen_12(g base m top:Nat)(ds:List (Option Addr×Nat))(n:Int)(x:Wor)(L:WLoc)(w:World)(hr:rowOf w g=worA x L)(hf:frOf w g=(0,0))(hg:g<base∨top<=g)(h:WorAt w base m top ds x L):Calls Tryz.prog 18 #[.pointer (some ⟨g,0,none⟩),.agg #[iv 12,iv n]] w (HaRet w g base (worDevice x (devFinish x.d true)).1 (worDevice x (devFinish x.d true)).2):=by
 obtain⟨hlt,hm1,hm2,hm3,HBA,HW1,HX1,hs1,-,-⟩:=happen_box g base m top ds n x L w hr hf hg h 12;have a2:=keep1 (bW w) hr (by go_simp) hf;obtain⟨⟨d1,e1⟩,hd1⟩:∃z,devFinish x.d true=z:=⟨_,rfl⟩;have KD:=qH (devFinish_calls x.d L.l true _ HW1.out.dev.now);exact x7jh
theorem happen_1(g base m top:Nat)(ds:List (Option Addr×Nat))(n:Int)(x:Wor)(L:WLoc)(w:World)(hr:rowOf w g=worA x L)(hf:frOf w g=(0,0))(hg:g<base∨top<=g)(h:WorAt w base m top ds x L)(hok:WorOk x)(hi:I64 n):Calls Tryz.prog 18 #[.pointer (some ⟨g,0,none⟩),.agg #[iv 1,iv n]] w (HaRet w g base (worSend x n).1 (worSend x n).2):=by
 obtain⟨hlt,hm1,hm2,hm3,HBA,HW1,HX1,hs1,z1,z2⟩:=happen_box g base m top ds n x L w hr hf hg h 1;have a1:=keep1 (bW w) hr (by go_simp) hf;have KS:=qH (send_calls g base m top ds n x L _ z1 z2 hg HW1.out hok hi);generalize worSend x n=res at *
 exact x0zk
theorem hear_calls(g base m top:Nat)(ds:List (Option Addr×Nat))(n:Int)(x:Wor)(L:WLoc)(w:World)(hr:rowOf w g=worA x L)(hf:frOf w g=(0,0))(hg:g<base∨top<=g)(h:WorAt w base m top ds x L)(hok:WorOk x)(k:Int)(hk:k=2∨k=3∨k=4):Calls Tryz.prog 56 #[.pointer (some ⟨g,0,none⟩),.agg #[iv k,iv n]] w (HaRet w g base (worHear x k n).1 (worHear x k n).2):=by
 by_cases hn:n<0∨(x.net.length:Int)<=n
 ·have e:worHear x k n=(Wor.zero,4):=by unfold worHear;rw[if_pos hn]
  rw[e];exact hear_who g base m top ds n x L w hr hf hg h hok.few k hn
 obtain⟨i,hi⟩:∃i:Nat,n=(i:Int):=⟨n.toNat,by omega⟩;have hil:i<x.net.length:=by omega
 exact hear_at g base m top ds n x L w hr hf hg h hok.few k hk i hi hil
theorem happen_2(g base m top:Nat)(ds:List (Option Addr×Nat))(n:Int)(x:Wor)(L:WLoc)(w:World)(hr:rowOf w g=worA x L)(hf:frOf w g=(0,0))(hg:g<base∨top<=g)(h:WorAt w base m top ds x L)(hok:WorOk x)(hi:I64 n)(k:Int)(hk:k=2∨k=3∨k=4):Calls Tryz.prog 18 #[.pointer (some ⟨g,0,none⟩),.agg #[iv k,iv n]] w (HaRet w g base (worHear x k n).1 (worHear x k n).2):=by
 obtain⟨hlt,hm1,hm2,hm3,HBA,HW1,HX1,hs1,z1,z2⟩:=happen_box g base m top ds n x L w hr hf hg h k;have a1:=keep1 (bW w) hr (by go_simp) hf;have KS:=qH (hear_calls g base m top ds n x L _ z1 z2 hg HW1.out hok k hk);generalize worHear x k n=res at *
 rcases hk with rfl|rfl|rfl;iterate 3
  ·exact x0zk
theorem happen_none(g base m top:Nat)(ds:List (Option Addr×Nat))(n:Int)(x:Wor)(L:WLoc)(w:World)(hr:rowOf w g=worA x L)(hf:frOf w g=(0,0))(hg:g<base∨top<=g)(h:WorAt w base m top ds x L)(k:Int)(hk:k<1∨12<k):Calls Tryz.prog 18 #[.pointer (some ⟨g,0,none⟩),.agg #[iv k,iv n]] w (HaRet w g base Wor.zero 3):=by
 have hlt:g<w.heap.size:=row_lt (w:=w) (by rw[hr];simp[worA]);have hm3:=h.h3;have hm2:=h.h2;have hm1:=h.h1;have a1:=keep1 (bW w) hr (by go_simp) hf;have HBA:Hid (Below w.heap.size w ((w.alloc (.cells #[iv k,iv n] 42)).alloc (.cells (devA x.d L.l) 38))):=qH ((bL _).alloc (by simp) _);have HW1:Hid (WorAt ((w.alloc (.cells #[iv k,iv n] 42)).alloc (.cells (devA x.d L.l) 38)) base m top ds x L):=qH (h.same (fun k2 a b=>HBA.out.block k2 (by omega)) (by simp;omega));have HX1:Hid (Bex g base w ((w.alloc (.cells #[iv k,iv n] 42)).alloc (.cells (devA x.d L.l) 38))):=qH ((Bex.refl g base w).below HBA.out (by omega) (by omega));have hs1:((w.alloc (.cells #[iv k,iv n] 42)).alloc (.cells (devA x.d L.l) 38)).heap.size=w.heap.size+2:=by simp
 have q1:(k==1)=false:=by simp;omega
 have q2:(k==2)=false:=by simp;omega
 have q3:(k==3)=false:=by simp;omega
 have q4:(k==4)=false:=by simp;omega
 have q5:(k==5)=false:=by simp;omega
 have q6:(k==6)=false:=by simp;omega
 have q7:(k==7)=false:=by simp;omega
 have q8:(k==8)=false:=by simp;omega
 have q9:(k==9)=false:=by simp;omega
 have q10:(k==10)=false:=by simp;omega
 have q11:(k==11)=false:=by simp;omega
 have q12:(k==12)=false:=by simp;omega
 clear hr hf h hk;go_enter Tryz.func18,Tryz.ntmps18;go_wp2_with fail;go_ret;exact⟨rfl,fun e=>absurd e (by decide),HX1.out,by omega⟩
theorem happen_calls(g base m top:Nat)(ds:List (Option Addr×Nat))(n:Int)(x:Wor)(L:WLoc)(w:World)(hr:rowOf w g=worA x L)(hf:frOf w g=(0,0))(hg:g<base∨top<=g)(h:WorAt w base m top ds x L)(hok:WorOk x)(hi:I64 n)(k:Int):Calls Tryz.prog 18 #[.pointer (some ⟨g,0,none⟩),.agg #[iv k,iv n]] w (HaRet w g base (worHappen x k n).1 (worHappen x k n).2):=by
 by_cases h1:k<1∨12<k
 ·have e:worHappen x k n=(Wor.zero,3):=by
   have hd:devAct x.d k n=(Dev.zero,3):=by
    unfold devAct;rw[if_neg (by omega),if_neg (by omega),if_neg (by omega),if_neg (by omega),if_neg (by omega),if_neg (by omega),if_neg (by omega),if_neg (by omega)]
   unfold worHappen;rw[if_neg (by omega),if_neg (by omega),hd];rfl
  rw[e];exact happen_none g base m top ds n x L w hr hf hg h k h1
 rcases (show k=1∨k=2∨k=3∨k=4∨k=5∨k=6∨k=7∨k=8∨k=9∨k=10∨k=11∨k=12 by omega)with rfl|rfl|rfl|rfl|rfl|rfl|rfl|rfl|rfl|rfl|rfl|rfl
 ·exact happen_1 g base m top ds n x L w hr hf hg h hok hi
 ·exact happen_2 g base m top ds n x L w hr hf hg h hok hi 2 (by decide)
 ·exact happen_2 g base m top ds n x L w hr hf hg h hok hi 3 (by decide)
 ·exact happen_2 g base m top ds n x L w hr hf hg h hok hi 4 (by decide)
 ·exact happen_5 g base m top ds n x L w hr hf hg h
 ·exact happen_6 g base m top ds n x L w hr hf hg h
 ·exact happen_7 g base m top ds n x L w hr hf hg h
 ·exact happen_8 g base m top ds n x L w hr hf hg h
 ·exact happen_9 g base m top ds n x L w hr hf hg h
 ·exact happen_10 g base m top ds n x L w hr hf hg h
 ·exact happen_11 g base m top ds n x L w hr hf hg h
 exact happen_12 g base m top ds n x L w hr hf hg h
