/- The walk of the document's CheckChunks. Printed by gen_refchklist.py. No conditions. -/
import Derived.Test.YtefkfglkpebbmacPXRefChkCheck
import Derived.Deep.DeepCutAuto
set_option linter.unusedVariables false
set_option linter.unusedSimpArgs false
set_option maxRecDepth 100000
set_option maxHeartbeats 40000000
namespace Go.Proofs.Ytefkfglkpebbmac
open Go.RowKit
variable {Y:Prop}
theorem refChkCheckX_calls(A:OA)(c:Nat)(x:Chk)(w:World)(h:I64 x.n∧I64 x.of_):
  Calls Try.prog 48 #[.agg (chkA x.from_ x.to_ x.n x.of_ A x.data.length c)] w (RetB w (iv (chkCheck x))):=refChkCheck_calls A c x.from_ x.to_ x.n x.of_ x.data w h.1 h.2
theorem refChkList_calls(A:OA)(c:Nat)(l:List Chk)(w:World)(hl:l.length<=2513169434843)(hs:Chs w A l):
  Calls Try.prog 49 #[.slice A l.length c] w (RetB w (iv (chkList l))):=by
 have HS:=qH hs;clear hs;obtain⟨r,hr⟩:=eX (chkList l);rw[hr];have HR:Hid (listGo none l=r):=qH hr;clear hr;go_enter Try.func49,Try.ntmps49;go_wp2_with fail;go_loopw [9,3] (fun i z wr=>∃(k:Nat) (m:Int),k<=l.length∧i=iv k∧z=iv m∧Hid (listGo ((l.take k).getLast?) (l.drop k)=r)∧Hid (k=0->m= -1)∧Hid (∀q,(l.take k).getLast?=some q->q.n=m∧∀x0,l[0]?=some x0->kin x0 q)∧Hid (Below w.heap.size w wr)) (fun i _ _=>l.length-(intOf i).toNat)
 case atStart=>exact⟨0,-1,Nat.zero_le _,rfl,rfl,qH HR.out,qH (fun _=>rfl),qH (fun q e=>by simp at e),qH (Below.refl _ _)⟩
 case round=>
  rename World=>wr;obtain⟨k,m,hk,rfl,rfl,HE,HM1,HQ,HB⟩:=hrel;have hsz:=HB.out.size;by_cases hlt:k<l.length
  ·obtain⟨b,o,B,cx,rfl,hb,hat,hin⟩:=HS.out.chk hlt;have hdr:l.drop k=l[k]::l.drop (k+1):=List.drop_eq_getElem_cons hlt;have hlast:(l.take (k+1)).getLast?=some l[k]:=by rw[List.take_succ_eq_append_getElem hlt,List.getLast?_concat]
   obtain⟨x0,hx1⟩:∃x0,l[0]?=some x0:=⟨_,List.getElem?_eq_getElem (by omega)⟩;have hat1:∃D d,ChkAt w b o x0 D d:=by
    obtain⟨b',o',D,d,e,_,h1,_⟩:=HS.out.chk (i:=0) (by omega);injection e with e;injection e with e1 e2;subst e1 e2;rw[List.getElem?_eq_getElem (by omega)]at hx1;injection hx1 with hx1;rw[hx1]at h1;exact⟨D,d,by simpa using h1⟩
   obtain⟨D1,d1,hat1⟩:=hat1;have h3:k=0->l[k]=x0:=fun e=>by
    subst e;rw[List.getElem?_eq_getElem (by omega)]at hx1;injection hx1
   obtain⟨x,hx⟩:=eX (l[k]);rw[hx]at hdr hlast hat hin h3;rw[hdr]at HE;obtain⟨p,hp⟩:=eX ((l.take k).getLast?);rw[hp]at HE HQ;have HX1:=qH hx1;have HFOL:Hid (chkCheck x=0->(follows p x↔kin x0 x∧m<x.n)):=qH (fun hck=>by
    by_cases hk1:k=0
    ·have e1:p=none:=by rw[<-hp,hk1];simp
     have e2:=HM1.out hk1;have e3:=h3 hk1;obtain⟨⟨_,_,_,_,_,_,h1,_⟩,_⟩:=chkCheck_ok.1 hck;subst e1 e2 e3;exact⟨fun _=>⟨kin_refl _,by omega⟩,fun _ q e=>by cases e⟩
    obtain⟨q,hq⟩:∃q,p=some q:=by
     rw[<-hp,List.getLast?_take,if_neg hk1,List.getElem?_eq_getElem (by omega)];exact⟨_,rfl⟩
    obtain⟨g1,g2⟩:=HQ.out q hq;have g2:=g2 x0 hx1;subst hq g1;constructor
    ·intro h;obtain⟨h1,h2⟩:=h q rfl;exact⟨kin_trans g2 h1,h2⟩
    rintro⟨h1,h2⟩ z e;injection e with e;subst e;exact⟨kin_trans (kin_symm g2) h1,h2⟩)
   have HLAST:=qH hlast;have hat2:=hat.stays hb HB.out;have hat3:=hat1.stays hb HB.out;obtain⟨c5,c1,c2,c3,c4⟩:=hat2;obtain⟨y5,y1,y2,y3,y4⟩:=hat3;have HK:=qH (fun w=>refChkCheckX_calls B cx x w ⟨hin.i2,hin.i3⟩);have hblt:b<wr.heap.size:=by omega
   have dl:decide ((k:Int)<(l.length:Int))=true:=decide_eq_true (by omega);have hwk:IntKind.i64.wrap ((k:Int)+1)=(k:Int)+1:=IntWalk.i64_in _ (by omega);have hl1:¬(l.length:Int)<=0:=by omega
   have hne:¬l=[]:=fun e=>by rw[e]at hlt;simp at hlt
   clear hdr hlast hx hp hat hin hat1 h3 hx1 HM1 HQ;by_cases hck:chkCheck x≠0
   ·have hz:r=chkCheck x:=by rw[<-HE.out,listGo_bad hck]
    have q:(chkCheck x !=0)=true:=by simp[hck]
    have HZ:=qH hz;clear hck hz;go_wp2_with fail;refine(HK.out _).mono ?_;rintro e w1 ⟨rfl,hb1⟩;have HB1:Hid (Below w.heap.size w w1):=by
     exact x7ta
    clear hb1;exact x09a
   have hck:=Decidable.not_not.1 hck;have HCK:=qH hck;have HFO:=qH (HFOL.out hck);rw[hck]at HK;clear hck HFOL;go_wp2_with fail;refine(HK.out _).mono ?_;rintro e w1 ⟨rfl,hb1⟩;have a1:=kp (wr.heap.size) (chkA x.from_ x.to_ x.n x.of_ B x.data.length cx) hb1;have hbb:Below wr.heap.size wr w1:=by
    refine Below.trans ?_ (hb1.mono (by first|omega|(simp<;>omega)));exact x9o6
   have HB1:Hid (Below w.heap.size w w1):=qH (HB.out.trans (hbb.mono hsz));have y5:=(hbb.cell (p:=⟨b,o,none⟩) hblt).trans y5;have y1:=(hbb.cell (p:=⟨b,o+1,none⟩) hblt).trans y1;have y3:=(hbb.cell (p:=⟨b,o+3,none⟩) hblt).trans y3;have hs1:=HB1.out.size;have hs2:=hbb.size;have hbl1:b<w1.heap.size:=by omega
   clear hb1 hbb c5 c1 c2 c3 c4 y2 y4;go_upto_region 8 with fail
   obtain⟨v4,hv4⟩:∃v,(x.from_ !=x0.from_)=v:=⟨_,rfl⟩;obtain⟨v1,hv1⟩:∃v,(x.to_ !=x0.to_)=v:=⟨_,rfl⟩;obtain⟨v2,hv2⟩:∃v,(x.of_ !=x0.of_)=v:=⟨_,rfl⟩;obtain⟨v3,hv3⟩:∃v,decide (x.n<=m)=v:=⟨_,rfl⟩;have HV:Hid ((v4 || v1 || v2 || v3)=true↔¬(kin x0 x∧m<x.n)):=qH (by
    have hki:kin x0 x↔x0.from_=x.from_∧x0.to_=x.to_∧x0.of_=x.of_:=Iff.rfl;rw[hki,<-hv4,<-hv1,<-hv2,<-hv3];simp only[Bool.or_eq_true,bne_iff_ne,ne_eq,decide_eq_true_eq];omega)
   go_cut [48] (fun v wx=>v=.bool (v4 || v1 || v2 || v3)∧Hid (Below w1.heap.size w1 wx))
   case first=>
    clear hs1 hs2 hsz hbl1 HFO HV HE
    cases v4<;>cases v1<;>cases v2<;>cases v3<;>(
     go_quiet (fail)
     go_wp2_with fail;go_meet
     case rel=>exact⟨rfl,qH (below_drewN _ _)⟩)
   case rest=>
   obtain⟨rfl,hcb⟩:=hcut;have HB1:=bT HB1 hcb.out;have a1:=keep1 (g:=wr.heap.size) (cs:=chkA x.from_ x.to_ x.n x.of_ B x.data.length cx) hcb.out a1.1 (by go_simp) a1.2.1;clear hv4 hv1 hv2 hv3 hcb y5 y1 y3;by_cases hf:kin x0 x∧m<x.n
   ·have hv:(v4 || v1 || v2 || v3)=false:=Bool.eq_false_iff.2 fun e=>HV.out.1 e hf;have HKI:=qH hf.1;have HZ:Hid (listGo (some x) (l.drop (k+1))=r):=qH (by rw[<-HE.out,listGo_next HCK.out (HFO.out.2 hf)]);rw[hv];clear hf hv HV;go_wp2_with fail;go_roundw
    case rel=>exact⟨k+1,x.n,by omega,by go_num,rfl,qH (by rw[HLAST.out];exact HZ.out),qH (fun e=>by omega),qH (fun q e=>by rw[HLAST.out]at e;injection e with e;subst e;exact⟨rfl,fun z hz=>by rw[HX1.out]at hz;injection hz with hz;subst hz;exact HKI.out⟩),HB1⟩
    case measure=>simp[intOf];omega
   have hv:(v4 || v1 || v2 || v3)=true:=HV.out.2 hf;have HZ:Hid (r=3):=qH (by rw[<-HE.out,listGo_form HCK.out (by rw[HFO.out];exact hf)]);rw[hv];clear hf hv HV;exact x09a
  have hz:r=0:=by rw[<-HE.out,List.drop_of_length_le (by omega)];rfl
  exact x8vr
end Go.Proofs.Ytefkfglkpebbmac
