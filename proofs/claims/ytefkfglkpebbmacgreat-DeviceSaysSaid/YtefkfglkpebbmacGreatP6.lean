/- Walks of functions, and plain words. No conditions. -/
import Derived.Test.YtefkfglkpebbmacGreatP5
set_option linter.unusedVariables false
set_option linter.unusedSimpArgs false
set_option maxRecDepth 100000
set_option maxHeartbeats 40000000
namespace Go.Proofs.YtefkfglkpebbmacGreat
open Go.RowKit
variable {Y:Prop}
variable {x:Chk} {l:List Chk} {w:World} {d:Dev} {r:Rec}
theorem x09a(h:Y:=by
 go_wp2_with fail;go_ret;exact⟨ret_int HZ.out.symm,HB1.out⟩):Y:=h
theorem x1oc(h:Y:=by
 have e1:=cO 3 (iv (k:Int)) h;exact ch_move (ch_ev e1)):Y:=h
theorem x8vr(h:Y:=by
 have HZ:=qH hz;clear hz;go_wp2_with fail;go_ret;exact⟨ret_int HZ.out.symm,HB.out⟩):Y:=h
theorem listGo_bad{p:Option Chk}(h:chkCheck x≠0):listGo p (x::l)=chkCheck x:=by unfold listGo;rw[if_pos h]
theorem listGo_form{p:Option Chk}(h:chkCheck x=0)(g:¬follows p x):listGo p (x::l)=3:=by unfold listGo;rw[if_neg (by simpa using h),if_pos g]
theorem listGo_next{p:Option Chk}(h:chkCheck x=0)(g:follows p x):listGo p (x::l)=listGo (some x) l:=by
 conv=>lhs;unfold listGo
 rw[if_neg (by simpa using h),if_neg (by simpa using g)]
theorem chkCheckX_calls(A:OA)(c:Nat)(x:Chk)(w:World)(h:I64 x.n∧I64 x.of_):
  Calls Tryz.prog 74 #[.agg (chkA x.from_ x.to_ x.n x.of_ A x.data.length c)] w (RetB w (iv (chkCheck x))):=chkCheck_calls A c x.from_ x.to_ x.n x.of_ x.data w h.1 h.2
theorem kinY_calls(A B:OA)(c d:Nat)(x y:Chk)(w:World):
  Calls Tryz.prog 75 #[.agg (chkA x.from_ x.to_ x.n x.of_ A x.data.length c),.agg (chkA y.from_ y.to_ y.n y.of_ B y.data.length d)] w (RetB w (.bool (decide (kin x y)))):=
 kin_calls A B c d x.data.length y.data.length x.from_ x.to_ x.n x.of_ y.from_ y.to_ y.n y.of_ x.data y.data w
def ChkAt(w:World)(b o:Nat)(x:Chk)(B:OA)(c:Nat):Prop:=
 w.cell? ⟨b,o,none⟩=some (iv x.from_)∧w.cell? ⟨b,o+1,none⟩=some (iv x.to_)∧w.cell? ⟨b,o+2,none⟩=some (iv x.n)∧w.cell? ⟨b,o+3,none⟩=some (iv x.of_)∧w.cell? ⟨b,o+4,none⟩=some (.slice B x.data.length c)
theorem ChkAt.stays{w':World}{b o:Nat}{B:OA}{c:Nat}(h:ChkAt w b o x B c)(hlt:b<w.heap.size)(hb:Below w.heap.size w w'):ChkAt w' b o x B c:=
 ⟨(hb.cell (p:=⟨b,o,none⟩) hlt).trans h.1,(hb.cell (p:=⟨b,o+1,none⟩) hlt).trans h.2.1,(hb.cell (p:=⟨b,o+2,none⟩) hlt).trans h.2.2.1,(hb.cell (p:=⟨b,o+3,none⟩) hlt).trans h.2.2.2.1,(hb.cell (p:=⟨b,o+4,none⟩) hlt).trans h.2.2.2.2⟩
theorem Chs.chk{A:OA}(h:Chs w A l){i:Nat}(hi:i<l.length):∃b o B c,A=some ⟨b,o,none⟩∧b<w.heap.size∧ChkAt w b (o+i*5) l[i] B c∧ChkIn w l[i] B c:=by
 obtain⟨b,o,B,c,h1,h2,h3,h4,h5,h6,h7,h8⟩:=h.at_ hi;exact⟨b,o,B,c,h1,h2,⟨h3,h4,h5,h6,h7⟩,h8⟩
theorem chkList_calls(A:OA)(c:Nat)(l:List Chk)(w:World)(hl:l.length<=2513169434843)(hs:Chs w A l):
  Calls Tryz.prog 36 #[.slice A l.length c] w (RetB w (iv (chkList l))):=by
 have HS:=qH hs;clear hs;obtain⟨r,hr⟩:=eX (chkList l);rw[hr];have HR:Hid (listGo none l=r):=qH hr;clear hr;go_enter Tryz.func36,Tryz.ntmps36;go_wp2_with fail;go_loopw [8] (fun i wr=>∃k:Nat,k<=l.length∧i=iv k∧Hid (listGo ((l.take k).getLast?) (l.drop k)=r)∧Hid (Below w.heap.size w wr)) (fun i _=>l.length-(intOf i).toNat)
 case atStart=>exact⟨0,Nat.zero_le _,rfl,qH HR.out,qH (Below.refl _ _)⟩
 case round=>
  rename World=>wr;obtain⟨k,hk,rfl,HE,HB⟩:=hrel;have hsz:=HB.out.size;by_cases hlt:k<l.length
  ·obtain⟨b,o,B,cx,rfl,hb,hat,hin⟩:=HS.out.chk hlt;have hdr:l.drop k=l[k]::l.drop (k+1):=List.drop_eq_getElem_cons hlt;have hlast:(l.take (k+1)).getLast?=some l[k]:=by rw[List.take_succ_eq_append_getElem hlt,List.getLast?_concat]
   have hpre:∀(h0:0<k),∃q D d,(l.take k).getLast?=some q∧ChkAt w b (o+(k-1)*5) q D d:=fun h0=>by
    obtain⟨b',o',D,d,e,_,h1,_⟩:=HS.out.chk (i:=k-1) (by omega);injection e with e;injection e with e1 e2;subst e1 e2;refine⟨l[k-1],D,d,?_,h1⟩;rw[List.getLast?_take,if_neg (by omega),List.getElem?_eq_getElem (by omega)];rfl
   obtain⟨x,hx⟩:=eX (l[k]);rw[hx]at hdr hlast hat hin;rw[hdr]at HE;obtain⟨p,hp⟩:=eX ((l.take k).getLast?);rw[hp]at HE hpre;have HLAST:=qH hlast;have hat1:=hat.stays hb HB.out;obtain⟨c5,c1,c2,c3,c4⟩:=hat1;have HAT:=qH hat;have HP1:Hid (k=0->p=none):=qH (fun e=>by rw[<-hp,e];simp);have HPR:=qH hpre;have HK:=qH (fun w=>chkCheckX_calls B cx x w ⟨hin.i2,hin.i3⟩);have hblt:b<wr.heap.size:=by omega
   have dl:decide ((k:Int)<(l.length:Int))=true:=decide_eq_true (by omega);have hwk:IntKind.i64.wrap ((k:Int)+1)=(k:Int)+1:=IntWalk.i64_in _ (by omega);clear hdr hlast hx hp hpre hat hin;by_cases hck:chkCheck x≠0
   ·have hz:r=chkCheck x:=by rw[<-HE.out,listGo_bad hck]
    have q:(chkCheck x !=0)=true:=by simp[hck]
    have HZ:=qH hz;clear hck hz;go_wp2_with fail;refine(HK.out _).mono ?_;rintro e w1 ⟨rfl,hb1⟩;have HB1:Hid (Below w.heap.size w w1):=by
     exact x7ta
    clear hb1;exact x09a
   have hck:=Decidable.not_not.1 hck;have HCK:=qH hck;rw[hck]at HK;clear hck;go_wp2_with fail;refine(HK.out _).mono ?_;rintro e w1 ⟨rfl,hb1⟩;have a1:=kp (wr.heap.size) (chkA x.from_ x.to_ x.n x.of_ B x.data.length cx) hb1;have HB1:Hid (Below w.heap.size w w1):=by
    exact x7ta
   have hs1:=HB1.out.size;clear hb1 c5 c1 c2 c3 c4;have HD:Hid (∀wq,Below w1.drew.heap.size w1.drew wq->Below w1.heap.size w1 wq):=qH (fun wq h=>(bW w1).drew.trans h);have R1:rowOf w1.drew wr.heap.size=chkA x.from_ x.to_ x.n x.of_ B x.data.length cx:=by go_simp
   have F1:frOf w1.drew wr.heap.size=(0,0):=by go_simp
   go_wp2_with fail;by_cases hk1:k=0
   ·have hz:listGo (some x) (l.drop (k+1))=r:=by rw[<-HE.out,listGo_next HCK.out (by rw[HP1.out hk1];intro q e;cases e)]
    have HZ:=qH hz;have HKP:=qH hk1;clear hz hk1;refine wp_region_chain (by kernel_rfl) (some 18::some 19::some 20::some 21::some 22::some 23::some 24::some 25::some 26::some 27::some 28::some 29::some 30::some 31::some 32::some 33::some 34::some 35::some 36::some 37::some 38::some 39::some 40::[]) (iv (k:Int)::.bool false::.bool false::undef::undef::undef::undef::undef::undef::undef::undef::undef::undef::undef::undef::undef::undef::undef::undef::undef::undef::undef::.bool false::[]) 42 rfl rfl (by decide+kernel) (by decide+kernel) (by decide+kernel) rfl ?_ ?_
    ·refine⟨.inl ⟨rfl,?_⟩,.inl ⟨rfl,?_⟩,.inl ⟨rfl,?_⟩,.inr ⟨rfl,rfl⟩,.inr ⟨rfl,rfl⟩,.inr ⟨rfl,rfl⟩,.inr ⟨rfl,rfl⟩,.inr ⟨rfl,rfl⟩,.inr ⟨rfl,rfl⟩,.inr ⟨rfl,rfl⟩,.inr ⟨rfl,rfl⟩,.inr ⟨rfl,rfl⟩,.inr ⟨rfl,rfl⟩,.inr ⟨rfl,rfl⟩,.inr ⟨rfl,rfl⟩,.inr ⟨rfl,rfl⟩,.inr ⟨rfl,rfl⟩,.inr ⟨rfl,rfl⟩,.inr ⟨rfl,rfl⟩,.inr ⟨rfl,rfl⟩,.inr ⟨rfl,rfl⟩,.inr ⟨rfl,rfl⟩,.inl ⟨rfl,?_⟩,trivial⟩;all_goals intro done a wq hw h
     ·exact x1oc
     ·have e1:=cN 0 18 h hw;have hp:=HKP.out;refine ch_pure ?_;go_simp
     ·have e1:=cN 1 19 h hw;exact ch_move (ch_ev e1)
     ·have e1:=cN 2 20 h hw;exact ch_pick_f e1 rfl
    intro w1 hb1;simp only[putAll_some,putAll_none,putAll_nil,List.setIfInBounds_toArray,List.set_cons_zero,List.set_cons_succ];have HB1:=bT HB1 hb1;clear hb1 R1 F1 a1;go_wp2_with fail;go_roundw
    case rel=>exact⟨k+1,by omega,by go_num,qH (by rw[HLAST.out];exact HZ.out),HB1⟩
    case measure=>simp[intOf];omega
   obtain⟨q,D,dq,hpq,hq⟩:=HPR.out (by omega);have HQ:Hid (∀wq,Below w1.heap.size w1 wq->ChkAt wq b (o+(k-1)*5) q D dq):=qH (fun wq h=>hq.stays hb (HB1.out.trans (h.mono hs1)));have HKP:Hid (0<k):=qH (by omega);have HI4:Hid (¬(k:Int)<1):=qH (by omega);have hkp:0<k:=by omega
   clear hk1;have HW:Hid (IntKind.i64.wrap ((k:Int)-1)=(k:Int)-1):=qH (IntWalk.i64_in _ (by omega));have HI1:Hid (((k:Int)-1).toNat=k-1):=qH (by omega);have HI2:Hid (¬(k:Int)-1<0):=qH (by omega);have HI3:Hid (¬(l.length:Int)<=(k:Int)-1):=qH (by omega);have HF:Hid (follows p x↔kin q x∧q.n<x.n):=qH (by rw[hpq];exact⟨fun h=>h q rfl,fun h z e=>by injection e with e;subst e;exact h⟩);clear hpq hq;by_cases hkn:kin q x
   ·have HKN:Hid (decide (kin q x)=true):=qH (decide_eq_true hkn);by_cases hge:x.n<=q.n
    first|case' inl=>have T10:Hid True:=qH trivial|case' pos=>have T10:Hid True:=qH trivial|case' refine_1=>have T10:Hid True:=qH trivial
    iterate 2
     ·first
       |
        revert T10;intro T10;have hz:r=3:=by rw[<-HE.out,listGo_form HCK.out (by rw[HF.out];omega)]
       |have hz:listGo (some x) (l.drop (k+1))=r:=by rw[<-HE.out,listGo_next HCK.out (by rw[HF.out];exact⟨hkn,by omega⟩)]
      have HZ:=qH hz
      first
       |
        revert T10;intro T10;have HGE:Hid (decide (x.n<=q.n)=true):=qH (decide_eq_true hge)
       |have HGE:Hid (decide (x.n<=q.n)=false):=qH (decide_eq_false hge)
      clear hz hkn hge
      first
       |
        revert T10;intro T10;refine wp_region_chain (by kernel_rfl) (some 18::some 19::some 20::some 21::some 22::some 23::some 24::some 25::some 26::some 27::some 28::some 29::some 30::some 31::some 32::some 33::some 34::some 35::some 36::some 37::some 38::some 39::some 40::[]) (iv (k:Int)::.bool true::.bool true::.slice (some ⟨b,o,none⟩) l.length c::iv (k:Int)::iv ((k:Int)-1)::.pointer (some ⟨b,o+(k-1)*5,none⟩)::.agg (chkA q.from_ q.to_ q.n q.of_ D q.data.length dq)::.agg (chkA x.from_ x.to_ x.n x.of_ B x.data.length cx)::.bool true::.bool false::.bool false::.slice (some ⟨b,o,none⟩) l.length c::iv (k:Int)::iv ((k:Int)-1)::.pointer (some ⟨b,o+(k-1)*5,none⟩)::.pointer (some ⟨b,o+(k-1)*5+2,none⟩)::iv q.n::.pointer (some ⟨wr.heap.size,2,none⟩)::iv x.n::.bool true::.bool true::.bool true::[]) 42 rfl rfl (by decide+kernel) (by decide+kernel) (by decide+kernel) rfl ?_ ?_
       |refine wp_region_chain (by kernel_rfl) (some 18::some 19::some 20::some 21::some 22::some 23::some 24::some 25::some 26::some 27::some 28::some 29::some 30::some 31::some 32::some 33::some 34::some 35::some 36::some 37::some 38::some 39::some 40::[]) (iv (k:Int)::.bool true::.bool true::.slice (some ⟨b,o,none⟩) l.length c::iv (k:Int)::iv ((k:Int)-1)::.pointer (some ⟨b,o+(k-1)*5,none⟩)::.agg (chkA q.from_ q.to_ q.n q.of_ D q.data.length dq)::.agg (chkA x.from_ x.to_ x.n x.of_ B x.data.length cx)::.bool true::.bool false::.bool false::.slice (some ⟨b,o,none⟩) l.length c::iv (k:Int)::iv ((k:Int)-1)::.pointer (some ⟨b,o+(k-1)*5,none⟩)::.pointer (some ⟨b,o+(k-1)*5+2,none⟩)::iv q.n::.pointer (some ⟨wr.heap.size,2,none⟩)::iv x.n::.bool false::.bool false::.bool false::[]) 42 rfl rfl (by decide+kernel) (by decide+kernel) (by decide+kernel) rfl ?_ ?_
      ·refine⟨.inl ⟨rfl,?_⟩,.inl ⟨rfl,?_⟩,.inl ⟨rfl,?_⟩,.inl ⟨rfl,?_⟩,.inl ⟨rfl,?_⟩,.inl ⟨rfl,?_⟩,.inl ⟨rfl,?_⟩,.inl ⟨rfl,?_⟩,.inl ⟨rfl,?_⟩,.inl ⟨rfl,?_⟩,.inl ⟨rfl,?_⟩,.inl ⟨rfl,?_⟩,.inl ⟨rfl,?_⟩,.inl ⟨rfl,?_⟩,.inl ⟨rfl,?_⟩,.inl ⟨rfl,?_⟩,.inl ⟨rfl,?_⟩,.inl ⟨rfl,?_⟩,.inl ⟨rfl,?_⟩,.inl ⟨rfl,?_⟩,.inl ⟨rfl,?_⟩,.inl ⟨rfl,?_⟩,.inl ⟨rfl,?_⟩,trivial⟩;all_goals intro done a wq hw h
       ·have e3:=cO 3 (iv (k:Int)) h;exact ch_move (ch_ev e3)
       ·have e18:=cN 0 18 h hw;have hp:=HKP.out;refine ch_pure ?_;go_simp
       ·have e19:=cN 1 19 h hw;exact ch_move (ch_ev e19)
       ·have e0:=cO 0 (.slice (some ⟨b,o,none⟩) l.length c) h;exact ch_move (ch_ev e0)
       ·have e3:=cO 3 (iv (k:Int)) h;exact ch_move (ch_ev e3)
       ·have e22:=cN 4 22 h hw;have hw:=HW.out;refine ch_pure ?_;go_simp
       ·have e21:=cN 3 21 h hw;have e23:=cN 5 23 h hw;have h1:=HI1.out;have h2:=HI2.out;have h3:=HI3.out;have h4:=HI4.out;refine ch_pure ?_;go_simp
       ·have e24:=cN 6 24 h hw;obtain⟨c5,c1,c2,c3,c4⟩:=HQ.out wq (HD.out wq h.bel);refine ch_pure ?_;go_simp
       ·have e4:=cO 4 (.pointer (some ⟨wr.heap.size,0,none⟩)) h;have y_:=keep1 h.bel R1 (by go_simp) F1;refine ch_pure ?_;go_simp
       ·have e25:=cN 7 25 h hw;have e26:=cN 8 26 h hw;exact ch_call (vals:=#[.agg (chkA q.from_ q.to_ q.n q.of_ D q.data.length dq),.agg (chkA x.from_ x.to_ x.n x.of_ B x.data.length cx)]) (by go_simp) (by go_simp) (by have:=kinY_calls D B dq cx q x wq;rwa [HKN.out]at this)
       ·have e27:=cN 9 27 h hw;refine ch_pure ?_;go_simp
       ·have e28:=cN 10 28 h hw;exact ch_move (ch_ev e28)
       ·have e0:=cO 0 (.slice (some ⟨b,o,none⟩) l.length c) h;exact ch_move (ch_ev e0)
       ·have e3:=cO 3 (iv (k:Int)) h;exact ch_move (ch_ev e3)
       ·have e31:=cN 13 31 h hw;have hw:=HW.out;refine ch_pure ?_;go_simp
       ·have e30:=cN 12 30 h hw;have e32:=cN 14 32 h hw;have h1:=HI1.out;have h2:=HI2.out;have h3:=HI3.out;have h4:=HI4.out;refine ch_pure ?_;go_simp
       ·have e33:=cN 15 33 h hw;refine ch_pure ?_;go_simp
       ·have e34:=cN 16 34 h hw;obtain⟨c5,c1,c2,c3,c4⟩:=HQ.out wq (HD.out wq h.bel);refine ch_pure ?_;go_simp
       ·have e4:=cO 4 (.pointer (some ⟨wr.heap.size,0,none⟩)) h;refine ch_pure ?_;go_simp
       ·have e36:=cN 18 36 h hw;have y_:=keep1 h.bel R1 (by go_simp) F1;refine ch_pure ?_;go_simp
       ·have e35:=cN 17 35 h hw;have e37:=cN 19 37 h hw;have hg:=HGE.out;refine ch_pure ?_;go_simp
       ·have e29:=cN 11 29 h hw;have e38:=cN 20 38 h hw;exact ch_pick_f e29 (ch_ev e38)
       ·have e20:=cN 2 20 h hw;have e39:=cN 21 39 h hw;exact ch_pick_t e20 (ch_ev e39)
      intro w2 hb2;simp only[putAll_some,putAll_none,putAll_nil,List.setIfInBounds_toArray,List.set_cons_zero,List.set_cons_succ];have HB2:=bT HB1 hb2;clear hb2 R1 F1 a1;go_wp2_with fail
      first
       |
        revert T10;intro T10;go_ret;exact⟨ret_int HZ.out.symm,HB2.out⟩
       |
        go_roundw
        case rel=>exact⟨k+1,by omega,by go_num,qH (by rw[HLAST.out];exact HZ.out),HB2⟩
        case measure=>simp[intOf];omega
   have HKN:Hid (decide (kin q x)=false):=qH (decide_eq_false hkn);have hz:r=3:=by rw[<-HE.out,listGo_form HCK.out (by rw[HF.out];exact fun h=>hkn h.1)]
   have HZ:=qH hz;clear hz hkn;refine wp_region_chain (by kernel_rfl) (some 18::some 19::some 20::some 21::some 22::some 23::some 24::some 25::some 26::some 27::some 28::some 29::some 30::some 31::some 32::some 33::some 34::some 35::some 36::some 37::some 38::some 39::some 40::[]) (iv (k:Int)::.bool true::.bool true::.slice (some ⟨b,o,none⟩) l.length c::iv (k:Int)::iv ((k:Int)-1)::.pointer (some ⟨b,o+(k-1)*5,none⟩)::.agg (chkA q.from_ q.to_ q.n q.of_ D q.data.length dq)::.agg (chkA x.from_ x.to_ x.n x.of_ B x.data.length cx)::.bool false::.bool true::.bool true::undef::undef::undef::undef::undef::undef::undef::undef::undef::.bool true::.bool true::[]) 42 rfl rfl (by decide+kernel) (by decide+kernel) (by decide+kernel) rfl ?_ ?_
   ·refine⟨.inl ⟨rfl,?_⟩,.inl ⟨rfl,?_⟩,.inl ⟨rfl,?_⟩,.inl ⟨rfl,?_⟩,.inl ⟨rfl,?_⟩,.inl ⟨rfl,?_⟩,.inl ⟨rfl,?_⟩,.inl ⟨rfl,?_⟩,.inl ⟨rfl,?_⟩,.inl ⟨rfl,?_⟩,.inl ⟨rfl,?_⟩,.inl ⟨rfl,?_⟩,.inr ⟨rfl,rfl⟩,.inr ⟨rfl,rfl⟩,.inr ⟨rfl,rfl⟩,.inr ⟨rfl,rfl⟩,.inr ⟨rfl,rfl⟩,.inr ⟨rfl,rfl⟩,.inr ⟨rfl,rfl⟩,.inr ⟨rfl,rfl⟩,.inr ⟨rfl,rfl⟩,.inl ⟨rfl,?_⟩,.inl ⟨rfl,?_⟩,trivial⟩;all_goals intro done a wq hw h
    ·exact x1oc
    ·have e1:=cN 0 18 h hw;have hp:=HKP.out;refine ch_pure ?_;go_simp
    ·have e1:=cN 1 19 h hw;exact ch_move (ch_ev e1)
    ·have e1:=cO 0 (.slice (some ⟨b,o,none⟩) l.length c) h;exact ch_move (ch_ev e1)
    ·exact x1oc
    ·have e1:=cN 4 22 h hw;have hw:=HW.out;refine ch_pure ?_;go_simp
    ·have e1:=cN 3 21 h hw;have e23:=cN 5 23 h hw;have h1:=HI1.out;have h2:=HI2.out;have h3:=HI3.out;have h4:=HI4.out;refine ch_pure ?_;go_simp
    ·have e1:=cN 6 24 h hw;obtain⟨c5,c1,c2,c3,c4⟩:=HQ.out wq (HD.out wq h.bel);refine ch_pure ?_;go_simp
    ·have e1:=cO 4 (.pointer (some ⟨wr.heap.size,0,none⟩)) h;have y_:=keep1 h.bel R1 (by go_simp) F1;refine ch_pure ?_;go_simp
    ·have e1:=cN 7 25 h hw;have e26:=cN 8 26 h hw;exact ch_call (vals:=#[.agg (chkA q.from_ q.to_ q.n q.of_ D q.data.length dq),.agg (chkA x.from_ x.to_ x.n x.of_ B x.data.length cx)]) (by go_simp) (by go_simp) (by have:=kinY_calls D B dq cx q x wq;rwa [HKN.out]at this)
    ·have e1:=cN 9 27 h hw;refine ch_pure ?_;go_simp
    ·have e1:=cN 10 28 h hw;exact ch_move (ch_ev e1)
    ·have e1:=cN 11 29 h hw;exact ch_pick_t e1 rfl
    ·have e1:=cN 2 20 h hw;have e39:=cN 21 39 h hw;exact ch_pick_t e1 (ch_ev e39)
   intro w1 hb1;simp only[putAll_some,putAll_none,putAll_nil,List.setIfInBounds_toArray,List.set_cons_zero,List.set_cons_succ];have HB1:=bT HB1 hb1;clear hb1 R1 F1 a1;exact x09a
  obtain rfl:k=l.length:=by omega
  have dl:decide ((l.length:Int)<(l.length:Int))=false:=by simp
  have hz:r=0:=by rw[<-HE.out,List.drop_length];unfold listGo;rfl
  exact x8vr
theorem x0t0(h:Y:=by
 have y_:=keep1 (rmJ_bel hJ) RR.out (by simp[recA]) FR.out;have hk_:=HA.out;go_simp):Y:=h
theorem x0wh(h:Y:=by
 rw[<-himg];unfold Dev.image;rw[List.length_take];have:=(at_sizes HOK.out r.active).2.1;omega):Y:=h
theorem x1xc(h:Y:=by
 intro done cv k1 a wq hw h hJ hn;have e1:=mO 5 (.pointer (some ⟨gr,0,none⟩)) h;go_simp):Y:=h
theorem x2qu(h:Y:=by
 obtain⟨k1_,k2_,k3_,k4_⟩:=HKS.out;go_simp):Y:=h
theorem x2v6(h:Y:=by
 obtain⟨_,_,_,g1,g2,_,g3⟩:=hpok e;have g2':b=applied img d.job.ops:=g2;rw[g2'];have g4:=g1.s1;exact⟨by omega,g3,g4⟩):Y:=h
theorem x4wi(h:Y:=by
 intro done cv k2 a wq hw h hJ hn;have e1:=mO 1 (.pointer (some ⟨g,0,none⟩)) h;go_simp):Y:=h
theorem x74k(h:Y:=by
 go_wp2_with fail;go_meet
 case rel=>exact⟨by rw[hres],qH (Below.refl _ _)⟩):Y:=h
theorem x8jo(h:Y:=by
 obtain⟨y1,g1⟩:=hJ;rw[y1]at e1;refine wp_val (v:=.bool (!eq)) (by go_simp) ⟨_,rfl,by simp,g1⟩):Y:=h
theorem x8u2(h:Y:=by
 have y_:=kq (rmJ_bel hJ) RD FD;go_simp):Y:=h
theorem devCheck_is_len(h:d.s0.length≠64∨d.s1.length≠64):devCheck d=3:=by unfold devCheck;rw[if_pos h]
theorem devCheck_is_cop(h0:d.s0.length=64)(h1:d.s1.length=64)(hc:copCheck d.c0 d.c1≠0):devCheck d=copCheck d.c0 d.c1:=by unfold devCheck;rw[if_neg (by omega),if_pos hc]
theorem devCheck_is_off(h0:d.s0.length=64)(h1:d.s1.length=64)(hc:copCheck d.c0 d.c1=0)(hu:d.up=false):devCheck d=if d.running≠0∨d.got≠[]∨d.busy=true∨d.done≠0∨d.job≠Pat.zero then 3 else 0:=by unfold devCheck;rw[if_neg (by omega),if_neg (by omega),if_pos hu]
theorem devCheck_is_up(h0:d.s0.length=64)(h1:d.s1.length=64)(hc:copCheck d.c0 d.c1=0)(hu:d.up=true):devCheck d=devUpCheck d (recRead d.c0 d.c1).1:=by unfold devCheck;rw[if_neg (by omega),if_neg (by omega),if_neg (by rw[hu];simp)];rfl
theorem patSameZ_calls(p:Pat)(B:OA)(c:Nat)(w:World)(hp:PatIn w p B c):Calls Tryz.prog 35 #[.agg (patA p.from_ p.to_ p.old p.new_ p.size B p.ops.length c),.agg (patA 0 0 0 0 0 none 0 0)] w (RetB w (.bool (decide (p=Pat.zero)))):=
 patSameA_calls B none c 0 p.from_ p.to_ p.old p.new_ p.size 0 0 0 0 0 p.ops [] w hp.len (by simp) hp.ops (Sps.nil _ _)
theorem devUp_range(h:d.running<0∨1<d.running∨(d.running≠r.active∧r.trying=false)):devUpCheck d r=2:=by unfold devUpCheck;rw[if_pos h]
theorem devUp_list(h:¬(d.running<0∨1<d.running∨(d.running≠r.active∧r.trying=false)))(g:chkList d.got≠0):devUpCheck d r=chkList d.got:=by unfold devUpCheck;rw[if_neg h,if_pos g]
theorem devUp_idle(h:¬(d.running<0∨1<d.running∨(d.running≠r.active∧r.trying=false)))(g:chkList d.got=0)(b:d.busy=false):devUpCheck d r=if d.done≠0∨d.job≠Pat.zero then 3 else 0:=by unfold devUpCheck;rw[if_neg h,if_neg (by omega),if_pos b]
theorem devUp_busy(h:¬(d.running<0∨1<d.running∨(d.running≠r.active∧r.trying=false)))(g:chkList d.got=0)(b:d.busy=true):devUpCheck d r=devBusyCheck d r:=by unfold devUpCheck;rw[if_neg h,if_neg (by omega),if_neg (by rw[b];simp)]
theorem devBusy_form(h:r.trying=true∨d.job.to_<r.floor∨d.job.from_≠(r.at_ r.active).ver∨(r.at_ (1-r.active)).ver≠0):devBusyCheck d r=3:=by unfold devBusyCheck;rw[if_pos h]
theorem devBusy_rest(h:¬(r.trying=true∨d.job.to_<r.floor∨d.job.from_≠(r.at_ r.active).ver∨(r.at_ (1-r.active)).ver≠0)):devBusyCheck d r=
  if (patDo (sumOn 1) d.job (d.image r.active r)).2≠0 then (patDo (sumOn 1) d.job (d.image r.active r)).2
  else if d.done<0∨64<d.done∨d.done%8≠0∨d.job.size+8<=d.done then 2
  else if (d.slot (1-r.active)).take d.done.toNat≠(room (patDo (sumOn 1) d.job (d.image r.active r)).1).take d.done.toNat then 3
  else 0:=by unfold devBusyCheck;rw[if_neg h]
def rmJ(w0:World)(rb:LU)(dn:Nat)(e:Bool):Nat->(Nat->Value)->World->Prop
 |0,_,w=>w=w0.drew
 |1,cv,w=>∃A c,cv 10=.slice A rb.length c∧Bts w A rb∧rb.length<=c∧Below w0.heap.size w0 w
 |2,cv,w=>∃A c,cv 13=.slice A dn c∧Bts w A (rb.take dn)∧dn<=c∧Below w0.heap.size w0 w
 |3,cv,w=>cv 14=.bool e∧Below w0.heap.size w0 w
 |_,cv,w=>cv 15=.bool (!e)∧Below w0.heap.size w0 w
theorem rmJ_bel{w0:World}{rb:LU}{dn k:Nat}{e:Bool}{cv:Nat->Value}(hJ:rmJ w0 rb dn e k cv w):Below w0.heap.size w0 w:=by
 match k,hJ with
 |0,hJ=>obtain rfl:w=w0.drew:=hJ;exact(Below.refl _ _).drew
 |1,⟨_,_,_,_,_,h⟩=>exact h
 |2,⟨_,_,_,_,_,h⟩=>exact h
 |3,⟨_,h⟩=>exact h
 |q+4,⟨_,h⟩=>exact h
theorem x1fz(h:Y:=by
 rcases (show k=0∨k=1 by omega)with rfl|rfl
 ·go_wp2_with fail;go_roundw
  case rel=>exact⟨1,by omega,rfl,by first|rfl|trivial⟩
  case measure=>simp[intOf]<;>omega
 ·go_wp2_with fail;go_roundw
  case rel=>exact⟨2,by omega,rfl,by first|rfl|trivial⟩
  case measure=>simp[intOf]<;>omega):Y:=h
theorem x5ii(h:Y:=by
 have HB1:=qH hb;clear hb;go_wp2_with fail;go_meet
 case rel=>exact⟨by rw[hres],HB1⟩):Y:=h
theorem devCheck_off_(d:Dev)(L:DLoc)(w:World)(h:DevIn w d L)(hA:¬(d.s0.length=64∧d.s1.length=64∧copCheck d.c0 d.c1=0∧d.up=true)):Calls Tryz.prog 7 #[.agg (devA d L)] w (RetB w (iv (devCheck d))):=by
 have HIN:=qH h;have HAA:=qH hA;clear hA;clear h;obtain⟨n,hn⟩:=eX (devCheck d);rw[hn];have HN:=qH hn;clear hn;have i2:∀w,(Instr.index 23 (.agg (slotsA L.a0 d.s0.length L.c0 L.a1 d.s1.length L.c1)) (iv 0)).run Tryz.prog w=.ok (.slice L.a0 d.s0.length L.c0) w:=fun _=>by kernel_rfl
 have i1:∀w,(Instr.index 23 (.agg (slotsA L.a0 d.s0.length L.c0 L.a1 d.s1.length L.c1)) (iv 1)).run Tryz.prog w=.ok (.slice L.a1 d.s1.length L.c1) w:=fun _=>by kernel_rfl
 have HBA:=qH ((bW w).alloc nl (.cells (devA d L) 37));go_enter Tryz.func7,Tryz.ntmps7;go_wp2_with fail;go_loopw [12] (fun i wr=>∃k:Nat,k<=2∧i=iv k∧Hid ((0<k->d.s0.length=64)∧(1<k->d.s1.length=64))∧wr=w.alloc (.cells (devA d L) 37)) (fun i _=>(2-intOf i).toNat)
 case atStart=>exact⟨0,by omega,rfl,qH ⟨by omega,by omega⟩,rfl⟩
 case round=>
 obtain⟨k,hk,rfl,HZ,rfl⟩:=hrel;by_cases hlt:k<2
 ·rcases (show k=0∨k=1 by omega)with rfl|rfl
  ·by_cases e:d.s0.length=64
   ·have q:((d.s0.length:Int) !=64)=false:=by simp;omega
    have HE:=qH e;clear e;go_wp2_with fail;go_roundw
    case rel=>exact⟨1,by omega,rfl,qH ⟨fun _=>HE.out,by omega⟩,by first|rfl|trivial⟩
    case measure=>simp[intOf]<;>omega
   ·have q:((d.s0.length:Int) !=64)=true:=by simp;omega
    have hz:Hid (n=3):=qH (HN.out.symm.trans (devCheck_is_len (.inl e)));clear e;exact x73o
  ·by_cases e:d.s1.length=64
   ·have q:((d.s1.length:Int) !=64)=false:=by simp;omega
    have HE:=qH e;clear e;go_wp2_with fail;go_roundw
    case rel=>exact⟨2,by omega,rfl,qH ⟨fun _=>HZ.out.1 (by omega),fun _=>HE.out⟩,by first|rfl|trivial⟩
    case measure=>simp[intOf]<;>omega
   ·have q:((d.s1.length:Int) !=64)=true:=by simp;omega
    have hz:Hid (n=3):=qH (HN.out.symm.trans (devCheck_is_len (.inr e)));clear e;exact x73o
 obtain rfl:k=2:=by omega
 have HL2:=qH (HZ.out.1 (by omega));have HL1:=qH (HZ.out.2 (by omega));clear hk hlt HZ i2 i1;have a0r:rowOf (w.alloc (.cells (devA d L) 37)) w.heap.size=devA d L:=by rw[rowOf_alloc,if_pos rfl]
 have a0f:frOf (w.alloc (.cells (devA d L) 37)) w.heap.size=(0,0):=by rw[frOf_alloc,if_pos rfl]
 have a0l:w.heap.size<(w.alloc (.cells (devA d L) 37)).heap.size:=by simp
 by_cases hc:copCheck d.c0 d.c1=0
 case neg=>
  have q:(copCheck d.c0 d.c1 !=0)=true:=by simp[hc]
  have hz:Hid (n=copCheck d.c0 d.c1):=qH (HN.out.symm.trans (devCheck_is_cop HL2.out HL1.out hc));have KR:=qH (fun w=>read_bad d.c0 d.c1 w hc);generalize copCheck d.c0 d.c1=e1 at *
  clear hc;go_wp2_with fail;refine(KR.out _).mono ?_;rintro e w1 ⟨rfl,hb⟩;have HB1:=bT HBA hb;obtain⟨a0r,a0f,a0n,a0c,a0z,a0l⟩:=keep1 (g:=w.heap.size) (cs:=devA d L) hb a0r (by go_simp) a0f;clear hb;go_wp2_with fail;go_ret;have hs:=HB1.out.size;refine⟨ret_int hz.out.symm,?_⟩;repeat (first|exact hA|refine bR ?_ _|refine bA ?_ _)
 have KR:=qH (fun w=>read_ok d.c0 d.c1 w hc);have hact:=rec_active (recRead_ok hc);have hok:=recRead_ok hc;have hrec:(recRead d.c0 d.c1).1=d.rec_:=rfl;obtain⟨rk,hrk⟩:=eX ((recRead d.c0 d.c1).2);rw[hrk,hrec]at KR;have EOFF:=qH (fun hu=>HN.out.symm.trans (devCheck_is_off HL2.out HL1.out hc hu));have EUP:=qH (fun hu=>HN.out.symm.trans (devCheck_is_up HL2.out HL1.out hc hu));rw[hrec]at hact hok EUP;have himc:=fun w k hk h q1 q2=>image_calls d L k d.rec_ w hk h (slot_len HL2.out HL1.out k) q1 q2;have HIM:=qH himc;have HC:=qH hc;clear himc;generalize d.rec_=r at *
 obtain⟨ka,ha,ha1⟩:∃ka:Nat,r.active=(ka:Int)∧ka<=1:=⟨r.active.toNat,by omega,by omega⟩;have HOK:=qH hok;have HA:=qH ha;clear hrec hrk hok hact ha HN hc;go_wp2_with fail;refine(KR.out _).mono ?_;rintro e w1 ⟨rfl,hb⟩;have HB1:=bT HBA hb;obtain⟨a0r,a0f,a0n,a0c,a0z,a0l⟩:=keep1 (g:=w.heap.size) (cs:=devA d L) hb a0r (by go_simp) a0f;clear hb KR HBA;obtain⟨g,hg⟩:=eX (w.heap.size);rw[hg]at a0r a0f a0n a0c a0z a0l⊢;have HG:=qH hg;clear hg;go_upto_region 8 with fail
 obtain⟨w4,hw1⟩:=eX (w1.alloc (.cells (recA r) 28));have hb:Below w1.heap.size w1 w4:=by rw[<-hw1];exact bL _
 have r0r:rowOf w4 w1.heap.size=recA r:=by rw[<-hw1,rowOf_alloc,if_pos rfl]
 have r0f:frOf w4 w1.heap.size=(0,0):=by rw[<-hw1,frOf_alloc,if_pos rfl]
 obtain⟨a0r,a0f,a0n,a0c,a0z,a0l⟩:=keep1 (g:=g) (cs:=devA d L) hb a0r (by go_simp) a0f;have HB2:=bT HB1 hb;rw[hw1];obtain⟨gr,hgr⟩:=eX (w1.heap.size);rw[hgr]at r0r r0f⊢;clear hw1 hb hgr HB1;obtain⟨r0r,r0f,r0n,r0c,r0z,r0l⟩:=keep1 (bW w4) r0r (by simp[recA]) r0f;have KZ:=qH (fun wq hb=>patSameZ_calls d.job L.aj L.cj wq (HIN.out.job.stays (HB2.out.trans (Below.mono hb HB2.out.size))))
 cases hu:d.up
 ·have E:=qH (EOFF.out hu);clear EOFF EUP HIM;obtain⟨off,hoff⟩:∃b,decide (d.running≠0∨d.got≠[]∨d.busy=true∨d.done≠0∨d.job≠Pat.zero)=b:=⟨_,rfl⟩;have HO:=qH hoff;clear hoff;go_upto_region 11 with fail
  go_cut [56] (fun v wx=>v=.bool off∧Hid (Below w4.heap.size w4 wx))
  case first=>
   by_cases c1:d.running=0
   case neg=>
    have q1:(d.running !=0)=true:=by simp[c1]
    have hres:off=true:=by rw[<-HO.out];exact decide_eq_true (.inl c1)
    clear c1;exact x74k
   have q1:(d.running !=0)=false:=by simp[c1]
   by_cases c2:d.got=[]
   case neg=>
    have q2:decide ((0:Int)<(d.got.length:Int))=true:=decide_eq_true (by have:=List.length_pos_iff.2 c2;omega);have c2n:0<d.got.length:=List.length_pos_iff.2 c2;have hres:off=true:=by rw[<-HO.out];exact decide_eq_true (.inr (.inl c2))
    clear c1 c2;exact x74k
   have q2:decide ((0:Int)<(d.got.length:Int))=false:=by rw[c2];simp
   have q2n:¬0<d.got.length:=by rw[c2];simp
   cases c3:d.busy
   case true=>
    have hres:off=true:=by rw[<-HO.out];exact decide_eq_true (.inr (.inr (.inl c3)))
    clear c1 c2;exact x74k
   by_cases c4:d.done=0
   case neg=>
    have q3:(d.done !=0)=true:=by simp[c4]
    have hres:off=true:=by rw[<-HO.out];exact decide_eq_true (.inr (.inr (.inr (.inl c4))))
    clear c1 c2 c4;exact x74k
   have q3:(d.done !=0)=false:=by simp[c4]
   have hres:off=!decide (d.job=Pat.zero):=by
    rw[<-HO.out];by_cases h:d.job=Pat.zero<;>simp[c1,c2,c3,c4,h]
   clear c1 c2 c4;go_wp2_with fail;refine(KZ.out w4 (Below.refl _ _)).mono ?_;rintro e w2 ⟨rfl,hb⟩;exact x5ii
  case rest=>
  obtain⟨rfl,hb⟩:=hcut;have HB1:=bT HB2 hb.out
  cases c:off
  ·have hz:Hid (n=0):=qH (E.out.trans (if_neg (of_decide_eq_false (HO.out.trans c))));exact x73o
  have hz:Hid (n=3):=qH (E.out.trans (if_pos (of_decide_eq_true (HO.out.trans c))));exact x73o
 exact absurd ⟨HL2.out,HL1.out,HC.out,hu⟩ HAA.out
theorem devCheck_idle_(d:Dev)(L:DLoc)(w:World)(h:DevIn w d L)(h0:d.s0.length=64)(h1:d.s1.length=64)(hc:copCheck d.c0 d.c1=0)(hu:d.up=true)(hB:d.busy=false∨(d.running<0∨1<d.running∨(d.running≠d.rec_.active∧d.rec_.trying=false))∨chkList d.got≠0):Calls Tryz.prog 7 #[.agg (devA d L)] w (RetB w (iv (devCheck d))):=by
 have HIN:=qH h;clear h;obtain⟨n,hn⟩:=eX (devCheck d);rw[hn];have HN:=qH hn;clear hn;have i2:∀w,(Instr.index 23 (.agg (slotsA L.a0 d.s0.length L.c0 L.a1 d.s1.length L.c1)) (iv 0)).run Tryz.prog w=.ok (.slice L.a0 d.s0.length L.c0) w:=fun _=>by kernel_rfl
 have i1:∀w,(Instr.index 23 (.agg (slotsA L.a0 d.s0.length L.c0 L.a1 d.s1.length L.c1)) (iv 1)).run Tryz.prog w=.ok (.slice L.a1 d.s1.length L.c1) w:=fun _=>by kernel_rfl
 have l2:((d.s0.length:Int) !=64)=false:=by simp;omega
 have l1:((d.s1.length:Int) !=64)=false:=by simp;omega
 have HL2:=qH h0;have HL1:=qH h1;have HCC:=qH hc;have HUP:=qH hu;have HBB:=qH hB;clear hB;clear h0 h1 hc hu;have HBA:=qH ((bW w).alloc nl (.cells (devA d L) 37));go_enter Tryz.func7,Tryz.ntmps7;go_wp2_with fail;go_loopw [12] (fun i wr=>∃k:Nat,k<=2∧i=iv k∧wr=w.alloc (.cells (devA d L) 37)) (fun i _=>(2-intOf i).toNat)
 case atStart=>exact⟨0,by omega,rfl,rfl⟩
 case round=>
 obtain⟨k,hk,rfl,rfl⟩:=hrel;by_cases hlt:k<2
 ·exact x1fz
 obtain rfl:k=2:=by omega
 clear hk hlt i2 i1 l2 l1;have a0r:rowOf (w.alloc (.cells (devA d L) 37)) w.heap.size=devA d L:=by rw[rowOf_alloc,if_pos rfl]
 have a0f:frOf (w.alloc (.cells (devA d L) 37)) w.heap.size=(0,0):=by rw[frOf_alloc,if_pos rfl]
 have a0l:w.heap.size<(w.alloc (.cells (devA d L) 37)).heap.size:=by simp
 have hc:=HCC.out;have KR:=qH (fun w=>read_ok d.c0 d.c1 w hc);have hact:=rec_active (recRead_ok hc);have hok:=recRead_ok hc;have hrec:(recRead d.c0 d.c1).1=d.rec_:=rfl;obtain⟨rk,hrk⟩:=eX ((recRead d.c0 d.c1).2);rw[hrk,hrec]at KR;have EUP:=qH (fun hu=>HN.out.symm.trans (devCheck_is_up HL2.out HL1.out hc hu));rw[hrec]at hact hok EUP;have himc:=fun w k hk h q1 q2=>image_calls d L k d.rec_ w hk h (slot_len HL2.out HL1.out k) q1 q2;have HIM:=qH himc;clear himc;generalize d.rec_=r at *
 obtain⟨ka,ha,ha1⟩:∃ka:Nat,r.active=(ka:Int)∧ka<=1:=⟨r.active.toNat,by omega,by omega⟩;have HOK:=qH hok;have HA:=qH ha;clear hrec hrk hok hact ha HN hc;go_wp2_with fail;refine(KR.out _).mono ?_;rintro e w1 ⟨rfl,hb⟩;have HB1:=bT HBA hb;obtain⟨a0r,a0f,a0n,a0c,a0z,a0l⟩:=keep1 (g:=w.heap.size) (cs:=devA d L) hb a0r (by go_simp) a0f;clear hb KR HBA;obtain⟨g,hg⟩:=eX (w.heap.size);rw[hg]at a0r a0f a0n a0c a0z a0l⊢;have HG:=qH hg;clear hg;go_upto_region 8 with fail
 obtain⟨w4,hw1⟩:=eX (w1.alloc (.cells (recA r) 28));have hb:Below w1.heap.size w1 w4:=by rw[<-hw1];exact bL _
 have r0r:rowOf w4 w1.heap.size=recA r:=by rw[<-hw1,rowOf_alloc,if_pos rfl]
 have r0f:frOf w4 w1.heap.size=(0,0):=by rw[<-hw1,frOf_alloc,if_pos rfl]
 obtain⟨a0r,a0f,a0n,a0c,a0z,a0l⟩:=keep1 (g:=g) (cs:=devA d L) hb a0r (by go_simp) a0f;have HB2:=bT HB1 hb;rw[hw1];obtain⟨gr,hgr⟩:=eX (w1.heap.size);rw[hgr]at r0r r0f⊢;clear hw1 hb hgr HB1;obtain⟨r0r,r0f,r0n,r0c,r0z,r0l⟩:=keep1 (bW w4) r0r (by simp[recA]) r0f;have KZ:=qH (fun wq hb=>patSameZ_calls d.job L.aj L.cj wq (HIN.out.job.stays (HB2.out.trans (Below.mono hb HB2.out.size))));have hu:=HUP.out;have E:=qH (EUP.out hu);clear EUP;go_upto_region 14 with fail
 obtain⟨rng,hrng⟩:∃b,decide (d.running<0∨1<d.running∨(d.running≠r.active∧r.trying=false))=b:=⟨_,rfl⟩;have HRN:=qH hrng;clear hrng;go_cut [76] (fun v wx=>v=.bool rng∧Hid (Below w4.heap.size w4 wx))
 case first=>
  by_cases c1:d.running<0
  ·have hres:rng=true:=by rw[<-HRN.out];exact decide_eq_true (.inl c1)
   exact x74k
  by_cases c2:1<d.running
  ·have hres:rng=true:=by rw[<-HRN.out];exact decide_eq_true (.inr (.inl c2))
   exact x74k
  by_cases c3:d.running=r.active
  ·have q1:(d.running !=r.active)=false:=by simp[c3]
   have hres:rng=false:=by rw[<-HRN.out];exact decide_eq_false (by rintro (h|h|h);omega;omega;exact h.1 c3)
   clear c3;exact x74k
  have q1:(d.running !=r.active)=true:=by simp[c3]
  cases c4:r.trying
  ·have hres:rng=true:=by rw[<-HRN.out];exact decide_eq_true (.inr (.inr ⟨c3,c4⟩))
   clear c3;exact x74k
  have hres:rng=false:=by rw[<-HRN.out];exact decide_eq_false (by rintro (h|h|h);omega;omega;rw[c4]at h;cases h.2)
  clear c3;exact x74k
 case rest=>
 obtain⟨rfl,hb⟩:=hcut;obtain⟨a0r,a0f,a0n,a0c,a0z,a0l⟩:=keep1 (g:=g) (cs:=devA d L) hb.out a0r (by go_simp) a0f;obtain⟨r0r,r0f,r0n,r0c,r0z,r0l⟩:=keep1 (g:=gr) (cs:=recA r) hb.out r0r (by simp[recA]) r0f;have HB1:=bT HB2 hb.out;clear hb
 cases c1:rng
 case true=>
  have hz:Hid (n=2):=qH (E.out.trans (devUp_range (of_decide_eq_true (HRN.out.trans c1))));clear c1;exact x73o
 have HRG:=qH (of_decide_eq_false (HRN.out.trans c1));clear c1 HRN;go_wp2_with fail;refine(chkList_calls L.ag L.cg d.got _ HIN.out.lg (HIN.out.got.stays HB1.out)).mono ?_;rintro e w2 ⟨rfl,hb⟩;obtain⟨a0r,a0f,a0n,a0c,a0z,a0l⟩:=keep1 (g:=g) (cs:=devA d L) hb a0r (by go_simp) a0f;obtain⟨r0r,r0f,r0n,r0c,r0z,r0l⟩:=keep1 (g:=gr) (cs:=recA r) hb r0r (by simp[recA]) r0f;have HB3:=bT HB1 hb;clear hb HB1 HB2 KZ;have KZ:=qH (fun wq hb=>patSameZ_calls d.job L.aj L.cj wq (HIN.out.job.stays (HB3.out.trans (Below.mono hb HB3.out.size))));by_cases c1:chkList d.got=0
 case neg=>
  have q:(chkList d.got !=0)=true:=by simp[c1]
  have hz:Hid (n=chkList d.got):=qH (E.out.trans (devUp_list HRG.out c1));generalize chkList d.got=e1 at *
  clear c1;exact x73o
 rw[c1];have HGT:=qH c1;clear c1
 cases c2:d.busy
 ·have E1:=qH (E.out.trans (devUp_idle HRG.out HGT.out c2));obtain⟨idl,hidl⟩:∃b,decide (d.done≠0∨d.job≠Pat.zero)=b:=⟨_,rfl⟩;have HI:=qH hidl;clear hidl HIM E;go_upto_region 20 with fail
  go_cut [95] (fun v wx=>v=.bool idl∧Hid (Below w2.heap.size w2 wx))
  case first=>
   by_cases c2:d.done=0
   case neg=>
    have q1:(d.done !=0)=true:=by simp[c2]
    have hres:idl=true:=by rw[<-HI.out];exact decide_eq_true (.inl c2)
    clear c2;exact x74k
   have q1:(d.done !=0)=false:=by simp[c2]
   have hres:idl=!decide (d.job=Pat.zero):=by
    rw[<-HI.out];by_cases h:d.job=Pat.zero<;>simp[c2,h]
   clear c2;go_wp2_with fail;refine(KZ.out w2 (Below.refl _ _)).mono ?_;rintro e w3 ⟨rfl,hb⟩;exact x5ii
  case rest=>
  obtain⟨rfl,hb⟩:=hcut;have HB1:=bT HB3 hb.out
  cases c:idl
  ·have hz:Hid (n=0):=qH (E1.out.trans (if_neg (of_decide_eq_false (HI.out.trans c))));exact x73o
  have hz:Hid (n=3):=qH (E1.out.trans (if_pos (of_decide_eq_true (HI.out.trans c))));exact x73o
 exact absurd HBB.out (by rintro (h|h|h);rw[c2]at h;cases h;exact HRG.out h;exact h HGT.out)
end Go.Proofs.YtefkfglkpebbmacGreat
