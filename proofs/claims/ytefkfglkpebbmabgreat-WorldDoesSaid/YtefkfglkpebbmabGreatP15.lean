/- Walks. No conditions. -/
import Derived.Test.YtefkfglkpebbmabGreatP14
set_option linter.all false
set_option maxRecDepth 100000
set_option maxHeartbeats 0
namespace Go.Proofs.YtefkfglkpebbmabGreat
open Go.RowKit
variable {Y:Prop}
variable {w0 w w':World} {base go gp n c m d k c':Nat} {A B A':OA} {xs ps:List Value} {y:Value} {cv:Nat->Value} {out:LU}
theorem x09t(h:Y:=by
 have c1:=bxJ_box hk hJ HBOX.out;have c1:=c1.cell;go_simp):Y:=h
theorem x678(h:Y:=by
 intro done cv k1 a wq hw h hJ hn;have e1:=mx_old (t:=6) (v:=.int .i64 (k:Int)) h rfl rfl;exact mx_move (ch_ev e1)):Y:=h
theorem x6qp(h:Y:=by
 have hk:=hn 8 _ 3 rfl rfl (by decide);obtain⟨b1,b2⟩:=flJ_box HNA.out hk hJ HCO.out HCP.out;have c1:=b1.cell;have c1:=b2.cell;go_simp):Y:=h
theorem x6s8(h:Y:=by
 obtain⟨b1,o1,e1,_,hc1⟩:=hxc;injection e1 with e1;injection e1 with e3 e4;subst e3 e4;exact hc1):Y:=h
theorem x73e(h:Y:=by
 intro done cv k1 a wq hw h hJ hn;have e1:=mx_old (t:=0) (v:=.slice (some ⟨ab,ao,none⟩) b.length cb) h rfl rfl;exact mx_move (ch_ev e1)):Y:=h
structure PkAt(w:World)(base go gp:Nat)(out plain:LU)(A:OA)(c:Nat)(B:OA)(d:Nat):Prop where
 co:Box w go 23 (.slice A out.length c)
 cp:Box w gp 23 (.slice B plain.length d)
 oo:Own w base 5 1 A out.length c (out.map bv)
 op:Own w base 5 1 B plain.length d (plain.map bv)
 ne:∀k,A.map (·.block)=some k->B.map (·.block)≠some k
 lo:go<base
 lp:gp<base
 no:go≠gp
 le:base<=w.heap.size
def flJ(w0:World)(base go:Nat)(A:OA)(n c:Nat)(xs:List Value)(y:Value)(ps:List Value)(gp:Nat)(B:OA)(m d:Nat):Nat->(Nat->Value)->World->Prop
 |0,_,w=>Below base w0 w∧(∀k,k<w0.heap.size->A.map (·.block)≠some k->w.heap[k]?=w0.heap[k]?)∧Own w base 5 1 A n c xs
 |1,cv,w=>Below base w0 w∧(∀k,k<w0.heap.size->A.map (·.block)≠some k->w.heap[k]?=w0.heap[k]?)∧Own w base 5 1 A n c xs∧∃bb,cv 4=.slice (some ⟨bb,0,none⟩) 1 1∧w.heap[bb]?=some (.cells #[y] 5 (0,0))∧w0.heap.size<=bb
 |2,cv,w=>Below base w0 w∧(∀k,k<w0.heap.size->A.map (·.block)≠some k->w.heap[k]?=w0.heap[k]?)∧∃A1 c1,cv 5=.slice A1 (n+1) c1∧Own w base 5 1 A1 (n+1) c1 (xs++[y])∧(A1.map (·.block)=A.map (·.block)∨∀k,A1.map (·.block)=some k->w0.heap.size<=k)
 |3,cv,w=>Below base w0 w∧(∀k,k<w0.heap.size->A.map (·.block)≠some k->w.heap[k]?=w0.heap[k]?)∧∃A2 c2,cv 7=.slice A2 (n+1+m) c2∧Own w base 5 1 A2 (n+1+m) c2 (xs++[y]++ps)∧(A2.map (·.block)=A.map (·.block)∨∀k,A2.map (·.block)=some k->w0.heap.size<=k)
 |_,_,w=>∃A2 c2,Box w go 23 (.slice A2 (n+1+m) c2)∧Box w gp 23 (.slice B m d)∧Own w base 5 1 A2 (n+1+m) c2 (xs++[y]++ps)∧Below go w0 w
theorem flJ_box{v u:Value}{T:TypeId}(hA:A.map (·.block)≠some go∧A.map (·.block)≠some gp)(hk:k<=3)(hJ:flJ w0 base go A n c xs y ps gp B m d k cv w)(h1:Box w0 go T v)(h2:Box w0 gp T u):Box w go T v∧Box w gp T u:=by
 have key:∀k,k<w0.heap.size->A.map (·.block)≠some k->w.heap[k]?=w0.heap[k]?:=by
  match k,hk,hJ with
  |0,_,⟨_,h,_⟩=>exact h
  |1,_,⟨_,h,_⟩=>exact h
  |2,_,⟨_,h,_⟩=>exact h
  |3,_,⟨_,h,_⟩=>exact h
 exact⟨(key go h1.lt hA.1).trans h1,(key gp h2.lt hA.2).trans h2⟩
theorem flJ_one(hJ:flJ w0 base go A n c xs y ps gp B m d 0 cv w)(hle:base<=w0.heap.size):
  flJ w0 base go A n c xs y ps gp B m d 1 (fun j=>if j=4 then .slice (some ⟨w.heap.size,0,none⟩) 1 1 else cv j) (w.alloc (.cells #[y] 5)):=by
 obtain⟨k1,k2,k3⟩:=hJ;have hs:=k1.size;exact⟨k1.alloc (by omega) _,fun k hk hn=>(Below.heap_alloc w _ k (by omega)).trans (k2 k hk hn),k3.alloc _,_,rfl,blk_top rfl,hs⟩
theorem flJ_app1(k1:Below base w0 w)(k2:∀k,k<w0.heap.size->A.map (·.block)≠some k->w.heap[k]?=w0.heap[k]?)
  (hown:Own w' base 5 1 A' (n+1) c' (xs++[y])) (hgr:w.grownBy w' (A.map (·.block))) (hbel:Below base w w') (hor:A'.map (·.block)=A.map (·.block)∨A'.map (·.block)=some w.heap.size):
  flJ w0 base go A n c xs y ps gp B m d 2 (fun j=>if j=5 then .slice A' (n+1) c' else cv j) w':=by
 have hs:=k1.size;refine⟨k1.trans hbel,fun k hk hn=>(hgr.block k (by omega) (fun e=>hn e.symm)).trans (k2 k hk hn),A',c',rfl,hown,?_⟩;rcases hor with h|h
 ·exact .inl h
 exact x55s
theorem flJ_app2{A1:OA}(k1:Below base w0 w)(k2:∀k,k<w0.heap.size->A.map (·.block)≠some k->w.heap[k]?=w0.heap[k]?)
  (k4:A1.map (·.block)=A.map (·.block)∨∀k,A1.map (·.block)=some k->w0.heap.size<=k)
  (hown:Own w' base 5 1 A' (n+1+m) c' (xs++[y]++ps)) (hgr:w.grownBy w' (A1.map (·.block))) (hbel:Below base w w') (hor:A'.map (·.block)=A1.map (·.block)∨A'.map (·.block)=some w.heap.size):
  flJ w0 base go A n c xs y ps gp B m d 3 (fun j=>if j=7 then .slice A' (n+1+m) c' else cv j) w':=by
 have hs:=k1.size;refine⟨k1.trans hbel,fun k hk hn=>(hgr.block k (by omega) (fun e=>?_)).trans (k2 k hk hn),A',c',rfl,hown,?_⟩
 ·rcases k4 with h|h
  ·exact hn (h.symm.trans e.symm)
  ·have:=h k e.symm;omega
 rcases hor with h|h
 ·rcases k4 with h4|h4
  ·exact .inl (h.trans h4)
  ·exact .inr (fun k hk=>h4 k (h.symm.trans hk))
 exact x55s
theorem flJ_src{e:Nat}(h:Own w0 base e 1 B m d ps)(hne:∀k,A.map (·.block)=some k->B.map (·.block)≠some k)(k2:∀k,k<w0.heap.size->A.map (·.block)≠some k->w.heap[k]?=w0.heap[k]?):Src w B ps:=by
 intro i hi;obtain⟨b,o,rfl,hlt,hc⟩:=h.src i hi;have hk:=k2 b hlt (fun e=>hne b e rfl);refine⟨b,o,rfl,?_,(World.cell?_of_block hk).trans hc⟩;rcases Nat.lt_or_ge b w.heap.size with h|h
 ·exact h
 rw[Array.getElem?_eq_none h,Array.getElem?_eq_getElem hlt]at hk;cases hk
def FlRet(w:World)(base go gp:Nat)(out:LU):Ending->World->Prop:=fun e w'=>e=.returned (.tuple #[])∧∃A c,PkAt w' base go gp out [] A c none 0∧Below go w w'
theorem PkAt.noPlain{v:Value}(h1:Box w go 23 (.slice A out.length c))(h2:Box w gp 23 v)(h3:Own w base 5 1 A out.length c (out.map bv))(lo:go<base)(lp:gp<base)(no:go≠gp)(le:base<=w.heap.size):
  PkAt (w.setCell ⟨gp,0,none⟩ (.slice none 0 0)) base go gp out [] A c none 0:=
 ⟨h1.other (by show gp≠go;omega) _,h2.set _,h3.setCell_other (own_far h3 lp) _,Own.nil_ _ _ _ _,(fun k hk e=>by cases e),lo,lp,no,by simpa using le⟩
theorem flush_calls{plain:LU}(h:PkAt w base go gp out plain A c B d)(hog:go<gp)(hl:plain.length<=127)(ho:out.length<=67108864):
  Calls Tryz.prog 145 #[.pointer (some ⟨gp,0,none⟩),.pointer (some ⟨go,0,none⟩)] w (FlRet w base go gp (out++flushed plain)):=by
 obtain⟨h1,h2,h3,h4,h5,h6,h7,h8,h9⟩:=h;have HCO:=qH h1;have HCP:=qH h2;have HOO:=qH h3;have HOP:=qH h4;have HNE:=qH h5;have HLE:=qH h9;have c1:=h1.cell;have c2:=h2.cell;have f1:=h1.free;have f2:=h2.free;have hgo:go<w.heap.size:=h1.lt;have hgp:gp<w.heap.size:=h2.lt;clear h1 h2 h3 h4 h5 h9;by_cases hp:plain=[]
 ·subst hp;have e:out++flushed []=out:=by simp[flushed]
  rw[e];simp only[List.length_nil,Int.ofNat_eq_natCast,Int.natCast_zero]at *
  go_enter Tryz.func145,Tryz.ntmps145;go_wp2_with fail;exact bodyPost_end (results_none rfl _ _ _) rfl ⟨rfl,A,c,PkAt.noPlain HCO.out HCP.out HOO.out h6 h7 h8 HLE.out,(Below.refl _ _).setCell (p:=⟨gp,0,none⟩) (by show go<=gp;omega) _⟩
 have e:out++flushed plain=out++(UInt8.ofNat plain.length::plain):=by unfold flushed;rw[if_neg hp]
 rw[e];have hp1:1<=plain.length:=by rcases plain with _|⟨x,r⟩;exact absurd rfl hp;simp
 have hp1:(0:Int)<(plain.length:Int):=by omega
 have HBV:Hid (bv (UInt8.ofNat plain.length)=.int .u8 (plain.length:Int)):=qH (by unfold bv;rw[ofNat_toNat _ (by omega)]);have HL1:Hid (IntKind.u8.wrap (plain.length:Int)=(plain.length:Int)):=qH (by unfold IntKind.wrap;simp[IntKind.signed,IntKind.bits];omega);have HNA:=qH (And.intro (own_far HOO.out h6) (own_far HOO.out h7));clear hp e;go_enter Tryz.func145,Tryz.ntmps145;go_wp2_with fail;refine wp_region_mix (by kernel_rfl) (some 5::some 6::some 7::some 8::some 9::some 10::some 11::some 12::none::[]) (none::none::none::none::some 0::some 1::none::some 2::some 3::[]) (.slice A out.length c::.slice B plain.length d::.int .i64 (plain.length:Int)::bv (UInt8.ofNat plain.length)::undef::undef::.slice B plain.length d::undef::undef::[]) 4 (flJ w base go A out.length c (out.map bv) (bv (UInt8.ofNat plain.length)) (plain.map bv) gp B plain.length d) 13 rfl rfl (by decide+kernel) (by decide+kernel) (by decide+kernel) (by decide+kernel) rfl rfl (by decide+kernel) (by decide+kernel) (⟨(Below.refl _ _).drew,fun _ _ _=>rfl,HOO.out.drew⟩) ?_ ?_
 ·refine⟨?_,?_,?_,?_,?_,?_,?_,?_,?_,trivial⟩
  ·intro done cv k a wq hw h hJ hn;have e1:=mx_old (t:=1) (v:=.pointer (some ⟨go,0,none⟩)) h rfl rfl;exact x6qp
  ·intro done cv k a wq hw h hJ hn;have e1:=mx_old (t:=0) (v:=.pointer (some ⟨gp,0,none⟩)) h rfl rfl;exact x6qp
  ·intro done cv k a wq hw h hJ hn;have e1:=mx_new (i:=1) (t:=6) h (hw 1 (by decide)) rfl rfl rfl;go_simp
  ·intro done cv k a wq hw h hJ hn;have e1:=mx_new (i:=2) (t:=7) h (hw 2 (by decide)) rfl rfl rfl;have hl1:=HL1.out;have hbv:=HBV.out;rw[hbv];go_simp
  ·intro done cv a wq hw h hJ;have e1:=mx_new (i:=3) (t:=8) h (hw 3 (by decide)) rfl rfl rfl;obtain⟨k1,k2,k3⟩:=hJ;exact wp_sb1 e1 ⟨_,rfl,flJ_one ⟨k1,k2,k3⟩ HLE.out⟩
  ·intro done cv a wq hw h hJ;have e1:=mx_new (i:=0) (t:=5) h (hw 0 (by decide)) rfl rfl rfl;have e9:=mx_cv (i:=4) (t:=9) h (hw 4 (by decide)) rfl rfl;obtain⟨k1,k2,k3,bb,y1,y2,y3⟩:=hJ;rw[y1]at e9;refine wp_app wq (.tmp 5) (.tmp 9) 23 rfl elBytes base A out.length c (out.map bv) (ch_ev e1) k3 (some ⟨bb,0,none⟩) 1 1 [bv (UInt8.ofNat plain.length)] (ch_ev e9) (src_blk y2) rfl (by simp[Value.oneCell']) (by omega) (Nat.le_trans HLE.out k1.size) ?_;intro A' c' w' hown hgr hbel hor;exact⟨_,rfl,flJ_app1 k1 k2 hown hgr hbel hor⟩
  ·intro done cv k a wq hw h hJ hn;have e1:=mx_old (t:=0) (v:=.pointer (some ⟨gp,0,none⟩)) h rfl rfl;exact x6qp
  ·intro done cv a wq hw h hJ;have e1:=mx_cv (i:=5) (t:=10) h (hw 5 (by decide)) rfl rfl;have e11:=mx_new (i:=6) (t:=11) h (hw 6 (by decide)) rfl rfl rfl;obtain⟨k1,k2,A1,c1,y1,k3,k4⟩:=hJ;rw[y1]at e1;have hsrc:=flJ_src HOP.out HNE.out k2;refine wp_app wq (.tmp 10) (.tmp 11) 23 rfl elBytes base A1 (out.length+1) c1 (out.map bv++[bv (UInt8.ofNat plain.length)]) (ch_ev e1) k3 B plain.length d (plain.map bv) (ch_ev e11) hsrc (by simp) (bv_one _) (by omega) (Nat.le_trans HLE.out k1.size) ?_;intro A' c' w' hown hgr hbel hor;exact⟨_,rfl,flJ_app2 k1 k2 k4 hown hgr hbel hor⟩
  ·intro done cv a wq hw h hJ;have e1:=mx_old (t:=1) (v:=.pointer (some ⟨go,0,none⟩)) h rfl rfl;have e12:=mx_cv (i:=7) (t:=12) h (hw 7 (by decide)) rfl rfl;obtain⟨b1,b2⟩:=flJ_box HNA.out (k:=3) (by omega) hJ HCO.out HCP.out;obtain⟨k1,k2,A1,c1,y1,k3,k4⟩:=hJ;rw[y1]at e12;exact wp_ssl e1 e12 b1.cell b1.free ⟨undef,rfl,A1,c1,b1.set _,b2.other (by show go≠gp;omega) _,k3.setCell_other (own_far k3 (by omega)) _,(k1.mono (Nat.le_of_lt h6)).setCell (p:=⟨go,0,none⟩) (Nat.le_refl _) _⟩
 rintro cv w1 ⟨A1,d1,g1,g2,g3,g4⟩;have hl1:out.length+1+plain.length=(out++(UInt8.ofNat plain.length::plain)).length:=by simp;omega
 rw[hl1]at g1 g3;have g3':Own w1 base 5 1 A1 (out++(UInt8.ofNat plain.length::plain)).length d1 ((out++(UInt8.ofNat plain.length::plain)).map bv):=by simpa using g3
 have H1:=qH g1;have H2:=qH g2;have H3:=qH g3';have H4:=qH g4;have q1:=g2.cell;have q1:=g2.free;have hgp1:gp<w1.heap.size:=g2.lt;clear g1 g2 g3 g3' g4 hl1 c1 c2 f1 f2;simp only[mixAll,putAll_some,putAll_none,putAll_nil,List.getElem?_cons_zero,List.getElem?_cons_succ,Nat.zero_add,Nat.reduceAdd,List.setIfInBounds_toArray,List.set_cons_zero,List.set_cons_succ];go_wp2_with fail;exact bodyPost_end (results_none rfl _ _ _) rfl ⟨rfl,A1,d1,PkAt.noPlain H1.out H2.out H3.out h6 h7 h8 (Nat.le_trans HLE.out H4.out.size),H4.out.setCell (p:=⟨gp,0,none⟩) (by show go<=gp;omega) _⟩
theorem PkAt.drewN{plain:LU}(h:PkAt w base go gp out plain A c B d)(n:Nat):PkAt (w.drewN n) base go gp out plain A c B d:=
 ⟨h.co.drewN n,h.cp.drewN n,h.oo.drewN n,h.op.drewN n,h.ne,h.lo,h.lp,h.no,h.le⟩
theorem pack_calls(Ab:OA)(cb:Nat)(b:LU)(w:World)(hc:b.length<=cb)(hl:b.length<=1048576)(hB:Bts w Ab b):
  Calls Tryz.prog 131 #[.slice Ab b.length cb] w (BtRet w (packed b)):=by
 have hpl:=packed_len b;have HPL:Hid (∀(out:LU) (r pl:LU),out++packAt r pl=packed b->out.length<=67108000):=qH (fun out r pl e=>by have:=congrArg List.length e;simp at this;omega);have HBT:=qH hB;clear hB hpl;go_enter Tryz.func131,Tryz.ntmps131;go_wp2_with fail;have hpk:PkAt ((w.alloc (.cells #[.slice none 0 0] 23)).alloc (.cells #[.slice none 0 0] 23)) (w.heap.size+2) w.heap.size (w.heap.size+1) [] [] none 0 none 0:=
  ⟨blk_old (blk_top rfl),blk_top (by simp),Own.nil_ _ _ _ _,Own.nil_ _ _ _ _,(fun k hk e=>by cases e),by omega,by omega,by omega,by simp⟩
 have HPK:=qH hpk;have HB1:Hid (Below w.heap.size w ((w.alloc (.cells #[.slice none 0 0] 23)).alloc (.cells #[.slice none 0 0] 23))):=qH (((Below.refl _ _).alloc (Nat.le_refl _) _).alloc (by simp) _);clear hpk;generalize (w.alloc (.cells #[.slice none 0 0] 23)).alloc (.cells #[.slice none 0 0] 23)=w0 at *
 generalize hgo:w.heap.size=go at *
 have hog:go<go+1:=by omega
 generalize hgp:go+1=gp at *
 have hlo:go<go+2:=by omega
 have hlp:gp<go+2:=by omega
 have hno:go≠gp:=by omega
 have hgb:go<=go+2:=by omega
 generalize hba:go+2=base at *
 have HGO:=qH hgo;clear hgo hgp hba;go_loopw [6] (fun i wr=>∃(k:Nat) (out plain:LU) (A B:OA) (c d:Nat),i=.int .i64 k∧k<=b.length∧plain.length<127∧Hid (out++packAt (b.drop k) plain=packed b)∧Hid (PkAt wr base go gp out plain A c B d)∧Hid (Below go w wr)) (fun i _=>b.length-(intOf i).toNat)
 case atStart=>exact⟨0,[],[],none,none,0,0,rfl,Nat.zero_le _,by simp,qH rfl,HPK,HB1⟩
 case round=>
  clear HPK HB1;rename World=>wo;obtain⟨k,out,plain,A,B,c,d,rfl,hk,hpn,HE,HP,HB⟩:=hrel;by_cases hlt:k<b.length
  ·have dk:decide ((k:Int)<(b.length:Int))=true:=by simp;omega
   have ebd:b.drop k=b[k]::b.drop (k+1):=List.drop_eq_getElem_cons hlt;obtain⟨a1,a2,a3,a4,a5⟩:=alike_stop hlt;have HEB:=qH ebd;have HA1:=qH a4;obtain⟨ab,ao,rfl,hsb,hxk⟩:=(HBT.out.stays (HGO.out▸HB.out)) k hlt;have hbt:=HBT.out.stays (HGO.out▸HB.out);have HBO:=qH hbt;clear ebd a4 hbt;have HAL:Hid (alike (b.drop k)=alike (b.drop k)):=qH rfl;generalize hal:alike (b.drop k)=al at *
   have HALE:=qH hal;clear hal HAL;go_wp2_with fail;go_loopw [7] (fun n wr=>∃(m nd:Nat),n=.int .i64 (m:Int)∧1<=m∧m<=al∧wo.drewN nd=wr) (fun n _=>al-(intOf n).toNat)
   case atStart=>exact⟨1,0,rfl,by omega,a1,rfl⟩
   case round=>
    obtain⟨m,nd,rfl,hm1,hm2,rfl⟩:=hrel;by_cases hml:m<al
    ·have hx1:=HA1.out m hml;have hkm:k+m<b.length:=by omega
     rw[List.getElem?_eq_getElem hkm]at hx1;obtain⟨b1,o1,e1,hs1,hc1⟩:=HBO.out (k+m) hkm;injection e1 with e1;injection e1 with e3 e4;subst e3 e4;have hx2:b[k+m]=b[k]:=by injection hx1
     rw[hx2]at hc1;have d1:decide ((m:Int)<127)=true:=by simp;omega
     have d1:decide ((k:Int)+(m:Int)<(b.length:Int))=true:=by simp;omega
     have d1:((b[k].toNat:Int)==(b[k].toNat:Int))=true:=by simp
     have hw1:IntKind.i64.wrap ((k:Int)+(m:Int))=(k:Int)+(m:Int):=IntWalk.i64_in _ (by omega);clear hx1 hx2;exact x21e
    obtain rfl:m=al:=by omega
    have hw1:IntKind.i64.wrap ((k:Int)+(m:Int))=(k:Int)+(m:Int):=IntWalk.i64_in _ (by omega);by_cases h3:3<=m
    ·have hrun:=packAt_run (x:=b[k]) (r:=b.drop (k+1)) (plain:=plain) (by rw[<-HEB.out,HALE.out];exact h3);rw[<-HEB.out,HALE.out,List.drop_drop]at hrun;have hE1:(out++flushed plain++[UInt8.ofNat (128+m),b[k]])++packAt (b.drop (k+m)) []=packed b:=by
      rw[<-HE.out,hrun];simp
     have ho1:out.length<=67108000:=HPL.out _ _ _ HE.out;have ho1:(out++flushed plain).length<=67108000:=HPL.out (out++flushed plain) [] ([UInt8.ofNat (128+m),b[k]]++[]) |> fun h=>by
      have:=congrArg List.length hE1;have hq:=HPL.out (out++flushed plain++[UInt8.ofNat (128+m),b[k]]) _ _ hE1;simp at hq⊢;omega
     have HE1:=qH hE1;have HBV:Hid (bv (UInt8.ofNat (128+m))=.int .u8 (128+(m:Int))):=qH (by unfold bv;rw[ofNat_toNat _ (by omega)];simp);have HL1:Hid (IntKind.u8.wrap (m:Int)=(m:Int)):=qH (by unfold IntKind.wrap;simp[IntKind.signed,IntKind.bits];omega);have HL2:Hid (IntKind.u8.wrap (128+(m:Int))=128+(m:Int)):=qH (by unfold IntKind.wrap;simp[IntKind.signed,IntKind.bits];omega);clear hrun hE1 HE;rcases a5 with h|⟨h0,h⟩|⟨h0,h1,h2⟩;all_goals (first
      |(have d1:decide ((m:Int)<127)=false:=by simp;omega
        clear h hm2 hml;go_wp2_with fail;go_quiet (fail)
        go_wp2_with fail)
      |(have d1:decide ((m:Int)<127)=true:=by simp;omega
        have d2:decide ((k:Int)+(m:Int)<(b.length:Int))=false:=by simp;omega
        clear h hm2 hml;go_wp2_with fail;go_quiet (fail)
        go_wp2_with fail)
      |(have d1:decide ((m:Int)<127)=true:=by simp;omega
        have d2:decide ((k:Int)+(m:Int)<(b.length:Int))=true:=by simp;omega
        have d3:((b[k+m].toNat:Int)==(b[k].toNat:Int))=false:=by simp;exact fun e=>h2 (UInt8.toNat_inj.1 (by omega))
        have hc2:wo.cell? ⟨ab,ao+(k+m),none⟩=some (bv b[k+m]):=by
         obtain⟨b2,o2,e2,hs2,hc2⟩:=HBO.out (k+m) h1;injection e2 with e2;injection e2 with e3 e4;subst e3 e4;exact hc2
        clear h2 hm2 hml;go_wp2_with fail;go_quiet (fail)
        go_wp2_with fail))
     all_goals (
      have HPx:Hid (∀n,PkAt (wo.drewN n) base go gp out plain A c B d∧Below go w (wo.drewN n)):=qH (fun n=>⟨HP.out.drewN n,Below.drewN' HB.out n⟩);refine(flush_calls (HPx.out _).1 hog (by omega) (by omega)).mono ?_;rintro e wx ⟨rfl,A1,c1,hp1,hb1⟩;have HBx:Hid (Below go w wx):=qH ((HPx.out _).2.trans hb1);have hxc:=(HBT.out.stays (HGO.out▸HBx.out)) k hlt;have HXC:Hid (wx.cell? ⟨ab,ao+k,none⟩=some (bv b[k])):=qH (by
       exact x6s8)
      obtain⟨p1,p2,p3,p4,p5,p6,p7,p8,p9⟩:=hp1;have HCO:=qH p1;have HCP:=qH p2;have HOW:=qH p3;have HBOX:=qH p1;have HNA:=qH (And.intro (own_far p3 p6) (own_far p3 p7));have hle:=p9;clear hb1 hxc p1 p2 p3 p4 p5 HPx;go_wp2_with fail;refine wp_region_mix (by kernel_rfl) (some 42::some 43::some 44::some 45::some 46::some 47::some 48::some 49::some 50::some 51::none::[]) (none::none::none::none::none::none::none::none::some 0::some 1::some 2::[]) (.slice A1 (out++flushed plain).length c1::.int .i64 ((m:Nat):Int)::.int .u8 (m:Int)::bv (UInt8.ofNat (128+m))::.slice (some ⟨ab,ao,none⟩) b.length cb::.int .i64 (k:Int)::.pointer (some ⟨ab,ao+k,none⟩)::bv b[k]::undef::undef::undef::[]) 3 (bxJ wx base A1 (out++flushed plain).length c1 ((out++flushed plain).map bv) [bv (UInt8.ofNat (128+m)),bv b[k]] 8 9 (fun w=>∃A2 c2,Box w go 23 (.slice A2 ((out++flushed plain).length+2) c2)∧Box w gp 23 (.slice none 0 0)∧Own w base 5 1 A2 ((out++flushed plain).length+2) c2 ((out++flushed plain).map bv++[bv (UInt8.ofNat (128+m)),bv b[k]])∧Below go wx w)) 70 rfl rfl (by decide+kernel) (by decide+kernel) (by decide+kernel) (by decide+kernel) rfl rfl (by decide+kernel) (by decide+kernel) (rfl) ?_ ?_
      ·refine⟨?_,?_,?_,?_,?_,?_,?_,?_,?_,?_,?_,trivial⟩
       ·intro done cv k1 a wq hw h hJ hn;have e1:=mx_old (t:=3) (v:=.pointer (some ⟨go,0,none⟩)) h rfl rfl;have hk:=hn 9 _ 1 rfl rfl (by decide);exact x09t
       ·intro done cv k1 a wq hw h hJ hn;have e1:=mx_old (t:=7) (v:=.int .i64 ((m:Nat):Int)) h rfl rfl;exact mx_move (ch_ev e1)
       ·intro done cv k1 a wq hw h hJ hn;have e1:=mx_new (i:=1) (t:=43) h (hw 1 (by decide)) rfl rfl rfl;have hl1:=HL1.out;go_simp
       ·intro done cv k1 a wq hw h hJ hn;have e1:=mx_new (i:=2) (t:=44) h (hw 2 (by decide)) rfl rfl rfl;have hl1:=HL2.out;have hbv:=HBV.out;rw[hbv];go_simp
       ·exact x73e
       ·exact x678
       ·intro done cv k1 a wq hw h hJ hn;have e1:=mx_new (i:=4) (t:=46) h (hw 4 (by decide)) rfl rfl rfl;have e47:=mx_new (i:=5) (t:=47) h (hw 5 (by decide)) rfl rfl rfl;go_simp
       ·intro done cv k1 a wq hw h hJ hn;have e1:=mx_new (i:=6) (t:=48) h (hw 6 (by decide)) rfl rfl rfl;have hk:=hn 8 _ 0 rfl rfl (by decide);exact x87r
       ·intro done cv a wq hw h hJ;have e1:=mx_new (i:=3) (t:=45) h (hw 3 (by decide)) rfl rfl rfl;have e49:=mx_new (i:=7) (t:=49) h (hw 7 (by decide)) rfl rfl rfl;obtain rfl:wq=wx.drew:=hJ;exact wp_sb2 e1 e49 ⟨_,rfl,rfl,by simp⟩
       ·intro done cv a wq hw h hJ;have e1:=mx_new (i:=0) (t:=42) h (hw 0 (by decide)) rfl rfl rfl;have e50:=mx_cv (i:=8) (t:=50) h (hw 8 (by decide)) rfl rfl;obtain⟨rfl,y1⟩:=hJ;rw[y1]at e50;refine wp_app _ (.tmp 42) (.tmp 50) 23 rfl elBytes base A1 (out++flushed plain).length c1 ((out++flushed plain).map bv) (ch_ev e1) (HOW.out.drew.alloc _) (some ⟨wx.heap.size,0,none⟩) 2 2 [bv (UInt8.ofNat (128+m)),bv b[k]] (ch_ev e50) (src_blk (blk_top (by simp))) rfl (by simp[Value.oneCell']) (by omega) (by simp;omega) ?_;exact x1bo
       ·intro done cv a wq hw h hJ;have e1:=mx_old (t:=3) (v:=.pointer (some ⟨go,0,none⟩)) h rfl rfl;have e51:=mx_cv (i:=9) (t:=51) h (hw 9 (by decide)) rfl rfl;obtain⟨A1,c1,y1,k3,k1,k2,k4⟩:=hJ;rw[y1]at e51;have b1:Box wq go _ _:=(k2 go HCO.out.lt HNA.out.1).trans HCO.out;have b2:Box wq gp _ _:=(k2 gp HCP.out.lt HNA.out.2).trans HCP.out;exact wp_ssl e1 e51 b1.cell b1.free ⟨undef,rfl,A1,c1,b1.set _,b2.other (by show go≠gp;omega) _,k3.setCell_other (own_far k3 hlo) _,(k1.mono (Nat.le_of_lt hlo)).setCell (p:=⟨go,0,none⟩) (Nat.le_refl _) _⟩
      rintro cv w1 ⟨A1,c1,q1,q2,q3,q4⟩;have e1:(out++flushed plain++[UInt8.ofNat (128+m),b[k]]).length=(out++flushed plain).length+2:=by rw[List.length_append];rfl
      have hP1:PkAt w1 base go gp (out++flushed plain++[UInt8.ofNat (128+m),b[k]]) [] A1 c1 none 0:=
       ⟨by rw[e1];exact q1,q2,by rw[e1,List.map_append];exact q3,Own.nil_ _ _ _ _,(fun k hk e=>by cases e),hlo,hlp,hno,Nat.le_trans hle q4.size⟩
      have HP1:=qH hP1;have HB1:Hid (Below go w w1):=qH (HBx.out.trans q4);clear q1 q2 q3 q4 hP1 e1;simp only[mixAll,putAll_some,putAll_none,putAll_nil,List.getElem?_cons_zero,List.getElem?_cons_succ,Nat.zero_add,Nat.reduceAdd,List.setIfInBounds_toArray,List.set_cons_zero,List.set_cons_succ];go_wp2_with fail;go_roundw
      case rel=>exact⟨k+m,_,[],A1,none,c1,0,by go_num,by omega,by simp,HE1,HP1,HB1⟩
      case measure=>simp[intOf];omega)
    have HPX:Hid (∀n,PkAt (wo.drewN n) base go gp out plain A c B d∧Below go w (wo.drewN n)):=qH (fun n=>⟨HP.out.drewN n,Below.drewN' HB.out n⟩);have ho1:out.length<=67108000:=HPL.out _ _ _ HE.out;have h3':¬3<=alike (b[k]::b.drop (k+1)):=by rw[<-HEB.out,HALE.out];exact h3
    have HF:Hid (plain.length+1=127->(out++flushed (plain++[b[k]]))++packAt (b.drop (k+1)) []=packed b):=qH (fun e=>by rw[<-HE.out,HEB.out,packAt_full h3' e];simp);have HG:Hid (plain.length+1≠127->out++packAt (b.drop (k+1)) (plain++[b[k]])=packed b):=qH (fun e=>by rw[<-HE.out,HEB.out,packAt_byte h3' e]);clear HE h3';rcases a5 with h|⟨h0,h⟩|⟨h0,h1,h2⟩;all_goals (first
     |(have d1:decide ((m:Int)<127)=false:=by simp;omega
       clear h hm2 hml;go_wp2_with fail;go_quiet (fail)
       go_wp2_with fail)
     |(have d1:decide ((m:Int)<127)=true:=by simp;omega
       have d2:decide ((k:Int)+(m:Int)<(b.length:Int))=false:=by simp;omega
       clear h hm2 hml;go_wp2_with fail;go_quiet (fail)
       go_wp2_with fail)
     |(have d1:decide ((m:Int)<127)=true:=by simp;omega
       have d2:decide ((k:Int)+(m:Int)<(b.length:Int))=true:=by simp;omega
       have d3:((b[k+m].toNat:Int)==(b[k].toNat:Int))=false:=by simp;exact fun e=>h2 (UInt8.toNat_inj.1 (by omega))
       have hc2:wo.cell? ⟨ab,ao+(k+m),none⟩=some (bv b[k+m]):=by
        obtain⟨b2,o2,e2,hs2,hc2⟩:=HBO.out (k+m) h1;injection e2 with e2;injection e2 with e3 e4;subst e3 e4;exact hc2
       clear h2 hm2 hml;go_wp2_with fail;go_quiet (fail)
       go_wp2_with fail))
    all_goals (
     generalize hwx:wo.drewN _=wx;obtain⟨hpx,hbx⟩:PkAt wx base go gp out plain A c B d∧Below go w wx:=by rw[<-hwx];exact HPX.out _
     have HBx:=qH hbx;have hxc:=(HBT.out.stays (HGO.out▸HBx.out)) k hlt;have HXC:Hid (wx.cell? ⟨ab,ao+k,none⟩=some (bv b[k])):=qH (by
      exact x6s8)
     obtain⟨p1,p2,p3,p4,p5,p6,p7,p8,p9⟩:=hpx;have HCO:=qH p1;have HCP:=qH p2;have HOA:=qH p3;have HOW:=qH p4;have HNE:=qH p5;have HBOX:=qH p2;have HNB:=qH (And.intro (own_far p4 p6) (own_far p4 p7));have hle:=p9;clear hbx hxc p1 p2 p3 p4 p5 hwx;refine wp_region_mix (by kernel_rfl) (some 52::some 53::some 54::some 55::some 56::some 57::some 58::none::[]) (none::none::none::none::none::some 0::some 1::some 2::[]) (.slice B plain.length d::.slice (some ⟨ab,ao,none⟩) b.length cb::.int .i64 (k:Int)::.pointer (some ⟨ab,ao+k,none⟩)::bv b[k]::undef::undef::undef::[]) 3 (bxJ wx base B plain.length d (plain.map bv) [bv b[k]] 5 6 (fun w=>∃A2 c2,Box w go 23 (.slice A out.length c)∧Box w gp 23 (.slice A2 (plain.length+1) c2)∧Own w base 5 1 A out.length c (out.map bv)∧Own w base 5 1 A2 (plain.length+1) c2 (plain.map bv++[bv b[k]])∧(∀q,A.map (·.block)=some q->A2.map (·.block)≠some q)∧Below go wx w)) 70 rfl rfl (by decide+kernel) (by decide+kernel) (by decide+kernel) (by decide+kernel) rfl rfl (by decide+kernel) (by decide+kernel) (rfl) ?_ ?_
     ·refine⟨?_,?_,?_,?_,?_,?_,?_,?_,trivial⟩
      ·intro done cv k1 a wq hw h hJ hn;have e1:=mx_old (t:=4) (v:=.pointer (some ⟨gp,0,none⟩)) h rfl rfl;have hk:=hn 6 _ 1 rfl rfl (by decide);exact x09t
      ·exact x73e
      ·exact x678
      ·intro done cv k1 a wq hw h hJ hn;have e1:=mx_new (i:=1) (t:=53) h (hw 1 (by decide)) rfl rfl rfl;have e54:=mx_new (i:=2) (t:=54) h (hw 2 (by decide)) rfl rfl rfl;go_simp
      ·intro done cv k1 a wq hw h hJ hn;have e1:=mx_new (i:=3) (t:=55) h (hw 3 (by decide)) rfl rfl rfl;have hk:=hn 5 _ 0 rfl rfl (by decide);exact x87r
      ·intro done cv a wq hw h hJ;have e1:=mx_new (i:=4) (t:=56) h (hw 4 (by decide)) rfl rfl rfl;exact x859
      ·intro done cv a wq hw h hJ;have e1:=mx_new (i:=0) (t:=52) h (hw 0 (by decide)) rfl rfl rfl;have e57:=mx_cv (i:=5) (t:=57) h (hw 5 (by decide)) rfl rfl;obtain⟨rfl,y1⟩:=hJ;rw[y1]at e57;refine wp_app _ (.tmp 52) (.tmp 57) 23 rfl elBytes base B plain.length d (plain.map bv) (ch_ev e1) (HOW.out.drew.alloc _) (some ⟨wx.heap.size,0,none⟩) 1 1 [bv b[k]] (ch_ev e57) (src_blk (blk_top (by simp))) rfl (by simp[Value.oneCell']) (by omega) (by simp;omega) ?_;exact x1bo
      ·intro done cv a wq hw h hJ;have e1:=mx_old (t:=4) (v:=.pointer (some ⟨gp,0,none⟩)) h rfl rfl;have e58:=mx_cv (i:=6) (t:=58) h (hw 6 (by decide)) rfl rfl;obtain⟨A1,c1,y1,k3,k1,k2,k4⟩:=hJ;rw[y1]at e58;have b1:Box wq go _ _:=(k2 go HCO.out.lt HNB.out.1).trans HCO.out;have b2:Box wq gp _ _:=(k2 gp HCP.out.lt HNB.out.2).trans HCP.out;have o1:=HOA.out.same (w':=wq) (fun k hk=>k2 k (HOA.out.block k hk).2 (HNE.out k hk));have hne1:∀q,A.map (·.block)=some q->A1.map (·.block)≠some q:=fun q hq e=>by
        rcases k4 with h|h
        ·rw[h]at e;exact HNE.out q hq e
        have:=h q e;have:=(HOA.out.block q hq).2;omega
       exact wp_ssl e1 e58 b2.cell b2.free ⟨undef,rfl,A1,c1,b1.other (by show gp≠go;omega) _,b2.set _,o1.setCell_other (own_far o1 hlp) _,k3.setCell_other (own_far k3 hlp) _,hne1,(k1.mono (Nat.le_of_lt hlo)).setCell (p:=⟨gp,0,none⟩) (by show go<=gp;omega) _⟩
     rintro cv w1 ⟨A1,c2,q1,q2,q3,q4,q5,q6⟩;have e1:(plain++[b[k]]).length=plain.length+1:=by simp
     have hP1:PkAt w1 base go gp out (plain++[b[k]]) A c A1 c2:=
      ⟨q1,by rw[e1];exact q2,q3,by rw[e1,List.map_append];exact q4,q5,hlo,hlp,hno,Nat.le_trans hle q6.size⟩
     have HP1:=qH hP1;have HB1:Hid (Below go w w1):=qH (HBx.out.trans q6);have g1:=q2.cell;clear q1 q2 q3 q4 q5 q6 hP1 HXC HCO HCP HOA HOW HNE HBOX HNB;simp only[mixAll,putAll_some,putAll_none,putAll_nil,List.getElem?_cons_zero,List.getElem?_cons_succ,Nat.zero_add,Nat.reduceAdd,List.setIfInBounds_toArray,List.set_cons_zero,List.set_cons_succ];by_cases hf:plain.length+1=127
     ·have f1:((plain.length:Int)+1==127)=true:=by simp;omega
      have hfl:=flush_calls HP1.out hog (by rw[e1];omega) (by omega);have HFL:=qH hfl;have HF1:=qH (HF.out hf);clear hf hfl HF HG e1;go_wp2_with fail;refine HFL.out.mono ?_;rintro e w1 ⟨rfl,A1,c1,hp1,hb1⟩;have HP1:=qH hp1;have HB1:Hid (Below go w w1):=qH (HB1.out.trans hb1);clear hp1 hb1;go_wp2_with fail;go_roundw
      case rel=>exact⟨k+1,_,[],A1,none,c1,0,by go_num,by omega,by simp,HF1,HP1,HB1⟩
      case measure=>simp[intOf];omega
     have f1:((plain.length:Int)+1==127)=false:=by simp;omega
     have HG1:=qH (HG.out hf);have hl1:(plain++[b[k]]).length<127:=by omega
     clear hf HF HG e1;go_wp2_with fail;go_roundw
     case rel=>exact⟨k+1,out,plain++[b[k]],A,A1,c,c2,by go_num,by omega,hl1,HG1,HP1,HB1⟩
     case measure=>simp[intOf];omega)
  obtain rfl:k=b.length:=by omega
  have e1:b.drop b.length=[]:=List.drop_length;have hE:out++flushed plain=packed b:=by rw[<-HE.out,e1,packAt_nil]
  have hfl:=flush_calls HP.out hog (by omega) (by have:=HPL.out _ _ _ HE.out;omega);rw[hE]at hfl;have HFL:=qH hfl;clear hE hfl e1 HE;go_wp2_with fail;refine HFL.out.mono ?_;rintro e w1 ⟨rfl,A1,c1,hp1,hb1⟩;have g1:=hp1.co.cell;have HO1:Hid (Own w1 w.heap.size 5 1 A1 (packed b).length c1 ((packed b).map bv)):=qH (hp1.oo.mono (by have:=HGO.out;have:=hp1.lo;omega));have HB1:Hid (Below w.heap.size w w1):=qH (by rw[HGO.out];exact HB.out.trans hb1);clear hp1 hb1;go_wp2_with fail;go_ret;exact⟨A1,c1,rfl,HO1.out,HB1.out⟩
theorem x4kf(h:Y:=by
 have e1:=fO 8 (iv (k:Int)) h;exact mx_move (ch_ev e1)):Y:=h
theorem x6gc(h:Y:=by
 have e1:=fO 4 (.slice (some ⟨ab,ao,none⟩) b.length c1) h;exact mx_move (ch_ev e1)):Y:=h
def ctJ(w0:World)(base:Nat)(C:OA)(n c:Nat)(xs bs:List Value)(y:Nat)(mk:Option Addr×Nat->List Value):Nat->(Nat->Value)->World->Prop
 |0,_,w=>w=w0.drew
 |1,cv,w=>∃A5 c5,cv 17=.slice A5 y c5∧Own w w0.heap.size 5 1 A5 y c5 bs∧Below w0.heap.size w0 w
 |2,cv,w=>∃A5 c5,cv 18=.agg (mk (A5,c5)).toArray∧Own w w0.heap.size 5 1 A5 y c5 bs∧Below w0.heap.size w0 w
 |3,cv,w=>∃A5 c5 w1,Own w1 w0.heap.size 5 1 A5 y c5 bs∧Below w0.heap.size w0 w1∧w=w1.alloc (.cells (mk (A5,c5)).toArray 61)∧cv 19=.slice (some ⟨w1.heap.size,0,none⟩) 1 1
 |4,cv,w=>∃A5 c5 w1 A' c',Own w1 w0.heap.size 5 1 A5 y c5 bs∧Below w0.heap.size w0 w1∧cv 20=.slice A' (n+1) c'∧Own w base 61 5 A' (n+1) c' (xs++mk (A5,c5))∧Below base w1 w∧(∀k,k<w1.heap.size->C.map (·.block)≠some k->w.heap[k]?=w1.heap[k]?)∧(A'.map (·.block)=C.map (·.block)∨∀k,A'.map (·.block)=some k->w1.heap.size<=k)
 |_,cv,w=>∃A5 c5 w1 A' c',Own w1 w0.heap.size 5 1 A5 y c5 bs∧Below w0.heap.size w0 w1∧cv 21=.slice A' (n+1) c'∧Own w base 61 5 A' (n+1) c' (xs++mk (A5,c5))∧Below base w1 w∧(∀k,k<w1.heap.size->C.map (·.block)≠some k->w.heap[k]?=w1.heap[k]?)∧(A'.map (·.block)=C.map (·.block)∨∀k,A'.map (·.block)=some k->w1.heap.size<=k)
theorem ctJ_blk{y g:Nat}{C:OA}{bs:List Value}{mk:Option Addr×Nat->List Value}{o:Obj}(hJ:ctJ w0 base C n c xs bs y mk k cv w)(h:w0.heap[g]?=some o)(hg:g<base):w.heap[g]?=some o:=by
 have hl:=blk_lt h
 match k,hJ with
 |0,hJ=>obtain rfl:w=w0.drew:=hJ;exact h
 |1,⟨_,_,_,_,h2⟩=>exact blk_below h h2
 |2,⟨_,_,_,_,h2⟩=>exact blk_below h h2
 |3,⟨_,_,w1,_,h2,h3,_⟩=>subst h3;exact blk_old (blk_below h h2)
 |4,⟨_,_,w1,_,_,_,h2,_,_,h3,_⟩=>exact(h3.block g hg).trans (blk_below h h2)
 |q+5,⟨_,_,w1,_,_,_,h2,_,_,h3,_⟩=>exact(h3.block g hg).trans (blk_below h h2)
theorem ctJ_app{w1:World}{y c5:Nat}{C A5:OA}{bs:List Value}{mk:Option Addr×Nat->List Value}(h1:Own w1 w0.heap.size 5 1 A5 y c5 bs)(h2:Below w0.heap.size w0 w1)
  (hown:Own w' base 61 5 A' (n+1) c' (xs++mk (A5,c5))) (hgr:(w1.alloc (.cells (mk (A5,c5)).toArray 61)).grownBy w' (C.map (·.block))) (hbel:Below base (w1.alloc (.cells (mk (A5,c5)).toArray 61)) w')
  (hor:A'.map (·.block)=C.map (·.block)∨A'.map (·.block)=some (w1.alloc (.cells (mk (A5,c5)).toArray 61)).heap.size) (hle:base<=w1.heap.size):
  ctJ w0 base C n c xs bs y mk 4 (fun j=>if j=20 then .slice A' (n+1) c' else cv j) w':=by
 refine⟨A5,c5,w1,A',c',h1,h2,by simp,hown,((Below.refl _ _).alloc hle _).trans hbel,fun k hk hn=>(hgr.block k (by simp;omega) (fun e=>hn e.symm)).trans (Below.heap_alloc w1 _ k hk),?_⟩;rcases hor with h|h
 ·exact .inl h
 exact .inr (fun k hk=>by rw[h]at hk;injection hk with hk;simp at hk;omega)
theorem wp_sbc{a:Act}{K:Act->World->Prop}{Q:Exit->Act->World->Prop}{t:TypeId}{p:String}{af:Array Edge}{gd:Option (Nat×Bool)}{d s:Tmp}{f t1 n o:Int}(hs:a.tmps[s]?=some (.agg (chkA f t1 n o A k c)))
  (h:K (a.put (some d) (.slice (some ⟨w.heap.size,0,none⟩) 1 1)) (w.alloc (.cells (chkA f t1 n o A k c) 61))):
  Oper.wp Tryz.prog ⟨some d,.buildSlice 33 1 #[(0,.tmp s)],t,p,af,gd⟩ a w K Q:=by
 have e1:a.eval (.tmp s)=.agg (chkA f t1 n o A k c):=by simp[Act.eval,hs]
 unfold Oper.wp execOp;simp only[e1,List.map_toArray,List.map_cons,List.map_nil];go_simp
 trace_state
 exact h
theorem chkCut_bad(B:OA)(d:Nat)(p:Pat)(w:World)(hp:PatIn w p B d)(h:patCheck p≠0):
  Calls Tryz.prog 101 #[.agg (patA p.from_ p.to_ p.old p.new_ p.size B p.ops.length d)] w (ChkRet2 w [] (patCheck p)):=by
 have K1:=qH (fun w hp=>patPut_bad B d p w hp h);have HP:=qH hp;obtain⟨ck,hck⟩:=eX (patCheck p);rw[hck]at h K1;rw[hck];have q:(ck !=0)=true:=by simp[h]
 clear hp h hck;go_enter Tryz.func101,Tryz.ntmps101;exact x531
theorem chkCut_fine(B:OA)(d:Nat)(p:Pat)(w:World)(hp:PatIn w p B d)(h:patCheck p=0):
  Calls Tryz.prog 101 #[.agg (patA p.from_ p.to_ p.old p.new_ p.size B p.ops.length d)] w (ChkRet2 w (chunksOf p (packed (patBytes p))) 0):=by
 have K1:=qH (fun w hp=>patPut_ok B d p w hp h);have HP:=qH hp;have hl1:=patBytes_len h;obtain⟨hl2,hl3⟩:=packed_patch_len h;obtain⟨pb,hpb⟩:=eX (patBytes p);rw[hpb]at K1 hl1 hl2 hl3⊢;have K2:=qH (fun A c w hc hb=>pack_calls A c pb w hc (by omega) hb);obtain⟨b,hb⟩:=eX (packed pb);rw[hb]at K2 hl2 hl3⊢;obtain⟨m,hm⟩:=eX ((b.length+15) / 16);have HCO:Hid (∀k,k<m->(chunksOf p b)[k]?=some (chunkAt p b m k)):=qH (fun k hk=>by unfold chunksOf;rw[hm];simp[hk]);have HCL1:Hid ((chunksOf p b).length=m):=qH (by unfold chunksOf;rw[hm];simp);have hq:((b.length:Int)+15).tdiv 16=(m:Int):=by rw[Int.tdiv_eq_ediv_of_nonneg (by omega)];omega
 have hm1:m<=10:=by omega
 have HM:=qH hm;clear hp h hpb hb hm;generalize chunksOf p b=cs at *
 have HCA:Hid (∀k,chunkAt p b m k=⟨p.from_,p.to_,k,m,(b.drop (k*16)).take 16⟩):=qH (fun k=>rfl);generalize chunkAt p b m=ca at *
 obtain⟨f,t,o,n,sz,l⟩:=p;dsimp only at *
 have j1:IntKind.i64.wrap ((b.length:Int)+16)=(b.length:Int)+16:=IntWalk.i64_in _ (by omega);have j1:IntKind.i64.wrap ((b.length:Int)+15)=(b.length:Int)+15:=IntWalk.i64_in _ (by omega);have j1:(b.length:Int)+16-1=(b.length:Int)+15:=by omega
 have j1:IntKind.i64.wrap (m:Int)=(m:Int):=IntWalk.i64_in _ (by omega);have j1:decide ((52:Int)<(m:Int))=false:=decide_eq_false (by omega);have j1:¬52<m:=by omega
 go_enter Tryz.func101,Tryz.ntmps101;go_wp2_with fail;have hba:=(bW w).alloc nl (.cells (patA f t o n sz B l.length d) 36);refine(K1.out _ (HP.out.stays hba)).mono ?_;rintro e w1 ⟨A1,c1,rfl,ho1,hb1⟩;have hb1':=hba.trans (hb1.mono (by simp));have a1:=kp (w.heap.size) (patA f t o n sz B l.length d) hb1;have HBT:=qH ho1.src.bts;have hc1:=ho1.le;dsimp only at hc1;have HB1:=qH hb1';clear ho1 hb1 hb1';go_wp2_with fail;refine(K2.out _ _ _ hc1 HBT.out).mono ?_;rintro e w2 ⟨A1,c1,rfl,ho1,hb1⟩;obtain⟨tT,hgp⟩:=row_blk (w:=w2) (g:=w.heap.size) (by rw[rowOf_below a1.2.2.2.2.2 hb1,a1.1];simp[patA]);have hpb1:w2.heap[w.heap.size]?=some (.cells (patA f t o n sz B l.length d) tT (0,0)):=by rw[rowOf_below a1.2.2.2.2.2 hb1,a1.1,frOf_below a1.2.2.2.2.2 hb1,a1.2.1]at hgp;exact hgp
 have HPB1:=qH hpb1;have HBB1:=qH ho1.src.bts;have hc1:=ho1.le;have HB1:=bT HB1 hb1;have hg0l:=blk_lt hpb1;have hlb:0<b.length:=by omega
 obtain⟨ab,ao,rfl,hab,_⟩:=HBB1.out 0 hlb;clear ho1 hb1 hgp hpb1 a1 HP K1 K2;go_wp2_with fail;generalize hg0:w.heap.size=g0 at *
 have HGE:=qH hg0;generalize hbase:w2.heap.size=base at *
 have HBE:=qH hbase;clear hg0 hbase;go_loopw [7,27] (fun v i wr=>∃(k:Nat) (acc:List Chk) (ds:List (Option Addr×Nat)) (C:OA) (cc:Nat),k<=m∧i=iv k∧v=.slice C acc.length cc∧acc.length=k∧Hid (acc=cs.take k)∧Hid (GRow kChk wr base acc ds C cc)∧Hid (Each kChk acc ds (fun q=>base<=q))∧Hid (Below base w2 wr)) (fun _ i _=>m-(intOf i).toNat)
 case atStart=>exact⟨0,[],[],none,0,Nat.zero_le _,rfl,rfl,rfl,qH (by simp),qH (GRow.nil _ _),qH Each.nil,qH (Below.refl _ _)⟩
 case round=>
  rename World=>wo;obtain⟨k,acc,ds,C,cc,hk,rfl,rfl,hal,HAC,HR,HE,HB⟩:=hrel;have hbo:base<=wo.heap.size:=Nat.le_trans (Nat.le_of_eq HBE.out.symm) HB.out.size;have hbw:Below w2.heap.size w2 wo:=HBE.out▸HB.out;by_cases hlt:k<m
  ·have dl:decide ((k:Int)<(m:Int))=true:=decide_eq_true (by omega);have hwk:IntKind.i64.wrap ((k:Int)+1)=(k:Int)+1:=IntWalk.i64_in _ (by omega);obtain⟨x,hx⟩:=eX (ca k);have hxe:=HCA.out k;rw[hx]at hxe;obtain⟨y,hy⟩:=eX (x.data.length);have hyk:k*16+y<=b.length∧y<=16∧(y=16∨k*16+y=b.length):=by rw[<-hy,hxe];have:=HM.out;simp;omega
   obtain⟨hy1,hy2,hy3⟩:=hyk;obtain⟨o1,c2,hc2,hB1,hsl1⟩:=mid_slice (z1:=(k:Int)*16) (z2:=(k:Int)*16+(y:Int)) (k*16) y (by simp) (by simp) hc1 hy1 (HBB1.out.stays hbw);have hdt:(b.drop (k*16)).take y=x.data:=by
    rw[<-hy,hxe];dsimp only;rw[List.length_take,List.take_eq_take_iff];omega
   rw[hdt]at hB1;have HNXT:Hid (acc++[x]=cs.take (k+1)):=qH (by
    have h1:=HCO.out k hlt;rw[hx]at h1;obtain⟨h1,h3⟩:=List.getElem?_eq_some_iff.1 h1;rw[List.take_succ_eq_append_getElem h1,h3,HAC.out])
   have HCL:Hid (∀wq,Below wo.heap.size wo wq->Calls Tryz.prog 52 #[.slice (some ⟨ab,o1,none⟩) y c2] wq (SlRet wq 5 1 y (x.data.map bv))):=qH (fun wq h=>cloneBytes_calls _ _ _ _ wq (by simp[hy]) (by omega) (hB1.stays h).src (bv_one _));have HXE:Hid (∀e:Option Addr×Nat,(kChk.cell x e).toArray=chkA f t (k:Int) (m:Int) e.1 y e.2):=qH (fun e=>by rw[<-hy];rw[show kChk.cell x e=chkC x e.1 e.2 from rfl,hxe];simp[chkA]);have HW1:Hid (IntKind.i64.wrap ((k:Int)*16)=(k:Int)*16):=qH (IntWalk.i64_in _ (by omega));have HW2:Hid (IntKind.i64.wrap ((k:Int)+1)=(k:Int)+1):=qH hwk;have HW3:Hid (IntKind.i64.wrap (((k:Int)+1)*16)=((k:Int)+1)*16):=qH (IntWalk.i64_in _ (by omega));have HMIN:Hid ((if ((k:Int)+1)*16<(b.length:Int)then ((k:Int)+1)*16 else (b.length:Int))=(k:Int)*16+(y:Int)):=qH (by split<;>omega);have HSL:=qH hsl1;have HPB:Hid (wo.heap[g0]?=some (.cells (patA f t o n sz B l.length d) tT (0,0))):=qH ((HB.out.block g0 (by omega)).trans HPB1.out);have hg0b:g0<base:=by omega
   have HY:=qH hy;have HAL:=qH hal;have hk1:k<=10:=by omega
   have hacl:acc.length<=10:=by omega
   clear hx hxe hy3 hB1 hsl1 hdt hbw hal hwk hy;go_wp2_with fail;refine wF (some 30::some 31::some 32::some 33::some 34::some 35::some 36::some 37::some 38::some 39::some 40::some 41::some 42::some 43::some 44::some 45::some 46::some 47::some 48::some 49::some 50::some 7::[]) (false::false::false::false::false::false::false::false::false::false::false::false::false::false::false::false::false::true::true::true::true::true::[]) (.slice C acc.length cc::.pointer (some ⟨g0,0,none⟩)::iv f::.pointer (some ⟨g0,1,none⟩)::iv t::iv (k:Int)::iv (m:Int)::.slice (some ⟨ab,ao,none⟩) b.length c1::iv (k:Int)::iv ((k:Int)*16)::.slice (some ⟨ab,ao,none⟩) b.length c1::iv (b.length:Int)::iv (k:Int)::iv ((k:Int)+1)::iv (((k:Int)+1)*16)::iv ((k:Int)*16+(y:Int))::.slice (some ⟨ab,o1,none⟩) y c2::undef::undef::undef::undef::undef::[]) (fun done cv w=>ctJ wo base C acc.length cc (kChk.cells acc ds) (x.data.map bv) y (fun e=>kChk.cell x e) (lvlN [21,20,19,18,17] done) cv w) 53 (rfl) ?_ ?_
   ·refine⟨?_,?_,?_,?_,?_,?_,?_,?_,?_,?_,?_,?_,?_,?_,?_,?_,?_,?_,?_,?_,?_,?_,trivial⟩;all_goals intro done cv a wq hn hw hcl h hJ
    ·have e1:=fr_un (t:=7) (i:=0) (i0:=21) (v:=.slice C acc.length cc) h hcl hn rfl (by decide) (by decide) rfl;exact mx_move (ch_ev e1)
    ·have e1:=fO 1 (.pointer (some ⟨g0,0,none⟩)) h;go_simp
    ·have e1:=fN 1 31 h hw;have hc:=ctJ_blk hJ HPB.out hg0b;have hc1:wq.cell? ⟨g0,0,none⟩=some (iv f):=by rw[cell_of_row _ _ _ _ _ _ hc];rfl
     go_simp
    ·have e1:=fO 1 (.pointer (some ⟨g0,0,none⟩)) h;go_simp
    ·have e1:=fN 3 33 h hw;have hc:=ctJ_blk hJ HPB.out hg0b;have hc1:wq.cell? ⟨g0,1,none⟩=some (iv t):=by rw[cell_of_row _ _ _ _ _ _ hc];rfl
     go_simp
    ·exact x4kf
    ·have e1:=fO 6 (iv (m:Int)) h;exact mx_move (ch_ev e1)
    ·exact x6gc
    ·exact x4kf
    ·have e1:=fN 8 38 h hw;have h1:=HW1.out;go_simp
    ·exact x6gc
    ·have e1:=fN 10 40 h hw;go_simp
    ·exact x4kf
    ·have e1:=fN 12 42 h hw;have h1:=HW2.out;go_simp
    ·have e1:=fN 13 43 h hw;have h1:=HW3.out;go_simp
    ·have e1:=fN 11 41 h hw;have e44:=fN 14 44 h hw;have h1:=HMIN.out
     first|(go_simp;done)|(go_simp;split at h1<;>omega)
    ·have e1:=fN 7 37 h hw;have e39:=fN 9 39 h hw;have e45:=fN 15 45 h hw;have h1:=HSL.out;go_simp
    ·have e1:=fN 16 46 h hw;have n1:=hn;have n2:=nW 18 17 hcl n1;have n3:=nW 19 18 hcl n2;have n4:=nW 20 19 hcl n3;have n5:=nW 21 20 hcl n4;have hl:lvlN [21,20,19,18,17] (maskB [false,false,false,false,false,false,false,false,false,false,false,false,false,false,false,false,false,true,true,true,true,true] done)=0:=by simp[lvlN,maskB,n1,n2,n3,n4,n5]
     have hl1:lvlN [21,20,19,18,17] (fun j=>if j=17 then true else maskB [false,false,false,false,false,false,false,false,false,false,false,false,false,false,false,false,false,true,true,true,true,true] done j)=1:=by simp[lvlN,maskB,n1,n2,n3,n4,n5]
     rw[hl]at hJ;have hK:∀(v:Value) (w':World),ctJ wo base C acc.length cc (kChk.cells acc ds) (x.data.map bv) y (fun e=>kChk.cell x e) 1 (fun j=>if j=17 then v else cv j) w'->ctJ wo base C acc.length cc (kChk.cells acc ds) (x.data.map bv) y (fun e=>kChk.cell x e) (lvlN [21,20,19,18,17] (fun j=>if j=17 then true else maskB [false,false,false,false,false,false,false,false,false,false,false,false,false,false,false,false,false,true,true,true,true,true] done j)) (fun j=>if j=17 then v else cv j) w':=fun v w' h=>by rw[hl1];exact h
     obtain rfl:wq=wo.drew:=hJ;refine wp_call (vals:=#[.slice (some ⟨ab,o1,none⟩) y c2]) (by rw[List.map_toArray,List.map_cons,List.map_nil,ch_ev e1]) (enters_of Tryz.func52 (by kernel_rfl) rfl _ _) (HCL.out _ ((Below.refl _ _).drew)) ?_;rintro e w' ⟨A1,c1,rfl,hown,hbel⟩;exact⟨_,rfl,_,rfl,hK _ _ ⟨A1,c1,by simp,hown,(Below.refl _ _).drew.trans hbel⟩⟩
    ·have e1:=fN 2 32 h hw;have e34:=fN 4 34 h hw;have e35:=fN 5 35 h hw;have e36:=fN 6 36 h hw;have e47:=fr_cv (i:=17) (t:=47) h (hw 17 (by decide)) rfl rfl;have n1:=hn;have n2:=nW 19 18 hcl n1;have n3:=nW 20 19 hcl n2;have n4:=nW 21 20 hcl n3;have m1:=hw 17 (by decide);have hl:lvlN [21,20,19,18,17] (maskB [false,false,false,false,false,false,false,false,false,false,false,false,false,false,false,false,false,true,true,true,true,true] done)=1:=by simp[lvlN,maskB,n1,n2,n3,n4,m1]
     have hl1:lvlN [21,20,19,18,17] (fun j=>if j=18 then true else maskB [false,false,false,false,false,false,false,false,false,false,false,false,false,false,false,false,false,true,true,true,true,true] done j)=2:=by simp[lvlN,maskB,n1,n2,n3,n4,m1]
     rw[hl]at hJ;have hK:∀(v:Value) (w':World),ctJ wo base C acc.length cc (kChk.cells acc ds) (x.data.map bv) y (fun e=>kChk.cell x e) 2 (fun j=>if j=18 then v else cv j) w'->ctJ wo base C acc.length cc (kChk.cells acc ds) (x.data.map bv) y (fun e=>kChk.cell x e) (lvlN [21,20,19,18,17] (fun j=>if j=18 then true else maskB [false,false,false,false,false,false,false,false,false,false,false,false,false,false,false,false,false,true,true,true,true,true] done j)) (fun j=>if j=18 then v else cv j) w':=fun v w' h=>by rw[hl1];exact h
     obtain⟨A1,c1,y1,hown,hbel⟩:=hJ;rw[y1]at e47;refine wp_val (v:=.agg (chkA f t (k:Int) (m:Int) A1 y c1)) (by go_simp) ⟨_,rfl,hK _ _ ⟨A1,c1,?_,hown,hbel⟩⟩;rw[HXE.out];simp
    ·have e1:=fr_cv (i:=18) (t:=48) h (hw 18 (by decide)) rfl rfl;have n1:=hn;have n2:=nW 20 19 hcl n1;have n3:=nW 21 20 hcl n2;have m1:=hw 18 (by decide);have hl:lvlN [21,20,19,18,17] (maskB [false,false,false,false,false,false,false,false,false,false,false,false,false,false,false,false,false,true,true,true,true,true] done)=2:=by simp[lvlN,maskB,n1,n2,n3,m1]
     have hl1:lvlN [21,20,19,18,17] (fun j=>if j=19 then true else maskB [false,false,false,false,false,false,false,false,false,false,false,false,false,false,false,false,false,true,true,true,true,true] done j)=3:=by simp[lvlN,maskB,n1,n2,n3,m1]
     rw[hl]at hJ;have hK:∀(v:Value) (w':World),ctJ wo base C acc.length cc (kChk.cells acc ds) (x.data.map bv) y (fun e=>kChk.cell x e) 3 (fun j=>if j=19 then v else cv j) w'->ctJ wo base C acc.length cc (kChk.cells acc ds) (x.data.map bv) y (fun e=>kChk.cell x e) (lvlN [21,20,19,18,17] (fun j=>if j=19 then true else maskB [false,false,false,false,false,false,false,false,false,false,false,false,false,false,false,false,false,true,true,true,true,true] done j)) (fun j=>if j=19 then v else cv j) w':=fun v w' h=>by rw[hl1];exact h
     obtain⟨A1,c1,y1,hown,hbel⟩:=hJ;rw[y1]at e1;rw[HXE.out]at e1;refine wp_sbc e1 ⟨_,rfl,hK _ _ ⟨A1,c1,wq,hown,hbel,by rw[HXE.out],by simp⟩⟩
    ·have e1:=fN 0 30 h hw;have e49:=fr_cv (i:=19) (t:=49) h (hw 19 (by decide)) rfl rfl;have n1:=hn;have n2:=nW 21 20 hcl n1;have m1:=hw 19 (by decide);have hl:lvlN [21,20,19,18,17] (maskB [false,false,false,false,false,false,false,false,false,false,false,false,false,false,false,false,false,true,true,true,true,true] done)=3:=by simp[lvlN,maskB,n1,n2,m1]
     have hl1:lvlN [21,20,19,18,17] (fun j=>if j=20 then true else maskB [false,false,false,false,false,false,false,false,false,false,false,false,false,false,false,false,false,true,true,true,true,true] done j)=4:=by simp[lvlN,maskB,n1,n2,m1]
     rw[hl]at hJ;have hK:∀(v:Value) (w':World),ctJ wo base C acc.length cc (kChk.cells acc ds) (x.data.map bv) y (fun e=>kChk.cell x e) 4 (fun j=>if j=20 then v else cv j) w'->ctJ wo base C acc.length cc (kChk.cells acc ds) (x.data.map bv) y (fun e=>kChk.cell x e) (lvlN [21,20,19,18,17] (fun j=>if j=20 then true else maskB [false,false,false,false,false,false,false,false,false,false,false,false,false,false,false,false,false,true,true,true,true,true] done j)) (fun j=>if j=20 then v else cv j) w':=fun v w' h=>by rw[hl1];exact h
     obtain⟨A1,c1,w1,hown,hbel,rfl,y1⟩:=hJ;rw[y1]at e49;refine wp_app _ (.tmp 30) (.tmp 49) 33 rfl elChunks base C acc.length cc (kChk.cells acc ds) (ch_ev e1) ((HR.out.row.below hbel).alloc _) (some ⟨w1.heap.size,0,none⟩) 1 1 (kChk.cell x (A1,c1)) (ch_ev e49) (src_blk (blk_top rfl)) (by simp[kChk]) (kChk.one _ _) (by omega) (by have:=hbel.size;simp;omega) ?_;intro A' c' w' hown1 hgr hbel1 hor;exact⟨_,rfl,hK _ _ (ctJ_app hown hbel hown1 hgr hbel1 hor (Nat.le_trans hbo hbel.size))⟩
    ·have e1:=fr_cv (i:=20) (t:=50) h (hw 20 (by decide)) rfl rfl;have n1:=hn;have m1:=hw 20 (by decide);have hl:lvlN [21,20,19,18,17] (maskB [false,false,false,false,false,false,false,false,false,false,false,false,false,false,false,false,false,true,true,true,true,true] done)=4:=by simp[lvlN,maskB,n1,m1]
     have hl1:lvlN [21,20,19,18,17] (fun j=>if j=21 then true else maskB [false,false,false,false,false,false,false,false,false,false,false,false,false,false,false,false,false,true,true,true,true,true] done j)=5:=by simp[lvlN,maskB,n1,m1]
     rw[hl]at hJ;have hK:∀(v:Value) (w':World),ctJ wo base C acc.length cc (kChk.cells acc ds) (x.data.map bv) y (fun e=>kChk.cell x e) 5 (fun j=>if j=21 then v else cv j) w'->ctJ wo base C acc.length cc (kChk.cells acc ds) (x.data.map bv) y (fun e=>kChk.cell x e) (lvlN [21,20,19,18,17] (fun j=>if j=21 then true else maskB [false,false,false,false,false,false,false,false,false,false,false,false,false,false,false,false,false,true,true,true,true,true] done j)) (fun j=>if j=21 then v else cv j) w':=fun v w' h=>by rw[hl1];exact h
     obtain⟨A1,c1,w1,A',c',hown,hbel,y1,r1,r2,r3,r4⟩:=hJ;rw[y1]at e1;exact wp_asg (ch_ev e1) ⟨_,rfl,hK _ _ ⟨A1,c1,w1,A',c',hown,hbel,by simp,r1,r2,r3,r4⟩⟩
   intro dn cv w1 hall hJ;rw[show lvlN [21,20,19,18,17] dn=5 by simp[lvlN,hall 21 rfl (by decide)]]at hJ;obtain⟨A1,c5,w1',A',c',hown,hbel,y1,r1,r2,r3,r4⟩:=hJ;simp only[freeAll,pA,fA,Bool.false_eq_true,if_true,if_false,reduceIte,Nat.reduceAdd];rw[y1];have hr1:GRow kChk w1' base acc ds C cc:=HR.out.below hbel;have hdb:x.data.length<=c5:=by rw[HY.out];exact hown.le
   have hblk:∀q,A1.map (·.block)=some q->wo.heap.size<=q:=fun q e=>(hown.block q e).1;have hr2:=hr1.push (o:=x) (d:=(A1,c5)) r1 r2 r3 r4 hown.src.bts hdb (fun _ q e e2=>by have h5:=hblk q e;have h6:=(HR.out.row.block q e2).2;omega);have HR1:=qH hr2;have HE1:Hid (Each kChk (acc++[x]) (ds++[(A1,c5)]) (fun q=>base<=q)):=qH (HE.out.push HR.out.len (fun _ q e=>by have h5:=hblk q e;omega));have HB1:Hid (Below base w2 w1):=qH ((HB.out.trans (hbel.mono hbo)).trans r2);have hwk:IntKind.i64.wrap ((k:Int)+1)=(k:Int)+1:=HW2.out;clear hown hbel y1 r1 r2 r3 r4 hr1 hdb hblk hr2;go_wp2_with fail;go_roundw
   case rel=>exact⟨k+1,acc++[x],ds++[(A1,c5)],A',c',by omega,by go_num,by simp,by rw[List.length_append,HAL.out];rfl,HNXT,HR1,HE1,HB1⟩
   case measure=>simp[intOf];omega
  obtain rfl:k=m:=by omega
  have dl:decide ((k:Int)<(k:Int))=false:=by simp
  have hz:acc=cs:=by rw[HAC.out,List.take_of_length_le (by rw[HCL1.out];exact nl)]
  have HZ:=qH hz;clear hz hal;go_wp2_with fail;go_ret2;rw[<-HZ.out];exact⟨C,cc,ds,rfl,HR.out.mono (by rw[HGE.out];omega),HE.out.imp (fun q hq=>by rw[HGE.out];omega),by rw[HGE.out];exact HB1.out.trans (HB.out.mono (by omega))⟩
theorem chkCut_calls(B:OA)(d:Nat)(p:Pat)(w:World)(hp:PatIn w p B d):
  Calls Tryz.prog 101 #[.agg (patA p.from_ p.to_ p.old p.new_ p.size B p.ops.length d)] w (ChkRet2 w (chkCut p).1 (chkCut p).2):=by
 unfold chkCut;by_cases h:patCheck p=0
 ·obtain⟨h1,h2⟩:=packed_patch_len h;rw[if_neg (by simpa using h),if_neg (by omega)];exact chkCut_fine B d p w hp h
 rw[if_pos h];exact chkCut_bad B d p w hp h
