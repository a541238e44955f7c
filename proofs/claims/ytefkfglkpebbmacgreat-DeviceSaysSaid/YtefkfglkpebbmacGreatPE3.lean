/- Walks of functions, and plain words. No conditions. -/
import Derived.Test.YtefkfglkpebbmacGreatPE2
import Derived.RangeFuncNested
import Derived.RangeFuncBound
import Derived.RangeFuncCalls
import Derived.RangeFuncLeaves
import Derived.RangeFuncBox
import Derived.Shelf.Abstract
import Derived.Shelf.RegionOpen
import Derived.OwnWalkIn
import Derived.TacticsInMore
import Derived.LoopNIn
import Derived.LoopIn
set_option linter.unusedVariables false
set_option linter.unusedSimpArgs false
set_option maxRecDepth 100000
set_option maxHeartbeats 40000000
namespace Go.Proofs.YtefkfglkpebbmacGreat
open Go.RowKit
variable {Y:Prop}
variable {plain old b:LU} {out:List Stp} {w:World} {base go gp c d q k:Nat} {ds:List (Option Addr×Nat)} {A B:OA} {x y:Stp}
theorem x4py(h:Y:=by
 go_enter Tryz.func67,Tryz.ntmps67;go_wp2_with fail;go_ret2;exact⟨rfl,Below.refl _ _⟩):Y:=h
def pend(plain:LU):List Stp:=if plain=[] then [] else [⟨0,0,plain⟩]
theorem pend_nil:pend []=[]:=rfl
theorem pend_one(h:plain≠[]):pend plain=[⟨0,0,plain⟩]:=by unfold pend;rw[if_neg h]
def lastLong(out:List Stp):Prop:=∀m o,out=m++[o]->0<o.len
theorem addByte_pend(x:UInt8)(h:lastLong out):addByte (out++pend plain) x=out++pend (plain++[x]):=by
 rw[pend_one (plain:=plain++[x]) (by simp)];by_cases e:plain=[]
 ·subst e;rw[pend_nil,List.append_nil];by_cases h1:out=[]
  ·subst h1;rfl
  obtain⟨m,o,rfl⟩:=snoc_of out h1;rw[addByte_snoc,if_pos (h m o rfl)];simp
 rw[pend_one e,addByte_snoc,if_neg (by simp)]
structure DfAt(w:World)(base go gp:Nat)(out:List Stp)(ds:List (Option Addr×Nat))(plain:LU)(A:OA)(c:Nat)(B:OA)(d:Nat):Prop where
 co:Box w go 33 (.slice A out.length c)
 cp:Box w gp 22 (.slice B plain.length d)
 oo:CRow w base out ds A c
 op:Own w base 5 1 B plain.length d (plain.map bv)
 ne:∀k,A.map (·.block)=some k->B.map (·.block)≠some k
 nd:∀(i:Nat) (e:Option Addr×Nat),ds[i]?=some e->∀k,e.1.map (·.block)=some k->base<=k∧B.map (·.block)≠some k
 lo:go<base
 lp:gp<base
 no:go<gp
 le:base<=w.heap.size
theorem DfAt.drewN(h:DfAt w base go gp out ds plain A c B d)(n:Nat):DfAt (w.drewN n) base go gp out ds plain A c B d:=
 ⟨h.co.drewN n,h.cp.drewN n,h.oo.drewN n,h.op.drewN n,h.ne,h.nd,h.lo,h.lp,h.no,h.le⟩
theorem DfAt.push{w2:World}{plain':LU}{A':OA}{c':Nat}{B':OA}{d':Nat}{o:Stp}{e:Option Addr×Nat}{ob:Obj}
  (h:DfAt w base go gp out ds plain A c B d) (hown:Own w2 base 121 3 A' (out.length+1) c' (opCells out ds++opCell o e)) (hgr:(w.alloc ob).grownBy w2 (A.map (·.block))) (hbel:Below base (w.alloc ob) w2)
  (hor:A'.map (·.block)=A.map (·.block)∨A'.map (·.block)=some (w.alloc ob).heap.size) (hd:Bts w e.1 o.data) (hd2:o.data.length<=e.2) (he:∀k,e.1.map (·.block)=some k->base<=k∧k<w.heap.size∧A.map (·.block)≠some k∧(B'.map (·.block)≠some k))
  (hpl:(plain'=plain∧B'=B∧d'=d)∨(plain'=[]∧B'=none∧d'=0)):
  ∃ds',CRow w2 base (out++[o]) ds' A' c'∧Own w2 base 5 1 B' plain'.length d' (plain'.map bv)∧(∀k,A'.map (·.block)=some k->B'.map (·.block)≠some k)∧(∀(i:Nat) (x:Option Addr×Nat),ds'[i]?=some x->∀k,x.1.map (·.block)=some k->base<=k∧B'.map (·.block)≠some k)∧base<=w2.heap.size∧
   Box w2 go 33 (.slice A out.length c)∧Box w2 gp 22 (.slice B plain.length d)∧Below base w w2:=by
 have hba:Below w.heap.size w (w.alloc ob):=(Below.refl _ _).alloc (Nat.le_refl _) _;have hrow:=(h.oo.below hba).push hown hgr hor (hd.stays hba) hd2 (fun k hk=>⟨(he k hk).2.2.1,by simp;have:=(he k hk).2.1;omega⟩);have hbw:Below base w w2:=(hba.mono h.le).trans hbel;refine⟨_,hrow,?_,?_,?_,Nat.le_trans h.le hbw.size,(h.co.alloc ob).keep hbel h.lo,(h.cp.alloc ob).keep hbel h.lp,hbw⟩
 ·rcases hpl with ⟨rfl,rfl,rfl⟩|⟨rfl,rfl,rfl⟩
  ·refine(h.op.alloc ob).kept hgr ?_
   cases hk:B'.map (·.block)with
   |none=>exact .inl rfl
   |some k=>exact .inr fun e2=>h.ne k e2.symm hk
  ·exact Own.nil_ _ _ _ _
 ·intro k hk;rcases hpl with ⟨rfl,rfl,rfl⟩|⟨rfl,rfl,rfl⟩
  ·rcases hor with hor|hor
   ·rw[hor]at hk;exact h.ne k hk
   ·rw[hor]at hk;injection hk with hk;intro e1;have:=(h.op.block k e1).2;simp at hk;omega
  simp
 intro i x hx k hk;rcases snoc_at hx with hx|⟨rfl,rfl⟩
 ·rcases hpl with ⟨rfl,rfl,rfl⟩|⟨rfl,rfl,rfl⟩
  ·exact h.nd i x hx k hk
  ·exact⟨(h.nd i x hx k hk).1,by simp⟩
 exact⟨(he k hk).1,(he k hk).2.2.2⟩
def DflRet(w:World)(base go gp:Nat)(l:List Stp):Ending->World->Prop:=fun e w'=>e=.returned (.tuple #[])∧∃ds' A' c',DfAt w' base go gp l ds' [] A' c' none 0∧Below go w w'
theorem dflush_calls(h:DfAt w base go gp out ds plain A c B d)(hl:plain.length<=64)(ho:out.length<=1000):
  Calls Tryz.prog 95 #[.pointer (some ⟨gp,0,none⟩),.pointer (some ⟨go,0,none⟩)] w (DflRet w base go gp (out++pend plain)):=by
 have H:=qH h;have c1:=h.co.cell;have c2:=h.cp.cell;have f1:=h.co.free;have f2:=h.cp.free;have hgo:go<w.heap.size:=h.co.lt;have hgp:gp<w.heap.size:=h.cp.lt;have h1:=h.lo;have h2:=h.lp;have h3:=h.no;clear h;by_cases hp:plain=[]
 ·subst hp;rw[pend_nil,List.append_nil];simp only[List.length_nil,Int.ofNat_eq_natCast,Int.natCast_zero]at *
  go_enter Tryz.func95,Tryz.ntmps95;go_wp2_with fail;refine bodyPost_end (results_none rfl _ _ _) rfl ⟨rfl,ds,A,c,⟨H.out.co.other (by show gp≠go;omega) _,H.out.cp.set _,H.out.oo.setOther (j:=0) ?_ ?_ _,Own.nil_ _ _ _ _,fun k hk e=>(by cases e),fun i e he k hk=>⟨(H.out.nd i e he k hk).1,by simp⟩,h1,h2,h3,by simpa using H.out.le⟩,(Below.refl _ _).setCell (p:=⟨gp,0,none⟩) (by show go<=gp;omega) _⟩
  ·exact own_far H.out.oo.row h2
  exact fun i e he e2=>by have:=(H.out.nd i e he gp e2).1;omega
 rw[pend_one hp];have hp1:1<=plain.length:=List.length_pos_iff.2 hp;have hp2:(0:Int)<(plain.length:Int):=by omega
 clear hp;have hoa:=H.out.oo.row.alloc (.cells #[.int .i64 0,.int .i64 0,.slice B plain.length d] 121);have hs1:Src (w.alloc (.cells #[.int .i64 0,.int .i64 0,.slice B plain.length d] 121)) (some ⟨w.heap.size,0,none⟩) [.int .i64 0,.int .i64 0,.slice B plain.length d]:=src_blk (blk_top rfl);have hob:out.length+1<=137438953472:=by omega
 have hle:base<=(w.alloc (.cells #[.int .i64 0,.int .i64 0,.slice B plain.length d] 121)).heap.size:=by have:=H.out.le;simp;omega
 go_enter Tryz.func95,Tryz.ntmps95;go_wp2_with (at_builtin;go_must (refine wpList_app (w.alloc (.cells #[.int .i64 0,.int .i64 0,.slice B plain.length d] 121)) rfl _ _ 33 rfl elOps base A out.length c (opCells out ds) rfl hoa (some ⟨w.heap.size,0,none⟩) 1 1 [.int .i64 0,.int .i64 0,.slice B plain.length d] rfl hs1 rfl (by simp[Value.oneCell']) hob hle ?_;intro A' c' w2 hown hgr hbel hor);(obtain⟨ds',r1,r2,r3,r4,r5,r6,r7,r8⟩:=H.out.push (o:=⟨0,0,plain⟩) (e:=(B,d)) (plain':=[]) (B':=none) (d':=0) hown hgr hbel hor H.out.op.src.bts H.out.op.le (fun k hk=>⟨(H.out.op.block k hk).1,(H.out.op.block k hk).2,fun e=>H.out.ne k e hk,by simp⟩) (.inr ⟨rfl,rfl,rfl⟩));(have R1:=qH r1);(have R4:=qH r4);(have R5:=qH r5);(have R6:=qH r6);(have R7:=qH r7);(have R8:=qH r8);(have q1:=r6.cell);(have q2:=r6.free);(have q3:=r7.cell);(have q4:=r7.free);(have q5:=r6.lt);(have q6:=r7.lt);(have q7:¬gp=go:=by omega);(clear hown hgr hbel hor r1 r2 r3 r4 r5 r6 r7 r8 hoa hs1 hob hle c1 c2 f1 f2));have s1:CRow (w2.setCell ⟨go,0,none⟩ (.slice A' (out.length+1) c')) base (out++[⟨0,0,plain⟩]) ds' A' c':=R1.out.setOther (j:=0) (own_far R1.out.row h1) (fun i e he e2=>by have:=(R4.out i e he go e2).1;omega) _;have s2:=s1.setOther (j:=0) (own_far s1.row h2) (fun i e he e2=>by have:=(R4.out i e he gp e2).1;omega) (.slice none 0 0);have e1:(out++[(⟨0,0,plain⟩:Stp)]).length=out.length+1:=by simp
 exact bodyPost_end (results_none rfl _ _ _) rfl ⟨rfl,ds',A',c',⟨by rw[e1];exact(R6.out.set _).other (by show gp≠go;omega) _,(R7.out.other (by show go≠gp;omega) _).set _,s2,Own.nil_ _ _ _ _,fun k hk e=>(by cases e),fun i e he k hk=>⟨(R4.out i e he k hk).1,by simp⟩,h1,h2,h3,by simpa using R5.out⟩,((R8.out.mono (Nat.le_of_lt h1)).setCell (p:=⟨go,0,none⟩) (Nat.le_refl _) _).setCell (p:=⟨gp,0,none⟩) (by show go<=gp;omega) _⟩
theorem lastLong_nil:lastLong []:=fun m o e=>by simp at e
theorem lastLong_snoc(l:List Stp){o:Stp}(h:0<o.len):lastLong (l++[o]):=fun m p e=>by
 have:=List.append_inj' e rfl;obtain⟨_,e1⟩:=this;injection e1 with e1;rw[<-e1];exact h
theorem diffN_succ(old b:LU)(q:Nat):diffN old b (q+1)=diffStep old b (diffN old b q):=rfl
structure DfPt(old b:LU)(q k:Nat)(out:List Stp)(plain:LU):Prop where
 at_:(diffN old b q).1=k
 got:(diffN old b q).2=out++pend plain
 long:lastLong out
theorem DfPt.plainLe(h:DfPt old b q k out plain):plain.length<=b.length:=by
 have hg:=(diffN_inv old b q).gives;rw[h.got]at hg;by_cases e:plain=[]
 ·rw[e];exact Nat.zero_le _
 have:=data_le old (out++pend plain) ⟨0,0,plain⟩ (by rw[pend_one e];simp);rw[hg]at this;simp at this;omega
theorem DfPt.outLe(h:DfPt old b q k out plain):out.length<=q:=by
 have:=diffN_len old b q;rw[h.got,List.length_append]at this;omega
theorem DfPt.long_step(h:DfPt old b q k out plain)(hk:k<b.length)(h4:4<=(longest old b k).2):
  DfPt old b (q+1) (k+(longest old b k).2) (out++pend plain++[⟨(longest old b k).1,(longest old b k).2,[]⟩]) []:=by
 have e:=diffStep_long (old:=old) (b:=b) (p:=diffN old b q) (by rw[h.at_];exact hk) (by rw[h.at_];exact h4);refine⟨by rw[diffN_succ,e,h.at_],by rw[diffN_succ,e,h.at_,h.got,pend_nil,List.append_nil],lastLong_snoc _ (by simp;omega)⟩
theorem DfPt.byte_step(h:DfPt old b q k out plain)(hk:k<b.length)(h4:¬4<=(longest old b k).2):
  DfPt old b (q+1) (k+1) out (plain++[b[k]]):=by
 have e:=diffStep_byte (old:=old) (b:=b) (p:=diffN old b q) (by rw[h.at_];exact hk) (by rw[h.at_];exact h4);refine⟨by rw[diffN_succ,e,h.at_],?_,h.long⟩;rw[diffN_succ,e,h.at_,h.got,addByte_pend _ h.long];rw[List.getD_eq_getElem?_getD,List.getElem?_eq_getElem hk];rfl
theorem DfPt.stop(h:DfPt old b q k out plain)(hk:¬k<b.length):out++pend plain=diffed old b:=by
 rw[<-h.got];exact diffN_end old b q (by rw[h.at_];exact hk)
theorem DfPt.qle(h:DfPt old b q k out plain)(hk:k<b.length):q<=k:=by
 have:=diffN_mono old b q (by rw[h.at_];exact hk);rw[h.at_]at this;exact this
theorem refDiffed_many(A B:OA)(c d:Nat)(old b:LU)(w:World)(h:64<old.length∨64<b.length)(ho:old.length<=140737488351232)(hl:b.length<=140737488351232):
  Calls Tryz.prog 67 #[.slice A old.length c,.slice B b.length d] w (RetB w (.tuple #[.slice none 0 0,iv 1])):=by
 by_cases h1:(64:Int)<(old.length:Int)
 ·exact x4py
 have h2:(64:Int)<(b.length:Int):=by omega
 clear h;exact x4py
theorem refDiffed3_calls(Ao B0:OA)(c0 d0:Nat)(old b:LU)(w:World)(hml:ML w)(hc0:old.length<=c0)(hd0:b.length<=d0)(ho:old.length<=64)(hb:b.length<=64)(hA:Bts w Ao old)(hB:Bts w B0 b):
  Calls Tryz.prog 67 #[.slice Ao old.length c0,.slice B0 b.length d0] w (OpRet3 w (diffed old b) 0):=by
 have h1:¬(64:Int)<(old.length:Int):=by omega
 have h2:¬(64:Int)<(b.length:Int):=by omega
 have HOL:=qH hA;have HBT:=qH hB;have HML:=qH hml;clear hA hB hml;go_enter Tryz.func67,Tryz.ntmps67;go_wp2_with fail;have hpk:DfAt ((w.alloc (.cells #[.slice none 0 0] 33)).alloc (.cells #[.slice none 0 0] 22)) (w.heap.size+2) w.heap.size (w.heap.size+1) [] [] [] none 0 none 0:=
  ⟨blk_old (blk_top rfl),blk_top (by simp),CRow.nil _ _,Own.nil_ _ _ _ _,(fun k hk e=>by cases e),(fun i e h=>by simp at h),by omega,by omega,by omega,by simp⟩
 have HPK:=qH hpk;have HB2:Hid (Below w.heap.size w ((w.alloc (.cells #[.slice none 0 0] 33)).alloc (.cells #[.slice none 0 0] 22))):=qH (((Below.refl _ _).alloc (Nat.le_refl _) _).alloc (by simp) _);clear hpk;generalize (w.alloc (.cells #[.slice none 0 0] 33)).alloc (.cells #[.slice none 0 0] 22)=w0 at *
 generalize hgo:w.heap.size=go at *
 have hog:go<go+1:=by omega
 generalize hgp:go+1=gp at *
 have hlo:go<go+2:=by omega
 have hlp:gp<go+2:=by omega
 generalize hba:go+2=base at *
 have HGO:=qH hgo;clear hgo hgp hba;go_loopw [9] (fun i wr=>∃(q k:Nat) (out:List Stp) (ds:List (Option Addr×Nat)) (plain:LU) (A B:OA) (c d:Nat),i=.int .i64 (k:Int)∧k<=b.length∧Hid (DfPt old b q k out plain)∧Hid (DfAt wr base go gp out ds plain A c B d)∧Hid (Below go w wr)) (fun i _=>b.length-(intOf i).toNat)
 case atStart=>exact⟨0,0,[],[],[],none,none,0,0,rfl,Nat.zero_le _,qH ⟨rfl,rfl,lastLong_nil⟩,HPK,HB2⟩
 case round=>
  clear HPK HB2;rename World=>wo;obtain⟨q,k,out,ds,plain,A,B,c,d,rfl,hk,HT,HP,HB⟩:=hrel;have hpl:=HT.out.plainLe;by_cases hlt:k<b.length
  ·have hq:=HT.out.qle hlt;have hol:=HT.out.outLe;have hloc:=refLongest_calls Ao B0 c0 d0 old b wo k (HML.out.stays (HGO.out▸HB.out)) hc0 hd0 ho hb hk (HOL.out.stays (HGO.out▸HB.out)) (HBT.out.stays (HGO.out▸HB.out));have hin:=longest_in old b k;have HLOC:=qH hloc;have HIN:=qH hin;obtain⟨m,hm⟩:∃m,(longest old b k).1=m:=⟨_,rfl⟩;obtain⟨n,hn⟩:∃n,(longest old b k).2=n:=⟨_,rfl⟩;rw[hm,hn]at HLOC HIN;obtain⟨in1,in2⟩:=HIN.out;have HMN:=qH (And.intro hm hn);clear hloc hin hm hn HIN;have dl:decide ((k:Int)<(b.length:Int))=true:=decide_eq_true (by omega);have HPX:Hid (∀nd,DfAt (wo.drewN nd) base go gp out ds plain A c B d∧Below go w (wo.drewN nd)):=qH (fun nd=>⟨HP.out.drewN nd,Below.drewN' HB.out nd⟩);go_wp2_with fail;refine HLOC.out.mono ?_;rintro e wy ⟨rfl,nd,rfl⟩;obtain⟨hpx,hbx⟩:=HPX.out nd;clear HLOC;by_cases h3:4<=n
   ·have d1:decide ((3:Int)<(n:Int))=true:=decide_eq_true (by omega);have hst:=HT.out.long_step hlt (by rw[HMN.out.2];exact h3);rw[HMN.out.1,HMN.out.2]at hst;obtain⟨o1,hO1⟩:∃o1,out++pend plain=o1:=⟨_,rfl⟩;rw[hO1]at hst;have HST:=qH hst;have HO1:=qH hO1;have hkn:IntKind.i64.wrap ((k:Int)+(n:Int))=(k:Int)+(n:Int):=IntWalk.i64_in _ (by omega);clear hst hO1;go_wp2_with fail;refine(dflush_calls hpx (by omega) (by omega)).mono ?_;rintro e w1 ⟨rfl,ds1,A1,c1,hp1,hb1⟩;rw[HO1.out]at hp1;have HP1:=qH hp1;have HB1:Hid (Below go w w1):=qH (hbx.trans hb1);have q3:=hp1.co.cell;have q4:=hp1.co.free;have hoa:=hp1.oo.row.alloc (.cells #[.int .i64 (m:Int),.int .i64 (n:Int),.slice none 0 0] 121);have hs1:Src (w1.alloc (.cells #[.int .i64 (m:Int),.int .i64 (n:Int),.slice none 0 0] 121)) (some ⟨w1.heap.size,0,none⟩) [.int .i64 (m:Int),.int .i64 (n:Int),.slice none 0 0]:=src_blk (blk_top rfl);have hob:o1.length+1<=137438953472:=by have:=HST.out.outLe;simp at this⊢;omega
    have hle:base<=(w1.alloc (.cells #[.int .i64 (m:Int),.int .i64 (n:Int),.slice none 0 0] 121)).heap.size:=by have:=hp1.le;simp;omega
    clear hp1 hb1 hpx hbx HPX HP;go_wp2_with (at_builtin;go_must (refine wpList_app (w1.alloc (.cells #[.int .i64 (m:Int),.int .i64 (n:Int),.slice none 0 0] 121)) rfl _ _ 33 rfl elOps base A1 o1.length c1 (opCells o1 ds1) rfl hoa (some ⟨w1.heap.size,0,none⟩) 1 1 [.int .i64 (m:Int),.int .i64 (n:Int),.slice none 0 0] rfl hs1 rfl (by simp[Value.oneCell']) hob hle ?_;intro A' c' w2 hown hgr hbel hor);(obtain⟨ds',r1,r2,r3,r4,r5,r6,r7,r8⟩:=HP1.out.push (o:=⟨m,n,[]⟩) (e:=(none,0)) (plain':=[]) (B':=none) (d':=0) hown hgr hbel hor (Bts.nil _ _) (Nat.le_refl _) (fun k hk=>(by cases hk)) (.inr ⟨rfl,rfl,rfl⟩));(have R1:=qH r1);(have R4:=qH r4);(have R5:=qH r5);(have R6:=qH r6);(have R7:=qH r7);(have R8:=qH r8);(have q1:=r6.cell);(have q2:=r6.free);(have q5:=r6.lt);(clear hown hgr hbel hor r1 r2 r3 r4 r5 r6 r7 r8 hoa hs1 hob hle q3 q4));have e1:(o1++[(⟨m,n,[]⟩:Stp)]).length=o1.length+1:=by rw[List.length_append];rfl
    have hfin:DfAt (w2.setCell ⟨go,0,none⟩ (.slice A' (o1.length+1) c')) base go gp (o1++[⟨m,n,[]⟩]) ds' [] A' c' none 0:=
     ⟨by rw[e1];exact R6.out.set _,R7.out.other (by show go≠gp;omega) _,R1.out.setOther (j:=0) (own_far R1.out.row hlo) (fun i e he e2=>by have:=(R4.out i e he go e2).1;omega) _,Own.nil_ _ _ _ _,fun k hk e=>(by cases e),fun i e he k hk=>⟨(R4.out i e he k hk).1,by simp⟩,hlo,hlp,hog,by simpa using R5.out⟩
    have HFIN:=qH hfin;have HBF:Hid (Below go w (w2.setCell ⟨go,0,none⟩ (.slice A' (o1.length+1) c'))):=qH ((HB1.out.trans (R8.out.mono (Nat.le_of_lt hlo))).setCell (p:=⟨go,0,none⟩) (Nat.le_refl _) _);clear hfin e1;go_roundw
    case rel=>exact⟨q+1,k+n,_,ds',[],A',none,c',0,by go_num,by omega,HST,HFIN,HBF⟩
    case measure=>simp[intOf];omega
   have d1:decide ((3:Int)<(n:Int))=false:=decide_eq_false (by omega);have hst:=HT.out.byte_step hlt (by rw[HMN.out.2];exact h3);have HST:=qH hst;clear hst;obtain⟨ab,ao,rfl,hab,hxc⟩:=(HBT.out.stays (HGO.out▸hbx)) k hlt;have HXC:=qH hxc;have HBOX:=qH hpx.cp;have HCO:=qH hpx.co;have HCP:=qH hpx.cp;have HOA:=qH hpx.oo;have HOW:=qH hpx.op;have HNE:=qH hpx.ne;have HND:=qH hpx.nd;have HNB:=qH (And.intro (own_far hpx.op hlo) (own_far hpx.op hlp));have hle:=hpx.le;have HBX:=qH hbx;clear hxc hpx hbx HPX HP;go_wp2_with fail;generalize hwx:wo.drewN nd=wx at *
   refine wp_region_mix (by kernel_rfl) (some 45::some 46::some 47::some 48::some 49::some 50::some 51::none::[]) (none::none::none::none::none::some 0::some 1::some 2::[]) (.slice B plain.length d::.slice (some ⟨ab,ao,none⟩) b.length d0::.int .i64 (k:Int)::.pointer (some ⟨ab,ao+k,none⟩)::bv b[k]::undef::undef::undef::[]) 3 (bxJ wx base B plain.length d (plain.map bv) [bv b[k]] 5 6 (fun w=>∃A2 c2 wq,w=wq.setCell ⟨gp,0,none⟩ (.slice A2 (plain.length+1) c2)∧Own wq base 5 1 A2 (plain.length+1) c2 (plain.map bv++[bv b[k]])∧Below base wx wq∧(∀q,q<wx.heap.size->B.map (·.block)≠some q->wq.heap[q]?=wx.heap[q]?)∧(A2.map (·.block)=B.map (·.block)∨∀q,A2.map (·.block)=some q->wx.heap.size<=q))) 57 rfl rfl (by decide+kernel) (by decide+kernel) (by decide+kernel) (by decide+kernel) rfl rfl (by decide+kernel) (by decide+kernel) (rfl) ?_ ?_
   ·refine⟨?_,?_,?_,?_,?_,?_,?_,?_,trivial⟩
    ·intro done cv k1 a wq hw h hJ hn;have e1:=mx_old (t:=7) (v:=.pointer (some ⟨gp,0,none⟩)) h rfl rfl;have hk:=hn 6 _ 1 rfl rfl (by decide);have c1:=bxJ_box hk hJ HBOX.out;have c2:=c1.cell;go_simp
    ·intro done cv k2 a wq hw h hJ hn;have e1:=mx_old (t:=1) (v:=.slice (some ⟨ab,ao,none⟩) b.length d0) h rfl rfl;exact mx_move (ch_ev e1)
    ·intro done cv k1 a wq hw h hJ hn;have e1:=mx_old (t:=9) (v:=.int .i64 (k:Int)) h rfl rfl;exact mx_move (ch_ev e1)
    ·intro done cv k2 a wq hw h hJ hn;have e1:=mx_new (i:=1) (t:=46) h (hw 1 (by decide)) rfl rfl rfl;have e47:=mx_new (i:=2) (t:=47) h (hw 2 (by decide)) rfl rfl rfl;go_simp
    ·intro done cv k1 a wq hw h hJ hn;have e1:=mx_new (i:=3) (t:=48) h (hw 3 (by decide)) rfl rfl rfl;have hk:=hn 5 _ 0 rfl rfl (by decide);obtain rfl:k1=0:=by omega
     obtain rfl:wq=wx.drew:=hJ;have hx:=HXC.out;go_simp
    ·intro done cv a wq hw h hJ;have e1:=mx_new (i:=4) (t:=49) h (hw 4 (by decide)) rfl rfl rfl;obtain rfl:wq=wx.drew:=hJ;exact wp_sb1 e1 ⟨_,rfl,rfl,by simp⟩
    ·intro done cv a wq hw h hJ;have e1:=mx_new (i:=0) (t:=45) h (hw 0 (by decide)) rfl rfl rfl;have e50:=mx_cv (i:=5) (t:=50) h (hw 5 (by decide)) rfl rfl;obtain⟨rfl,y1⟩:=hJ;rw[y1]at e50;refine wp_app _ (.tmp 45) (.tmp 50) 22 rfl elBytes base B plain.length d (plain.map bv) (ch_ev e1) (HOW.out.drew.alloc _) (some ⟨wx.heap.size,0,none⟩) 1 1 [bv b[k]] (ch_ev e50) (src_blk (blk_top (by simp))) rfl (by simp[Value.oneCell']) (by omega) (by simp;omega) ?_;intro A' c' w' hown hgr hbel hor;exact⟨_,rfl,bxJ_app hown hgr hbel hor hle⟩
    ·intro done cv a wq hw h hJ;have e1:=mx_old (t:=7) (v:=.pointer (some ⟨gp,0,none⟩)) h rfl rfl;have e51:=mx_cv (i:=6) (t:=51) h (hw 6 (by decide)) rfl rfl;obtain⟨A1,c1,y1,k3,k1,k2,k4⟩:=hJ;rw[y1]at e51;have b1:Box wq go _ _:=(k2 go HCO.out.lt HNB.out.1).trans HCO.out;have b2:Box wq gp _ _:=(k2 gp HCP.out.lt HNB.out.2).trans HCP.out;exact wp_ssl e1 e51 b2.cell b2.free ⟨undef,rfl,A1,c1,wq,rfl,k3,k1,k2,k4⟩
   rintro cv w1 ⟨A1,c2,wq,rfl,k3,k1,k2,k4⟩;have hsz:=k1.size;have b1:Box wq go 33 (.slice A out.length c):=(k2 go HCO.out.lt HNB.out.1).trans HCO.out;have b2:Box wq gp 22 (.slice B plain.length d):=(k2 gp HCP.out.lt HNB.out.2).trans HCP.out;have s1:CRow wq base out ds A c:=HOA.out.keep hsz (fun q hq h=>k2 q hq (by
    rcases h with h|⟨i,e,h1,h2⟩
    ·exact HNE.out q h
    exact(HND.out i e h1 q h2).2))
   have s2:=s1.setOther (j:=0) (own_far s1.row hlp) (fun i e he e2=>by have:=(HND.out i e he gp e2).1;omega) (.slice A1 (plain.length+1) c2);have e1:(plain++[b[k]]).length=plain.length+1:=by simp
   have far:∀q,q<wx.heap.size->B.map (·.block)≠some q->A1.map (·.block)≠some q:=fun q hq hn e=>by
    rcases k4 with h|h
    ·rw[h]at e;exact hn e
    have:=h q e;omega
   have hfin:DfAt (wq.setCell ⟨gp,0,none⟩ (.slice A1 (plain.length+1) c2)) base go gp out ds (plain++[b[k]]) A c A1 c2:=
    ⟨b1.other (by show gp≠go;omega) _,by rw[e1];exact b2.set _,s2,by rw[e1,List.map_append];exact k3.setCell_other (own_far k3 hlp) _,fun q hq=>far q (HOA.out.row.block q hq).2 (HNE.out q hq),fun i e he q hq=>⟨(HND.out i e he q hq).1,far q (HOA.out.off i e he q hq).2 (HND.out i e he q hq).2⟩,hlo,hlp,hog,by simp;omega⟩
   have HFIN:=qH hfin;have HBF:Hid (Below go w (wq.setCell ⟨gp,0,none⟩ (.slice A1 (plain.length+1) c2))):=qH ((HBX.out.trans (k1.mono (Nat.le_of_lt hlo))).setCell (p:=⟨gp,0,none⟩) (by show go<=gp;omega) _);have hkn:IntKind.i64.wrap ((k:Int)+1)=(k:Int)+1:=IntWalk.i64_in _ (by omega);clear hfin e1 far s1 s2 b1 b2 k1 k2 k3 k4;generalize wq.setCell ⟨gp,0,none⟩ (.slice A1 (plain.length+1) c2)=w4 at *
   simp only[mixAll,putAll_some,putAll_none,putAll_nil,List.getElem?_cons_zero,List.getElem?_cons_succ,Nat.zero_add,Nat.reduceAdd,List.setIfInBounds_toArray,List.set_cons_zero,List.set_cons_succ];go_wp2_with fail;go_roundw
   case rel=>exact⟨q+1,k+1,out,ds,plain++[b[k]],A,A1,c,c2,by go_num,by omega,HST,HFIN,HBF⟩
   case measure=>simp[intOf];omega
  obtain rfl:k=b.length:=by omega
  have hst:=HT.out.stop hlt;have hol:out.length<=(diffed old b).length:=by rw[<-hst];simp
  have hok:=diffed_ok old b ho hb;have hbd:∀o∈diffed old b,I64 o.at_∧I64 o.len∧o.data.length<=140737488351232:=fun o h=>by
   have h3:=hok.each o h;have h4:=data_le old (diffed old b) o h;rw[diffed_makes]at h4;have h5:=h3.2;unfold Stp.in_ at h5;exact⟨⟨by omega,by omega⟩,⟨by omega,by omega⟩,by omega⟩
  have hmany:=hok.many;have HST:=qH hst;have HBD:=qH hbd;have dl:decide ((b.length:Int)<(b.length:Int))=false:=by simp
  clear hst hbd hok;go_wp2_with fail;refine(dflush_calls HP.out (by omega) (by omega)).mono ?_;rintro e w1 ⟨rfl,ds1,A1,c1,hp1,hb1⟩;rw[HST.out]at hp1;have HP1:=qH hp1;have HB1:Hid (Below go w w1):=qH (HB.out.trans hb1);have q1:=hp1.co.cell;clear hp1 hb1;go_wp2_with fail;go_ret2;have hfr:=HP1.out.oo.fresh (fun i e h k hk=>(HP1.out.nd i e h k hk).1) HBD.out;exact⟨A1,c1,rfl,hfr.mono (by rw[HGO.out];omega),HP1.out.oo.row.le,HGO.out▸HB1.out⟩
section
variable (A:OA) (c:Nat) (l:LU) (w:World)
theorem refSumOn_calls(s:Int)(hs:0<=s)(hs':s<=65520)(hl:l.length<=140737488355328)(hr:Bts w A l):
  Calls Tryz.prog 81 #[iv s,.slice A l.length c] w (Ret w (iv (sumOn s l))):=by
 go_enter Tryz.func81,Tryz.ntmps81
 go_wp2
 go_loop [5,6,7] (fun p n i=>∃k:Nat,k<=l.length∧i=.int .i64 ((k:Int)-1)∧p=.int .i64 (pw (l.length-k))∧n=.int .i64 (sumOn 0 (l.drop k))) (fun _ _ i=>(intOf i+1).toNat)
 case atStart=>exact⟨l.length,Nat.le_refl _,rfl,by simp[pw],by simp[sumOn]⟩
 case round=>
  obtain⟨k,hk,rfl,rfl,rfl⟩:=hrel;have hb:=sumOn_bd 0 (l.drop k) (by omega);have hp:=pw_bd (l.length-k);by_cases hlt:0<k
  ·obtain⟨j,rfl⟩:∃j,k=j+1:=⟨k-1,by omega⟩;obtain⟨b,o,rfl,hbs,hc⟩:=hr j (by omega);have hx:=l[j].toNat_lt;have hj:((j:Int)+1-1).toNat=j:=by omega
   have HS:Hid (sumOn 0 (l.drop j)=(sumOn 0 (l.drop (j+1))+(l[j].toNat:Int)*pw (l.length-(j+1)))%65521):=sumOn_drop l j (by omega);have HP:Hid (pw (l.length-j)=pw (l.length-(j+1))*31%65521):=by
    have:=pw_succ (l.length-(j+1));rwa [show l.length-(j+1)+1=l.length-j by omega]at this
   have hm:0<=(l[j].toNat:Int)*pw (l.length-(j+1)):=Int.mul_nonneg (by omega) hp.1;have hm1:(l[j].toNat:Int)*pw (l.length-(j+1))<=256*65520:=Int.mul_le_mul (by omega) hp.2 hp.1 (by omega)
   go_wp2
   go_round
   case rel=>exact⟨j,by omega,rfl,by rw[HP.out],by rw[HS.out]⟩
   case measure=>simp[intOf]
  obtain rfl:k=0:=by omega
  have HF:=qH (sumOn_ref s l (by omega));have hm:0<=s*pw l.length:=Int.mul_nonneg hs (pw_bd _).1;have hm1:s*pw l.length<=65520*65520:=Int.mul_le_mul hs' (pw_bd _).2 (pw_bd _).1 (by omega);simp only[Nat.sub_zero,List.drop_zero]at hb hp⊢
  go_wp2
  go_ret;exact⟨ret_int (by rw[HF.out]),rfl⟩
theorem refSumOf_calls(hl:l.length<=140737488355328)(hr:Bts w A l):
  Calls Tryz.prog 42 #[.slice A l.length c] w (Ret w (iv (sumOn 1 l))):=by
 go_enter Tryz.func42,Tryz.ntmps42;go_wp2_with (go_at_call 81;refine(refSumOn_calls A c l _ 1 (by omega) (by omega) hl hr).mono ?_;rintro e w' ⟨rfl,rfl⟩);go_ret;exact⟨rfl,rfl⟩
end
section
open Go.RowKit Go.Shelf
attribute [local go_sem] Oper.semAt_some
def partV(b o len k:Nat):Value:=.slice (some ⟨b,o+16*k,none⟩) (min 16 (len-16*k)) (min 16 (len-16*k))
theorem run_min16(n:Nat)(w:World):(Builtin.min_ #[3,3] 3 #[.int .i64 16,.int .i64 (n:Int)]).run Tryz.prog w=.ok (.int .i64 ((min 16 n:Nat):Int)) w:=by
 by_cases h:(n:Int)<(16:Int)
 ·have e:min 16 n=n:=by omega
  rw[e];go_simp<;>omega
 have e:min 16 n=16:=by omega
 rw[e];go_simp<;>omega
theorem chunk1_in(n:Nat)(hn:1<=n)(l Bs Bn n₀ b o len cap:Nat)(hlc:len<=cap)(hlm:len<=1048576)(hs:Bs<n₀)(hnn:Bn<n₀)(J Jx:List Nat->World->Prop)(hJd:∀s W,J s W->J s W.drew)
  (hY:∀pre x W,J pre W->pre.length<(len+15) / 16->YieldAt Fence.wide (n-1) Tryz.prog l #[partV b o len x] W fun e W'=>
    (e=.returned (.bool true)∧J (pre++[x]) W'∧Below n₀ W W')∨(e=.returned (.bool false)∧Jx (pre++[x]) W'))
  (W:World) (hBs:W.cell? ⟨Bs,0,none⟩=some (.slice (some ⟨b,o,none⟩) len cap)) (hBn:W.cell? ⟨Bn,0,none⟩=some (.int .i64 16)) (h0:J [] W):
  CallsIn Fence.wide n Tryz.prog 98 #[.func (.yield l) #[] #[],.pointer (some ⟨Bs,0,none⟩),.pointer (some ⟨Bn,0,none⟩)] W fun e W'=>(∃v,e=.returned v)∧
   ((∃ys,ys=List.range ((len+15) / 16)∧J ys W')∨(∃pre,True∧Jx pre W')):=by
 refine callsIn_of_wp Tryz.func98 rfl trivial ?_ rfl;simp only[Tryz.ntmps98,List.size_toArray,List.length_cons,List.length_nil,Nat.reduceAdd,Nat.reduceSub,Array.replicate_succ,Array.replicate_zero,List.push_toArray,List.append_toArray,List.nil_append,List.cons_append]
 gi_wp2
 gi_loopw [4] (fun i wr=>∃k:Nat,k<=(len+15) / 16∧i=.int .i64 ((16*k:Nat):Int)∧J (List.range k) wr∧Below n₀ W wr)
  (fun i _=>len+16-(intOf i).toNat)
 case atStart=>exact⟨0,Nat.zero_le _,rfl,h0,Below.refl _ _⟩
 case round=>
  obtain⟨k,hk,rfl,hJs,hnx⟩:=hrel;have hc1:=(hnx.cell (p:=⟨Bs,0,none⟩) hs).trans hBs;have hc1:=(hnx.cell (p:=⟨Bn,0,none⟩) hnn).trans hBn;by_cases hlt:16*k<len
  ·obtain⟨fn,tmps,assign,body,hy,hR⟩:=hY _ k wr.drew (hJd _ _ hJs) (by simp;omega);have hmin:=run_min16 (len-16*k);have hp:partV b o len k=.slice (some ⟨b,o+16*k,none⟩) (min 16 (len-16*k)) (min 16 (len-16*k)):=rfl;rw[hp]at hy;obtain⟨en,hen⟩:∃en,min 16 (len-16*k)=en:=⟨_,rfl⟩;rw[hen]at hmin hy;obtain⟨i,hi⟩:∃i,16*k=i:=⟨_,rfl⟩;rw[hi]at hmin hy hlt hen⊢;have he1:1<=en:=by omega
   have he1:i+en<=len:=by omega
   have he1:en<=16:=by omega
   have hw1:IntKind.i64.wrap ((i:Int)+(en:Int))=((i+en:Nat):Int):=by rw[show (i:Int)+(en:Int)=((i+en:Nat):Int) by omega];exact IntWalk.i64_in _ (by omega)
   have dl:decide ((i:Int)<(len:Int))=true:=decide_eq_true (by omega);clear hen hp
   gi_wp2
   gi_region
   gi_wp2
   refine hR.mono ?_;rintro e W1 (⟨rfl,hJ1,hk1⟩|⟨rfl,hJx1⟩)
   ·have hc1:=(hk1.cell (p:=⟨Bn,0,none⟩) hnn).trans hc1;have hw1:IntKind.i64.wrap ((i:Int)+16)=((i+16:Nat):Int):=by rw[show (i:Int)+16=((i+16:Nat):Int) by omega];exact IntWalk.i64_in _ (by omega)
    gi_wp2
    go_roundw
    case rel=>exact⟨k+1,by omega,by rw[show 16*(k+1)=i+16 by omega];simp,by rw[List.range_succ];exact hJ1,hnx.trans ((Below.refl n₀ wr).drew.trans hk1)⟩
    case measure=>simp[intOf];omega
   gi_wp2
   refine bodyPost_ret (results_none rfl _ _ _) rfl ?_;exact⟨⟨_,rfl⟩,.inr ⟨_,trivial,hJx1⟩⟩
  obtain rfl:k=(len+15) / 16:=by omega
  have dl:decide (((16*((len+15) / 16):Nat):Int)<(len:Int))=false:=decide_eq_false (by omega)
  gi_wp2
  go_end0
  exact⟨⟨_,rfl⟩,.inl ⟨_,rfl,hJs⟩⟩
theorem grownBy_drew0(w:World):w.grownBy w.drew none:=⟨rfl,rfl,rfl,Nat.le_refl _,fun _ _ _=>rfl⟩
theorem chunk_stops(n:Nat)(hn:1<=n)(Bs Bn n₀ b o len cap:Nat)(hlc:len<=cap)(hlm:len<=1048576)(hs:Bs<n₀)(hnn:Bn<n₀)(w:World)(h0:n₀<=w.heap.size)
  (hBs:w.cell? ⟨Bs,0,none⟩=some (.slice (some ⟨b,o,none⟩) len cap)) (hBn:w.cell? ⟨Bn,0,none⟩=some (.int .i64 16)):
  SeqStopsK Fence.wide n Tryz.prog 98 #[.pointer (some ⟨Bs,0,none⟩),.pointer (some ⟨Bn,0,none⟩)] (fun x:Nat=>#[partV b o len x]) (Below n₀) (fun ys=>ys=List.range ((len+15) / 16)) (fun _=>True) ((len+15) / 16) w:=fun l J Jx W hW hJ _ hY hJ0=>by
 refine(chunk1_in n hn l Bs Bn n₀ b o len cap hlc hlm hs hnn J Jx (fun s W' h=>hJ s W' _ none h (grownBy_drew0 W') (fun r e=>by cases e)) hY W ((hW.cell (p:=⟨Bs,0,none⟩) (by show Bs<_;omega)).trans hBs) ((hW.cell (p:=⟨Bn,0,none⟩) (by show Bn<_;omega)).trans hBn) hJ0).mono ?_;rintro e W' h;exact h
theorem chunk_in(n:Nat)(A:OA)(len cap:Nat)(w:World):
  CallsIn Fence.wide n Tryz.prog 70 #[.slice A len cap,.int .i64 16] w fun e w'=>e=.returned (.func (.func 98) #[] #[.pointer (some ⟨w.heap.size,0,none⟩),.pointer (some ⟨w.heap.size+1,0,none⟩)])∧w'=(w.alloc (.cells #[.slice A len cap] 22)).alloc (.cells #[.int .i64 16] 3):=by
 refine callsIn_of_wp Tryz.func70 rfl trivial ?_ rfl;simp only[Tryz.ntmps70,List.size_toArray,List.length_cons,List.length_nil,Nat.reduceAdd,Nat.reduceSub,Array.replicate_succ,Array.replicate_zero,List.push_toArray,List.append_toArray,List.nil_append,List.cons_append]
 gi_wp2
 go_ret;exact⟨rfl,rfl⟩
theorem info_bytes:(Tryz.prog.info? 22).map (fun i=>(i.zero,i.size,i.bytes))=some (some (.slice none 0 0),1,24):=by kernel_rfl
theorem appendSeq_in(n:Nat)(hn:3<=n)(gf:Nat)(lb:Array Value)(eg:∀args w,(callFunc gf args).run Tryz.prog w=.ok (.enter gf args) w)(A:Nat->Option Addr)(a b:Nat->Nat)(m:Nat)(hm:m<=1048576)(w:World)
  (hst:SeqStopsK Fence.wide (n-1) Tryz.prog gf lb (fun x:Nat=>#[Value.slice (A x) (a x) (b x)]) (Below w.heap.size) (fun ys=>ys=List.range m) (fun _=>True) m w):
  CallsIn Fence.wide n Tryz.prog 97 #[.slice none 0 0,.func (.func gf) #[] lb] w fun e W'=>∃v,e=.returned v∧W'.ownsRow w.heap.size 22 1 v m ((List.range m).map (fun x:Nat=>Value.slice (A x) (a x) (b x)))∧Below w.heap.size w W':=by
 have h1:1<=n:=by omega
 obtain⟨i1,hi,hz3,hz1,hz2⟩:=info_parts (info_bytes);refine callsIn_of_wp_marks Tryz.func97 rfl trivial ?_ rfl;simp only[Tryz.ntmps97,List.size_toArray,List.length_cons,List.length_nil,Nat.reduceAdd,Nat.reduceSub,Array.replicate_succ,Array.replicate_zero,List.push_toArray,List.append_toArray,List.nil_append,List.cons_append]
 gi_wp2
 have bO:=Boxed.new w 69 (.slice none 0 0);have hB1:Below w.heap.size w (w.alloc (.cells #[.slice none 0 0] 69)):=(Below.refl _ w).alloc (Nat.le_refl _) _;refine wpIn_rangeFunc_ownG rfl h1 (gf:=gf) (lb:=lb) rfl trivial eg hst belowK_t (belowK_b (by simp)) hB1 (fun _=>rfl)
  (fun (pre:List Nat) W=>(∃v,Boxed W w.heap.size 69 v∧W.ownsRow w.heap.size 22 1 v pre.length (pre.map (fun x:Nat=>Value.slice (A x) (a x) (b x)))∧True)∧Below w.heap.size w W)
  (fun _ _ _=>False)
  (OwnFrom.and (Own.from (holdsRow_own w.heap.size w.heap.size 69 22 1 (fun pre:List Nat=>pre.length) (fun pre=>pre.map (fun x:Nat=>Value.slice (A x) (a x) (b x))) (fun pre v=>True)) _) (ownFrom_below (Nat.le_refl _) (by simp)))
  (fun _ _ _ _ _ hs _ _=>hs)
  ⟨⟨_,bO,World.ownsRow_nil _ _ _ _,trivial⟩,hB1⟩
  (fun x=>{tmps:=#[.slice none 0 0,.func (.func gf) #[] lb,.pointer (some ⟨w.heap.size,0,none⟩),undef,.slice none 0 0,Value.slice (A x) (a x) (b x),.func (.func gf) #[] lb,Value.slice (A x) (a x) (b x),undef,undef,undef,undef,undef],defers:=[]}) ?assign ?body ?done ?stop
 case assign=>
  intro l x W K hK
  gi_wp2
  exact hK
 case body=>
  rintro l pre x W ⟨⟨v,hv,hrow,_⟩,hB⟩ hlt;have hc:=hv.cell
  gi_wp2_with (gi_at_builtin;refine wpListIn_append_own _ rfl _ _ 69 rfl w.heap.size 22 i1 (.slice none 0 0) 1 24 Tryz.underlying69 hi hz3 hz1 hz2 rfl (by decide) _ _ _ rfl (hrow.alloc _) ⟨W.heap.size,0,none⟩ 1 1 [Value.slice (A x) (a x) (b x)] rfl rfl (cell_one_new _ _ _) (by simp[Value.oneCell']) (by simp[maxLen];omega) (by omega) (by have:=hB.size;simp;omega) ?_;intro v' w1 hown' hgrow _;obtain⟨g',cap',rfl⟩:=ownsRow_succ hown';obtain⟨hv1,hv2,hr2,hk2,hb2⟩:=hv.appended (by decide) hrow hB.size (Nat.le_refl _) hown' hgrow;have hc1:=hv1.cell;have hf1:=hv1.frozen)
  exact⟨hk2.from _,hb2,⟨_,hv2,by simpa using hr2,trivial⟩,hB.trans hb2⟩
 case done=>
  rintro D ys W hD rfl ⟨⟨v,hv,hrow,_⟩,hB⟩ hK;have hc:=hv.cell
  gi_wp2
  refine⟨by simp,.inl ⟨_,_,rfl,run_takeDeferred hK,?_⟩⟩;exact⟨_,results_tmp rfl _ _ _,v,rfl,by simpa using ownsRow_putObj hrow _ hK rfl,hB.trans (belowK_b (w:=w) (Nat.le_refl _) W D _ _ (by simp at hD;omega) hK rfl rfl)⟩
 case stop=>
  rintro D c pre W _ _ h _;exact h.elim
theorem collectChunk_calls(Bs Bn b o len cap:Nat)(hlc:len<=cap)(hlm:len<=1048576)(w:World)(hs:Bs<w.heap.size)(hnn:Bn<w.heap.size)
  (hBs:w.cell? ⟨Bs,0,none⟩=some (.slice (some ⟨b,o,none⟩) len cap)) (hBn:w.cell? ⟨Bn,0,none⟩=some (.int .i64 16)):
  Calls Tryz.prog 69 #[.func (.func 98) #[] #[.pointer (some ⟨Bs,0,none⟩),.pointer (some ⟨Bn,0,none⟩)]] w
   (fun e w'=>∃v,e=.returned v∧w'.ownsRow w.heap.size 22 1 v ((len+15) / 16) ((List.range ((len+15) / 16)).map (partV b o len))∧Below w.heap.size w w'):=by
 refine(callsIn_wide (n:=9)).1 ?_;refine callsIn_of_wp Tryz.func69 rfl trivial ?_ rfl;simp only[Tryz.ntmps69,List.size_toArray,List.length_cons,List.length_nil,Nat.reduceAdd,Nat.reduceSub,Array.replicate_succ,Array.replicate_zero,List.push_toArray,List.append_toArray,List.nil_append,List.cons_append]
 gi_wp2
 refine⟨trivial,?_⟩;refine(appendSeq_in 8 (by decide) 98 _ (enters_of Tryz.func98 (by kernel_rfl) rfl) (fun k=>some ⟨b,o+16*k,none⟩) (fun k=>min 16 (len-16*k)) (fun k=>min 16 (len-16*k)) ((len+15) / 16) (by omega) w (chunk_stops 7 (by decide) Bs Bn w.heap.size b o len cap hlc hlm hs hnn w (Nat.le_refl _) hBs hBn)).mono ?_;rintro e w' ⟨v,rfl,hrow,hb⟩
 gi_wp2
 go_ret;exact⟨v,rfl,hrow,hb⟩
theorem chunk_calls(A:OA)(len cap:Nat)(w:World):
  Calls Tryz.prog 70 #[.slice A len cap,.int .i64 16] w (fun e w'=>e=.returned (.func (.func 98) #[] #[.pointer (some ⟨w.heap.size,0,none⟩),.pointer (some ⟨w.heap.size+1,0,none⟩)])∧w'=(w.alloc (.cells #[.slice A len cap] 22)).alloc (.cells #[.int .i64 16] 3)):=
 (callsIn_wide (n:=1)).1 (chunk_in 1 A len cap w)
end
theorem cloneBytes_calls(A:OA)(n c:Nat)(cs:List Value)(w:World)(hl:cs.length=n*1)(hn0:n<=140737488355328)(hr:Src w A cs)(h1:∀u∈cs,u.oneCell'=true):
  Calls Tryz.prog 83 #[.slice A n c] w (SlRet w 5 1 n cs):=by
 rcases A with _|ad
 ·have h1:cs.length=0:=by
   exact x5fs
  obtain rfl:n=0:=by omega
  obtain rfl:cs=[]:=List.eq_nil_of_length_eq_zero h1;have hn:=fun (wx:World) (a:OA) (n c n' c':Nat)=>Lib.run_eql_slice_nil (P:=Tryz.prog) wx 22 5 a n c n' c' Tryz.underlying22;clear h1 hl;go_enter Tryz.func83,Tryz.ntmps83;exact x4d9
 have hn:=fun (wx:World) (a:OA) (n c n' c':Nat)=>Lib.run_eql_slice_nil (P:=Tryz.prog) wx 22 5 a n c n' c' Tryz.underlying22;have ho:Own (w.alloc (.cells #[] 5)) w.heap.size 5 1 (some ⟨w.heap.size,0,none⟩) 0 0 []:=own_zero w _ _;have hs:=hr.stays ((Below.refl w.heap.size w).alloc (Nat.le_refl _) (.cells #[] 5));have hb1:0+n<=140737488355328:=by omega
 have hb2:w.heap.size<=(w.alloc (.cells #[] 5)).heap.size:=by simp
 have HL:=qH hl;clear hl;go_enter Tryz.func83,Tryz.ntmps83;go_wp2_with (at_builtin;refine wpList_app _ rfl _ _ 22 rfl elBytesB w.heap.size (some ⟨w.heap.size,0,none⟩) 0 0 [] rfl ho (some ad) n c cs rfl hs HL.out h1 hb1 hb2 ?_;intro A' c' w1 hown hg hb hx);exact x6v2
theorem x62b(h:Y:=by
 go_wp2_with fail;go_quiet (fail)
 go_wp2_with fail;go_ret;exact⟨rfl,nd+nq,by rw[<-World.drewN_drewN]⟩):Y:=h
theorem refAlike_calls(A:OA)(c:Nat)(l:LU)(w:World)(h0:0<l.length)(hc:l.length<=c)(hl:l.length<=4194304)(hB:Bts w A l):
  Calls Tryz.prog 99 #[.slice A l.length c] w (RetN w (iv (alike l:Nat))):=by
 obtain⟨a1,a2,a3,a4,a5⟩:=alike_stop h0;simp only[List.drop_zero,Nat.zero_add]at a1 a2 a3 a4 a5;replace a5:alike l=127∨(alike l<127∧alike l=l.length)∨(alike l<127∧∃h:alike l<l.length,l[alike l]≠l[0]):=by
  rcases a5 with h|h|⟨h0,h1,h2⟩
  ·exact .inl h
  ·exact .inr (.inl h)
  exact .inr (.inr ⟨h0,by simpa using h1,by simpa using h2⟩)
 have HA1:=qH a4;have HBO:=qH hB;clear hB a4;obtain⟨ab,ao,rfl,hsb,hx1⟩:=HBO.out 0 h0;simp only[Nat.add_zero]at hx1;have HAL:Hid (alike l=alike l):=qH rfl;generalize hal:alike l=al at *
 clear hal HAL;go_enter Tryz.func99,Tryz.ntmps99;go_wp2_with fail;go_loopw [3] (fun n wr=>∃(m nd:Nat),n=.int .i64 (m:Int)∧1<=m∧m<=al∧w.drewN nd=wr) (fun n _=>al-(intOf n).toNat)
 case atStart=>exact⟨1,0,rfl,by omega,a1,rfl⟩
 case round=>
  obtain⟨m,nd,rfl,hm1,hm2,rfl⟩:=hrel;have hw1:IntKind.i64.wrap ((m:Int)+1)=(m:Int)+1:=IntWalk.i64_in _ (by omega);by_cases hml:m<al
  ·have hx2:=HA1.out m hml;have hkm:m<l.length:=by omega
   rw[List.getElem?_eq_getElem hkm]at hx2;obtain⟨b1,o1,e1,hs1,hc1⟩:=HBO.out m hkm;injection e1 with e1;injection e1 with e3 e4;subst e3 e4;have hx3:l[m]=l[0]:=by injection hx2
   rw[hx3]at hc1;have d1:decide ((m:Int)<127)=true:=decide_eq_true (by omega);have d2:decide ((m:Int)<(l.length:Int))=true:=decide_eq_true (by omega);have d3:((l[0].toNat:Int)==(l[0].toNat:Int))=true:=by simp
   clear hx2 hx3;go_wp2_with fail;go_quiet (fail)
   go_wp2_with fail;go_roundw
   case rel=>exact⟨m+1,_,by go_num,by omega,by omega,rfl⟩
   case measure=>simp[intOf];omega
  obtain rfl:m=al:=by omega
  rcases a5 with h|⟨h0,h⟩|⟨h0,h1,h2⟩
  ·by_cases d2':m<l.length
   ·have d1:decide ((m:Int)<127)=false:=decide_eq_false (by omega);have d2:decide ((m:Int)<(l.length:Int))=true:=decide_eq_true (by omega);clear h hm2 hml;exact x62b
   ·have d2:decide ((m:Int)<(l.length:Int))=false:=decide_eq_false (by omega);clear h hm2 hml;exact x62b
  ·have d2:decide ((m:Int)<(l.length:Int))=false:=decide_eq_false (by omega);have d1:decide ((m:Int)<127)=true:=decide_eq_true (by omega);have hx:¬m<l.length:=by omega
   clear h h0 hm2 hml;exact x62b
  have d1:decide ((m:Int)<127)=true:=decide_eq_true (by omega);have d2:decide ((m:Int)<(l.length:Int))=true:=decide_eq_true (by omega);have d3:((l[m].toNat:Int)==(l[0].toNat:Int))=false:=by simp;exact fun e=>h2 (UInt8.toNat_inj.1 (by omega))
  have hc1:w.cell? ⟨ab,ao+m,none⟩=some (bv l[m]):=by
   obtain⟨b1,o1,e1,hs1,hc2⟩:=HBO.out m h1;injection e1 with e1;injection e1 with e3 e4;subst e3 e4;exact hc2
  clear h2 hm2 hml;exact x62b
theorem elChunksB:El Tryz.prog 32 39 5 2513169434916:=⟨Tryz.underlying32,by
 obtain⟨i,h⟩:=info_parts (P:=Tryz.prog) (e:=39) (z:=.agg #[.int .i64 0,.int .i64 0,.int .i64 0,.int .i64 0,.slice none 0 0]) (size:=5) (bytes:=56) (by kernel_rfl);exact⟨i,_,h.1,h.2.1,h.2.2.1,by omega,rfl⟩,by omega⟩
theorem elChunks:El Tryz.prog 32 39 5:=⟨Tryz.underlying32,by
 obtain⟨i,h⟩:=info_parts (P:=Tryz.prog) (e:=39) (z:=.agg #[.int .i64 0,.int .i64 0,.int .i64 0,.int .i64 0,.slice none 0 0]) (size:=5) (bytes:=56) (by kernel_rfl);exact⟨i,_,h.1,h.2.1,h.2.2.1,by omega,rfl⟩,by omega⟩
theorem equalBytes_calls(A B:OA)(c d:Nat)(l m:LU)(w:World)(hl:l.length<=140737488351232)(hm:m.length<=140737488351232)(ha:Bts w A l)(hb:Bts w B m):
  Calls Tryz.prog 39 #[.slice A l.length c,.slice B m.length d] w (RetN w (.bool (decide (l=m)))):=by
 by_cases hne:l.length=m.length
 ·have hdl:((l.length:Int) !=(m.length:Int))=false:=by simp[hne]
  have HE:=qH hne;have hm1:l.length<=m.length:=by omega
  have hm1:m.length<=l.length:=by omega
  clear hne;go_enter Tryz.func39,Tryz.ntmps39
  go_wp2
  go_loopw [5,13] (fun u i wr=>∃k n:Nat,k<=l.length∧i=.int .i64 k∧l.take k=m.take k∧w.drewN n=wr) (fun _ i _=>l.length-(intOf i).toNat)
  case atStart=>exact⟨0,0,Nat.zero_le _,rfl,rfl,rfl⟩
  case round=>
   obtain⟨k,n,hk,rfl,ht,rfl⟩:=hrel;have HT:=qH ht;clear ht;by_cases hlt:k<l.length
   ·obtain⟨b1,o1,rfl,hs1,hc1⟩:=ha k hlt;obtain⟨b1,o1,rfl,hs1,hc1⟩:=hb k (by omega);by_cases he:l[k]=m[k]'(by omega)
    ·have hd:((l[k].toNat:Int) !=((m[k]'(by omega)).toNat:Int))=false:=by simp[he]
     have HX:=qH he;clear he;go_wp2_with fail;go_quiet (fail)
     go_wp2_with fail;go_roundw
     case rel=>exact⟨k+1,_,by omega,by go_num,take_eq_succ HT.out hlt (by omega) HX.out,rfl⟩
     case measure=>simp[intOf]<;>omega
    have hd:((l[k].toNat:Int) !=((m[k]'(by omega)).toNat:Int))=true:=by simp;exact fun e=>he (UInt8.toNat_inj.1 (by omega))
    have HX:=qH he;clear he;go_wp2_with fail;go_quiet (fail)
    go_wp2_with fail;go_ret;exact⟨ret_bool (by rw[decide_eq_false (ne_of_at hlt (by omega) HX.out)]),_,(World.drewN_drewN _ _ _).symm⟩
   go_wp2_with fail;go_ret;refine⟨ret_bool ?_,_,rfl⟩;have h:=HT.out;rw[List.take_of_length_le (by omega),List.take_of_length_le (by omega)]at h;rw[decide_eq_true h]
 have hdl:((l.length:Int) !=(m.length:Int))=true:=by simp;omega
 have HX:=qH hne;clear hne;go_enter Tryz.func39,Tryz.ntmps39
 go_wp2
 go_ret;exact⟨ret_bool (by rw[decide_eq_false (fun e=>HX.out (by rw[e]))]),0,rfl⟩
theorem x0f0(h:Y:=by
 rw[<-HR.out];by_cases e:l=m
 ·subst e;simp
 rw[decide_eq_false e,decide_eq_false (fun h=>e (by injection h))]):Y:=h
theorem x3tp(h:Y:=by
 go_enter Tryz.func101,Tryz.ntmps101;go_wp2_with fail;go_ret;exact⟨ret_bool HE.out.symm,((Below.refl _ _).alloc (Nat.le_refl _) _).alloc (by simp) _⟩):Y:=h
theorem x483(h:Y:=by
 go_wp2_with fail;refine HC.out.mono ?_;rintro e w1 ⟨rfl,hb1⟩;have HB1:=qH (HB.out.trans (hb1.mono HB.out.size));clear hb1;go_wp2_with fail;go_ret;exact⟨ret_bool HZ.out,HB1.out⟩):Y:=h
theorem stp_ne_at(h:x.at_≠y.at_):x≠y:=by rintro rfl;exact h rfl
theorem stp_ne_len(h:x.len≠y.len):x≠y:=by rintro rfl;exact h rfl
theorem stp_eq(h1:x.at_=y.at_)(h2:x.len=y.len):decide (x.data=y.data)=decide (x=y):=by
 obtain⟨a,l,d⟩:=x;obtain⟨b,m,e⟩:=y;simp only at h1 h2;subst h1 h2;simp
theorem same1_calls(x y:Stp)(B D:OA)(c d:Nat)(w:World)(hx:x.data.length<=140737488351232)(hy:y.data.length<=140737488351232)(hB:Bts w B x.data)(hD:Bts w D y.data):
  Calls Tryz.prog 101 #[.agg #[iv x.at_,iv x.len,.slice B x.data.length c],.agg #[iv y.at_,iv y.len,.slice D y.data.length d]] w (RetB w (.bool (decide (x=y)))):=by
 by_cases h1:x.at_=y.at_
 ·by_cases h2:x.len=y.len
  ·have q1:(x.at_==y.at_)=true:=by simp[h1]
   have q1:(x.len==y.len)=true:=by simp[h2]
   have HE:=qH (stp_eq h1 h2);have bl:=((Below.refl w.heap.size w).alloc (Nat.le_refl _) (.cells #[iv x.at_,iv x.len,.slice B x.data.length c] 121)).alloc (by simp) (.cells #[iv y.at_,iv y.len,.slice D y.data.length d] 121);have HC:=qH (equalBytes_calls B D c d x.data y.data _ hx hy (hB.stays bl) (hD.stays bl));have HB:=qH bl;clear h1 h2 hB hD bl;go_enter Tryz.func101,Tryz.ntmps101;go_wp2_with fail;refine HC.out.mono ?_;rintro e w1 ⟨rfl,n,rfl⟩;go_wp2_with fail;go_ret;exact⟨ret_bool HE.out,Below.drewN' HB.out n⟩
  ·have q1:(x.at_==y.at_)=true:=by simp[h1]
   have q1:(x.len==y.len)=false:=by simp[h2]
   have HE:=qH (decide_eq_false (stp_ne_len h2));clear h1 h2;exact x3tp
 have q1:(x.at_==y.at_)=false:=by simp[h1]
 have HE:=qH (decide_eq_false (stp_ne_at h1));clear h1;exact x3tp
theorem eqfOps_calls(A B:OA)(c d:Nat)(l m:List Stp)(w:World)(hl:l.length<=3518437208780)(hm:m.length<=3518437208780)(ha:Sps w A l)(hb:Sps w B m):
  Calls Tryz.prog 100 #[.slice A l.length c,.slice B m.length d,.func (Fn.func 101) #[] #[]] w (RetB w (.bool (decide (l=m)))):=by
 by_cases hne:l.length=m.length
 ·have hdl:((l.length:Int) !=(m.length:Int))=false:=by simp[hne]
  have HE:=qH hne;have hm1:l.length<=m.length:=by omega
  have hm1:m.length<=l.length:=by omega
  clear hne;go_enter Tryz.func100,Tryz.ntmps100;go_wp2_with fail;go_loopw [17] (fun i wr=>∃k:Nat,k<=l.length∧i=.int .i64 k∧Hid (l.take k=m.take k)∧Hid (Below w.heap.size w wr)) (fun i _=>l.length-(intOf i).toNat)
  case atStart=>exact⟨0,Nat.zero_le _,rfl,qH rfl,qH (Below.refl _ _)⟩
  case round=>
   obtain⟨k,hk,rfl,HT,HB⟩:=hrel;by_cases hlt:k<l.length
   ·obtain⟨b1,o1,B1,c1,rfl,hs1,p6,p1,p2,p3,p4,p5,-,-⟩:=(ha.stays HB.out).at_ hlt;obtain⟨b1,o1,B2,c2,rfl,hs1,r6,r1,r2,r3,r4,r5,-,-⟩:=(hb.stays HB.out).at_ (i:=k) (by omega);have hsz:=HB.out.size;have HX:Hid (∀e:l[k]=m[k]'(by omega),l.take (k+1)=m.take (k+1)):=qH fun e=>take_eq_succ HT.out hlt (by omega) e;have HN:Hid (∀e:l[k]≠m[k]'(by omega),l≠m):=qH fun e=>ne_of_at hlt (by omega) e;generalize l[k]=x at *
    generalize m[k]'(by omega)=y at *
    have hsb:=fun w2 (h:Below wr.heap.size wr w2)=>same1_calls x y B1 B2 c1 c2 w2 p4 r4 (p5.stays h) (r5.stays h);have HC:=qH hsb;clear hsb p5 r5;go_wp2_with fail;have bl:=((Below.refl wr.heap.size wr).alloc (Nat.le_refl _) (.cells #[iv x.at_,iv x.len,.slice B1 x.data.length c1] 121)).alloc (by simp) (.cells #[iv y.at_,iv y.len,.slice B2 y.data.length c2] 121);refine(HC.out _ bl).mono ?_;rintro e w1 ⟨rfl,hb1⟩;have HB1:Hid (Below w.heap.size w w1):=qH ((HB.out.trans (bl.mono hsz)).trans (hb1.mono (by simp;omega)));clear bl hb1;exact x6ww
   exact x99v
 have hdl:((l.length:Int) !=(m.length:Int))=true:=by simp;omega
 have HX:=qH hne;clear hne;go_enter Tryz.func100,Tryz.ntmps100;go_wp2_with fail;go_ret;exact⟨ret_bool (by rw[decide_eq_false (fun e=>HX.out (by rw[e]))]),Below.refl _ _⟩
theorem equalOps_calls(A B:OA)(c d:Nat)(l m:List Stp)(w:World)(hl:l.length<=3518437208780)(hm:m.length<=3518437208780)(ha:Sps w A l)(hb:Sps w B m):
  Calls Tryz.prog 73 #[.slice A l.length c,.slice B m.length d] w (RetB w (.bool (decide (l=m)))):=by
 go_enter Tryz.func73,Tryz.ntmps73;go_wp2_with fail;refine(eqfOps_calls A B c d l m w hl hm ha hb).mono ?_;exact x3rf
end Go.Proofs.YtefkfglkpebbmacGreat
