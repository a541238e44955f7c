/- Walks of functions, and plain words. No conditions. -/
import Derived.Test.YtefkfglkpebbmacPE1
set_option linter.unusedVariables false
set_option linter.unusedSimpArgs false
set_option maxRecDepth 100000
set_option maxHeartbeats 40000000
namespace Go.Proofs.Ytefkfglkpebbmac
open Go.RowKit
variable {Y:Prop}
variable {plain old b:LU} {out:List Stp} {w w0:World} {base go gp c d c' q k n m:Nat} {ds:List (Option Addr×Nat)} {A B A':OA} {xs ps:List Value} {cv:Nat->Value} {y:Value}
theorem x7dz(h:Y:=by
 go_enter Try.func16,Try.ntmps16;go_wp2_with fail;go_ret2;exact⟨rfl,Below.refl _ _⟩):Y:=h
def pend(plain:LU):List Stp:=if plain=[] then [] else [⟨0,0,plain⟩]
theorem pend_nil:pend []=[]:=rfl
theorem pend_one(h:plain≠[]):pend plain=[⟨0,0,plain⟩]:=by unfold pend;rw[if_neg h]
def lastLong(out:List Stp):Prop:=∀m o,out=m++[o]->0<o.len
theorem addByte_pend(x:UInt8)(h:lastLong out):addByte (out++pend plain) x=out++pend (plain++[x]):=by
 rw[pend_one (plain:=plain++[x]) (by simp)];by_cases e:plain=[]
 ·subst e;rw[pend_nil,List.append_nil];by_cases h1:out=[]
  ·subst h1;rfl
  obtain⟨m,o,rfl⟩:=snoc_of out h1;rw[addByte_snoc,if_pos (h m o rfl)];simp
 rw[pend_one e,addByte_snoc,if_neg (by simp)]
structure DfAt(w:World)(base go gp:Nat)(out:List Stp)(ds:List (Option Addr×Nat))(plain:LU)(A:OA)(c:Nat)(B:OA)(d:Nat):Prop where
 co:Box w go 23 (.slice A out.length c)
 cp:Box w gp 22 (.slice B plain.length d)
 oo:CRow w base out ds A c
 op:Own w base 5 1 B plain.length d (plain.map bv)
 ne:∀k,A.map (·.block)=some k->B.map (·.block)≠some k
 nd:∀(i:Nat) (e:Option Addr×Nat),ds[i]?=some e->∀k,e.1.map (·.block)=some k->base<=k∧B.map (·.block)≠some k
 lo:go<base
 lp:gp<base
 no:go<gp
 le:base<=w.heap.size
theorem DfAt.drewN(h:DfAt w base go gp out ds plain A c B d)(n:Nat):DfAt (w.drewN n) base go gp out ds plain A c B d:=
 ⟨h.co.drewN n,h.cp.drewN n,h.oo.drewN n,h.op.drewN n,h.ne,h.nd,h.lo,h.lp,h.no,h.le⟩
theorem DfAt.push{w2:World}{plain':LU}{B':OA}{d':Nat}{o:Stp}{e:Option Addr×Nat}{ob:Obj}
  (h:DfAt w base go gp out ds plain A c B d) (hown:Own w2 base 117 3 A' (out.length+1) c' (opCells out ds++opCell o e)) (hgr:(w.alloc ob).grownBy w2 (A.map (·.block))) (hbel:Below base (w.alloc ob) w2)
  (hor:A'.map (·.block)=A.map (·.block)∨A'.map (·.block)=some (w.alloc ob).heap.size) (hd:Bts w e.1 o.data) (hd2:o.data.length<=e.2) (he:∀k,e.1.map (·.block)=some k->base<=k∧k<w.heap.size∧A.map (·.block)≠some k∧(B'.map (·.block)≠some k))
  (hpl:(plain'=plain∧B'=B∧d'=d)∨(plain'=[]∧B'=none∧d'=0)):
  ∃ds',CRow w2 base (out++[o]) ds' A' c'∧Own w2 base 5 1 B' plain'.length d' (plain'.map bv)∧(∀k,A'.map (·.block)=some k->B'.map (·.block)≠some k)∧(∀(i:Nat) (x:Option Addr×Nat),ds'[i]?=some x->∀k,x.1.map (·.block)=some k->base<=k∧B'.map (·.block)≠some k)∧base<=w2.heap.size∧
   Box w2 go 23 (.slice A out.length c)∧Box w2 gp 22 (.slice B plain.length d)∧Below base w w2:=by
 have hba:Below w.heap.size w (w.alloc ob):=(Below.refl _ _).alloc (Nat.le_refl _) _;have hrow:=(h.oo.below hba).push hown hgr hor (hd.stays hba) hd2 (fun k hk=>⟨(he k hk).2.2.1,by simp;have:=(he k hk).2.1;omega⟩);have hbw:Below base w w2:=(hba.mono h.le).trans hbel;refine⟨_,hrow,?_,?_,?_,Nat.le_trans h.le hbw.size,(h.co.alloc ob).keep hbel h.lo,(h.cp.alloc ob).keep hbel h.lp,hbw⟩
 ·rcases hpl with ⟨rfl,rfl,rfl⟩|⟨rfl,rfl,rfl⟩
  ·refine(h.op.alloc ob).kept hgr ?_
   cases hk:B'.map (·.block)with
   |none=>exact .inl rfl
   |some k=>exact .inr fun e2=>h.ne k e2.symm hk
  ·exact Own.nil_ _ _ _ _
 ·intro k hk;rcases hpl with ⟨rfl,rfl,rfl⟩|⟨rfl,rfl,rfl⟩
  ·rcases hor with hor|hor
   ·rw[hor]at hk;exact h.ne k hk
   ·rw[hor]at hk;injection hk with hk;intro e1;have:=(h.op.block k e1).2;simp at hk;omega
  simp
 intro i x hx k hk;rcases snoc_at hx with hx|⟨rfl,rfl⟩
 ·rcases hpl with ⟨rfl,rfl,rfl⟩|⟨rfl,rfl,rfl⟩
  ·exact h.nd i x hx k hk
  ·exact⟨(h.nd i x hx k hk).1,by simp⟩
 exact⟨(he k hk).1,(he k hk).2.2.2⟩
def DflRet(w:World)(base go gp:Nat)(l:List Stp):Ending->World->Prop:=fun e w'=>e=.returned (.tuple #[])∧∃ds' A' c',DfAt w' base go gp l ds' [] A' c' none 0∧Below go w w'
theorem dflush_calls(h:DfAt w base go gp out ds plain A c B d)(hl:plain.length<=64)(ho:out.length<=1000):
  Calls Try.prog 88 #[.pointer (some ⟨gp,0,none⟩),.pointer (some ⟨go,0,none⟩)] w (DflRet w base go gp (out++pend plain)):=by
 have H:=qH h;have c1:=h.co.cell;have c2:=h.cp.cell;have f1:=h.co.free;have f2:=h.cp.free;have hgo:go<w.heap.size:=h.co.lt;have hgp:gp<w.heap.size:=h.cp.lt;have h1:=h.lo;have h2:=h.lp;have h3:=h.no;clear h;by_cases hp:plain=[]
 ·subst hp;rw[pend_nil,List.append_nil];simp only[List.length_nil,Int.ofNat_eq_natCast,Int.natCast_zero]at *
  go_enter Try.func88,Try.ntmps88;go_wp2_with fail;refine bodyPost_end (results_none rfl _ _ _) rfl ⟨rfl,ds,A,c,⟨H.out.co.other (by show gp≠go;omega) _,H.out.cp.set _,H.out.oo.setOther (j:=0) ?_ ?_ _,Own.nil_ _ _ _ _,fun k hk e=>(by cases e),fun i e he k hk=>⟨(H.out.nd i e he k hk).1,by simp⟩,h1,h2,h3,by simpa using H.out.le⟩,(Below.refl _ _).setCell (p:=⟨gp,0,none⟩) (by show go<=gp;omega) _⟩
  ·exact own_far H.out.oo.row h2
  exact fun i e he e2=>by have:=(H.out.nd i e he gp e2).1;omega
 rw[pend_one hp];have hp1:1<=plain.length:=List.length_pos_iff.2 hp;have hp2:(0:Int)<(plain.length:Int):=by omega
 clear hp;have hoa:=H.out.oo.row.alloc (.cells #[.int .i64 0,.int .i64 0,.slice B plain.length d] 117);have hs1:Src (w.alloc (.cells #[.int .i64 0,.int .i64 0,.slice B plain.length d] 117)) (some ⟨w.heap.size,0,none⟩) [.int .i64 0,.int .i64 0,.slice B plain.length d]:=src_blk (blk_top rfl);have hob:out.length+1<=137438953472:=by omega
 have hle:base<=(w.alloc (.cells #[.int .i64 0,.int .i64 0,.slice B plain.length d] 117)).heap.size:=by have:=H.out.le;simp;omega
 go_enter Try.func88,Try.ntmps88;go_wp2_with (at_builtin;go_must (refine wpList_app (w.alloc (.cells #[.int .i64 0,.int .i64 0,.slice B plain.length d] 117)) rfl _ _ 23 rfl elOps base A out.length c (opCells out ds) rfl hoa (some ⟨w.heap.size,0,none⟩) 1 1 [.int .i64 0,.int .i64 0,.slice B plain.length d] rfl hs1 rfl (by simp[Value.oneCell']) hob hle ?_;intro A' c' w2 hown hgr hbel hor);(obtain⟨ds',r1,r2,r3,r4,r5,r6,r7,r8⟩:=H.out.push (o:=⟨0,0,plain⟩) (e:=(B,d)) (plain':=[]) (B':=none) (d':=0) hown hgr hbel hor H.out.op.src.bts H.out.op.le (fun k hk=>⟨(H.out.op.block k hk).1,(H.out.op.block k hk).2,fun e=>H.out.ne k e hk,by simp⟩) (.inr ⟨rfl,rfl,rfl⟩));(have R1:=qH r1);(have R4:=qH r4);(have R5:=qH r5);(have R6:=qH r6);(have R7:=qH r7);(have R8:=qH r8);(have q1:=r6.cell);(have q2:=r6.free);(have q3:=r7.cell);(have q4:=r7.free);(have q5:=r6.lt);(have q6:=r7.lt);(have q7:¬gp=go:=by omega);(clear hown hgr hbel hor r1 r2 r3 r4 r5 r6 r7 r8 hoa hs1 hob hle c1 c2 f1 f2));have s1:CRow (w2.setCell ⟨go,0,none⟩ (.slice A' (out.length+1) c')) base (out++[⟨0,0,plain⟩]) ds' A' c':=R1.out.setOther (j:=0) (own_far R1.out.row h1) (fun i e he e2=>by have:=(R4.out i e he go e2).1;omega) _;have s2:=s1.setOther (j:=0) (own_far s1.row h2) (fun i e he e2=>by have:=(R4.out i e he gp e2).1;omega) (.slice none 0 0);have e1:(out++[(⟨0,0,plain⟩:Stp)]).length=out.length+1:=by simp
 exact bodyPost_end (results_none rfl _ _ _) rfl ⟨rfl,ds',A',c',⟨by rw[e1];exact(R6.out.set _).other (by show gp≠go;omega) _,(R7.out.other (by show go≠gp;omega) _).set _,s2,Own.nil_ _ _ _ _,fun k hk e=>(by cases e),fun i e he k hk=>⟨(R4.out i e he k hk).1,by simp⟩,h1,h2,h3,by simpa using R5.out⟩,((R8.out.mono (Nat.le_of_lt h1)).setCell (p:=⟨go,0,none⟩) (Nat.le_refl _) _).setCell (p:=⟨gp,0,none⟩) (by show go<=gp;omega) _⟩
theorem lastLong_nil:lastLong []:=fun m o e=>by simp at e
theorem lastLong_snoc(l:List Stp){o:Stp}(h:0<o.len):lastLong (l++[o]):=fun m p e=>by
 have:=List.append_inj' e rfl;obtain⟨_,e1⟩:=this;injection e1 with e1;rw[<-e1];exact h
theorem diffN_succ(old b:LU)(q:Nat):diffN old b (q+1)=diffStep old b (diffN old b q):=rfl
structure DfPt(old b:LU)(q k:Nat)(out:List Stp)(plain:LU):Prop where
 at_:(diffN old b q).1=k
 got:(diffN old b q).2=out++pend plain
 long:lastLong out
theorem DfPt.plainLe(h:DfPt old b q k out plain):plain.length<=b.length:=by
 have hg:=(diffN_inv old b q).gives;rw[h.got]at hg;by_cases e:plain=[]
 ·rw[e];exact Nat.zero_le _
 have:=data_le old (out++pend plain) ⟨0,0,plain⟩ (by rw[pend_one e];simp);rw[hg]at this;simp at this;omega
theorem DfPt.outLe(h:DfPt old b q k out plain):out.length<=q:=by
 have:=diffN_len old b q;rw[h.got,List.length_append]at this;omega
theorem DfPt.long_step(h:DfPt old b q k out plain)(hk:k<b.length)(h4:4<=(longest old b k).2):
  DfPt old b (q+1) (k+(longest old b k).2) (out++pend plain++[⟨(longest old b k).1,(longest old b k).2,[]⟩]) []:=by
 have e:=diffStep_long (old:=old) (b:=b) (p:=diffN old b q) (by rw[h.at_];exact hk) (by rw[h.at_];exact h4);refine⟨by rw[diffN_succ,e,h.at_],by rw[diffN_succ,e,h.at_,h.got,pend_nil,List.append_nil],lastLong_snoc _ (by simp;omega)⟩
theorem DfPt.byte_step(h:DfPt old b q k out plain)(hk:k<b.length)(h4:¬4<=(longest old b k).2):
  DfPt old b (q+1) (k+1) out (plain++[b[k]]):=by
 have e:=diffStep_byte (old:=old) (b:=b) (p:=diffN old b q) (by rw[h.at_];exact hk) (by rw[h.at_];exact h4);refine⟨by rw[diffN_succ,e,h.at_],?_,h.long⟩;rw[diffN_succ,e,h.at_,h.got,addByte_pend _ h.long];rw[List.getD_eq_getElem?_getD,List.getElem?_eq_getElem hk];rfl
theorem DfPt.stop(h:DfPt old b q k out plain)(hk:¬k<b.length):out++pend plain=diffed old b:=by
 rw[<-h.got];exact diffN_end old b q (by rw[h.at_];exact hk)
theorem DfPt.qle(h:DfPt old b q k out plain)(hk:k<b.length):q<=k:=by
 have:=diffN_mono old b q (by rw[h.at_];exact hk);rw[h.at_]at this;exact this
theorem refDiffed_many(A B:OA)(c d:Nat)(old b:LU)(w:World)(h:64<old.length∨64<b.length)(ho:old.length<=140737488351232)(hl:b.length<=140737488351232):
  Calls Try.prog 16 #[.slice A old.length c,.slice B b.length d] w (RetB w (.tuple #[.slice none 0 0,iv 1])):=by
 by_cases h1:(64:Int)<(old.length:Int)
 ·exact x7dz
 have h2:(64:Int)<(b.length:Int):=by omega
 clear h;exact x7dz
theorem refDiffed3_calls(Ao B0:OA)(c0 d0:Nat)(old b:LU)(w:World)(hml:ML w)(hc0:old.length<=c0)(hd0:b.length<=d0)(ho:old.length<=64)(hb:b.length<=64)(hA:Bts w Ao old)(hB:Bts w B0 b):
  Calls Try.prog 16 #[.slice Ao old.length c0,.slice B0 b.length d0] w (OpRet3 w (diffed old b) 0):=by
 have h1:¬(64:Int)<(old.length:Int):=by omega
 have h2:¬(64:Int)<(b.length:Int):=by omega
 have HOL:=qH hA;have HBT:=qH hB;have HML:=qH hml;clear hA hB hml;go_enter Try.func16,Try.ntmps16;go_wp2_with fail;have hpk:DfAt ((w.alloc (.cells #[.slice none 0 0] 23)).alloc (.cells #[.slice none 0 0] 22)) (w.heap.size+2) w.heap.size (w.heap.size+1) [] [] [] none 0 none 0:=
  ⟨blk_old (blk_top rfl),blk_top (by simp),CRow.nil _ _,Own.nil_ _ _ _ _,(fun k hk e=>by cases e),(fun i e h=>by simp at h),by omega,by omega,by omega,by simp⟩
 have HPK:=qH hpk;have HB2:Hid (Below w.heap.size w ((w.alloc (.cells #[.slice none 0 0] 23)).alloc (.cells #[.slice none 0 0] 22))):=qH (((Below.refl _ _).alloc (Nat.le_refl _) _).alloc (by simp) _);clear hpk;generalize (w.alloc (.cells #[.slice none 0 0] 23)).alloc (.cells #[.slice none 0 0] 22)=w0 at *
 generalize hgo:w.heap.size=go at *
 have hog:go<go+1:=by omega
 generalize hgp:go+1=gp at *
 have hlo:go<go+2:=by omega
 have hlp:gp<go+2:=by omega
 generalize hba:go+2=base at *
 have HGO:=qH hgo;clear hgo hgp hba;go_loopw [9] (fun i wr=>∃(q k:Nat) (out:List Stp) (ds:List (Option Addr×Nat)) (plain:LU) (A B:OA) (c d:Nat),i=.int .i64 (k:Int)∧k<=b.length∧Hid (DfPt old b q k out plain)∧Hid (DfAt wr base go gp out ds plain A c B d)∧Hid (Below go w wr)) (fun i _=>b.length-(intOf i).toNat)
 case atStart=>exact⟨0,0,[],[],[],none,none,0,0,rfl,Nat.zero_le _,qH ⟨rfl,rfl,lastLong_nil⟩,HPK,HB2⟩
 case round=>
  clear HPK HB2;rename World=>wo;obtain⟨q,k,out,ds,plain,A,B,c,d,rfl,hk,HT,HP,HB⟩:=hrel;have hpl:=HT.out.plainLe;by_cases hlt:k<b.length
  ·have hq:=HT.out.qle hlt;have hol:=HT.out.outLe;have hloc:=refLongest_calls Ao B0 c0 d0 old b wo k (HML.out.stays (HGO.out▸HB.out)) hc0 hd0 ho hb hk (HOL.out.stays (HGO.out▸HB.out)) (HBT.out.stays (HGO.out▸HB.out));have hin:=longest_in old b k;have HLOC:=qH hloc;have HIN:=qH hin;obtain⟨m,hm⟩:∃m,(longest old b k).1=m:=⟨_,rfl⟩;obtain⟨n,hn⟩:∃n,(longest old b k).2=n:=⟨_,rfl⟩;rw[hm,hn]at HLOC HIN;obtain⟨in1,in2⟩:=HIN.out;have HMN:=qH (And.intro hm hn);clear hloc hin hm hn HIN;have dl:decide ((k:Int)<(b.length:Int))=true:=decide_eq_true (by omega);have HPX:Hid (∀nd,DfAt (wo.drewN nd) base go gp out ds plain A c B d∧Below go w (wo.drewN nd)):=qH (fun nd=>⟨HP.out.drewN nd,Below.drewN' HB.out nd⟩);go_wp2_with fail;refine HLOC.out.mono ?_;rintro e wy ⟨rfl,nd,rfl⟩;obtain⟨hpx,hbx⟩:=HPX.out nd;clear HLOC;by_cases h3:4<=n
   ·have d1:decide ((3:Int)<(n:Int))=true:=decide_eq_true (by omega);have hst:=HT.out.long_step hlt (by rw[HMN.out.2];exact h3);rw[HMN.out.1,HMN.out.2]at hst;obtain⟨o1,hO1⟩:∃o1,out++pend plain=o1:=⟨_,rfl⟩;rw[hO1]at hst;have HST:=qH hst;have HO1:=qH hO1;have hkn:IntKind.i64.wrap ((k:Int)+(n:Int))=(k:Int)+(n:Int):=IntWalk.i64_in _ (by omega);clear hst hO1;go_wp2_with fail;refine(dflush_calls hpx (by omega) (by omega)).mono ?_;rintro e w1 ⟨rfl,ds1,A1,c1,hp1,hb1⟩;rw[HO1.out]at hp1;have HP1:=qH hp1;have HB1:Hid (Below go w w1):=qH (hbx.trans hb1);have q3:=hp1.co.cell;have q4:=hp1.co.free;have hoa:=hp1.oo.row.alloc (.cells #[.int .i64 (m:Int),.int .i64 (n:Int),.slice none 0 0] 117);have hs1:Src (w1.alloc (.cells #[.int .i64 (m:Int),.int .i64 (n:Int),.slice none 0 0] 117)) (some ⟨w1.heap.size,0,none⟩) [.int .i64 (m:Int),.int .i64 (n:Int),.slice none 0 0]:=src_blk (blk_top rfl);have hob:o1.length+1<=137438953472:=by have:=HST.out.outLe;simp at this⊢;omega
    have hle:base<=(w1.alloc (.cells #[.int .i64 (m:Int),.int .i64 (n:Int),.slice none 0 0] 117)).heap.size:=by have:=hp1.le;simp;omega
    clear hp1 hb1 hpx hbx HPX HP;go_wp2_with (at_builtin;go_must (refine wpList_app (w1.alloc (.cells #[.int .i64 (m:Int),.int .i64 (n:Int),.slice none 0 0] 117)) rfl _ _ 23 rfl elOps base A1 o1.length c1 (opCells o1 ds1) rfl hoa (some ⟨w1.heap.size,0,none⟩) 1 1 [.int .i64 (m:Int),.int .i64 (n:Int),.slice none 0 0] rfl hs1 rfl (by simp[Value.oneCell']) hob hle ?_;intro A' c' w2 hown hgr hbel hor);(obtain⟨ds',r1,r2,r3,r4,r5,r6,r7,r8⟩:=HP1.out.push (o:=⟨m,n,[]⟩) (e:=(none,0)) (plain':=[]) (B':=none) (d':=0) hown hgr hbel hor (Bts.nil _ _) (Nat.le_refl _) (fun k hk=>(by cases hk)) (.inr ⟨rfl,rfl,rfl⟩));(have R1:=qH r1);(have R4:=qH r4);(have R5:=qH r5);(have R6:=qH r6);(have R7:=qH r7);(have R8:=qH r8);(have q1:=r6.cell);(have q2:=r6.free);(have q5:=r6.lt);(clear hown hgr hbel hor r1 r2 r3 r4 r5 r6 r7 r8 hoa hs1 hob hle q3 q4));have e1:(o1++[(⟨m,n,[]⟩:Stp)]).length=o1.length+1:=by rw[List.length_append];rfl
    have hfin:DfAt (w2.setCell ⟨go,0,none⟩ (.slice A' (o1.length+1) c')) base go gp (o1++[⟨m,n,[]⟩]) ds' [] A' c' none 0:=
     ⟨by rw[e1];exact R6.out.set _,R7.out.other (by show go≠gp;omega) _,R1.out.setOther (j:=0) (own_far R1.out.row hlo) (fun i e he e2=>by have:=(R4.out i e he go e2).1;omega) _,Own.nil_ _ _ _ _,fun k hk e=>(by cases e),fun i e he k hk=>⟨(R4.out i e he k hk).1,by simp⟩,hlo,hlp,hog,by simpa using R5.out⟩
    have HFIN:=qH hfin;have HBF:Hid (Below go w (w2.setCell ⟨go,0,none⟩ (.slice A' (o1.length+1) c'))):=qH ((HB1.out.trans (R8.out.mono (Nat.le_of_lt hlo))).setCell (p:=⟨go,0,none⟩) (Nat.le_refl _) _);clear hfin e1;go_roundw
    case rel=>exact⟨q+1,k+n,_,ds',[],A',none,c',0,by go_num,by omega,HST,HFIN,HBF⟩
    case measure=>simp[intOf];omega
   have d1:decide ((3:Int)<(n:Int))=false:=decide_eq_false (by omega);have hst:=HT.out.byte_step hlt (by rw[HMN.out.2];exact h3);have HST:=qH hst;clear hst;obtain⟨ab,ao,rfl,hab,hxc⟩:=(HBT.out.stays (HGO.out▸hbx)) k hlt;have HXC:=qH hxc;have HBOX:=qH hpx.cp;have HCO:=qH hpx.co;have HCP:=qH hpx.cp;have HOA:=qH hpx.oo;have HOW:=qH hpx.op;have HNE:=qH hpx.ne;have HND:=qH hpx.nd;have HNB:=qH (And.intro (own_far hpx.op hlo) (own_far hpx.op hlp));have hle:=hpx.le;have HBX:=qH hbx;clear hxc hpx hbx HPX HP;go_wp2_with fail;generalize hwx:wo.drewN nd=wx at *
   refine wp_region_mix (by kernel_rfl) (some 45::some 46::some 47::some 48::some 49::some 50::some 51::none::[]) (none::none::none::none::none::some 0::some 1::some 2::[]) (.slice B plain.length d::.slice (some ⟨ab,ao,none⟩) b.length d0::.int .i64 (k:Int)::.pointer (some ⟨ab,ao+k,none⟩)::bv b[k]::undef::undef::undef::[]) 3 (bxJ wx base B plain.length d (plain.map bv) [bv b[k]] 5 6 (fun w=>∃A2 c2 wq,w=wq.setCell ⟨gp,0,none⟩ (.slice A2 (plain.length+1) c2)∧Own wq base 5 1 A2 (plain.length+1) c2 (plain.map bv++[bv b[k]])∧Below base wx wq∧(∀q,q<wx.heap.size->B.map (·.block)≠some q->wq.heap[q]?=wx.heap[q]?)∧(A2.map (·.block)=B.map (·.block)∨∀q,A2.map (·.block)=some q->wx.heap.size<=q))) 57 rfl rfl (by decide+kernel) (by decide+kernel) (by decide+kernel) (by decide+kernel) rfl rfl (by decide+kernel) (by decide+kernel) (rfl) ?_ ?_
   ·refine⟨?_,?_,?_,?_,?_,?_,?_,?_,trivial⟩
    ·intro done cv k1 a wq hw h hJ hn;have e1:=mx_old (t:=7) (v:=.pointer (some ⟨gp,0,none⟩)) h rfl rfl;have hk:=hn 6 _ 1 rfl rfl (by decide);have c1:=bxJ_box hk hJ HBOX.out;have c2:=c1.cell;go_simp
    ·intro done cv k2 a wq hw h hJ hn;have e1:=mx_old (t:=1) (v:=.slice (some ⟨ab,ao,none⟩) b.length d0) h rfl rfl;exact mx_move (ch_ev e1)
    ·intro done cv k1 a wq hw h hJ hn;have e1:=mx_old (t:=9) (v:=.int .i64 (k:Int)) h rfl rfl;exact mx_move (ch_ev e1)
    ·intro done cv k2 a wq hw h hJ hn;have e1:=mx_new (i:=1) (t:=46) h (hw 1 (by decide)) rfl rfl rfl;have e47:=mx_new (i:=2) (t:=47) h (hw 2 (by decide)) rfl rfl rfl;go_simp
    ·intro done cv k1 a wq hw h hJ hn;have e1:=mx_new (i:=3) (t:=48) h (hw 3 (by decide)) rfl rfl rfl;have hk:=hn 5 _ 0 rfl rfl (by decide);exact x87r
    ·intro done cv a wq hw h hJ;have e1:=mx_new (i:=4) (t:=49) h (hw 4 (by decide)) rfl rfl rfl;exact x859
    ·intro done cv a wq hw h hJ;have e1:=mx_new (i:=0) (t:=45) h (hw 0 (by decide)) rfl rfl rfl;have e50:=mx_cv (i:=5) (t:=50) h (hw 5 (by decide)) rfl rfl;obtain⟨rfl,y1⟩:=hJ;rw[y1]at e50;refine wp_app _ (.tmp 45) (.tmp 50) 22 rfl elBytes base B plain.length d (plain.map bv) (ch_ev e1) (HOW.out.drew.alloc _) (some ⟨wx.heap.size,0,none⟩) 1 1 [bv b[k]] (ch_ev e50) (src_blk (blk_top (by simp))) rfl (by simp[Value.oneCell']) (by omega) (by simp;omega) ?_;exact x1bo
    ·intro done cv a wq hw h hJ;have e1:=mx_old (t:=7) (v:=.pointer (some ⟨gp,0,none⟩)) h rfl rfl;have e51:=mx_cv (i:=6) (t:=51) h (hw 6 (by decide)) rfl rfl;obtain⟨A1,c1,y1,k3,k1,k2,k4⟩:=hJ;rw[y1]at e51;have b1:Box wq go _ _:=(k2 go HCO.out.lt HNB.out.1).trans HCO.out;have b2:Box wq gp _ _:=(k2 gp HCP.out.lt HNB.out.2).trans HCP.out;exact wp_ssl e1 e51 b2.cell b2.free ⟨undef,rfl,A1,c1,wq,rfl,k3,k1,k2,k4⟩
   rintro cv w1 ⟨A1,c2,wq,rfl,k3,k1,k2,k4⟩;have hsz:=k1.size;have b1:Box wq go 23 (.slice A out.length c):=(k2 go HCO.out.lt HNB.out.1).trans HCO.out;have b2:Box wq gp 22 (.slice B plain.length d):=(k2 gp HCP.out.lt HNB.out.2).trans HCP.out;have s1:CRow wq base out ds A c:=HOA.out.keep hsz (fun q hq h=>k2 q hq (by
    rcases h with h|⟨i,e,h1,h2⟩
    ·exact HNE.out q h
    exact(HND.out i e h1 q h2).2))
   have s2:=s1.setOther (j:=0) (own_far s1.row hlp) (fun i e he e2=>by have:=(HND.out i e he gp e2).1;omega) (.slice A1 (plain.length+1) c2);have e1:(plain++[b[k]]).length=plain.length+1:=by simp
   have far:∀q,q<wx.heap.size->B.map (·.block)≠some q->A1.map (·.block)≠some q:=fun q hq hn e=>by
    rcases k4 with h|h
    ·rw[h]at e;exact hn e
    have:=h q e;omega
   have hfin:DfAt (wq.setCell ⟨gp,0,none⟩ (.slice A1 (plain.length+1) c2)) base go gp out ds (plain++[b[k]]) A c A1 c2:=
    ⟨b1.other (by show gp≠go;omega) _,by rw[e1];exact b2.set _,s2,by rw[e1,List.map_append];exact k3.setCell_other (own_far k3 hlp) _,fun q hq=>far q (HOA.out.row.block q hq).2 (HNE.out q hq),fun i e he q hq=>⟨(HND.out i e he q hq).1,far q (HOA.out.off i e he q hq).2 (HND.out i e he q hq).2⟩,hlo,hlp,hog,by simp;omega⟩
   have HFIN:=qH hfin;have HBF:Hid (Below go w (wq.setCell ⟨gp,0,none⟩ (.slice A1 (plain.length+1) c2))):=qH ((HBX.out.trans (k1.mono (Nat.le_of_lt hlo))).setCell (p:=⟨gp,0,none⟩) (by show go<=gp;omega) _);have hkn:IntKind.i64.wrap ((k:Int)+1)=(k:Int)+1:=IntWalk.i64_in _ (by omega);clear hfin e1 far s1 s2 b1 b2 k1 k2 k3 k4;generalize wq.setCell ⟨gp,0,none⟩ (.slice A1 (plain.length+1) c2)=w4 at *
   simp only[mixAll,putAll_some,putAll_none,putAll_nil,List.getElem?_cons_zero,List.getElem?_cons_succ,Nat.zero_add,Nat.reduceAdd,List.setIfInBounds_toArray,List.set_cons_zero,List.set_cons_succ];go_wp2_with fail;go_roundw
   case rel=>exact⟨q+1,k+1,out,ds,plain++[b[k]],A,A1,c,c2,by go_num,by omega,HST,HFIN,HBF⟩
   case measure=>simp[intOf];omega
  obtain rfl:k=b.length:=by omega
  have hst:=HT.out.stop hlt;have hol:out.length<=(diffed old b).length:=by rw[<-hst];simp
  have hok:=diffed_ok old b ho hb;have hbd:∀o∈diffed old b,I64 o.at_∧I64 o.len∧o.data.length<=140737488351232:=fun o h=>by
   have h3:=hok.each o h;have h4:=data_le old (diffed old b) o h;rw[diffed_makes]at h4;have h5:=h3.2;unfold Stp.in_ at h5;exact⟨⟨by omega,by omega⟩,⟨by omega,by omega⟩,by omega⟩
  have hmany:=hok.many;have HST:=qH hst;have HBD:=qH hbd;have dl:decide ((b.length:Int)<(b.length:Int))=false:=by simp
  clear hst hbd hok;go_wp2_with fail;refine(dflush_calls HP.out (by omega) (by omega)).mono ?_;rintro e w1 ⟨rfl,ds1,A1,c1,hp1,hb1⟩;rw[HST.out]at hp1;have HP1:=qH hp1;have HB1:Hid (Below go w w1):=qH (HB.out.trans hb1);have q1:=hp1.co.cell;clear hp1 hb1;go_wp2_with fail;go_ret2;have hfr:=HP1.out.oo.fresh (fun i e h k hk=>(HP1.out.nd i e h k hk).1) HBD.out;exact⟨A1,c1,rfl,hfr.mono (by rw[HGO.out];omega),HP1.out.oo.row.le,HGO.out▸HB1.out⟩
section
variable (A:OA) (c:Nat) (l:LU) (w:World)
theorem refSumOn_calls(s:Int)(hs:0<=s)(hs':s<=65520)(hl:l.length<=140737488355328)(hr:Bts w A l):
  Calls Try.prog 140 #[iv s,.slice A l.length c] w (Ret w (iv (sumOn s l))):=by
 go_enter Try.func140,Try.ntmps140
 go_wp2
 go_loop [5,6,7] (fun p n i=>∃k:Nat,k<=l.length∧i=.int .i64 ((k:Int)-1)∧p=.int .i64 (pw (l.length-k))∧n=.int .i64 (sumOn 0 (l.drop k))) (fun _ _ i=>(intOf i+1).toNat)
 case atStart=>exact⟨l.length,Nat.le_refl _,rfl,by simp[pw],by simp[sumOn]⟩
 case round=>
  obtain⟨k,hk,rfl,rfl,rfl⟩:=hrel;have hb:=sumOn_bd 0 (l.drop k) (by omega);have hp:=pw_bd (l.length-k);by_cases hlt:0<k
  ·obtain⟨j,rfl⟩:∃j,k=j+1:=⟨k-1,by omega⟩;obtain⟨b,o,rfl,hbs,hc⟩:=hr j (by omega);have hx:=l[j].toNat_lt;have hj:((j:Int)+1-1).toNat=j:=by omega
   have HS:Hid (sumOn 0 (l.drop j)=(sumOn 0 (l.drop (j+1))+(l[j].toNat:Int)*pw (l.length-(j+1)))%65521):=sumOn_drop l j (by omega);have HP:Hid (pw (l.length-j)=pw (l.length-(j+1))*31%65521):=by
    have:=pw_succ (l.length-(j+1));rwa [show l.length-(j+1)+1=l.length-j by omega]at this
   have hm:0<=(l[j].toNat:Int)*pw (l.length-(j+1)):=Int.mul_nonneg (by omega) hp.1;have hm1:(l[j].toNat:Int)*pw (l.length-(j+1))<=256*65520:=Int.mul_le_mul (by omega) hp.2 hp.1 (by omega)
   go_wp2
   go_round
   case rel=>exact⟨j,by omega,rfl,by rw[HP.out],by rw[HS.out]⟩
   case measure=>simp[intOf]
  obtain rfl:k=0:=by omega
  have HF:=qH (sumOn_ref s l (by omega));have hm:0<=s*pw l.length:=Int.mul_nonneg hs (pw_bd _).1;have hm1:s*pw l.length<=65520*65520:=Int.mul_le_mul hs' (pw_bd _).2 (pw_bd _).1 (by omega);simp only[Nat.sub_zero,List.drop_zero]at hb hp⊢
  go_wp2
  go_ret;exact⟨ret_int (by rw[HF.out]),rfl⟩
theorem refSumOf_calls(hl:l.length<=140737488355328)(hr:Bts w A l):
  Calls Try.prog 96 #[.slice A l.length c] w (Ret w (iv (sumOn 1 l))):=by
 go_enter Try.func96,Try.ntmps96;go_wp2_with (go_at_call 140;refine(refSumOn_calls A c l _ 1 (by omega) (by omega) hl hr).mono ?_;rintro e w' ⟨rfl,rfl⟩);go_ret;exact⟨rfl,rfl⟩
end
theorem cloneChunks_calls(A:OA)(n c:Nat)(cs:List Value)(w:World)(hl:cs.length=n*5)(hn0:n<=2513169434916)(hr:Src w A cs)(h1:∀u∈cs,u.oneCell'=true):
  Calls Try.prog 82 #[.slice A n c] w (SlRet w 49 5 n cs):=by
 rcases A with _|ad
 ·have h1:cs.length=0:=by
   exact x5fs
  obtain rfl:n=0:=by omega
  obtain rfl:cs=[]:=List.eq_nil_of_length_eq_zero h1;have hn:=fun (wx:World) (a:OA) (n c n' c':Nat)=>Lib.run_eql_slice_nil (P:=Try.prog) wx 43 49 a n c n' c' Try.underlying43;clear h1 hl;go_enter Try.func82,Try.ntmps82
  go_wp2
  go_ret;exact⟨none,0,rfl,Own.nil_ _ _ _ _,Below.refl _ _⟩
 have hn:=fun (wx:World) (a:OA) (n c n' c':Nat)=>Lib.run_eql_slice_nil (P:=Try.prog) wx 43 49 a n c n' c' Try.underlying43;have ho:Own (w.alloc (.cells #[] 49)) w.heap.size 49 5 (some ⟨w.heap.size,0,none⟩) 0 0 []:=own_zero w _ _;have hs:=hr.stays ((Below.refl w.heap.size w).alloc (Nat.le_refl _) (.cells #[] 49));have hb1:0+n<=2513169434916:=by omega
 have hb2:w.heap.size<=(w.alloc (.cells #[] 49)).heap.size:=by simp
 have HL:=qH hl;clear hl;go_enter Try.func82,Try.ntmps82;go_wp2_with (at_builtin;refine wpList_app _ rfl _ _ 43 rfl elChunksB w.heap.size (some ⟨w.heap.size,0,none⟩) 0 0 [] rfl ho (some ad) n c cs rfl hs HL.out h1 hb1 hb2 ?_;intro A' c' w1 hown hg hb hx);exact x6v2
theorem x1i9(h:Y:=by
 go_wp2_with fail;have hba:=(bW w).alloc nl (.cells (patA p.from_ p.to_ p.old p.new_ p.size B p.ops.length d) 35);refine(K1.out _ (HP.out.stays hba)).mono ?_;rintro e w1 ⟨rfl,hb1⟩;have HB1:=qH (hba.trans (hb1.mono (by simp)));clear hb1;go_wp2_with fail;go_ret2;exact⟨none,0,[],rfl,GRow.nil _ _,Each.nil,HB1.out⟩):Y:=h
def apJ(w0:World)(base:Nat)(e:TypeId)(size:Nat)(A:OA)(n c:Nat)(xs ns:List Value)(m:Nat)(ib ia:Nat)(F:World->Prop):Nat->(Nat->Value)->World->Prop
 |0,_,w=>w=w0.drew
 |1,cv,w=>w=w0.drew.alloc (.cells ns.toArray e)∧cv ib=.slice (some ⟨w0.heap.size,0,none⟩) m m
 |2,cv,w=>∃A' c',cv ia=.slice A' (n+m) c'∧Own w base e size A' (n+m) c' (xs++ns)∧Below base w0 w∧(∀k,k<w0.heap.size->A.map (·.block)≠some k->w.heap[k]?=w0.heap[k]?)∧(A'.map (·.block)=A.map (·.block)∨∀k,A'.map (·.block)=some k->w0.heap.size<=k)
 |_,_,w=>F w
section
variable {w0 w w':World} {base size n c m ib ia k:Nat} {e T:TypeId} {A A':OA} {c':Nat} {xs ns:List Value} {F:World->Prop} {cv:Nat->Value}
theorem apJ_blk{g:Nat}{o:Obj}(hk:k<=1)(hJ:apJ w0 base e size A n c xs ns m ib ia F k cv w)(h:w0.heap[g]?=some o):w.heap[g]?=some o:=by
 match k,hk,hJ with
 |0,_,hJ=>obtain rfl:w=w0.drew:=hJ;exact h
 |1,_,⟨hJ,_⟩=>subst hJ;exact blk_old (w:=w0.drew) h
theorem apJ_app(hown:Own w' base e size A' (n+m) c' (xs++ns))(hgr:(w0.drew.alloc (.cells ns.toArray e)).grownBy w' (A.map (·.block)))(hbel:Below base (w0.drew.alloc (.cells ns.toArray e)) w')
  (hor:A'.map (·.block)=A.map (·.block)∨A'.map (·.block)=some (w0.drew.alloc (.cells ns.toArray e)).heap.size) (hle:base<=w0.heap.size):
  apJ w0 base e size A n c xs ns m ib ia F 2 (fun j=>if j=ia then .slice A' (n+m) c' else cv j) w':=by
 have hb1:Below base w0 (w0.drew.alloc (.cells ns.toArray e)):=((Below.refl _ _).drew).alloc hle _;exact x5lc
end
def lvlN:List Nat->(Nat->Bool)->Nat
 |[],_=>0
 |i::l,done=>if done i=true then l.length+1 else lvlN l done
def apF(w0:World)(base:Nat)(e:TypeId)(size:Nat)(A:OA)(n c:Nat)(xs ns:List Value)(m gp j:Nat)(w:World):Prop:=
 ∃A2 c2 wq,w=wq.setCell ⟨gp,j,none⟩ (.slice A2 (n+m) c2)∧Own wq base e size A2 (n+m) c2 (xs++ns)∧Below base w0 wq∧(∀k,k<w0.heap.size->A.map (·.block)≠some k->wq.heap[k]?=w0.heap[k]?)∧(A2.map (·.block)=A.map (·.block)∨∀k,A2.map (·.block)=some k->w0.heap.size<=k)
theorem apJ_any{size ib ia j g:Nat}{e:TypeId}{ns:List Value}{o:Obj}(hJ:apJ w0 base e size A n c xs ns m ib ia (apF w0 base e size A n c xs ns m gp j) k cv w)(h:w0.heap[g]?=some o)(hA:A.map (·.block)≠some g)(hg:g≠gp):w.heap[g]?=some o:=by
 match k,hJ with
 |0,hJ=>exact apJ_blk (k:=0) (F:=apF w0 base e size A n c xs ns m gp j) (Nat.zero_le _) hJ h
 |1,hJ=>exact apJ_blk (k:=1) (F:=apF w0 base e size A n c xs ns m gp j) (Nat.le_refl _) hJ h
 |2,⟨A2,c2,_,_,_,k2,_⟩=>exact(k2 g (blk_lt h) hA).trans h
 |q+3,⟨A2,c2,wq,e,_,_,k2,_⟩=>
  subst e;rw[Below.heap_setCell _ _ _ _ (fun e2=>hg e2)];exact(k2 g (blk_lt h) hA).trans h
theorem wp_callv{P:Program}{Q:Exit->Act->World->Prop}{K:Act->World->Prop}{R:Ending->World->Prop}{d:Option Tmp}{t:TypeId}{p:String}{af:Array Edge}{g:Option (Nat×Bool)}{a:Act}{f:FuncId}{x:Tmp}{cap:Array Value}{args:Array Operand}{ts:Array TypeId}{vals:Array Value}
  (hx:a.tmps[x]?=some (.func (Fn.func f) #[] cap)) (e:args.map a.eval++cap=vals) (hf:(callFunc f vals).run P w=.ok (.enter f vals) w) (h:Calls P f vals w R)
  (hk:∀e w',R e w'->∃v,e=.returned v∧K (a.put d v) w'):Oper.wp P ⟨d,.call {callee:=.value (.tmp x),args:=args,argTypes:=ts},t,p,af,g⟩ a w K Q:=by
 have e1:a.eval (.tmp x)=.func (Fn.func f) #[] cap:=by simp[Act.eval,hx]
 have hx:(execOp a.eval ⟨d,.call {callee:=.value (.tmp x),args:=args,argTypes:=ts},t,p,af,g⟩).run P w=(callFunc f vals).run P w:=by
  simp[execOp,resolve,e,e1,invoke,Deferred.ofValue]
 exact x7hu
theorem x09t(h:Y:=by
 have c1:=bxJ_box hk hJ HBOX.out;have c1:=c1.cell;go_simp):Y:=h
theorem x678(h:Y:=by
 intro done cv k1 a wq hw h hJ hn;have e1:=mx_old (t:=6) (v:=.int .i64 (k:Int)) h rfl rfl;exact mx_move (ch_ev e1)):Y:=h
theorem x6qp(h:Y:=by
 have hk:=hn 8 _ 3 rfl rfl (by decide);obtain⟨b1,b2⟩:=flJ_box HNA.out hk hJ HCO.out HCP.out;have c1:=b1.cell;have c1:=b2.cell;go_simp):Y:=h
theorem x6s8(h:Y:=by
 obtain⟨b1,o1,e1,_,hc1⟩:=hxc;injection e1 with e1;injection e1 with e3 e4;subst e3 e4;exact hc1):Y:=h
theorem x73e(h:Y:=by
 intro done cv k1 a wq hw h hJ hn;have e1:=mx_old (t:=0) (v:=.slice (some ⟨ab,ao,none⟩) b.length cb) h rfl rfl;exact mx_move (ch_ev e1)):Y:=h
structure PkAt(w:World)(base go gp:Nat)(out plain:LU)(A:OA)(c:Nat)(B:OA)(d:Nat):Prop where
 co:Box w go 22 (.slice A out.length c)
 cp:Box w gp 22 (.slice B plain.length d)
 oo:Own w base 5 1 A out.length c (out.map bv)
 op:Own w base 5 1 B plain.length d (plain.map bv)
 ne:∀k,A.map (·.block)=some k->B.map (·.block)≠some k
 lo:go<base
 lp:gp<base
 no:go≠gp
 le:base<=w.heap.size
def flJ(w0:World)(base go:Nat)(A:OA)(n c:Nat)(xs:List Value)(y:Value)(ps:List Value)(gp:Nat)(B:OA)(m d:Nat):Nat->(Nat->Value)->World->Prop
 |0,_,w=>Below base w0 w∧(∀k,k<w0.heap.size->A.map (·.block)≠some k->w.heap[k]?=w0.heap[k]?)∧Own w base 5 1 A n c xs
 |1,cv,w=>Below base w0 w∧(∀k,k<w0.heap.size->A.map (·.block)≠some k->w.heap[k]?=w0.heap[k]?)∧Own w base 5 1 A n c xs∧∃bb,cv 4=.slice (some ⟨bb,0,none⟩) 1 1∧w.heap[bb]?=some (.cells #[y] 5 (0,0))∧w0.heap.size<=bb
 |2,cv,w=>Below base w0 w∧(∀k,k<w0.heap.size->A.map (·.block)≠some k->w.heap[k]?=w0.heap[k]?)∧∃A1 c1,cv 5=.slice A1 (n+1) c1∧Own w base 5 1 A1 (n+1) c1 (xs++[y])∧(A1.map (·.block)=A.map (·.block)∨∀k,A1.map (·.block)=some k->w0.heap.size<=k)
 |3,cv,w=>Below base w0 w∧(∀k,k<w0.heap.size->A.map (·.block)≠some k->w.heap[k]?=w0.heap[k]?)∧∃A2 c2,cv 7=.slice A2 (n+1+m) c2∧Own w base 5 1 A2 (n+1+m) c2 (xs++[y]++ps)∧(A2.map (·.block)=A.map (·.block)∨∀k,A2.map (·.block)=some k->w0.heap.size<=k)
 |_,_,w=>∃A2 c2,Box w go 22 (.slice A2 (n+1+m) c2)∧Box w gp 22 (.slice B m d)∧Own w base 5 1 A2 (n+1+m) c2 (xs++[y]++ps)∧Below go w0 w
theorem flJ_box{v u:Value}{T:TypeId}(hA:A.map (·.block)≠some go∧A.map (·.block)≠some gp)(hk:k<=3)(hJ:flJ w0 base go A n c xs y ps gp B m d k cv w)(h1:Box w0 go T v)(h2:Box w0 gp T u):Box w go T v∧Box w gp T u:=by
 have key:∀k,k<w0.heap.size->A.map (·.block)≠some k->w.heap[k]?=w0.heap[k]?:=by
  match k,hk,hJ with
  |0,_,⟨_,h,_⟩=>exact h
  |1,_,⟨_,h,_⟩=>exact h
  |2,_,⟨_,h,_⟩=>exact h
  |3,_,⟨_,h,_⟩=>exact h
 exact⟨(key go h1.lt hA.1).trans h1,(key gp h2.lt hA.2).trans h2⟩
theorem flJ_one(hJ:flJ w0 base go A n c xs y ps gp B m d 0 cv w)(hle:base<=w0.heap.size):
  flJ w0 base go A n c xs y ps gp B m d 1 (fun j=>if j=4 then .slice (some ⟨w.heap.size,0,none⟩) 1 1 else cv j) (w.alloc (.cells #[y] 5)):=by
 obtain⟨k1,k2,k3⟩:=hJ;have hs:=k1.size;exact⟨k1.alloc (by omega) _,fun k hk hn=>(Below.heap_alloc w _ k (by omega)).trans (k2 k hk hn),k3.alloc _,_,rfl,blk_top rfl,hs⟩
theorem flJ_app1{w':World}(k1:Below base w0 w)(k2:∀k,k<w0.heap.size->A.map (·.block)≠some k->w.heap[k]?=w0.heap[k]?)
  (hown:Own w' base 5 1 A' (n+1) c' (xs++[y])) (hgr:w.grownBy w' (A.map (·.block))) (hbel:Below base w w') (hor:A'.map (·.block)=A.map (·.block)∨A'.map (·.block)=some w.heap.size):
  flJ w0 base go A n c xs y ps gp B m d 2 (fun j=>if j=5 then .slice A' (n+1) c' else cv j) w':=by
 have hs:=k1.size;refine⟨k1.trans hbel,fun k hk hn=>(hgr.block k (by omega) (fun e=>hn e.symm)).trans (k2 k hk hn),A',c',rfl,hown,?_⟩;rcases hor with h|h
 ·exact .inl h
 exact x55s
theorem flJ_app2{w':World}{A1:OA}(k1:Below base w0 w)(k2:∀k,k<w0.heap.size->A.map (·.block)≠some k->w.heap[k]?=w0.heap[k]?)
  (k4:A1.map (·.block)=A.map (·.block)∨∀k,A1.map (·.block)=some k->w0.heap.size<=k)
  (hown:Own w' base 5 1 A' (n+1+m) c' (xs++[y]++ps)) (hgr:w.grownBy w' (A1.map (·.block))) (hbel:Below base w w') (hor:A'.map (·.block)=A1.map (·.block)∨A'.map (·.block)=some w.heap.size):
  flJ w0 base go A n c xs y ps gp B m d 3 (fun j=>if j=7 then .slice A' (n+1+m) c' else cv j) w':=by
 have hs:=k1.size;refine⟨k1.trans hbel,fun k hk hn=>(hgr.block k (by omega) (fun e=>?_)).trans (k2 k hk hn),A',c',rfl,hown,?_⟩
 ·rcases k4 with h|h
  ·exact hn (h.symm.trans e.symm)
  ·have:=h k e.symm;omega
 rcases hor with h|h
 ·rcases k4 with h4|h4
  ·exact .inl (h.trans h4)
  ·exact .inr (fun k hk=>h4 k (h.symm.trans hk))
 exact x55s
theorem flJ_src{e:Nat}(h:Own w0 base e 1 B m d ps)(hne:∀k,A.map (·.block)=some k->B.map (·.block)≠some k)(k2:∀k,k<w0.heap.size->A.map (·.block)≠some k->w.heap[k]?=w0.heap[k]?):Src w B ps:=by
 intro i hi;obtain⟨b,o,rfl,hlt,hc⟩:=h.src i hi;have hk:=k2 b hlt (fun e=>hne b e rfl);refine⟨b,o,rfl,?_,(World.cell?_of_block hk).trans hc⟩;rcases Nat.lt_or_ge b w.heap.size with h|h
 ·exact h
 rw[Array.getElem?_eq_none h,Array.getElem?_eq_getElem hlt]at hk;cases hk
def FlRet(w:World)(base go gp:Nat)(out:LU):Ending->World->Prop:=fun e w'=>e=.returned (.tuple #[])∧∃A c,PkAt w' base go gp out [] A c none 0∧Below go w w'
theorem PkAt.noPlain{out:LU}{v:Value}(h1:Box w go 22 (.slice A out.length c))(h2:Box w gp 22 v)(h3:Own w base 5 1 A out.length c (out.map bv))(lo:go<base)(lp:gp<base)(no:go≠gp)(le:base<=w.heap.size):
  PkAt (w.setCell ⟨gp,0,none⟩ (.slice none 0 0)) base go gp out [] A c none 0:=
 ⟨h1.other (by show gp≠go;omega) _,h2.set _,h3.setCell_other (own_far h3 lp) _,Own.nil_ _ _ _ _,(fun k hk e=>by cases e),lo,lp,no,by simpa using le⟩
theorem flush_calls{out:LU}(h:PkAt w base go gp out plain A c B d)(hog:go<gp)(hl:plain.length<=127)(ho:out.length<=67108864):
  Calls Try.prog 141 #[.pointer (some ⟨gp,0,none⟩),.pointer (some ⟨go,0,none⟩)] w (FlRet w base go gp (out++flushed plain)):=by
 obtain⟨h1,h2,h3,h4,h5,h6,h7,h8,h9⟩:=h;have HCO:=qH h1;have HCP:=qH h2;have HOO:=qH h3;have HOP:=qH h4;have HNE:=qH h5;have HLE:=qH h9;have c1:=h1.cell;have c2:=h2.cell;have f1:=h1.free;have f2:=h2.free;have hgo:go<w.heap.size:=h1.lt;have hgp:gp<w.heap.size:=h2.lt;clear h1 h2 h3 h4 h5 h9;by_cases hp:plain=[]
 ·subst hp;have e:out++flushed []=out:=by simp[flushed]
  rw[e];simp only[List.length_nil,Int.ofNat_eq_natCast,Int.natCast_zero]at *
  go_enter Try.func141,Try.ntmps141;go_wp2_with fail;exact bodyPost_end (results_none rfl _ _ _) rfl ⟨rfl,A,c,PkAt.noPlain HCO.out HCP.out HOO.out h6 h7 h8 HLE.out,(Below.refl _ _).setCell (p:=⟨gp,0,none⟩) (by show go<=gp;omega) _⟩
 have e:out++flushed plain=out++(UInt8.ofNat plain.length::plain):=by unfold flushed;rw[if_neg hp]
 rw[e];have hp1:1<=plain.length:=by rcases plain with _|⟨x,r⟩;exact absurd rfl hp;simp
 have hp1:(0:Int)<(plain.length:Int):=by omega
 have HBV:Hid (bv (UInt8.ofNat plain.length)=.int .u8 (plain.length:Int)):=qH (by unfold bv;rw[ofNat_toNat _ (by omega)]);have HL1:Hid (IntKind.u8.wrap (plain.length:Int)=(plain.length:Int)):=qH (by unfold IntKind.wrap;simp[IntKind.signed,IntKind.bits];omega);have HNA:=qH (And.intro (own_far HOO.out h6) (own_far HOO.out h7));clear hp e;go_enter Try.func141,Try.ntmps141;go_wp2_with fail;refine wp_region_mix (by kernel_rfl) (some 5::some 6::some 7::some 8::some 9::some 10::some 11::some 12::none::[]) (none::none::none::none::some 0::some 1::none::some 2::some 3::[]) (.slice A out.length c::.slice B plain.length d::.int .i64 (plain.length:Int)::bv (UInt8.ofNat plain.length)::undef::undef::.slice B plain.length d::undef::undef::[]) 4 (flJ w base go A out.length c (out.map bv) (bv (UInt8.ofNat plain.length)) (plain.map bv) gp B plain.length d) 13 rfl rfl (by decide+kernel) (by decide+kernel) (by decide+kernel) (by decide+kernel) rfl rfl (by decide+kernel) (by decide+kernel) (⟨(Below.refl _ _).drew,fun _ _ _=>rfl,HOO.out.drew⟩) ?_ ?_
 ·refine⟨?_,?_,?_,?_,?_,?_,?_,?_,?_,trivial⟩
  ·intro done cv k a wq hw h hJ hn;have e1:=mx_old (t:=1) (v:=.pointer (some ⟨go,0,none⟩)) h rfl rfl;exact x6qp
  ·intro done cv k a wq hw h hJ hn;have e1:=mx_old (t:=0) (v:=.pointer (some ⟨gp,0,none⟩)) h rfl rfl;exact x6qp
  ·intro done cv k a wq hw h hJ hn;have e1:=mx_new (i:=1) (t:=6) h (hw 1 (by decide)) rfl rfl rfl;go_simp
  ·intro done cv k a wq hw h hJ hn;have e1:=mx_new (i:=2) (t:=7) h (hw 2 (by decide)) rfl rfl rfl;have hl1:=HL1.out;have hbv:=HBV.out;rw[hbv];go_simp
  ·intro done cv a wq hw h hJ;have e1:=mx_new (i:=3) (t:=8) h (hw 3 (by decide)) rfl rfl rfl;obtain⟨k1,k2,k3⟩:=hJ;exact wp_sb1 e1 ⟨_,rfl,flJ_one ⟨k1,k2,k3⟩ HLE.out⟩
  ·intro done cv a wq hw h hJ;have e1:=mx_new (i:=0) (t:=5) h (hw 0 (by decide)) rfl rfl rfl;have e9:=mx_cv (i:=4) (t:=9) h (hw 4 (by decide)) rfl rfl;obtain⟨k1,k2,k3,bb,y1,y2,y3⟩:=hJ;rw[y1]at e9;refine wp_app wq (.tmp 5) (.tmp 9) 22 rfl elBytes base A out.length c (out.map bv) (ch_ev e1) k3 (some ⟨bb,0,none⟩) 1 1 [bv (UInt8.ofNat plain.length)] (ch_ev e9) (src_blk y2) rfl (by simp[Value.oneCell']) (by omega) (Nat.le_trans HLE.out k1.size) ?_;intro A' c' w' hown hgr hbel hor;exact⟨_,rfl,flJ_app1 k1 k2 hown hgr hbel hor⟩
  ·intro done cv k a wq hw h hJ hn;have e1:=mx_old (t:=0) (v:=.pointer (some ⟨gp,0,none⟩)) h rfl rfl;exact x6qp
  ·intro done cv a wq hw h hJ;have e1:=mx_cv (i:=5) (t:=10) h (hw 5 (by decide)) rfl rfl;have e11:=mx_new (i:=6) (t:=11) h (hw 6 (by decide)) rfl rfl rfl;obtain⟨k1,k2,A1,c1,y1,k3,k4⟩:=hJ;rw[y1]at e1;have hsrc:=flJ_src HOP.out HNE.out k2;refine wp_app wq (.tmp 10) (.tmp 11) 22 rfl elBytes base A1 (out.length+1) c1 (out.map bv++[bv (UInt8.ofNat plain.length)]) (ch_ev e1) k3 B plain.length d (plain.map bv) (ch_ev e11) hsrc (by simp) (bv_one _) (by omega) (Nat.le_trans HLE.out k1.size) ?_;intro A' c' w' hown hgr hbel hor;exact⟨_,rfl,flJ_app2 k1 k2 k4 hown hgr hbel hor⟩
  ·intro done cv a wq hw h hJ;have e1:=mx_old (t:=1) (v:=.pointer (some ⟨go,0,none⟩)) h rfl rfl;have e12:=mx_cv (i:=7) (t:=12) h (hw 7 (by decide)) rfl rfl;obtain⟨b1,b2⟩:=flJ_box HNA.out (k:=3) (by omega) hJ HCO.out HCP.out;obtain⟨k1,k2,A1,c1,y1,k3,k4⟩:=hJ;rw[y1]at e12;exact wp_ssl e1 e12 b1.cell b1.free ⟨undef,rfl,A1,c1,b1.set _,b2.other (by show go≠gp;omega) _,k3.setCell_other (own_far k3 (by omega)) _,(k1.mono (Nat.le_of_lt h6)).setCell (p:=⟨go,0,none⟩) (Nat.le_refl _) _⟩
 rintro cv w1 ⟨A1,d1,g1,g2,g3,g4⟩;have hl1:out.length+1+plain.length=(out++(UInt8.ofNat plain.length::plain)).length:=by simp;omega
 rw[hl1]at g1 g3;have g3':Own w1 base 5 1 A1 (out++(UInt8.ofNat plain.length::plain)).length d1 ((out++(UInt8.ofNat plain.length::plain)).map bv):=by simpa using g3
 have H1:=qH g1;have H2:=qH g2;have H3:=qH g3';have H4:=qH g4;have q1:=g2.cell;have q1:=g2.free;have hgp1:gp<w1.heap.size:=g2.lt;clear g1 g2 g3 g3' g4 hl1 c1 c2 f1 f2;simp only[mixAll,putAll_some,putAll_none,putAll_nil,List.getElem?_cons_zero,List.getElem?_cons_succ,Nat.zero_add,Nat.reduceAdd,List.setIfInBounds_toArray,List.set_cons_zero,List.set_cons_succ];go_wp2_with fail;exact bodyPost_end (results_none rfl _ _ _) rfl ⟨rfl,A1,d1,PkAt.noPlain H1.out H2.out H3.out h6 h7 h8 (Nat.le_trans HLE.out H4.out.size),H4.out.setCell (p:=⟨gp,0,none⟩) (by show go<=gp;omega) _⟩
theorem PkAt.drewN{out:LU}(h:PkAt w base go gp out plain A c B d)(n:Nat):PkAt (w.drewN n) base go gp out plain A c B d:=
 ⟨h.co.drewN n,h.cp.drewN n,h.oo.drewN n,h.op.drewN n,h.ne,h.lo,h.lp,h.no,h.le⟩
theorem pack_calls(Ab:OA)(cb:Nat)(b:LU)(w:World)(hc:b.length<=cb)(hl:b.length<=1048576)(hB:Bts w Ab b):
  Calls Try.prog 99 #[.slice Ab b.length cb] w (BtRet w (packed b)):=by
 have hpl:=packed_len b;have HPL:Hid (∀(out:LU) (r pl:LU),out++packAt r pl=packed b->out.length<=67108000):=qH (fun out r pl e=>by have:=congrArg List.length e;simp at this;omega);have HBT:=qH hB;clear hB hpl;go_enter Try.func99,Try.ntmps99;go_wp2_with fail;have hpk:PkAt ((w.alloc (.cells #[.slice none 0 0] 22)).alloc (.cells #[.slice none 0 0] 22)) (w.heap.size+2) w.heap.size (w.heap.size+1) [] [] none 0 none 0:=
  ⟨blk_old (blk_top rfl),blk_top (by simp),Own.nil_ _ _ _ _,Own.nil_ _ _ _ _,(fun k hk e=>by cases e),by omega,by omega,by omega,by simp⟩
 have HPK:=qH hpk;have HB1:Hid (Below w.heap.size w ((w.alloc (.cells #[.slice none 0 0] 22)).alloc (.cells #[.slice none 0 0] 22))):=qH (((Below.refl _ _).alloc (Nat.le_refl _) _).alloc (by simp) _);clear hpk;generalize (w.alloc (.cells #[.slice none 0 0] 22)).alloc (.cells #[.slice none 0 0] 22)=w0 at *
 generalize hgo:w.heap.size=go at *
 have hog:go<go+1:=by omega
 generalize hgp:go+1=gp at *
 have hlo:go<go+2:=by omega
 have hlp:gp<go+2:=by omega
 have hno:go≠gp:=by omega
 have hgb:go<=go+2:=by omega
 generalize hba:go+2=base at *
 have HGO:=qH hgo;clear hgo hgp hba;go_loopw [6] (fun i wr=>∃(k:Nat) (out plain:LU) (A B:OA) (c d:Nat),i=.int .i64 k∧k<=b.length∧plain.length<127∧Hid (out++packAt (b.drop k) plain=packed b)∧Hid (PkAt wr base go gp out plain A c B d)∧Hid (Below go w wr)) (fun i _=>b.length-(intOf i).toNat)
 case atStart=>exact⟨0,[],[],none,none,0,0,rfl,Nat.zero_le _,by simp,qH rfl,HPK,HB1⟩
 case round=>
  clear HPK HB1;rename World=>wo;obtain⟨k,out,plain,A,B,c,d,rfl,hk,hpn,HE,HP,HB⟩:=hrel;by_cases hlt:k<b.length
  ·have dk:decide ((k:Int)<(b.length:Int))=true:=by simp;omega
   have ebd:b.drop k=b[k]::b.drop (k+1):=List.drop_eq_getElem_cons hlt;obtain⟨a1,a2,a3,a4,a5⟩:=alike_stop hlt;have HEB:=qH ebd;have HA1:=qH a4;obtain⟨ab,ao,rfl,hsb,hxk⟩:=(HBT.out.stays (HGO.out▸HB.out)) k hlt;have hbt:=HBT.out.stays (HGO.out▸HB.out);have HBO:=qH hbt;clear ebd a4 hbt;have HAL:Hid (alike (b.drop k)=alike (b.drop k)):=qH rfl;generalize hal:alike (b.drop k)=al at *
   have HALE:=qH hal;clear hal HAL;go_wp2_with fail;go_loopw [7] (fun n wr=>∃(m nd:Nat),n=.int .i64 (m:Int)∧1<=m∧m<=al∧wo.drewN nd=wr) (fun n _=>al-(intOf n).toNat)
   case atStart=>exact⟨1,0,rfl,by omega,a1,rfl⟩
   case round=>
    obtain⟨m,nd,rfl,hm1,hm2,rfl⟩:=hrel;by_cases hml:m<al
    ·have hx1:=HA1.out m hml;have hkm:k+m<b.length:=by omega
     rw[List.getElem?_eq_getElem hkm]at hx1;obtain⟨b1,o1,e1,hs1,hc1⟩:=HBO.out (k+m) hkm;injection e1 with e1;injection e1 with e3 e4;subst e3 e4;have hx2:b[k+m]=b[k]:=by injection hx1
     rw[hx2]at hc1;have d1:decide ((m:Int)<127)=true:=by simp;omega
     have d1:decide ((k:Int)+(m:Int)<(b.length:Int))=true:=by simp;omega
     have d1:((b[k].toNat:Int)==(b[k].toNat:Int))=true:=by simp
     have hw1:IntKind.i64.wrap ((k:Int)+(m:Int))=(k:Int)+(m:Int):=IntWalk.i64_in _ (by omega);clear hx1 hx2;exact x21e
    obtain rfl:m=al:=by omega
    have hw1:IntKind.i64.wrap ((k:Int)+(m:Int))=(k:Int)+(m:Int):=IntWalk.i64_in _ (by omega);by_cases h3:3<=m
    ·have hrun:=packAt_run (x:=b[k]) (r:=b.drop (k+1)) (plain:=plain) (by rw[<-HEB.out,HALE.out];exact h3);rw[<-HEB.out,HALE.out,List.drop_drop]at hrun;have hE1:(out++flushed plain++[UInt8.ofNat (128+m),b[k]])++packAt (b.drop (k+m)) []=packed b:=by
      rw[<-HE.out,hrun];simp
     have ho1:out.length<=67108000:=HPL.out _ _ _ HE.out;have ho1:(out++flushed plain).length<=67108000:=HPL.out (out++flushed plain) [] ([UInt8.ofNat (128+m),b[k]]++[]) |> fun h=>by
      have:=congrArg List.length hE1;have hq:=HPL.out (out++flushed plain++[UInt8.ofNat (128+m),b[k]]) _ _ hE1;simp at hq⊢;omega
     have HE1:=qH hE1;have HBV:Hid (bv (UInt8.ofNat (128+m))=.int .u8 (128+(m:Int))):=qH (by unfold bv;rw[ofNat_toNat _ (by omega)];simp);have HL1:Hid (IntKind.u8.wrap (m:Int)=(m:Int)):=qH (by unfold IntKind.wrap;simp[IntKind.signed,IntKind.bits];omega);have HL2:Hid (IntKind.u8.wrap (128+(m:Int))=128+(m:Int)):=qH (by unfold IntKind.wrap;simp[IntKind.signed,IntKind.bits];omega);clear hrun hE1 HE;rcases a5 with h|⟨h0,h⟩|⟨h0,h1,h2⟩;all_goals (first
      |(have d1:decide ((m:Int)<127)=false:=by simp;omega
        clear h hm2 hml;go_wp2_with fail;go_quiet (fail)
        go_wp2_with fail)
      |(have d1:decide ((m:Int)<127)=true:=by simp;omega
        have d2:decide ((k:Int)+(m:Int)<(b.length:Int))=false:=by simp;omega
        clear h hm2 hml;go_wp2_with fail;go_quiet (fail)
        go_wp2_with fail)
      |(have d1:decide ((m:Int)<127)=true:=by simp;omega
        have d2:decide ((k:Int)+(m:Int)<(b.length:Int))=true:=by simp;omega
        have d3:((b[k+m].toNat:Int)==(b[k].toNat:Int))=false:=by simp;exact fun e=>h2 (UInt8.toNat_inj.1 (by omega))
        have hc2:wo.cell? ⟨ab,ao+(k+m),none⟩=some (bv b[k+m]):=by
         obtain⟨b2,o2,e2,hs2,hc2⟩:=HBO.out (k+m) h1;injection e2 with e2;injection e2 with e3 e4;subst e3 e4;exact hc2
        clear h2 hm2 hml;go_wp2_with fail;go_quiet (fail)
        go_wp2_with fail))
     all_goals (
      have HPx:Hid (∀n,PkAt (wo.drewN n) base go gp out plain A c B d∧Below go w (wo.drewN n)):=qH (fun n=>⟨HP.out.drewN n,Below.drewN' HB.out n⟩);refine(flush_calls (HPx.out _).1 hog (by omega) (by omega)).mono ?_;rintro e wx ⟨rfl,A1,c1,hp1,hb1⟩;have HBx:Hid (Below go w wx):=qH ((HPx.out _).2.trans hb1);have hxc:=(HBT.out.stays (HGO.out▸HBx.out)) k hlt;have HXC:Hid (wx.cell? ⟨ab,ao+k,none⟩=some (bv b[k])):=qH (by
       exact x6s8)
      obtain⟨p1,p2,p3,p4,p5,p6,p7,p8,p9⟩:=hp1;have HCO:=qH p1;have HCP:=qH p2;have HOW:=qH p3;have HBOX:=qH p1;have HNA:=qH (And.intro (own_far p3 p6) (own_far p3 p7));have hle:=p9;clear hb1 hxc p1 p2 p3 p4 p5 HPx;go_wp2_with fail;refine wp_region_mix (by kernel_rfl) (some 42::some 43::some 44::some 45::some 46::some 47::some 48::some 49::some 50::some 51::none::[]) (none::none::none::none::none::none::none::none::some 0::some 1::some 2::[]) (.slice A1 (out++flushed plain).length c1::.int .i64 ((m:Nat):Int)::.int .u8 (m:Int)::bv (UInt8.ofNat (128+m))::.slice (some ⟨ab,ao,none⟩) b.length cb::.int .i64 (k:Int)::.pointer (some ⟨ab,ao+k,none⟩)::bv b[k]::undef::undef::undef::[]) 3 (bxJ wx base A1 (out++flushed plain).length c1 ((out++flushed plain).map bv) [bv (UInt8.ofNat (128+m)),bv b[k]] 8 9 (fun w=>∃A2 c2,Box w go 22 (.slice A2 ((out++flushed plain).length+2) c2)∧Box w gp 22 (.slice none 0 0)∧Own w base 5 1 A2 ((out++flushed plain).length+2) c2 ((out++flushed plain).map bv++[bv (UInt8.ofNat (128+m)),bv b[k]])∧Below go wx w)) 70 rfl rfl (by decide+kernel) (by decide+kernel) (by decide+kernel) (by decide+kernel) rfl rfl (by decide+kernel) (by decide+kernel) (rfl) ?_ ?_
      ·refine⟨?_,?_,?_,?_,?_,?_,?_,?_,?_,?_,?_,trivial⟩
       ·intro done cv k1 a wq hw h hJ hn;have e1:=mx_old (t:=3) (v:=.pointer (some ⟨go,0,none⟩)) h rfl rfl;have hk:=hn 9 _ 1 rfl rfl (by decide);exact x09t
       ·intro done cv k1 a wq hw h hJ hn;have e1:=mx_old (t:=7) (v:=.int .i64 ((m:Nat):Int)) h rfl rfl;exact mx_move (ch_ev e1)
       ·intro done cv k1 a wq hw h hJ hn;have e1:=mx_new (i:=1) (t:=43) h (hw 1 (by decide)) rfl rfl rfl;have hl1:=HL1.out;go_simp
       ·intro done cv k1 a wq hw h hJ hn;have e1:=mx_new (i:=2) (t:=44) h (hw 2 (by decide)) rfl rfl rfl;have hl1:=HL2.out;have hbv:=HBV.out;rw[hbv];go_simp
       ·exact x73e
       ·exact x678
       ·intro done cv k1 a wq hw h hJ hn;have e1:=mx_new (i:=4) (t:=46) h (hw 4 (by decide)) rfl rfl rfl;have e47:=mx_new (i:=5) (t:=47) h (hw 5 (by decide)) rfl rfl rfl;go_simp
       ·intro done cv k1 a wq hw h hJ hn;have e1:=mx_new (i:=6) (t:=48) h (hw 6 (by decide)) rfl rfl rfl;have hk:=hn 8 _ 0 rfl rfl (by decide);exact x87r
       ·intro done cv a wq hw h hJ;have e1:=mx_new (i:=3) (t:=45) h (hw 3 (by decide)) rfl rfl rfl;have e49:=mx_new (i:=7) (t:=49) h (hw 7 (by decide)) rfl rfl rfl;obtain rfl:wq=wx.drew:=hJ;exact wp_sb2 e1 e49 ⟨_,rfl,rfl,by simp⟩
       ·intro done cv a wq hw h hJ;have e1:=mx_new (i:=0) (t:=42) h (hw 0 (by decide)) rfl rfl rfl;have e50:=mx_cv (i:=8) (t:=50) h (hw 8 (by decide)) rfl rfl;obtain⟨rfl,y1⟩:=hJ;rw[y1]at e50;refine wp_app _ (.tmp 42) (.tmp 50) 22 rfl elBytes base A1 (out++flushed plain).length c1 ((out++flushed plain).map bv) (ch_ev e1) (HOW.out.drew.alloc _) (some ⟨wx.heap.size,0,none⟩) 2 2 [bv (UInt8.ofNat (128+m)),bv b[k]] (ch_ev e50) (src_blk (blk_top (by simp))) rfl (by simp[Value.oneCell']) (by omega) (by simp;omega) ?_;exact x1bo
       ·intro done cv a wq hw h hJ;have e1:=mx_old (t:=3) (v:=.pointer (some ⟨go,0,none⟩)) h rfl rfl;have e51:=mx_cv (i:=9) (t:=51) h (hw 9 (by decide)) rfl rfl;obtain⟨A1,c1,y1,k3,k1,k2,k4⟩:=hJ;rw[y1]at e51;have b1:Box wq go _ _:=(k2 go HCO.out.lt HNA.out.1).trans HCO.out;have b2:Box wq gp _ _:=(k2 gp HCP.out.lt HNA.out.2).trans HCP.out;exact wp_ssl e1 e51 b1.cell b1.free ⟨undef,rfl,A1,c1,b1.set _,b2.other (by show go≠gp;omega) _,k3.setCell_other (own_far k3 hlo) _,(k1.mono (Nat.le_of_lt hlo)).setCell (p:=⟨go,0,none⟩) (Nat.le_refl _) _⟩
      rintro cv w1 ⟨A1,c1,q1,q2,q3,q4⟩;have e1:(out++flushed plain++[UInt8.ofNat (128+m),b[k]]).length=(out++flushed plain).length+2:=by rw[List.length_append];rfl
      have hP1:PkAt w1 base go gp (out++flushed plain++[UInt8.ofNat (128+m),b[k]]) [] A1 c1 none 0:=
       ⟨by rw[e1];exact q1,q2,by rw[e1,List.map_append];exact q3,Own.nil_ _ _ _ _,(fun k hk e=>by cases e),hlo,hlp,hno,Nat.le_trans hle q4.size⟩
      have HP1:=qH hP1;have HB1:Hid (Below go w w1):=qH (HBx.out.trans q4);clear q1 q2 q3 q4 hP1 e1;simp only[mixAll,putAll_some,putAll_none,putAll_nil,List.getElem?_cons_zero,List.getElem?_cons_succ,Nat.zero_add,Nat.reduceAdd,List.setIfInBounds_toArray,List.set_cons_zero,List.set_cons_succ];go_wp2_with fail;go_roundw
      case rel=>exact⟨k+m,_,[],A1,none,c1,0,by go_num,by omega,by simp,HE1,HP1,HB1⟩
      case measure=>simp[intOf];omega)
    have HPX:Hid (∀n,PkAt (wo.drewN n) base go gp out plain A c B d∧Below go w (wo.drewN n)):=qH (fun n=>⟨HP.out.drewN n,Below.drewN' HB.out n⟩);have ho1:out.length<=67108000:=HPL.out _ _ _ HE.out;have h3':¬3<=alike (b[k]::b.drop (k+1)):=by rw[<-HEB.out,HALE.out];exact h3
    have HF:Hid (plain.length+1=127->(out++flushed (plain++[b[k]]))++packAt (b.drop (k+1)) []=packed b):=qH (fun e=>by rw[<-HE.out,HEB.out,packAt_full h3' e];simp);have HG:Hid (plain.length+1≠127->out++packAt (b.drop (k+1)) (plain++[b[k]])=packed b):=qH (fun e=>by rw[<-HE.out,HEB.out,packAt_byte h3' e]);clear HE h3';rcases a5 with h|⟨h0,h⟩|⟨h0,h1,h2⟩;all_goals (first
     |(have d1:decide ((m:Int)<127)=false:=by simp;omega
       clear h hm2 hml;go_wp2_with fail;go_quiet (fail)
       go_wp2_with fail)
     |(have d1:decide ((m:Int)<127)=true:=by simp;omega
       have d2:decide ((k:Int)+(m:Int)<(b.length:Int))=false:=by simp;omega
       clear h hm2 hml;go_wp2_with fail;go_quiet (fail)
       go_wp2_with fail)
     |(have d1:decide ((m:Int)<127)=true:=by simp;omega
       have d2:decide ((k:Int)+(m:Int)<(b.length:Int))=true:=by simp;omega
       have d3:((b[k+m].toNat:Int)==(b[k].toNat:Int))=false:=by simp;exact fun e=>h2 (UInt8.toNat_inj.1 (by omega))
       have hc2:wo.cell? ⟨ab,ao+(k+m),none⟩=some (bv b[k+m]):=by
        obtain⟨b2,o2,e2,hs2,hc2⟩:=HBO.out (k+m) h1;injection e2 with e2;injection e2 with e3 e4;subst e3 e4;exact hc2
       clear h2 hm2 hml;go_wp2_with fail;go_quiet (fail)
       go_wp2_with fail))
    all_goals (
     generalize hwx:wo.drewN _=wx;obtain⟨hpx,hbx⟩:PkAt wx base go gp out plain A c B d∧Below go w wx:=by rw[<-hwx];exact HPX.out _
     have HBx:=qH hbx;have hxc:=(HBT.out.stays (HGO.out▸HBx.out)) k hlt;have HXC:Hid (wx.cell? ⟨ab,ao+k,none⟩=some (bv b[k])):=qH (by
      exact x6s8)
     obtain⟨p1,p2,p3,p4,p5,p6,p7,p8,p9⟩:=hpx;have HCO:=qH p1;have HCP:=qH p2;have HOA:=qH p3;have HOW:=qH p4;have HNE:=qH p5;have HBOX:=qH p2;have HNB:=qH (And.intro (own_far p4 p6) (own_far p4 p7));have hle:=p9;clear hbx hxc p1 p2 p3 p4 p5 hwx;refine wp_region_mix (by kernel_rfl) (some 52::some 53::some 54::some 55::some 56::some 57::some 58::none::[]) (none::none::none::none::none::some 0::some 1::some 2::[]) (.slice B plain.length d::.slice (some ⟨ab,ao,none⟩) b.length cb::.int .i64 (k:Int)::.pointer (some ⟨ab,ao+k,none⟩)::bv b[k]::undef::undef::undef::[]) 3 (bxJ wx base B plain.length d (plain.map bv) [bv b[k]] 5 6 (fun w=>∃A2 c2,Box w go 22 (.slice A out.length c)∧Box w gp 22 (.slice A2 (plain.length+1) c2)∧Own w base 5 1 A out.length c (out.map bv)∧Own w base 5 1 A2 (plain.length+1) c2 (plain.map bv++[bv b[k]])∧(∀q,A.map (·.block)=some q->A2.map (·.block)≠some q)∧Below go wx w)) 70 rfl rfl (by decide+kernel) (by decide+kernel) (by decide+kernel) (by decide+kernel) rfl rfl (by decide+kernel) (by decide+kernel) (rfl) ?_ ?_
     ·refine⟨?_,?_,?_,?_,?_,?_,?_,?_,trivial⟩
      ·intro done cv k1 a wq hw h hJ hn;have e1:=mx_old (t:=4) (v:=.pointer (some ⟨gp,0,none⟩)) h rfl rfl;have hk:=hn 6 _ 1 rfl rfl (by decide);exact x09t
      ·exact x73e
      ·exact x678
      ·intro done cv k1 a wq hw h hJ hn;have e1:=mx_new (i:=1) (t:=53) h (hw 1 (by decide)) rfl rfl rfl;have e54:=mx_new (i:=2) (t:=54) h (hw 2 (by decide)) rfl rfl rfl;go_simp
      ·intro done cv k1 a wq hw h hJ hn;have e1:=mx_new (i:=3) (t:=55) h (hw 3 (by decide)) rfl rfl rfl;have hk:=hn 5 _ 0 rfl rfl (by decide);exact x87r
      ·intro done cv a wq hw h hJ;have e1:=mx_new (i:=4) (t:=56) h (hw 4 (by decide)) rfl rfl rfl;exact x859
      ·intro done cv a wq hw h hJ;have e1:=mx_new (i:=0) (t:=52) h (hw 0 (by decide)) rfl rfl rfl;have e57:=mx_cv (i:=5) (t:=57) h (hw 5 (by decide)) rfl rfl;obtain⟨rfl,y1⟩:=hJ;rw[y1]at e57;refine wp_app _ (.tmp 52) (.tmp 57) 22 rfl elBytes base B plain.length d (plain.map bv) (ch_ev e1) (HOW.out.drew.alloc _) (some ⟨wx.heap.size,0,none⟩) 1 1 [bv b[k]] (ch_ev e57) (src_blk (blk_top (by simp))) rfl (by simp[Value.oneCell']) (by omega) (by simp;omega) ?_;exact x1bo
      ·intro done cv a wq hw h hJ;have e1:=mx_old (t:=4) (v:=.pointer (some ⟨gp,0,none⟩)) h rfl rfl;have e58:=mx_cv (i:=6) (t:=58) h (hw 6 (by decide)) rfl rfl;obtain⟨A1,c1,y1,k3,k1,k2,k4⟩:=hJ;rw[y1]at e58;have b1:Box wq go _ _:=(k2 go HCO.out.lt HNB.out.1).trans HCO.out;have b2:Box wq gp _ _:=(k2 gp HCP.out.lt HNB.out.2).trans HCP.out;have o1:=HOA.out.same (w':=wq) (fun k hk=>k2 k (HOA.out.block k hk).2 (HNE.out k hk));have hne1:∀q,A.map (·.block)=some q->A1.map (·.block)≠some q:=fun q hq e=>by
        rcases k4 with h|h
        ·rw[h]at e;exact HNE.out q hq e
        have:=h q e;have:=(HOA.out.block q hq).2;omega
       exact wp_ssl e1 e58 b2.cell b2.free ⟨undef,rfl,A1,c1,b1.other (by show gp≠go;omega) _,b2.set _,o1.setCell_other (own_far o1 hlp) _,k3.setCell_other (own_far k3 hlp) _,hne1,(k1.mono (Nat.le_of_lt hlo)).setCell (p:=⟨gp,0,none⟩) (by show go<=gp;omega) _⟩
     rintro cv w1 ⟨A1,c2,q1,q2,q3,q4,q5,q6⟩;have e1:(plain++[b[k]]).length=plain.length+1:=by simp
     have hP1:PkAt w1 base go gp out (plain++[b[k]]) A c A1 c2:=
      ⟨q1,by rw[e1];exact q2,q3,by rw[e1,List.map_append];exact q4,q5,hlo,hlp,hno,Nat.le_trans hle q6.size⟩
     have HP1:=qH hP1;have HB1:Hid (Below go w w1):=qH (HBx.out.trans q6);have g1:=q2.cell;clear q1 q2 q3 q4 q5 q6 hP1 HXC HCO HCP HOA HOW HNE HBOX HNB;simp only[mixAll,putAll_some,putAll_none,putAll_nil,List.getElem?_cons_zero,List.getElem?_cons_succ,Nat.zero_add,Nat.reduceAdd,List.setIfInBounds_toArray,List.set_cons_zero,List.set_cons_succ];by_cases hf:plain.length+1=127
     ·have f1:((plain.length:Int)+1==127)=true:=by simp;omega
      have hfl:=flush_calls HP1.out hog (by rw[e1];omega) (by omega);have HFL:=qH hfl;have HF1:=qH (HF.out hf);clear hf hfl HF HG e1;go_wp2_with fail;refine HFL.out.mono ?_;rintro e w1 ⟨rfl,A1,c1,hp1,hb1⟩;have HP1:=qH hp1;have HB1:Hid (Below go w w1):=qH (HB1.out.trans hb1);clear hp1 hb1;go_wp2_with fail;go_roundw
      case rel=>exact⟨k+1,_,[],A1,none,c1,0,by go_num,by omega,by simp,HF1,HP1,HB1⟩
      case measure=>simp[intOf];omega
     have f1:((plain.length:Int)+1==127)=false:=by simp;omega
     have HG1:=qH (HG.out hf);have hl1:(plain++[b[k]]).length<127:=by omega
     clear hf HF HG e1;go_wp2_with fail;go_roundw
     case rel=>exact⟨k+1,out,plain++[b[k]],A,A1,c,c2,by go_num,by omega,hl1,HG1,HP1,HB1⟩
     case measure=>simp[intOf];omega)
  obtain rfl:k=b.length:=by omega
  have e1:b.drop b.length=[]:=List.drop_length;have hE:out++flushed plain=packed b:=by rw[<-HE.out,e1,packAt_nil]
  have hfl:=flush_calls HP.out hog (by omega) (by have:=HPL.out _ _ _ HE.out;omega);rw[hE]at hfl;have HFL:=qH hfl;clear hE hfl e1 HE;go_wp2_with fail;refine HFL.out.mono ?_;rintro e w1 ⟨rfl,A1,c1,hp1,hb1⟩;have g1:=hp1.co.cell;have HO1:Hid (Own w1 w.heap.size 5 1 A1 (packed b).length c1 ((packed b).map bv)):=qH (hp1.oo.mono (by have:=HGO.out;have:=hp1.lo;omega));have HB1:Hid (Below w.heap.size w w1):=qH (by rw[HGO.out];exact HB.out.trans hb1);clear hp1 hb1;go_wp2_with fail;go_ret;exact⟨A1,c1,rfl,HO1.out,HB1.out⟩
end Go.Proofs.Ytefkfglkpebbmac
