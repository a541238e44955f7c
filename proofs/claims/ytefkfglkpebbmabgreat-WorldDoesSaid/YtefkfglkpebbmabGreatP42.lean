/- Walks. No conditions. -/
import Derived.Test.YtefkfglkpebbmabGreatP9
import Derived.Test.YtefkfglkpebbmabGreatP14
set_option linter.all false
set_option maxRecDepth 100000
set_option maxHeartbeats 0
namespace Go.Proofs.YtefkfglkpebbmabGreat
open Go.RowKit
variable {Y:Prop}
variable {plain old b:LU} {out:List Stp} {w:World} {base go gp c d q k:Nat} {ds:List (Option Addr×Nat)} {A B:OA}
theorem x8xp(h:Y:=by
 go_enter Tryz.func81,Tryz.ntmps81;go_wp2_with fail;go_ret2;exact⟨rfl,Below.refl _ _⟩):Y:=h
def pend(plain:LU):List Stp:=if plain=[] then [] else [⟨0,0,plain⟩]
theorem pend_nil:pend []=[]:=rfl
theorem pend_one(h:plain≠[]):pend plain=[⟨0,0,plain⟩]:=by unfold pend;rw[if_neg h]
def lastLong(out:List Stp):Prop:=∀m o,out=m++[o]->0<o.len
theorem addByte_pend(x:UInt8)(h:lastLong out):addByte (out++pend plain) x=out++pend (plain++[x]):=by
 rw[pend_one (plain:=plain++[x]) (by simp)];by_cases e:plain=[]
 ·subst e;rw[pend_nil,List.append_nil];by_cases h1:out=[]
  ·subst h1;rfl
  obtain⟨m,o,rfl⟩:=snoc_of out h1;rw[addByte_snoc,if_pos (h m o rfl)];simp
 rw[pend_one e,addByte_snoc,if_neg (by simp)]
structure DfAt(w:World)(base go gp:Nat)(out:List Stp)(ds:List (Option Addr×Nat))(plain:LU)(A:OA)(c:Nat)(B:OA)(d:Nat):Prop where
 co:Box w go 34 (.slice A out.length c)
 cp:Box w gp 23 (.slice B plain.length d)
 oo:CRow w base out ds A c
 op:Own w base 5 1 B plain.length d (plain.map bv)
 ne:∀k,A.map (·.block)=some k->B.map (·.block)≠some k
 nd:∀(i:Nat) (e:Option Addr×Nat),ds[i]?=some e->∀k,e.1.map (·.block)=some k->base<=k∧B.map (·.block)≠some k
 lo:go<base
 lp:gp<base
 no:go<gp
 le:base<=w.heap.size
theorem DfAt.drewN(h:DfAt w base go gp out ds plain A c B d)(n:Nat):DfAt (w.drewN n) base go gp out ds plain A c B d:=
 ⟨h.co.drewN n,h.cp.drewN n,h.oo.drewN n,h.op.drewN n,h.ne,h.nd,h.lo,h.lp,h.no,h.le⟩
theorem DfAt.push{w2:World}{plain':LU}{A':OA}{c':Nat}{B':OA}{d':Nat}{o:Stp}{e:Option Addr×Nat}{ob:Obj}
  (h:DfAt w base go gp out ds plain A c B d) (hown:Own w2 base 145 3 A' (out.length+1) c' (opCells out ds++opCell o e)) (hgr:(w.alloc ob).grownBy w2 (A.map (·.block))) (hbel:Below base (w.alloc ob) w2)
  (hor:A'.map (·.block)=A.map (·.block)∨A'.map (·.block)=some (w.alloc ob).heap.size) (hd:Bts w e.1 o.data) (hd2:o.data.length<=e.2) (he:∀k,e.1.map (·.block)=some k->base<=k∧k<w.heap.size∧A.map (·.block)≠some k∧(B'.map (·.block)≠some k))
  (hpl:(plain'=plain∧B'=B∧d'=d)∨(plain'=[]∧B'=none∧d'=0)):
  ∃ds',CRow w2 base (out++[o]) ds' A' c'∧Own w2 base 5 1 B' plain'.length d' (plain'.map bv)∧(∀k,A'.map (·.block)=some k->B'.map (·.block)≠some k)∧(∀(i:Nat) (x:Option Addr×Nat),ds'[i]?=some x->∀k,x.1.map (·.block)=some k->base<=k∧B'.map (·.block)≠some k)∧base<=w2.heap.size∧
   Box w2 go 34 (.slice A out.length c)∧Box w2 gp 23 (.slice B plain.length d)∧Below base w w2:=by
 have hba:Below w.heap.size w (w.alloc ob):=(Below.refl _ _).alloc (Nat.le_refl _) _;have hrow:=(h.oo.below hba).push hown hgr hor (hd.stays hba) hd2 (fun k hk=>⟨(he k hk).2.2.1,by simp;have:=(he k hk).2.1;omega⟩);have hbw:Below base w w2:=(hba.mono h.le).trans hbel;refine⟨_,hrow,?_,?_,?_,Nat.le_trans h.le hbw.size,(h.co.alloc ob).keep hbel h.lo,(h.cp.alloc ob).keep hbel h.lp,hbw⟩
 ·rcases hpl with ⟨rfl,rfl,rfl⟩|⟨rfl,rfl,rfl⟩
  ·refine(h.op.alloc ob).kept hgr ?_
   cases hk:B'.map (·.block)with
   |none=>exact .inl rfl
   |some k=>exact .inr fun e2=>h.ne k e2.symm hk
  ·exact Own.nil_ _ _ _ _
 ·intro k hk;rcases hpl with ⟨rfl,rfl,rfl⟩|⟨rfl,rfl,rfl⟩
  ·rcases hor with hor|hor
   ·rw[hor]at hk;exact h.ne k hk
   ·rw[hor]at hk;injection hk with hk;intro e1;have:=(h.op.block k e1).2;simp at hk;omega
  simp
 intro i x hx k hk;rcases snoc_at hx with hx|⟨rfl,rfl⟩
 ·rcases hpl with ⟨rfl,rfl,rfl⟩|⟨rfl,rfl,rfl⟩
  ·exact h.nd i x hx k hk
  ·exact⟨(h.nd i x hx k hk).1,by simp⟩
 exact⟨(he k hk).1,(he k hk).2.2.2⟩
def DflRet(w:World)(base go gp:Nat)(l:List Stp):Ending->World->Prop:=fun e w'=>e=.returned (.tuple #[])∧∃ds' A' c',DfAt w' base go gp l ds' [] A' c' none 0∧Below go w w'
theorem dflush_calls(h:DfAt w base go gp out ds plain A c B d)(hl:plain.length<=64)(ho:out.length<=1000):
  Calls Tryz.prog 117 #[.pointer (some ⟨gp,0,none⟩),.pointer (some ⟨go,0,none⟩)] w (DflRet w base go gp (out++pend plain)):=by
 have H:=qH h;have c1:=h.co.cell;have c2:=h.cp.cell;have f1:=h.co.free;have f2:=h.cp.free;have hgo:go<w.heap.size:=h.co.lt;have hgp:gp<w.heap.size:=h.cp.lt;have h1:=h.lo;have h2:=h.lp;have h3:=h.no;clear h;by_cases hp:plain=[]
 ·subst hp;rw[pend_nil,List.append_nil];simp only[List.length_nil,Int.ofNat_eq_natCast,Int.natCast_zero]at *
  go_enter Tryz.func117,Tryz.ntmps117;go_wp2_with fail;refine bodyPost_end (results_none rfl _ _ _) rfl ⟨rfl,ds,A,c,⟨H.out.co.other (by show gp≠go;omega) _,H.out.cp.set _,H.out.oo.setOther (j:=0) ?_ ?_ _,Own.nil_ _ _ _ _,fun k hk e=>(by cases e),fun i e he k hk=>⟨(H.out.nd i e he k hk).1,by simp⟩,h1,h2,h3,by simpa using H.out.le⟩,(Below.refl _ _).setCell (p:=⟨gp,0,none⟩) (by show go<=gp;omega) _⟩
  ·exact own_far H.out.oo.row h2
  exact fun i e he e2=>by have:=(H.out.nd i e he gp e2).1;omega
 rw[pend_one hp];have hp1:1<=plain.length:=List.length_pos_iff.2 hp;have hp2:(0:Int)<(plain.length:Int):=by omega
 clear hp;have hoa:=H.out.oo.row.alloc (.cells #[.int .i64 0,.int .i64 0,.slice B plain.length d] 145);have hs1:Src (w.alloc (.cells #[.int .i64 0,.int .i64 0,.slice B plain.length d] 145)) (some ⟨w.heap.size,0,none⟩) [.int .i64 0,.int .i64 0,.slice B plain.length d]:=src_blk (blk_top rfl);have hob:out.length+1<=137438953472:=by omega
 have hle:base<=(w.alloc (.cells #[.int .i64 0,.int .i64 0,.slice B plain.length d] 145)).heap.size:=by have:=H.out.le;simp;omega
 go_enter Tryz.func117,Tryz.ntmps117;go_wp2_with (at_builtin;go_must (refine wpList_app (w.alloc (.cells #[.int .i64 0,.int .i64 0,.slice B plain.length d] 145)) rfl _ _ 34 rfl elOps base A out.length c (opCells out ds) rfl hoa (some ⟨w.heap.size,0,none⟩) 1 1 [.int .i64 0,.int .i64 0,.slice B plain.length d] rfl hs1 rfl (by simp[Value.oneCell']) hob hle ?_;intro A' c' w2 hown hgr hbel hor);(obtain⟨ds',r1,r2,r3,r4,r5,r6,r7,r8⟩:=H.out.push (o:=⟨0,0,plain⟩) (e:=(B,d)) (plain':=[]) (B':=none) (d':=0) hown hgr hbel hor H.out.op.src.bts H.out.op.le (fun k hk=>⟨(H.out.op.block k hk).1,(H.out.op.block k hk).2,fun e=>H.out.ne k e hk,by simp⟩) (.inr ⟨rfl,rfl,rfl⟩));(have R1:=qH r1);(have R4:=qH r4);(have R5:=qH r5);(have R6:=qH r6);(have R7:=qH r7);(have R8:=qH r8);(have q1:=r6.cell);(have q2:=r6.free);(have q3:=r7.cell);(have q4:=r7.free);(have q5:=r6.lt);(have q6:=r7.lt);(have q7:¬gp=go:=by omega);(clear hown hgr hbel hor r1 r2 r3 r4 r5 r6 r7 r8 hoa hs1 hob hle c1 c2 f1 f2));have s1:CRow (w2.setCell ⟨go,0,none⟩ (.slice A' (out.length+1) c')) base (out++[⟨0,0,plain⟩]) ds' A' c':=R1.out.setOther (j:=0) (own_far R1.out.row h1) (fun i e he e2=>by have:=(R4.out i e he go e2).1;omega) _;have s2:=s1.setOther (j:=0) (own_far s1.row h2) (fun i e he e2=>by have:=(R4.out i e he gp e2).1;omega) (.slice none 0 0);have e1:(out++[(⟨0,0,plain⟩:Stp)]).length=out.length+1:=by simp
 exact bodyPost_end (results_none rfl _ _ _) rfl ⟨rfl,ds',A',c',⟨by rw[e1];exact(R6.out.set _).other (by show gp≠go;omega) _,(R7.out.other (by show go≠gp;omega) _).set _,s2,Own.nil_ _ _ _ _,fun k hk e=>(by cases e),fun i e he k hk=>⟨(R4.out i e he k hk).1,by simp⟩,h1,h2,h3,by simpa using R5.out⟩,((R8.out.mono (Nat.le_of_lt h1)).setCell (p:=⟨go,0,none⟩) (Nat.le_refl _) _).setCell (p:=⟨gp,0,none⟩) (by show go<=gp;omega) _⟩
theorem lastLong_nil:lastLong []:=fun m o e=>by simp at e
theorem lastLong_snoc(l:List Stp){o:Stp}(h:0<o.len):lastLong (l++[o]):=fun m p e=>by
 have:=List.append_inj' e rfl;obtain⟨_,e1⟩:=this;injection e1 with e1;rw[<-e1];exact h
theorem diffN_succ(old b:LU)(q:Nat):diffN old b (q+1)=diffStep old b (diffN old b q):=rfl
structure DfPt(old b:LU)(q k:Nat)(out:List Stp)(plain:LU):Prop where
 at_:(diffN old b q).1=k
 got:(diffN old b q).2=out++pend plain
 long:lastLong out
theorem DfPt.plainLe(h:DfPt old b q k out plain):plain.length<=b.length:=by
 have hg:=(diffN_inv old b q).gives;rw[h.got]at hg;by_cases e:plain=[]
 ·rw[e];exact Nat.zero_le _
 have:=data_le old (out++pend plain) ⟨0,0,plain⟩ (by rw[pend_one e];simp);rw[hg]at this;simp at this;omega
theorem DfPt.outLe(h:DfPt old b q k out plain):out.length<=q:=by
 have:=diffN_len old b q;rw[h.got,List.length_append]at this;omega
theorem DfPt.long_step(h:DfPt old b q k out plain)(hk:k<b.length)(h4:4<=(longest old b k).2):
  DfPt old b (q+1) (k+(longest old b k).2) (out++pend plain++[⟨(longest old b k).1,(longest old b k).2,[]⟩]) []:=by
 have e:=diffStep_long (old:=old) (b:=b) (p:=diffN old b q) (by rw[h.at_];exact hk) (by rw[h.at_];exact h4);refine⟨by rw[diffN_succ,e,h.at_],by rw[diffN_succ,e,h.at_,h.got,pend_nil,List.append_nil],lastLong_snoc _ (by simp;omega)⟩
theorem DfPt.byte_step(h:DfPt old b q k out plain)(hk:k<b.length)(h4:¬4<=(longest old b k).2):
  DfPt old b (q+1) (k+1) out (plain++[b[k]]):=by
 have e:=diffStep_byte (old:=old) (b:=b) (p:=diffN old b q) (by rw[h.at_];exact hk) (by rw[h.at_];exact h4);refine⟨by rw[diffN_succ,e,h.at_],?_,h.long⟩;rw[diffN_succ,e,h.at_,h.got,addByte_pend _ h.long];rw[List.getD_eq_getElem?_getD,List.getElem?_eq_getElem hk];rfl
theorem DfPt.stop(h:DfPt old b q k out plain)(hk:¬k<b.length):out++pend plain=diffed old b:=by
 rw[<-h.got];exact diffN_end old b q (by rw[h.at_];exact hk)
theorem DfPt.qle(h:DfPt old b q k out plain)(hk:k<b.length):q<=k:=by
 have:=diffN_mono old b q (by rw[h.at_];exact hk);rw[h.at_]at this;exact this
theorem refDiffed_many(A B:OA)(c d:Nat)(old b:LU)(w:World)(h:64<old.length∨64<b.length)(ho:old.length<=140737488351232)(hl:b.length<=140737488351232):
  Calls Tryz.prog 81 #[.slice A old.length c,.slice B b.length d] w (RetB w (.tuple #[.slice none 0 0,iv 1])):=by
 by_cases h1:(64:Int)<(old.length:Int)
 ·exact x8xp
 have h2:(64:Int)<(b.length:Int):=by omega
 clear h;exact x8xp
theorem refDiffed3_calls(Ao B0:OA)(c0 d0:Nat)(old b:LU)(w:World)(hml:ML w)(hc0:old.length<=c0)(hd0:b.length<=d0)(ho:old.length<=64)(hb:b.length<=64)(hA:Bts w Ao old)(hB:Bts w B0 b):
  Calls Tryz.prog 81 #[.slice Ao old.length c0,.slice B0 b.length d0] w (OpRet3 w (diffed old b) 0):=by
 have h1:¬(64:Int)<(old.length:Int):=by omega
 have h2:¬(64:Int)<(b.length:Int):=by omega
 have HOL:=qH hA;have HBT:=qH hB;have HML:=qH hml;clear hA hB hml;go_enter Tryz.func81,Tryz.ntmps81;go_wp2_with fail;have hpk:DfAt ((w.alloc (.cells #[.slice none 0 0] 34)).alloc (.cells #[.slice none 0 0] 23)) (w.heap.size+2) w.heap.size (w.heap.size+1) [] [] [] none 0 none 0:=
  ⟨blk_old (blk_top rfl),blk_top (by simp),CRow.nil _ _,Own.nil_ _ _ _ _,(fun k hk e=>by cases e),(fun i e h=>by simp at h),by omega,by omega,by omega,by simp⟩
 have HPK:=qH hpk;have HB2:Hid (Below w.heap.size w ((w.alloc (.cells #[.slice none 0 0] 34)).alloc (.cells #[.slice none 0 0] 23))):=qH (((Below.refl _ _).alloc (Nat.le_refl _) _).alloc (by simp) _);clear hpk;generalize (w.alloc (.cells #[.slice none 0 0] 34)).alloc (.cells #[.slice none 0 0] 23)=w0 at *
 generalize hgo:w.heap.size=go at *
 have hog:go<go+1:=by omega
 generalize hgp:go+1=gp at *
 have hlo:go<go+2:=by omega
 have hlp:gp<go+2:=by omega
 generalize hba:go+2=base at *
 have HGO:=qH hgo;clear hgo hgp hba;go_loopw [9] (fun i wr=>∃(q k:Nat) (out:List Stp) (ds:List (Option Addr×Nat)) (plain:LU) (A B:OA) (c d:Nat),i=.int .i64 (k:Int)∧k<=b.length∧Hid (DfPt old b q k out plain)∧Hid (DfAt wr base go gp out ds plain A c B d)∧Hid (Below go w wr)) (fun i _=>b.length-(intOf i).toNat)
 case atStart=>exact⟨0,0,[],[],[],none,none,0,0,rfl,Nat.zero_le _,qH ⟨rfl,rfl,lastLong_nil⟩,HPK,HB2⟩
 case round=>
  clear HPK HB2;rename World=>wo;obtain⟨q,k,out,ds,plain,A,B,c,d,rfl,hk,HT,HP,HB⟩:=hrel;have hpl:=HT.out.plainLe;by_cases hlt:k<b.length
  ·have hq:=HT.out.qle hlt;have hol:=HT.out.outLe;have hloc:=refLongest_calls Ao B0 c0 d0 old b wo k (HML.out.stays (HGO.out▸HB.out)) hc0 hd0 ho hb hk (HOL.out.stays (HGO.out▸HB.out)) (HBT.out.stays (HGO.out▸HB.out));have hin:=longest_in old b k;have HLOC:=qH hloc;have HIN:=qH hin;obtain⟨m,hm⟩:∃m,(longest old b k).1=m:=⟨_,rfl⟩;obtain⟨n,hn⟩:∃n,(longest old b k).2=n:=⟨_,rfl⟩;rw[hm,hn]at HLOC HIN;obtain⟨in1,in2⟩:=HIN.out;have HMN:=qH (And.intro hm hn);clear hloc hin hm hn HIN;have dl:decide ((k:Int)<(b.length:Int))=true:=decide_eq_true (by omega);have HPX:Hid (∀nd,DfAt (wo.drewN nd) base go gp out ds plain A c B d∧Below go w (wo.drewN nd)):=qH (fun nd=>⟨HP.out.drewN nd,Below.drewN' HB.out nd⟩);go_wp2_with fail;refine HLOC.out.mono ?_;rintro e wy ⟨rfl,nd,rfl⟩;obtain⟨hpx,hbx⟩:=HPX.out nd;clear HLOC;by_cases h3:4<=n
   ·have d1:decide ((3:Int)<(n:Int))=true:=decide_eq_true (by omega);have hst:=HT.out.long_step hlt (by rw[HMN.out.2];exact h3);rw[HMN.out.1,HMN.out.2]at hst;obtain⟨o1,hO1⟩:∃o1,out++pend plain=o1:=⟨_,rfl⟩;rw[hO1]at hst;have HST:=qH hst;have HO1:=qH hO1;have hkn:IntKind.i64.wrap ((k:Int)+(n:Int))=(k:Int)+(n:Int):=IntWalk.i64_in _ (by omega);clear hst hO1;go_wp2_with fail;refine(dflush_calls hpx (by omega) (by omega)).mono ?_;rintro e w1 ⟨rfl,ds1,A1,c1,hp1,hb1⟩;rw[HO1.out]at hp1;have HP1:=qH hp1;have HB1:Hid (Below go w w1):=qH (hbx.trans hb1);have q3:=hp1.co.cell;have q4:=hp1.co.free;have hoa:=hp1.oo.row.alloc (.cells #[.int .i64 (m:Int),.int .i64 (n:Int),.slice none 0 0] 145);have hs1:Src (w1.alloc (.cells #[.int .i64 (m:Int),.int .i64 (n:Int),.slice none 0 0] 145)) (some ⟨w1.heap.size,0,none⟩) [.int .i64 (m:Int),.int .i64 (n:Int),.slice none 0 0]:=src_blk (blk_top rfl);have hob:o1.length+1<=137438953472:=by have:=HST.out.outLe;simp at this⊢;omega
    have hle:base<=(w1.alloc (.cells #[.int .i64 (m:Int),.int .i64 (n:Int),.slice none 0 0] 145)).heap.size:=by have:=hp1.le;simp;omega
    clear hp1 hb1 hpx hbx HPX HP;go_wp2_with (at_builtin;go_must (refine wpList_app (w1.alloc (.cells #[.int .i64 (m:Int),.int .i64 (n:Int),.slice none 0 0] 145)) rfl _ _ 34 rfl elOps base A1 o1.length c1 (opCells o1 ds1) rfl hoa (some ⟨w1.heap.size,0,none⟩) 1 1 [.int .i64 (m:Int),.int .i64 (n:Int),.slice none 0 0] rfl hs1 rfl (by simp[Value.oneCell']) hob hle ?_;intro A' c' w2 hown hgr hbel hor);(obtain⟨ds',r1,r2,r3,r4,r5,r6,r7,r8⟩:=HP1.out.push (o:=⟨m,n,[]⟩) (e:=(none,0)) (plain':=[]) (B':=none) (d':=0) hown hgr hbel hor (Bts.nil _ _) (Nat.le_refl _) (fun k hk=>(by cases hk)) (.inr ⟨rfl,rfl,rfl⟩));(have R1:=qH r1);(have R4:=qH r4);(have R5:=qH r5);(have R6:=qH r6);(have R7:=qH r7);(have R8:=qH r8);(have q1:=r6.cell);(have q2:=r6.free);(have q5:=r6.lt);(clear hown hgr hbel hor r1 r2 r3 r4 r5 r6 r7 r8 hoa hs1 hob hle q3 q4));have e1:(o1++[(⟨m,n,[]⟩:Stp)]).length=o1.length+1:=by rw[List.length_append];rfl
    have hfin:DfAt (w2.setCell ⟨go,0,none⟩ (.slice A' (o1.length+1) c')) base go gp (o1++[⟨m,n,[]⟩]) ds' [] A' c' none 0:=
     ⟨by rw[e1];exact R6.out.set _,R7.out.other (by show go≠gp;omega) _,R1.out.setOther (j:=0) (own_far R1.out.row hlo) (fun i e he e2=>by have:=(R4.out i e he go e2).1;omega) _,Own.nil_ _ _ _ _,fun k hk e=>(by cases e),fun i e he k hk=>⟨(R4.out i e he k hk).1,by simp⟩,hlo,hlp,hog,by simpa using R5.out⟩
    have HFIN:=qH hfin;have HBF:Hid (Below go w (w2.setCell ⟨go,0,none⟩ (.slice A' (o1.length+1) c'))):=qH ((HB1.out.trans (R8.out.mono (Nat.le_of_lt hlo))).setCell (p:=⟨go,0,none⟩) (Nat.le_refl _) _);clear hfin e1;go_roundw
    case rel=>exact⟨q+1,k+n,_,ds',[],A',none,c',0,by go_num,by omega,HST,HFIN,HBF⟩
    case measure=>simp[intOf];omega
   have d1:decide ((3:Int)<(n:Int))=false:=decide_eq_false (by omega);have hst:=HT.out.byte_step hlt (by rw[HMN.out.2];exact h3);have HST:=qH hst;clear hst;obtain⟨ab,ao,rfl,hab,hxc⟩:=(HBT.out.stays (HGO.out▸hbx)) k hlt;have HXC:=qH hxc;have HBOX:=qH hpx.cp;have HCO:=qH hpx.co;have HCP:=qH hpx.cp;have HOA:=qH hpx.oo;have HOW:=qH hpx.op;have HNE:=qH hpx.ne;have HND:=qH hpx.nd;have HNB:=qH (And.intro (own_far hpx.op hlo) (own_far hpx.op hlp));have hle:=hpx.le;have HBX:=qH hbx;clear hxc hpx hbx HPX HP;go_wp2_with fail;generalize hwx:wo.drewN nd=wx at *
   refine wp_region_mix (by kernel_rfl) (some 45::some 46::some 47::some 48::some 49::some 50::some 51::none::[]) (none::none::none::none::none::some 0::some 1::some 2::[]) (.slice B plain.length d::.slice (some ⟨ab,ao,none⟩) b.length d0::.int .i64 (k:Int)::.pointer (some ⟨ab,ao+k,none⟩)::bv b[k]::undef::undef::undef::[]) 3 (bxJ wx base B plain.length d (plain.map bv) [bv b[k]] 5 6 (fun w=>∃A2 c2 wq,w=wq.setCell ⟨gp,0,none⟩ (.slice A2 (plain.length+1) c2)∧Own wq base 5 1 A2 (plain.length+1) c2 (plain.map bv++[bv b[k]])∧Below base wx wq∧(∀q,q<wx.heap.size->B.map (·.block)≠some q->wq.heap[q]?=wx.heap[q]?)∧(A2.map (·.block)=B.map (·.block)∨∀q,A2.map (·.block)=some q->wx.heap.size<=q))) 57 rfl rfl (by decide+kernel) (by decide+kernel) (by decide+kernel) (by decide+kernel) rfl rfl (by decide+kernel) (by decide+kernel) (rfl) ?_ ?_
   ·refine⟨?_,?_,?_,?_,?_,?_,?_,?_,trivial⟩
    ·intro done cv k1 a wq hw h hJ hn;have e1:=mx_old (t:=7) (v:=.pointer (some ⟨gp,0,none⟩)) h rfl rfl;have hk:=hn 6 _ 1 rfl rfl (by decide);have c1:=bxJ_box hk hJ HBOX.out;have c2:=c1.cell;go_simp
    ·intro done cv k2 a wq hw h hJ hn;have e1:=mx_old (t:=1) (v:=.slice (some ⟨ab,ao,none⟩) b.length d0) h rfl rfl;exact mx_move (ch_ev e1)
    ·intro done cv k1 a wq hw h hJ hn;have e1:=mx_old (t:=9) (v:=.int .i64 (k:Int)) h rfl rfl;exact mx_move (ch_ev e1)
    ·intro done cv k2 a wq hw h hJ hn;have e1:=mx_new (i:=1) (t:=46) h (hw 1 (by decide)) rfl rfl rfl;have e47:=mx_new (i:=2) (t:=47) h (hw 2 (by decide)) rfl rfl rfl;go_simp
    ·intro done cv k1 a wq hw h hJ hn;have e1:=mx_new (i:=3) (t:=48) h (hw 3 (by decide)) rfl rfl rfl;have hk:=hn 5 _ 0 rfl rfl (by decide);exact x87r
    ·intro done cv a wq hw h hJ;have e1:=mx_new (i:=4) (t:=49) h (hw 4 (by decide)) rfl rfl rfl;exact x859
    ·intro done cv a wq hw h hJ;have e1:=mx_new (i:=0) (t:=45) h (hw 0 (by decide)) rfl rfl rfl;have e50:=mx_cv (i:=5) (t:=50) h (hw 5 (by decide)) rfl rfl;obtain⟨rfl,y1⟩:=hJ;rw[y1]at e50;refine wp_app _ (.tmp 45) (.tmp 50) 23 rfl elBytes base B plain.length d (plain.map bv) (ch_ev e1) (HOW.out.drew.alloc _) (some ⟨wx.heap.size,0,none⟩) 1 1 [bv b[k]] (ch_ev e50) (src_blk (blk_top (by simp))) rfl (by simp[Value.oneCell']) (by omega) (by simp;omega) ?_;exact x1bo
    ·intro done cv a wq hw h hJ;have e1:=mx_old (t:=7) (v:=.pointer (some ⟨gp,0,none⟩)) h rfl rfl;have e51:=mx_cv (i:=6) (t:=51) h (hw 6 (by decide)) rfl rfl;obtain⟨A1,c1,y1,k3,k1,k2,k4⟩:=hJ;rw[y1]at e51;have b1:Box wq go _ _:=(k2 go HCO.out.lt HNB.out.1).trans HCO.out;have b2:Box wq gp _ _:=(k2 gp HCP.out.lt HNB.out.2).trans HCP.out;exact wp_ssl e1 e51 b2.cell b2.free ⟨undef,rfl,A1,c1,wq,rfl,k3,k1,k2,k4⟩
   rintro cv w1 ⟨A1,c2,wq,rfl,k3,k1,k2,k4⟩;have hsz:=k1.size;have b1:Box wq go 34 (.slice A out.length c):=(k2 go HCO.out.lt HNB.out.1).trans HCO.out;have b2:Box wq gp 23 (.slice B plain.length d):=(k2 gp HCP.out.lt HNB.out.2).trans HCP.out;have s1:CRow wq base out ds A c:=HOA.out.keep hsz (fun q hq h=>k2 q hq (by
    rcases h with h|⟨i,e,h1,h2⟩
    ·exact HNE.out q h
    exact(HND.out i e h1 q h2).2))
   have s2:=s1.setOther (j:=0) (own_far s1.row hlp) (fun i e he e2=>by have:=(HND.out i e he gp e2).1;omega) (.slice A1 (plain.length+1) c2);have e1:(plain++[b[k]]).length=plain.length+1:=by simp
   have far:∀q,q<wx.heap.size->B.map (·.block)≠some q->A1.map (·.block)≠some q:=fun q hq hn e=>by
    rcases k4 with h|h
    ·rw[h]at e;exact hn e
    have:=h q e;omega
   have hfin:DfAt (wq.setCell ⟨gp,0,none⟩ (.slice A1 (plain.length+1) c2)) base go gp out ds (plain++[b[k]]) A c A1 c2:=
    ⟨b1.other (by show gp≠go;omega) _,by rw[e1];exact b2.set _,s2,by rw[e1,List.map_append];exact k3.setCell_other (own_far k3 hlp) _,fun q hq=>far q (HOA.out.row.block q hq).2 (HNE.out q hq),fun i e he q hq=>⟨(HND.out i e he q hq).1,far q (HOA.out.off i e he q hq).2 (HND.out i e he q hq).2⟩,hlo,hlp,hog,by simp;omega⟩
   have HFIN:=qH hfin;have HBF:Hid (Below go w (wq.setCell ⟨gp,0,none⟩ (.slice A1 (plain.length+1) c2))):=qH ((HBX.out.trans (k1.mono (Nat.le_of_lt hlo))).setCell (p:=⟨gp,0,none⟩) (by show go<=gp;omega) _);have hkn:IntKind.i64.wrap ((k:Int)+1)=(k:Int)+1:=IntWalk.i64_in _ (by omega);clear hfin e1 far s1 s2 b1 b2 k1 k2 k3 k4;generalize wq.setCell ⟨gp,0,none⟩ (.slice A1 (plain.length+1) c2)=w4 at *
   simp only[mixAll,putAll_some,putAll_none,putAll_nil,List.getElem?_cons_zero,List.getElem?_cons_succ,Nat.zero_add,Nat.reduceAdd,List.setIfInBounds_toArray,List.set_cons_zero,List.set_cons_succ];go_wp2_with fail;go_roundw
   case rel=>exact⟨q+1,k+1,out,ds,plain++[b[k]],A,A1,c,c2,by go_num,by omega,HST,HFIN,HBF⟩
   case measure=>simp[intOf];omega
  obtain rfl:k=b.length:=by omega
  have hst:=HT.out.stop hlt;have hol:out.length<=(diffed old b).length:=by rw[<-hst];simp
  have hok:=diffed_ok old b ho hb;have hbd:∀o∈diffed old b,I64 o.at_∧I64 o.len∧o.data.length<=140737488351232:=fun o h=>by
   have h3:=hok.each o h;have h4:=data_le old (diffed old b) o h;rw[diffed_makes]at h4;have h5:=h3.2;unfold Stp.in_ at h5;exact⟨⟨by omega,by omega⟩,⟨by omega,by omega⟩,by omega⟩
  have hmany:=hok.many;have HST:=qH hst;have HBD:=qH hbd;have dl:decide ((b.length:Int)<(b.length:Int))=false:=by simp
  clear hst hbd hok;go_wp2_with fail;refine(dflush_calls HP.out (by omega) (by omega)).mono ?_;rintro e w1 ⟨rfl,ds1,A1,c1,hp1,hb1⟩;rw[HST.out]at hp1;have HP1:=qH hp1;have HB1:Hid (Below go w w1):=qH (HB.out.trans hb1);have q1:=hp1.co.cell;clear hp1 hb1;go_wp2_with fail;go_ret2;have hfr:=HP1.out.oo.fresh (fun i e h k hk=>(HP1.out.nd i e h k hk).1) HBD.out;exact⟨A1,c1,rfl,hfr.mono (by rw[HGO.out];omega),HP1.out.oo.row.le,HGO.out▸HB1.out⟩
theorem refMade_many(A B:OA)(c d:Nat)(fr to_:Int)(old b:LU)(w:World)(h:64<old.length∨64<b.length)(ho:old.length<=140737488351232)(hl:b.length<=140737488351232):
  Calls Tryz.prog 45 #[iv fr,iv to_,.slice A old.length c,.slice B b.length d] w (PaRet w Pat.zero 1):=by
 have K:=qH (fun w=>refDiffed_many A B c d old b w h ho hl);clear h;go_enter Tryz.func45,Tryz.ntmps45;go_wp2_with fail;refine(K.out _).mono ?_;rintro e w1 ⟨rfl,hb1⟩;have a1:=kp (w.heap.size) (patA 0 0 0 0 0 none 0 0) hb1;have HB:=qH (((Below.refl _ _).alloc (Nat.le_refl w.heap.size) _).trans (hb1.mono (by simp)));clear hb1;go_wp2_with fail;refine bodyPost_ret (rC (patA 0 0 0 0 0 none 0 0)) rfl ⟨none,0,rfl,.const fun v=>patIn_zero v,below_row HB.out (by omega) _⟩
theorem refMade_fit(A B:OA)(c d:Nat)(fr to_:Int)(old b:LU)(w:World)(hml:ML w)(hc:old.length<=c)(hd:b.length<=d)(hf:I64 fr)(ht:I64 to_)(ho:old.length<=64)(hl:b.length<=64)(hA:Bts w A old)(hB:Bts w B b):
  Calls Tryz.prog 45 #[iv fr,iv to_,.slice A old.length c,.slice B b.length d] w (PaRet w (patMake (sumOn 1) fr to_ old b).1 (patMake (sumOn 1) fr to_ old b).2):=by
 have K1:=qH (fun w hm h1 h2=>refDiffed3_calls A B c d old b w hm hc hd ho hl h1 h2);have K2:=qH (fun w h=>refSumOf_calls A c old w (by omega) h);have K3:=qH (fun w h=>refSumOf_calls B d b w (by omega) h);have hs1:=sumOn_bd 1 old (by omega);have hs2:=sumOn_bd 1 b (by omega);have hdl:(diffed old b).length<=40:=(diffed_ok old b ho hl).many;have HM:Hid ((patMake (sumOn 1) fr to_ old b)=if patCheck ⟨fr,to_,sumOn 1 old,sumOn 1 b,b.length,diffed old b⟩≠0 then (Pat.zero,patCheck ⟨fr,to_,sumOn 1 old,sumOn 1 b,b.length,diffed old b⟩)else (⟨fr,to_,sumOn 1 old,sumOn 1 b,b.length,diffed old b⟩,0)):=qH (by
  unfold patMake;rw[if_neg (by omega)])
 generalize sumOn 1 old=s1 at *
 generalize sumOn 1 b=s2 at *
 generalize diffed old b=l at *
 have HA:=qH hA;have HB:=qH hB;have HML:=qH hml;have HI:Hid (I64 fr∧I64 to_):=qH ⟨hf,ht⟩;clear hA hB hf ht hml;generalize patMake (sumOn 1) fr to_ old b=r at *
 go_enter Tryz.func45,Tryz.ntmps45;go_wp2_with fail;have hba:=(bW w).alloc nl (.cells (patA 0 0 0 0 0 none 0 0) 36);refine(K1.out _ (HML.out.stays hba) (HA.out.stays hba) (HB.out.stays hba)).mono ?_;rintro e w1 ⟨A1,c1,rfl,hsp,hc1,hb1⟩;have a1:=kp (w.heap.size) (patA 0 0 0 0 0 none 0 0) hb1;have HB1:=qH (hba.trans (hb1.mono (by simp)));have HSP:=qH hsp;clear hb1 hba hsp;go_wp2_with fail;refine(K2.out _ (HA.out.stays HB1.out)).mono ?_;rintro e w2 ⟨rfl,rfl⟩;go_wp2_with fail;refine(K3.out _ (HB.out.stays HB1.out)).mono ?_;rintro e w3 ⟨rfl,rfl⟩;go_wp2_with fail;have hba:=(bW w1).alloc nl (.cells (patA fr to_ s1 s2 b.length A1 l.length c1) 36);have HS1:=qH (HSP.out.below hba nl);refine(refPatCheck_calls A1 c1 fr to_ s1 s2 b.length l _ (by omega) HS1.out.now).mono ?_;rintro e w4 ⟨rfl,hb1⟩;have b2:=kp (w.heap.size) (patA 0 0 0 0 0 none 0 0) hb1;have b1:=kp (w1.heap.size) (patA fr to_ s1 s2 b.length A1 l.length c1) hb1;have HB2:Hid (Below w.heap.size w w4):=qH ((HB1.out.alloc HB1.out.size _).trans (hb1.mono (by have:=HB1.out.size;simp;omega)));have HS2:=qH (HS1.out.below hb1 nl);have HPI:Hid (Fresh (w.heap.size+1) w4 (fun v=>PatIn v ⟨fr,to_,s1,s2,b.length,l⟩ A1 c1)):=qH (Fresh.imp (by simpa using HS2.out) fun v hv=>⟨hc1,by dsimp only;omega,hv,HI.out.1,HI.out.2,⟨by dsimp only;omega,by dsimp only;omega⟩,⟨by dsimp only;omega,by dsimp only;omega⟩,⟨by dsimp only;omega,by dsimp only;omega⟩⟩);clear hb1 hba;by_cases hz:patCheck ⟨fr,to_,s1,s2,b.length,l⟩=0
 ·have hr:r=(⟨fr,to_,s1,s2,b.length,l⟩,0):=by rw[HM.out,if_neg (by simpa using hz)]
  have HR:=qH hr;clear hr;go_wp2_with fail;refine bodyPost_ret (rC (patA fr to_ s1 s2 b.length A1 l.length c1)) rfl ?_;rw[HR.out];exact⟨A1,c1,rfl,(HPI.out.row (by omega) _).mono (by omega),below_row HB2.out (by omega) _⟩
 have hr:r=(Pat.zero,patCheck ⟨fr,to_,s1,s2,b.length,l⟩):=by rw[HM.out,if_pos hz]
 have hq:(patCheck ⟨fr,to_,s1,s2,b.length,l⟩ !=0)=true:=by simp[hz]
 have HR:=qH hr;clear hr hz;generalize patCheck ⟨fr,to_,s1,s2,b.length,l⟩=e1 at *
 go_wp2_with fail;refine bodyPost_ret (rC (patA 0 0 0 0 0 none 0 0)) rfl ?_;rw[HR.out];exact x2eg
theorem refMade_calls(A B:OA)(c d:Nat)(fr to_:Int)(old b:LU)(w:World)(hml:ML w)(hc:old.length<=c)(hd:b.length<=d)(hf:I64 fr)(ht:I64 to_)(ho:old.length<=140737488351232)(hl:b.length<=140737488351232)(hA:Bts w A old)(hB:Bts w B b):
  Calls Tryz.prog 45 #[iv fr,iv to_,.slice A old.length c,.slice B b.length d] w (PaRet w (patMake (sumOn 1) fr to_ old b).1 (patMake (sumOn 1) fr to_ old b).2):=by
 by_cases h:64<old.length∨64<b.length
 ·have e:patMake (sumOn 1) fr to_ old b=(Pat.zero,1):=by unfold patMake;rw[if_pos h]
  rw[e];exact refMade_many A B c d fr to_ old b w h ho hl
 exact refMade_fit A B c d fr to_ old b w hml hc hd hf ht (by omega) (by omega) hA hB
theorem x62b(h:Y:=by
 go_wp2_with fail;go_quiet (fail)
 go_wp2_with fail;go_ret;exact⟨rfl,nd+nq,by rw[<-World.drewN_drewN]⟩):Y:=h
theorem refAlike_calls(A:OA)(c:Nat)(l:LU)(w:World)(h0:0<l.length)(hc:l.length<=c)(hl:l.length<=4194304)(hB:Bts w A l):
  Calls Tryz.prog 122 #[.slice A l.length c] w (RetN w (iv (alike l:Nat))):=by
 obtain⟨a1,a2,a3,a4,a5⟩:=alike_stop h0;simp only[List.drop_zero,Nat.zero_add]at a1 a2 a3 a4 a5;replace a5:alike l=127∨(alike l<127∧alike l=l.length)∨(alike l<127∧∃h:alike l<l.length,l[alike l]≠l[0]):=by
  rcases a5 with h|h|⟨h0,h1,h2⟩
  ·exact .inl h
  ·exact .inr (.inl h)
  exact .inr (.inr ⟨h0,by simpa using h1,by simpa using h2⟩)
 have HA1:=qH a4;have HBO:=qH hB;clear hB a4;obtain⟨ab,ao,rfl,hsb,hx1⟩:=HBO.out 0 h0;simp only[Nat.add_zero]at hx1;have HAL:Hid (alike l=alike l):=qH rfl;generalize hal:alike l=al at *
 clear hal HAL;go_enter Tryz.func122,Tryz.ntmps122;go_wp2_with fail;go_loopw [3] (fun n wr=>∃(m nd:Nat),n=.int .i64 (m:Int)∧1<=m∧m<=al∧w.drewN nd=wr) (fun n _=>al-(intOf n).toNat)
 case atStart=>exact⟨1,0,rfl,by omega,a1,rfl⟩
 case round=>
  obtain⟨m,nd,rfl,hm1,hm2,rfl⟩:=hrel;have hw1:IntKind.i64.wrap ((m:Int)+1)=(m:Int)+1:=IntWalk.i64_in _ (by omega);by_cases hml:m<al
  ·have hx2:=HA1.out m hml;have hkm:m<l.length:=by omega
   rw[List.getElem?_eq_getElem hkm]at hx2;obtain⟨b1,o1,e1,hs1,hc1⟩:=HBO.out m hkm;injection e1 with e1;injection e1 with e3 e4;subst e3 e4;have hx3:l[m]=l[0]:=by injection hx2
   rw[hx3]at hc1;have d1:decide ((m:Int)<127)=true:=decide_eq_true (by omega);have d2:decide ((m:Int)<(l.length:Int))=true:=decide_eq_true (by omega);have d3:((l[0].toNat:Int)==(l[0].toNat:Int))=true:=by simp
   clear hx2 hx3;exact x21e
  obtain rfl:m=al:=by omega
  rcases a5 with h|⟨h0,h⟩|⟨h0,h1,h2⟩
  ·by_cases d2':m<l.length
   ·have d1:decide ((m:Int)<127)=false:=decide_eq_false (by omega);have d2:decide ((m:Int)<(l.length:Int))=true:=decide_eq_true (by omega);clear h hm2 hml;exact x62b
   ·have d2:decide ((m:Int)<(l.length:Int))=false:=decide_eq_false (by omega);clear h hm2 hml;exact x62b
  ·have d2:decide ((m:Int)<(l.length:Int))=false:=decide_eq_false (by omega);have d1:decide ((m:Int)<127)=true:=decide_eq_true (by omega);have hx:¬m<l.length:=by omega
   clear h h0 hm2 hml;exact x62b
  have d1:decide ((m:Int)<127)=true:=decide_eq_true (by omega);have d2:decide ((m:Int)<(l.length:Int))=true:=decide_eq_true (by omega);have d3:((l[m].toNat:Int)==(l[0].toNat:Int))=false:=by simp;exact fun e=>h2 (UInt8.toNat_inj.1 (by omega))
  have hc1:w.cell? ⟨ab,ao+m,none⟩=some (bv l[m]):=by
   obtain⟨b1,o1,e1,hs1,hc2⟩:=HBO.out m h1;injection e1 with e1;injection e1 with e3 e4;subst e3 e4;exact hc2
  clear h2 hm2 hml;exact x62b
theorem x1jz(h:Y:=by
 have HB1:Hid (Below base w w3):=qH (((hbx.alloc hsx _).trans hbel1).trans hbel);have HLO:Hid (out.length+1+K=(out++[UInt8.ofNat K]++(x::r).take K).length):=qH (by have:=HLN.out;simp at this⊢;omega);have HO1:Hid (Own w3 base 5 1 A' (out++[UInt8.ofNat K]++(x::r).take K).length c' ((out++[UInt8.ofNat K]++(x::r).take K).map bv)):=qH (by rw[<-HLO.out,List.map_append,List.map_append];show Own _ _ _ _ _ _ _ (_++[bv _]++_);rw[HBV.out];exact hown);have HLD:Hid (ln-K=((x::r).drop K).length):=qH (by rw[List.length_drop,HLN.out]);clear hown hgr hbel hor hown1 hgr1 hbel1 hor1 hs1 hle hox hbx hox1 hob1 hob2 hls
 go_roundg (ln-K)
 case measure=>omega
 case rel=>first
  |(have h9:¬c=K:=by assumption
    exact⟨(x::r).drop K,out++[UInt8.ofNat K]++(x::r).take K,some ⟨ab,ao+K,none⟩,A',c-K,c',by rw[HLD.out],by rw[HLO.out],by rw[<-HLD.out];omega,Nat.le_of_eq HLD.out.symm,by rw[<-HLD.out];omega,HE1,qH (mid_at HBt.out K),HO1,HB1⟩)
  |exact⟨(x::r).drop K,out++[UInt8.ofNat K]++(x::r).take K,some ⟨ab,ao,none⟩,A',0,c',by rw[HLD.out],by rw[HLO.out],by rw[<-HLD.out];omega,Nat.le_of_eq HLD.out.symm,by rw[<-HLD.out];omega,HE1,qH (by rw[List.eq_nil_of_length_eq_zero (show ((x::r).drop K).length=0 by rw[<-HLD.out];omega)];exact Bts.nil _ _),HO1,HB1⟩):Y:=h
theorem plainTo_step{l:LU}(h:k<l.length)(h7:k<127)(h3:alike (l.drop k)<3):plainTo l.length l k=plainTo l.length l (k+1):=by
 obtain⟨f,hf⟩:∃f,l.length=f+1:=⟨l.length-1,by omega⟩;have e:plainTo l.length l k=plainTo f l (k+1):=by
  rw[hf]
  conv=>lhs;unfold plainTo
  rw[if_pos ⟨by omega,h7,h3⟩]
 rw[e];exact plainTo_fuel f l.length l (k+1) (by omega) (by omega)
theorem plainTo_stop{l:LU}(h:¬(k<l.length∧k<127∧alike (l.drop k)<3)):plainTo l.length l k=k:=by
 cases hl:l.length with
 |zero=>rfl
 |succ f=>unfold plainTo;rw[if_neg h]
theorem packAt_one{x:UInt8}{r:LU}(h3:¬3<=alike (x::r)):packAt (x::r) []=UInt8.ofNat (plainTo (x::r).length (x::r) 1)::((x::r).take (plainTo (x::r).length (x::r) 1)++packAt ((x::r).drop (plainTo (x::r).length (x::r) 1)) []):=by
 rw[packAt_byte h3 (by simp)];have:=packAt_plain (x::r).length (x::r) 1 (by simp) (by omega) (by simp) (by omega);simpa using this
theorem refPacked_calls(Ab:OA)(cb:Nat)(b:LU)(w:World)(hc:b.length<=cb)(hl:b.length<=1048576)(hB:Bts w Ab b):
  Calls Tryz.prog 86 #[.slice Ab b.length cb] w (BtRet w (packed b)):=by
 have hpl:=packed_len b;have HPL:Hid (∀(out r:LU),out++packAt r []=packed b->out.length<=67108000):=qH (fun out r e=>by have:=congrArg List.length e;simp at this;omega);have HB1:=qH hB;have HBB:Hid (Below w.heap.size w w):=qH (Below.refl _ _);have HO1:Hid (Own w w.heap.size 5 1 none 0 0 (([]:List UInt8).map bv)):=qH (Own.nil_ _ _ _ _);clear hB hpl;go_enter Tryz.func86,Tryz.ntmps86;go_wp2_with fail;generalize hbase:w.heap.size=base at *
 have HBE:=qH hbase;clear hbase
 go_loopg [0,3] b.length (fun g y o wr=>∃(l out:LU) (A B:OA) (c d:Nat),y=.slice A l.length c∧o=.slice B out.length d∧l.length<=c∧l.length<=g∧l.length<=1048576∧Hid (out++packAt l []=packed b)∧Hid (Bts w A l)∧Hid (Own wr base 5 1 B out.length d (out.map bv))∧Hid (Below base w wr))
 case atStart=>exact⟨b,[],Ab,none,cb,0,rfl,rfl,hc,nl,hl,qH rfl,HB1,HO1,HBB⟩
 case round=>
  clear HB1 HO1 HBB;rename World=>wo;obtain⟨l,out,A,B,c,d,rfl,rfl,hlc,hlg,hll,HE,HBt,HO,HB⟩:=hrel;rcases l with _|⟨x,r⟩
  ·have hz:out=packed b:=by rw[<-HE.out,packAt_nil];simp[flushed]
   have HZ:=qH hz;simp only[List.length_nil,Int.ofNat_eq_natCast,Int.natCast_zero]at *
   clear hz;go_wp2_with fail;go_ret;exact x433
  obtain⟨ln,hln⟩:=eX ((x::r).length);have hln1:0<ln:=by rw[<-hln];simp
  have HBW:Hid (∀w1,Below base w w1->Bts w1 A (x::r)):=qH (fun w1 h=>HBt.out.stays (HBE.out▸h));have hab:=(HBW.out wo HB.out) 0 (by simp);obtain⟨ab,ao,rfl,hab,hx⟩:=hab;simp only[Nat.add_zero,List.getElem_cons_zero]at hx;have hal:=alike_le (x::r);have hK:1<=plainTo (x::r).length (x::r) 1∧plainTo (x::r).length (x::r) 1<=(x::r).length∧plainTo (x::r).length (x::r) 1<=127:=by
   have h1:=plainTo_ge (x::r).length (x::r) 1;have h2:=plainTo_le (x::r).length (x::r) 1 (by simp) (by omega);exact⟨h1,h2⟩
  have HCA:Hid (∀(w1:World) (A1:OA) (c1:Nat) (l1:LU),0<l1.length->l1.length<=c1->l1.length<=ln->Bts w1 A1 l1->Calls Tryz.prog 122 #[.slice A1 l1.length c1] w1 (RetN w1 (iv (alike l1:Nat)))):=qH (fun w1 A1 c1 l1 h0 h1 h2 h3=>refAlike_calls A1 c1 l1 w1 h0 h1 (by omega) h3);have hb1:=HBW.out wo HB.out;have hca1:=HCA.out wo _ c (x::r) (by simp) hlc (Nat.le_of_eq hln) hb1;rw[hln]at hlc hlg hll hal hK hca1⊢;clear hb1;have HCA1:=qH hca1;clear hca1;have HLN:=qH hln;clear hln;obtain⟨n,hn⟩:=eX (alike (x::r));obtain⟨K,hKe⟩:=eX (plainTo ln (x::r) 1);rw[hn]at hal HCA1;rw[hKe]at hK;have HNE:=qH hn;have HKE:=qH hKe;clear hn hKe;obtain⟨hal1,hal2⟩:=hal;obtain⟨hK1,hK2,hK3⟩:=hK;have dl:decide ((0:Int)<(ln:Int))=true:=decide_eq_true (by omega);go_wp2_with fail;refine HCA1.out.mono ?_;rintro e w1 ⟨rfl,nd,rfl⟩;have HBd:Hid (Below base w (wo.drewN nd)):=qH (Below.drewN' HB.out nd);have HOd:=qH (HO.out.drewN nd);have hxd:(wo.drewN nd).cell? ⟨ab,ao,none⟩=some (bv x):=hx;have hsd:base<=(wo.drewN nd).heap.size:=Nat.le_trans (Nat.le_of_eq HBE.out.symm) HBd.out.size;have habd:ab<(wo.drewN nd).heap.size:=hab;clear HB HO hx hab HCA1;generalize wo.drewN nd=w1 at *
  by_cases h1:3<=n
  ·have hrun:=packAt_run (x:=x) (r:=r) (plain:=[]) (by rw[HNE.out];exact h1);rw[HNE.out]at hrun;have hE1:(out++[UInt8.ofNat (128+n),x])++packAt ((x::r).drop n) []=packed b:=by
    rw[<-HE.out,hrun];simp[flushed]
   have ho1:out.length<=67108000:=by have:=HPL.out _ _ hE1;simp at this;omega
   have HE1:=qH hE1;clear hE1 hrun HE;have d1:decide ((3:Int)<=(n:Int))=true:=decide_eq_true (by omega);have HBV:Hid (bv (UInt8.ofNat (128+n))=.int .u8 (128+(n:Int))):=qH (by unfold bv;rw[ofNat_toNat _ (by omega)];simp);have hw1:IntKind.i64.wrap (128+(n:Int))=128+(n:Int):=IntWalk.i64_in _ (by omega);have hw2:IntKind.u8.wrap (128+(n:Int))=128+(n:Int):=by unfold IntKind.wrap;simp[IntKind.signed,IntKind.bits];omega
   have j1:(n:Int)<=(ln:Int):=by omega
   have HOA:=qH (HOd.out.alloc (.cells #[bv (UInt8.ofNat (128+n)),bv x] 5));rw[HBV.out]at HOA;have hs1:Src (w1.alloc (.cells #[.int .u8 (128+(n:Int)),bv x] 5)) (some ⟨w1.heap.size,0,none⟩) [.int .u8 (128+(n:Int)),bv x]:=src_blk (blk_top rfl);have hob1:out.length+2<=137438953472:=by omega
   have hle:base<=(w1.alloc (.cells #[.int .u8 (128+(n:Int)),bv x] 5)).heap.size:=by simp;omega
   have hoa:=HOA.out;go_wp2_with (at_builtin;go_must (refine wpList_app (w1.alloc (.cells #[.int .u8 (128+(n:Int)),bv x] 5)) rfl _ _ 23 rfl elBytes base B out.length d (out.map bv) rfl hoa (some ⟨w1.heap.size,0,none⟩) 2 2 [.int .u8 (128+(n:Int)),bv x] rfl hs1 rfl (by simp[Value.oneCell']) hob1 hle ?_;intro A' c' w2 hown hgr hbel hor));all_goals (
    have HB1:Hid (Below base w w2):=qH ((HBd.out.alloc hsd _).trans hbel);have HO1:Hid (Own w2 base 5 1 A' (out++[UInt8.ofNat (128+n),x]).length c' ((out++[UInt8.ofNat (128+n),x]).map bv)):=qH (by rw[List.map_append,List.length_append];show Own _ _ _ _ _ _ _ (_++[bv _,bv x]);rw[HBV.out];exact hown);have HLD:Hid (ln-n=((x::r).drop n).length):=qH (by rw[List.length_drop,HLN.out]);have HLO:Hid (out.length+2=(out++[UInt8.ofNat (128+n),x]).length):=qH (by rw[List.length_append];rfl);clear hown hgr hbel hor hs1 hle hob1 hoa
    go_roundg (ln-n)
    case measure=>omega
    case rel=>first
     |(have h9:¬c=n:=by assumption
       exact⟨(x::r).drop n,out++[UInt8.ofNat (128+n),x],some ⟨ab,ao+n,none⟩,A',c-n,c',by rw[HLD.out],by rw[HLO.out],by rw[<-HLD.out];omega,Nat.le_of_eq HLD.out.symm,by rw[<-HLD.out];omega,HE1,qH (mid_at HBt.out n),HO1,HB1⟩)
     |exact⟨(x::r).drop n,out++[UInt8.ofNat (128+n),x],some ⟨ab,ao,none⟩,A',0,c',by rw[HLD.out],by rw[HLO.out],by rw[<-HLD.out];omega,Nat.le_of_eq HLD.out.symm,by rw[<-HLD.out];omega,HE1,qH (by rw[List.eq_nil_of_length_eq_zero (show ((x::r).drop n).length=0 by rw[<-HLD.out];omega)];exact Bts.nil _ _),HO1,HB1⟩)
  have hone:=packAt_one (x:=x) (r:=r) (by rw[HNE.out];exact h1);rw[HLN.out,HKE.out]at hone;have hE1:(out++[UInt8.ofNat K]++(x::r).take K)++packAt ((x::r).drop K) []=packed b:=by
   rw[<-HE.out,hone];simp
  have ho1:out.length<=67108000:=by have:=HPL.out _ _ hE1;simp at this;omega
  have HE1:=qH hE1;clear hE1 hone HE;have d3:decide ((3:Int)<=(n:Int))=false:=decide_eq_false (by omega);have HBV:Hid (bv (UInt8.ofNat K)=.int .u8 (K:Int)):=qH (by unfold bv;rw[ofNat_toNat _ (by omega)]);have HOX:Hid (∀nd,Own (w1.drewN nd) base 5 1 B out.length d (out.map bv)∧Below base w (w1.drewN nd)):=qH (fun nd=>⟨HOd.out.drewN nd,Below.drewN' HBd.out nd⟩);go_wp2_with fail;go_loopw [5] (fun y wr=>∃(k nd:Nat),y=iv (k:Int)∧1<=k∧k<=K∧Hid (plainTo ln (x::r) k=K)∧w1.drewN nd=wr) (fun y _=>K-(intOf y).toNat)
  case atStart=>exact⟨1,0,rfl,by omega,hK1,HKE,rfl⟩
  case round=>
   obtain⟨k,nd,rfl,hk1,hk2,HPK,rfl⟩:=hrel;by_cases hcond:k<ln∧k<127∧alike ((x::r).drop k)<3
   ·obtain⟨e1,e2,e3⟩:=hcond;have hst:=plainTo_step (l:=x::r) (k:=k) (by rw[HLN.out];exact e1) e2 e3;rw[HLN.out,HPK.out]at hst;have hge:=plainTo_ge ln (x::r) (k+1);rw[<-hst]at hge;have HST:=qH hst;have hcal:=HCA.out (w1.drewN nd) (some ⟨ab,ao+k,none⟩) (c-k) ((x::r).drop k) (by rw[List.length_drop,HLN.out];omega) (by rw[List.length_drop,HLN.out];omega) (by rw[List.length_drop,HLN.out];omega) (mid_at (HBW.out _ (HOX.out nd).2) k);rw[List.length_drop,HLN.out]at hcal;have HCAL:=qH hcal;clear hst hcal HPK;generalize alike ((x::r).drop k)=m at *
    have d1:k<ln:=e1;have d2:decide ((k:Int)<127)=true:=decide_eq_true (by omega);have d4:decide ((m:Int)<3)=true:=decide_eq_true (by omega);have hck:¬c=k:=by omega
    have j1:(k:Int)<=(ln:Int):=by omega
    have hw1:IntKind.i64.wrap ((k:Int)+1)=(k:Int)+1:=IntWalk.i64_in _ (by omega);go_wp2_with fail;refine HCAL.out.mono ?_;rintro e w2 ⟨rfl,n1,rfl⟩;go_wp2_with fail;go_roundw
    case rel=>exact⟨k+1,nd+n1,by go_num,by omega,by omega,qH HST.out.symm,by rw[<-World.drewN_drewN]⟩
    case measure=>simp[intOf];omega
   have hst:=plainTo_stop (l:=x::r) (k:=k) (by rw[HLN.out];exact hcond);rw[HLN.out,HPK.out]at hst;subst hst;have hu1:IntKind.u8.wrap (K:Int)=(K:Int):=by unfold IntKind.wrap;simp[IntKind.signed,IntKind.bits];omega
   have hob1:out.length+1<=137438953472:=by omega
   have hob2:out.length+1+K<=137438953472:=by omega
   have hls:(((x::r).take K).map bv).length=K*1:=by have:=HLN.out;simp at this⊢;omega
   have jK:(K:Int)<=(ln:Int):=by omega
   have jC:(K:Int)<=(c:Int):=by omega
   clear HPK;by_cases e1:K<ln
   ·by_cases e2:K<127
    ·have e3:¬alike ((x::r).drop K)<3:=fun e=>hcond ⟨e1,e2,e⟩;have hcal:=HCA.out (w1.drewN nd) (some ⟨ab,ao+K,none⟩) (c-K) ((x::r).drop K) (by rw[List.length_drop,HLN.out];omega) (by rw[List.length_drop,HLN.out];omega) (by rw[List.length_drop,HLN.out];omega) (mid_at (HBW.out _ (HOX.out nd).2) K);rw[List.length_drop,HLN.out]at hcal;have HCAL:=qH hcal;clear hcal hcond;generalize alike ((x::r).drop K)=m at *
     have d1:decide ((K:Int)<127)=true:=decide_eq_true (by omega);have d2:decide ((m:Int)<3)=false:=decide_eq_false (by omega);have hck:¬c=K:=by omega
     go_wp2_with fail;refine HCAL.out.mono ?_;rintro e w2 ⟨rfl,n1,rfl⟩;simp only[World.drewN_drewN];obtain⟨hox,hbx⟩:=HOX.out (nd+n1);have hsx:base<=(w1.drewN (nd+n1)).heap.size:=Nat.le_trans (Nat.le_of_eq HBE.out.symm) hbx.size;have hox1:=hox.alloc (.cells #[.int .u8 (K:Int)] 5);have hs1:Src ((w1.drewN (nd+n1)).alloc (.cells #[.int .u8 (K:Int)] 5)) (some ⟨(w1.drewN (nd+n1)).heap.size,0,none⟩) [.int .u8 (K:Int)]:=src_blk (blk_top rfl);have hle:base<=((w1.drewN (nd+n1)).alloc (.cells #[.int .u8 (K:Int)] 5)).heap.size:=by simp at hsx⊢;omega
     go_wp2_with (at_builtin;first
      |(refine wpList_app ((w1.drewN (nd+n1)).alloc (.cells #[.int .u8 (K:Int)] 5)) rfl _ _ 23 rfl elBytes base B out.length d (out.map bv) rfl hox1 (some ⟨(w1.drewN (nd+n1)).heap.size,0,none⟩) 1 1 [.int .u8 (K:Int)] rfl hs1 rfl (by simp[Value.oneCell']) hob1 hle ?_;intro A1 c1 w2 hown1 hgr1 hbel1 hor1)
      |go_must (refine wpList_app w2 rfl _ _ 23 rfl elBytes base A1 (out.length+1) c1 (out.map bv++[.int .u8 (K:Int)]) rfl hown1 (some ⟨ab,ao,none⟩) K c (((x::r).take K).map bv) rfl ((mid_take (HBW.out w2 ((hbx.alloc hsx _).trans hbel1)) K).src) hls (bv_one _) hob2 (Nat.le_trans hle hbel1.size) ?_;intro A' c' w3 hown hgr hbel hor))
     all_goals (
      exact x1jz)
    ·have d2:decide ((K:Int)<127)=false:=decide_eq_false (by omega);have hck:¬c=K:=by omega
     clear hcond;obtain⟨hox,hbx⟩:=HOX.out (nd);have hsx:base<=(w1.drewN (nd)).heap.size:=Nat.le_trans (Nat.le_of_eq HBE.out.symm) hbx.size;have hox1:=hox.alloc (.cells #[.int .u8 (K:Int)] 5);have hs1:Src ((w1.drewN (nd)).alloc (.cells #[.int .u8 (K:Int)] 5)) (some ⟨(w1.drewN (nd)).heap.size,0,none⟩) [.int .u8 (K:Int)]:=src_blk (blk_top rfl);have hle:base<=((w1.drewN (nd)).alloc (.cells #[.int .u8 (K:Int)] 5)).heap.size:=by simp at hsx⊢;omega
     go_wp2_with (at_builtin;first
      |(refine wpList_app ((w1.drewN (nd)).alloc (.cells #[.int .u8 (K:Int)] 5)) rfl _ _ 23 rfl elBytes base B out.length d (out.map bv) rfl hox1 (some ⟨(w1.drewN (nd)).heap.size,0,none⟩) 1 1 [.int .u8 (K:Int)] rfl hs1 rfl (by simp[Value.oneCell']) hob1 hle ?_;intro A1 c1 w2 hown1 hgr1 hbel1 hor1)
      |go_must (refine wpList_app w2 rfl _ _ 23 rfl elBytes base A1 (out.length+1) c1 (out.map bv++[.int .u8 (K:Int)]) rfl hown1 (some ⟨ab,ao,none⟩) K c (((x::r).take K).map bv) rfl ((mid_take (HBW.out w2 ((hbx.alloc hsx _).trans hbel1)) K).src) hls (bv_one _) hob2 (Nat.le_trans hle hbel1.size) ?_;intro A' c' w3 hown hgr hbel hor))
     all_goals (
      exact x1jz)
   have d1:¬(K:Int)<(ln:Int):=by omega
   clear hcond;obtain⟨hox,hbx⟩:=HOX.out (nd);have hsx:base<=(w1.drewN (nd)).heap.size:=Nat.le_trans (Nat.le_of_eq HBE.out.symm) hbx.size;have hox1:=hox.alloc (.cells #[.int .u8 (K:Int)] 5);have hs1:Src ((w1.drewN (nd)).alloc (.cells #[.int .u8 (K:Int)] 5)) (some ⟨(w1.drewN (nd)).heap.size,0,none⟩) [.int .u8 (K:Int)]:=src_blk (blk_top rfl);have hle:base<=((w1.drewN (nd)).alloc (.cells #[.int .u8 (K:Int)] 5)).heap.size:=by simp at hsx⊢;omega
   go_wp2_with (at_builtin;first
    |(refine wpList_app ((w1.drewN (nd)).alloc (.cells #[.int .u8 (K:Int)] 5)) rfl _ _ 23 rfl elBytes base B out.length d (out.map bv) rfl hox1 (some ⟨(w1.drewN (nd)).heap.size,0,none⟩) 1 1 [.int .u8 (K:Int)] rfl hs1 rfl (by simp[Value.oneCell']) hob1 hle ?_;intro A1 c1 w2 hown1 hgr1 hbel1 hor1)
    |go_must (refine wpList_app w2 rfl _ _ 23 rfl elBytes base A1 (out.length+1) c1 (out.map bv++[.int .u8 (K:Int)]) rfl hown1 (some ⟨ab,ao,none⟩) K c (((x::r).take K).map bv) rfl ((mid_take (HBW.out w2 ((hbx.alloc hsx _).trans hbel1)) K).src) hls (bv_one _) hob2 (Nat.le_trans hle hbel1.size) ?_;intro A' c' w3 hown hgr hbel hor))
   all_goals (
    exact x1jz)
theorem refChunks_bad(B:OA)(d:Nat)(p:Pat)(w:World)(hp:PatIn w p B d)(h:patCheck p≠0):
  Calls Tryz.prog 46 #[.agg (patA p.from_ p.to_ p.old p.new_ p.size B p.ops.length d)] w (ChkRet2 w [] (patCheck p)):=by
 have K1:=qH (fun w hp=>refPatPut_bad B d p w hp h);have HP:=qH hp;obtain⟨ck,hck⟩:=eX (patCheck p);rw[hck]at h K1;rw[hck];have q:(ck !=0)=true:=by simp[h]
 clear hp h hck;go_enter Tryz.func46,Tryz.ntmps46;exact x531
theorem part_bts{ab ao:Nat}(h:Bts w (some ⟨ab,ao,none⟩) b)(k:Nat):Bts w (some ⟨ab,ao+16*k,none⟩) ((b.drop (k*16)).take 16):=by
 intro i hi;have hi1:k*16+i<b.length:=by simp at hi;omega
 obtain⟨b',o',e,hl,hc⟩:=h (k*16+i) hi1
 cases e;refine⟨_,_,rfl,hl,?_⟩;rw[show ao+16*k+i=ao+(k*16+i) by omega,hc];simp
theorem refChunks_fine(B:OA)(d:Nat)(p:Pat)(w:World)(hp:PatIn w p B d)(h:patCheck p=0):
  Calls Tryz.prog 46 #[.agg (patA p.from_ p.to_ p.old p.new_ p.size B p.ops.length d)] w (ChkRet2 w (chunksOf p (packed (patBytes p))) 0):=by
 have K1:=qH (fun w hp=>refPatPut_ok B d p w hp h);have HP:=qH hp;have hl1:=patBytes_len h;obtain⟨hl2,hl3⟩:=packed_patch_len h;obtain⟨pb,hpb⟩:=eX (patBytes p);rw[hpb]at K1 hl1 hl2 hl3⊢;have K2:=qH (fun A c w hc hb=>refPacked_calls A c pb w hc (by omega) hb);obtain⟨b,hb⟩:=eX (packed pb);rw[hb]at K2 hl2 hl3⊢;obtain⟨m,hm⟩:=eX ((b.length+15) / 16);have HCO:Hid (∀k,k<m->(chunksOf p b)[k]?=some (chunkAt p b m k)):=qH (fun k hk=>by unfold chunksOf;rw[hm];simp[hk]);have HCL1:Hid ((chunksOf p b).length=m):=qH (by unfold chunksOf;rw[hm];simp);have hm1:m<=10:=by omega
 have hm2:0<m:=by omega
 have HM:=qH hm;clear hp h hpb hb hm;generalize chunksOf p b=cs at *
 have HCA:Hid (∀k,chunkAt p b m k=⟨p.from_,p.to_,k,m,(b.drop (k*16)).take 16⟩):=qH (fun k=>rfl);generalize chunkAt p b m=ca at *
 obtain⟨f,t,o,n,sz,l⟩:=p;dsimp only at *
 have j1:decide ((52:Int)<(m:Int))=false:=decide_eq_false (by omega);have j2:¬52<m:=by omega
 have hba:=(bW w).alloc nl (.cells (patA f t o n sz B l.length d) 36);go_enter Tryz.func46,Tryz.ntmps46;go_wp2_with fail;refine(K1.out _ (HP.out.stays hba)).mono ?_;rintro e w1 ⟨A1,c1,rfl,ho1,hb1⟩;have hb1':=hba.trans (hb1.mono (by simp));have a1:=kp (w.heap.size) (patA f t o n sz B l.length d) hb1;have HBT:=qH ho1.src.bts;have hc1:=ho1.le;dsimp only at hc1;have HB1:=qH hb1';clear ho1 hb1 hb1' hba;go_wp2_with fail;refine(K2.out _ _ _ hc1 HBT.out).mono ?_;rintro e w2 ⟨A2,c2,rfl,ho1,hb1⟩;have a1:=kr a1 hb1;have HBB1:=qH ho1.src.bts;have HO1:=qH ho1;have hc2:=ho1.le;have HB2:=bT HB1 hb1;have hlb:0<b.length:=by omega
 obtain⟨ab,ao,rfl,hab,_⟩:=HBB1.out 0 hlb;have hab1:w1.heap.size<=ab:=(ho1.block ab rfl).1;clear ho1 hb1 HP K1 K2;go_wp2_with fail;refine(chunk_calls _ _ _ _).mono ?_;rintro e w3 ⟨rfl,hw1⟩;have hs1:w3.heap.size=w2.heap.size+2:=by rw[hw1];simp
 have hb1:Below w2.heap.size w2 w3:=by rw[hw1];exact(bL _).alloc (by simp) _
 have k1:w3.cell? ⟨w2.heap.size,0,none⟩=some (.slice (some ⟨ab,ao,none⟩) b.length c2):=by
  rw[hw1];exact((Box.new w2 23 (.slice (some ⟨ab,ao,none⟩) b.length c2)).alloc _).cell
 have k2:w3.cell? ⟨w2.heap.size+1,0,none⟩=some (iv 16):=by
  rw[hw1];have:=(Box.new (w2.alloc (.cells #[.slice (some ⟨ab,ao,none⟩) b.length c2] 23)) 3 (iv 16)).cell;simp
 have K1:=qH (collectChunk_calls w2.heap.size (w2.heap.size+1) ab ao b.length c2 hc2 (by omega) w3 (by omega) (by omega) k1 k2);have a1:=kr a1 hb1;have HB3:=bT HB2 hb1;have HB5:=qH hb1;clear hw1 hb1 k1 k2;go_wp2_with fail;refine K1.out.mono ?_;rintro e w4 ⟨v,rfl,hrow,hb1⟩;rw[HM.out]at hrow;obtain⟨A3,c4,rfl⟩:∃A4 c4,v=.slice A4 m c4:=by
  rcases hrow.2 with ⟨rfl,h0⟩|⟨g,cap,_,rfl,_⟩
  ·omega
  exact⟨_,_,rfl⟩
 have ho1:Own w4 w3.heap.size 23 1 A3 m c4 ((List.range m).map (partV ab ao b.length)):=hrow;have hsr:=ho1.src;obtain⟨gl,ol,rfl,hgl,_⟩:=hsr 0 (by simpa using hm2);have HLC:Hid (∀k,k<m->w4.cell? ⟨gl,ol+k,none⟩=some (partV ab ao b.length k)):=qH (fun k hk=>by
  obtain⟨b',o',e,_,hc⟩:=hsr k (by simpa using hk)
  cases e;simpa using hc)
 have hmc:m<=c4:=ho1.le;have a1:=kr a1 hb1;have HB4:=bT HB3 hb1;have HBB2:Hid (Bts w4 (some ⟨ab,ao,none⟩) b):=qH ((HBB1.out.stays HB5.out).stays hb1);have HR1:Hid (rowOf w4 w.heap.size=patA f t o n sz B l.length d∧frOf w4 w.heap.size=(0,0)):=qH ⟨a1.1,a1.2.1⟩;have hab2:ab<w4.heap.size:=Nat.lt_of_lt_of_le hab (by have h1:=HB5.out.size;have h2:=hb1.size;omega);have hab3:w.heap.size<=ab:=Nat.le_trans HB1.out.size hab1;have hg1:=a1.2.2.2.2.2;clear hrow ho1 hsr hb1 K1 HBT HB1 HB2 HO1 HBB1 HB5 HB3 hab hab1 a1 hs1;go_wp2_with fail;generalize hg0:w.heap.size=g0 at *
 have HGE:=qH hg0;generalize hbase:w4.heap.size=base at *
 have HBE:=qH hbase;clear hg0 hbase;go_loopw [7,27] (fun v i wr=>∃(k:Nat) (acc:List Chk) (ds:List (Option Addr×Nat)) (C:OA) (cc:Nat),k<=m∧i=iv k∧v=.slice C acc.length cc∧acc.length=k∧Hid (acc=cs.take k)∧Hid (GRow kChk wr base acc ds C cc)∧Hid (Each kChk acc ds (fun q=>q=ab))∧Hid (Below base w4 wr)) (fun _ i _=>m-(intOf i).toNat)
 case atStart=>exact⟨0,[],[],none,0,Nat.zero_le _,rfl,rfl,rfl,qH (by simp),qH (GRow.nil _ _),qH Each.nil,qH (Below.refl _ _)⟩
 case round=>
  rename World=>wo;obtain⟨k,acc,ds,C,cc,hk,rfl,rfl,hal,HAC,HR,HE,HB⟩:=hrel;have hbo:base<=wo.heap.size:=Nat.le_trans (Nat.le_of_eq HBE.out.symm) HB.out.size;have hbw:Below w4.heap.size w4 wo:=HBE.out▸HB.out;have a1:=keep1 (g:=g0) (cs:=patA f t o n sz B l.length d) hbw HR1.out.1 (by go_simp) HR1.out.2;by_cases hlt:k<m
  ·have dl:decide ((k:Int)<(m:Int))=true:=decide_eq_true (by omega);have hwk:IntKind.i64.wrap ((k:Int)+1)=(k:Int)+1:=IntWalk.i64_in _ (by omega);obtain⟨x,hx⟩:=eX (ca k);have hxe:=HCA.out k;rw[hx]at hxe;obtain⟨y,hy⟩:=eX (min 16 (b.length-16*k));have hxd:x.data=(b.drop (k*16)).take 16:=by rw[hxe]
   have hxl:x.data.length=y:=by rw[hxd,<-hy];simp;omega
   have hB1:=part_bts (HBB2.out.stays hbw) k;rw[<-hxd]at hB1;have p1:wo.cell? ⟨gl,ol+k,none⟩=some (.slice (some ⟨ab,ao+16*k,none⟩) y y):=by
    have h1:=(World.cell?_of_block (HB.out.block gl hgl)).trans (HLC.out k hlt);rw[h1,<-hy];rfl
   have HNXT:Hid (acc++[x]=cs.take (k+1)):=qH (by
    have h1:=HCO.out k hlt;rw[hx]at h1;obtain⟨h2,h3⟩:=List.getElem?_eq_some_iff.1 h1;rw[List.take_succ_eq_append_getElem h2,h3,HAC.out])
   have HXE:Hid (kChk.cell x (some ⟨ab,ao+16*k,none⟩,y)=[iv f,iv t,iv k,iv m,.slice (some ⟨ab,ao+16*k,none⟩) y y]):=qH (by rw[show kChk.cell x (some ⟨ab,ao+16*k,none⟩,y)=chkC x (some ⟨ab,ao+16*k,none⟩) y from rfl];unfold chkC;rw[hxl,hxe]);have HBX:=qH hB1;have HXL:=qH hxl;have HAL:=qH hal;have hk1:k<=10:=by omega
   have hacl:acc.length<=10:=by omega
   have hrow:=HR.out.row;have hbelA:Below wo.heap.size wo (wo.alloc (.cells #[iv f,iv t,iv k,iv m,.slice (some ⟨ab,ao+16*k,none⟩) y y] 61)):=bL _;have hoa:=hrow.below hbelA;have hsd:Src (wo.alloc (.cells #[iv f,iv t,iv k,iv m,.slice (some ⟨ab,ao+16*k,none⟩) y y] 61)) (some ⟨wo.heap.size,0,none⟩) [iv f,iv t,iv k,iv m,.slice (some ⟨ab,ao+16*k,none⟩) y y]:=src_blk (blk_top rfl);have hone:∀u∈[iv f,iv t,iv k,iv m,Value.slice (some ⟨ab,ao+16*k,none⟩) y y],u.oneCell'=true:=by simp[Value.oneCell']
   have hle:base<=(wo.alloc (.cells #[iv f,iv t,iv k,iv m,.slice (some ⟨ab,ao+16*k,none⟩) y y] 61)).heap.size:=by simp;omega
   clear hx hxe hy hxd hxl hB1 hal hrow;go_wp2_with (at_builtin;go_must (refine wpList_app (wo.alloc (.cells #[iv f,iv t,iv k,iv m,.slice (some ⟨ab,ao+16*k,none⟩) y y] 61)) rfl _ _ 33 rfl elChunks base C acc.length cc (kChk.cells acc ds) rfl hoa (some ⟨wo.heap.size,0,none⟩) 1 1 [iv f,iv t,iv k,iv m,.slice (some ⟨ab,ao+16*k,none⟩) y y] rfl hsd rfl hone (by omega) hle ?_;intro C1 cc1 w5 hown hgr hbel hor));have HOWN:=qH hown;have HGR:=qH hgr;have HBEL:=qH hbel;have HOR:=qH hor;clear hown hgr hbel hor hoa hsd hone hle;go_roundw
   case rel=>
    have hbA:Below wo.heap.size wo (wo.alloc (.cells #[iv f,iv t,iv k,iv m,.slice (some ⟨ab,ao+16*k,none⟩) y y] 61)):=bL _;refine⟨k+1,acc++[x],ds++[(some ⟨ab,ao+16*k,none⟩,y)],C1,cc1,by omega,by go_num,by simp,by rw[List.length_append,HAL.out];rfl,HNXT,qH ?_,qH ?_,qH ?_⟩
    ·refine(HR.out.below hbA).push (o:=x) (d:=(some ⟨ab,ao+16*k,none⟩,y)) (by rw[HXE.out];exact HOWN.out) HBEL.out (fun q hq hn=>HGR.out.block q hq (fun e=>hn e.symm)) ?_ (HBX.out.stays hbA) (Nat.le_of_eq HXL.out) (fun _ q e e2=>?_)
     ·rcases HOR.out with h|h
      ·exact .inl h
      ·exact .inr (fun q hq=>by rw[h]at hq;injection hq with hq;omega)
     ·have h1:=(HR.out.row.block q e2).1;have h2:ab=q:=by simpa using e
      omega
    ·exact HE.out.push HR.out.len (fun _ q e=>by simpa using e.symm)
    exact(HB.out.alloc hbo _).trans HBEL.out
   case measure=>simp[intOf];omega
  obtain rfl:k=m:=by omega
  have dl:decide ((k:Int)<(k:Int))=false:=by simp
  have hz:acc=cs:=by rw[HAC.out,List.take_of_length_le (by rw[HCL1.out];exact nl)]
  have HZ:=qH hz;clear hz hal;go_wp2_with fail;go_ret2;rw[<-HZ.out];exact⟨C,cc,ds,rfl,HR.out.mono (by rw[HGE.out];omega),HE.out.imp (fun q hq=>by rw[HGE.out,hq];omega),by rw[HGE.out];exact HB4.out.trans (HB.out.mono (by omega))⟩
theorem refChunks_calls(B:OA)(d:Nat)(p:Pat)(w:World)(hp:PatIn w p B d):
  Calls Tryz.prog 46 #[.agg (patA p.from_ p.to_ p.old p.new_ p.size B p.ops.length d)] w (ChkRet2 w (chkCut p).1 (chkCut p).2):=by
 unfold chkCut;by_cases h:patCheck p=0
 ·obtain⟨h1,h2⟩:=packed_patch_len h;rw[if_neg (by simpa using h),if_neg (by omega)];exact refChunks_fine B d p w hp h
 rw[if_pos h];exact refChunks_bad B d p w hp h
theorem cut_bound{p:Pat}{y:Chk}(hy:y∈(chkCut p).1):ChkB y:=by
 by_cases h:(chkCut p).2=0
 ·have hc:=(chkCheck_ok.1 (cut_chunks h y hy));obtain⟨h1,h2⟩:=hc;unfold Chk.range at h1;unfold Chk.full at h2;refine⟨by omega,⟨by omega,by omega⟩,⟨by omega,by omega⟩,⟨by omega,by omega⟩,⟨by omega,by omega⟩⟩
 exfalso;unfold chkCut at hy h;by_cases h1:patCheck p≠0
 ·rw[if_pos h1]at hy;simp at hy
 rw[if_neg h1]at hy h;split at hy
 ·simp at hy
 rename_i h2;rw[if_neg h2]at h;exact h rfl
