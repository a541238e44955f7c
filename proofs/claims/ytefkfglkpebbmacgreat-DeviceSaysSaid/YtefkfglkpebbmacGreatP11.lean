/- Walks of functions, and plain words. No conditions. -/
import Derived.Test.YtefkfglkpebbmacGreatP9
set_option linter.unusedVariables false
set_option linter.unusedSimpArgs false
set_option maxRecDepth 100000
set_option maxHeartbeats 40000000
namespace Go.Proofs.YtefkfglkpebbmacGreat
open Go.RowKit
variable {Y:Prop}
variable {g n c base:Nat} {d:Dev} {L:DLoc} {nb:LU} {w:World} {r:Rec}
theorem x3q5(h:Y:=by
 obtain⟨r_,f_⟩:=wrJ_row (curs:=#[]) hJ HN1.out RD.out FD.out (by simp[devA]) HG2.out;have c_:=cell_row (w:=wq) (g:=w.heap.size) (by rw[r_];simp[devA]);go_simp):Y:=h
theorem x97q(h:Y:=by
 have e1:=mO 3 (.pointer (some ⟨w.heap.size,0,none⟩)) h;go_simp):Y:=h
theorem sl_mid{z1 z2:Int}(i m:Nat)(h1:z1=(i:Int))(h2:z2=(i:Int)+(m:Int))(hn:n<=c)(hm:i+m<=n)(hi:i<c)(W:World):
  (Instr.slice 22 (.slice (some ⟨g,0,none⟩) n c) (some (iv z1)) (some (iv z2)) none).run Tryz.prog W=.ok (.slice (some ⟨g,i,none⟩) m (c-i)) W:=by
 subst h1 h2;have q1:(i:Int)+(m:Int)<=(c:Int):=by omega
 have q2:(i:Int)<=(i:Int)+(m:Int):=by omega
 have q3:i+m-i=m:=by omega
 have q4:¬c=i:=by omega
 go_simp;try omega
theorem sl_from{z1:Int}(i:Nat)(h1:z1=(i:Int))(hn:n<=c)(hi:i<=n)(hc:i<c)(W:World):
  (Instr.slice 22 (.slice (some ⟨g,0,none⟩) n c) (some (iv z1)) none none).run Tryz.prog W=.ok (.slice (some ⟨g,i,none⟩) (n-i) (c-i)) W:=by
 subst h1;have q1:(i:Int)<=(n:Int):=by omega
 have q2:(n:Int)<=(c:Int):=by omega
 have q3:¬c=i:=by omega
 go_simp;try omega
theorem devA_len0(h:nb.length=d.s0.length):devA {d with s0:=nb} L=devA d L:=by simp[devA,h]
theorem devA_len1(h:nb.length=d.s1.length):devA {d with s1:=nb} L=devA d L:=by simp[devA,h]
theorem put_takeN{α:Type}(L cs:List α)(dn m n:Nat)(hc:cs.length=m)(h:dn+m<=n)(hL:n<=L.length):(L.take dn++cs++L.drop (dn+m)).take n=(L.take n).take dn++cs++(L.take n).drop (dn+m):=by
 have e1:(L.take n).take dn=L.take dn:=by rw[List.take_take];congr 1;omega
 have e2:(L.take n).drop (dn+m)=(L.drop (dn+m)).take (n-(dn+m)):=by rw[List.drop_take]
 have hl:(L.take dn++cs).length=dn+m:=by simp;omega
 rw[e1,e2,List.take_append,hl,List.take_of_length_le (by omega)]
section
variable {w w5:World} {base m1 m2 gs:Nat} {d:Dev} {L:DLoc} {cur new:Array Value} {nb:LU} {dd:Int}
theorem own_new{A:OA}{xs ys:List Value}{cur new:Array Value}(h:Own w base 5 1 A n c xs)(hA:A=some ⟨g,0,none⟩)(hcur:w.heap[g]?=some (.cells cur 5 (0,0)))(hn:new.size=cur.size)(ht:new.toList.take n=ys)(hl:ys.length=n){w':World}
  (hw:w'.heap[g]?=some (.cells new 5 (0,0))):Own w' base 5 1 A n c ys:=by
 subst hA;obtain⟨h1,h2⟩:=h;rcases h2 with ⟨h2,_⟩|⟨g',cap,cur',e,h3,h4,h5,h6,h7,h8⟩
 ·cases h2
 injection e with e1 e2 e3;injection e1 with e1;injection e1 with e1;subst e1 e3;have e1:cur=cur':=by rw[hcur]at h4;injection h4 with h4;injection h4
 subst e1;exact⟨by omega,Or.inr ⟨g,c,new,rfl,h3,hw,h5,h6,by omega,by rw[Nat.mul_one];exact ht⟩⟩
theorem DevOwn.put1(h:DevOwn w base m1 m2 d L)(hb:Below w.heap.size w w5)(hA:L.a1=some ⟨gs,0,none⟩)(hcur:w.heap[gs]?=some (.cells cur 5 (0,0)))(hl:nb.length=d.s1.length)(hn:new.size=cur.size)(ht:new.toList.take d.s1.length=nb.map bv)(hi:I64 dd):
  DevOwn (w5.setRow gs new) base m1 m2 {d with s1:=nb,done:=dd} L:=by
 have hgb:=h.o1.block gs (by rw[hA];rfl);have hg1:=h.b1 gs (by rw[hA];rfl);have h3:w5.heap[gs]?=some (.cells cur 5 (0,0)):=(hb.block gs hgb.2).trans hcur;refine⟨h.h1,h.h2,?_,h.b0,?_,h.b1,?_,?_,h.l0,by show nb.length<=_;rw[hl];exact h.l1,h.kg,h.lg,h.ir,hi⟩
 ·refine h.o0.same (fun k e=>(setRow_other _ _ _ _ ?_).trans (hb.block k (h.o0.block k e).2));have:=h.b0 k e;omega
 ·show Own _ m1 _ 1 L.a1 nb.length L.c1 (nb.map bv);rw[hl];exact own_new h.o1 hA hcur hn ht (by simp[hl]) (setRow_heap w5 gs _ new _ _ h3)
 ·exact(h.got.below hb nl).row hg1 new
 exact(h.job.below hb nl).row hg1 new
theorem DevOwn.put0(h:DevOwn w base m1 m2 d L)(hb:Below w.heap.size w w5)(hA:L.a0=some ⟨gs,0,none⟩)(hcur:w.heap[gs]?=some (.cells cur 5 (0,0)))(hl:nb.length=d.s0.length)(hn:new.size=cur.size)(ht:new.toList.take d.s0.length=nb.map bv)(hi:I64 dd):
  DevOwn (w5.setRow gs new) base m1 m2 {d with s0:=nb,done:=dd} L:=by
 have hgb:=h.o0.block gs (by rw[hA];rfl);have hg1:=h.b0 gs (by rw[hA];rfl);have hm:=h.h2;have h3:w5.heap[gs]?=some (.cells cur 5 (0,0)):=(hb.block gs hgb.2).trans hcur;refine⟨h.h1,h.h2,?_,h.b0,?_,h.b1,?_,?_,by show nb.length<=_;rw[hl];exact h.l0,h.l1,h.kg,h.lg,h.ir,hi⟩
 ·show Own _ base _ 1 L.a0 nb.length L.c0 (nb.map bv);rw[hl];exact own_new h.o0 hA hcur hn ht (by simp[hl]) (setRow_heap w5 gs _ new _ _ h3)
 ·refine h.o1.same (fun k e=>(setRow_other _ _ _ _ ?_).trans (hb.block k (h.o1.block k e).2));have:=(h.o1.block k e).1;omega
 ·exact(h.got.below hb nl).row (by omega) new
 exact(h.job.below hb nl).row (by omega) new
end
theorem own_cells0{e:Nat}{A:OA}{xs:List Value}(h:Own w base e 1 A n c xs)(hn:0<n):∃g cur,A=some ⟨g,0,none⟩∧base<=g∧w.heap[g]?=some (.cells cur e (0,0))∧n<=c∧cur.size=c∧cur.toList.take n=xs:=by
 obtain⟨h1,⟨_,h2⟩|⟨g,cap,cur,e1,h3,h4,h5,h6,h7,h8⟩⟩:=h
 ·omega
 injection e1 with e1 e2 e3;subst e1 e3;exact⟨g,cur,rfl,h3,h4,h5,by omega,by rw[Nat.mul_one]at h8;exact h8⟩
theorem DevOwn.slotS{m1 m2:Nat}(h:DevOwn w base m1 m2 d L)(l0:d.s0.length=64)(l1:d.s1.length=64){kb:Nat}(hb:kb<=1):∃(gs:Nat) (cur:Array Value) (c:Nat),(devA d L)[kb]?=some (.slice (some ⟨gs,0,none⟩) 64 c)∧base<=gs∧gs<w.heap.size∧w.heap[gs]?=some (.cells cur 5 (0,0))∧64<=c∧cur.size=c∧cur.toList.take 64=(d.slot (kb:Int)).map bv∧
  ∀(w5:World) (new:Array Value) (nb:LU) (dd:Int),Below w.heap.size w w5->nb.length=64->new.size=cur.size->new.toList.take 64=nb.map bv->I64 dd->DevOwn (w5.setRow gs new) base m1 m2 {d.setSlot (kb:Int) nb with done:=dd} L:=by
 have hm:=h.h1
 match kb,hb with
 |0,_=>
  obtain⟨gs,cur,hA,h1,h2,h3,h4,h5⟩:=own_cells0 h.o0 (by rw[l0];decide);rw[l0]at h3 h5;exact⟨gs,cur,L.c0,by simp[devA,hA,l0],h1,(h.o0.block gs (by rw[hA];rfl)).2,h2,h3,h4,h5,fun w5 new nb dd hb hl hn ht hi=>h.put0 hb hA h2 (hl.trans l0.symm) hn (by rw[l0];exact ht) hi⟩
 |1,_=>
  obtain⟨gs,cur,hA,h1,h2,h3,h4,h5⟩:=own_cells0 h.o1 (by rw[l1];decide);rw[l1]at h3 h5;exact⟨gs,cur,L.c1,by simp[devA,hA,l1],by omega,(h.o1.block gs (by rw[hA];rfl)).2,h2,h3,h4,h5,fun w5 new nb dd hb hl hn ht hi=>h.put1 hb hA h2 (hl.trans l1.symm) hn (by rw[l1];exact ht) hi⟩
theorem devA_slot(l0:d.s0.length=64)(l1:d.s1.length=64){kb:Nat}(hb:kb<=1)(hn:nb.length=64):devA (d.setSlot (kb:Int) nb) L=devA d L:=by
 match kb,hb with
 |0,_=>exact devA_len0 (hn.trans l0.symm)
 |1,_=>exact devA_len1 (hn.trans l1.symm)
def wrJ(w0:World)(rb:LU)(dn gs:Nat)(new:Array Value):Nat->(Nat->Value)->World->Prop
 |0,_,w=>w=w0.drew
 |1,cv,w=>∃A c,cv 14=.slice A rb.length c∧Own w w0.heap.size 5 1 A rb.length c (rb.map bv)∧Below w0.heap.size w0 w
 |2,cv,w=>∃g3 c3,cv 17=.slice (some ⟨g3,dn,none⟩) (rb.length-dn) c3∧Bts w (some ⟨g3,0,none⟩) rb∧w0.heap.size<=g3∧Below w0.heap.size w0 w
 |_,_,w=>∃w5,Below w0.heap.size w0 w5∧w=w5.setRow gs new
theorem wrJ_row{w0:World}{rb:LU}{dn gs k q:Nat}{new cs curs:Array Value}{cv:Nat->Value}(hJ:wrJ w0 rb dn gs new k cv w)(hq:q≠gs)(hr:rowOf w0 q=cs)(hf:frOf w0 q=(0,0))(h0:0<cs.size)(hgs:0<(rowOf w0 gs).size):rowOf w q=cs∧frOf w q=(0,0):=by
 have hlt:=row_lt (w:=w0) (g:=q) (by rw[hr];exact h0);have hls:=row_lt hgs;have key:Below w0.heap.size w0 w->rowOf w q=cs∧frOf w q=(0,0):=fun hb=>⟨(rowOf_below hlt hb).trans hr,(frOf_below hlt hb).trans hf⟩
 match k,hJ with
 |0,hJ=>obtain rfl:w=w0.drew:=hJ;exact key (Below.refl _ _).drew
 |1,⟨_,_,_,_,h⟩=>exact key h
 |2,⟨_,_,_,_,_,h⟩=>exact key h
 |n+3,⟨w5,h,e⟩=>
  subst e;rw[rowOf_setRow _ _ _ _ (by rw[rowOf_below hls h];exact hgs),if_neg hq,frOf_setRow];exact⟨(rowOf_below hlt h).trans hr,(frOf_below hlt h).trans hf⟩
theorem devWrite_bad(d:Dev)(L:DLoc)(torn:Bool)(keep:Int)(w:World)(h:DevIn w d L)  (hne:devReady d≠0):Calls Tryz.prog 14 #[.agg (devA d L),.bool torn,iv keep] w (DvRet w Dev.zero (devReady d)):=by
 have hba:Below w.heap.size w ((w.alloc (.cells (devA d L) 37)).alloc (.cells (devA Dev.zero DLoc.zero) 37)):=bA (bA (Below.refl _ _) _) _;have HBA:=qH hba;have HIN:=qH h;have KB:=qH (fun w h=>ready_bad d L w h hne);have q:(devReady d !=0)=true:=by simp[hne]
 generalize devReady d=n at *
 clear hne h hba;go_enter Tryz.func14,Tryz.ntmps14;go_wp2_with fail;refine(KB.out _ (HIN.out.stays HBA.out)).mono ?_;rintro e w1 ⟨rfl,hb1⟩;have a2:=kp (w.heap.size) (devA d L) hb1;have a1:=kp (w.heap.size+1) (devA Dev.zero DLoc.zero) hb1;have HB1:=bT HBA hb1;clear hb1;exact x5r8
theorem devWrite_ok(d:Dev)(L:DLoc)(torn:Bool)(keep:Int)(w:World)(h:DevIn w d L)  (hz:devReady d=0):Calls Tryz.prog 14 #[.agg (devA d L),.bool torn,iv keep] w (DvRet w (devWrite d torn keep).1 (devWrite d torn keep).2):=by
 have hba:Below w.heap.size w ((w.alloc (.cells (devA d L) 37)).alloc (.cells (devA Dev.zero DLoc.zero) 37)):=bA (bA (Below.refl _ _) _) _;have HBA:=qH hba;have HIN:=qH h;have KR:=qH (fun w h=>ready_ok d L w h hz);have hdef:devWrite d torn keep=if d.busy=false∨d.job.size<=d.done then (Dev.zero,5)
   else if (patDo (sumOn 1) d.job (d.image d.rec_.active d.rec_)).2≠0 then (Dev.zero,(patDo (sumOn 1) d.job (d.image d.rec_.active d.rec_)).2)
   else (if torn=true then (d.wrote torn keep).down else d.wrote torn keep,0):=by unfold devWrite;rw[if_neg (by omega)];rfl
 obtain⟨hok,hup⟩:=devReady_ok.1 hz;have hrec:=rec_ok hok;have hact:=rec_active hrec;have HOK:=qH hok;have HREC:=qH hrec;have HUP:=qH hup;have HD:=qH hdef;generalize devWrite d torn keep=res at *
 clear hz h hba hdef hok hrec hup;go_enter Tryz.func14,Tryz.ntmps14;go_wp2_with fail;refine(KR.out _ (HIN.out.stays HBA.out)).mono ?_;rintro e w1 ⟨L1,rfl,hfr,hb1⟩;have a2:=kp (w.heap.size) (devA d L) hb1;have a1:=kp (w.heap.size+1) (devA Dev.zero DLoc.zero) hb1;have HFR:Hid (Fresh (w.heap.size+2) w1 (fun v=>DvOwn v (w.heap.size+2) d L1)):=qH (by simpa[Nat.add_assoc]using hfr);have HB1:=bT HBA hb1;have hsz1:w.heap.size+2<=w1.heap.size:=by have:=hb1.size;simp at this;omega
 have HK1:Hid (Kp (w.heap.size+2) w1 w1):=qH (Kp.refl _ _);clear hb1 hfr
 cases hbz:d.busy
 ·have hz:res=(Dev.zero,5):=HD.out.trans (if_pos (.inl hbz));subst hz;exact x5r8
 by_cases c1:d.job.size<=d.done
 ·have hz:res=(Dev.zero,5):=HD.out.trans (if_pos (.inr c1));subst hz;exact x5r8
 have HBK:Hid (BusyOk d d.rec_):=qH (HOK.out.work HUP.out hbz);have HD1:Hid (res=(if torn=true then (d.wrote torn keep).down else d.wrote torn keep,0)):=qH (HD.out.trans (by rw[if_neg (by rw[hbz];simpa using c1),if_neg (by rw[HBK.out.does];decide)]));clear HD;obtain⟨ka,ha⟩:∃ka:Nat,d.rec_.active=(ka:Int):=⟨d.rec_.active.toNat,by omega⟩;have ha1:ka<=1:=by omega
 obtain⟨kb,hab⟩:∃kb:Nat,ka+kb=1:=⟨1-ka,by omega⟩;have hb1:kb<=1:=by omega
 have HKB:Hid ((1:Int)-(ka:Int)=(kb:Int)):=qH (by omega);obtain⟨img,himg⟩:=eX (d.image (ka:Int) d.rec_);obtain⟨b,hb⟩:=eX (d.next);have hpd:patDo (sumOn 1) d.job img=(b,0):=by
  rw[<-himg,<-hb];have h1:=HBK.out.does;unfold Dev.next;rw[ha]at h1⊢;exact Prod.ext rfl h1
 have hbl:=busy_len HBK.out;have hbe:(patDo (sumOn 1) d.job (d.image d.rec_.active d.rec_)).1=b:=hb;rw[hbe]at hbl;have HBL:Hid ((b.length:Int)=d.job.size∧d.job.size<=64):=qH hbl;have KI1:Hid (∀wq,DevIn wq d L1->Calls Tryz.prog 38 #[.agg (devA d L1),iv (ka:Int),.agg (recA d.rec_)] wq (ImRet wq img)):=qH (fun wq h=>by
  exact x7r2)
 have HPD:=qH hpd;have HIL:Hid (img.length<=64):=qH (by
  exact x0ss)
 have HNX:=qH hb;have HA:=qH ha;clear himg hb hpd hbl hbe hact;go_wp2_with fail;obtain⟨w2,hw1⟩:=eX ((w1.setRow w.heap.size (devA d L1)).alloc (.cells (recA d.rec_) 28));have hp1:0<(rowOf w1 w.heap.size).size:=by rw[a2.1];simp[devA]
 have q1:rowOf w2 w.heap.size=devA d L1:=by rw[<-hw1,rowOf_alloc,if_neg (by simp[World.setRow];omega),rowOf_setRow _ _ _ _ hp1,if_pos rfl]
 have q2:frOf w2 w.heap.size=(0,0):=by rw[<-hw1,frOf_alloc,if_neg (by simp[World.setRow];omega),frOf_setRow];exact a2.2.1
 have q3:rowOf w2 (w.heap.size+1)=devA Dev.zero DLoc.zero:=by rw[<-hw1,rowOf_alloc,if_neg (by simp[World.setRow];omega),rowOf_setRow _ _ _ _ hp1,if_neg (by omega)];exact a1.1
 have q4:frOf w2 (w.heap.size+1)=(0,0):=by rw[<-hw1,frOf_alloc,if_neg (by simp[World.setRow];omega),frOf_setRow];exact a1.2.1
 have q5:rowOf w2 w1.heap.size=recA d.rec_:=by rw[<-hw1,rowOf_alloc,if_pos (by simp[World.setRow])]
 have q6:frOf w2 w1.heap.size=(0,0):=by rw[<-hw1,frOf_alloc,if_pos (by simp[World.setRow])]
 have hsz2:w2.heap.size=w1.heap.size+1:=by rw[<-hw1];simp[World.setRow]
 have HB2:Hid (Below w.heap.size w w2):=qH (by rw[<-hw1];exact(below_row HB1.out nl _).alloc (by simp[World.setRow];omega) _);have HK2:Hid (Kp (w.heap.size+2) w1 w2):=qH (by rw[<-hw1];exact(HK1.out.row (.inl (by omega)) _).alloc (by simp[World.setRow]) _);rw[hw1];have RD:=qH q1;have FD:=qH q2;have RZ:=qH q3;have FZ:=qH q4;have RR:=qH q5;have FR:=qH q6;have HI1:Hid (DevIn w2 d L1):=qH (Fresh.kp HFR.out HK2.out nl (by omega)).now.devIn;have KI:Hid (∀wq,Below w2.heap.size w2 wq->Calls Tryz.prog 38 #[.agg (devA d L1),iv (ka:Int),.agg (recA d.rec_)] wq (ImRet wq img)):=qH (fun wq h=>KI1.out wq (HI1.out.stays h));have KD:Hid (∀wq A c,Below w2.heap.size w2 wq->img.length<=c->Bts wq A img->Calls Tryz.prog 37 #[.agg (patA d.job.from_ d.job.to_ d.job.old d.job.new_ d.job.size L1.aj d.job.ops.length L1.cj),.slice A img.length c] wq (ByRet2 wq b 0)):=qH (fun wq A c h hc hb=>by
  have hq:=patDo_calls L1.aj A L1.cj c d.job img wq hc (by have:=HIL.out;omega) hb (HI1.out.job.stays h);rw[HPD.out]at hq;exact hq)
 clear hw1 hp1 q1 q2 q3 q4 q5 q6 a2 a1;have hq2:=fun v (h:Below w2.heap.size w2 v)=>keep1 h RD.out (by go_simp) FD.out;have hq1:=fun v (h:Below w2.heap.size w2 v)=>keep1 h RR.out (by go_simp) FR.out;have hf1:=HA.out;have HSZ1:=qH hsz2;clear hsz2
 go_region_held3 (fun v=>Below w2.heap.size w2 v) (first|exact hbb|exact(Below.refl _ _).drew)
  (first
    |(go_at_call 38;refine(KI.out _ (by assumption)).mono ?_;rintro e wj ⟨Aj,cj,rfl,h3,h4,h5⟩;have hbb:=(bW w2).drew.trans (h5.mono (by simp)))
    |(go_at_call 37;refine(KD.out _ _ _ (by assumption) h3 h4).mono ?_;rintro e w4 ⟨A2,c2,rfl,g1,g2,g9⟩;have hbb:=hbb.trans (g9.mono hbb.size)))
 have g3:=hbb;have hsz2:=HSZ1.out;clear hbb g9 h3 h4 h5 hq2 hq1 hf1;have b3:=keep1 g3 RD.out (by go_simp) FD.out;have b1:=keep1 g3 RZ.out (by go_simp) FZ.out;have b2:=keep1 g3 RR.out (by go_simp) FR.out;have hs1:=g3.size;have HB3:Hid (Below w.heap.size w w4):=qH (HB2.out.trans (g3.mono HB2.out.size));have HK3:Hid (Kp (w.heap.size+2) w1 w4):=qH (HK2.out.below (by omega) g3);have HBB:=qH g1;have HC1:=qH g2;clear g1 g2 g3 KI KD RD FD RZ FZ RR FR KI1 HI1;have hdj:=HBK.out;have hd3:=hdj.d0;have hd1:=hdj.d1;have hd4:=hdj.d8;have hbl:=HBL.out;obtain⟨dn,hdn⟩:∃dn:Nat,d.done=(dn:Int):=⟨d.done.toNat,by omega⟩;have hdn1:dn<=56:=by omega
 have HDN:=qH hdn;obtain⟨rb,hrb⟩:=eX (room b);have hb2:b.length<=64:=by omega
 have HRL:Hid (rb.length=64):=qH (by rw[<-hrb];exact room_len hb2);have HB4:=qH hb2;have HRB:=qH hrb;have hown1:=(Fresh.kp HFR.out HK3.out nl (by omega)).now;obtain⟨m1,m2,hdo⟩:=hown1;obtain⟨gs,cur,cs,hslot,hgs,hgs1,hcur,hcc,hcsz,hct,hput⟩:=hdo.slotS HOK.out.l0 HOK.out.l1 hb1;have hbase:w.heap.size+2<=gs:=hgs;have hgsw:gs<w1.heap.size:=by
  obtain⟨m1',m2',hdo'⟩:=HFR.out.now;obtain⟨gs',_,_,hslot',_,hgs2',_⟩:=hdo'.slotS HOK.out.l0 HOK.out.l1 hb1;rw[hslot]at hslot';injection hslot' with h9;injection h9 with h9 _ _;injection h9 with h9;injection h9 with h9 _;omega
 have HSLOT:=qH hslot;have HCUR:=qH hcur;have HCT:=qH hct;have HCSZ:=qH hcsz;have HPUT:=qH hput;clear hdj hdn hrb hb2 hbl hd3 hd1 hd4 hdo hslot hcur hct hcsz hput hs1 hbz;obtain⟨m,hm⟩:∃m:Nat,keepN torn keep=(m:Int):=⟨(keepN torn keep).toNat,by have:=keepN_bd torn keep;omega⟩;have hm1:m<=8:=by have:=keepN_bd torn keep;omega
 have HM:=qH hm;clear hm;go_upto_if 49 with fail
 go_cut [11] (fun v wx=>v=iv (m:Int)∧w4=wx)
 case first=>
  cases torn
  case false=>
   have hmm:Hid ((8:Int)=(m:Int)):=qH (by rw[<-HM.out];simp[keepN]);go_wp2_with fail;go_meet
   case rel=>exact⟨by rw[<-hmm.out],rfl⟩
  case true=>
   have hmm:max 0 (min 8 keep)=(m:Int):=by rw[<-HM.out];simp[keepN]
   have h1x:=run_min8 keep;have h2x:=run_max0 (min 8 keep);rw[hmm]at h2x;generalize min 8 keep=mn at h1x h2x;clear hmm;exact x3dq
 case rest=>
 obtain⟨rfl,rfl⟩:=hcut;go_wp2_with fail;have RD:=qH b3.1;have FD:=qH b3.2.1;have RR:=qH b2.1;have FR:=qH b2.2.1;have HN1:Hid (w.heap.size≠gs):=qH (by omega);have HN2:Hid (w1.heap.size≠gs):=qH (by omega);have HG1:Hid (gs<w4.heap.size):=qH hgs1;have HG2:Hid (0<(rowOf w4 gs).size):=qH (by rw[row_of_blk HCUR.out,HCSZ.out];omega);have HWR:Hid (IntKind.i64.wrap (d.done+(m:Int))=d.done+(m:Int)):=qH (IntWalk.i64_in _ (by have:=HDN.out;omega));have HW1:Hid (IntKind.i64.wrap ((1:Int)-(ka:Int))=(kb:Int)):=qH (by rw[HKB.out];exact IntWalk.i64_in _ (by omega));have HSL:Hid (∀W,(Instr.slice 22 (.slice (some ⟨gs,0,none⟩) 64 cs) (some (iv d.done)) (some (iv (d.done+(m:Int)))) none).run Tryz.prog W=.ok (.slice (some ⟨gs,dn,none⟩) m (cs-dn)) W):=qH (sl_mid dn m HDN.out (by rw[HDN.out]) hcc (by omega) (by omega));have i1:(0:Int)<=(kb:Int):=by omega
 have i2:(kb:Int)<2:=by omega
 have i3:¬(2:Int)<=(kb:Int):=by omega
 obtain⟨new,hnew⟩:=eX ((cur.toList.take dn++((rb.drop dn).take m).map bv++cur.toList.drop (dn+m)).toArray);have HNEW:=qH hnew;clear hnew;refine wp_region_mix (by kernel_rfl) (some 54::some 55::some 56::some 57::some 58::some 59::some 60::some 61::some 62::some 63::some 64::some 65::some 66::some 67::some 68::some 69::some 70::some 71::some 72::[]) (none::none::none::none::none::none::none::none::none::none::none::none::none::none::some 0::none::none::some 1::some 2::[]) (.pointer (some ⟨w1.heap.size,1,none⟩)::iv (ka:Int)::iv (kb:Int)::.pointer (some ⟨w.heap.size,0,none⟩)::.pointer (some ⟨w.heap.size,kb,none⟩)::.slice (some ⟨gs,0,none⟩) 64 cs::.pointer (some ⟨w.heap.size,36,none⟩)::iv d.done::.pointer (some ⟨w.heap.size,36,none⟩)::iv d.done::iv (m:Int)::iv (d.done+(m:Int))::.slice (some ⟨gs,dn,none⟩) m (cs-dn)::.slice A2 b.length c2::undef::.pointer (some ⟨w.heap.size,36,none⟩)::iv d.done::undef::undef::[]) 3 (wrJ w4 rb dn gs new) 82 rfl rfl (by decide+kernel) (by decide+kernel) (by decide+kernel) (by decide+kernel) rfl rfl (by decide+kernel) (by decide+kernel) (rfl) ?_ ?_
 ·refine⟨?_,?_,?_,?_,?_,?_,?_,?_,?_,?_,?_,?_,?_,?_,?_,?_,?_,?_,?_,trivial⟩
  ·intro done cv k1 a wq hw h hJ hn;have e1:=mO 8 (.pointer (some ⟨w1.heap.size,0,none⟩)) h;go_simp
  ·intro done cv k2 a wq hw h hJ hn;have e1:=mN 0 54 h hw;obtain⟨r_,f_⟩:=wrJ_row (curs:=#[]) hJ HN2.out RR.out FR.out (by simp[recA]) HG2.out;have c_:=cell_row (w:=wq) (g:=w1.heap.size) (by rw[r_];simp[recA]);have hk_:=HA.out;go_simp
  ·intro done cv k1 a wq hw h hJ hn;have e1:=mN 1 55 h hw;have hw_:=HW1.out;go_simp
  ·intro done cv k2 a wq hw h hJ hn;exact x97q
  ·intro done cv k1 a wq hw h hJ hn;have i1_:=i1;have i2_:=i2;have i3_:=i3;have e1:=mN 3 57 h hw;have e56:=mN 2 56 h hw;go_simp
  ·intro done cv k2 a wq hw h hJ hn;have e1:=mN 4 58 h hw;have hs_:=HSLOT.out;exact x3q5
  ·intro done cv k1 a wq hw h hJ hn;exact x97q
  ·intro done cv k2 a wq hw h hJ hn;have e1:=mN 6 60 h hw;exact x3q5
  ·intro done cv k1 a wq hw h hJ hn;exact x97q
  ·intro done cv k2 a wq hw h hJ hn;have e1:=mN 8 62 h hw;exact x3q5
  ·intro done cv k1 a wq hw h hJ hn;have e1:=mO 11 (iv (m:Int)) h;exact mx_move (ch_ev e1)
  ·intro done cv k2 a wq hw h hJ hn;have e1:=mN 9 63 h hw;have e64:=mN 10 64 h hw;have hw_:=HWR.out;go_simp
  ·intro done cv k1 a wq hw h hJ hn;have e1:=mN 5 59 h hw;have e61:=mN 7 61 h hw;have e65:=mN 11 65 h hw;have hs_:=HSL.out;go_simp
  ·intro done cv k2 a wq hw h hJ hn;have e1:=mO 10 (.slice A2 b.length c2) h;exact mx_move (ch_ev e1)
  ·intro done cv a wq hw h hJ;have e1:=mN 13 67 h hw;obtain rfl:wq=w4.drew:=hJ;refine wp_call (vals:=#[.slice A2 b.length c2]) (by rw[List.map_toArray,List.map_cons,List.map_nil,ch_ev e1]) (enters_of Tryz.func21 (by kernel_rfl) rfl _ _) (room_calls A2 c2 b _ HB4.out (HBB.out.stays (Below.refl _ _).drew)) ?_;rintro e w' ⟨A1,c2,rfl,hown,hbel⟩;rw[HRB.out]at hown⊢;exact⟨_,rfl,_,rfl,A1,c2,by simp,hown,(Below.refl _ _).drew.trans hbel⟩
  ·intro done cv k1 a wq hw h hJ hn;exact x97q
  ·intro done cv k2 a wq hw h hJ hn;have e1:=mN 15 69 h hw;exact x3q5
  ·intro done cv a wq hw h hJ;have e1:=mx_cv (i:=14) (t:=68) h (hw 14 (by decide)) rfl rfl;have e70:=mN 16 70 h hw;obtain⟨A1,c2,y1,hown,hbel⟩:=hJ;rw[y1]at e1;obtain⟨g1,hA1,hg1,_⟩:=hown.form (by rw[HRL.out];decide);subst hA1;have hs_:=sl_from (g:=g1) (n:=rb.length) (c:=c2) dn HDN.out hown.le (by rw[HRL.out];omega) (by have h9:=hown.le;rw[HRL.out]at h9;omega);refine wp_val (v:=.slice (some ⟨g1,dn,none⟩) (rb.length-dn) (c2-dn)) (by go_simp) ⟨_,rfl,g1,c2-dn,by simp,hown.src.bts,hg1,hbel⟩
  ·intro done cv a wq hw h hJ;have e3:=mN 12 66 h hw;have e71:=mx_cv (i:=17) (t:=71) h (hw 17 (by decide)) rfl rfl;obtain⟨g3,c2,y1,hbt,hg1,hbel⟩:=hJ;rw[y1]at e71;have hcb:=(hbel.block gs HG1.out).trans HCUR.out;have hcl:(((rb.drop dn).take m).map bv).length=m:=by rw[List.length_map,List.length_take,List.length_drop,HRL.out];omega
   refine wp_copyN (.tmp 66) (.tmp 71) 22 22 rfl _ _ (ch_ev e3) (ch_ev e71) (run_copy_row Tryz.prog wq 22 22 _ 5 gs dn m (cs-dn) ⟨g3,dn,none⟩ (rb.length-dn) c2 cur 5 (((rb.drop dn).take m).map bv) Tryz.underlying22 (by kernel_rfl) hcb (by rw[hcl,HRL.out];show m=min (64-dn) m;omega) ?_ (by rw[hcl,HCSZ.out];omega) (bv_one _)) ⟨_,rfl,wq,hbel,?_⟩
   ·intro j v hv;obtain⟨hj,rfl⟩:=List.getElem?_eq_some_iff.1 hv;have hjm:j<m:=by rw[hcl]at hj;exact hj
    obtain⟨bb,oo,e1,_,hc⟩:=hbt (dn+j) (by rw[HRL.out];omega);injection e1 with e1;injection e1 with e1 e2;subst e1 e2;have hx:w4.heap.size<=g3:=hg1;rw[show (⟨g3,dn,none⟩:Addr).add j=⟨g3,0+(dn+j),none⟩ by simp[Addr.add]];rw[hc];simp
   rw[hcl,HNEW.out]
 intro cv1 w3 hJ;obtain⟨w4,hb2,rfl⟩:=hJ;simp only[mixAll,putAll_some,putAll_none,putAll_nil,List.getElem?_cons_zero,List.getElem?_cons_succ,Nat.zero_add,Nat.reduceAdd,List.setIfInBounds_toArray,List.set_cons_zero,List.set_cons_succ];obtain⟨nb,hnb⟩:=eX (d.put d.next m);have hsl:=slot_len HOK.out.l0 HOK.out.l1 (kb:Int);have hnb1:nb=(d.slot (kb:Int)).take dn++(rb.drop dn).take m++(d.slot (kb:Int)).drop (dn+m):=by
  rw[<-hnb];unfold Dev.put;rw[HA.out,HKB.out,HNX.out,HRB.out,show d.done.toNat=dn by rw[HDN.out];rfl]
 have hnbl:nb.length=64:=by
  rw[hnb1];simp only[List.length_append,List.length_take,List.length_drop,HRL.out,hsl];omega
 have hcul:cur.toList.length=cs:=by rw[Array.length_toList,HCSZ.out]
 have hcl:(((rb.drop dn).take m).map bv).length=m:=by rw[List.length_map,List.length_take,List.length_drop,HRL.out];omega
 have hnsz:new.size=cur.size:=by
  rw[<-HNEW.out,HCSZ.out];simp only[List.size_toArray,List.length_append,List.length_take,List.length_drop,hcl,hcul];omega
 have hnt:new.toList.take 64=nb.map bv:=by
  rw[<-HNEW.out,put_takeN _ _ dn m 64 hcl (by omega) (by omega),HCT.out,hnb1];simp[List.map_take,List.map_drop]
 obtain⟨d2,hd1⟩:=eX (d.setSlot (kb:Int) nb);have hwv:d.wrote torn keep={d2 with done:=d.done+(m:Int)}:=by
  unfold Dev.wrote;rw[HM.out,HA.out,HKB.out,show ((m:Int)).toNat=m from rfl,hnb,hd1]
 have hpo:=HPUT.out w4 new nb (d.done+(m:Int)) hb2 hnbl hnsz hnt ⟨by have:=HDN.out;omega,by have:=HDN.out;omega⟩;rw[hd1]at hpo;have hown2:DvOwn (w4.setRow gs new) (w.heap.size+2) {d2 with done:=d.done+(m:Int)} L1:=⟨m1,m2,hpo⟩;have HO1:=qH hown2.fresh;have hz:res=(if torn=true then ({d2 with done:=d.done+(m:Int)}:Dev).down else {d2 with done:=d.done+(m:Int)},0):=by rw[HD1.out,hwv]
 have hdev:devA d2 L1=devA d L1:=by rw[<-hd1];exact devA_slot HOK.out.l0 HOK.out.l1 hb1 hnbl
 have hdn2:d2.done=d.done:=by rw[<-hd1];unfold Dev.setSlot;split<;>rfl
 have HB5:=bT HB3 hb2;have d3:=keep1 hb2 RD.out (by go_simp) FD.out;have d1:=keep1 hb2 b1.1 (by go_simp) b1.2.1;have hsr:0<(rowOf w4 gs).size:=by rw[rowOf_below hgs1 hb2];exact HG2.out
 have hs1:=hb2.size;obtain⟨w3,hw1⟩:=eX (w4.setRow gs new);have e0r:rowOf w3 w.heap.size=devA d2 L1:=by rw[<-hw1,rowOf_setRow _ _ _ _ hsr,if_neg (by omega),d3.1,hdev]
 have e0f:frOf w3 w.heap.size=(0,0):=by rw[<-hw1,frOf_setRow];exact d3.2.1
 have e1r:rowOf w3 (w.heap.size+1)=devA Dev.zero DLoc.zero:=by rw[<-hw1,rowOf_setRow _ _ _ _ hsr,if_neg (by omega)];exact d1.1
 have e1f:frOf w3 (w.heap.size+1)=(0,0):=by rw[<-hw1,frOf_setRow];exact d1.2.1
 have hs2:w3.heap.size=w4.heap.size:=by rw[<-hw1];simp[World.setRow]
 have HB6:Hid (Below w.heap.size w w3):=qH (by rw[<-hw1];exact below_row HB5.out (by omega) _);have e0n:¬w.heap.size=w3.heap.size:=by omega
 have e1n:¬w.heap.size+1=w3.heap.size:=by omega
 have e0c:∀j,w3.cell? ⟨w.heap.size,j,none⟩=(devA d2 L1)[j]?:=fun j=>by rw[cell_row (by rw[e0r];simp[devA]),e0r]
 have e0z:∀j,w3.frozen? ⟨w.heap.size,j,none⟩=false:=fun j=>frozen_row (by rw[e0r];simp[devA]) e0f j;have hwr1:IntKind.i64.wrap (d2.done+(m:Int))=d2.done+(m:Int):=by rw[hdn2];exact HWR.out
 rw[hw1]at HO1⊢;rw[<-hdn2]at HO1 hz;have HFR:=HO1;subst hz;clear hw1 hown2 hnt hnsz hcl hcul hnbl hnb1 hsl hnb hdev hd1 hwv hpo hdn2 d3 d1 b3 b1 b2 hb2 hsr RD FD RR FR HG2;have HK4:Hid (Kp (w.heap.size+2) w3 w3):=qH (Kp.refl _ _);obtain⟨tk,htk⟩:=eX (d2.done+(m:Int));rw[htk]at HFR HO1 hwr1⊢
 cases torn
 case false=>
  go_wp2_with fail;refine bodyPost_ret (rC (devA {d2 with done:=tk} L1)) rfl ⟨L1,rfl,?_,?_⟩
  ·refine Fresh.imp (P:=fun v=>DvOwn v (w.heap.size+2) {d2 with done:=tk} L1) (Fresh.kp HFR.out ?_ (by omega) (by first|omega|(simp<;>omega))) (fun v hv=>hv.devIn);exact x7of
  exact bZ HB6
 case true=>
  go_wp2_with fail;refine(down_calls {d2 with done:=tk} L1 _).mono ?_;rintro e w5 ⟨rfl,hb⟩;have a2:=kp (w.heap.size+1) (devA Dev.zero DLoc.zero) hb;have a1:=kp (w.heap.size) (devA {d2 with done:=tk} L1) hb;have hbs1:=hb.size;have hsz3:w3.heap.size<=w5.heap.size:=by first|omega|(simp at hbs1;omega)
  have HK5:Hid (Kp (w.heap.size+2) w3 w5):=qH (by
   refine Kp.below ?_ (by first|omega|(simp<;>omega)) hb;exact x7of)
  have HB7:=bU HB6 hb;clear hb hbs1;go_wp2_with fail;refine bodyPost_ret (rC (devA ({d2 with done:=tk}:Dev).down L1.down)) rfl ⟨L1.down,rfl,?_,?_⟩
  ·refine Fresh.imp (P:=fun v=>DvOwn v (w.heap.size+2) {d2 with done:=tk} L1) (Fresh.kp HFR.out ?_ (by omega) (by first|omega|(simp<;>omega))) (fun v hv=>hv.devIn.down);repeat (first|exact HK5.out|exact Kp.refl _ _|refine Kp.row ?_ (by omega) _|refine Kp.cell ?_ (by first|(show _<_∨_<=_;omega)|(simp<;>omega)) _|refine Kp.alloc ?_ (by first|omega|(simp<;>omega)) _)
  exact bZ HB7
theorem devWrite_calls(d:Dev)(L:DLoc)(torn:Bool)(keep:Int)(w:World)(h:DevIn w d L):Calls Tryz.prog 14 #[.agg (devA d L),.bool torn,iv keep] w (DvRet w (devWrite d torn keep).1 (devWrite d torn keep).2):=by
 by_cases hz:devReady d=0
 ·exact devWrite_ok d L torn keep w h hz
 have e:devWrite d torn keep=(Dev.zero,devReady d):=by unfold devWrite;rw[if_pos hz]
 rw[e];exact devWrite_bad d L torn keep w h hz
theorem DevIn.fin(h:DevIn w d L)(p q:Cop):DevIn w {d with c0:=p,c1:=q,busy:=false,job:=Pat.zero,done:=0} {L with aj:=none,cj:=0}:=⟨h.k0,h.l0,h.b0,h.k1,h.l1,h.b1,h.kg,h.lg,h.got,pat_in_zero w,h.ir,⟨by show -9223372036854775808<=(0:Int);omega,by show (0:Int)<=9223372036854775807;omega⟩⟩
theorem tryIt0(h:r.active=0)(x:Inf):r.tryIt x={r with trying:=true,tries:=3,b:=x}:=by unfold Rec.tryIt Rec.setOther;rw[if_pos (by exact h)]
theorem tryIt1(h:r.active=1)(x:Inf):r.tryIt x={r with trying:=true,tries:=3,a:=x}:=by unfold Rec.tryIt Rec.setOther;rw[if_neg (by show ¬r.active=0;omega)]
theorem devFinish_bad(d:Dev)(L:DLoc)(torn:Bool)(w:World)(h:DevIn w d L)  (hne:devReady d≠0):Calls Tryz.prog 15 #[.agg (devA d L),.bool torn] w (DvRet w Dev.zero (devReady d)):=by
 have hba:Below w.heap.size w ((w.alloc (.cells (devA d L) 37)).alloc (.cells (devA Dev.zero DLoc.zero) 37)):=bA (bA (Below.refl _ _) _) _;have HBA:=qH hba;have HIN:=qH h;have KB:=qH (fun w h=>ready_bad d L w h hne);have q:(devReady d !=0)=true:=by simp[hne]
 generalize devReady d=n at *
 clear hne h hba;go_enter Tryz.func15,Tryz.ntmps15;go_wp2_with fail;refine(KB.out _ (HIN.out.stays HBA.out)).mono ?_;rintro e w1 ⟨rfl,hb1⟩;have a2:=kp (w.heap.size) (devA d L) hb1;have a1:=kp (w.heap.size+1) (devA Dev.zero DLoc.zero) hb1;have HB1:=bT HBA hb1;clear hb1;exact x5r8
theorem devFinish_ok(d:Dev)(L:DLoc)(torn:Bool)(w:World)(h:DevIn w d L)  (hz:devReady d=0):Calls Tryz.prog 15 #[.agg (devA d L),.bool torn] w (DvRet w (devFinish d torn).1 (devFinish d torn).2):=by
 have hba:Below w.heap.size w ((w.alloc (.cells (devA d L) 37)).alloc (.cells (devA Dev.zero DLoc.zero) 37)):=bA (bA (Below.refl _ _) _) _;have HBA:=qH hba;have HIN:=qH h;have KR:=qH (fun w h=>ready_ok d L w h hz);have hdef:devFinish d torn=if d.busy=false∨d.done<d.job.size then (Dev.zero,5)
   else if (recWrite d.c0 d.c1 (d.rec_.tryIt ⟨d.job.to_,d.job.size,d.job.new_⟩) torn).2≠0 then (Dev.zero,(recWrite d.c0 d.c1 (d.rec_.tryIt ⟨d.job.to_,d.job.size,d.job.new_⟩) torn).2)
   else (if torn=true then ({d.write (d.rec_.tryIt ⟨d.job.to_,d.job.size,d.job.new_⟩) torn with busy:=false,job:=Pat.zero,done:=0}:Dev).down else {d.write (d.rec_.tryIt ⟨d.job.to_,d.job.size,d.job.new_⟩) torn with busy:=false,job:=Pat.zero,done:=0},0):=by unfold devFinish;rw[if_neg (by omega)]
 have hact:=rec_active (rec_ok (devReady_ok.1 hz).1);unfold Dev.write at hdef;obtain⟨rt,hrt⟩:=eX (d.rec_.tryIt ⟨d.job.to_,d.job.size,d.job.new_⟩);have HT2:Hid (d.rec_.active=0->rt=⟨d.rec_.gen,0,true,3,d.rec_.floor,d.rec_.a,⟨d.job.to_,d.job.size,d.job.new_⟩⟩):=qH (fun e=>by rw[<-hrt,tryIt0 e,Rec.mk.injEq];exact⟨rfl,e,rfl,rfl,rfl,rfl,rfl⟩);have HT1:Hid (d.rec_.active=1->rt=⟨d.rec_.gen,1,true,3,d.rec_.floor,⟨d.job.to_,d.job.size,d.job.new_⟩,d.rec_.b⟩):=qH (fun e=>by rw[<-hrt,tryIt1 e,Rec.mk.injEq];exact⟨rfl,e,rfl,rfl,rfl,rfl,rfl⟩);rw[hrt]at hdef;have K1:=qH (fun w=>write_calls d.c0 d.c1 rt torn w);obtain⟨⟨⟨p1,p2⟩,e1⟩,hw⟩:∃x,recWrite d.c0 d.c1 rt torn=x:=⟨_,rfl⟩;rw[hw]at hdef K1;dsimp only at hdef;have HD:=qH hdef;generalize devFinish d torn=res at *
 clear hz h hba hdef hw hrt;go_enter Tryz.func15,Tryz.ntmps15;go_wp2_with fail;refine(KR.out _ (HIN.out.stays HBA.out)).mono ?_;rintro e w1 ⟨L1,rfl,hfr,hb1⟩;have a2:=kp (w.heap.size) (devA d L) hb1;have a1:=kp (w.heap.size+1) (devA Dev.zero DLoc.zero) hb1;have HFR:Hid (Fresh (w.heap.size+2) w1 (fun v=>DvOwn v (w.heap.size+2) d L1)):=qH (by simpa[Nat.add_assoc]using hfr);have HB1:=bT HBA hb1;have hsz1:w.heap.size+2<=w1.heap.size:=by have:=hb1.size;simp at this;omega
 have HK1:Hid (Kp (w.heap.size+2) w1 w1):=qH (Kp.refl _ _);clear hb1 hfr
 cases hbz:d.busy
 ·have hz:res=(Dev.zero,5):=HD.out.trans (if_pos (.inl hbz));subst hz;exact x5r8
 by_cases c1:d.done<d.job.size
 ·have hz:res=(Dev.zero,5):=HD.out.trans (if_pos (.inr c1));subst hz;exact x5r8
 have HD1:=qH (HD.out.trans (if_neg (by rw[hbz];simpa using c1)));clear HD;rcases hact with hk|hk
 first|case' inl=>have T2:Hid True:=qH trivial|case' pos=>have T2:Hid True:=qH trivial|case' refine_1=>have T2:Hid True:=qH trivial
 iterate 2
  ·first
    |
     revert T2;intro T2;have HT:=qH (HT2.out hk)
    |have HT:=qH (HT1.out hk)
   clear HT2 HT1;have w1e:IntKind.i64.wrap (1-0)=1:=by decide
   have w2e:IntKind.i64.wrap (1-1)=0:=by decide
   have w3e:IntKind.i64.wrap 1=1:=by decide
   have w4e:IntKind.i64.wrap 0=0:=by decide
   go_wp2_with fail;rw[<-HT.out];refine(K1.out _).mono ?_;rintro e w3 ⟨rfl,hb⟩;have a2:=kp (w.heap.size) (devA d L1) hb;have a1:=kr a1 hb;have hbs3:=hb.size;have hsz3:w1.heap.size<=w3.heap.size:=by first|omega|(simp at hbs3;omega)
   have HK3:Hid (Kp (w.heap.size+2) w1 w3):=qH (by
    refine Kp.below ?_ (by first|omega|(simp<;>omega)) hb;repeat (first|exact HK1.out|exact Kp.refl _ _|refine Kp.row ?_ (by omega) _|refine Kp.cell ?_ (by first|(show _<_∨_<=_;omega)|(simp<;>omega)) _|refine Kp.alloc ?_ (by first|omega|(simp<;>omega)) _))
   have HB3:=bU HB1 hb;clear hb hbs3;by_cases c3:e1≠0
   ·have hz:res=(Dev.zero,e1):=HD1.out.trans (if_pos c3);subst hz;have q:(e1 !=0)=true:=by simp[c3]
    clear c3;go_wp2_with fail;refine bodyPost_ret (rC (devA Dev.zero DLoc.zero)) rfl ⟨DLoc.zero,rfl,.const fun v=>DevIn.zero v,bZ HB3⟩
   have c3:=Decidable.not_not.1 c3;subst c3;have HD3:=qH (HD1.out.trans (if_neg (by decide)));clear HD1
   cases torn
   case false=>
    have hz:res=({d with c0:=p1,c1:=p2,busy:=false,job:=Pat.zero,done:=0},0):=HD3.out.trans (by rw[if_neg (by decide)]);subst hz;go_wp2_with fail;refine bodyPost_ret (rC (devA {d with c0:=p1,c1:=p2,busy:=false,job:=Pat.zero,done:=0} {L1 with aj:=none,cj:=0})) rfl ⟨{L1 with aj:=none,cj:=0},rfl,?_,?_⟩
    ·refine Fresh.imp (P:=fun v=>DvOwn v (w.heap.size+2) d L1) (Fresh.kp HFR.out ?_ (by omega) (by first|omega|(simp<;>omega))) (fun v hv=>hv.devIn.fin p1 p2);repeat (first|exact HK3.out|exact Kp.refl _ _|refine Kp.row ?_ (by omega) _|refine Kp.cell ?_ (by first|(show _<_∨_<=_;omega)|(simp<;>omega)) _|refine Kp.alloc ?_ (by first|omega|(simp<;>omega)) _)
    exact bZ HB3
   case true=>
    have hz:res=(({d with c0:=p1,c1:=p2,busy:=false,job:=Pat.zero,done:=0}:Dev).down,0):=HD3.out.trans (by rw[if_pos rfl]);subst hz;go_wp2_with fail;refine(down_calls {d with c0:=p1,c1:=p2,busy:=false,job:=Pat.zero,done:=0} {L1 with aj:=none,cj:=0} _).mono ?_;rintro e w4 ⟨rfl,hb⟩;have a2:=kp (w.heap.size+1) (devA Dev.zero DLoc.zero) hb;have a1:=kp (w.heap.size) (devA {d with c0:=p1,c1:=p2,busy:=false,job:=Pat.zero,done:=0} {L1 with aj:=none,cj:=0}) hb;have hbs4:=hb.size;have hsz4:w1.heap.size<=w4.heap.size:=by first|omega|(simp at hbs4;omega)
    have HK4:Hid (Kp (w.heap.size+2) w1 w4):=qH (by
     refine Kp.below ?_ (by first|omega|(simp<;>omega)) hb;repeat (first|exact HK3.out|exact Kp.refl _ _|refine Kp.row ?_ (by omega) _|refine Kp.cell ?_ (by first|(show _<_∨_<=_;omega)|(simp<;>omega)) _|refine Kp.alloc ?_ (by first|omega|(simp<;>omega)) _))
    have HB4:=bU HB3 hb;clear hb hbs4;go_wp2_with fail;refine bodyPost_ret (rC (devA ({d with c0:=p1,c1:=p2,busy:=false,job:=Pat.zero,done:=0}:Dev).down ({L1 with aj:=none,cj:=0}:DLoc).down)) rfl ⟨({L1 with aj:=none,cj:=0}:DLoc).down,rfl,?_,?_⟩
    ·refine Fresh.imp (P:=fun v=>DvOwn v (w.heap.size+2) d L1) (Fresh.kp HFR.out ?_ (by omega) (by first|omega|(simp<;>omega))) (fun v hv=>(hv.devIn.fin p1 p2).down);repeat (first|exact HK4.out|exact Kp.refl _ _|refine Kp.row ?_ (by omega) _|refine Kp.cell ?_ (by first|(show _<_∨_<=_;omega)|(simp<;>omega)) _|refine Kp.alloc ?_ (by first|omega|(simp<;>omega)) _)
    exact bZ HB4
theorem devFinish_calls(d:Dev)(L:DLoc)(torn:Bool)(w:World)(h:DevIn w d L):Calls Tryz.prog 15 #[.agg (devA d L),.bool torn] w (DvRet w (devFinish d torn).1 (devFinish d torn).2):=by
 by_cases hz:devReady d=0
 ·exact devFinish_ok d L torn w h hz
 have e:devFinish d torn=(Dev.zero,devReady d):=by unfold devFinish;rw[if_pos hz]
 rw[e];exact devFinish_bad d L torn w h hz
theorem devCrash_bad(d:Dev)(L:DLoc)(w:World)(h:DevIn w d L)  (hne:devReady d≠0):Calls Tryz.prog 17 #[.agg (devA d L)] w (DvRet w Dev.zero (devReady d)):=by
 have hba:Below w.heap.size w ((w.alloc (.cells (devA d L) 37)).alloc (.cells (devA Dev.zero DLoc.zero) 37)):=bA (bA (Below.refl _ _) _) _;have HBA:=qH hba;have HIN:=qH h;have KB:=qH (fun w h=>ready_bad d L w h hne);have q:(devReady d !=0)=true:=by simp[hne]
 generalize devReady d=n at *
 clear hne h hba;go_enter Tryz.func17,Tryz.ntmps17;go_wp2_with fail;refine(KB.out _ (HIN.out.stays HBA.out)).mono ?_;rintro e w1 ⟨rfl,hb1⟩;have a2:=kp (w.heap.size) (devA d L) hb1;have a1:=kp (w.heap.size+1) (devA Dev.zero DLoc.zero) hb1;have HB1:=bT HBA hb1;clear hb1;exact x5r8
theorem devCrash_ok(d:Dev)(L:DLoc)(w:World)(h:DevIn w d L)  (hz:devReady d=0):Calls Tryz.prog 17 #[.agg (devA d L)] w (DvRet w d.down 0):=by
 have hba:Below w.heap.size w ((w.alloc (.cells (devA d L) 37)).alloc (.cells (devA Dev.zero DLoc.zero) 37)):=bA (bA (Below.refl _ _) _) _;have HBA:=qH hba;have HIN:=qH h;have KR:=qH (fun w h=>ready_ok d L w h hz);clear hz h hba;go_enter Tryz.func17,Tryz.ntmps17;go_wp2_with fail;refine(KR.out _ (HIN.out.stays HBA.out)).mono ?_;rintro e w1 ⟨L1,rfl,hfr,hb1⟩;have a2:=kp (w.heap.size) (devA d L) hb1;have a1:=kp (w.heap.size+1) (devA Dev.zero DLoc.zero) hb1;have HFR:Hid (Fresh (w.heap.size+2) w1 (fun v=>DvOwn v (w.heap.size+2) d L1)):=qH (by simpa[Nat.add_assoc]using hfr);have HB1:=bT HBA hb1;have hsz1:w.heap.size+2<=w1.heap.size:=by have:=hb1.size;simp at this;omega
 have HK1:Hid (Kp (w.heap.size+2) w1 w1):=qH (Kp.refl _ _);clear hb1 hfr;go_wp2_with fail;refine(down_calls d L1 _).mono ?_;rintro e w2 ⟨rfl,hb1⟩;have a2:=kp (w.heap.size) (devA d L1) hb1;have a1:=kr a1 hb1;have HB3:Hid (Below w1.heap.size w1 w2∨True):=qH (.inr trivial);have hs1:=HB1.out.size;have HX:Hid (Fresh (w.heap.size+2) w2 (fun v=>DvOwn v (w.heap.size+2) d L1)):=qH (by
  refine Fresh.below ?_ hb1 nl;repeat (first|exact HFR.out|refine Fresh.row ?_ (by omega) _|refine Fresh.alloc ?_ _))
 have HB2:Hid (Below w.heap.size w w2):=qH (by
  refine Below.trans ?_ (hb1.mono (by first|omega|(simp<;>omega)));exact x0ap)
 clear hb1 HFR;go_wp2_with fail;refine bodyPost_ret (rC (devA d.down L1.down)) rfl ⟨L1.down,rfl,?_,?_⟩
 ·refine Fresh.imp (P:=fun v=>DvOwn v (w.heap.size+2) d L1) (Fresh.mono (base:=w.heap.size+2) ?_ (by omega)) (fun v hv=>hv.devIn.down);repeat (first|exact HX.out|refine Fresh.row ?_ (by omega) _)
 exact bZ HB2
theorem devCrash_calls(d:Dev)(L:DLoc)(w:World)(h:DevIn w d L):Calls Tryz.prog 17 #[.agg (devA d L)] w (DvRet w (devCrash d).1 (devCrash d).2):=by
 unfold devCrash;by_cases hz:devReady d=0
 ·rw[if_neg (by omega)];exact devCrash_ok d L w h hz
 rw[if_pos hz];exact devCrash_bad d L w h hz
theorem DevIn.booted(h:DevIn w d L)(p q:Cop)(k:Int)(hk:k=0∨k=1):DevIn w {d with c0:=p,c1:=q,up:=true,running:=k} L:=⟨h.k0,h.l0,h.b0,h.k1,h.l1,h.b1,h.kg,h.lg,h.got,h.job,⟨by show -9223372036854775808<=k;omega,by show k<=9223372036854775807;omega⟩,h.id⟩
theorem start_slot(h:recCheck r=0):(recStart r).1=0∨(recStart r).1=1:=by
 have:=rec_active h;unfold recStart;repeat' split
 all_goals (try dsimp only)
 all_goals first|omega|(unfold nowAt;omega)
theorem devBoot_bad(d:Dev)(L:DLoc)(w:World)(h:DevIn w d L)(hne:devCheck d≠0):Calls Tryz.prog 18 #[.agg (devA d L)] w (DvRet w Dev.zero (devCheck d)):=by
 have hba:Below w.heap.size w ((w.alloc (.cells (devA d L) 37)).alloc (.cells (devA Dev.zero DLoc.zero) 37)):=bA (bA (Below.refl _ _) _) _;have HBA:=qH hba;have HIN:=qH h;have K1:=qH (fun w h=>devCheck_calls d L w h);have q:(devCheck d !=0)=true:=by simp[hne]
 generalize devCheck d=n at *
 clear hne h hba;go_enter Tryz.func18,Tryz.ntmps18;go_wp2_with fail;refine(K1.out _ (HIN.out.stays HBA.out)).mono ?_;rintro e w1 ⟨rfl,hb1⟩;have a2:=kp (w.heap.size) (devA d L) hb1;have a1:=kp (w.heap.size+1) (devA Dev.zero DLoc.zero) hb1;have HB1:=bT HBA hb1;have hsz1:w.heap.size+2<=w1.heap.size:=by have:=hb1.size;simp at this;omega
 clear hb1;exact x5r8
theorem devBoot_late(d:Dev)(L:DLoc)(w:World)(h:DevIn w d L)(hz:devCheck d=0)(hu:d.up=true):Calls Tryz.prog 18 #[.agg (devA d L)] w (DvRet w Dev.zero 5):=by
 have hba:Below w.heap.size w ((w.alloc (.cells (devA d L) 37)).alloc (.cells (devA Dev.zero DLoc.zero) 37)):=bA (bA (Below.refl _ _) _) _;have HBA:=qH hba;have HIN:=qH h;have K1:=qH (fun w h=>devCheck_calls d L w h);rw[hz]at K1;clear hz h hba;go_enter Tryz.func18,Tryz.ntmps18;go_wp2_with fail;refine(K1.out _ (HIN.out.stays HBA.out)).mono ?_;rintro e w1 ⟨rfl,hb1⟩;have a2:=kp (w.heap.size) (devA d L) hb1;have a1:=kp (w.heap.size+1) (devA Dev.zero DLoc.zero) hb1;have HB1:=bT HBA hb1;have hsz1:w.heap.size+2<=w1.heap.size:=by have:=hb1.size;simp at this;omega
 clear hb1;exact x5r8
theorem devBoot_ok(d:Dev)(L:DLoc)(w:World)(h:DevIn w d L)(hz:devCheck d=0)(hu:d.up=false):Calls Tryz.prog 18 #[.agg (devA d L)] w (DvRet w (devBoot d).1 (devBoot d).2):=by
 have hba:Below w.heap.size w ((w.alloc (.cells (devA d L) 37)).alloc (.cells (devA Dev.zero DLoc.zero) 37)):=bA (bA (Below.refl _ _) _) _;have HBA:=qH hba;have HIN:=qH h;have K1:=qH (fun w h=>devCheck_calls d L w h);have hdef:devBoot d=if (recStart d.rec_).2.2≠0 then (Dev.zero,(recStart d.rec_).2.2)
   else if (recStart d.rec_).2.1≠d.rec_ then
    (if (recWrite d.c0 d.c1 (recStart d.rec_).2.1 false).2≠0 then (Dev.zero,(recWrite d.c0 d.c1 (recStart d.rec_).2.1 false).2)
    else ({d with c0:=(recWrite d.c0 d.c1 (recStart d.rec_).2.1 false).1.1,c1:=(recWrite d.c0 d.c1 (recStart d.rec_).2.1 false).1.2,up:=true,running:=(recStart d.rec_).1},0))
   else ({d with c0:=d.c0,c1:=d.c1,up:=true,running:=(recStart d.rec_).1},0):=by unfold devBoot;rw[if_neg (by omega),if_neg (by rw[hu];decide)];rfl
 have hok:=devCheck_ok.1 hz;have hrec:=rec_ok hok;have HSL:=qH (start_slot hrec);have KC:=qH (fun w h=>devCopy_calls d L w h);have K2:=qH (fun w=>read_ok d.c0 d.c1 w hok.cops);obtain⟨rk,hrk⟩:=eX ((recRead d.c0 d.c1).2);have hre:(recRead d.c0 d.c1).1=d.rec_:=rfl;rw[hrk,hre]at K2;have K3:=qH (fun w=>start_calls d.rec_ w);obtain⟨⟨k,nx,e1⟩,hq⟩:∃x,recStart d.rec_=x:=⟨_,rfl⟩;rw[hq]at hdef K3 HSL;dsimp only at hdef K3 HSL;have K4:=qH (fun w=>write_calls d.c0 d.c1 nx false w);obtain⟨⟨⟨p1,p2⟩,e2⟩,hw⟩:∃x,recWrite d.c0 d.c1 nx false=x:=⟨_,rfl⟩;rw[hw]at hdef K4;dsimp only at hdef;have HD:=qH hdef;rw[hz]at K1;generalize devBoot d=res at *
 clear hdef hok hrec hrk hre hq hw hz h hba;go_enter Tryz.func18,Tryz.ntmps18;go_wp2_with fail;refine(K1.out _ (HIN.out.stays HBA.out)).mono ?_;rintro e w1 ⟨rfl,hb1⟩;have a3:=kp (w.heap.size) (devA d L) hb1;have a1:=kp (w.heap.size+1) (devA Dev.zero DLoc.zero) hb1;have HB1:=bT HBA hb1;have hsz1:w.heap.size+2<=w1.heap.size:=by have:=hb1.size;simp at this;omega
 clear hb1;go_wp2_with fail;refine(KC.out _ (HIN.out.stays HB1.out)).mono ?_;rintro e w2 ⟨L1,rfl,hfr,hb⟩;have a3:=kr a3 hb;have a1:=kr a1 hb;have HFR:=qH hfr;have hsz2:w1.heap.size<=w2.heap.size:=hb.size;have HB2:=bT HB1 hb;have HK1:Hid (Kp w1.heap.size w2 w2):=qH (Kp.refl _ _);clear hb hfr;go_wp2_with fail;refine(K2.out _).mono ?_;rintro e w3 ⟨rfl,hb⟩;have a3:=kp (w.heap.size) (devA d L1) hb;have a1:=kr a1 hb;have hbs1:=hb.size;have hsz3:w2.heap.size<=w3.heap.size:=by first|omega|(simp[World.setRow]at hbs1;omega)
 have HK2:Hid (Kp w1.heap.size w2 w3):=qH (by
  refine Kp.below ?_ (by first|omega|(simp[World.setRow]<;>omega)) hb;exact x84a)
 have HB3:=bU HB2 hb;clear hb hbs1;go_wp2_with fail;refine(K3.out _).mono ?_;rintro e w4 ⟨rfl,hb⟩;have a3:=kr a3 hb;have a1:=kr a1 hb;have a2:=kp (w3.heap.size) (recA d.rec_) hb;have hbs1:=hb.size;have hsz4:w2.heap.size<=w4.heap.size:=by first|omega|(simp[World.setRow]at hbs1;omega)
 have HK3:Hid (Kp w1.heap.size w2 w4):=qH (by
  refine Kp.below ?_ (by first|omega|(simp[World.setRow]<;>omega)) hb;exact x9su)
 have HB4:=bU HB3 hb;clear hb hbs1;have hsz6:w3.heap.size<w4.heap.size:=a2.2.2.2.2.2;by_cases c2:e1≠0
 ·have hz:res=(Dev.zero,e1):=HD.out.trans (if_pos c2);subst hz;have q:(e1 !=0)=true:=by simp[c2]
  clear c2;exact x8lt
 have c2:=Decidable.not_not.1 c2;subst c2;have HD1:=qH (HD.out.trans (if_neg (by decide)));clear HD;by_cases c3:nx≠d.rec_
 ·have HD2:=qH (HD1.out.trans (if_pos c3));have q1:decide (nx=d.rec_)=false:=decide_eq_false c3;clear HD1 c3;go_wp2_with fail;refine(K4.out _).mono ?_;rintro e w5 ⟨rfl,hb⟩;have a3:=kr a3 hb;have a1:=kr a1 hb;have hbs1:=hb.size;have hsz5:w2.heap.size<=w5.heap.size:=by first|omega|(simp[World.setRow]at hbs1;omega)
  have HK4:Hid (Kp w1.heap.size w2 w5):=qH (by
   refine Kp.below ?_ (by first|omega|(simp[World.setRow]<;>omega)) hb;exact x17f)
  have HB5:=bU HB4 hb;clear hb hbs1;by_cases c3:e2≠0
  ·have hz:res=(Dev.zero,e2):=HD2.out.trans (if_pos c3);subst hz;have q:(e2 !=0)=true:=by simp[c3]
   exact x80n
  have c3:=Decidable.not_not.1 c3;subst c3;have hz:res=({d with c0:=p1,c1:=p2,up:=true,running:=k},0):=HD2.out.trans (if_neg (by decide));subst hz;clear hu;go_wp2_with fail;refine bodyPost_ret (rC (devA {d with c0:=p1,c1:=p2,up:=true,running:=k} L1)) rfl ⟨L1,rfl,?_,?_⟩
  ·refine Fresh.imp (P:=fun v=>DvOwn v w1.heap.size d L1) (Fresh.kp HFR.out ?_ (by omega) (by first|omega|(simp[World.setRow]<;>omega))) (fun v hv=>hv.devIn.booted p1 p2 k HSL.out);exact x7of
  exact bZ HB5
 have hz:res=({d with c0:=d.c0,c1:=d.c1,up:=true,running:=k},0):=HD1.out.trans (if_neg c3);have q1:decide (nx=d.rec_)=true:=decide_eq_true (Decidable.not_not.1 c3);subst hz;clear c3 hu;go_wp2_with fail;refine bodyPost_ret (rC (devA {d with c0:=d.c0,c1:=d.c1,up:=true,running:=k} L1)) rfl ⟨L1,rfl,?_,?_⟩
 ·refine Fresh.imp (P:=fun v=>DvOwn v w1.heap.size d L1) (Fresh.kp HFR.out ?_ (by omega) (by first|omega|(simp[World.setRow]<;>omega))) (fun v hv=>hv.devIn.booted d.c0 d.c1 k HSL.out);exact x17f
 exact bZ HB4
theorem devBoot_calls(d:Dev)(L:DLoc)(w:World)(h:DevIn w d L):Calls Tryz.prog 18 #[.agg (devA d L)] w (DvRet w (devBoot d).1 (devBoot d).2):=by
 by_cases hz:devCheck d=0
 ·cases hu:d.up
  ·exact devBoot_ok d L w h hz hu
  ·have e:devBoot d=(Dev.zero,5):=by unfold devBoot;rw[if_neg (by omega),if_pos hu]
   rw[e];exact devBoot_late d L w h hz hu
 have e:devBoot d=(Dev.zero,devCheck d):=by unfold devBoot;rw[if_pos hz]
 rw[e];exact devBoot_bad d L w h hz
theorem cut_bound{p:Pat}{y:Chk}(hy:y∈(chkCut p).1):ChkB y:=by
 by_cases h:(chkCut p).2=0
 ·have hc:=(chkCheck_ok.1 (cut_chunks h y hy));obtain⟨h1,h2⟩:=hc;unfold Chk.range at h1;unfold Chk.full at h2;refine⟨by omega,⟨by omega,by omega⟩,⟨by omega,by omega⟩,⟨by omega,by omega⟩,⟨by omega,by omega⟩⟩
 exfalso;unfold chkCut at hy h;by_cases h1:patCheck p≠0
 ·rw[if_pos h1]at hy;simp at hy
 rw[if_neg h1]at hy h;split at hy
 ·simp at hy
 rename_i h2;rw[if_neg h2]at h;exact h rfl
end Go.Proofs.YtefkfglkpebbmacGreat
