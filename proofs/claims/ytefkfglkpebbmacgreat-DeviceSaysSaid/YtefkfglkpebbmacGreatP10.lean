/- Walks of functions, and plain words. No conditions. -/
import Derived.Test.YtefkfglkpebbmacGreatP9
set_option linter.unusedVariables false
set_option linter.unusedSimpArgs false
set_option maxRecDepth 100000
set_option maxHeartbeats 40000000
namespace Go.Proofs.YtefkfglkpebbmacGreat
open Go.RowKit
variable {Y:Prop}
variable {x:Chk} {r:List Chk}
theorem x0hm(h:Y:=by
 have h1:=HE1.out;have h2:=HR.out;have h3:unpacked (dataOf (x::t)) 400=(u,eu):=by rw[<-HXT.out];exact hu
 rw[HXT.out]at h1 h2;have h4:¬((x::t).length:Int)<x.of_:=by rw[<-HXT.out];exact hfw
 refine⟨fun e=>?_,fun e=>?_⟩
 ·rw[<-h2,chkJoin_pack h1 h4 (by rw[h3];exact e),h3]
 rw[<-h2,chkJoin_read h1 h4 (by rw[h3];exact e),h3,HXT.out]):Y:=h
theorem x0v8(h:Y:=by
 go_wp2_with fail;refine bodyPost_ret (rC (patA 0 0 0 0 0 none 0 0)) rfl ?_;rw[HZ.out];exact⟨none,0,rfl,.const fun v=>patIn_zero v,below_row HB1.out (by omega) _⟩):Y:=h
theorem x131(h:Y:=by
 unfold Rec.setOther;rcases (show (a=0∧a'=1)∨(a=1∧a'=0) by omega)with ⟨rfl,rfl⟩|⟨rfl,rfl⟩
 ·rw[if_pos (by simp[ha])];simp[splice,recA,infA]
 rw[if_neg (by simp[ha])];simp[splice,recA,infA]):Y:=h
theorem x2tq(h:Y:=by
 have h1:=HE1.out;have h2:=HR.out;rw[HXT.out]at h1 h2;rw[<-h2,chkJoin_few h1 (by rw[<-HXT.out];exact hfew)]):Y:=h
theorem x4px(h:Y:=by
 have:=(chkCheck_ok.1 ((chkList_ok.1 HE1.out).1 l[k] (List.getElem_mem hlt))).2;unfold Chk.full at this;exact this.2.1):Y:=h
theorem x5jz(h:Y:=by
 have:=(chkCheck_ok.1 ((chkList_ok.1 he1).1 x hx)).2;unfold Chk.full at this;exact this.2.1):Y:=h
theorem x62x(h:Y:=by
 go_wp2_with fail;generalize w1.alloc (.cells (patA p.from_ p.to_ p.old p.new_ p.size A1 p.ops.length c4) 35)=w6 at *
 generalize w1.heap.size=g9 at *
 obtain⟨z1,z2,z3,z4,z5⟩:=blkFacts HG1.out (by simp[patA]);go_quiet (fail)
 have ng:¬g9=w.heap.size:=by omega
 have ng1:¬w.heap.size=g9:=by omega
 go_wp2_with fail;refine bodyPost_ret (rC (patA p.from_ p.to_ p.old p.new_ p.size A1 p.ops.length c4)) rfl ?_;rw[HZ.out];exact⟨A1,c4,rfl,((HF1.out.drewN _).row (by omega) _).mono (by omega),below_row (Below.drewN' HB1.out _) nl _⟩):Y:=h
theorem x83l(h:Y:=by
 go_wp2_with fail;generalize w1.alloc (.cells (patA p.from_ p.to_ p.old p.new_ p.size A1 p.ops.length c4) 35)=w6 at *
 generalize w1.heap.size=g9 at *
 obtain⟨z1,z2,z3,z4,z5⟩:=blkFacts HG1.out (by simp[patA]);go_quiet (fail)
 go_wp2_with fail;refine bodyPost_ret (rC (patA 0 0 0 0 0 none 0 0)) rfl ?_;rw[HZ.out];exact⟨none,0,rfl,.const fun v=>patIn_zero v,below_row (Below.drewN' HB1.out _) (by omega) _⟩):Y:=h
theorem x9n1(h:Y:=by
 go_wp2_with fail;refine(K1.out _ (HS.out.stays HBA.out)).mono ?_;rintro e w1 ⟨rfl,hb1⟩;obtain⟨a0r,a0f,a0n,a0c,a0z,a0l⟩:=kp (w.heap.size) (patA 0 0 0 0 0 none 0 0) hb1;have HB1:=bT HBA hb1;clear hb1;go_wp2_with fail;refine bodyPost_ret (rC (patA 0 0 0 0 0 none 0 0)) rfl ?_;rw[HZ.out];exact⟨none,0,rfl,.const fun v=>patIn_zero v,below_row HB1.out (by omega) _⟩):Y:=h
theorem chkJoin_list{l:List Chk}(h:chkList l≠0):chkJoin l=(Pat.zero,chkList l):=by unfold chkJoin;rw[if_pos h]
theorem chkJoin_nil:chkJoin []=(Pat.zero,5):=by unfold chkJoin;rw[if_neg (by simp[chkList,listGo])]
theorem chkJoin_few(h:chkList (x::r)=0)(g:((x::r).length:Int)<x.of_):chkJoin (x::r)=(Pat.zero,5):=by
 unfold chkJoin;rw[if_neg (by simpa using h)];dsimp only;rw[if_pos g]
theorem chkJoin_pack(h:chkList (x::r)=0)(g:¬((x::r).length:Int)<x.of_)(u:(unpacked (dataOf (x::r)) 400).2≠0):chkJoin (x::r)=(Pat.zero,(unpacked (dataOf (x::r)) 400).2):=by
 unfold chkJoin;rw[if_neg (by simpa using h)];dsimp only;rw[if_neg g,if_pos u]
theorem chkJoin_read(h:chkList (x::r)=0)(g:¬((x::r).length:Int)<x.of_)(u:(unpacked (dataOf (x::r)) 400).2=0):chkJoin (x::r)=joinDone (x::r) (patRead (unpacked (dataOf (x::r)) 400).1) x:=by
 unfold chkJoin;rw[if_neg (by simpa using h)];dsimp only;rw[if_neg g,if_neg (by simpa using u)]
theorem dataOf_snoc(l:List Chk)(x:Chk):dataOf (l++[x])=dataOf l++x.data:=by simp[dataOf]
theorem dataOf_le:∀(l:List Chk),(∀x∈l,x.data.length<=16)->(dataOf l).length<=16*l.length
 |[],_=>by simp[dataOf]
 |x::l,h=>by
  have ih:=dataOf_le l (fun y hy=>h y (by simp[hy]));have h1:=h x (by simp);have e:dataOf (x::l)=x.data++dataOf l:=by simp[dataOf]
  rw[e,List.length_append,List.length_cons];omega
theorem patReadJ_calls(A:OA)(c:Nat)(b:LU)(w:World)(hc:b.length<=c)(hB:Bts w A b):
  Calls Tryz.prog 86 #[.slice A b.length c] w (PaRet w (patRead b).1 (patRead b).2):=by
 by_cases h:400<b.length∨b.length<8
 ·exact patRead_short A c b w h
 exact patRead_long A c b w hc (by omega) (by omega) hB
theorem chkJoin_calls(A:OA)(c:Nat)(l:List Chk)(w:World)(hl:l.length<=2513169434843)(hs:Chs w A l):
  Calls Tryz.prog 45 #[.slice A l.length c] w (PaRet w (chkJoin l).1 (chkJoin l).2):=by
 have HS:=qH hs;have K1:=qH (fun w h=>chkList_calls A c l w hl h);have hba:=(bW w).alloc nl (.cells (patA 0 0 0 0 0 none 0 0) 35);have HBA:=qH hba;clear hs hba;obtain⟨r,hr⟩:=eX (chkJoin l);rw[hr];have HR:=qH hr;clear hr;by_cases he1:chkList l≠0
 ·have hz:r=(Pat.zero,chkList l):=by rw[<-HR.out,chkJoin_list he1]
  have HZ:=qH hz;have q:(chkList l !=0)=true:=by simp[he1]
  generalize chkList l=e1 at *
  clear he1 hz;go_enter Tryz.func45,Tryz.ntmps45;exact x9n1
 have he1:=Decidable.not_not.1 he1;rw[he1]at K1;have hll:=chkList_len he1;have hdl:=dataOf_le l (fun x hx=>by
  exact x5jz)
 have HE1:=qH he1;clear he1;rcases Nat.eq_zero_or_pos l.length with hl0|hlp
 ·have hz:r=(Pat.zero,5):=by rw[<-HR.out,List.eq_nil_of_length_eq_zero hl0,chkJoin_nil]
  have HZ:=qH hz;have q:((l.length:Int)==0)=true:=by simp[hl0]
  clear hz hl0;go_enter Tryz.func45,Tryz.ntmps45;exact x9n1
 obtain⟨g,o,B1,d1,rfl,hgl,hat1,-⟩:=HS.out.chk (i:=0) hlp;rw[Nat.zero_mul,Nat.add_zero]at hat1;obtain⟨x,t,hxt⟩:∃x t,l=x::t:=by
  rcases l with _|⟨x,t⟩
  ·simp at hlp
  exact⟨x,t,rfl⟩
 have hx1:l[0]=x:=by subst hxt;rfl
 rw[hx1]at hat1;have HAT:=qH hat1;have HXT:=qH hxt;have q4:((l.length:Int)==0)=false:=beq_eq_false_iff_ne.2 (by omega);have nb3:¬l.length=0:=by omega
 have nb1:¬l=[]:=by rw[hxt];simp
 have nb1:¬(l.length:Int)<=0:=by omega
 clear hat1 hx1 hxt;by_cases hfew:(l.length:Int)<x.of_
 ·have hz:r=(Pat.zero,5):=by
   exact x2tq
  have HZ:=qH hz;clear hz;go_enter Tryz.func45,Tryz.ntmps45;go_wp2_with fail;refine(K1.out _ (HS.out.stays HBA.out)).mono ?_;rintro e w1 ⟨rfl,hb1⟩;obtain⟨a0r,a0f,a0n,a0c,a0z,a0l⟩:=kp (w.heap.size) (patA 0 0 0 0 0 none 0 0) hb1;have HB1:=bT HBA hb1;obtain⟨c5,c1,c2,c3,c4⟩:=HAT.out.stays hgl HB1.out;clear hb1;exact x0v8
 have hfw:¬(l.length:Int)<x.of_:=hfew;obtain⟨u,eu,hu⟩:∃u eu,unpacked (dataOf l) 400=(u,eu):=⟨_,_,rfl⟩;have hz:(eu≠0->r=(Pat.zero,eu))∧(eu=0->r=joinDone l (patRead u) x):=by
  exact x0hm
 have HZ1:=qH hz;have HU:=qH hu;clear hz hu hfew;go_enter Tryz.func45,Tryz.ntmps45;go_wp2_with fail;refine(K1.out _ (HS.out.stays HBA.out)).mono ?_;rintro e w1 ⟨rfl,hb1⟩;obtain⟨a0r,a0f,a0n,a0c,a0z,a0l⟩:=kp (w.heap.size) (patA 0 0 0 0 0 none 0 0) hb1;have HB1:=bT HBA hb1;have HRF1:=qH (And.intro a0r a0f);have hs1:=HB1.out.size;obtain⟨c6,c1,c2,c3,c4⟩:=HAT.out.stays hgl HB1.out;clear hb1;go_wp2_with fail;clear c6 c1 c2 c3 c4 a0r a0f a0n a0c a0z;go_loopw [5,31] (fun v i wr=>∃(k:Nat) (C:OA) (cc:Nat) (b:LU),k<=l.length∧i=iv k∧v=.slice C b.length cc∧Hid (b=dataOf (l.take k))∧b.length<=16*k∧Hid (Own wr w1.heap.size 5 1 C b.length cc (b.map bv))∧Hid (Below w1.heap.size w1 wr)) (fun _ i _=>l.length-(intOf i).toNat)
 case atStart=>exact⟨0,none,0,[],Nat.zero_le _,rfl,rfl,qH (by simp[dataOf]),by simp,qH (Own.nil_ _ _ _ _),qH (Below.refl _ _)⟩
 case round=>
  rename World=>wr;obtain⟨k,C,cc,b,hk,rfl,rfl,HBK,hbl,HO,HBR⟩:=hrel;have hsr:=HBR.out.size;have HBW:Hid (Below w.heap.size w wr):=qH (HB1.out.trans (HBR.out.mono hs1));by_cases hlt:k<l.length
  ·obtain⟨g',o',D,d,e,_,hat,hin⟩:=(HS.out.stays HBW.out).chk hlt;injection e with e;injection e with e1 e2;subst e1 e2;have hsn:dataOf (l.take (k+1))=b++l[k].data:=by rw[List.take_succ_eq_append_getElem hlt,dataOf_snoc,<-HBK.out]
   have hyl:l[k].data.length<=16:=by
    exact x4px
   obtain⟨y,hy⟩:=eX (l[k]);rw[hy]at hat hin hsn hyl;have HSN:=qH hsn;obtain⟨c5,c1,c2,c3,c4⟩:=hat;have dl:decide ((k:Int)<(l.length:Int))=true:=decide_eq_true (by omega);have hwk:IntKind.i64.wrap ((k:Int)+1)=(k:Int)+1:=IntWalk.i64_in _ (by omega);have hoa:=HO.out.alloc (.cells (chkA y.from_ y.to_ y.n y.of_ D y.data.length d) 39);have hsd:=(hin.data.stays ((bW wr).alloc nl (.cells (chkA y.from_ y.to_ y.n y.of_ D y.data.length d) 39))).src;have hob:b.length+y.data.length<=137438953472:=by omega
   have hle:w1.heap.size<=(wr.alloc (.cells (chkA y.from_ y.to_ y.n y.of_ D y.data.length d) 39)).heap.size:=by simp;omega
   clear hy hin hsn;go_wp2_with (at_builtin;go_must (refine wpList_app (wr.alloc (.cells (chkA y.from_ y.to_ y.n y.of_ D y.data.length d) 39)) rfl _ _ 22 rfl elBytes w1.heap.size C b.length cc (b.map bv) rfl hoa D y.data.length d (y.data.map bv) rfl hsd (by simp) (bv_one _) hob hle ?_;intro C1 cc1 w3 hown hgr hbel hor));have HL:Hid (b.length+y.data.length=(b++y.data).length):=qH (by simp);have HO1:Hid (Own w3 w1.heap.size 5 1 C1 (b++y.data).length cc1 ((b++y.data).map bv)):=qH (by rw[List.map_append,<-HL.out];exact hown);have HB1:Hid (Below w1.heap.size w1 w3):=qH ((HBR.out.alloc hsr _).trans hbel);clear hown hgr hbel hor hoa hsd hob hle;go_roundw
   case rel=>exact⟨k+1,C1,cc1,b++y.data,by omega,by go_num,by rw[HL.out],qH HSN.out.symm,by simp;omega,HO1,HB1⟩
   case measure=>simp[intOf];omega
  obtain rfl:k=l.length:=by omega
  have dl:decide ((l.length:Int)<(l.length:Int))=false:=by simp
  have hbd:b=dataOf l:=by rw[HBK.out,List.take_length]
  have hbt:=HO.out.src.bts;have hbc:=HO.out.le;have b1:=keep1 (g:=w.heap.size) (cs:=patA 0 0 0 0 0 none 0 0) HBR.out HRF1.out.1 (by go_simp) HRF1.out.2;have K1:=qH (unpack_calls C cc b 400 wr hbc (by omega) ⟨by decide,by decide⟩ hbt);rw[hbd,HU.out,<-hbd]at K1;clear hbd hbt;go_wp2_with fail;refine K1.out.mono ?_;rintro e w1 ⟨A1,c4,rfl,ho1,hb1⟩;obtain⟨a0r,a0f,a0n,a0c,a0z,a0l'⟩:=keep1 (g:=w.heap.size) (cs:=patA 0 0 0 0 0 none 0 0) hb1 b1.1 (by go_simp) b1.2.1;have HB1:=bT HBW hb1;have hbt1:=ho1.src.bts;have hbc1:=ho1.le;have HT1:=qH hbt1;have hn1:w.heap.size<w1.heap.size:=a0l';clear hb1 ho1 hbt1 b1;by_cases heu:eu≠0
  ·have q1:(eu !=0)=true:=by simp[heu]
   have HZ:=qH (HZ1.out.1 heu);clear heu;exact x0v8
  have heu:=Decidable.not_not.1 heu;have hz:=HZ1.out.2 heu;subst heu;obtain⟨p,ep,hp⟩:∃p ep,patRead u=(p,ep):=⟨_,_,rfl⟩;rw[hp]at hz;have K1:=qH (patReadJ_calls A1 c4 u w1 hbc1 HT1.out);rw[hp]at K1;dsimp only at K1;have HZJ:=qH hz;clear hz hp;go_wp2_with fail;refine K1.out.mono ?_;rintro e w1 ⟨A1,c4,rfl,hf1,hb1⟩;have b1:=keep1 (g:=w.heap.size) (cs:=patA 0 0 0 0 0 none 0 0) hb1 a0r (by go_simp) a0f;have HB2:=bT HB1 hb1;have HF1:=qH hf1;have hs1:=HB1.out.size;have hs1:=hb1.size;clear hb1 hf1 a0r a0f a0n a0c a0z a0l';have hba1:=(bW w1).alloc nl (.cells (patA p.from_ p.to_ p.old p.new_ p.size A1 p.ops.length c4) 35);have HB1:=bT HB2 hba1;have HF1:=qH (HF1.out.below hba1 nl);have HG1:Hid ((w1.alloc (.cells (patA p.from_ p.to_ p.old p.new_ p.size A1 p.ops.length c4) 35)).heap[w1.heap.size]?=some (.cells (patA p.from_ p.to_ p.old p.new_ p.size A1 p.ops.length c4) 35 (0,0))):=qH (blk_top rfl);obtain⟨a0r,a0f,a0n,a0c,a0z,a0l'⟩:=keep1 (g:=w.heap.size) (cs:=patA 0 0 0 0 0 none 0 0) hba1 b1.1 (by go_simp) b1.2.1;have hs1:=hba1.size;have hn1:w.heap.size<w1.heap.size:=b1.2.2.2.2.2;clear hba1 b1;by_cases hep:ep≠0
  ·have hz:r=(p,ep):=by rw[HZJ.out];unfold joinDone;rw[if_neg (fun h=>hep h.1)]
   have HZ:=qH hz;have q1:(ep==0)=false:=by simp[hep]
   clear hep hz;exact x62x
  have hep:=Decidable.not_not.1 hep;subst hep;obtain⟨c5,c1,c2,c3,c4'⟩:=HAT.out.stays hgl HB1.out;by_cases hf:p.from_=x.from_
  ·have q1:(p.from_ !=x.from_)=false:=by simp[hf]
   by_cases ht:p.to_=x.to_
   ·have hz:r=(p,0):=by rw[HZJ.out];unfold joinDone;rw[if_neg (fun h=>by rcases h.2 with h|h;exact h hf;exact h ht)]
    have HZ:=qH hz;have q1:(p.to_ !=x.to_)=false:=by simp[ht]
    clear hz hf ht;exact x62x
   have hz:r=(Pat.zero,3):=by rw[HZJ.out];unfold joinDone;rw[if_pos ⟨rfl,.inr ht⟩]
   have HZ:=qH hz;have q1:(p.to_ !=x.to_)=true:=by simp[ht]
   clear hz hf ht;exact x83l
  have hz:r=(Pat.zero,3):=by rw[HZJ.out];unfold joinDone;rw[if_pos ⟨rfl,.inl hf⟩]
  have HZ:=qH hz;have q1:(p.from_ !=x.from_)=true:=by simp[hf]
  clear hz hf;exact x83l
theorem x05s(h:Y:=by
 intro done cv k1 a wq hw h hJ hn;have e1:=mO 1 (.pointer (some ⟨w.heap.size,0,none⟩)) h;go_simp):Y:=h
theorem splice_oth(r:Rec){a a':Nat}(ha:r.active=(a:Int))(h:a+a'=1):splice (recA r) (5+a'*3) (infA Inf.zero)=recA (r.setOther Inf.zero):=by
 exact x131
theorem devOpen_bad(d:Dev)(L:DLoc)(w:World)(h:DevIn w d L)  (hne:devReady d≠0):Calls Tryz.prog 13 #[.agg (devA d L)] w (DvRet w Dev.zero (devReady d)):=by
 have hba:Below w.heap.size w ((w.alloc (.cells (devA d L) 37)).alloc (.cells (devA Dev.zero DLoc.zero) 37)):=bA (bA (Below.refl _ _) _) _;have HBA:=qH hba;have HIN:=qH h;have KB:=qH (fun w h=>ready_bad d L w h hne);have q:(devReady d !=0)=true:=by simp[hne]
 generalize devReady d=n at *
 clear hne h hba;go_enter Tryz.func13,Tryz.ntmps13;go_wp2_with fail;refine(KB.out _ (HIN.out.stays HBA.out)).mono ?_;rintro e w1 ⟨rfl,hb1⟩;have a2:=kp (w.heap.size) (devA d L) hb1;have a1:=kp (w.heap.size+1) (devA Dev.zero DLoc.zero) hb1;have HB1:=bT HBA hb1;clear hb1;exact x5r8
theorem devOpen_ok(d:Dev)(L:DLoc)(w:World)(h:DevIn w d L)  (hz:devReady d=0):Calls Tryz.prog 13 #[.agg (devA d L)] w (DvRet w (devOpen d).1 (devOpen d).2):=by
 have hba:Below w.heap.size w ((w.alloc (.cells (devA d L) 37)).alloc (.cells (devA Dev.zero DLoc.zero) 37)):=bA (bA (Below.refl _ _) _) _;have HBA:=qH hba;have HIN:=qH h;have KR:=qH (fun w h=>ready_ok d L w h hz);have hdef:devOpen d=if d.busy=true∨d.rec_.trying=true then (Dev.zero,5)
   else if (chkJoin d.got).2≠0 then (Dev.zero,(chkJoin d.got).2)
   else if (chkJoin d.got).1.from_≠(d.rec_.at_ d.rec_.active).ver∨(chkJoin d.got).1.to_<d.rec_.floor then (Dev.zero,4)
   else if (patDo (sumOn 1) (chkJoin d.got).1 (d.image d.rec_.active d.rec_)).2≠0 then (Dev.zero,(patDo (sumOn 1) (chkJoin d.got).1 (d.image d.rec_.active d.rec_)).2)
   else if (recWrite d.c0 d.c1 (d.rec_.setOther Inf.zero) false).2≠0 then (Dev.zero,(recWrite d.c0 d.c1 (d.rec_.setOther Inf.zero) false).2)
   else ({d with c0:=(recWrite d.c0 d.c1 (d.rec_.setOther Inf.zero) false).1.1,c1:=(recWrite d.c0 d.c1 (d.rec_.setOther Inf.zero) false).1.2,busy:=true,job:=(chkJoin d.got).1,done:=0,got:=[]},0):=by unfold devOpen;rw[if_neg (by omega)];rfl
 obtain⟨hok,hup⟩:=devReady_ok.1 hz;have hrec:=rec_ok hok;have hact:=rec_active hrec;have HOK:=qH hok;have HREC:=qH hrec;have HLG:=qH h.lg;have KJ:=qH (fun A c w hs=>chkJoin_calls A c d.got w HLG.out hs);obtain⟨⟨p,e2⟩,hq⟩:∃y,chkJoin d.got=y:=⟨_,rfl⟩;rw[hq]at hdef KJ;dsimp only at hdef KJ;obtain⟨⟨⟨p1,p2⟩,e3⟩,hw⟩:∃y,recWrite d.c0 d.c1 (d.rec_.setOther Inf.zero) false=y:=⟨_,rfl⟩;have KW:=qH (fun w=>write_calls d.c0 d.c1 (d.rec_.setOther Inf.zero) false w);rw[hw]at hdef KW;dsimp only at hdef KW;have HD:=qH hdef;generalize devOpen d=res at *
 clear hz h hba hdef hok hrec hup hq hw;go_enter Tryz.func13,Tryz.ntmps13;go_wp2_with fail;refine(KR.out _ (HIN.out.stays HBA.out)).mono ?_;rintro e w1 ⟨L1,rfl,hfr,hb1⟩;have a4:=kp (w.heap.size) (devA d L) hb1;have a1:=kp (w.heap.size+1) (devA Dev.zero DLoc.zero) hb1;have HFR:Hid (Fresh (w.heap.size+2) w1 (fun v=>DvOwn v (w.heap.size+2) d L1)):=qH (by simpa[Nat.add_assoc]using hfr);have HB1:=bT HBA hb1;have hsz1:w.heap.size+2<=w1.heap.size:=by have:=hb1.size;simp at this;omega
 have HK1:Hid (Kp (w.heap.size+2) w1 w1):=qH (Kp.refl _ _);clear hb1 hfr
 cases hbz:d.busy
 case true=>
  have hz:res=(Dev.zero,5):=HD.out.trans (if_pos (.inl hbz));subst hz;exact x5r8
 cases ht:d.rec_.trying
 case true=>
  have hz:res=(Dev.zero,5):=HD.out.trans (if_pos (.inr ht));subst hz;exact x5r8
 have HD1:=qH (HD.out.trans (if_neg (by rw[hbz,ht];decide)));clear HD;go_wp2_with fail;refine(KJ.out L1.ag L1.cg _ ?_).mono ?_
 ·refine(Fresh.kp (B:=w.heap.size+2) HFR.out ?_ nl (by first|omega|(simp<;>omega))).now.devIn.got;exact x84a
 rintro en w2 ⟨A1,c2,rfl,hfr1,hb⟩;have HS1:Hid (w1.heap.size+1<=w2.heap.size):=qH (by have:=hb.size;simpa using this);have a4:=kp (w.heap.size) (devA d L1) hb;have a1:=kr a1 hb;have a2:=kp (w1.heap.size) (recA d.rec_) hb;have hbs1:=hb.size;have hsz2:w1.heap.size<=w2.heap.size:=by first|omega|(simp at hbs1;omega)
 have HK2:Hid (Kp (w.heap.size+2) w1 w2):=qH (by
  refine Kp.below ?_ (by first|omega|(simp<;>omega)) hb;exact x84a)
 have HB2:=bU HB1 hb;clear hb hbs1;have HGP:Hid (Fresh (w1.heap.size+1) w2 (fun v=>PatIn v p A1 c2)):=qH (by simpa using hfr1);have hsz2b:=HS1.out;clear hfr1 hbz ht;by_cases c2':e2≠0
 ·have hz:res=(Dev.zero,e2):=HD1.out.trans (if_pos c2');subst hz;have q:(e2 !=0)=true:=by simp[c2']
  clear c2';exact x2uc
 have c2':=Decidable.not_not.1 c2';subst c2';have HD2:=qH (HD1.out.trans (if_neg (by decide)));clear HD1;have q2:((0:Int) !=0)=false:=rfl;obtain⟨ka,ha⟩:∃ka:Nat,d.rec_.active=(ka:Int):=⟨d.rec_.active.toNat,by omega⟩;have ha1:ka<=1:=by omega
 obtain⟨kb,hab⟩:∃kb:Nat,ka+kb=1:=⟨1-ka,by omega⟩;have HA:=qH ha;have hsp:=splice_oth d.rec_ ha hab;have pv:=recA_ver d.rec_ ha1;rw[ha]at HD2;obtain⟨img,himg⟩:=eX (d.image (ka:Int) d.rec_);rw[himg]at HD2;obtain⟨⟨b,en⟩,hpd⟩:∃y,patDo (sumOn 1) p img=y:=⟨_,rfl⟩;rw[hpd]at HD2;have HIL:Hid (img.length<=64):=qH (by
  exact x0ss)
 have KI1:Hid (∀wq,DevIn wq d L1->Calls Tryz.prog 38 #[.agg (devA d L1),iv (ka:Int),.agg (recA d.rec_)] wq (ImRet wq img)):=qH (fun wq h=>by
  exact x7r2)
 have HPD:=qH hpd;generalize d.rec_.setOther Inf.zero=r2 at *
 generalize d.rec_=r at *
 clear himg hpd hact;go_upto_region 9 with fail
 obtain⟨w2p,hw2p⟩:=eX (w2.alloc (.cells (patA p.from_ p.to_ p.old p.new_ p.size A1 p.ops.length c2) 35));have r4:rowOf w2p w.heap.size=devA d L1:=by rw[<-hw2p,rowOf_alloc,if_neg a4.2.2.1];exact a4.1
 have r0f:frOf w2p w.heap.size=(0,0):=by rw[<-hw2p,frOf_alloc,if_neg a4.2.2.1];exact a4.2.1
 have r1:rowOf w2p (w.heap.size+1)=devA Dev.zero DLoc.zero:=by rw[<-hw2p,rowOf_alloc,if_neg a1.2.2.1];exact a1.1
 have r1f:frOf w2p (w.heap.size+1)=(0,0):=by rw[<-hw2p,frOf_alloc,if_neg a1.2.2.1];exact a1.2.1
 have r2_:rowOf w2p w1.heap.size=recA r:=by rw[<-hw2p,rowOf_alloc,if_neg a2.2.2.1];exact a2.1
 have r2f:frOf w2p w1.heap.size=(0,0):=by rw[<-hw2p,frOf_alloc,if_neg a2.2.2.1];exact a2.2.1
 have r3:rowOf w2p w2.heap.size=patA p.from_ p.to_ p.old p.new_ p.size A1 p.ops.length c2:=by rw[<-hw2p,rowOf_alloc,if_pos rfl]
 have r3f:frOf w2p w2.heap.size=(0,0):=by rw[<-hw2p,frOf_alloc,if_pos rfl]
 have hszp:w2p.heap.size=w2.heap.size+1:=by rw[<-hw2p];simp
 have HBP:Hid (Below w.heap.size w w2p):=qH (by rw[<-hw2p];exact HB2.out.alloc HB2.out.size _);have HKP:Hid (Kp (w.heap.size+2) w1 w2p):=qH (by rw[<-hw2p];exact HK2.out.alloc (by omega) _);have HGQ:Hid (Kp (w1.heap.size+1) w2 w2p):=qH (by rw[<-hw2p];exact(Kp.refl _ _).alloc nl _);rw[hw2p];have a4:=keep1 (bW w2p) r4 (by go_simp) r0f;have a1:=keep1 (bW w2p) r1 (by go_simp) r1f;have a2:=keep1 (bW w2p) r2_ (by simp[recA]) r2f;have a3:=keep1 (bW w2p) r3 (by simp[patA]) r3f;clear hw2p r4 r0f r1 r1f r2_ r2f r3 r3f;obtain⟨bad1,hbad⟩:∃b,decide (p.from_≠(r.at_ (ka:Int)).ver∨p.to_<r.floor)=b:=⟨_,rfl⟩;have HBAD:=qH hbad;clear hbad;go_cut [51] (fun v wx=>v=.bool bad1∧Hid (Below w2p.heap.size w2p wx))
 case first=>
  have k1:(0:Int)<=(ka:Int):=by omega
  have k2:(ka:Int)<2:=by omega
  have k3:¬(2:Int)<=(ka:Int):=by omega
  have ha:=HA.out;by_cases c1:p.from_=(r.at_ (ka:Int)).ver
  ·have q1:(p.from_ !=(r.at_ (ka:Int)).ver)=false:=by simp[c1]
   by_cases c3:p.to_<r.floor
   ·have hres:bad1=true:=by rw[<-HBAD.out];exact decide_eq_true (.inr c3)
    clear c1;exact x0af
   have hres:bad1=false:=by rw[<-HBAD.out];exact decide_eq_false (fun h=>h.elim (fun h=>h c1) c3)
   clear c1;exact x0af
  have q1:(p.from_ !=(r.at_ (ka:Int)).ver)=true:=by simp[c1]
  have hres:bad1=true:=by rw[<-HBAD.out];exact decide_eq_true (.inl c1)
  clear c1;exact x0af
 case rest=>
 obtain⟨rfl,hb⟩:=hcut;have hb1:=hb.out;have a4:=keep1 hb1 a4.1 (by go_simp) a4.2.1;have a1:=keep1 hb1 a1.1 (by go_simp) a1.2.1;have a2:=keep1 hb1 a2.1 (by simp[recA]) a2.2.1;have a3:=keep1 hb1 a3.1 (by simp[patA]) a3.2.1;have hs1:=hb1.size;have HB3:=bT HBP hb1;have HK3:Hid (Kp (w.heap.size+2) w1 wc):=qH (HKP.out.below (by omega) hb1);have HG1:Hid (Kp (w1.heap.size+1) w2 wc):=qH (HGQ.out.below (by omega) hb1);clear hb hb1
 cases hbd:bad1
 case true=>
  have hz:res=(Dev.zero,4):=HD2.out.trans (if_pos (of_decide_eq_true (HBAD.out.trans hbd)));subst hz;clear hbd;exact x52i
 have HD1:=qH (HD2.out.trans (if_neg (of_decide_eq_false (HBAD.out.trans hbd))));clear HD2 HBAD hbd;obtain⟨w3,hw2⟩:=eX (wc);subst hw2;go_wp2_with fail;have RD:=qH a4.1;have FD:=qH a4.2.1;have RZ:=qH a1.1;have FZ:=qH a1.2.1;have RR:=qH a2.1;have FR:=qH a2.2.1;have RP:=qH a3.1;have FP:=qH a3.2.1;have HI1:Hid (DevIn wc d L1):=qH (Fresh.kp HFR.out HK3.out nl (by omega)).now.devIn;have HP1:Hid (PatIn wc p A1 c2):=qH (Fresh.kp HGP.out HG1.out nl (by omega)).now;have KI:Hid (∀wq,Below wc.heap.size wc wq->Calls Tryz.prog 38 #[.agg (devA d L1),iv (ka:Int),.agg (recA r)] wq (ImRet wq img)):=qH (fun wq h=>KI1.out wq (HI1.out.stays h));have KD:Hid (∀wq A c,Below wc.heap.size wc wq->img.length<=c->Bts wq A img->Calls Tryz.prog 37 #[.agg (patA p.from_ p.to_ p.old p.new_ p.size A1 p.ops.length c2),.slice A img.length c] wq (ByRet2 wq b en)):=qH (fun wq A c h hc hb=>by
  have hq:=patDo_calls A1 A c2 c p img wq hc (by have:=HIL.out;omega) hb (HP1.out.stays h);rw[HPD.out]at hq;exact hq)
 have hq3:=fun v (h:Below wc.heap.size wc v)=>keep1 h RP.out (by go_simp) FP.out;have hq1:=fun v (h:Below wc.heap.size wc v)=>keep1 h RD.out (by go_simp) FD.out;have hq2:=fun v (h:Below wc.heap.size wc v)=>keep1 h RR.out (by go_simp) FR.out;have hf1:=HA.out
 go_region_held3 (fun v=>Below wc.heap.size wc v) (first|exact hbb|exact(Below.refl _ _).drew)
  (first
    |(go_at_call 38;refine(KI.out _ (by assumption)).mono ?_;rintro e wj ⟨Aj,cj,rfl,h3,h4,h5⟩;have hbb:=(bW wc).drew.trans (h5.mono (by simp)))
    |(go_at_call 37;refine(KD.out _ _ _ (by assumption) h3 h4).mono ?_;rintro e w4 ⟨A5,c5,rfl,g1,g2,g9⟩;have hbb:=hbb.trans (g9.mono hbb.size)))
 have g3:=hbb;clear hbb g9 h3 h4 h5 hq3 hq1 hq2 hf1;have a4:=keep1 g3 RD.out (by go_simp) FD.out;have a1:=keep1 g3 RZ.out (by go_simp) FZ.out;have a2:=keep1 g3 RR.out (by go_simp) FR.out;have a3:=keep1 g3 RP.out (by go_simp) FP.out;have hs2:=g3.size;have HB4:Hid (Below w.heap.size w w4):=qH (HB3.out.trans (g3.mono HB3.out.size));have HK4:Hid (Kp (w.heap.size+2) w1 w4):=qH (HK3.out.below (by omega) g3);have HG2:Hid (Kp (w1.heap.size+1) w2 w4):=qH (HG1.out.below (by omega) g3);clear g1 g2 g3 KI KD RD FD RZ FZ RR FR RP FP KI1 HI1 HP1;by_cases e1:en≠0
 ·have hz:res=(Dev.zero,en):=HD1.out.trans (if_pos e1);subst hz;have q:(en !=0)=true:=by simp[e1]
  clear e1;exact x8lt
 have e1:=Decidable.not_not.1 e1;subst e1;have HD2:=qH (HD1.out.trans (if_neg (by decide)));clear HD1;have hle:5+kb*3+3<=11:=by omega
 have hw1:IntKind.i64.wrap ((1:Int)-(ka:Int))=(kb:Int):=by rw[IntWalk.i64_in _ (by omega)];omega
 have i1:(0:Int)<=(kb:Int):=by omega
 have i2:(kb:Int)<2:=by omega
 have i3:¬(2:Int)<=(kb:Int):=by omega
 have ha:=HA.out;go_wp2_with fail;refine(KW.out _).mono ?_;rintro e w5 ⟨rfl,hb⟩;have hbs:=hb.size;have hsz3:w4.heap.size<=w5.heap.size:=by simpa[World.setRow]using hbs
 have a4:=kp (w.heap.size) (devA d L1) hb;have a1:=kp (w.heap.size+1) (devA Dev.zero DLoc.zero) hb;have hne1:¬w2.heap.size=w1.heap.size:=by omega
 have a3:=kp (w2.heap.size) (patA p.from_ p.to_ p.old p.new_ p.size A1 p.ops.length c2) hb;have HB5:=bU HB4 hb;have HK5:Hid (Kp (w.heap.size+2) w1 w5):=qH (by
  refine Kp.below ?_ (by first|omega|(simp[World.setRow]<;>omega)) hb;exact x7of)
 have HG3:Hid (Kp (w1.heap.size+1) w2 w5):=qH (by
  refine Kp.below ?_ (by first|omega|(simp[World.setRow]<;>omega)) hb;repeat (first|exact HG2.out|exact Kp.refl _ _|refine Kp.row ?_ (by omega) _|refine Kp.cell ?_ (by first|(show _<_∨_<=_;omega)|(simp<;>omega)) _|refine Kp.alloc ?_ (by first|omega|(simp<;>omega)) _))
 clear hb hbs hle hw1 i1 i2 i3 ha a2;by_cases c3:e3≠0
 ·have hz:res=(Dev.zero,e3):=HD2.out.trans (if_pos c3);subst hz;have q:(e3 !=0)=true:=by simp[c3]
  exact x80n
 have c3:=Decidable.not_not.1 c3;subst c3;have hz:res=({d with c0:=p1,c1:=p2,busy:=true,job:=p,done:=0,got:=[]},0):=HD2.out.trans (if_neg (by decide));subst hz;clear HD2;go_wp2_with fail;have hp1:0<(rowOf w5 w.heap.size).size:=by rw[a4.1];simp[devA]
 obtain⟨w4,hw1⟩:=eX (w5.setRow w.heap.size (devA {d with c0:=p1,c1:=p2} L1));have RD:Hid (rowOf w4 w.heap.size=devA {d with c0:=p1,c1:=p2} L1):=qH (by rw[<-hw1,rowOf_setRow _ _ _ _ hp1,if_pos rfl]);have FD:Hid (frOf w4 w.heap.size=(0,0)):=qH (by rw[<-hw1,frOf_setRow];exact a4.2.1);have RZ:Hid (rowOf w4 (w.heap.size+1)=devA Dev.zero DLoc.zero):=qH (by rw[<-hw1,rowOf_setRow _ _ _ _ hp1,if_neg (by omega)];exact a1.1);have FZ:Hid (frOf w4 (w.heap.size+1)=(0,0)):=qH (by rw[<-hw1,frOf_setRow];exact a1.2.1);have RP:Hid (rowOf w4 w2.heap.size=patA p.from_ p.to_ p.old p.new_ p.size A1 p.ops.length c2):=qH (by rw[<-hw1,rowOf_setRow _ _ _ _ hp1,if_neg (by omega)];exact a3.1);have FP:Hid (frOf w4 w2.heap.size=(0,0)):=qH (by rw[<-hw1,frOf_setRow];exact a3.2.1);have hsz4:w4.heap.size=w5.heap.size:=by rw[<-hw1];simp[World.setRow]
 have HB6:Hid (Below w.heap.size w w4):=qH (by rw[<-hw1];exact below_row HB5.out nl _);have HK6:Hid (Kp (w.heap.size+2) w1 w4):=qH (by rw[<-hw1];exact HK5.out.row (.inl (by omega)) _);have HG4:Hid (Kp (w1.heap.size+1) w2 w4):=qH (by rw[<-hw1];exact HG3.out.row (.inl (by omega)) _);have HQ1:Hid (w2.heap.size≠w.heap.size):=qH (by omega);have HP1:Hid (0<(rowOf w4 w.heap.size).size):=qH (by rw[RD.out];simp[devA]);rw[hw1];clear hw1 hp1 a4 a1 a3;refine wp_region_mix (by kernel_rfl) (some 85::some 86::none::some 87::none::some 88::none::some 89::none::[]) (none::none::some 0::none::some 1::none::some 2::none::some 3::[]) (.agg (patA p.from_ p.to_ p.old p.new_ p.size A1 p.ops.length c2)::.pointer (some ⟨w.heap.size,29,none⟩)::undef::.pointer (some ⟨w.heap.size,30,none⟩)::undef::.pointer (some ⟨w.heap.size,36,none⟩)::undef::.pointer (some ⟨w.heap.size,28,none⟩)::undef::[]) 4 (opJ w4 w.heap.size {d with c0:=p1,c1:=p2} L1 p A1 c2) 91 rfl rfl (by decide+kernel) (by decide+kernel) (by decide+kernel) (by decide+kernel) rfl rfl (by decide+kernel) (by decide+kernel) (rfl) ?_ ?_
 ·refine⟨?_,?_,?_,?_,?_,?_,?_,?_,?_,trivial⟩
  ·intro done cv k1 a wq hw h hJ hn;have e4:=mO 6 (.pointer (some ⟨w2.heap.size,0,none⟩)) h;obtain⟨r_,f_⟩:=opJ_row hJ HQ1.out RP.out FP.out HP1.out;go_simp
  ·intro done cv k2 a wq hw h hJ hn;have e1:=mO 1 (.pointer (some ⟨w.heap.size,0,none⟩)) h;go_simp
  ·intro done cv a wq hw h hJ;have e4:=mN 1 86 h hw;obtain rfl:wq=w4.drew:=hJ;refine wp_sb1c e4 (cs:=devA {d with c0:=p1,c1:=p2} L1) (by rw[rowOf_drew];exact RD.out) (by go_simp) (by rw[frOf_drew];exact FD.out) ⟨undef,rfl,?_⟩
   show _=_;rw[devA_set_busy]
  ·exact x05s
  ·intro done cv a wq hw h hJ;have e4:=mN 3 87 h hw;have e85:=mN 0 85 h hw;have hJ':wq=w4.drew.setRow w.heap.size (devA {{d with c0:=p1,c1:=p2} with busy:=true} L1):=hJ;subst hJ';refine wp_srow e4 e85 (by go_simp) (by go_simp) (cs:=devA {{d with c0:=p1,c1:=p2} with busy:=true} L1) (by rw[rowOf_setRow _ _ _ _ (by rw[rowOf_drew];exact HP1.out),if_pos rfl]) (by go_simp) (by rw[frOf_setRow,frOf_drew];exact FD.out) (by go_simp) ⟨undef,rfl,?_⟩
   show _=_;rw[devA_splice_job,setRow_setRow]
  ·exact x05s
  ·intro done cv a wq hw h hJ;have e4:=mN 5 88 h hw;have hJ':wq=w4.drew.setRow w.heap.size (devA {{d with c0:=p1,c1:=p2} with busy:=true,job:=p} {L1 with aj:=A1,cj:=c2}):=hJ;subst hJ';refine wp_si1c e4 (cs:=devA {{d with c0:=p1,c1:=p2} with busy:=true,job:=p} {L1 with aj:=A1,cj:=c2}) (by rw[rowOf_setRow _ _ _ _ (by rw[rowOf_drew];exact HP1.out),if_pos rfl]) (by go_simp) (by rw[frOf_setRow,frOf_drew];exact FD.out) ⟨undef,rfl,?_⟩
   show _=_;rw[devA_set_done,setRow_setRow]
  ·exact x05s
  ·intro done cv a wq hw h hJ;have e4:=mN 7 89 h hw;have hJ':wq=w4.drew.setRow w.heap.size (devA {{d with c0:=p1,c1:=p2} with busy:=true,job:=p,done:=0} {L1 with aj:=A1,cj:=c2}):=hJ;subst hJ';refine wp_sn1c e4 (cs:=devA {{d with c0:=p1,c1:=p2} with busy:=true,job:=p,done:=0} {L1 with aj:=A1,cj:=c2}) (by rw[rowOf_setRow _ _ _ _ (by rw[rowOf_drew];exact HP1.out),if_pos rfl]) (by go_simp) (by rw[frOf_setRow,frOf_drew];exact FD.out) ⟨undef,rfl,?_⟩
   show _=_;rw[devA_set_got0,setRow_setRow]
 intro cv1 w6 hJ;have hw1:w6=w4.drew.setRow w.heap.size (devA {d with c0:=p1,c1:=p2,busy:=true,job:=p,done:=0,got:=[]} {L1 with aj:=A1,cj:=c2,ag:=none,cg:=0}):=hJ;simp only[mixAll,putAll_some,putAll_none,putAll_nil,List.getElem?_cons_zero,List.getElem?_cons_succ,Nat.zero_add,Nat.reduceAdd,List.setIfInBounds_toArray,List.set_cons_zero,List.set_cons_succ];have r1:rowOf w6 w.heap.size=devA {d with c0:=p1,c1:=p2,busy:=true,job:=p,done:=0,got:=[]} {L1 with aj:=A1,cj:=c2,ag:=none,cg:=0}:=by rw[hw1,rowOf_setRow _ _ _ _ (by rw[rowOf_drew];exact HP1.out),if_pos rfl]
 have r7f:frOf w6 w.heap.size=(0,0):=by rw[hw1,frOf_setRow,frOf_drew];exact FD.out
 have r7z:rowOf w6 (w.heap.size+1)=devA Dev.zero DLoc.zero:=by rw[hw1,rowOf_setRow _ _ _ _ (by rw[rowOf_drew];exact HP1.out),if_neg (by omega),rowOf_drew];exact RZ.out
 have r7zf:frOf w6 (w.heap.size+1)=(0,0):=by rw[hw1,frOf_setRow,frOf_drew];exact FZ.out
 have hsz5:w6.heap.size=w4.heap.size:=by
  have h1:w6.heap.size=w4.drew.heap.size:=by rw[hw1];simp[World.setRow]
  exact h1
 have HB7:Hid (Below w.heap.size w w6):=qH (by rw[hw1];exact below_row HB6.out.drew nl _);have HK7:Hid (Kp (w.heap.size+2) w1 w6):=qH (by rw[hw1];exact Kp.row (w:=w4.drew) HK6.out (.inl (by omega)) _);have HG5:Hid (Kp (w1.heap.size+1) w2 w6):=qH (by rw[hw1];exact Kp.row (w:=w4.drew) HG4.out (.inl (by omega)) _);clear hJ hw1 RD FD RZ FZ RP FP HP1;go_wp2_with fail;refine bodyPost_ret (rC (devA {d with c0:=p1,c1:=p2,busy:=true,job:=p,done:=0,got:=[]} {L1 with aj:=A1,cj:=c2,ag:=none,cg:=0})) rfl ⟨{L1 with aj:=A1,cj:=c2,ag:=none,cg:=0},rfl,?_,?_⟩
 ·refine Fresh.imp (P:=fun v=>DvOwn v (w.heap.size+2) d L1∧PatIn v p A1 c2) (Fresh.and' (Fresh.kp HFR.out ?_ (by omega) (by first|omega|(simp[World.setRow]<;>omega))) (Fresh.kp HGP.out ?_ (by omega) (by first|omega|(simp[World.setRow]<;>omega)))) (fun v hv=>hv.1.devIn.opened p1 p2 hv.2)
  ·repeat (first|exact HK7.out|exact Kp.refl _ _|refine Kp.row ?_ (by omega) _|refine Kp.cell ?_ (by first|(show _<_∨_<=_;omega)|(simp<;>omega)) _|refine Kp.alloc ?_ (by first|omega|(simp<;>omega)) _)
  ·repeat (first|exact HG5.out|exact Kp.refl _ _|refine Kp.row ?_ (by omega) _|refine Kp.cell ?_ (by first|(show _<_∨_<=_;omega)|(simp<;>omega)) _|refine Kp.alloc ?_ (by first|omega|(simp<;>omega)) _)
 exact bZ HB7
theorem devOpen_calls(d:Dev)(L:DLoc)(w:World)(h:DevIn w d L):Calls Tryz.prog 13 #[.agg (devA d L)] w (DvRet w (devOpen d).1 (devOpen d).2):=by
 by_cases hz:devReady d=0
 ·exact devOpen_ok d L w h hz
 have e:devOpen d=(Dev.zero,devReady d):=by unfold devOpen;rw[if_pos hz]
 rw[e];exact devOpen_bad d L w h hz
end Go.Proofs.YtefkfglkpebbmacGreat
