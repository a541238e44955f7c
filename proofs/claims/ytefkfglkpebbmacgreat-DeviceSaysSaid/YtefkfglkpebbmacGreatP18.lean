/- Walks of functions, and plain words. No conditions. -/
import Derived.Test.YtefkfglkpebbmacGreatP14
import Derived.Test.YtefkfglkpebbmacGreatP16
import Derived.Test.YtefkfglkpebbmacGreatP17
set_option linter.unusedVariables false
set_option linter.unusedSimpArgs false
set_option maxRecDepth 100000
set_option maxHeartbeats 40000000
namespace Go.Proofs.YtefkfglkpebbmacGreat
open Go.RowKit
variable {Y:Prop}
variable {a:Nat}
theorem x1ej(h:Y:=by
 go_wp2_with fail;generalize w3.alloc (.cells (patA p.from_ p.to_ p.old p.new_ p.size A2 p.ops.length c5) 35)=w6 at *
 generalize w3.heap.size=g9 at *
 obtain⟨z1,z2,z3,z4,z5⟩:=blkFacts HG1.out (by simp[patA]);go_quiet (fail)
 go_wp2_with fail;refine bodyPost_ret (rC (patA 0 0 0 0 0 none 0 0)) rfl ?_;rw[HZ.out];exact⟨none,0,rfl,.const fun v=>patIn_zero v,below_row (Below.drewN' HB4.out _) (by omega) _⟩):Y:=h
theorem lined_of:∀(l:List Chk) (q:Chk),Lined (some q) l->q.n<q.of_->(l.length:Int)<=q.of_-1-q.n
 |[],q,_,h=>by simp only[List.length_nil];omega
 |c::l,q,h,hq=>by
  unfold Lined at h;have h1:=(chkCheck_ok.1 h.1).1;unfold Chk.range at h1;obtain⟨hk,hn⟩:=h.2.1 q rfl;unfold kin at hk;have ih:=lined_of l c h.2.2 (by omega);simp only[List.length_cons];omega
theorem chkList_of{x:Chk}{t:List Chk}(h:chkList (x::t)=0):((x::t).length:Int)<=x.of_:=by
 unfold chkList at h;rw[listGo_ok]at h;unfold Lined at h;have h1:=(chkCheck_ok.1 h.1).1;unfold Chk.range at h1;have:=lined_of t x h.2.2 (by omega);simp only[List.length_cons];omega
theorem patRead_bad{b:LU}(h:(patRead b).2≠0):(patRead b).1=Pat.zero:=by
 unfold patRead at h⊢;by_cases h1:400<b.length
 ·rw[if_pos h1]
 rw[if_neg h1]at h⊢;by_cases h2:b.length<8
 ·rw[if_pos h2]
 rw[if_neg h2]at h⊢;unfold readDone at h⊢;split at h
 ·rename_i h3;rw[if_pos h3]
 rename_i h3;rw[if_neg h3];split at h
 ·rename_i h4;rw[if_pos h4]
 rename_i h4;rw[if_neg h4];split at h
 ·rename_i h5;rw[if_pos h5]
 exact absurd rfl h
theorem refJoined_calls(A:OA)(c:Nat)(l:List Chk)(w:World)(hl:l.length<=2513169434843)(hs:Chs w A l):
  Calls Tryz.prog 56 #[.slice A l.length c] w (PaRet w (chkJoin l).1 (chkJoin l).2):=by
 have HS:=qH hs;have K1:=qH (fun w h=>refChkList_calls A c l w hl h);have hba:=(bW w).alloc nl (.cells (patA 0 0 0 0 0 none 0 0) 35);have HBA:=qH hba;clear hs hba;obtain⟨r,hr⟩:=eX (chkJoin l);rw[hr];have HR:=qH hr;clear hr;by_cases he1:chkList l≠0
 ·have hz:r=(Pat.zero,chkList l):=by rw[<-HR.out,chkJoin_list he1]
  have HZ:=qH hz;have q:(chkList l !=0)=true:=by simp[he1]
  have q':(chkList l==0)=false:=by simp[he1]
  generalize chkList l=e1 at *
  clear he1 hz;go_enter Tryz.func56,Tryz.ntmps56;exact x9n1
 have he1:=Decidable.not_not.1 he1;rw[he1]at K1;have hll:=chkList_len he1;have hdl:=dataOf_le l (fun x hx=>by
  exact x5jz)
 have HE1:=qH he1;clear he1;rcases Nat.eq_zero_or_pos l.length with hl0|hlp
 ·have hz:r=(Pat.zero,5):=by rw[<-HR.out,List.eq_nil_of_length_eq_zero hl0,chkJoin_nil]
  have HZ:=qH hz;have q:((l.length:Int)==0)=true:=by simp[hl0]
  clear hz hl0;go_enter Tryz.func56,Tryz.ntmps56;exact x9n1
 obtain⟨g,o,B1,d1,rfl,hgl,hat1,-⟩:=HS.out.chk (i:=0) hlp;rw[Nat.zero_mul,Nat.add_zero]at hat1;obtain⟨x,t,hxt⟩:∃x t,l=x::t:=by
  rcases l with _|⟨x,t⟩
  ·simp at hlp
  exact⟨x,t,rfl⟩
 have hx1:l[0]=x:=by subst hxt;rfl
 rw[hx1]at hat1;have HAT:=qH hat1;have HXT:=qH hxt;have q5:((l.length:Int)==0)=false:=beq_eq_false_iff_ne.2 (by omega);have nb3:¬l.length=0:=by omega
 have nb1:¬l=[]:=by rw[hxt];simp
 have nb2:¬(l.length:Int)<=0:=by omega
 clear hat1 hx1 hxt;by_cases hfew:(l.length:Int)<x.of_
 ·have hz:r=(Pat.zero,5):=by
   exact x2tq
  have HZ:=qH hz;have q1:((l.length:Int) !=x.of_)=true:=by simp;omega
  clear hz;go_enter Tryz.func56,Tryz.ntmps56;go_wp2_with fail;refine(K1.out _ (HS.out.stays HBA.out)).mono ?_;rintro e w1 ⟨rfl,hb1⟩;obtain⟨a0r,a0f,a0n,a0c,a0z,a0l⟩:=kp (w.heap.size) (patA 0 0 0 0 0 none 0 0) hb1;have HB1:=bT HBA hb1;obtain⟨c5,c1,c2,c3,c4⟩:=HAT.out.stays hgl HB1.out;clear hb1;exact x0v8
 have hfw:¬(l.length:Int)<x.of_:=hfew;have hle:(l.length:Int)<=x.of_:=by
  have h1:=HE1.out;rw[HXT.out]at h1⊢;exact chkList_of h1
 have q4:((l.length:Int) !=x.of_)=false:=by simp;omega
 obtain⟨u,eu,hu⟩:∃u eu,unpacked (dataOf l) 400=(u,eu):=⟨_,_,rfl⟩;have hz:(eu≠0->r=(Pat.zero,eu))∧(eu=0->r=joinDone l (patRead u) x):=by
  exact x0hm
 have HZ1:=qH hz;have HU:=qH hu;clear hz hu hfew;go_enter Tryz.func56,Tryz.ntmps56;go_wp2_with fail;refine(K1.out _ (HS.out.stays HBA.out)).mono ?_;rintro e w1 ⟨rfl,hb1⟩;obtain⟨a0r,a0f,a0n,a0c,a0z,a0l⟩:=kp (w.heap.size) (patA 0 0 0 0 0 none 0 0) hb1;have HB1:=bT HBA hb1;have HRF1:=qH (And.intro a0r a0f);have HLT1:Hid (w.heap.size<w1.heap.size):=qH a0l;have hs1:=HB1.out.size;obtain⟨c6,c1,c2,c3,c4⟩:=HAT.out.stays hgl HB1.out;clear hb1;go_wp2_with fail;clear c6 c1 c2 c3 c4 a0r a0f a0n a0c a0z;go_loopw [5,33] (fun v i wr=>∃(k:Nat) (C:OA) (cc:Nat) (b:LU),k<=l.length∧i=iv k∧v=.slice C b.length cc∧Hid (b=dataOf (l.take k))∧b.length<=16*k∧Hid (Own wr w1.heap.size 5 1 C b.length cc (b.map bv))∧Hid (Below w1.heap.size w1 wr)) (fun _ i _=>l.length-(intOf i).toNat)
 case atStart=>exact⟨0,none,0,[],Nat.zero_le _,rfl,rfl,qH (by simp[dataOf]),by simp,qH (Own.nil_ _ _ _ _),qH (Below.refl _ _)⟩
 case round=>
  rename World=>wr;obtain⟨k,C,cc,b,hk,rfl,rfl,HBK,hbl,HO,HBR⟩:=hrel;have hsr:=HBR.out.size;have HBW:Hid (Below w.heap.size w wr):=qH (HB1.out.trans (HBR.out.mono hs1));by_cases hlt:k<l.length
  ·obtain⟨g',o',D,d,e,_,hat,hin⟩:=(HS.out.stays HBW.out).chk hlt;injection e with e;injection e with e1 e2;subst e1 e2;have hsn:dataOf (l.take (k+1))=b++l[k].data:=by rw[List.take_succ_eq_append_getElem hlt,dataOf_snoc,<-HBK.out]
   have hyl:l[k].data.length<=16:=by
    exact x4px
   obtain⟨y,hy⟩:=eX (l[k]);rw[hy]at hat hin hsn hyl;have HSN:=qH hsn;obtain⟨c5,c1,c2,c3,c4⟩:=hat;have dl:decide ((k:Int)<(l.length:Int))=true:=decide_eq_true (by omega);have hwk:IntKind.i64.wrap ((k:Int)+1)=(k:Int)+1:=IntWalk.i64_in _ (by omega);have hoa:=HO.out.alloc (.cells (chkA y.from_ y.to_ y.n y.of_ D y.data.length d) 39);have hsd:=(hin.data.stays ((bW wr).alloc nl (.cells (chkA y.from_ y.to_ y.n y.of_ D y.data.length d) 39))).src;have hob:b.length+y.data.length<=137438953472:=by omega
   have hle:w1.heap.size<=(wr.alloc (.cells (chkA y.from_ y.to_ y.n y.of_ D y.data.length d) 39)).heap.size:=by simp;omega
   clear hy hin hsn;go_wp2_with (at_builtin;go_must (refine wpList_app (wr.alloc (.cells (chkA y.from_ y.to_ y.n y.of_ D y.data.length d) 39)) rfl _ _ 22 rfl elBytes w1.heap.size C b.length cc (b.map bv) rfl hoa D y.data.length d (y.data.map bv) rfl hsd (by simp) (bv_one _) hob hle ?_;intro C1 cc1 w3 hown hgr hbel hor));have HL:Hid (b.length+y.data.length=(b++y.data).length):=qH (by simp);have HO1:Hid (Own w3 w1.heap.size 5 1 C1 (b++y.data).length cc1 ((b++y.data).map bv)):=qH (by rw[List.map_append,<-HL.out];exact hown);have HB2:Hid (Below w1.heap.size w1 w3):=qH ((HBR.out.alloc hsr _).trans hbel);clear hown hgr hbel hor hoa hsd hob hle;go_roundw
   case rel=>exact⟨k+1,C1,cc1,b++y.data,by omega,by go_num,by rw[HL.out],qH HSN.out.symm,by simp;omega,HO1,HB2⟩
   case measure=>simp[intOf];omega
  obtain rfl:k=l.length:=by omega
  have dl:decide ((l.length:Int)<(l.length:Int))=false:=by simp
  have hbd:b=dataOf l:=by rw[HBK.out,List.take_length]
  have hbt:=HO.out.src.bts;have hbc:=HO.out.le;obtain⟨b0r,b0f,b0n,b0c,b0z,b0l⟩:=keep1 (g:=w.heap.size) (cs:=patA 0 0 0 0 0 none 0 0) HBR.out HRF1.out.1 (by go_simp) HRF1.out.2;have a0l0:w.heap.size<w1.heap.size:=HLT1.out;have K2:=qH (refUnpack_calls C cc b 400 wr hbc (by omega) ⟨by decide,by decide⟩ hbt);rw[hbd,HU.out,<-hbd]at K2;clear hbd hbt;go_wp2_with fail;refine K2.out.mono ?_;rintro e w2 ⟨A1,c4,rfl,ho1,hb1⟩;obtain⟨a0r,a0f,a0n,a0c,a0z,a0l'⟩:=keep1 (g:=w.heap.size) (cs:=patA 0 0 0 0 0 none 0 0) hb1 b0r (by go_simp) b0f;have HB2:=bT HBW hb1;have hbt1:=ho1.src.bts;have hbc1:=ho1.le;have HT1:=qH hbt1;have HO1:Hid (wr.heap.size<=w2.heap.size∧∀k,A1.map (·.block)=some k->wr.heap.size<=k):=qH ⟨hb1.size,fun k e=>(ho1.block k e).1⟩;have hn1:w.heap.size<w2.heap.size:=a0l';clear hb1 ho1 hbt1 b0r b0f b0n b0c b0z b0l;by_cases heu:eu≠0
  ·have q1:(eu !=0)=true:=by simp[heu]
   have HZ:=qH (HZ1.out.1 heu);clear heu;go_wp2_with fail;refine bodyPost_ret (rC (patA 0 0 0 0 0 none 0 0)) rfl ?_;rw[HZ.out];exact x9g1
  have heu:=Decidable.not_not.1 heu;have hz:=HZ1.out.2 heu;subst heu;obtain⟨p,ep,hp⟩:∃p ep,patRead u=(p,ep):=⟨_,_,rfl⟩;rw[hp]at hz;have K3:=qH (refPatReadS_calls A1 c4 u w2 hbc1 HT1.out);rw[hp]at K3;dsimp only at K3;have HZJ:=qH hz;have HPZ:Hid (ep≠0->p=Pat.zero):=qH (fun e=>by have:=patRead_bad (b:=u) (by rw[hp];exact e);rwa [hp]at this);clear hz hp;go_wp2_with fail;refine K3.out.mono ?_;rintro e w3 ⟨A2,c5,rfl,-,hb1,hpx⟩;have hf1:Fresh wr.heap.size w3 (fun v=>PatIn v p A2 c5):=fun v hv=>hpx v (fun k hk hlt=>hv k (by
   rcases hk with h|h
   ·have:=HO1.out.1;omega
   exact(HO1.out.2 k h)) hlt)
  clear hpx;obtain⟨b0r,b0f,b0n,b0c,b0z,b0l⟩:=keep1 (g:=w.heap.size) (cs:=patA 0 0 0 0 0 none 0 0) hb1 a0r (by go_simp) a0f;have HB3:=bT HB2 hb1;have HF1:=qH hf1;have hs2:=HB2.out.size;have hsw:w.heap.size<wr.heap.size:=by have:=HBR.out.size;have:=a0l0;omega
  have hs3:=hb1.size;clear hb1 hf1 a0r a0f a0n a0c a0z a0l';have hba1:=(bW w3).alloc nl (.cells (patA p.from_ p.to_ p.old p.new_ p.size A2 p.ops.length c5) 35);have HB4:=bT HB3 hba1;have HF2:=qH (HF1.out.below hba1 nl);have HG1:Hid ((w3.alloc (.cells (patA p.from_ p.to_ p.old p.new_ p.size A2 p.ops.length c5) 35)).heap[w3.heap.size]?=some (.cells (patA p.from_ p.to_ p.old p.new_ p.size A2 p.ops.length c5) 35 (0,0))):=qH (blk_top rfl);obtain⟨a0r,a0f,a0n,a0c,a0z,a0l'⟩:=keep1 (g:=w.heap.size) (cs:=patA 0 0 0 0 0 none 0 0) hba1 b0r (by go_simp) b0f;have hs4:=hba1.size;have hn2:w.heap.size<w3.heap.size:=b0l;have HB0R:Hid (rowOf w3 w.heap.size=patA 0 0 0 0 0 none 0 0):=qH b0r;clear hba1 b0r b0f b0n b0c b0z b0l;by_cases hep:ep≠0
  ·have hz:r=(Pat.zero,ep):=by rw[HZJ.out,HPZ.out hep];unfold joinDone;rw[if_neg (fun h=>hep h.1)]
   have HZ:=qH hz;have q1:(ep !=0)=true:=by simp[hep]
   have ng1:¬w.heap.size=w3.heap.size:=by omega
   have b0r:=HB0R.out;clear hep hz;go_wp2_with fail;refine bodyPost_ret (rC (patA 0 0 0 0 0 none 0 0)) rfl ?_;rw[HZ.out];refine⟨none,0,rfl,.const fun v=>patIn_zero v,?_⟩;repeat (first|exact HB4.out|exact HB3.out|refine bR ?_ _|refine Below.alloc ?_ (by first|omega|(simp[World.setRow]<;>omega)) _)
  have hep:=Decidable.not_not.1 hep;subst hep;obtain⟨c6,c1,c2,c3,c4'⟩:=HAT.out.stays hgl HB4.out;by_cases hf:p.from_=x.from_
  ·have q1:(p.from_ !=x.from_)=false:=by simp[hf]
   by_cases ht:p.to_=x.to_
   ·have hz:r=(p,0):=by rw[HZJ.out];unfold joinDone;rw[if_neg (fun h=>by rcases h.2 with h|h;exact h hf;exact h ht)]
    have HZ:=qH hz;have q2:(p.to_ !=x.to_)=false:=by simp[ht]
    clear hz hf ht;go_wp2_with fail;generalize w3.alloc (.cells (patA p.from_ p.to_ p.old p.new_ p.size A2 p.ops.length c5) 35)=w6 at *
    generalize w3.heap.size=g9 at *
    obtain⟨z1,z2,z3,z4,z5⟩:=blkFacts HG1.out (by simp[patA]);go_quiet (fail)
    have ng:¬g9=w.heap.size:=by omega
    have ng1:¬w.heap.size=g9:=by omega
    go_wp2_with fail;refine bodyPost_ret (rC (patA p.from_ p.to_ p.old p.new_ p.size A2 p.ops.length c5)) rfl ?_;rw[HZ.out];exact⟨A2,c5,rfl,((HF2.out.drewN _).row (by omega) _).mono (by omega),below_row (Below.drewN' HB4.out _) nl _⟩
   have hz:r=(Pat.zero,3):=by rw[HZJ.out];unfold joinDone;rw[if_pos ⟨rfl,.inr ht⟩]
   have HZ:=qH hz;have q2:(p.to_ !=x.to_)=true:=by simp[ht]
   clear hz hf ht;exact x1ej
  have hz:r=(Pat.zero,3):=by rw[HZJ.out];unfold joinDone;rw[if_pos ⟨rfl,.inl hf⟩]
  have HZ:=qH hz;have q1:(p.from_ !=x.from_)=true:=by simp[hf]
  clear hz hf;exact x1ej
theorem x2tc(h:Y:=by
 intro done cv k a wq hw h hJ hn;have e3:=mO 3 (.pointer (some ⟨w.heap.size,0,none⟩)) h;go_simp):Y:=h
theorem x30j(h:Y:=by
 go_quiet (fail)
 go_wp2_with fail;go_meet
 case rel=>exact⟨by rw[hres],qH (below_drewN _ _)⟩):Y:=h
theorem splice_other(r:Rec){a':Nat}(ha:r.active=(a:Int))(h:a+a'=1):splice (recA r) (5+a'*3) (infA Inf.zero)=recA (r.setOther Inf.zero):=by
 exact x131
theorem acts_open(S:Nat->Prop)(d:Dev)(L:DLoc)(n f t m o:Int)(B:OA)(bl bc:Nat)(w:World)(hok:DevOk d)(hu:d.up=true)(hd:On S w (fun v=>DevIn v d L)):Calls Tryz.prog 19 #[.agg (devA d L),.agg #[iv 5,iv n],.agg (chkA f t m o B bl bc)] w (AcRet S w (devOpen d).1 (devOpen d).2):=by
 have hrec:=rec_ok hok;have hrd:devReady d=0:=by unfold devReady;rw[if_neg (by simpa using devCheck_ok.2 hok),if_neg (by rw[hu];decide)]
 have KN:=qH (fun w=>newest_calls d.c0 d.c1 w);rw[refNewest_ok hok.cops]at KN;obtain⟨rk,hrk⟩:=eX ((recRead d.c0 d.c1).2);have hre:(recRead d.c0 d.c1).1=d.rec_:=rfl;rw[hrk,hre]at KN;clear hrk hre;have hact:=rec_active hrec;have hdef:devOpen d=if d.busy=true∨d.rec_.trying=true then (Dev.zero,5)else if (chkJoin d.got).2≠0 then (Dev.zero,(chkJoin d.got).2)
   else if (chkJoin d.got).1.from_≠(d.rec_.at_ d.rec_.active).ver∨(chkJoin d.got).1.to_<d.rec_.floor then (Dev.zero,4)
   else if (patDo (sumOn 1) (chkJoin d.got).1 (d.image d.rec_.active d.rec_)).2≠0 then (Dev.zero,(patDo (sumOn 1) (chkJoin d.got).1 (d.image d.rec_.active d.rec_)).2)
   else if (recWrite d.c0 d.c1 (d.rec_.setOther Inf.zero) false).2≠0 then (Dev.zero,(recWrite d.c0 d.c1 (d.rec_.setOther Inf.zero) false).2)
   else ({d.write (d.rec_.setOther Inf.zero) false with busy:=true,job:=(chkJoin d.got).1,done:=0,got:=[]},0):=by
  unfold devOpen;rw[if_neg (by omega)]
 have HD:=qH hdef;have HI:=qH hd;have K1:=qH (fun v (hb:Below w.heap.size w v)=>refJoined_calls L.ag L.cg d.got v hd.now.lg (hd.at_ hb).got);have K2:=qH (fun v (hb:Below w.heap.size w v)=>imageOf_calls d L v (hd.at_ hb) hok.l0 hok.l1 hok.cops);have K3:=qH (fun B A dd c p old w hc ho hA hp=>refDone_calls B A dd c p old w hc ho hA hp);have K4:=qH (fun gd w h1 h2=>actsWrite_calls d L (d.rec_.setOther Inf.zero) false gd w hok.cops h1 h2);have hil:(d.image d.rec_.active d.rec_).length<=140737488351232:=by unfold Dev.image;rw[List.length_take];have:=slot_len hok.l0 hok.l1 d.rec_.active;omega
 generalize d.image d.rec_.active d.rec_=im at *
 obtain⟨⟨p,e1⟩,hp⟩:∃y,chkJoin d.got=y:=⟨_,rfl⟩;rw[hp]at K1 HD;dsimp only at K1 HD;generalize devOpen d=res at *
 clear hrec hrd hok hdef hd hp;generalize d.rec_=r at *
 go_enter Tryz.func19,Tryz.ntmps19;go_wp2_with fail;refine(KN.out _).mono ?_;rintro e w1 ⟨rfl,hb⟩;have a2:=kp (w.heap.size) (devA d L) hb;have a1:=kp (w.heap.size+1) (#[iv 5,iv n]) hb;have a3:=kp (w.heap.size+1+1+1) (devA Dev.zero DLoc.zero) hb;have a4:=kp (w.heap.size+1+1+1+1) (#[.func (Fn.func 51) #[] #[]]) hb;have HB1:Hid (Below w.heap.size w w1):=qH (((((((bW w).alloc nl (.cells (devA d L) 37)).alloc (by simp) (.cells #[iv 5,iv n] 55)).alloc (by simp;omega) (.cells (chkA f t m o B bl bc) 39)).alloc (by simp;omega) (.cells (devA Dev.zero DLoc.zero) 37)).alloc (by simp;omega) _).trans (hb.mono (by simp;omega)));clear hb;by_cases c1:d.busy=true∨r.trying=true
 ·have hz:=HD.out.trans (if_pos c1);subst hz;clear HD K1 K2 K3 K4 KN hact
  cases c2:d.busy
  case true=>
   go_wp2_with fail;refine(actsBad_calls 5 _).mono ?_;rintro e wz ⟨rfl,hb⟩;have z1:=kp (w.heap.size+1+1+1) (devA Dev.zero DLoc.zero) hb;have HBZ:=bU HB1 hb;exact x8hz
  case false=>
   have q:r.trying=true:=c1.resolve_left (by rw[c2];decide);clear c1;go_wp2_with fail;refine(actsBad_calls 5 _).mono ?_;rintro e wz ⟨rfl,hb⟩;have z1:=kp (w.heap.size+1+1+1) (devA Dev.zero DLoc.zero) hb;have HBZ:=bU HB1 hb;exact x8hz
 have c2:d.busy=false:=by cases h:d.busy;rfl;exact absurd (.inl h) c1
 have c3:r.trying=false:=by cases h:r.trying;rfl;exact absurd (.inr h) c1
 have HD1:=qH (HD.out.trans (if_neg c1));clear c1 HD KN hu;go_wp2_with fail;refine(K1.out _ (by have hs:=HB1.out.size;repeat (first|exact HB1.out|refine bA ?_ _))).mono ?_;rintro e w2 ⟨A1,c2',rfl,hf1,hb⟩;have a2:=kr a2 hb;have a3:=kr a3 hb;have a4:=kr a4 hb;have r1:=kp (w1.heap.size) (recA r) hb;have HB2:=bU HB1 hb;have hs1:w.heap.size+5<=w1.heap.size:=by omega
 have HF1:Hid (Fresh (w1.heap.size+1) w2 (fun v=>PatIn v p A1 c2')):=qH (by simpa using hf1);have hs2:w1.heap.size+1<=w2.heap.size:=by have:=hb.size;simpa using this
 clear hb hf1 K1;by_cases c4:e1≠0
 ·have hz:=HD1.out.trans (if_pos c4);subst hz;have q:(e1 !=0)=true:=by simp[c4]
  clear c4 HD1 K2 K3 K4 HF1 hact;go_wp2_with fail;refine(actsBad_calls e1 _).mono ?_;rintro e wz ⟨rfl,hb⟩;have z1:=kp (w.heap.size+1+1+1) (devA Dev.zero DLoc.zero) hb;have HBZ:=bU HB2 hb;exact x8hz
 have c4:=Decidable.not_not.1 c4;subst c4;have HD2:=qH (HD1.out.trans (if_neg (by decide)));clear HD1;go_upto_region 20 with fail
 obtain⟨w3,hw2⟩:=eX (w2.alloc (.cells (patA p.from_ p.to_ p.old p.new_ p.size A1 p.ops.length c2') 35));have hb:Below w2.heap.size w2 w3:=by rw[<-hw2];exact bL _
 have hrr:rowOf w3 w2.heap.size=patA p.from_ p.to_ p.old p.new_ p.size A1 p.ops.length c2'∧frOf w3 w2.heap.size=(0,0):=by rw[<-hw2];exact⟨by rw[rowOf_alloc,if_pos rfl],by rw[frOf_alloc,if_pos rfl]⟩
 have a2:=keep1 (g:=w.heap.size) (cs:=devA d L) hb a2.1 (by first|(go_simp;done)|simp[recA]|simp[patA]) a2.2.1;have a3:=keep1 (g:=w.heap.size+1+1+1) (cs:=devA Dev.zero DLoc.zero) hb a3.1 (by first|(go_simp;done)|simp[recA]|simp[patA]) a3.2.1;have a4:=keep1 (g:=w.heap.size+1+1+1+1) (cs:=#[.func (Fn.func 51) #[] #[]]) hb a4.1 (by first|(go_simp;done)|simp[recA]|simp[patA]) a4.2.1;have r1:=keep1 (g:=w1.heap.size) (cs:=recA r) hb r1.1 (by first|(go_simp;done)|simp[recA]|simp[patA]) r1.2.1;have p1:=keep1 (bW w3) hrr.1 (by simp[patA]) hrr.2;have HB3:=bT HB2 hb;have HF2:Hid (Fresh (w1.heap.size+1) w3 (fun v=>PatIn v p A1 c2')):=qH (HF1.out.below hb nl);have hs3:w2.heap.size<w3.heap.size:=p1.2.2.2.2.2;rw[hw2];clear hw2 hb hrr HB2 HF1;obtain⟨a,ha⟩:∃a:Nat,r.active=(a:Int):=⟨r.active.toNat,by omega⟩;have ha1:a<=1:=by omega
 have pv:=recA_ver r ha1;have HA:=qH ha;rw[ha]at HD2;obtain⟨bad1,hbad⟩:∃b,decide (p.from_≠(r.at_ (a:Int)).ver∨p.to_<r.floor)=b:=⟨_,rfl⟩;have HBAD:=qH hbad;clear hbad;go_cut [110] (fun v wx=>v=.bool bad1∧Hid (Below w3.heap.size w3 wx))
 case first=>
  have k1:(0:Int)<=(a:Int):=by omega
  have k2:(a:Int)<2:=by omega
  have k3:¬(2:Int)<=(a:Int):=by omega
  by_cases c1:p.from_=(r.at_ (a:Int)).ver
  ·have q1:(p.from_ !=(r.at_ (a:Int)).ver)=false:=by simp[c1]
   by_cases c5:p.to_<r.floor
   ·have hres:bad1=true:=by rw[<-HBAD.out];exact decide_eq_true (.inr c5)
    clear c1;exact x30j
   have hres:bad1=false:=by rw[<-HBAD.out];exact decide_eq_false (fun h=>h.elim (fun h=>h c1) c5)
   clear c1;exact x30j
  have q1:(p.from_ !=(r.at_ (a:Int)).ver)=true:=by simp[c1]
  have hres:bad1=true:=by rw[<-HBAD.out];exact decide_eq_true (.inl c1)
  clear c1;exact x30j
 case rest=>
 obtain⟨rfl,hb⟩:=hcut;have a2:=keep1 (g:=w.heap.size) (cs:=devA d L) hb.out a2.1 (by first|(go_simp;done)|simp[recA]|simp[patA]) a2.2.1;have a3:=keep1 (g:=w.heap.size+1+1+1) (cs:=devA Dev.zero DLoc.zero) hb.out a3.1 (by first|(go_simp;done)|simp[recA]|simp[patA]) a3.2.1;have a4:=keep1 (g:=w.heap.size+1+1+1+1) (cs:=#[.func (Fn.func 51) #[] #[]]) hb.out a4.1 (by first|(go_simp;done)|simp[recA]|simp[patA]) a4.2.1;have r1:=keep1 (g:=w1.heap.size) (cs:=recA r) hb.out r1.1 (by first|(go_simp;done)|simp[recA]|simp[patA]) r1.2.1;have p1:=keep1 (g:=w2.heap.size) (cs:=patA p.from_ p.to_ p.old p.new_ p.size A1 p.ops.length c2') hb.out p1.1 (by first|(go_simp;done)|simp[recA]|simp[patA]) p1.2.1;have HB2:=bT HB3 hb.out;have HF1:Hid (Fresh (w1.heap.size+1) wc (fun v=>PatIn v p A1 c2')):=qH (HF2.out.below hb.out nl);have hs4:w3.heap.size<=wc.heap.size:=hb.out.size;clear hb HB3 HF2
 cases hbd:bad1
 case true=>
  have hz:=HD2.out.trans (if_pos (of_decide_eq_true (HBAD.out.trans hbd)));subst hz;clear hbd HD2 K2 K3 K4 HF1 hact;go_wp2_with fail;refine(actsBad_calls 4 _).mono ?_;rintro e wz ⟨rfl,hb⟩;have z1:=kp (w.heap.size+1+1+1) (devA Dev.zero DLoc.zero) hb;have HBZ:=bU HB2 hb;exact x8hz
 have HD1:=qH (HD2.out.trans (if_neg (of_decide_eq_false (HBAD.out.trans hbd))));clear HD2 HBAD hbd;obtain⟨⟨b',en⟩,hpd⟩:∃x,patDo (sumOn 1) p im=x:=⟨_,rfl⟩;have KI:Hid (∀wq,Below wc.heap.size wc wq->Calls Tryz.prog 28 #[.agg (devA d L)] wq (ImRet wq im)):=qH (fun wq h=>K2.out wq (HB2.out.trans (h.mono HB2.out.size)));have KD:Hid (∀wq A c,Below wc.heap.size wc wq->im.length<=c->Bts wq A im->Calls Tryz.prog 27 #[.agg (patA p.from_ p.to_ p.old p.new_ p.size A1 p.ops.length c2'),.slice A im.length c] wq (ByRet2 wq b' en)):=qH (fun wq A c h hc hb=>by
  have hq:=K3.out A1 A c2' c p im wq hc hil hb (HF1.out.now.stays h);rw[hpd]at hq;exact hq)
 rw[hpd]at HD1;dsimp only at HD1;clear hpd K2 K3;have RD:Hid (rowOf wc w.heap.size=devA d L):=qH a2.1;have FD:Hid (frOf wc w.heap.size=(0,0)):=qH a2.2.1;have RP:Hid (rowOf wc w2.heap.size=patA p.from_ p.to_ p.old p.new_ p.size A1 p.ops.length c2'):=qH p1.1;have FP:Hid (frOf wc w2.heap.size=(0,0)):=qH p1.2.1;go_wp2_with fail;have hq2:=fun v (h:Below wc.heap.size wc v)=>keep1 h RP.out (by simp[patA]) FP.out;have hq1:=fun v (h:Below wc.heap.size wc v)=>keep1 h RD.out (by go_simp) FD.out
 go_region_held3 (fun v=>Below wc.heap.size wc v) (first|exact hbb|exact(Below.refl _ _).drew)
  (first
    |(go_at_call 28;refine(KI.out _ (by assumption)).mono ?_;rintro e wj ⟨Aj,cj,rfl,h3,h4,h5⟩;have hbb:=(bW wc).drew.trans (h5.mono (by simp)))
    |(go_at_call 27;refine(KD.out _ _ _ (by assumption) h3 h4).mono ?_;rintro e w5 ⟨A5,c5',rfl,g1,g2,g9⟩;have hbb:=hbb.trans (g9.mono hbb.size)))
 have g3:=hbb;clear hbb g9 h3 h4 h5 hq2 hq1;have a2:=keep1 (g:=w.heap.size) (cs:=devA d L) g3 a2.1 (by first|(go_simp;done)|simp[recA]|simp[patA]) a2.2.1;have a3:=keep1 (g:=w.heap.size+1+1+1) (cs:=devA Dev.zero DLoc.zero) g3 a3.1 (by first|(go_simp;done)|simp[recA]|simp[patA]) a3.2.1;have a4:=keep1 (g:=w.heap.size+1+1+1+1) (cs:=#[.func (Fn.func 51) #[] #[]]) g3 a4.1 (by first|(go_simp;done)|simp[recA]|simp[patA]) a4.2.1;have r1:=keep1 (g:=w1.heap.size) (cs:=recA r) g3 r1.1 (by first|(go_simp;done)|simp[recA]|simp[patA]) r1.2.1;have p1:=keep1 (g:=w2.heap.size) (cs:=patA p.from_ p.to_ p.old p.new_ p.size A1 p.ops.length c2') g3 p1.1 (by first|(go_simp;done)|simp[recA]|simp[patA]) p1.2.1;have HB3:Hid (Below w.heap.size w w5):=qH (HB2.out.trans (g3.mono HB2.out.size));have HF2:Hid (Fresh (w1.heap.size+1) w5 (fun v=>PatIn v p A1 c2')):=qH (HF1.out.below g3 nl);have hs5:wc.heap.size<=w5.heap.size:=g3.size;clear g1 g2 g3 KI KD RD FD RP FP HB2 HF1;by_cases c5:en≠0
 ·have hz:=HD1.out.trans (if_pos c5);subst hz;have q:(en !=0)=true:=by simp[c5]
  clear c5 HD1 K4 HF2 hact;go_wp2_with fail;refine(actsBad_calls en _).mono ?_;rintro e wz ⟨rfl,hb⟩;have z1:=kp (w.heap.size+1+1+1) (devA Dev.zero DLoc.zero) hb;have HBZ:=bU HB3 hb;exact x8hz
 have c5:=Decidable.not_not.1 c5;subst c5;have HD2:=qH (HD1.out.trans (if_neg (by decide)));clear HD1;obtain⟨a',haa⟩:∃a':Nat,a+a'=1:=⟨1-a,by omega⟩;have hsp:=splice_other r ha haa;generalize r.setOther Inf.zero=r2 at *
 have hle:5+a'*3+3<=11:=by omega
 have hw1:IntKind.i64.wrap ((1:Int)-(a:Int))=(a':Int):=by rw[IntWalk.i64_in _ (by omega)];omega
 have i1:(0:Int)<=(a':Int):=by omega
 have i2:(a':Int)<2:=by omega
 have i3:¬(2:Int)<=(a':Int):=by omega
 clear hact;go_upto_region 26 with fail
 have hp1:0<(rowOf w5 w1.heap.size).size:=by rw[r1.1];simp[recA]
 obtain⟨w4,hw2⟩:=eX (w5.setRow w1.heap.size (recA r2));have hk1:∀k,k≠w1.heap.size->w4.heap[k]?=w5.heap[k]?:=fun k hk=>by rw[<-hw2];exact setRow_other _ _ _ _ hk
 have hs6:w4.heap.size=w5.heap.size:=by rw[<-hw2];simp
 have hrr:rowOf w4 w1.heap.size=recA r2∧frOf w4 w1.heap.size=(0,0):=by rw[<-hw2,rowOf_setRow _ _ _ _ hp1,if_pos rfl,frOf_setRow];exact⟨rfl,r1.2.1⟩
 have HB2:Hid (Below w.heap.size w w4):=qH (by rw[<-hw2];exact below_row HB3.out (by omega) _);have HF1:Hid (Fresh (w1.heap.size+1) w4 (fun v=>PatIn v p A1 c2')):=qH (by rw[<-hw2];exact HF2.out.row (by omega) _);rw[hw2];have a2:=keepH (g:=w.heap.size) (cs:=devA d L) (hk1 _ (by omega)) a2.1 (by first|(go_simp;done)|simp[patA]) a2.2.1;have a3:=keepH (g:=w.heap.size+1+1+1) (cs:=devA Dev.zero DLoc.zero) (hk1 _ (by omega)) a3.1 (by first|(go_simp;done)|simp[patA]) a3.2.1;have a4:=keepH (g:=w.heap.size+1+1+1+1) (cs:=#[.func (Fn.func 51) #[] #[]]) (hk1 _ (by omega)) a4.1 (by first|(go_simp;done)|simp[patA]) a4.2.1;have p1:=keepH (g:=w2.heap.size) (cs:=patA p.from_ p.to_ p.old p.new_ p.size A1 p.ops.length c2') (hk1 _ (by omega)) p1.1 (by first|(go_simp;done)|simp[patA]) p1.2.1;have r1:=keep1 (bW w4) hrr.1 (by simp[recA]) hrr.2;clear hw2 hk1 hp1 hrr hsp hle hw1 i1 i2 i3 haa HB3 HF2 pv;go_wp2_with fail;refine(K4.out _ _ (by go_simp) (by go_simp)).mono ?_;intro e w5 hwt;obtain⟨rfl,⟨x0r,x0f⟩,hbx,hkx⟩:=hwt.row a2.1 a2.2.1;have a3:=keepH (g:=w.heap.size+1+1+1) (cs:=devA Dev.zero DLoc.zero) (hkx _ (by omega) (by omega)) a3.1 (by first|(go_simp;done)|simp[patA]) a3.2.1;have a4:=keepH (g:=w.heap.size+1+1+1+1) (cs:=#[.func (Fn.func 51) #[] #[]]) (hkx _ (by omega) (by omega)) a4.1 (by first|(go_simp;done)|simp[patA]) a4.2.1;have p1:=keepH (g:=w2.heap.size) (cs:=patA p.from_ p.to_ p.old p.new_ p.size A1 p.ops.length c2') (hkx _ (by omega) (by omega)) p1.1 (by first|(go_simp;done)|simp[patA]) p1.2.1;have HB3:Hid (Below w.heap.size w w5):=qH (HB2.out.trans hbx);have HF2:Hid (Fresh (w1.heap.size+1) w5 (fun v=>PatIn v p A1 c2')):=qH (HF1.out.fresh fun k h1 h2=>hkx k h2 (by omega));have hs7:w4.heap.size<=w5.heap.size:=hbx.size;clear hwt hbx hkx HB2 HF1 K4;obtain⟨e2,he1⟩:=eX ((recWrite d.c0 d.c1 r2 false).2);rw[he1]at x0r HD2⊢;obtain⟨dX,hdX⟩:=eX ((if e2=0 then d.write r2 false else d));rw[hdX]at x0r;have HDX:=qH hdX;clear he1 hdX;have RD:Hid (rowOf w5 w.heap.size=devA dX L):=qH x0r;have FD:Hid (frOf w5 w.heap.size=(0,0)):=qH x0f;have RP:Hid (rowOf w5 w2.heap.size=patA p.from_ p.to_ p.old p.new_ p.size A1 p.ops.length c2'):=qH p1.1;have FP:Hid (frOf w5 w2.heap.size=(0,0)):=qH p1.2.1;have HQ1:Hid (w2.heap.size≠w.heap.size):=qH (by omega);have HP1:Hid (0<(rowOf w5 w.heap.size).size):=qH (by rw[RD.out,devA_size];decide);clear x0r x0f;go_wp2_with fail;refine wp_region_mix (by kernel_rfl) (some 138::some 139::none::some 140::none::some 141::none::some 142::none::[]) (none::none::some 0::none::some 1::none::some 2::none::some 3::[]) (.agg (patA p.from_ p.to_ p.old p.new_ p.size A1 p.ops.length c2')::.pointer (some ⟨w.heap.size,29,none⟩)::undef::.pointer (some ⟨w.heap.size,30,none⟩)::undef::.pointer (some ⟨w.heap.size,36,none⟩)::undef::.pointer (some ⟨w.heap.size,28,none⟩)::undef::[]) 4 (opJ w5 w.heap.size dX L p A1 c2') 327 rfl rfl (by decide+kernel) (by decide+kernel) (by decide+kernel) (by decide+kernel) rfl rfl (by decide+kernel) (by decide+kernel) (rfl) ?_ ?_
 ·refine⟨?_,?_,?_,?_,?_,?_,?_,?_,?_,trivial⟩
  ·intro done cv k a wq hw h hJ hn;have e3:=mO 15 (.pointer (some ⟨w2.heap.size,0,none⟩)) h;obtain⟨r_,f_⟩:=opJ_row hJ HQ1.out RP.out FP.out HP1.out;go_simp
  ·exact x2tc
  ·intro done cv a wq hw h hJ;have e3:=mN 1 139 h hw;obtain rfl:wq=w5.drew:=hJ;refine wp_sb1c e3 (cs:=devA dX L) (by rw[rowOf_drew];exact RD.out) (by go_simp) (by rw[frOf_drew];exact FD.out) ⟨undef,rfl,?_⟩
   show _=_;rw[devA_set_busy]
  ·exact x2tc
  ·intro done cv a wq hw h hJ;have e3:=mN 3 140 h hw;have e138:=mN 0 138 h hw;have hJ':wq=w5.drew.setRow w.heap.size (devA {dX with busy:=true} L):=hJ;subst hJ';refine wp_srow e3 e138 (by go_simp) (by go_simp) (cs:=devA {dX with busy:=true} L) (by rw[rowOf_setRow _ _ _ _ (by rw[rowOf_drew];exact HP1.out),if_pos rfl]) (by go_simp) (by rw[frOf_setRow,frOf_drew];exact FD.out) (by go_simp) ⟨undef,rfl,?_⟩
   show _=_;rw[devA_splice_job,setRow_setRow]
  ·exact x2tc
  ·intro done cv a wq hw h hJ;have e3:=mN 5 141 h hw;have hJ':wq=w5.drew.setRow w.heap.size (devA {dX with busy:=true,job:=p} {L with aj:=A1,cj:=c2'}):=hJ;subst hJ';refine wp_si1c e3 (cs:=devA {dX with busy:=true,job:=p} {L with aj:=A1,cj:=c2'}) (by rw[rowOf_setRow _ _ _ _ (by rw[rowOf_drew];exact HP1.out),if_pos rfl]) (by go_simp) (by rw[frOf_setRow,frOf_drew];exact FD.out) ⟨undef,rfl,?_⟩
   show _=_;rw[devA_set_done,setRow_setRow]
  ·exact x2tc
  ·intro done cv a wq hw h hJ;have e3:=mN 7 142 h hw;have hJ':wq=w5.drew.setRow w.heap.size (devA {dX with busy:=true,job:=p,done:=0} {L with aj:=A1,cj:=c2'}):=hJ;subst hJ';refine wp_sn1c e3 (cs:=devA {dX with busy:=true,job:=p,done:=0} {L with aj:=A1,cj:=c2'}) (by rw[rowOf_setRow _ _ _ _ (by rw[rowOf_drew];exact HP1.out),if_pos rfl]) (by go_simp) (by rw[frOf_setRow,frOf_drew];exact FD.out) ⟨undef,rfl,?_⟩
   show _=_;rw[devA_set_got0,setRow_setRow]
 intro cv1 w6 hJ;have hw1:w6=w5.drew.setRow w.heap.size (devA {dX with busy:=true,job:=p,done:=0,got:=[]} {L with aj:=A1,cj:=c2',ag:=none,cg:=0}):=hJ;simp only[mixAll,putAll_some,putAll_none,putAll_nil,List.getElem?_cons_zero,List.getElem?_cons_succ,Nat.zero_add,Nat.reduceAdd,List.setIfInBounds_toArray,List.set_cons_zero,List.set_cons_succ];have r3:rowOf w6 w.heap.size=devA {dX with busy:=true,job:=p,done:=0,got:=[]} {L with aj:=A1,cj:=c2',ag:=none,cg:=0}∧frOf w6 w.heap.size=(0,0):=by rw[hw1,rowOf_setRow _ _ _ _ (by rw[rowOf_drew];exact HP1.out),if_pos rfl,frOf_setRow,frOf_drew];exact⟨rfl,FD.out⟩
 have hk1:∀k,k≠w.heap.size->w6.heap[k]?=w5.heap[k]?:=fun k hk=>by rw[hw1];exact setRow_other w5.drew _ _ _ hk
 have hs8:w6.heap.size=w5.heap.size:=by
  have h1:w6.heap.size=w5.drew.heap.size:=by rw[hw1];simp[World.setRow]
  exact h1
 have HB2:Hid (Below w.heap.size w w6):=qH (by rw[hw1];exact below_row HB3.out.drew nl _);have HF1:Hid (Fresh (w1.heap.size+1) w6 (fun v=>PatIn v p A1 c2')):=qH (HF2.out.fresh fun k h1 h2=>hk1 k (by omega));have a3:=keepH (g:=w.heap.size+1+1+1) (cs:=devA Dev.zero DLoc.zero) (hk1 _ (by omega)) a3.1 (by go_simp) a3.2.1;have a4:=keepH (g:=w.heap.size+1+1+1+1) (cs:=#[.func (Fn.func 51) #[] #[]]) (hk1 _ (by omega)) a4.1 (by go_simp) a4.2.1;clear hJ hw1 hk1 RD FD RP FP HP1 HB3 HF2;obtain⟨x0r,x0f,x0n,x0c,x0z,x0l⟩:=keep1 (bW w6) r3.1 (by go_simp) r3.2;clear r3;by_cases c1:e2≠0
 ·have hz:=HD2.out.trans (if_pos c1);subst hz;have KD:=qH (fun gb gd w h1 h2=>actsDone_bad e2 gb gd w c1 h1 h2);clear c1 HD2 HDX HF1;go_wp2_with fail;refine(KD.out _ _ _ (by go_simp) (by go_simp)).mono ?_;rintro e w7 ⟨rfl,hb⟩;have c3k:=kp (w.heap.size+1+1+1) (devA Dev.zero DLoc.zero) hb;have HB3:=bT HB2 hb;clear hb;go_wp2_with fail;refine bodyPost_ret (rC (devA Dev.zero DLoc.zero)) rfl ⟨DLoc.zero,rfl,.const fun v=>DevIn.zero v,?_⟩;exact below_row HB3.out (by omega) _
 have c1:=Decidable.not_not.1 c1;subst c1;have hz:=HD2.out.trans (if_neg (by decide));have hX:d.write r2 false=dX:=by have:=HDX.out;rwa [if_pos rfl]at this
 rw[hX]at hz;subst hz;have hin:∀v,DevIn v d L->PatIn v p A1 c2'->DevIn v {dX with busy:=true,job:=p,done:=0,got:=[]} {L with aj:=A1,cj:=c2',ag:=none,cg:=0}:=fun v h g=>by
  rw[<-hX];exact⟨h.k0,h.l0,h.b0,h.k1,h.l1,h.b1,nl,Nat.zero_le _,Chs.nil _ _,g,h.ir,i64_0⟩
 have HIN:=qH hin;clear hin hX HDX HD2;go_wp2_with fail;refine(actsDone_ok {dX with busy:=true,job:=p,done:=0,got:=[]} {L with aj:=A1,cj:=c2',ag:=none,cg:=0} _ _ _ (by go_simp) (by go_simp)).mono ?_;rintro e w7 ⟨rfl,hb⟩;have c3k:=kp (w.heap.size+1+1+1) (devA Dev.zero DLoc.zero) hb;have HB3:=bT HB2 hb;have HF2:Hid (Fresh (w1.heap.size+1) w7 (fun v=>PatIn v p A1 c2')):=qH (HF1.out.below hb nl);clear hb HF1;have hn2:¬(S (w.heap.size+1+1+1)∧w.heap.size+1+1+1<w.heap.size∨w1.heap.size+1<=w.heap.size+1+1+1):=by rintro (h|h)<;>omega
 have o1:On (fun k=>S k∧k<w.heap.size∨w1.heap.size+1<=k) w7 (fun v=>DevIn v d L):=(HI.out.sub (fun k h1 h2=>.inl ⟨h2,h1⟩)).below HB3.out;have o2:On (fun k=>S k∧k<w.heap.size∨w1.heap.size+1<=k) w7 (fun v=>PatIn v p A1 c2'):=(On.fresh HF2.out).sub fun k _ h=>.inr h;have HON:=qH ((o1.and o2).imp fun v ⟨h,g⟩=>HIN.out v h g);clear o1 o2 HF2 HIN;go_wp2_with fail;refine bodyPost_ret (rC (devA {dX with busy:=true,job:=p,done:=0,got:=[]} {L with aj:=A1,cj:=c2',ag:=none,cg:=0})) rfl ⟨_,rfl,?_,below_row HB3.out (by omega) _⟩;exact(HON.out.row hn2 _).sub fun k _ h=>h.elim .inl fun h=>.inr (by omega)
theorem x0n2(h:Y:=by
 unfold devWrite;rw[if_neg (by omega),if_pos h]):Y:=h
theorem x219(h:Y:=by
 have hbo:=hok.work hu hb;exact⟨hbo.does,hbo.d0,hbo.d8,(busy_len hbo).1,(busy_len hbo).2⟩):Y:=h
theorem x29x(h:Y:=by
 unfold Dev.put putU;rw[HRR.out,ha,show (1:Int)-(a:Int)=(a':Int) by omega,hgs,hdn];rfl):Y:=h
theorem x3ft(h:Y:=by
 have hq:=refDone_calls L.aj A L.cj c d.job im wq hc hil hb (HI.out.at_ (HB2.out.trans (h.mono HB2.out.size))).job;rw[hpd]at hq;exact hq):Y:=h
theorem x70e(h:Y:=by
 have hlt:dn+k<(room b').length:=by omega
 obtain⟨x,hx⟩:=eX ((room b')[dn+k]);have hps:=putU_succ (sl:=sl) hlt (by omega);rw[hx]at hps;have HPS:=qH hps;have hgx:(room b')[dn+k]?=some x:=by rw[<-hx];exact List.getElem?_eq_getElem hlt
 have HGX:=qH hgx;have hwr:IntKind.i64.wrap ((dn:Int)+(k:Int))=(dn:Int)+(k:Int):=IntWalk.i64_in _ (by omega);have hj4:(0:Int)<=(dn:Int)+(k:Int):=by omega
 have hj1:(dn:Int)+(k:Int)<64:=by omega
 have hj2:((dn:Int)+(k:Int)).toNat=dn+k:=by omega
 have hj3:¬(64:Int)<=(dn:Int)+(k:Int):=by omega
 have hoc:=HO.out.cellAt (dn+k) (by omega);have hof:=HO.out.frozenAt (dn+k);have hol:g3<wr.heap.size:=(HO.out.block g3 rfl).2;have HOC:Hid (∃u,wr.cell? ⟨g3,dn+k,none⟩=some u):=qH (by
  rw[hoc];exact⟨_,List.getElem?_eq_getElem (by rw[List.length_map,putU_len (by omega) (by omega),hsl];omega)⟩)
 have HOF:=qH hof;have HBr:=qH (HBB.out.stays HX.out);have RD:Hid (rowOf wr w.heap.size=devA d L∧frOf wr w.heap.size=(0,0)):=qH (by
  obtain⟨q1,q2,_⟩:=keep1 (g:=w.heap.size) (cs:=devA d L) HX.out RA.out.1 (by go_simp) RA.out.2;exact⟨q1,q2⟩)
 have HL1:Hid (b'.length<=64):=qH hb1;clear hx hps hgx hoc hof;go_wp2_with fail;refine wp_region_mix (by kernel_rfl) (some 193::some 194::some 195::some 196::some 197::some 198::some 199::some 200::some 201::some 202::some 203::some 204::some 205::some 206::none::[]) (none::none::none::none::none::none::some 0::none::none::none::none::some 1::some 2::none::some 3::[]) (.slice (some ⟨g3,0,none⟩) 64 c7::.pointer (some ⟨w.heap.size,36,none⟩)::iv d.done::iv (k:Int)::iv ((dn:Int)+(k:Int))::.slice A5 b'.length c5'::undef::.pointer (some ⟨w.heap.size,36,none⟩)::iv d.done::iv (k:Int)::iv ((dn:Int)+(k:Int))::undef::undef::.pointer (some ⟨g3,dn+k,none⟩)::undef::[]) 4 (wtJ wr (room b') g3 (dn+k) x) 327 rfl rfl (by decide+kernel) (by decide+kernel) (by decide+kernel) (by decide+kernel) rfl rfl (by decide+kernel) (by decide+kernel) (rfl) ?_ ?_
 ·refine⟨?_,?_,?_,?_,?_,?_,?_,?_,?_,?_,?_,?_,?_,?_,?_,trivial⟩
  ·intro done cv k1 a wq hw h hJ hn;have e1:=mO 22 (.slice (some ⟨g3,0,none⟩) 64 c7) h;exact mx_move (ch_ev e1)
  ·intro done cv k2 a wq hw h hJ hn;have e1:=mO 3 (.pointer (some ⟨w.heap.size,0,none⟩)) h;go_simp
  ·intro done cv k1 a wq hw h hJ hn;have e1:=mN 1 194 h hw;have hk_:=hn 14 _ 3 rfl rfl (by decide);have y_:=keep1 (wtJ_bel hk_ hJ) RD.out.1 (by go_simp) RD.out.2;go_simp
  ·intro done cv k2 a wq hw h hJ hn;have e1:=mO 23 (iv (k:Int)) h;exact mx_move (ch_ev e1)
  ·intro done cv k1 a wq hw h hJ hn;have e1:=mN 2 195 h hw;have e196:=mN 3 196 h hw;go_simp
  ·intro done cv k2 a wq hw h hJ hn;have e1:=mO 19 (.slice A5 b'.length c5') h;exact mx_move (ch_ev e1)
  ·intro done cv a wq hw h hJ;have e1:=mN 5 198 h hw;obtain rfl:wq=wr.drew:=hJ;refine wp_call (vals:=#[.slice A5 b'.length c5']) (by rw[List.map_toArray,List.map_cons,List.map_nil,ch_ev e1]) (enters_of Tryz.func30 (by kernel_rfl) rfl _ _) (filled_calls A5 c5' b' _ HL1.out (HBr.out.stays (Below.refl _ _).drew)) ?_;rintro e w' ⟨A3,c5,rfl,hown,hbel⟩;exact⟨_,rfl,_,rfl,A3,c5,by simp,hown.src.bts,(Below.refl _ _).drew.trans hbel⟩
  ·intro done cv k1 a wq hw h hJ hn;have e1:=mO 3 (.pointer (some ⟨w.heap.size,0,none⟩)) h;go_simp
  ·intro done cv k2 a wq hw h hJ hn;have e1:=mN 7 200 h hw;have hk_:=hn 14 _ 3 rfl rfl (by decide);have y_:=keep1 (wtJ_bel hk_ hJ) RD.out.1 (by go_simp) RD.out.2;go_simp
  ·intro done cv k1 a wq hw h hJ hn;have e1:=mO 23 (iv (k:Int)) h;exact mx_move (ch_ev e1)
  ·intro done cv k2 a wq hw h hJ hn;have e1:=mN 8 201 h hw;have e202:=mN 9 202 h hw;go_simp
  ·intro done cv a wq hw h hJ;have e1:=mx_cv (i:=6) (t:=199) h (hw 6 (by decide)) rfl rfl;have e203:=mN 10 203 h hw;obtain⟨A3,c5,y1,g1,g2⟩:=hJ;rw[y1]at e1;have hgx:=HGX.out;obtain⟨bb,oo,rfl,hll,hcc⟩:=g1 (dn+k) hlt;have hcc1:wq.cell? ⟨bb,oo+(dn+k),none⟩=some (bv x):=by
    rw[hcc];rw[List.getElem?_eq_getElem hlt]at hgx;injection hgx with hgx;rw[hgx]
   refine wp_val (v:=.pointer (some ⟨bb,oo+(dn+k),none⟩)) (by go_simp) ⟨_,rfl,bb,oo+(dn+k),by simp,hcc1,g2⟩
  ·intro done cv a wq hw h hJ;have e1:=mx_cv (i:=11) (t:=204) h (hw 11 (by decide)) rfl rfl;obtain⟨bb,oo,y1,hcc,g1⟩:=hJ;rw[y1]at e1;refine wp_val (v:=bv x) (by go_simp) ⟨_,rfl,by simp,g1⟩
  ·intro done cv k1 a wq hw h hJ hn;have e1:=mN 0 193 h hw;have e197:=mN 4 197 h hw;go_simp
  ·intro done cv a wq hw h hJ;have e1:=mN 13 206 h hw;have e205:=mx_cv (i:=12) (t:=205) h (hw 12 (by decide)) rfl rfl;obtain⟨y1,g1⟩:=hJ;rw[y1]at e205;obtain⟨u,hu⟩:=HOC.out;have hf_:wq.frozen? ⟨g3,dn+k,none⟩=false:=by
    have:=HOF.out;unfold World.frozen? at this⊢;rw[g1.block g3 hol];exact this
   refine wp_stu e1 e205 ((g1.cell (p:=⟨g3,dn+k,none⟩) hol).trans hu) hf_ ⟨undef,rfl,wq,g1,rfl⟩
 intro cv w5 hJ;obtain⟨w',hbw,rfl⟩:∃w',Below wr.heap.size wr w'∧w5=w'.setCell ⟨g3,dn+k,none⟩ (bv x):=hJ;simp only[mixAll,putAll_some,putAll_none,putAll_nil,List.getElem?_cons_zero,List.getElem?_cons_succ,Nat.zero_add,Nat.reduceAdd,List.setIfInBounds_toArray,List.set_cons_zero,List.set_cons_succ];have hst:=Own.stored (Own.below HO.out hbw) (dn+k) (bv x);rw[<-List.map_set,HPS.out]at hst;have HO2:=qH hst;have HX2:Hid (Below w3.heap.size w3 (w'.setCell ⟨g3,dn+k,none⟩ (bv x))):=qH ((HX.out.trans (hbw.mono HX.out.size)).setCell hg1 _);have hwk:IntKind.i64.wrap ((k:Int)+1)=(k:Int)+1:=IntWalk.i64_in _ (by omega);clear hst;go_wp2_with fail;go_roundw
 case rel=>exact⟨k+1,by omega,rfl,HO2,HX2⟩
 case measure=>simp[intOf]<;>omega):Y:=h
theorem x9sb(h:Y:=by
 have hbo:=hok.work hu hb;unfold devWrite;rw[if_neg (by omega),if_neg (by rw[hb];simp;omega),if_neg (by rw[hbo.does];simp)];rfl):Y:=h
theorem On.cell2{S:Nat->Prop}{w:World}{P:World->Prop}(h:On S w P){g j:Nat}(hg:¬S g)(u:Value):On S (w.setCell ⟨g,j,none⟩ u) P:=h.cell (p:=⟨g,j,none⟩) hg u
def DLoc.setS(L:DLoc)(a:Nat)(A:OA)(c:Nat):DLoc:=if a=0 then {L with a0:=A,c0:=c} else {L with a1:=A,c1:=c}
theorem devA_setS(d:Dev)(L:DLoc)(ha:a<=1){A:OA}{c n:Nat}{nb:LU}(hn:nb.length=n):(devA d L).setIfInBounds a (.slice A n c)=devA (d.setSlot (a:Int) nb) (L.setS a A c):=by
 subst hn
 match a,ha with
 |0,_=>rfl
 |1,_=>rfl
theorem DevIn.put{w:World}{d:Dev}{L:DLoc}(h:DevIn w d L)(ha:a<=1){A:OA}{c:Nat}{nb:LU}{z:Int}(hb:Bts w A nb)(hl:nb.length=64)(hc:64<=c)(hi:I64 z):DevIn w {d.setSlot (a:Int) nb with done:=z} (L.setS a A c):=by
 match a,ha with
 |0,_=>exact⟨by show nb.length<=c;omega,by show nb.length<=_;omega,hb,h.k1,h.l1,h.b1,h.kg,h.lg,h.got,h.job,h.ir,hi⟩
 |1,_=>exact⟨h.k0,h.l0,h.b0,by show nb.length<=c;omega,by show nb.length<=_;omega,hb,h.kg,h.lg,h.got,h.job,h.ir,hi⟩
theorem acts_write_bad(S:Nat->Prop)(d:Dev)(L:DLoc)(kd n f t m o:Int)(B:OA)(bl bc:Nat)(w:World)(hok:DevOk d)(hu:d.up=true)(hd:On S w (fun v=>DevIn v d L))(hin:I64 n)(hk:kd=6∨kd=11)(c1:d.busy=false∨d.job.size<=d.done):Calls Tryz.prog 19 #[.agg (devA d L),.agg #[iv kd,iv n],.agg (chkA f t m o B bl bc)] w (AcRet S w (devWrite d (decide (kd=11)) n).1 (devWrite d (decide (kd=11)) n).2):=by
 have hrec:=rec_ok hok;have hrd:devReady d=0:=by unfold devReady;rw[if_neg (by simpa using devCheck_ok.2 hok),if_neg (by rw[hu];decide)]
 have KN:=qH (fun w=>newest_calls d.c0 d.c1 w);rw[refNewest_ok hok.cops]at KN;obtain⟨rk,hrk⟩:=eX ((recRead d.c0 d.c1).2);have hre:(recRead d.c0 d.c1).1=d.rec_:=rfl;rw[hrk,hre]at KN;clear hrk hre;obtain⟨tn,htn⟩:=eX (decide (kd=11));rw[htn];have HTN:=qH htn;have hq10:(kd==(10:Int))=false:=by rcases hk with rfl|rfl<;>rfl
 have hq2:(kd==(2:Int))=false:=by rcases hk with rfl|rfl<;>rfl
 have hq5:(kd==(5:Int))=false:=by rcases hk with rfl|rfl<;>rfl
 have HK:=qH hk;have hact:=rec_active hrec;have hdef:d.busy=true->¬d.job.size<=d.done->devWrite d tn n=(if tn=true then Dev.down {d.setSlot (1-d.rec_.active) (d.put (patDo (sumOn 1) d.job (d.image d.rec_.active d.rec_)).1 (keepN tn n).toNat)with done:=d.done+keepN tn n} else {d.setSlot (1-d.rec_.active) (d.put (patDo (sumOn 1) d.job (d.image d.rec_.active d.rec_)).1 (keepN tn n).toNat)with done:=d.done+keepN tn n},0):=fun hb hs=>by
  have hbo:=hok.work hu hb;unfold devWrite;rw[if_neg (by omega),if_neg (by rw[hb];simp;omega),if_neg (by rw[hbo.does];simp)]
 have hdef1:(d.busy=false∨d.job.size<=d.done)->devWrite d tn n=(Dev.zero,5):=fun h=>by
  exact x0n2
 have hfacts:d.busy=true->(patDo (sumOn 1) d.job (d.image d.rec_.active d.rec_)).2=0∧0<=d.done∧d.done%8=0∧((patDo (sumOn 1) d.job (d.image d.rec_.active d.rec_)).1.length:Int)=d.job.size∧d.job.size<=64:=fun hb=>by
  exact x219
 have HD:=qH hdef;have HD1:=qH hdef1;have HFA:=qH hfacts;have HI:=qH hd;have K1:=qH (fun v (hb:Below w.heap.size w v)=>imageOf_calls d L v (hd.at_ hb) hok.l0 hok.l1 hok.cops);have hil:(d.image d.rec_.active d.rec_).length<=140737488351232:=by unfold Dev.image;rw[List.length_take];have:=slot_len hok.l0 hok.l1 d.rec_.active;omega
 have hl2:=hok.l0;have hl1:=hok.l1;generalize devWrite d tn n=res at *
 clear hrec hrd hok hdef hdef1 hfacts hd hk htn;generalize hrr:d.rec_=r at *
 have HRR:=qH hrr;clear hrr;go_enter Tryz.func19,Tryz.ntmps19;go_wp2_with fail;refine(KN.out _).mono ?_;rintro e w1 ⟨rfl,hb⟩;have a2:=kp (w.heap.size) (devA d L) hb;have a1:=kp (w.heap.size+1) (#[iv kd,iv n]) hb;have a3:=kp (w.heap.size+1+1+1) (devA Dev.zero DLoc.zero) hb;have a4:=kp (w.heap.size+1+1+1+1) (#[.func (Fn.func 51) #[] #[]]) hb;have HB1:Hid (Below w.heap.size w w1):=qH (((((((bW w).alloc nl (.cells (devA d L) 37)).alloc (by simp) (.cells #[iv kd,iv n] 55)).alloc (by simp;omega) (.cells (chkA f t m o B bl bc) 39)).alloc (by simp;omega) (.cells (devA Dev.zero DLoc.zero) 37)).alloc (by simp;omega) _).trans (hb.mono (by simp;omega)));clear hb;go_upto_region 7 with fail
 obtain⟨w2,hw1⟩:=eX (w1.alloc (.cells (recA r) 28));have hb:Below w1.heap.size w1 w2:=by rw[<-hw1];exact bL _
 have hrr:rowOf w2 w1.heap.size=recA r∧frOf w2 w1.heap.size=(0,0):=by rw[<-hw1];exact⟨by rw[rowOf_alloc,if_pos rfl],by rw[frOf_alloc,if_pos rfl]⟩
 have a2:=keep1 (g:=w.heap.size) (cs:=devA d L) hb a2.1 (by first|(go_simp;done)|simp[recA]) a2.2.1;have a1:=keep1 (g:=w.heap.size+1) (cs:=#[iv kd,iv n]) hb a1.1 (by first|(go_simp;done)|simp[recA]) a1.2.1;have a3:=keep1 (g:=w.heap.size+1+1+1) (cs:=devA Dev.zero DLoc.zero) hb a3.1 (by first|(go_simp;done)|simp[recA]) a3.2.1;have a4:=keep1 (g:=w.heap.size+1+1+1+1) (cs:=#[.func (Fn.func 51) #[] #[]]) hb a4.1 (by first|(go_simp;done)|simp[recA]) a4.2.1;have r1:=keep1 (bW w2) hrr.1 (by simp[recA]) hrr.2;have HB2:=bT HB1 hb;have hs1:w.heap.size+5<=w1.heap.size:=by omega
 have hs2:w1.heap.size<w2.heap.size:=r1.2.2.2.2.2;rw[hw1];clear hw1 hb hrr HB1;go_upto_if 148 with fail
 go_cut [148] (fun v wx=>v=.bool true∧w2=wx)
 case first=>
  rcases HK.out with e|e
  ·have q1:(kd==(6:Int))=true:=by rw[e];rfl
   clear e;go_wp2_with fail;go_meet
   case rel=>exact⟨by rw[q1],rfl⟩
  have q1:(kd==(6:Int))=false:=by rw[e];rfl
  have q2:(kd==(11:Int))=true:=by rw[e];rfl
  clear e;exact x3dq
 case rest=>
 obtain⟨rfl,rfl⟩:=hcut;have hz:=HD1.out c1;subst hz;clear HD HD1 HFA K1 KN hact
 cases c2:d.busy
 case false=>
  go_wp2_with fail;refine(actsBad_calls 5 _).mono ?_;rintro e wz ⟨rfl,hb⟩;have z1:=kp (w.heap.size+1+1+1) (devA Dev.zero DLoc.zero) hb;have HBZ:=bU HB2 hb;exact x8hz
 case true=>
  have q:d.job.size<=d.done:=c1.resolve_left (by rw[c2];decide);clear c1;go_wp2_with fail;refine(actsBad_calls 5 _).mono ?_;rintro e wz ⟨rfl,hb⟩;have z1:=kp (w.heap.size+1+1+1) (devA Dev.zero DLoc.zero) hb;have HBZ:=bU HB2 hb;exact x8hz
end Go.Proofs.YtefkfglkpebbmacGreat
