/- Walks of functions, and plain words. No conditions. -/
import Derived.Test.YtefkfglkpebbmaaGreatPE3
import Derived.Test.YtefkfglkpebbmaaGreatP9
import Derived.Test.YtefkfglkpebbmaaGreatP11
set_option linter.unusedVariables false
set_option linter.unusedSimpArgs false
set_option maxRecDepth 100000
set_option maxHeartbeats 40000000
namespace Go.Proofs.YtefkfglkpebbmaaGreat
open Go.RowKit
variable {Y:Prop}
variable {a:Act} {w:World} {K:Act->World->Prop} {Q:Exit->Act->World->Prop} {t:TypeId} {p:String} {af:Array Edge} {gd:Option (Nat×Bool)} {x:Tmp} {g j:Nat} {cs:Array Value}
theorem x30o(h:Y:=by
 go_wp2_with fail;generalize w3.alloc (.cells (patA p.from_ p.to_ p.old p.new_ p.size A2 p.ops.length c5) 36)=w6 at *
 generalize w3.heap.size=g9 at *
 obtain⟨z1,z2,z3,z4,z5⟩:=blkFacts HG1.out (by simp[patA]);go_quiet (fail)
 go_wp2_with fail;refine bodyPost_ret (rC (patA 0 0 0 0 0 none 0 0)) rfl ?_;rw[HZ.out];exact⟨none,0,rfl,.const fun v=>patIn_zero v,below_row (Below.drewN' HB4.out _) (by omega) _⟩):Y:=h
theorem lined_of:∀(l:List Chk) (q:Chk),Lined (some q) l->q.n<q.of_->(l.length:Int)<=q.of_-1-q.n
 |[],q,_,h=>by simp only[List.length_nil];omega
 |c::l,q,h,hq=>by
  unfold Lined at h;have h1:=(chkCheck_ok.1 h.1).1;unfold Chk.range at h1;obtain⟨hk,hn⟩:=h.2.1 q rfl;unfold kin at hk;have ih:=lined_of l c h.2.2 (by omega);simp only[List.length_cons];omega
theorem chkList_of{x:Chk}{t:List Chk}(h:chkList (x::t)=0):((x::t).length:Int)<=x.of_:=by
 unfold chkList at h;rw[listGo_ok]at h;unfold Lined at h;have h1:=(chkCheck_ok.1 h.1).1;unfold Chk.range at h1;have:=lined_of t x h.2.2 (by omega);simp only[List.length_cons];omega
theorem patRead_bad{b:LU}(h:(patRead b).2≠0):(patRead b).1=Pat.zero:=by
 unfold patRead at h⊢;by_cases h1:400<b.length
 ·rw[if_pos h1]
 rw[if_neg h1]at h⊢;by_cases h2:b.length<8
 ·rw[if_pos h2]
 rw[if_neg h2]at h⊢;unfold readDone at h⊢;split at h
 ·rename_i h3;rw[if_pos h3]
 rename_i h3;rw[if_neg h3];split at h
 ·rename_i h4;rw[if_pos h4]
 rename_i h4;rw[if_neg h4];split at h
 ·rename_i h5;rw[if_pos h5]
 exact absurd rfl h
theorem refJoined_calls(A:OA)(c:Nat)(l:List Chk)(w:World)(hl:l.length<=2513169434843)(hs:Chs w A l):
  Calls Tryz.prog 74 #[.slice A l.length c] w (PaRet w (chkJoin l).1 (chkJoin l).2):=by
 have HS:=qH hs;have K1:=qH (fun w h=>refChkList_calls A c l w hl h);have hba:=(bW w).alloc nl (.cells (patA 0 0 0 0 0 none 0 0) 36);have HBA:=qH hba;clear hs hba;obtain⟨r,hr⟩:=eX (chkJoin l);rw[hr];have HR:=qH hr;clear hr;by_cases he1:chkList l≠0
 ·have hz:r=(Pat.zero,chkList l):=by rw[<-HR.out,chkJoin_list he1]
  have HZ:=qH hz;have q:(chkList l !=0)=true:=by simp[he1]
  have q':(chkList l==0)=false:=by simp[he1]
  generalize chkList l=e1 at *
  clear he1 hz;go_enter Tryz.func74,Tryz.ntmps74;exact x9n1
 have he1:=Decidable.not_not.1 he1;rw[he1]at K1;have hll:=chkList_len he1;have hdl:=dataOf_le l (fun x hx=>by
  exact x5jz)
 have HE1:=qH he1;clear he1;rcases Nat.eq_zero_or_pos l.length with hl0|hlp
 ·have hz:r=(Pat.zero,5):=by rw[<-HR.out,List.eq_nil_of_length_eq_zero hl0,chkJoin_nil]
  have HZ:=qH hz;have q:((l.length:Int)==0)=true:=by simp[hl0]
  clear hz hl0;go_enter Tryz.func74,Tryz.ntmps74;exact x9n1
 obtain⟨g,o,B1,d1,rfl,hgl,hat1,-⟩:=HS.out.chk (i:=0) hlp;rw[Nat.zero_mul,Nat.add_zero]at hat1;obtain⟨x,t,hxt⟩:∃x t,l=x::t:=by
  rcases l with _|⟨x,t⟩
  ·simp at hlp
  exact⟨x,t,rfl⟩
 have hx1:l[0]=x:=by subst hxt;rfl
 rw[hx1]at hat1;have HAT:=qH hat1;have HXT:=qH hxt;have q5:((l.length:Int)==0)=false:=beq_eq_false_iff_ne.2 (by omega);have nb3:¬l.length=0:=by omega
 have nb1:¬l=[]:=by rw[hxt];simp
 have nb2:¬(l.length:Int)<=0:=by omega
 clear hat1 hx1 hxt;by_cases hfew:(l.length:Int)<x.of_
 ·have hz:r=(Pat.zero,5):=by
   exact x2tq
  have HZ:=qH hz;have q1:((l.length:Int) !=x.of_)=true:=by simp;omega
  clear hz;go_enter Tryz.func74,Tryz.ntmps74;go_wp2_with fail;refine(K1.out _ (HS.out.stays HBA.out)).mono ?_;rintro e w1 ⟨rfl,hb1⟩;obtain⟨a0r,a0f,a0n,a0c,a0z,a0l⟩:=kp (w.heap.size) (patA 0 0 0 0 0 none 0 0) hb1;have HB1:=bT HBA hb1;obtain⟨c5,c1,c2,c3,c4⟩:=HAT.out.stays hgl HB1.out;clear hb1;exact x0v8
 have hfw:¬(l.length:Int)<x.of_:=hfew;have hle:(l.length:Int)<=x.of_:=by
  have h1:=HE1.out;rw[HXT.out]at h1⊢;exact chkList_of h1
 have q4:((l.length:Int) !=x.of_)=false:=by simp;omega
 obtain⟨u,eu,hu⟩:∃u eu,unpacked (dataOf l) 400=(u,eu):=⟨_,_,rfl⟩;have hz:(eu≠0->r=(Pat.zero,eu))∧(eu=0->r=joinDone l (patRead u) x):=by
  exact x0hm
 have HZ1:=qH hz;have HU:=qH hu;clear hz hu hfew;go_enter Tryz.func74,Tryz.ntmps74;go_wp2_with fail;refine(K1.out _ (HS.out.stays HBA.out)).mono ?_;rintro e w1 ⟨rfl,hb1⟩;obtain⟨a0r,a0f,a0n,a0c,a0z,a0l⟩:=kp (w.heap.size) (patA 0 0 0 0 0 none 0 0) hb1;have HB1:=bT HBA hb1;have HRF1:=qH (And.intro a0r a0f);have HLT1:Hid (w.heap.size<w1.heap.size):=qH a0l;have hs1:=HB1.out.size;obtain⟨c6,c1,c2,c3,c4⟩:=HAT.out.stays hgl HB1.out;clear hb1;go_wp2_with fail;clear c6 c1 c2 c3 c4 a0r a0f a0n a0c a0z;go_loopw [5,33] (fun v i wr=>∃(k:Nat) (C:OA) (cc:Nat) (b:LU),k<=l.length∧i=iv k∧v=.slice C b.length cc∧Hid (b=dataOf (l.take k))∧b.length<=16*k∧Hid (Own wr w1.heap.size 5 1 C b.length cc (b.map bv))∧Hid (Below w1.heap.size w1 wr)) (fun _ i _=>l.length-(intOf i).toNat)
 case atStart=>exact⟨0,none,0,[],Nat.zero_le _,rfl,rfl,qH (by simp[dataOf]),by simp,qH (Own.nil_ _ _ _ _),qH (Below.refl _ _)⟩
 case round=>
  rename World=>wr;obtain⟨k,C,cc,b,hk,rfl,rfl,HBK,hbl,HO,HBR⟩:=hrel;have hsr:=HBR.out.size;have HBW:Hid (Below w.heap.size w wr):=qH (HB1.out.trans (HBR.out.mono hs1));by_cases hlt:k<l.length
  ·obtain⟨g',o',D,d,e,_,hat,hin⟩:=(HS.out.stays HBW.out).chk hlt;injection e with e;injection e with e1 e2;subst e1 e2;have hsn:dataOf (l.take (k+1))=b++l[k].data:=by rw[List.take_succ_eq_append_getElem hlt,dataOf_snoc,<-HBK.out]
   have hyl:l[k].data.length<=16:=by
    exact x4px
   obtain⟨y,hy⟩:=eX (l[k]);rw[hy]at hat hin hsn hyl;have HSN:=qH hsn;obtain⟨c5,c1,c2,c3,c4⟩:=hat;have dl:decide ((k:Int)<(l.length:Int))=true:=decide_eq_true (by omega);have hwk:IntKind.i64.wrap ((k:Int)+1)=(k:Int)+1:=IntWalk.i64_in _ (by omega);have hoa:=HO.out.alloc (.cells (chkA y.from_ y.to_ y.n y.of_ D y.data.length d) 61);have hsd:=(hin.data.stays ((bW wr).alloc nl (.cells (chkA y.from_ y.to_ y.n y.of_ D y.data.length d) 61))).src;have hob:b.length+y.data.length<=137438953472:=by omega
   have hle:w1.heap.size<=(wr.alloc (.cells (chkA y.from_ y.to_ y.n y.of_ D y.data.length d) 61)).heap.size:=by simp;omega
   clear hy hin hsn;go_wp2_with (at_builtin;go_must (refine wpList_app (wr.alloc (.cells (chkA y.from_ y.to_ y.n y.of_ D y.data.length d) 61)) rfl _ _ 23 rfl elBytes w1.heap.size C b.length cc (b.map bv) rfl hoa D y.data.length d (y.data.map bv) rfl hsd (by simp) (bv_one _) hob hle ?_;intro C1 cc1 w3 hown hgr hbel hor));have HL:Hid (b.length+y.data.length=(b++y.data).length):=qH (by simp);have HO1:Hid (Own w3 w1.heap.size 5 1 C1 (b++y.data).length cc1 ((b++y.data).map bv)):=qH (by rw[List.map_append,<-HL.out];exact hown);have HB2:Hid (Below w1.heap.size w1 w3):=qH ((HBR.out.alloc hsr _).trans hbel);clear hown hgr hbel hor hoa hsd hob hle;go_roundw
   case rel=>exact⟨k+1,C1,cc1,b++y.data,by omega,by go_num,by rw[HL.out],qH HSN.out.symm,by simp;omega,HO1,HB2⟩
   case measure=>simp[intOf];omega
  obtain rfl:k=l.length:=by omega
  have dl:decide ((l.length:Int)<(l.length:Int))=false:=by simp
  have hbd:b=dataOf l:=by rw[HBK.out,List.take_length]
  have hbt:=HO.out.src.bts;have hbc:=HO.out.le;obtain⟨b0r,b0f,b0n,b0c,b0z,b0l⟩:=keep1 (g:=w.heap.size) (cs:=patA 0 0 0 0 0 none 0 0) HBR.out HRF1.out.1 (by go_simp) HRF1.out.2;have a0l0:w.heap.size<w1.heap.size:=HLT1.out;have K2:=qH (refUnpack_calls C cc b 400 wr hbc (by omega) ⟨by decide,by decide⟩ hbt);rw[hbd,HU.out,<-hbd]at K2;clear hbd hbt;go_wp2_with fail;refine K2.out.mono ?_;rintro e w2 ⟨A1,c4,rfl,ho1,hb1⟩;obtain⟨a0r,a0f,a0n,a0c,a0z,a0l'⟩:=keep1 (g:=w.heap.size) (cs:=patA 0 0 0 0 0 none 0 0) hb1 b0r (by go_simp) b0f;have HB2:=bT HBW hb1;have hbt1:=ho1.src.bts;have hbc1:=ho1.le;have HT1:=qH hbt1;have HO1:Hid (wr.heap.size<=w2.heap.size∧∀k,A1.map (·.block)=some k->wr.heap.size<=k):=qH ⟨hb1.size,fun k e=>(ho1.block k e).1⟩;have hn1:w.heap.size<w2.heap.size:=a0l';clear hb1 ho1 hbt1 b0r b0f b0n b0c b0z b0l;by_cases heu:eu≠0
  ·have q1:(eu !=0)=true:=by simp[heu]
   have HZ:=qH (HZ1.out.1 heu);clear heu;go_wp2_with fail;refine bodyPost_ret (rC (patA 0 0 0 0 0 none 0 0)) rfl ?_;rw[HZ.out];exact x2eg
  have heu:=Decidable.not_not.1 heu;have hz:=HZ1.out.2 heu;subst heu;obtain⟨p,ep,hp⟩:∃p ep,patRead u=(p,ep):=⟨_,_,rfl⟩;rw[hp]at hz;have K3:=qH (refPatReadS_calls A1 c4 u w2 hbc1 HT1.out);rw[hp]at K3;dsimp only at K3;have HZJ:=qH hz;have HPZ:Hid (ep≠0->p=Pat.zero):=qH (fun e=>by have:=patRead_bad (b:=u) (by rw[hp];exact e);rwa [hp]at this);clear hz hp;go_wp2_with fail;refine K3.out.mono ?_;rintro e w3 ⟨A2,c5,rfl,-,hb1,hpx⟩;have hf1:Fresh wr.heap.size w3 (fun v=>PatIn v p A2 c5):=fun v hv=>hpx v (fun k hk hlt=>hv k (by
   rcases hk with h|h
   ·have:=HO1.out.1;omega
   exact(HO1.out.2 k h)) hlt)
  clear hpx;obtain⟨b0r,b0f,b0n,b0c,b0z,b0l⟩:=keep1 (g:=w.heap.size) (cs:=patA 0 0 0 0 0 none 0 0) hb1 a0r (by go_simp) a0f;have HB3:=bT HB2 hb1;have HF1:=qH hf1;have hs2:=HB2.out.size;have hsw:w.heap.size<wr.heap.size:=by have:=HBR.out.size;have:=a0l0;omega
  have hs3:=hb1.size;clear hb1 hf1 a0r a0f a0n a0c a0z a0l';have hba1:=(bW w3).alloc nl (.cells (patA p.from_ p.to_ p.old p.new_ p.size A2 p.ops.length c5) 36);have HB4:=bT HB3 hba1;have HF2:=qH (HF1.out.below hba1 nl);have HG1:Hid ((w3.alloc (.cells (patA p.from_ p.to_ p.old p.new_ p.size A2 p.ops.length c5) 36)).heap[w3.heap.size]?=some (.cells (patA p.from_ p.to_ p.old p.new_ p.size A2 p.ops.length c5) 36 (0,0))):=qH (blk_top rfl);obtain⟨a0r,a0f,a0n,a0c,a0z,a0l'⟩:=keep1 (g:=w.heap.size) (cs:=patA 0 0 0 0 0 none 0 0) hba1 b0r (by go_simp) b0f;have hs4:=hba1.size;have hn2:w.heap.size<w3.heap.size:=b0l;have HB0R:Hid (rowOf w3 w.heap.size=patA 0 0 0 0 0 none 0 0):=qH b0r;clear hba1 b0r b0f b0n b0c b0z b0l;by_cases hep:ep≠0
  ·have hz:r=(Pat.zero,ep):=by rw[HZJ.out,HPZ.out hep];unfold joinDone;rw[if_neg (fun h=>hep h.1)]
   have HZ:=qH hz;have q1:(ep !=0)=true:=by simp[hep]
   have ng1:¬w.heap.size=w3.heap.size:=by omega
   have b0r:=HB0R.out;clear hep hz;go_wp2_with fail;refine bodyPost_ret (rC (patA 0 0 0 0 0 none 0 0)) rfl ?_;rw[HZ.out];refine⟨none,0,rfl,.const fun v=>patIn_zero v,?_⟩;repeat (first|exact HB4.out|exact HB3.out|refine bR ?_ _|refine Below.alloc ?_ (by first|omega|(simp[World.setRow]<;>omega)) _)
  have hep:=Decidable.not_not.1 hep;subst hep;obtain⟨c6,c1,c2,c3,c4'⟩:=HAT.out.stays hgl HB4.out;by_cases hf:p.from_=x.from_
  ·have q1:(p.from_ !=x.from_)=false:=by simp[hf]
   by_cases ht:p.to_=x.to_
   ·have hz:r=(p,0):=by rw[HZJ.out];unfold joinDone;rw[if_neg (fun h=>by rcases h.2 with h|h;exact h hf;exact h ht)]
    have HZ:=qH hz;have q2:(p.to_ !=x.to_)=false:=by simp[ht]
    clear hz hf ht;go_wp2_with fail;generalize w3.alloc (.cells (patA p.from_ p.to_ p.old p.new_ p.size A2 p.ops.length c5) 36)=w6 at *
    generalize w3.heap.size=g9 at *
    obtain⟨z1,z2,z3,z4,z5⟩:=blkFacts HG1.out (by simp[patA]);go_quiet (fail)
    have ng:¬g9=w.heap.size:=by omega
    have ng1:¬w.heap.size=g9:=by omega
    go_wp2_with fail;refine bodyPost_ret (rC (patA p.from_ p.to_ p.old p.new_ p.size A2 p.ops.length c5)) rfl ?_;rw[HZ.out];exact⟨A2,c5,rfl,((HF2.out.drewN _).row (by omega) _).mono (by omega),below_row (Below.drewN' HB4.out _) nl _⟩
   have hz:r=(Pat.zero,3):=by rw[HZJ.out];unfold joinDone;rw[if_pos ⟨rfl,.inr ht⟩]
   have HZ:=qH hz;have q2:(p.to_ !=x.to_)=true:=by simp[ht]
   clear hz hf ht;exact x30o
  have hz:r=(Pat.zero,3):=by rw[HZJ.out];unfold joinDone;rw[if_pos ⟨rfl,.inl hf⟩]
  have HZ:=qH hz;have q1:(p.from_ !=x.from_)=true:=by simp[hf]
  clear hz hf;exact x30o
theorem refPatCheck_calls(A:OA)(c:Nat)(f t o n sz:Int)(l:List Stp)(w:World)(hl:l.length<=3518437208780)(hs:Sps w A l):
  Calls Tryz.prog 63 #[.agg (patA f t o n sz A l.length c)] w (RetB w (iv (patCheck ⟨f,t,o,n,sz,l⟩))):=refPatCheckA_calls A c f t o n sz l w hl hs
theorem refApplied_bad(A:OA)(c:Nat)(old:LU)(B:OA)(d:Nat)(l:List Stp)(size:Int)(w:World)(ho:old.length<=140737488351232)(hl:l.length<=3518437208780)(hr:Sps w B l)(h:deltaCheck l old.length size≠0):
  Calls Tryz.prog 102 #[.slice A old.length c,.slice B l.length d,iv size] w (RetB w (.tuple #[.slice none 0 0,iv (deltaCheck l old.length size)])):=by
 have hb:(deltaCheck l old.length size !=0)=true:=by simp[h]
 clear h;go_enter Tryz.func102,Tryz.ntmps102;go_wp2_with fail;refine(refCheck_calls B d l old.length size w hl hr).mono ?_;rintro e w1 ⟨rfl,hb1⟩;go_wp2_with fail;go_ret2;exact⟨rfl,hb1⟩
theorem refApplied_ok(A:OA)(c:Nat)(old:LU)(B:OA)(d:Nat)(l:List Stp)(size:Int)(w:World)(hc:old.length<=c)(hA:Bts w A old)(hl:l.length<=3518437208780)(hr:Sps w B l)(h:deltaCheck l old.length size=0):
  Calls Tryz.prog 102 #[.slice A old.length c,.slice B l.length d,iv size] w (ByRet2 w (applied old l) 0):=by
 have hd:=deltaCheck_ok.1 h;have hcc:=refCheck_calls B d l old.length size w hl hr;rw[h]at hcc;have HC:=qH hcc;have HD:=qH hd;have HOLD:=qH hA;have HSP:=qH hr;have ho1:=hd.o1;have hm:=hd.many;clear hcc h hd hA hr;go_enter Tryz.func102,Tryz.ntmps102;go_wp2_with fail;refine HC.out.mono ?_;rintro e w1 ⟨rfl,hb1⟩;have HB1:=qH hb1;have HO1:Hid (Own w1 w.heap.size 5 1 none 0 0 (([]:List UInt8).map bv)):=qH (Own.nil_ _ _ _ _);clear hb1 HC;go_wp2_with fail;generalize hbase:w.heap.size=base at *
 have HBE:=qH hbase;clear hbase;go_loopw [9,23] (fun v i wr=>∃(k:Nat) (C:OA) (cc:Nat) (pre:LU),k<=l.length∧i=.int .i64 k∧v=.slice C pre.length cc∧Hid (pre=applied old (l.take k))∧Hid (Own wr base 5 1 C pre.length cc (pre.map bv))∧Hid (Below base w wr)) (fun _ i _=>l.length-(intOf i).toNat)
 case atStart=>exact⟨0,none,0,[],Nat.zero_le _,rfl,rfl,qH rfl,HO1,HB1⟩
 case round=>
  clear HO1 HB1;rename World=>wo;obtain⟨k,C,cc,pre,hk,rfl,rfl,HPRE,HO,HB⟩:=hrel;by_cases hlt:k<l.length
  ·have hxo:=HD.out.each l[k] (List.getElem_mem hlt);have hsum:(applied old (l.take (k+1))).length<=64:=by
    have h1:=(HD.out.take (k+1)).2.2.2;have h2:=applied_len (old:=old) (l:=l.take (k+1)) (fun o ho=>(HD.out.each o (List.mem_of_mem_take ho)).2);have h3:=HD.out.s1;omega
   obtain⟨sb,so,D,dc,rfl,hsb,p6,p1,p2,p3,p4,p5,-,-⟩:=(HSP.out.stays (HBE.out▸HB.out)).at_ hlt;have hnext:applied old (l.take (k+1))=pre++l[k].piece old:=by rw[List.take_succ_eq_append_getElem hlt,applied_append,applied_one,<-HPRE.out]
   rw[hnext]at hsum;obtain⟨x,hx⟩:∃x,l[k]=x:=⟨_,rfl⟩;rw[hx]at hxo hnext hsum p6 p1 p2 p3 p4 p5;clear hx;obtain⟨at_,len,data⟩:=x;obtain⟨hform,hin⟩:=hxo;unfold Stp.in_ at hin;dsimp only at *
   obtain⟨j1,j2,j3⟩:=hin;obtain⟨a,rfl⟩:=Int.eq_ofNat_of_zero_le j2;obtain⟨n,rfl⟩:=Int.eq_ofNat_of_zero_le j1;have hpiece:(⟨(a:Int),(n:Int),data⟩:Stp).piece old=(old.drop a).take n++data:=rfl;rw[hpiece]at hnext hsum;have hone:pre++data++(old.drop a).take n=pre++((old.drop a).take n++data):=by
    by_cases e:n=0
    ·subst e;simp
    have:=hform.2 (by simp;omega);simp at this;rw[this];simp
   rw[<-hone]at hnext hsum;have hnl:((old.drop a).take n).length=n:=by simp;omega
   have hsum1:pre.length+data.length+n<=64:=by rw[List.length_append,List.length_append,hnl]at hsum;exact hsum
   have HNX:=qH hnext;clear hnext hsum hform hone hpiece;have dl:decide ((k:Int)<(l.length:Int))=true:=decide_eq_true (by omega);have hsw:base<=wo.heap.size:=Nat.le_trans (Nat.le_of_eq HBE.out.symm) HB.out.size;have hba:Below wo.heap.size wo (wo.alloc (.cells #[iv (a:Int),iv (n:Int),.slice D data.length dc] 143)):=(Below.refl _ _).alloc (Nat.le_refl _) _;have hoa:=HO.out.alloc (.cells #[iv (a:Int),iv (n:Int),.slice D data.length dc] 143);have hs1:=(p5.stays hba).src;have hl1:(data.map bv).length=data.length*1:=by simp
   have hob:pre.length+data.length<=137438953472:=by omega
   have hle:base<=(wo.alloc (.cells #[iv (a:Int),iv (n:Int),.slice D data.length dc] 143)).heap.size:=by simp;omega
   have hgC:∀q,C.map (·.block)=some q->q<wo.heap.size:=fun q e=>(HO.out.block q e).2;have hg1:(wo.alloc (.cells #[iv (a:Int),iv (n:Int),.slice D data.length dc] 143)).heap[wo.heap.size]?=some (.cells #[iv (a:Int),iv (n:Int),.slice D data.length dc] 143 (0,0)):=blk_top rfl;go_wp2_with (at_builtin;go_must (refine wpList_app (wo.alloc (.cells #[iv (a:Int),iv (n:Int),.slice D data.length dc] 143)) rfl _ _ 23 rfl elBytes base C pre.length cc (pre.map bv) rfl hoa D data.length dc (data.map bv) rfl hs1 hl1 (bv_one _) hob hle ?_;intro C1 c1 w2 hown hgr hbel hor);(have hg2:=(hgr.block wo.heap.size (by simp) (fun e=>by have:=hgC _ e.symm;omega)).trans hg1);(have q1:w2.cell? ⟨wo.heap.size,1,none⟩=some (iv (n:Int)):=by rw[cell_of_row _ _ _ _ _ _ hg2];rfl));have HG1:=qH hg2;have HB1:Hid (Below base w w2):=qH ((HB.out.trans (hba.mono hsw)).trans hbel);have HO2:Hid (Own w2 base 5 1 C1 (pre++data).length c1 ((pre++data).map bv)):=qH (by simpa using hown);have HC1:Hid (∀q,C1.map (·.block)=some q->q≠wo.heap.size):=qH (fun q e=>by
    rcases hor with h|h
    ·rw[h]at e;have:=hgC q e;omega
    rw[h]at e;injection e with e;simp at e;omega)
   clear hown hgr hbel hor hs1 hl1 hob hle hgC hg1 hg2 hoa hba p6 p1 p2 p3 p4 p5;generalize hg:wo.heap.size=g at *
   have HGO:Hid (wo.heap.size=g):=qH hg;clear hg;have e1:(pre++data).length=pre.length+data.length:=by simp
   go_loopw [9,33] (fun v i wr=>∃(j:Nat) (C:OA) (cc:Nat) (o1:LU),j<=n∧i=.int .i64 (j:Int)∧v=.slice C o1.length cc∧Hid (o1=pre++data++(old.drop a).take j)∧Hid (o1.length=pre.length+data.length+j)∧Hid (Own wr base 5 1 C o1.length cc (o1.map bv))∧Hid (∀q,C.map (·.block)=some q->q≠g)∧Hid (wr.heap[g]?=some (.cells #[iv (a:Int),iv (n:Int),.slice D data.length dc] 143 (0,0)))∧Hid (Below base w wr)) (fun _ i _=>n-(intOf i).toNat)
   case atStart=>exact⟨0,C1,c1,pre++data,Nat.zero_le _,rfl,by rw[e1],qH (by simp),qH (by simp),HO2,HC1,HG1,HB1⟩
   case round=>
    clear HO2 HC1 HG1 HB1 q1;rename World=>wi;obtain⟨j,C2,c2,o1,hj,rfl,rfl,HO1,HO1L,HOW,HCG,HG,HB1⟩:=hrel;have ho1l:o1.length<=64:=by have:=HO1L.out;omega
    by_cases hjn:j<n
    ·have haj:a+j<old.length:=by omega
     obtain⟨ab,ao,rfl,hab,hxc⟩:=(HOLD.out.stays (HBE.out▸HB1.out)) (a+j) haj;have HO1':Hid (o1++[old[a+j]]=pre++data++(old.drop a).take (j+1)):=qH (by
      have hjl:j<(old.drop a).length:=by simp;omega
      rw[List.take_succ_eq_append_getElem hjl,HO1.out];simp)
     have q1:wi.cell? ⟨g,0,none⟩=some (iv (a:Int)):=by rw[cell_of_row _ _ _ _ _ _ HG.out];rfl
     have dl:decide ((j:Int)<(n:Int))=true:=decide_eq_true (by omega);have hw1:IntKind.i64.wrap ((a:Int)+(j:Int))=(a:Int)+(j:Int):=IntWalk.i64_in _ (by omega);have hw2:IntKind.i64.wrap ((j:Int)+1)=(j:Int)+1:=IntWalk.i64_in _ (by omega);have hsi:base<=wi.heap.size:=Nat.le_trans (Nat.le_of_eq HBE.out.symm) HB1.out.size;have hoa:=HOW.out.alloc (.cells #[bv old[a+j]] 5);have hs1:Src (wi.alloc (.cells #[bv old[a+j]] 5)) (some ⟨wi.heap.size,0,none⟩) [bv old[a+j]]:=src_blk (blk_top rfl);have hob:o1.length+1<=137438953472:=by omega
     have hle:base<=(wi.alloc (.cells #[bv old[a+j]] 5)).heap.size:=by simp;omega
     go_wp2_with (at_builtin;go_must (refine wpList_app (wi.alloc (.cells #[bv old[a+j]] 5)) rfl _ _ 23 rfl elBytes base C2 o1.length c2 (o1.map bv) rfl hoa (some ⟨wi.heap.size,0,none⟩) 1 1 [bv old[a+j]] rfl hs1 rfl (by simp[Value.oneCell']) hob hle ?_;intro C3 c3 w3 hown hgr hbel hor));have hgl:g<wi.heap.size:=blk_lt HG.out;have HG1:Hid (w3.heap[g]?=some (.cells #[iv (a:Int),iv (n:Int),.slice D data.length dc] 143 (0,0))):=qH ((hgr.block g (by simp;omega) (fun e=>HCG.out g e.symm rfl)).trans ((Below.heap_alloc wi _ g hgl).trans HG.out));have HB2:Hid (Below base w w3):=qH ((HB1.out.alloc hsi _).trans hbel);have HO2:Hid (Own w3 base 5 1 C3 (o1++[old[a+j]]).length c3 ((o1++[old[a+j]]).map bv)):=qH (by simpa using hown);have HC1:Hid (∀q,C3.map (·.block)=some q->q≠g):=qH (fun q e=>by
      rcases hor with h|h
      ·rw[h]at e;exact HCG.out q e
      rw[h]at e;injection e with e;simp at e;omega)
     have HL1:Hid (o1.length+1=(o1++[old[a+j]]).length):=qH (by simp);clear hown hgr hbel hor hs1 hob hle hoa q1 hxc;go_roundw
     case rel=>exact⟨j+1,C3,c3,o1++[old[a+j]],by omega,by go_num,by rw[HL1.out],HO1',qH (by rw[<-HL1.out,HO1L.out];omega),HO2,HC1,HG1,HB2⟩
     case measure=>simp[intOf];omega
    obtain rfl:j=n:=by omega
    have dl:decide ((j:Int)<(j:Int))=false:=by simp
    have hwk:IntKind.i64.wrap ((k:Int)+1)=(k:Int)+1:=IntWalk.i64_in _ (by omega);go_wp2_with fail;go_roundw
    case rel=>exact⟨k+1,C2,c2,o1,by omega,by go_num,rfl,qH (by rw[HNX.out,HO1.out]),HOW,HB1⟩
    case measure=>simp[intOf];omega
  obtain rfl:k=l.length:=by omega
  have dl:decide ((l.length:Int)<(l.length:Int))=false:=by simp
  have hpre:pre=applied old l:=by rw[HPRE.out,List.take_length]
  have HP:=qH hpre;clear hpre HPRE;go_wp2_with fail;go_ret2;exact⟨C,cc,by rw[<-HP.out];rfl,by rw[<-HP.out];exact HO.out.src.bts,by rw[<-HP.out];exact HO.out.le,HBE.out▸HB.out⟩
theorem refApplyAny_calls(A:OA)(c:Nat)(old:LU)(B:OA)(d:Nat)(l:List Stp)(size:Int)(w:World)(hc:old.length<=c)(ho:old.length<=140737488351232)(hA:Bts w A old)(hl:l.length<=3518437208780)(hr:Sps w B l):
  Calls Tryz.prog 102 #[.slice A old.length c,.slice B l.length d,iv size] w (ByRet2 w (axOf old l size).1 (axOf old l size).2):=by
 unfold axOf;by_cases h:deltaCheck l old.length size=0
 ·rw[if_neg (by simpa using h)];exact refApplied_ok A c old B d l size w hc hA hl hr h
 rw[if_pos h];exact(refApplied_bad A c old B d l size w ho hl hr h).mono fun _ _=>byRet2_nil
theorem x2fq(h:Y:=by
 have:=HY.out;unfold axOf at this;by_cases h3:deltaCheck l old.length sz≠0
 ·rw[if_pos h3]at this;injection this with h;rw[<-h];simp
 rw[if_neg h3]at this;injection this with h;have hd:=deltaCheck_ok.1 (Decidable.not_not.1 h3);have:=applied_len (old:=old) (l:=l) (fun o ho=>(hd.each o ho).2);have h4:=hd.sum;have h8:=hd.s1;rw[<-h];omega):Y:=h
theorem x39d(h:Y:=by
 have hz:r=([],1):=by rw[<-HR.out];unfold patDo;rw[HCK.out,if_neg (by simp),if_pos h1]
 subst hz;have q:(64:Int)<(old.length:Int):=by omega
 go_wp2_with fail;go_ret2;exact⟨none,0,rfl,Bts.nil _ _,nl,HB1.out⟩):Y:=h
theorem x3m9(h:Y:=by
 rw[<-HR.out];unfold patDo;have:=HY.out;unfold axOf at this;rw[HCK.out,if_neg (by simp),if_neg h1,HS.out,if_neg (by simp)];by_cases h4:deltaCheck l old.length sz≠0
 ·rw[if_pos h4]at this⊢;injection this with _ h;rw[h]
 rw[if_neg h4]at this;injection this with _ h;exact absurd h.symm h3):Y:=h
theorem x3yb(h:Y:=by
 go_wp2_with fail;go_ret2;exact⟨none,0,rfl,Bts.nil _ _,nl,Below.drewN' HB2.out _⟩):Y:=h
theorem x6jp(h:Y:=by
 go_wp2_with fail;go_ret2;exact⟨A1,c1,rfl,HY1.out.drewN _,hc1,Below.drewN' HB2.out _⟩):Y:=h
theorem x7k2(h:Y:=by
 go_wp2_with fail;go_ret2;exact⟨none,0,rfl,Bts.nil _ _,nl,Below.drewN' HB1.out _⟩):Y:=h
theorem x7ua(h:Y:=by
 have hz:r=([],ck):=by rw[<-HR.out];unfold patDo;rw[HCK.out,if_pos h5]
 subst hz;have q:(ck !=0)=true:=by simp[h5]
 clear h5;go_wp2_with fail;go_ret2;exact⟨none,0,rfl,Bts.nil _ _,nl,HB1.out⟩):Y:=h
theorem x93b(h:Y:=by
 rw[<-HR.out];unfold patDo;rw[HCK.out,if_neg (by simp),if_neg h1,HS.out,if_neg (by simp),hyy.1,if_neg (by simp),<-hyy.2]):Y:=h
theorem x9b4(h:Y:=by
 have:=HY.out;unfold axOf at this;by_cases h4:deltaCheck l old.length sz≠0
 ·rw[if_pos h4]at this;injection this with _ h;exact absurd h h4
 rw[if_neg h4]at this;injection this with h _;exact⟨Decidable.not_not.1 h4,h.symm⟩):Y:=h
theorem patDo_calls(B A:OA)(d c:Nat)(p:Pat)(old:LU)(w:World)(hc:old.length<=c)(ho:old.length<=140737488351232)(hA:Bts w A old)(hp:PatIn w p B d):
  Calls Tryz.prog 81 #[.agg (patA p.from_ p.to_ p.old p.new_ p.size B p.ops.length d),.slice A old.length c] w (ByRet2 w (patDo (sumOn 1) p old).1 (patDo (sumOn 1) p old).2):=by
 obtain⟨f,t,o,n,sz,l⟩:=p;obtain⟨hcap,hlen,hops,-,-,-,-,-⟩:=hp;dsimp only at *
 have hba:=(bW w).alloc nl (.cells (patA f t o n sz B l.length d) 36);have K1:=qH (fun w h=>patCheck_calls B d f t o n sz l w hlen h);have K2:=qH (fun w h=>sumOf_calls A c old w (by omega) h);have HA:=qH hA;have HO:=qH hops;have HBA:=qH hba;clear hA hops hba;obtain⟨r,hr⟩:=eX (patDo (sumOn 1) ⟨f,t,o,n,sz,l⟩ old);rw[hr];have HR:=qH hr;clear hr;obtain⟨ck,hck⟩:=eX (patCheck ⟨f,t,o,n,sz,l⟩);rw[hck]at K1;have HCK:=qH hck;clear hck;go_enter Tryz.func81,Tryz.ntmps81;go_wp2_with fail;refine(K1.out _ (HO.out.stays HBA.out)).mono ?_;rintro e w1 ⟨rfl,hb1⟩;have a1:=kp (w.heap.size) (patA f t o n sz B l.length d) hb1;have HB1:=bT HBA hb1;clear hb1;by_cases h5:ck≠0
 ·exact x7ua
 have h5:=Decidable.not_not.1 h5;subst h5;by_cases h1:64<old.length
 ·exact x39d
 have q1:¬(64:Int)<(old.length:Int):=by omega
 obtain⟨s,hs⟩:=eX (sumOn 1 old);rw[hs]at K2;have HS:=qH hs;clear hs;have HK1:=qH (fun n=>K2.out (w1.drewN n) ((HA.out.stays HB1.out).drewN n));by_cases h2:s≠o
 ·have hz:r=([],6):=by rw[<-HR.out];unfold patDo;rw[HCK.out,if_neg (by simp),if_neg h1,HS.out,if_pos h2]
  subst hz;have q:(s !=o)=true:=by simp[h2]
  clear h2;go_wp2_with fail;go_quiet ((go_at_call 103;with_reducible exact quietRet (HK1.out _)))
  exact x7k2
 have h2:=Decidable.not_not.1 h2;subst h2;have q2:(s !=s)=false:=by simp
 obtain⟨y,e1,hy⟩:∃y e0,axOf old l sz=(y,e0):=⟨_,_,rfl⟩;have K3:=qH (fun w h1 h2=>applyAny_calls A c old B d l sz w hc ho h1 hlen h2);rw[hy]at K3;dsimp only at K3;have HY:=qH hy;clear hy;have HK2:=qH (fun n=>K3.out (w1.drewN n) ((HA.out.stays HB1.out).drewN n) ((HO.out.stays HB1.out).stays (below_drewN _ _)));have hyl:y.length<=140737488351232:=by
  exact x2fq
 go_wp2_with fail;go_quiet ((go_at_call 103;with_reducible exact quietRet (HK1.out _)))
 go_wp2_with fail;refine(HK2.out nq).mono ?_;rintro e w2 ⟨A1,c1,rfl,hy1,hc1,hb1⟩;have b1:=kp (w.heap.size) (patA f t s n sz B l.length d) hb1;have HB2:Hid (Below w.heap.size w w2):=qH ((Below.drewN' HB1.out nq).trans (hb1.mono (by have:=HB1.out.size;simp;omega)));have HY1:=qH hy1;clear hb1 hy1;by_cases h3:e1≠0
 ·have hz:r=([],e1):=by
   exact x3m9
  subst hz;have q:(e1 !=0)=true:=by simp[h3]
  clear h3 HY;go_wp2_with fail;go_ret2;exact⟨none,0,rfl,Bts.nil _ _,nl,HB2.out⟩
 have h3:=Decidable.not_not.1 h3;subst h3;have hyy:deltaCheck l old.length sz=0∧y=applied old l:=by
  exact x9b4
 have K4:=qH (fun m=>sumOf_calls A1 c1 y (w2.drewN m) (by omega) (HY1.out.drewN m));have hrr:r=if sumOn 1 y≠n then ([],6)else (y,0):=by
  exact x93b
 obtain⟨s1,hs1⟩:=eX (sumOn 1 y);rw[hs1]at K4 hrr;have HRR:=qH hrr;clear hrr hs1 hyy HY;by_cases h4:s1≠n
 ·have hz:r=([],6):=by rw[HRR.out,if_pos h4]
  subst hz;have q:(s1 !=n)=true:=by simp[h4]
  clear h4;go_wp2_with fail;go_quiet ((go_at_call 103;with_reducible exact quietRet (K4.out _)))
  exact x3yb
 have h4:=Decidable.not_not.1 h4;subst h4;have hz:r=(y,0):=by rw[HRR.out,if_neg (by simp)]
 subst hz;have q:(s1 !=s1)=false:=by simp
 go_wp2_with fail;go_quiet ((go_at_call 103;with_reducible exact quietRet (K4.out _)))
 exact x6jp
theorem refDone_calls(B A:OA)(d c:Nat)(p:Pat)(old:LU)(w:World)(hc:old.length<=c)(ho:old.length<=140737488351232)(hA:Bts w A old)(hp:PatIn w p B d):
  Calls Tryz.prog 53 #[.agg (patA p.from_ p.to_ p.old p.new_ p.size B p.ops.length d),.slice A old.length c] w (ByRet2 w (patDo (sumOn 1) p old).1 (patDo (sumOn 1) p old).2):=by
 obtain⟨f,t,o,n,sz,l⟩:=p;obtain⟨hcap,hlen,hops,-,-,-,-,-⟩:=hp;dsimp only at *
 have hba:=(bW w).alloc nl (.cells (patA f t o n sz B l.length d) 36);have K1:=qH (fun w h=>refPatCheck_calls B d f t o n sz l w hlen h);have K2:=qH (fun w h=>refSumOf_calls A c old w (by omega) h);have HA:=qH hA;have HO:=qH hops;have HBA:=qH hba;clear hA hops hba;obtain⟨r,hr⟩:=eX (patDo (sumOn 1) ⟨f,t,o,n,sz,l⟩ old);rw[hr];have HR:=qH hr;clear hr;obtain⟨ck,hck⟩:=eX (patCheck ⟨f,t,o,n,sz,l⟩);rw[hck]at K1;have HCK:=qH hck;clear hck;go_enter Tryz.func53,Tryz.ntmps53;go_wp2_with fail;refine(K1.out _ (HO.out.stays HBA.out)).mono ?_;rintro e w1 ⟨rfl,hb1⟩;have a1:=kp (w.heap.size) (patA f t o n sz B l.length d) hb1;have HB1:=bT HBA hb1;clear hb1;by_cases h5:ck≠0
 ·exact x7ua
 have h5:=Decidable.not_not.1 h5;subst h5;by_cases h1:64<old.length
 ·exact x39d
 have q1:¬(64:Int)<(old.length:Int):=by omega
 obtain⟨s,hs⟩:=eX (sumOn 1 old);rw[hs]at K2;have HS:=qH hs;clear hs;have HK1:=qH (fun n=>K2.out (w1.drewN n) ((HA.out.stays HB1.out).drewN n));by_cases h2:s≠o
 ·have hz:r=([],6):=by rw[<-HR.out];unfold patDo;rw[HCK.out,if_neg (by simp),if_neg h1,HS.out,if_pos h2]
  subst hz;have q:(s !=o)=true:=by simp[h2]
  clear h2;go_wp2_with fail;go_quiet ((go_at_call 62;with_reducible exact quietRet (HK1.out _)))
  exact x7k2
 have h2:=Decidable.not_not.1 h2;subst h2;have q2:(s !=s)=false:=by simp
 obtain⟨y,e1,hy⟩:∃y e0,axOf old l sz=(y,e0):=⟨_,_,rfl⟩;have K3:=qH (fun w h1 h2=>refApplyAny_calls A c old B d l sz w hc ho h1 hlen h2);rw[hy]at K3;dsimp only at K3;have HY:=qH hy;clear hy;have HK2:=qH (fun n=>K3.out (w1.drewN n) ((HA.out.stays HB1.out).drewN n) ((HO.out.stays HB1.out).stays (below_drewN _ _)));have hyl:y.length<=140737488351232:=by
  exact x2fq
 go_wp2_with fail;go_quiet ((go_at_call 62;with_reducible exact quietRet (HK1.out _)))
 go_wp2_with fail;refine(HK2.out nq).mono ?_;rintro e w2 ⟨A1,c1,rfl,hy1,hc1,hb1⟩;have b1:=kp (w.heap.size) (patA f t s n sz B l.length d) hb1;have HB2:Hid (Below w.heap.size w w2):=qH ((Below.drewN' HB1.out nq).trans (hb1.mono (by have:=HB1.out.size;simp;omega)));have HY1:=qH hy1;clear hb1 hy1;by_cases h3:e1≠0
 ·have hz:r=([],e1):=by
   exact x3m9
  subst hz;have q:(e1 !=0)=true:=by simp[h3]
  have q3:(e1==0)=false:=by simp[h3]
  clear h3 HY;go_wp2_with fail;go_quiet (fail)
  exact x3yb
 have h3:=Decidable.not_not.1 h3;subst h3;have hyy:deltaCheck l old.length sz=0∧y=applied old l:=by
  exact x9b4
 have K4:=qH (fun m=>refSumOf_calls A1 c1 y (w2.drewN m) (by omega) (HY1.out.drewN m));have hrr:r=if sumOn 1 y≠n then ([],6)else (y,0):=by
  exact x93b
 obtain⟨s1,hs1⟩:=eX (sumOn 1 y);rw[hs1]at K4 hrr;have HRR:=qH hrr;clear hrr hs1 hyy HY;by_cases h4:s1≠n
 ·have hz:r=([],6):=by rw[HRR.out,if_pos h4]
  subst hz;have q:(s1 !=n)=true:=by simp[h4]
  clear h4;go_wp2_with fail;go_quiet ((go_at_call 62;with_reducible exact quietRet (K4.out _)))
  exact x3yb
 have h4:=Decidable.not_not.1 h4;subst h4;have hz:r=(y,0):=by rw[HRR.out,if_neg (by simp)]
 subst hz;have q:(s1 !=s1)=false:=by simp
 go_wp2_with fail;go_quiet ((go_at_call 62;with_reducible exact quietRet (K4.out _)))
 exact x6jp
theorem x3dq(h:Y:=by
 go_wp2_with fail;go_meet
 case rel=>exact⟨rfl,rfl⟩):Y:=h
theorem x92q(h:Y:=by
 clear hb;go_wp2_with fail;refine bodyPost_ret (rC (devA Dev.zero DLoc.zero)) rfl ⟨DLoc.zero,rfl,.const fun v=>DevIn.zero v,bZ HBZ⟩):Y:=h
section
variable {w0 w:World} {ci cd cm e0 e1 a0 a1:Nat} {img b:LU} {n:Int} {dn:Nat->Bool} {cv:Nat->Value}
end
theorem x0yl(h:Y:=by
 unfold Oper.wp execOp;simp only[e1];go_simp
 first|exact h|(rw[hs];exact h)):Y:=h
theorem x7dr(h:Y:=by
 unfold Rec.setOther;rcases (show (a=0∧a'=1)∨(a=1∧a'=0) by omega)with ⟨rfl,rfl⟩|⟨rfl,rfl⟩
 ·rw[if_pos (by simp[ha])];simp[splice,recA,infA]
 rw[if_neg (by simp[ha])];simp[splice,recA,infA]):Y:=h
theorem wp_sb1c{b:Bool}(hx:a.tmps[x]?=some (.pointer (some ⟨g,j,none⟩)))
  (hr:rowOf w g=cs) (hj:j<cs.size) (hf:frOf w g=(0,0)) (h:K a (w.setRow g (cs.setIfInBounds j (.bool b)))):
  Oper.wp Tryz.prog ⟨none,.store 4 (.tmp x) (.const (.bool b)),t,p,af,gd⟩ a w K Q:=by
 have e1:a.eval (.tmp x)=.pointer (some ⟨g,j,none⟩):=by simp[Act.eval,hx]
 obtain⟨t1,hb⟩:=row_blk (w:=w) (g:=g) (by rw[hr];omega);rw[hr,hf]at hb;have hc:w.cell? ⟨g,j,none⟩=some cs[j]:=by rw[cell_of_row _ _ _ _ _ _ hb];simp[hj]
 have hz:w.frozen? ⟨g,j,none⟩=false:=frozen_of_row _ _ _ _ _ hb;have hs:=setCell_eq_setRow w g j cs t1 (0,0) (.bool b) hb;exact x0yl
theorem wp_si1c(hx:a.tmps[x]?=some (.pointer (some ⟨g,j,none⟩)))
  (hr:rowOf w g=cs) (hj:j<cs.size) (hf:frOf w g=(0,0)) (h:K a (w.setRow g (cs.setIfInBounds j (iv 0)))):
  Oper.wp Tryz.prog ⟨none,.store 3 (.tmp x) (.const (iv 0)),t,p,af,gd⟩ a w K Q:=by
 have e1:a.eval (.tmp x)=.pointer (some ⟨g,j,none⟩):=by simp[Act.eval,hx]
 obtain⟨t1,hb⟩:=row_blk (w:=w) (g:=g) (by rw[hr];omega);rw[hr,hf]at hb;have hc:w.cell? ⟨g,j,none⟩=some cs[j]:=by rw[cell_of_row _ _ _ _ _ _ hb];simp[hj]
 have hz:w.frozen? ⟨g,j,none⟩=false:=frozen_of_row _ _ _ _ _ hb;have hs:=setCell_eq_setRow w g j cs t1 (0,0) (iv 0) hb;exact x0yl
theorem wp_sn1c(hx:a.tmps[x]?=some (.pointer (some ⟨g,j,none⟩)))
  (hr:rowOf w g=cs) (hj:j<cs.size) (hf:frOf w g=(0,0)) (h:K a (w.setRow g (cs.setIfInBounds j (.slice none 0 0)))):
  Oper.wp Tryz.prog ⟨none,.store 33 (.tmp x) (.const (.slice none 0 0)),t,p,af,gd⟩ a w K Q:=by
 have e1:a.eval (.tmp x)=.pointer (some ⟨g,j,none⟩):=by simp[Act.eval,hx]
 obtain⟨t1,hb⟩:=row_blk (w:=w) (g:=g) (by rw[hr];omega);rw[hr,hf]at hb;have hc:w.cell? ⟨g,j,none⟩=some cs[j]:=by rw[cell_of_row _ _ _ _ _ _ hb];simp[hj]
 have hz:w.frozen? ⟨g,j,none⟩=false:=frozen_of_row _ _ _ _ _ hb;have hs:=setCell_eq_setRow w g j cs t1 (0,0) (.slice none 0 0) hb;exact x0yl
theorem DevIn.opened{d:Dev}{L:DLoc}(h:DevIn w d L)(p q:Cop){j:Pat}{A:OA}{c:Nat}(hj:PatIn w j A c):DevIn w {d with c0:=p,c1:=q,busy:=true,job:=j,done:=0,got:=[]} {L with aj:=A,cj:=c,ag:=none,cg:=0}:=
 ⟨h.k0,h.l0,h.b0,h.k1,h.l1,h.b1,nl,Nat.zero_le _,Chs.nil _ _,hj,h.ir,⟨by show -9223372036854775808<=(0:Int);omega,by show (0:Int)<=9223372036854775807;omega⟩⟩
theorem Fresh.and'{base:Nat}{P Q:World->Prop}(h:Fresh base w P)(g:Fresh base w Q):Fresh base w (fun v=>P v∧Q v):=fun v hv=>⟨h v hv,g v hv⟩
def opJ(w0:World)(g:Nat)(d:Dev)(L:DLoc)(p:Pat)(A:OA)(c:Nat):Nat->(Nat->Value)->World->Prop
 |0,_,w=>w=w0.drew
 |1,_,w=>w=w0.drew.setRow g (devA {d with busy:=true} L)
 |2,_,w=>w=w0.drew.setRow g (devA {d with busy:=true,job:=p} {L with aj:=A,cj:=c})
 |3,_,w=>w=w0.drew.setRow g (devA {d with busy:=true,job:=p,done:=0} {L with aj:=A,cj:=c})
 |_,_,w=>w=w0.drew.setRow g (devA {d with busy:=true,job:=p,done:=0,got:=[]} {L with aj:=A,cj:=c,ag:=none,cg:=0})
theorem opJ_row{w0:World}{q k:Nat}{d:Dev}{L:DLoc}{p:Pat}{A:OA}{c:Nat}{cv:Nat->Value}(hJ:opJ w0 g d L p A c k cv w)(hq:q≠g)(hr:rowOf w0 q=cs)(hf:frOf w0 q=(0,0))(hg:0<(rowOf w0 g).size):rowOf w q=cs∧frOf w q=(0,0):=by
 have key:∀new,w=w0.drew.setRow g new->rowOf w q=cs∧frOf w q=(0,0):=fun new e=>by
  subst e;rw[rowOf_setRow _ _ _ _ (by rw[rowOf_drew];exact hg),if_neg hq,frOf_setRow,rowOf_drew,frOf_drew];exact⟨hr,hf⟩
 match k,hJ with
 |0,hJ=>obtain rfl:w=w0.drew:=hJ;rw[rowOf_drew,frOf_drew];exact⟨hr,hf⟩
 |1,hJ=>exact key _ hJ
 |2,hJ=>exact key _ hJ
 |3,hJ=>exact key _ hJ
 |n+4,hJ=>exact key _ hJ
end Go.Proofs.YtefkfglkpebbmaaGreat
