/- The walk of the document's Joined. Printed by gen_refjoined.py. No conditions. -/
import Derived.Test.YtefkfglkpebbmacP4
import Derived.Test.YtefkfglkpebbmacPXRefChkList
import Derived.Test.YtefkfglkpebbmacPXRefUnpack
import Derived.Test.YtefkfglkpebbmacPXRefPatRead
set_option linter.unusedVariables false
set_option linter.unusedSimpArgs false
set_option maxRecDepth 100000
set_option maxHeartbeats 40000000
namespace Go.Proofs.Ytefkfglkpebbmac
open Go.RowKit
variable {Y:Prop}
theorem x1ej(h:Y:=by
 go_wp2_with fail;generalize w3.alloc (.cells (patA p.from_ p.to_ p.old p.new_ p.size A2 p.ops.length c5) 35)=w6 at *
 generalize w3.heap.size=g9 at *
 obtain⟨z1,z2,z3,z4,z5⟩:=blkFacts HG1.out (by simp[patA]);go_quiet (fail)
 go_wp2_with fail;refine bodyPost_ret (rC (patA 0 0 0 0 0 none 0 0)) rfl ?_;rw[HZ.out];exact⟨none,0,rfl,.const fun v=>patIn_zero v,below_row (Below.drewN' HB4.out _) (by omega) _⟩):Y:=h
theorem lined_of:∀(l:List Chk) (q:Chk),Lined (some q) l->q.n<q.of_->(l.length:Int)<=q.of_-1-q.n
 |[],q,_,h=>by simp only[List.length_nil];omega
 |c::l,q,h,hq=>by
  unfold Lined at h;have h1:=(chkCheck_ok.1 h.1).1;unfold Chk.range at h1;obtain⟨hk,hn⟩:=h.2.1 q rfl;unfold kin at hk;have ih:=lined_of l c h.2.2 (by omega);simp only[List.length_cons];omega
theorem chkList_of{x:Chk}{t:List Chk}(h:chkList (x::t)=0):((x::t).length:Int)<=x.of_:=by
 unfold chkList at h;rw[listGo_ok]at h;unfold Lined at h;have h1:=(chkCheck_ok.1 h.1).1;unfold Chk.range at h1;have:=lined_of t x h.2.2 (by omega);simp only[List.length_cons];omega
theorem patRead_bad{b:LU}(h:(patRead b).2≠0):(patRead b).1=Pat.zero:=by
 unfold patRead at h⊢;by_cases h1:400<b.length
 ·rw[if_pos h1]
 rw[if_neg h1]at h⊢;by_cases h2:b.length<8
 ·rw[if_pos h2]
 rw[if_neg h2]at h⊢;unfold readDone at h⊢;split at h
 ·rename_i h3;rw[if_pos h3]
 rename_i h3;rw[if_neg h3];split at h
 ·rename_i h4;rw[if_pos h4]
 rename_i h4;rw[if_neg h4];split at h
 ·rename_i h5;rw[if_pos h5]
 exact absurd rfl h
theorem refJoined_calls(A:OA)(c:Nat)(l:List Chk)(w:World)(hl:l.length<=2513169434843)(hs:Chs w A l):
  Calls Try.prog 46 #[.slice A l.length c] w (PaRet w (chkJoin l).1 (chkJoin l).2):=by
 have HS:=qH hs;have K1:=qH (fun w h=>refChkList_calls A c l w hl h);have hba:=(bW w).alloc nl (.cells (patA 0 0 0 0 0 none 0 0) 35);have HBA:=qH hba;clear hs hba;obtain⟨r,hr⟩:=eX (chkJoin l);rw[hr];have HR:=qH hr;clear hr;by_cases he1:chkList l≠0
 ·have hz:r=(Pat.zero,chkList l):=by rw[<-HR.out,chkJoin_list he1]
  have HZ:=qH hz;have q:(chkList l !=0)=true:=by simp[he1]
  have q':(chkList l==0)=false:=by simp[he1]
  generalize chkList l=e1 at *
  clear he1 hz;go_enter Try.func46,Try.ntmps46;exact x9n1
 have he1:=Decidable.not_not.1 he1;rw[he1]at K1;have hll:=chkList_len he1;have hdl:=dataOf_le l (fun x hx=>by
  exact x5jz)
 have HE1:=qH he1;clear he1;rcases Nat.eq_zero_or_pos l.length with hl0|hlp
 ·have hz:r=(Pat.zero,5):=by rw[<-HR.out,List.eq_nil_of_length_eq_zero hl0,chkJoin_nil]
  have HZ:=qH hz;have q:((l.length:Int)==0)=true:=by simp[hl0]
  clear hz hl0;go_enter Try.func46,Try.ntmps46;exact x9n1
 obtain⟨g,o,B1,d1,rfl,hgl,hat1,-⟩:=HS.out.chk (i:=0) hlp;rw[Nat.zero_mul,Nat.add_zero]at hat1;obtain⟨x,t,hxt⟩:∃x t,l=x::t:=by
  rcases l with _|⟨x,t⟩
  ·simp at hlp
  exact⟨x,t,rfl⟩
 have hx1:l[0]=x:=by subst hxt;rfl
 rw[hx1]at hat1;have HAT:=qH hat1;have HXT:=qH hxt;have q5:((l.length:Int)==0)=false:=beq_eq_false_iff_ne.2 (by omega);have nb3:¬l.length=0:=by omega
 have nb1:¬l=[]:=by rw[hxt];simp
 have nb2:¬(l.length:Int)<=0:=by omega
 clear hat1 hx1 hxt;by_cases hfew:(l.length:Int)<x.of_
 ·have hz:r=(Pat.zero,5):=by
   exact x2tq
  have HZ:=qH hz;have q1:((l.length:Int) !=x.of_)=true:=by simp;omega
  clear hz;go_enter Try.func46,Try.ntmps46;go_wp2_with fail;refine(K1.out _ (HS.out.stays HBA.out)).mono ?_;rintro e w1 ⟨rfl,hb1⟩;obtain⟨a0r,a0f,a0n,a0c,a0z,a0l⟩:=kp (w.heap.size) (patA 0 0 0 0 0 none 0 0) hb1;have HB1:=bT HBA hb1;obtain⟨c5,c1,c2,c3,c4⟩:=HAT.out.stays hgl HB1.out;clear hb1;exact x0v8
 have hfw:¬(l.length:Int)<x.of_:=hfew;have hle:(l.length:Int)<=x.of_:=by
  have h1:=HE1.out;rw[HXT.out]at h1⊢;exact chkList_of h1
 have q4:((l.length:Int) !=x.of_)=false:=by simp;omega
 obtain⟨u,eu,hu⟩:∃u eu,unpacked (dataOf l) 400=(u,eu):=⟨_,_,rfl⟩;have hz:(eu≠0->r=(Pat.zero,eu))∧(eu=0->r=joinDone l (patRead u) x):=by
  exact x0hm
 have HZ1:=qH hz;have HU:=qH hu;clear hz hu hfew;go_enter Try.func46,Try.ntmps46;go_wp2_with fail;refine(K1.out _ (HS.out.stays HBA.out)).mono ?_;rintro e w1 ⟨rfl,hb1⟩;obtain⟨a0r,a0f,a0n,a0c,a0z,a0l⟩:=kp (w.heap.size) (patA 0 0 0 0 0 none 0 0) hb1;have HB1:=bT HBA hb1;have HRF1:=qH (And.intro a0r a0f);have HLT1:Hid (w.heap.size<w1.heap.size):=qH a0l;have hs1:=HB1.out.size;obtain⟨c6,c1,c2,c3,c4⟩:=HAT.out.stays hgl HB1.out;clear hb1;go_wp2_with fail;clear c6 c1 c2 c3 c4 a0r a0f a0n a0c a0z;go_loopw [5,33] (fun v i wr=>∃(k:Nat) (C:OA) (cc:Nat) (b:LU),k<=l.length∧i=iv k∧v=.slice C b.length cc∧Hid (b=dataOf (l.take k))∧b.length<=16*k∧Hid (Own wr w1.heap.size 5 1 C b.length cc (b.map bv))∧Hid (Below w1.heap.size w1 wr)) (fun _ i _=>l.length-(intOf i).toNat)
 case atStart=>exact⟨0,none,0,[],Nat.zero_le _,rfl,rfl,qH (by simp[dataOf]),by simp,qH (Own.nil_ _ _ _ _),qH (Below.refl _ _)⟩
 case round=>
  rename World=>wr;obtain⟨k,C,cc,b,hk,rfl,rfl,HBK,hbl,HO,HBR⟩:=hrel;have hsr:=HBR.out.size;have HBW:Hid (Below w.heap.size w wr):=qH (HB1.out.trans (HBR.out.mono hs1));by_cases hlt:k<l.length
  ·obtain⟨g',o',D,d,e,_,hat,hin⟩:=(HS.out.stays HBW.out).chk hlt;injection e with e;injection e with e1 e2;subst e1 e2;have hsn:dataOf (l.take (k+1))=b++l[k].data:=by rw[List.take_succ_eq_append_getElem hlt,dataOf_snoc,<-HBK.out]
   have hyl:l[k].data.length<=16:=by
    exact x4px
   obtain⟨y,hy⟩:=eX (l[k]);rw[hy]at hat hin hsn hyl;have HSN:=qH hsn;obtain⟨c5,c1,c2,c3,c4⟩:=hat;have dl:decide ((k:Int)<(l.length:Int))=true:=decide_eq_true (by omega);have hwk:IntKind.i64.wrap ((k:Int)+1)=(k:Int)+1:=IntWalk.i64_in _ (by omega);have hoa:=HO.out.alloc (.cells (chkA y.from_ y.to_ y.n y.of_ D y.data.length d) 49);have hsd:=(hin.data.stays ((bW wr).alloc nl (.cells (chkA y.from_ y.to_ y.n y.of_ D y.data.length d) 49))).src;have hob:b.length+y.data.length<=137438953472:=by omega
   have hle:w1.heap.size<=(wr.alloc (.cells (chkA y.from_ y.to_ y.n y.of_ D y.data.length d) 49)).heap.size:=by simp;omega
   clear hy hin hsn;go_wp2_with (at_builtin;go_must (refine wpList_app (wr.alloc (.cells (chkA y.from_ y.to_ y.n y.of_ D y.data.length d) 49)) rfl _ _ 22 rfl elBytes w1.heap.size C b.length cc (b.map bv) rfl hoa D y.data.length d (y.data.map bv) rfl hsd (by simp) (bv_one _) hob hle ?_;intro C1 cc1 w3 hown hgr hbel hor));have HL:Hid (b.length+y.data.length=(b++y.data).length):=qH (by simp);have HO1:Hid (Own w3 w1.heap.size 5 1 C1 (b++y.data).length cc1 ((b++y.data).map bv)):=qH (by rw[List.map_append,<-HL.out];exact hown);have HB2:Hid (Below w1.heap.size w1 w3):=qH ((HBR.out.alloc hsr _).trans hbel);clear hown hgr hbel hor hoa hsd hob hle;go_roundw
   case rel=>exact⟨k+1,C1,cc1,b++y.data,by omega,by go_num,by rw[HL.out],qH HSN.out.symm,by simp;omega,HO1,HB2⟩
   case measure=>simp[intOf];omega
  obtain rfl:k=l.length:=by omega
  have dl:decide ((l.length:Int)<(l.length:Int))=false:=by simp
  have hbd:b=dataOf l:=by rw[HBK.out,List.take_length]
  have hbt:=HO.out.src.bts;have hbc:=HO.out.le;obtain⟨b0r,b0f,b0n,b0c,b0z,b0l⟩:=keep1 (g:=w.heap.size) (cs:=patA 0 0 0 0 0 none 0 0) HBR.out HRF1.out.1 (by go_simp) HRF1.out.2;have a0l0:w.heap.size<w1.heap.size:=HLT1.out;have K2:=qH (refUnpack_calls C cc b 400 wr hbc (by omega) ⟨by decide,by decide⟩ hbt);rw[hbd,HU.out,<-hbd]at K2;clear hbd hbt;go_wp2_with fail;refine K2.out.mono ?_;rintro e w2 ⟨A1,c4,rfl,ho1,hb1⟩;obtain⟨a0r,a0f,a0n,a0c,a0z,a0l'⟩:=keep1 (g:=w.heap.size) (cs:=patA 0 0 0 0 0 none 0 0) hb1 b0r (by go_simp) b0f;have HB2:=bT HBW hb1;have hbt1:=ho1.src.bts;have hbc1:=ho1.le;have HT1:=qH hbt1;have HO1:Hid (wr.heap.size<=w2.heap.size∧∀k,A1.map (·.block)=some k->wr.heap.size<=k):=qH ⟨hb1.size,fun k e=>(ho1.block k e).1⟩;have hn1:w.heap.size<w2.heap.size:=a0l';clear hb1 ho1 hbt1 b0r b0f b0n b0c b0z b0l;by_cases heu:eu≠0
  ·have q1:(eu !=0)=true:=by simp[heu]
   have HZ:=qH (HZ1.out.1 heu);clear heu;go_wp2_with fail;refine bodyPost_ret (rC (patA 0 0 0 0 0 none 0 0)) rfl ?_;rw[HZ.out];exact x2eg
  have heu:=Decidable.not_not.1 heu;have hz:=HZ1.out.2 heu;subst heu;obtain⟨p,ep,hp⟩:∃p ep,patRead u=(p,ep):=⟨_,_,rfl⟩;rw[hp]at hz;have K3:=qH (refPatReadS_calls A1 c4 u w2 hbc1 HT1.out);rw[hp]at K3;dsimp only at K3;have HZJ:=qH hz;have HPZ:Hid (ep≠0->p=Pat.zero):=qH (fun e=>by have:=patRead_bad (b:=u) (by rw[hp];exact e);rwa [hp]at this);clear hz hp;go_wp2_with fail;refine K3.out.mono ?_;rintro e w3 ⟨A2,c5,rfl,-,hb1,hpx⟩;have hf1:Fresh wr.heap.size w3 (fun v=>PatIn v p A2 c5):=fun v hv=>hpx v (fun k hk hlt=>hv k (by
   rcases hk with h|h
   ·have:=HO1.out.1;omega
   exact(HO1.out.2 k h)) hlt)
  clear hpx;obtain⟨b0r,b0f,b0n,b0c,b0z,b0l⟩:=keep1 (g:=w.heap.size) (cs:=patA 0 0 0 0 0 none 0 0) hb1 a0r (by go_simp) a0f;have HB3:=bT HB2 hb1;have HF1:=qH hf1;have hs2:=HB2.out.size;have hsw:w.heap.size<wr.heap.size:=by have:=HBR.out.size;have:=a0l0;omega
  have hs3:=hb1.size;clear hb1 hf1 a0r a0f a0n a0c a0z a0l';have hba1:=(bW w3).alloc nl (.cells (patA p.from_ p.to_ p.old p.new_ p.size A2 p.ops.length c5) 35);have HB4:=bT HB3 hba1;have HF2:=qH (HF1.out.below hba1 nl);have HG1:Hid ((w3.alloc (.cells (patA p.from_ p.to_ p.old p.new_ p.size A2 p.ops.length c5) 35)).heap[w3.heap.size]?=some (.cells (patA p.from_ p.to_ p.old p.new_ p.size A2 p.ops.length c5) 35 (0,0))):=qH (blk_top rfl);obtain⟨a0r,a0f,a0n,a0c,a0z,a0l'⟩:=keep1 (g:=w.heap.size) (cs:=patA 0 0 0 0 0 none 0 0) hba1 b0r (by go_simp) b0f;have hs4:=hba1.size;have hn2:w.heap.size<w3.heap.size:=b0l;have HB0R:Hid (rowOf w3 w.heap.size=patA 0 0 0 0 0 none 0 0):=qH b0r;clear hba1 b0r b0f b0n b0c b0z b0l;by_cases hep:ep≠0
  ·have hz:r=(Pat.zero,ep):=by rw[HZJ.out,HPZ.out hep];unfold joinDone;rw[if_neg (fun h=>hep h.1)]
   have HZ:=qH hz;have q1:(ep !=0)=true:=by simp[hep]
   have ng1:¬w.heap.size=w3.heap.size:=by omega
   have b0r:=HB0R.out;clear hep hz;go_wp2_with fail;refine bodyPost_ret (rC (patA 0 0 0 0 0 none 0 0)) rfl ?_;rw[HZ.out];refine⟨none,0,rfl,.const fun v=>patIn_zero v,?_⟩;repeat (first|exact HB4.out|exact HB3.out|refine bR ?_ _|refine Below.alloc ?_ (by first|omega|(simp[World.setRow]<;>omega)) _)
  have hep:=Decidable.not_not.1 hep;subst hep;obtain⟨c6,c1,c2,c3,c4'⟩:=HAT.out.stays hgl HB4.out;by_cases hf:p.from_=x.from_
  ·have q1:(p.from_ !=x.from_)=false:=by simp[hf]
   by_cases ht:p.to_=x.to_
   ·have hz:r=(p,0):=by rw[HZJ.out];unfold joinDone;rw[if_neg (fun h=>by rcases h.2 with h|h;exact h hf;exact h ht)]
    have HZ:=qH hz;have q2:(p.to_ !=x.to_)=false:=by simp[ht]
    clear hz hf ht;go_wp2_with fail;generalize w3.alloc (.cells (patA p.from_ p.to_ p.old p.new_ p.size A2 p.ops.length c5) 35)=w6 at *
    generalize w3.heap.size=g9 at *
    obtain⟨z1,z2,z3,z4,z5⟩:=blkFacts HG1.out (by simp[patA]);go_quiet (fail)
    have ng:¬g9=w.heap.size:=by omega
    have ng1:¬w.heap.size=g9:=by omega
    go_wp2_with fail;refine bodyPost_ret (rC (patA p.from_ p.to_ p.old p.new_ p.size A2 p.ops.length c5)) rfl ?_;rw[HZ.out];exact⟨A2,c5,rfl,((HF2.out.drewN _).row (by omega) _).mono (by omega),below_row (Below.drewN' HB4.out _) nl _⟩
   have hz:r=(Pat.zero,3):=by rw[HZJ.out];unfold joinDone;rw[if_pos ⟨rfl,.inr ht⟩]
   have HZ:=qH hz;have q2:(p.to_ !=x.to_)=true:=by simp[ht]
   clear hz hf ht;exact x1ej
  have hz:r=(Pat.zero,3):=by rw[HZJ.out];unfold joinDone;rw[if_pos ⟨rfl,.inl hf⟩]
  have HZ:=qH hz;have q1:(p.from_ !=x.from_)=true:=by simp[hf]
  clear hz hf;exact x1ej
end Go.Proofs.Ytefkfglkpebbmac
