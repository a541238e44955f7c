/- Walks of functions, and plain words. No conditions. -/
import Derived.Test.YtefkfglkpebbmadGreatPE2
import Derived.Test.YtefkfglkpebbmadGreatP3
set_option linter.unusedVariables false
set_option linter.unusedSimpArgs false
set_option maxRecDepth 100000
set_option maxHeartbeats 40000000
namespace Go.Proofs.YtefkfglkpebbmadGreat
open Go.RowKit
variable {Y:Prop}
variable {k:Nat} {w:World}
def filB(b:LU)(k:Nat):List Value:=(b.take k).map bv++List.replicate (64-k) (.int .u8 0)
theorem filB_len(b:LU)(h:k<=b.length)(hb:b.length<=64):(filB b k).length=64:=by unfold filB;simp;omega
theorem filB_zero(b:LU):filB b 0=List.replicate 64 (.int .u8 0):=by unfold filB;simp
theorem filB_set(b:LU)(h:k<b.length)(hb:b.length<=64):(filB b k).set k (bv b[k])=filB b (k+1):=by
 unfold filB;obtain⟨m,hm⟩:∃m,64-k=m+1:=⟨63-k,by omega⟩;have hl:((b.take k).map bv).length=k:=by simp;omega
 rw[List.set_append_right _ _ (by omega),hl,Nat.sub_self,hm,List.replicate_succ,List.set_cons_zero,List.take_succ_eq_append_getElem h,List.map_append,List.append_assoc,show 64-(k+1)=m by omega];rfl
theorem filB_at(b:LU)(h:k<=b.length)(hk:k<64):(filB b k)[k]?=some (.int .u8 0):=by
 unfold filB;have hl:((b.take k).map bv).length=k:=by simp;omega
 rw[List.getElem?_append_right (by omega),hl,Nat.sub_self,List.getElem?_replicate,if_pos (by omega)]
theorem filB_all(b:LU)(hb:b.length<=64):filB b b.length=(room b).map bv:=by
 unfold filB room;rw[List.take_length,List.map_append,List.map_replicate];rfl
theorem filled_calls(A:OA)(c:Nat)(b:LU)(w:World)(hb:b.length<=64)(hB:Bts w A b):
  Calls Tryz.prog 31 #[.slice A b.length c] w (BtRet w (room b)):=by
 have HB1:=qH hB;have hmk:∀w:World,(Instr.makeSlice 23 (iv 64) (iv 64)).run Tryz.prog w=.ok (.slice (some ⟨w.heap.size,0,none⟩) 64 64) (w.alloc (.cells (filB b 0).toArray 5)):=fun w=>by
  have:=run_make_row' (P:=Tryz.prog) 23 5 (.int .u8 0) 1 Tryz.underlying23 (by kernel_rfl) rfl .i64 .i64 64 (by omega) (by omega) w;rw[made_zeros]at this;rw[filB_zero,List.toArray_replicate];exact this
 clear hB;go_enter Tryz.func31,Tryz.ntmps31;go_wp2_with fail;have HF1:Hid ((w.alloc (.cells (filB b 0).toArray 5)).heap[w.heap.size]?=some (.cells (filB b 0).toArray 5 (0,0))):=qH (blk_top rfl);have HBA:Hid (Below w.heap.size w (w.alloc (.cells (filB b 0).toArray 5))):=qH (bL _);clear hmk;generalize w.alloc (.cells (filB b 0).toArray 5)=w1 at *
 obtain⟨g,hg⟩:=eX (w.heap.size);have HG:=qH hg;rw[hg]at HF1 HBA⊢;clear hg;go_loopw [9] (fun i wr=>∃k:Nat,k<=b.length∧i=iv k∧Hid (wr.heap[g]?=some (.cells (filB b k).toArray 5 (0,0)))∧Hid (Below g w wr)) (fun i _=>b.length-(intOf i).toNat)
 case atStart=>exact⟨0,Nat.zero_le _,rfl,HF1,HBA⟩
 case round=>
  clear HF1 HBA;rename World=>wr;obtain⟨k,hk,rfl,HF,HB⟩:=hrel;by_cases hlt:k<b.length
  ·obtain⟨b',o',rfl,hlt',hcc⟩:=(HB1.out.stays (HG.out.symm▸HB.out)) k hlt;obtain⟨q1,q2,q3,q4,q5⟩:=blkFacts HF.out (by rw[List.size_toArray,filB_len b hk hb];decide);have dl:decide ((k:Int)<(b.length:Int))=true:=decide_eq_true (by omega);have nb:¬(64:Int)<=(k:Int):=by omega
   have hck:=filB_at b hk (by omega);have nb1:¬(b.length:Int)<=(k:Int):=by omega
   have HS:Hid (filB b (k+1)=(filB b k).set k (bv b[k])):=qH (filB_set b hlt hb).symm;generalize b[k]=x at *
   have hw1:IntKind.i64.wrap ((k:Int)+1)=(k:Int)+1:=IntWalk.i64_in _ (by omega);go_wp2_with fail;go_roundw
   case rel=>exact⟨k+1,by omega,by go_num,qH (by rw[HS.out];have:=set_blk (j:=k) (v:=bv x) HF.out;simpa using this),qH (HB.out.setCell (p:=⟨g,k,none⟩) nl _)⟩
   case measure=>simp[intOf];omega
  obtain rfl:k=b.length:=by omega
  have dl:decide ((b.length:Int)<(b.length:Int))=false:=by simp
  go_wp2_with fail;go_ret;have hf:=HF.out;rw[filB_all b hb]at hf;have hl:=room_len hb;have hgo:=HG.out;refine⟨some ⟨g,0,none⟩,64,by rw[hl];rfl,?_,hgo.symm▸HB.out⟩;rw[hl,hgo];exact⟨by simp[hl],Or.inr ⟨g,64,_,rfl,nl,hf,nl,by unfold maxLen;omega,by simp[hl],by simp[List.take_of_length_le,hl]⟩⟩
theorem refPatCheck_calls(A:OA)(c:Nat)(f t o n sz:Int)(l:List Stp)(w:World)(hl:l.length<=3518437208780)(hs:Sps w A l):
  Calls Tryz.prog 59 #[.agg (patA f t o n sz A l.length c)] w (RetB w (iv (patCheck ⟨f,t,o,n,sz,l⟩))):=refPatCheckA_calls A c f t o n sz l w hl hs
theorem refDone_calls(B A:OA)(d c:Nat)(p:Pat)(old:LU)(w:World)(hc:old.length<=c)(ho:old.length<=140737488351232)(hA:Bts w A old)(hp:PatIn w p B d):
  Calls Tryz.prog 29 #[.agg (patA p.from_ p.to_ p.old p.new_ p.size B p.ops.length d),.slice A old.length c] w (ByRet2 w (patDo (sumOn 1) p old).1 (patDo (sumOn 1) p old).2):=by
 obtain⟨f,t,o,n,sz,l⟩:=p;obtain⟨hcap,hlen,hops,-,-,-,-,-⟩:=hp;dsimp only at *
 have hba:=(bW w).alloc nl (.cells (patA f t o n sz B l.length d) 36);have K1:=qH (fun w h=>refPatCheck_calls B d f t o n sz l w hlen h);have K2:=qH (fun w h=>refSumOf_calls A c old w (by omega) h);have HA:=qH hA;have HO:=qH hops;have HBA:=qH hba;clear hA hops hba;obtain⟨r,hr⟩:=eX (patDo (sumOn 1) ⟨f,t,o,n,sz,l⟩ old);rw[hr];have HR:=qH hr;clear hr;obtain⟨ck,hck⟩:=eX (patCheck ⟨f,t,o,n,sz,l⟩);rw[hck]at K1;have HCK:=qH hck;clear hck;go_enter Tryz.func29,Tryz.ntmps29;go_wp2_with fail;refine(K1.out _ (HO.out.stays HBA.out)).mono ?_;rintro e w1 ⟨rfl,hb1⟩;have a1:=kp (w.heap.size) (patA f t o n sz B l.length d) hb1;have HB1:=bT HBA hb1;clear hb1;by_cases h5:ck≠0
 ·exact x7ua
 have h5:=Decidable.not_not.1 h5;subst h5;by_cases h1:64<old.length
 ·exact x39d
 have q1:¬(64:Int)<(old.length:Int):=by omega
 obtain⟨s,hs⟩:=eX (sumOn 1 old);rw[hs]at K2;have HS:=qH hs;clear hs;have HK1:=qH (fun n=>K2.out (w1.drewN n) ((HA.out.stays HB1.out).drewN n));by_cases h2:s≠o
 ·have hz:r=([],6):=by rw[<-HR.out];unfold patDo;rw[HCK.out,if_neg (by simp),if_neg h1,HS.out,if_pos h2]
  subst hz;have q:(s !=o)=true:=by simp[h2]
  clear h2;go_wp2_with fail;go_quiet ((go_at_call 60;with_reducible exact quietRet (HK1.out _)))
  exact x7k2
 have h2:=Decidable.not_not.1 h2;subst h2;have q2:(s !=s)=false:=by simp
 obtain⟨y,e1,hy⟩:∃y e0,axOf old l sz=(y,e0):=⟨_,_,rfl⟩;have K3:=qH (fun w h1 h2=>refApplyAny_calls A c old B d l sz w hc ho h1 hlen h2);rw[hy]at K3;dsimp only at K3;have HY:=qH hy;clear hy;have HK2:=qH (fun n=>K3.out (w1.drewN n) ((HA.out.stays HB1.out).drewN n) ((HO.out.stays HB1.out).stays (below_drewN _ _)));have hyl:y.length<=140737488351232:=by
  exact x2fq
 go_wp2_with fail;go_quiet ((go_at_call 60;with_reducible exact quietRet (HK1.out _)))
 go_wp2_with fail;refine(HK2.out nq).mono ?_;rintro e w2 ⟨A1,c1,rfl,hy1,hc1,hb1⟩;have b1:=kp (w.heap.size) (patA f t s n sz B l.length d) hb1;have HB2:Hid (Below w.heap.size w w2):=qH ((Below.drewN' HB1.out nq).trans (hb1.mono (by have:=HB1.out.size;simp;omega)));have HY1:=qH hy1;clear hb1 hy1;by_cases h3:e1≠0
 ·have hz:r=([],e1):=by
   exact x3m9
  subst hz;have q:(e1 !=0)=true:=by simp[h3]
  have q3:(e1==0)=false:=by simp[h3]
  clear h3 HY;go_wp2_with fail;go_quiet (fail)
  exact x3yb
 have h3:=Decidable.not_not.1 h3;subst h3;have hyy:deltaCheck l old.length sz=0∧y=applied old l:=by
  exact x9b4
 have K4:=qH (fun m=>refSumOf_calls A1 c1 y (w2.drewN m) (by omega) (HY1.out.drewN m));have hrr:r=if sumOn 1 y≠n then ([],6)else (y,0):=by
  exact x93b
 obtain⟨s1,hs1⟩:=eX (sumOn 1 y);rw[hs1]at K4 hrr;have HRR:=qH hrr;clear hrr hs1 hyy HY;by_cases h4:s1≠n
 ·have hz:r=([],6):=by rw[HRR.out,if_pos h4]
  subst hz;have q:(s1 !=n)=true:=by simp[h4]
  clear h4;go_wp2_with fail;go_quiet ((go_at_call 60;with_reducible exact quietRet (K4.out _)))
  exact x3yb
 have h4:=Decidable.not_not.1 h4;subst h4;have hz:r=(y,0):=by rw[HRR.out,if_neg (by simp)]
 subst hz;have q:(s1 !=s1)=false:=by simp
 go_wp2_with fail;go_quiet ((go_at_call 60;with_reducible exact quietRet (K4.out _)))
 exact x6jp
theorem x4lb(h:Y:=by
 clear g1 g2;go_enter Tryz.func18,Tryz.ntmps18;go_wp2_with fail;refine(refIn_t (n:=f) (a:=1) (b:=30) (by omega) _).mono ?_;rintro e u ⟨rfl,rfl⟩;go_wp2_with fail;refine(refIn_t (n:=t) (a:=1) (b:=30) (by omega) _).mono ?_;rintro e u ⟨rfl,rfl⟩;go_wp2_with fail;refine(refIn_t (n:=o) (a:=1) (b:=52) (by omega) _).mono ?_;rintro e u ⟨rfl,rfl⟩;go_wp2_with fail;refine(I.out _).mono ?_;rintro e u ⟨rfl,rfl⟩;go_wp2_with fail;go_ret;exact⟨ret_int hz.out.symm,hA⟩):Y:=h
theorem refChkCheck_calls(A:OA)(c:Nat)(f t n o:Int)(l:LU)(w:World)(hn:I64 n)(ho:I64 o):
  Calls Tryz.prog 18 #[.agg (chkA f t n o A l.length c)] w (RetB w (iv (chkCheck ⟨f,t,n,o,l⟩))):=by
 obtain⟨hn1,hn2⟩:=hn;obtain⟨ho1,ho2⟩:=ho;have hb:Below w.heap.size w (w.alloc (.cells (chkA f t n o A l.length c) 56)):=bL _;have HB:=qH hb;clear hb;by_cases h5:f<(1:Int)∨(30:Int)<f
 ·have hz:=qH (chkCheck_bad (x:=⟨f,t,n,o,l⟩) (by unfold Chk.range;dsimp only;omega));go_enter Tryz.func18,Tryz.ntmps18;go_wp2_with fail;refine(refIn_f (n:=f) (a:=1) (b:=30) (by omega) _).mono ?_;rintro e u ⟨rfl,rfl⟩;exact x73o
 by_cases h1:t<(1:Int)∨(30:Int)<t
 ·have hz:=qH (chkCheck_bad (x:=⟨f,t,n,o,l⟩) (by unfold Chk.range;dsimp only;omega));go_enter Tryz.func18,Tryz.ntmps18;go_wp2_with fail;refine(refIn_t (n:=f) (a:=1) (b:=30) (by omega) _).mono ?_;rintro e u ⟨rfl,rfl⟩;go_wp2_with fail;refine(refIn_f (n:=t) (a:=1) (b:=30) (by omega) _).mono ?_;rintro e u ⟨rfl,rfl⟩;exact x73o
 by_cases h1:o<(1:Int)∨(52:Int)<o
 ·have hz:=qH (chkCheck_bad (x:=⟨f,t,n,o,l⟩) (by unfold Chk.range;dsimp only;omega));go_enter Tryz.func18,Tryz.ntmps18;go_wp2_with fail;refine(refIn_t (n:=f) (a:=1) (b:=30) (by omega) _).mono ?_;rintro e u ⟨rfl,rfl⟩;go_wp2_with fail;refine(refIn_t (n:=t) (a:=1) (b:=30) (by omega) _).mono ?_;rintro e u ⟨rfl,rfl⟩;go_wp2_with fail;refine(refIn_f (n:=o) (a:=1) (b:=52) (by omega) _).mono ?_;rintro e u ⟨rfl,rfl⟩;exact x73o
 by_cases h1:n<(0:Int)
 ·have hz:=qH (chkCheck_bad (x:=⟨f,t,n,o,l⟩) (by unfold Chk.range;dsimp only;omega));go_enter Tryz.func18,Tryz.ntmps18;go_wp2_with fail;refine(refIn_t (n:=f) (a:=1) (b:=30) (by omega) _).mono ?_;rintro e u ⟨rfl,rfl⟩;go_wp2_with fail;refine(refIn_t (n:=t) (a:=1) (b:=30) (by omega) _).mono ?_;rintro e u ⟨rfl,rfl⟩;go_wp2_with fail;refine(refIn_t (n:=o) (a:=1) (b:=52) (by omega) _).mono ?_;rintro e u ⟨rfl,rfl⟩;exact x73o
 by_cases h1:o<=n
 ·have hz:=qH (chkCheck_bad (x:=⟨f,t,n,o,l⟩) (by unfold Chk.range;dsimp only;omega));go_enter Tryz.func18,Tryz.ntmps18;go_wp2_with fail;refine(refIn_t (n:=f) (a:=1) (b:=30) (by omega) _).mono ?_;rintro e u ⟨rfl,rfl⟩;go_wp2_with fail;refine(refIn_t (n:=t) (a:=1) (b:=30) (by omega) _).mono ?_;rintro e u ⟨rfl,rfl⟩;go_wp2_with fail;refine(refIn_t (n:=o) (a:=1) (b:=52) (by omega) _).mono ?_;rintro e u ⟨rfl,rfl⟩;exact x73o
 have hr:Chk.range ⟨f,t,n,o,l⟩:=by unfold Chk.range;dsimp only;omega
 have HR:=qH hr;clear hr;have hw:IntKind.i64.wrap (o-1)=o-1:=IntWalk.i64_in _ (by omega);by_cases g1:n=o-1
 ·have q1:(n==o-1)=true:=by simp[g1]
  by_cases g2:l.length=0∨16<l.length
  ·have hz:=qH (chkCheck_form HR.out (fun e=>by have:=full_len.1 e;omega));have I:=qH (fun w=>refIn_f (n:=(l.length:Int)) (a:=1) (b:=16) (by omega) w);exact x4lb
  have hz:=qH (chkCheck_fine HR.out (full_len.2 ⟨by omega,by omega,fun h=>by omega⟩));have I:=qH (fun w=>refIn_t (n:=(l.length:Int)) (a:=1) (b:=16) (by omega) w);exact x4lb
 have q1:(n==o-1)=false:=beq_eq_false_iff_ne.2 g1;by_cases g2:l.length=16
 ·have hz:=qH (chkCheck_fine HR.out (full_len.2 ⟨by omega,by omega,fun h=>g2⟩));have I:=qH (fun w=>refIn_t (n:=(l.length:Int)) (a:=16) (b:=16) (by omega) w);exact x4lb
 have hz:=qH (chkCheck_form HR.out (fun e=>by have:=(full_len.1 e).2.2 (by omega);omega));have I:=qH (fun w=>refIn_f (n:=(l.length:Int)) (a:=16) (b:=16) (by omega) w);exact x4lb
theorem refChkCheckX_calls(A:OA)(c:Nat)(x:Chk)(w:World)(h:I64 x.n∧I64 x.of_):
  Calls Tryz.prog 18 #[.agg (chkA x.from_ x.to_ x.n x.of_ A x.data.length c)] w (RetB w (iv (chkCheck x))):=refChkCheck_calls A c x.from_ x.to_ x.n x.of_ x.data w h.1 h.2
theorem refChkList_calls(A:OA)(c:Nat)(l:List Chk)(w:World)(hl:l.length<=2513169434843)(hs:Chs w A l):
  Calls Tryz.prog 49 #[.slice A l.length c] w (RetB w (iv (chkList l))):=by
 have HS:=qH hs;clear hs;obtain⟨r,hr⟩:=eX (chkList l);rw[hr];have HR:Hid (listGo none l=r):=qH hr;clear hr;go_enter Tryz.func49,Tryz.ntmps49;go_wp2_with fail;go_loopw [9,3] (fun i z wr=>∃(k:Nat) (m:Int),k<=l.length∧i=iv k∧z=iv m∧Hid (listGo ((l.take k).getLast?) (l.drop k)=r)∧Hid (k=0->m= -1)∧Hid (∀q,(l.take k).getLast?=some q->q.n=m∧∀x0,l[0]?=some x0->kin x0 q)∧Hid (Below w.heap.size w wr)) (fun i _ _=>l.length-(intOf i).toNat)
 case atStart=>exact⟨0,-1,Nat.zero_le _,rfl,rfl,qH HR.out,qH (fun _=>rfl),qH (fun q e=>by simp at e),qH (Below.refl _ _)⟩
 case round=>
  rename World=>wr;obtain⟨k,m,hk,rfl,rfl,HE,HM1,HQ,HB⟩:=hrel;have hsz:=HB.out.size;by_cases hlt:k<l.length
  ·obtain⟨b,o,B,cx,rfl,hb,hat,hin⟩:=HS.out.chk hlt;have hdr:l.drop k=l[k]::l.drop (k+1):=List.drop_eq_getElem_cons hlt;have hlast:(l.take (k+1)).getLast?=some l[k]:=by rw[List.take_succ_eq_append_getElem hlt,List.getLast?_concat]
   obtain⟨x0,hx1⟩:∃x0,l[0]?=some x0:=⟨_,List.getElem?_eq_getElem (by omega)⟩;have hat1:∃D d,ChkAt w b o x0 D d:=by
    obtain⟨b',o',D,d,e,_,h1,_⟩:=HS.out.chk (i:=0) (by omega);injection e with e;injection e with e1 e2;subst e1 e2;rw[List.getElem?_eq_getElem (by omega)]at hx1;injection hx1 with hx1;rw[hx1]at h1;exact⟨D,d,by simpa using h1⟩
   obtain⟨D1,d1,hat1⟩:=hat1;have h3:k=0->l[k]=x0:=fun e=>by
    subst e;rw[List.getElem?_eq_getElem (by omega)]at hx1;injection hx1
   obtain⟨x,hx⟩:=eX (l[k]);rw[hx]at hdr hlast hat hin h3;rw[hdr]at HE;obtain⟨p,hp⟩:=eX ((l.take k).getLast?);rw[hp]at HE HQ;have HX1:=qH hx1;have HFOL:Hid (chkCheck x=0->(follows p x↔kin x0 x∧m<x.n)):=qH (fun hck=>by
    by_cases hk1:k=0
    ·have e1:p=none:=by rw[<-hp,hk1];simp
     have e2:=HM1.out hk1;have e3:=h3 hk1;obtain⟨⟨_,_,_,_,_,_,h1,_⟩,_⟩:=chkCheck_ok.1 hck;subst e1 e2 e3;exact⟨fun _=>⟨kin_refl _,by omega⟩,fun _ q e=>by cases e⟩
    obtain⟨q,hq⟩:∃q,p=some q:=by
     rw[<-hp,List.getLast?_take,if_neg hk1,List.getElem?_eq_getElem (by omega)];exact⟨_,rfl⟩
    obtain⟨g1,g2⟩:=HQ.out q hq;have g2:=g2 x0 hx1;subst hq g1;constructor
    ·intro h;obtain⟨h1,h2⟩:=h q rfl;exact⟨kin_trans g2 h1,h2⟩
    rintro⟨h1,h2⟩ z e;injection e with e;subst e;exact⟨kin_trans (kin_symm g2) h1,h2⟩)
   have HLAST:=qH hlast;have hat2:=hat.stays hb HB.out;have hat3:=hat1.stays hb HB.out;obtain⟨c5,c1,c2,c3,c4⟩:=hat2;obtain⟨y5,y1,y2,y3,y4⟩:=hat3;have HK:=qH (fun w=>refChkCheckX_calls B cx x w ⟨hin.i2,hin.i3⟩);have hblt:b<wr.heap.size:=by omega
   have dl:decide ((k:Int)<(l.length:Int))=true:=decide_eq_true (by omega);have hwk:IntKind.i64.wrap ((k:Int)+1)=(k:Int)+1:=IntWalk.i64_in _ (by omega);have hl1:¬(l.length:Int)<=0:=by omega
   have hne:¬l=[]:=fun e=>by rw[e]at hlt;simp at hlt
   clear hdr hlast hx hp hat hin hat1 h3 hx1 HM1 HQ;by_cases hck:chkCheck x≠0
   ·exact x1vz
   have hck:=Decidable.not_not.1 hck;have HCK:=qH hck;have HFO:=qH (HFOL.out hck);rw[hck]at HK;clear hck HFOL;go_wp2_with fail;refine(HK.out _).mono ?_;rintro e w1 ⟨rfl,hb1⟩;have a1:=kp (wr.heap.size) (chkA x.from_ x.to_ x.n x.of_ B x.data.length cx) hb1;have hbb:Below wr.heap.size wr w1:=by
    refine Below.trans ?_ (hb1.mono (by first|omega|(simp<;>omega)));exact x9q7
   have HB1:Hid (Below w.heap.size w w1):=qH (HB.out.trans (hbb.mono hsz));have y5:=(hbb.cell (p:=⟨b,o,none⟩) hblt).trans y5;have y1:=(hbb.cell (p:=⟨b,o+1,none⟩) hblt).trans y1;have y3:=(hbb.cell (p:=⟨b,o+3,none⟩) hblt).trans y3;have hs1:=HB1.out.size;have hs2:=hbb.size;have hbl1:b<w1.heap.size:=by omega
   clear hb1 hbb c5 c1 c2 c3 c4 y2 y4;go_upto_region 8 with fail
   obtain⟨v4,hv4⟩:∃v,(x.from_ !=x0.from_)=v:=⟨_,rfl⟩;obtain⟨v1,hv1⟩:∃v,(x.to_ !=x0.to_)=v:=⟨_,rfl⟩;obtain⟨v2,hv2⟩:∃v,(x.of_ !=x0.of_)=v:=⟨_,rfl⟩;obtain⟨v3,hv3⟩:∃v,decide (x.n<=m)=v:=⟨_,rfl⟩;have HV:Hid ((v4 || v1 || v2 || v3)=true↔¬(kin x0 x∧m<x.n)):=qH (by
    have hki:kin x0 x↔x0.from_=x.from_∧x0.to_=x.to_∧x0.of_=x.of_:=Iff.rfl;rw[hki,<-hv4,<-hv1,<-hv2,<-hv3];simp only[Bool.or_eq_true,bne_iff_ne,ne_eq,decide_eq_true_eq];omega)
   go_cut [48] (fun v wx=>v=.bool (v4 || v1 || v2 || v3)∧Hid (Below w1.heap.size w1 wx))
   case first=>
    clear hs1 hs2 hsz hbl1 HFO HV HE
    cases v4<;>cases v1<;>cases v2<;>cases v3<;>(
     go_quiet (fail)
     go_wp2_with fail;go_meet
     case rel=>exact⟨rfl,qH (below_drewN _ _)⟩)
   case rest=>
   obtain⟨rfl,hcb⟩:=hcut;have HB1:=bT HB1 hcb.out;have a1:=keep1 (g:=wr.heap.size) (cs:=chkA x.from_ x.to_ x.n x.of_ B x.data.length cx) hcb.out a1.1 (by go_simp) a1.2.1;clear hv4 hv1 hv2 hv3 hcb y5 y1 y3;by_cases hf:kin x0 x∧m<x.n
   ·have hv:(v4 || v1 || v2 || v3)=false:=Bool.eq_false_iff.2 fun e=>HV.out.1 e hf;have HKI:=qH hf.1;have HZ:Hid (listGo (some x) (l.drop (k+1))=r):=qH (by rw[<-HE.out,listGo_next HCK.out (HFO.out.2 hf)]);rw[hv];clear hf hv HV;go_wp2_with fail;go_roundw
    case rel=>exact⟨k+1,x.n,by omega,by go_num,rfl,qH (by rw[HLAST.out];exact HZ.out),qH (fun e=>by omega),qH (fun q e=>by rw[HLAST.out]at e;injection e with e;subst e;exact⟨rfl,fun z hz=>by rw[HX1.out]at hz;injection hz with hz;subst hz;exact HKI.out⟩),HB1⟩
    case measure=>simp[intOf];omega
   have hv:(v4 || v1 || v2 || v3)=true:=HV.out.2 hf;have HZ:Hid (r=3):=qH (by rw[<-HE.out,listGo_form HCK.out (by rw[HFO.out];exact hf)]);rw[hv];clear hf hv HV;go_wp2_with fail;go_ret;exact⟨ret_int HZ.out.symm,HB1.out⟩
  have hz:r=0:=by rw[<-HE.out,List.drop_of_length_le (by omega)];rfl
  exact x8vr
theorem x0bh(h:Y:=by
 go_wp2_with fail;go_ret;have hgg:=HG.out;have hs:=HB3.out.size;refine⟨ret_int hz.out.symm,?_⟩;repeat (first|exact HB3.out|refine bA ?_ _)):Y:=h
theorem x5lm(h:Y:=by
 go_wp2_with fail;go_ret;have hgg:=HG.out;have hs:=HB2.out.size;refine⟨ret_int hz.out.symm,?_⟩;repeat (first|exact HB2.out|refine bA ?_ _)):Y:=h
theorem x75b(h:Y:=by
 go_wp2_with fail;go_ret;have hgg:=HG.out;have hs:=HBA.out.size;refine⟨ret_int hz.out.symm,?_⟩;repeat (first|exact HBA.out|refine bA ?_ _)):Y:=h
theorem refPatSameZ_calls(p:Pat)(B:OA)(c:Nat)(w:World)(hp:PatIn w p B c):Calls Tryz.prog 48 #[.agg (patA p.from_ p.to_ p.old p.new_ p.size B p.ops.length c),.agg (patA 0 0 0 0 0 none 0 0)] w (RetB w (.bool (decide (p=Pat.zero)))):=
 refPatSameA_calls B none c 0 p.from_ p.to_ p.old p.new_ p.size 0 0 0 0 0 p.ops [] w hp.len (by simp) hp.ops (Sps.nil _ _)
theorem run_min64(n:Int)(w:World):(Builtin.min_ #[3,3] 3 #[iv 64,iv n]).run Tryz.prog w=.ok (iv (min 64 n)) w:=by
 by_cases h:n<(64:Int)
 ·have e:min 64 n=n:=by omega
  rw[e];go_simp<;>omega
 have e:min 64 n=64:=by omega
 rw[e];go_simp<;>omega
theorem refDevCheck_calls(d:Dev)(L:DLoc)(w:World)(h:DevIn w d L):Calls Tryz.prog 17 #[.agg (devA d L)] w (RetB w (iv (devCheck d))):=by
 have HIN:=qH h;clear h;obtain⟨n,hn⟩:=eX (devCheck d);rw[hn];have HN:=qH hn;clear hn;have HBA:=qH ((bW w).alloc nl (.cells (devA d L) 38));obtain⟨g,hg⟩:=eX (w.heap.size);have HG:=qH hg;clear hg;go_enter Tryz.func17,Tryz.ntmps17;by_cases l2:d.s0.length=64
 case neg=>
  have q1:((d.s0.length:Int) !=64)=true:=by simp;omega
  have hz:Hid (n=3):=qH (HN.out.symm.trans (devCheck_is_len (.inl l2)));clear l2;exact x75b
 have q7:((d.s0.length:Int) !=64)=false:=by simp;omega
 by_cases l1:d.s1.length=64
 case neg=>
  have q1:((d.s1.length:Int) !=64)=true:=by simp;omega
  have hz:Hid (n=3):=qH (HN.out.symm.trans (devCheck_is_len (.inr l1)));clear l1 l2;exact x75b
 have q1:((d.s1.length:Int) !=64)=false:=by simp;omega
 have HL2:=qH l2;have HL1:=qH l1;clear l2 l1;go_wp2_with fail;refine(refCopies_calls d.c0 d.c1 _).mono ?_;rintro e w1 ⟨rfl,hb⟩;have a0r:rowOf (w.alloc (.cells (devA d L) 38)) w.heap.size=devA d L:=by rw[rowOf_alloc,if_pos rfl]
 have a0f:frOf (w.alloc (.cells (devA d L) 38)) w.heap.size=(0,0):=by rw[frOf_alloc,if_pos rfl]
 have HB1:=bT HBA hb;rw[HG.out]at a0r a0f⊢;obtain⟨a0r,a0f,a0n,a0c,a0z,a0l⟩:=keep1 (g:=g) (cs:=devA d L) hb a0r (by go_simp) a0f;clear hb q7 q1 HBA;by_cases hc:copCheck d.c0 d.c1=0
 case neg=>
  have q:(copCheck d.c0 d.c1 !=0)=true:=by simp[hc]
  have hz:Hid (n=copCheck d.c0 d.c1):=qH (HN.out.symm.trans (devCheck_is_cop HL2.out HL1.out hc));generalize copCheck d.c0 d.c1=e1 at *
  clear hc;go_wp2_with fail;go_ret;have hgg:=HG.out;have hs:=HB1.out.size;refine⟨ret_int hz.out.symm,?_⟩;repeat (first|exact HB1.out|refine bA ?_ _)
 rw[hc];have HC:=qH hc;clear hc;go_upto_region 6 with fail
 obtain⟨idle,hidle⟩:∃b,decide (d.done=0∧d.job=Pat.zero)=b:=⟨_,rfl⟩;have HID:=qH hidle;clear hidle;go_cut [4] (fun v wx=>v=.bool idle∧Hid (Below w1.heap.size w1 wx))
 case first=>
  by_cases hd:d.done=0
  ·have q1:(d.done==0)=true:=by simp[hd]
   have hres:decide (d.job=Pat.zero)=idle:=by rw[<-HID.out];simp[hd]
   clear hd;go_wp2_with fail;refine(refPatSameZ_calls d.job L.aj L.cj w1 (HIN.out.job.stays HB1.out)).mono ?_;rintro e w2 ⟨rfl,hb⟩;rw[hres];have HB2:=qH hb;clear hb;go_wp2_with fail;go_meet
   case rel=>exact⟨rfl,HB2⟩
  have q1:(d.done==0)=false:=by simp[hd]
  have hres:idle=false:=by rw[<-HID.out];simp[hd]
  clear hd;exact x74k
 case rest=>
 obtain⟨rfl,hb⟩:=hcut;obtain⟨a0r,a0f,a0n,a0c,a0z,a0l⟩:=keep1 (g:=g) (cs:=devA d L) hb.out a0r (by go_simp) a0f;have HB2:=bT HB1 hb.out;clear hb HB1;have HIZ:Hid (idle=false->d.done≠0∨d.job≠Pat.zero):=qH (fun e=>by
  have:=HID.out;rw[e]at this;by_cases h1:d.done=0
  ·exact .inr (fun h2=>of_decide_eq_false this ⟨h1,h2⟩)
  exact .inl h1)
 have HIO:Hid (idle=true->d.done=0∧d.job=Pat.zero):=qH (fun e=>by have:=HID.out;rw[e]at this;exact of_decide_eq_true this);clear HID
 cases hu:d.up
 ·have E:=qH (HN.out.symm.trans (devCheck_is_off HL2.out HL1.out HC.out hu));by_cases c1:d.running=0
  ·have q1:(d.running !=0)=false:=by simp[c1]
   by_cases c2:d.got=[]
   ·have q2:decide ((0:Int)<(d.got.length:Int))=false:=by rw[c2];simp
    cases c3:d.busy
    ·cases c4:idle
     ·have hz:Hid (n=3):=qH (E.out.trans (if_pos (.inr (.inr (.inr (HIZ.out c4))))));clear c1;exact x5lm
     ·have hz:Hid (n=0):=qH (E.out.trans (if_neg (by rintro (h|h|h|h|h);exact h c1;exact h c2;rw[c3]at h;cases h;exact h (HIO.out c4).1;exact h (HIO.out c4).2)));clear c1;exact x5lm
    have hz:Hid (n=3):=qH (E.out.trans (if_pos (.inr (.inr (.inl c3)))));clear c1;exact x5lm
   have q2:decide ((0:Int)<(d.got.length:Int))=true:=decide_eq_true (by have:=List.length_pos_iff.2 c2;omega);have hz:Hid (n=3):=qH (E.out.trans (if_pos (.inr (.inl c2))));have c2n:0<d.got.length:=List.length_pos_iff.2 c2;clear c1;exact x5lm
  have q1:(d.running !=0)=true:=by simp[c1]
  have hz:Hid (n=3):=qH (E.out.trans (if_pos (.inl c1)));clear c1;exact x5lm
 have hact:=rec_active (recRead_ok HC.out);have hok:=recRead_ok HC.out;have hnw:=refNewest_ok HC.out;have KN:=qH (fun w=>newest_calls d.c0 d.c1 w);rw[hnw]at KN;have HIM:=qH (fun w h=>imageOf_calls d L w h HL2.out HL1.out HC.out);have hrec:(recRead d.c0 d.c1).1=d.rec_:=rfl;have E:=qH (HN.out.symm.trans (devCheck_is_up HL2.out HL1.out HC.out hu));rw[hrec]at KN hact hok E;obtain⟨rk,hrk⟩:=eX ((recRead d.c0 d.c1).2);rw[hrk]at KN;generalize d.rec_=r at *
 obtain⟨a,ha,ha1⟩:∃a:Nat,r.active=(a:Int)∧a<=1:=⟨r.active.toNat,by omega,by omega⟩;have HOK:=qH hok;have HA:=qH ha;clear hrec hrk hnw hok hact ha HN;go_wp2_with fail;refine(KN.out _).mono ?_;rintro e w2 ⟨rfl,hb⟩;obtain⟨a0r,a0f,a0n,a0c,a0z,a0l⟩:=keep1 (g:=g) (cs:=devA d L) hb a0r (by go_simp) a0f;have HB3:=bT HB2 hb;clear hb KN HB2;go_upto_region 12 with fail
 obtain⟨w4,hw1⟩:=eX (w2.alloc (.cells (recA r) 29));have hb:Below w2.heap.size w2 w4:=by rw[<-hw1];exact bL _
 have r0r:rowOf w4 w2.heap.size=recA r:=by rw[<-hw1,rowOf_alloc,if_pos rfl]
 have r0f:frOf w4 w2.heap.size=(0,0):=by rw[<-hw1,frOf_alloc,if_pos rfl]
 obtain⟨a0r,a0f,a0n,a0c,a0z,a0l⟩:=keep1 (g:=g) (cs:=devA d L) hb a0r (by go_simp) a0f;have HB2:=bT HB3 hb;rw[hw1];obtain⟨gr,hgr⟩:=eX (w2.heap.size);rw[hgr]at r0r r0f⊢;clear hw1 hb hgr HB3;obtain⟨r0r,r0f,r0n,r0c,r0z,r0l⟩:=keep1 (bW w4) r0r (by simp[recA]) r0f;go_cut [78] (fun v wx=>v=.bool (decide (d.running<0∨1<d.running∨(d.running≠r.active∧r.trying=false)))∧Hid (Below w4.heap.size w4 wx))
 case first=>
  by_cases c1:0<=d.running∧d.running<=1
  ·have KI:=qH (fun w=>refIn_t (n:=d.running) (a:=0) (b:=1) c1 w)
   cases c2:r.trying
   ·by_cases c3:d.running=r.active
    ·have q1:(d.running !=r.active)=false:=by simp[c3]
     have hres:decide (d.running<0∨1<d.running∨(d.running≠r.active∧r.trying=false))=false:=decide_eq_false (by rintro (h|h|h);omega;omega;exact h.1 c3);clear c1 c3;go_wp2_with fail;refine(KI.out _).mono ?_;rintro e w3 ⟨rfl,rfl⟩;exact x74k
    ·have q2:(d.running !=r.active)=true:=by simp[c3]
     have hres:decide (d.running<0∨1<d.running∨(d.running≠r.active∧r.trying=false))=true:=decide_eq_true (.inr (.inr ⟨c3,c2⟩));clear c1 c3;go_wp2_with fail;refine(KI.out _).mono ?_;rintro e w3 ⟨rfl,rfl⟩;exact x74k
   have hres:decide (d.running<0∨1<d.running∨(d.running≠r.active∧r.trying=false))=false:=decide_eq_false (by rintro (h|h|h);omega;omega;rw[c2]at h;cases h.2);clear c1;go_wp2_with fail;refine(KI.out _).mono ?_;rintro e w3 ⟨rfl,rfl⟩;exact x74k
  have KI:=qH (fun w=>refIn_f (n:=d.running) (a:=0) (b:=1) (by omega) w);have hres:decide (d.running<0∨1<d.running∨(d.running≠r.active∧r.trying=false))=true:=decide_eq_true (by omega);clear c1;go_wp2_with fail;refine(KI.out _).mono ?_;rintro e w3 ⟨rfl,rfl⟩;exact x74k
 case rest=>
 obtain⟨rfl,hb⟩:=hcut;obtain⟨a0r,a0f,a0n,a0c,a0z,a0l⟩:=keep1 (g:=g) (cs:=devA d L) hb.out a0r (by go_simp) a0f;obtain⟨r0r,r0f,r0n,r0c,r0z,r0l⟩:=keep1 (g:=gr) (cs:=recA r) hb.out r0r (by simp[recA]) r0f;have HB3:=bT HB2 hb.out;clear hb HB2;by_cases c1:d.running<0∨1<d.running∨(d.running≠r.active∧r.trying=false)
 ·have q:decide (d.running<0∨1<d.running∨(d.running≠r.active∧r.trying=false))=true:=decide_eq_true c1;have hz:Hid (n=2):=qH (E.out.trans (devUp_range c1));rw[q];clear c1 q;exact x0bh
 have q:decide (d.running<0∨1<d.running∨(d.running≠r.active∧r.trying=false))=false:=decide_eq_false c1;have HRG:=qH c1;rw[q];clear c1 q;go_wp2_with fail;refine(refChkList_calls L.ag L.cg d.got _ HIN.out.lg (HIN.out.got.stays HB3.out)).mono ?_;rintro e w3 ⟨rfl,hb⟩;obtain⟨a0r,a0f,a0n,a0c,a0z,a0l⟩:=keep1 (g:=g) (cs:=devA d L) hb a0r (by go_simp) a0f;obtain⟨r0r,r0f,r0n,r0c,r0z,r0l⟩:=keep1 (g:=gr) (cs:=recA r) hb r0r (by simp[recA]) r0f;have HB2:=bT HB3 hb;clear hb HB3;by_cases c1:chkList d.got=0
 case neg=>
  have q:(chkList d.got !=0)=true:=by simp[c1]
  have hz:Hid (n=chkList d.got):=qH (E.out.trans (devUp_list HRG.out c1));generalize chkList d.got=e1 at *
  clear c1;exact x5lm
 rw[c1];have HGT:=qH c1;clear c1
 cases c2:d.busy
 ·have E1:=qH (E.out.trans (devUp_idle HRG.out HGT.out c2))
  cases c4:idle
  ·have hz:Hid (n=3):=qH (E1.out.trans (if_pos (HIZ.out c4)));clear c4;exact x5lm
  have hz:Hid (n=0):=qH (E1.out.trans (if_neg (by rintro (h|h);exact h (HIO.out c4).1;exact h (HIO.out c4).2)));clear c4;exact x5lm
 have E1:=qH (E.out.trans (devUp_busy HRG.out HGT.out c2));clear E HRG HGT HIZ HIO;go_upto_region 21 with fail
 obtain⟨a',ha',ha2⟩:∃a':Nat,a+a'=1∧a'<=1:=⟨1-a,by omega,by omega⟩;have hsub:(1:Int)-(a:Int)=(a':Int):=by omega
 have hwr:IntKind.i64.wrap ((1:Int)-(a:Int))=(a':Int):=by rw[hsub];exact IntWalk.i64_in _ (by omega)
 obtain⟨bad,hbad⟩:∃b,decide (r.trying=true∨d.job.to_<r.floor∨d.job.from_≠(r.at_ r.active).ver∨(r.at_ (1-r.active)).ver≠0)=b:=⟨_,rfl⟩;have HBAD:=qH hbad;have hbad1:=hbad;rw[HA.out,hsub]at hbad1;have HBAD1:=qH hbad1;clear hbad hbad1;go_cut [121] (fun v wx=>v=.bool bad∧Hid (Below w3.heap.size w3 wx))
 case first=>
  have ha:=HA.out;have pv:=recA_ver r ha1;have pv1:=recA_ver r ha2;have z1:=(at_sizes HOK.out (a':Int)).2.2;have k1:(0:Int)<=(a:Int):=by omega
  have k2:(a:Int)<2:=by omega
  have k3:¬(2:Int)<=(a:Int):=by omega
  have k4:(0:Int)<=(a':Int):=by omega
  have k5:(a':Int)<2:=by omega
  have k6:¬(2:Int)<=(a':Int):=by omega
  clear HBAD
  cases c3:r.trying
  ·by_cases c1:d.job.to_<r.floor
   ·have hres:bad=true:=by rw[<-HBAD1.out];exact decide_eq_true (.inr (.inl c1))
    have q1:decide (d.job.to_<r.floor)=true:=decide_eq_true c1;clear c1 pv pv1;exact x02y
   ·have q2:decide (d.job.to_<r.floor)=false:=decide_eq_false c1;generalize (r.at_ (a:Int)).ver=x1 at *
    generalize (r.at_ (a':Int)).ver=x2 at *
    by_cases c2:d.job.from_=x1
    ·have q1:(d.job.from_ !=x1)=false:=by simp[c2]
     by_cases c4:x2=0
     ·have hres:bad=false:=by rw[<-HBAD1.out];exact decide_eq_false (by rintro (h|h|h|h);rw[c3]at h;cases h;exact c1 h;exact h c2;exact h c4)
      have q3:decide (0<x2)=false:=decide_eq_false (by omega);clear c1 c2 c4;exact x02y
     have hres:bad=true:=by rw[<-HBAD1.out];exact decide_eq_true (.inr (.inr (.inr c4)))
     have q3:decide (0<x2)=true:=decide_eq_true (by omega);clear c1 c2 c4;exact x02y
    have q1:(d.job.from_ !=x1)=true:=by simp[c2]
    have hres:bad=true:=by rw[<-HBAD1.out];exact decide_eq_true (.inr (.inr (.inl c2)))
    clear c1 c2 pv1;exact x02y
  have hres:bad=true:=by rw[<-HBAD1.out];exact decide_eq_true (.inl c3)
  clear pv pv1;exact x02y
 case rest=>
 obtain⟨rfl,hb⟩:=hcut;obtain⟨a0r,a0f,a0n,a0c,a0z,a0l⟩:=keep1 (g:=g) (cs:=devA d L) hb.out a0r (by go_simp) a0f;obtain⟨r0r,r0f,r0n,r0c,r0z,r0l⟩:=keep1 (g:=gr) (cs:=recA r) hb.out r0r (by simp[recA]) r0f;have HB3:=bT HB2 hb.out;clear hb HB2 HBAD1
 cases hbd:bad
 case true=>
  have hz:Hid (n=3):=qH (E1.out.trans (devBusy_form (of_decide_eq_true (HBAD.out.trans hbd))));clear hbd;exact x0bh
 have hnf:=of_decide_eq_false (HBAD.out.trans hbd);have hrest:=E1.out.trans (devBusy_rest hnf);clear hbd HBAD E1 hnf;obtain⟨img,himg⟩:=eX (d.image r.active r);rw[himg]at hrest HIM;have hil:img.length<=64:=by
  exact x2bx
 rw[HA.out,hsub]at hrest;have hpok:=@patDo_ok (sumOn 1) d.job img;obtain⟨⟨b,en⟩,hpd⟩:∃x,patDo (sumOn 1) d.job img=x:=⟨_,rfl⟩;rw[hpd]at hrest hpok;have HBL:Hid (en=0->b.length<=64∧(b.length:Int)=d.job.size∧d.job.size<=64):=qH (fun e=>by
  exact x6tj)
 dsimp only at hrest;have HR1:=qH hrest;have HPD:=qH hpd;clear hrest hpok hpd himg hsub;have RD:Hid (rowOf wc g=devA d L):=qH a0r;have FD:Hid (frOf wc g=(0,0)):=qH a0f;have KI:Hid (∀wq,Below wc.heap.size wc wq->Calls Tryz.prog 30 #[.agg (devA d L)] wq (ImRet wq img)):=qH (fun wq h=>HIM.out wq ((HIN.out.stays HB3.out).stays h));have KD:Hid (∀wq A c,Below wc.heap.size wc wq->img.length<=c->Bts wq A img->Calls Tryz.prog 29 #[.agg (patA d.job.from_ d.job.to_ d.job.old d.job.new_ d.job.size L.aj d.job.ops.length L.cj),.slice A img.length c] wq (ByRet2 wq b en)):=qH (fun wq A c h hc hb=>by
  have hq:=refDone_calls L.aj A L.cj c d.job img wq hc (by omega) hb ((HIN.out.job.stays HB3.out).stays h);rw[HPD.out]at hq;exact hq)
 go_wp2_with fail;have hq1:=fun v (h:Below wc.heap.size wc v)=>keep1 h RD.out (by go_simp) FD.out
 go_region_held3 (fun v=>Below wc.heap.size wc v) (first|exact hbb|exact(Below.refl _ _).drew)
  (first
    |(go_at_call 30;refine(KI.out _ (by assumption)).mono ?_;rintro e wj ⟨Aj,cj,rfl,h3,h4,h5⟩;have hbb:=(bW wc).drew.trans (h5.mono (by simp)))
    |(go_at_call 29;refine(KD.out _ _ _ (by assumption) h3 h4).mono ?_;rintro e w8 ⟨A2,c2',rfl,g1,g2,g9⟩;have hbb:=hbb.trans (g9.mono hbb.size)))
 have g3:=hbb;clear hbb g9 h3 h4 h5 hq1;obtain⟨a0r,a0f,a0n,a0c,a0z,a0l⟩:=keep1 (g:=g) (cs:=devA d L) g3 a0r (by go_simp) a0f;obtain⟨r0r,r0f,r0n,r0c,r0z,r0l⟩:=keep1 (g:=gr) (cs:=recA r) g3 r0r (by simp[recA]) r0f;have HB2:Hid (Below w.heap.size w w8):=qH (HB3.out.trans (g3.mono HB3.out.size));have HBB:=qH g1;have HC1:=qH g2;clear g1 g2 g3 KI KD RD FD HIM HB3 HPD;by_cases c1:en=0
 case neg=>
  have q:(en !=0)=true:=by simp[c1]
  have hz:Hid (n=en):=qH (HR1.out.trans (if_pos c1));clear c1;exact x5lm
 subst c1;obtain⟨b1,b2,b3⟩:=HBL.out rfl;have HR2:=qH (HR1.out.trans (if_neg (by decide)));have hw1:IntKind.i64.wrap (d.job.size+7)=d.job.size+7:=IntWalk.i64_in _ (by omega);have hmn:=run_min64 (d.job.size+7);have HSZ:=qH b3;have HB1:=qH b1;clear HR1 HBL b2;go_upto_region 26 with fail
 obtain⟨bad1,hbad1⟩:∃b,decide (d.done<0∨64<d.done∨d.done%8≠0∨d.job.size+8<=d.done)=b:=⟨_,rfl⟩;have HBAD:=qH hbad1;clear hbad1 b1 b3;go_cut [147] (fun v wx=>v=.bool bad1∧Hid (Below w8.heap.size w8 wx))
 case first=>
  have hsz:=HSZ.out;by_cases c1:0<=d.done∧d.done<=min 64 (d.job.size+7)
  ·have KI:=qH (fun w=>refIn_t (n:=d.done) (a:=0) (b:=min 64 (d.job.size+7)) c1 w);have hmod:d.done.tmod 8=d.done%8:=Int.tmod_eq_emod_of_nonneg c1.1;by_cases c2:d.done%8=0
   ·have q1:(d.done.tmod 8 !=0)=false:=by rw[hmod];simp[c2]
    have hres:bad1=false:=by rw[<-HBAD.out];exact decide_eq_false (by omega)
    clear c1 c2 hmod hsz;go_wp2_with fail;refine(KI.out _).mono ?_;rintro e w5 ⟨rfl,rfl⟩;exact x74k
   have q1:(d.done.tmod 8 !=0)=true:=by rw[hmod];simp[c2]
   have hres:bad1=true:=by rw[<-HBAD.out];exact decide_eq_true (.inr (.inr (.inl c2)))
   clear c1 c2 hmod hsz;go_wp2_with fail;refine(KI.out _).mono ?_;rintro e w5 ⟨rfl,rfl⟩;exact x74k
  have KI:=qH (fun w=>refIn_f (n:=d.done) (a:=0) (b:=min 64 (d.job.size+7)) (by omega) w);have hres:bad1=true:=by rw[<-HBAD.out];exact decide_eq_true (by omega)
  clear c1 hsz;go_wp2_with fail;refine(KI.out _).mono ?_;rintro e w5 ⟨rfl,rfl⟩;exact x74k
 case rest=>
 obtain⟨rfl,hb⟩:=hcut;obtain⟨a0r,a0f,a0n,a0c,a0z,a0l⟩:=keep1 (g:=g) (cs:=devA d L) hb.out a0r (by go_simp) a0f;obtain⟨r0r,r0f,r0n,r0c,r0z,r0l⟩:=keep1 (g:=gr) (cs:=recA r) hb.out r0r (by simp[recA]) r0f;have HB3:=bT HB2 hb.out;have HBB:=qH (HBB.out.stays hb.out);clear hb HB2 hw1 hmn
 cases hbd:bad1
 case true=>
  have hz:Hid (n=2):=qH (HR2.out.trans (if_pos (of_decide_eq_true (HBAD.out.trans hbd))));clear hbd;exact x0bh
 have hnb:=of_decide_eq_false (HBAD.out.trans hbd);have HR1:=qH (HR2.out.trans (if_neg hnb));obtain⟨dn',hdn⟩:∃dn':Nat,d.done=(dn':Int):=⟨d.done.toNat,by omega⟩;have hdt:d.done.toNat=dn':=by omega
 rw[hdt]at HR1;have hd1:dn'<=64:=by omega
 have HDN:=qH hdn;clear hbd HBAD HR2 hnb hdt;have hsl:=slot_len HL2.out HL1.out (a':Int);obtain⟨A1,c2,p1,p2,p3⟩:=devSlotA (HIN.out.stays HB3.out) ha2;generalize d.slot (a':Int)=sl at *
 have HP1:=qH p1;have HX:=qH p3;obtain⟨bx,ox,hax,-⟩:=p3 0 (by omega);have HSL:=qH (pre_slice (A:=A1) (n:=sl.length) (c:=c2) dn' hdn p2 (by omega) (by omega) ⟨bx,ox,hax⟩);have hrl:=room_len HB1.out;obtain⟨eq,heq⟩:=eX (decide (sl.take dn'=(room b).take dn'));have hlt1:(sl.take dn').length=dn':=by rw[List.length_take,hsl];omega
 have hlt2:((room b).take dn').length=dn':=by rw[List.length_take,hrl];omega
 have KQ:Hid (∀wq A c,Below wc.heap.size wc wq->dn'<=c->Bts wq A ((room b).take dn')->Calls Tryz.prog 9 #[.slice A1 dn' c2,.slice A dn' c] wq (RetB wq (.bool eq))):=qH (fun wq A c h hc hb=>by
  have hq:=(bytesEqual_calls A1 A c2 c (sl.take dn') ((room b).take dn') wq (by omega) (by omega) (mid_take (HX.out.stays h) dn') hb).mono (fun _ _ h=>h.to);rw[heq,hlt1,hlt2]at hq;exact hq)
 have HQ:=qH heq;have HRL:=qH hrl;obtain⟨rb,hrb⟩:=eX (room b);rw[hrb]at KQ HQ HRL HR1;have HRB:=qH hrb;have HKS:Hid ((0:Int)<=(a':Int)∧(a':Int)<2∧¬(2:Int)<=(a':Int)∧IntKind.i64.wrap ((1:Int)-(a:Int))=(a':Int)):=qH ⟨by omega,by omega,by omega,hwr⟩;clear hsl p1 p2 p3 hax hrl heq hlt1 hlt2 hrb hwr hdn;go_wp2_with fail;have RD:Hid (rowOf wc g=devA d L):=qH a0r;have FD:Hid (frOf wc g=(0,0)):=qH a0f;have RR:Hid (rowOf wc gr=recA r):=qH r0r;have FR:Hid (frOf wc gr=(0,0)):=qH r0f;refine wp_region_mix (by kernel_rfl) (some 148::some 149::some 150::some 151::some 152::some 153::some 154::some 155::some 156::some 157::some 158::some 159::some 160::some 161::some 162::some 163::[]) (none::none::none::none::none::none::none::none::none::none::some 0::none::none::some 1::some 2::some 3::[]) (.pointer (some ⟨gr,1,none⟩)::iv (a:Int)::iv (a':Int)::.pointer (some ⟨g,0,none⟩)::.pointer (some ⟨g,a',none⟩)::.slice A1 sl.length c2::.pointer (some ⟨g,36,none⟩)::iv d.done::.slice A1 dn' c2::.slice A2 b.length c2'::undef::.pointer (some ⟨g,36,none⟩)::iv d.done::undef::undef::undef::[]) 4 (rmJ wc rb dn' eq) 164 rfl rfl (by decide+kernel) (by decide+kernel) (by decide+kernel) (by decide+kernel) rfl rfl (by decide+kernel) (by decide+kernel) (rfl) ?_ ?_
 ·refine⟨?_,?_,?_,?_,?_,?_,?_,?_,?_,?_,?_,?_,?_,?_,?_,?_,trivial⟩
  ·exact x5uk
  ·intro done cv k2 a wq hw h hJ hn;have e1:=mN 0 148 h hw;exact x5ke
  ·intro done cv k1 a wq hw h hJ hn;have e1:=mN 1 149 h hw;exact x3t8
  ·exact x0dl
  ·intro done cv k1 a wq hw h hJ hn;have e1:=mN 3 151 h hw;have e150:=mN 2 150 h hw;exact x3t8
  ·intro done cv k2 a wq hw h hJ hn;have e1:=mN 4 152 h hw;have y_:=kq (rmJ_bel hJ) RD FD;have e_:=HP1.out;go_simp
  ·exact x9ik
  ·intro done cv k2 a wq hw h hJ hn;have e1:=mN 6 154 h hw;exact x1ex
  ·intro done cv k1 a wq hw h hJ hn;have e1:=mN 5 153 h hw;have e155:=mN 7 155 h hw;have hs_:=HSL.out;go_simp
  ·intro done cv k2 a wq hw h hJ hn;have e1:=mO 8 (.slice A2 b.length c2') h;exact mx_move (ch_ev e1)
  ·intro done cv a wq hw h hJ;have e1:=mN 9 157 h hw;obtain rfl:wq=wc.drew:=hJ;refine wp_call (vals:=#[.slice A2 b.length c2']) (by rw[List.map_toArray,List.map_cons,List.map_nil,ch_ev e1]) (enters_of Tryz.func31 (by kernel_rfl) rfl _ _) (filled_calls A2 c2' b _ HB1.out (HBB.out.stays (Below.refl _ _).drew)) ?_;rintro e w' ⟨A2,c3,rfl,hown,hbel⟩;rw[HRB.out]at hown⊢;exact⟨_,rfl,_,rfl,A2,c3,by simp,hown.src.bts,hown.le,(Below.refl _ _).drew.trans hbel⟩
  ·exact x9ik
  ·intro done cv k2 a wq hw h hJ hn;have e1:=mN 11 159 h hw;exact x1ex
  ·intro done cv a wq hw h hJ;have e1:=mx_cv (i:=10) (t:=158) h (hw 10 (by decide)) rfl rfl;have e160:=mN 12 160 h hw;obtain⟨A2,c3,y1,g1,g2,g3⟩:=hJ;rw[y1]at e1;obtain⟨by_,oy_,hay,-⟩:=g1 0 (by rw[HRL.out];omega);have hs_:=pre_slice (z:=d.done) dn' HDN.out g2 (by rw[HRL.out];omega) (by rw[HRL.out];omega) ⟨by_,oy_,hay⟩;clear hay;refine wp_val (v:=.slice A2 dn' c3) (by go_simp) ⟨_,rfl,A2,c3,by simp,mid_take g1 dn',by rw[HRL.out]at g2;omega,g3⟩
  ·intro done cv a wq hw h hJ;have e1:=mN 8 156 h hw;have e161:=mx_cv (i:=13) (t:=161) h (hw 13 (by decide)) rfl rfl;obtain⟨A2,c3,y1,g1,g2,g3⟩:=hJ;rw[y1]at e161;refine wp_call (vals:=#[.slice A1 dn' c2,.slice A2 dn' c3]) (by rw[List.map_toArray,List.map_cons,List.map_cons,List.map_nil,ch_ev e1,ch_ev e161]) (enters_of Tryz.func9 (by kernel_rfl) rfl _ _) (KQ.out _ _ _ g3 g2 g1) ?_;rintro e w' ⟨rfl,hbel⟩;exact⟨_,rfl,_,rfl,by simp,g3.trans (hbel.mono g3.size)⟩
  ·intro done cv a wq hw h hJ;have e1:=mx_cv (i:=14) (t:=162) h (hw 14 (by decide)) rfl rfl;exact x1dh
 intro cv1 w5 hJ;obtain⟨y1,hb⟩:=hJ;simp only[mixAll,putAll_some,putAll_none,putAll_nil,List.getElem?_cons_zero,List.getElem?_cons_succ,Nat.zero_add,Nat.reduceAdd,List.setIfInBounds_toArray,List.set_cons_zero,List.set_cons_succ];rw[y1];have HB2:=bT HB3 hb;clear hb y1
 cases eq
 ·have hz:Hid (n=3):=qH (HR1.out.trans (if_pos (by have:=HQ.out;simpa using this)));exact x5lm
 have hz:Hid (n=0):=qH (HR1.out.trans (if_neg (by have:=HQ.out;simpa using this)));exact x5lm
theorem refWorCheck_calls(x:Wor)(L:WLoc)(w:World)(h:WorIn w x L):Calls Tryz.prog 6 #[.agg (worA x L)] w (RetB w (iv (worCheck x))):=by
 have HBA:=qH ((bW w).alloc nl (.cells (worA x L) 40));have HIN:=qH h;have K1:=qH (fun w h=>refReleases_calls L.ar L.cr x.rel w HIN.out.lr h);have K2:=qH (fun w h=>refDevCheck_calls x.d L.l w h);obtain⟨n,hn⟩:=eX (worCheck x);rw[hn];have HN:=qH hn;obtain⟨e1,he1⟩:∃e,relCheck x.rel=e:=⟨_,rfl⟩;obtain⟨e2,he2⟩:∃e,devCheck x.d=e:=⟨_,rfl⟩;rw[he1]at K1;rw[he2]at K2;have HE1:=qH he1;have HE2:=qH he2;clear h hn he1 he2;go_enter Tryz.func6,Tryz.ntmps6;go_wp2_with fail;refine(K1.out _ (HIN.out.rel.stays HBA.out)).mono ?_;rintro e w3 ⟨rfl,hb⟩;have a1:=kp (w.heap.size) (worA x L) hb;have HB3:=bT HBA hb;clear hb;by_cases c1:e1≠0
 ·have hz:Hid (n=e1):=qH (by rw[<-HN.out,worCheck_rel (by rw[HE1.out];exact c1),HE1.out]);have q:(e1 !=0)=true:=by simp[c1]
  clear c1;go_wp2_with fail;go_ret;have hs:=HB3.out.size;refine⟨ret_int hz.out.symm,?_⟩;exact x0ap
 have c1:=Decidable.not_not.1 c1;subst c1;go_wp2_with fail;refine(K2.out _ (HIN.out.dev.stays HB3.out)).mono ?_;rintro e w1 ⟨rfl,hb⟩;have a1:=kr a1 hb;have HB1:=bT HB3 hb;clear hb;by_cases c2:e2≠0
 ·have hz:Hid (n=e2):=qH (by rw[<-HN.out,worCheck_dev HE1.out (by rw[HE2.out];exact c2),HE2.out]);have q:(e2 !=0)=true:=by simp[c2]
  clear c2;go_wp2_with fail;go_ret;have hs:=HB1.out.size;refine⟨ret_int hz.out.symm,?_⟩;exact x0ap
 have c2:=Decidable.not_not.1 c2;subst c2;by_cases c3:120<x.net.length
 ·have hz:Hid (n=1):=qH (by rw[<-HN.out,worCheck_many HE1.out HE2.out c3]);have q:(120:Int)<(x.net.length:Int):=by omega
  go_wp2_with fail;go_ret;have hs:=HB1.out.size;refine⟨ret_int hz.out.symm,?_⟩;exact x0ap
 have q3:¬(120:Int)<(x.net.length:Int):=by omega
 have HN1:Hid (netCheck x.net=n):=qH (by rw[<-HN.out,worCheck_net HE1.out HE2.out c3]);have hcap:(x.net.length:Int)<=(L.cn:Int):=by have:=HIN.out.kn;omega
 have HNT:=qH HIN.out.net;go_wp2_with fail;generalize L.an=an at *
 go_loopw [27] (fun i wr=>∃k:Nat,k<=x.net.length∧i=iv k∧Hid (netCheck (x.net.drop k)=n)∧Hid (Below w.heap.size w wr)) (fun i _=>x.net.length-(intOf i).toNat)
 case atStart=>exact⟨0,Nat.zero_le _,rfl,qH (by rw[List.drop_zero];exact HN1.out),HB1⟩
 case round=>
  clear HB1 HN1 a1;rename World=>wr;obtain⟨k,hk,rfl,HE,HB⟩:=hrel;have hsz:=HB.out.size;by_cases hlt:k<x.net.length
  ·obtain⟨b,o,B,c,rfl,hb,hck,hin⟩:=(HNT.out.stays HB.out).chk hlt;obtain⟨y,hy⟩:=eX (x.net[k]);rw[hy]at hck hin;obtain⟨q6,q1,q2,q4,q5⟩:=hck;have hdr:x.net.drop k=y::x.net.drop (k+1):=by rw[List.drop_eq_getElem_cons hlt,hy]
   have hne:=HE.out;rw[hdr,netCheck_cons]at hne;have HNE:=qH hne;have KC:=qH (fun w=>refChkCheckX_calls B c y w ⟨hin.i2,hin.i3⟩);exact x61q
  obtain rfl:k=x.net.length:=by omega
  have dl:decide ((x.net.length:Int)<(x.net.length:Int))=false:=by simp
  have hz:Hid (n=0):=qH (by have:=HE.out;rw[List.drop_length]at this;exact this.symm);go_wp2_with fail;go_ret;have hs:=HB.out.size;refine⟨ret_int hz.out.symm,?_⟩;exact x0ap
@[go_sem] theorem aggSzHap:aggSz Tryz.prog 54=2:=by kernel_rfl
theorem ims_three{g0 g1 g2 g3:Nat}(h0:∃t f,w.heap[g0]?=some (.cells (im0.map bv).toArray t f))(h1:∃t f,w.heap[g1]?=some (.cells (im1.map bv).toArray t f))(h2:∃t f,w.heap[g2]?=some (.cells (im2.map bv).toArray t f))
  (h3:∃t f,w.heap[g3]?=some (.cells #[.slice (some ⟨g0,0,none⟩) 8 8,.slice (some ⟨g1,0,none⟩) 9 9,.slice (some ⟨g2,0,none⟩) 11 11] t f)):Ims w (some ⟨g3,0,none⟩) ims:=by
 obtain⟨_,_,h4⟩:=h0;obtain⟨_,_,h1⟩:=h1;obtain⟨_,_,h2⟩:=h2;obtain⟨_,_,h3⟩:=h3;intro i hi;have hi1:i<3:=hi;refine⟨g3,0,rfl,blk_lt h3,?_⟩;have hc:=fun j=>cell_of_row w g3 j _ _ _ h3
 match i,hi1 with
 |0,_=>exact⟨[.slice (some ⟨g0,0,none⟩) 8 8],rfl,(fun j hj=>by
  obtain rfl:j=0:=by simpa using hj
  simp[hc]),⟨_,8,rfl,nl,Nat.le_of_ble_eq_true rfl,bts_blk h4 rfl⟩⟩
 |1,_=>exact⟨[.slice (some ⟨g1,0,none⟩) 9 9],rfl,(fun j hj=>by
  obtain rfl:j=0:=by simpa using hj
  simp[hc]),⟨_,9,rfl,nl,Nat.le_of_ble_eq_true rfl,bts_blk h1 rfl⟩⟩
 |2,_=>exact⟨[.slice (some ⟨g2,0,none⟩) 11 11],rfl,(fun j hj=>by
  obtain rfl:j=0:=by simpa using hj
  simp[hc]),⟨_,11,rfl,nl,Nat.le_of_ble_eq_true rfl,bts_blk h2 rfl⟩⟩
def IsRet(w:World):Ending->World->Prop:=fun en w'=>
 ∃A c,en=.returned (.slice A ims.length c)∧ims.length<=c∧Ims w' A ims∧Below w.heap.size w w'
theorem lawImages_calls(w:World):Calls Tryz.prog 20 #[] w (IsRet w):=by
 have kc:=convert_const (P:=Tryz.prog) 23 5 Tryz.underlying23 Tryz.underlying5;go_enter Tryz.func20,Tryz.ntmps20;go_wp2_with fail;go_ret;refine⟨some ⟨w.heap.size+1+1+1,0,none⟩,3,rfl,nl,ims_three (g0:=w.heap.size) (g1:=w.heap.size+1) (g2:=w.heap.size+1+1) ?_ ?_ ?_ ?_,?_⟩
 ·exact⟨_,_,blk_old (blk_old (blk_old (blk_top (by simp))))⟩
 ·exact⟨_,_,blk_old (blk_old (blk_top (by simp)))⟩
 ·exact⟨_,_,blk_old (blk_top (by simp))⟩
 ·exact⟨_,_,blk_top (by simp)⟩
 exact((((Below.refl _ _).alloc (by simp) _).alloc (by simp) _).alloc (by simp;omega) _).alloc (by simp;omega) _
theorem x6bz(h:Y:=by
 go_wp2_with fail;go_roundw
 case rel=>exact⟨k+1,ds.set k (B,d),by omega,by go_num,HR2,HN1,HBB⟩
 case measure=>simp[intOf];omega):Y:=h
theorem x6wy(h:Y:=by
 obtain rfl:k=l.length:=by omega
 have dl:decide ((l.length:Int)<(l.length:Int))=false:=by simp
 go_wp2_with fail;go_ret;exact⟨A1,c1,ds,rfl,HR.out,fun i o d h1 h2 hx q hq=>HN.out i o d (List.getElem?_eq_some_iff.1 h1).1 h1 h2 hx q hq,HB.out⟩):Y:=h
theorem x9r5(h:Y:=by
 rw[List.getElem?_set]at h2;by_cases hjk:k=j
 ·by_cases hdl:k<ds.length
  ·rw[if_pos hjk,if_pos hdl]at h2;injection h2 with h2;subst h2;have:=hgw q hq;omega
  ·rw[if_pos hjk,if_neg hdl]at h2;cases h2
 rw[if_neg hjk]at h2;exact HN.out j o d' (by omega) h1 h2 hx q hq):Y:=h
def KrRet{α:Type}(K:Kd α)(w:World)(l:List α):Ending->World->Prop:=fun en w'=>
 ∃A c ds,en=.returned (.slice A l.length c)∧GRow K w' w.heap.size l ds A c∧Each K l ds (fun k=>w.heap.size<=k)∧Below w.heap.size w w'
theorem images_calls(A:OA)(c:Nat)(l:List (List UInt8))(w:World)(hl:l.length<=5864062014634)(hs:Ims w A l):
  Calls Tryz.prog 51 #[.slice A l.length c] w (KrRet kImg w l):=by
 obtain⟨ds1,hg⟩:=hs.gsrc;have hbd:=hs.bound;have HBD:=qH hbd;have HG:=qH hg;have K1:=qH (cloneRows_calls A l.length c (kImg.cells l ds1) w (cells_len _ _ hg.len) (by omega) hg.row (cells_oneCell _ _));clear hs hg hbd;go_enter Tryz.func51,Tryz.ntmps51;go_wp2_with fail;refine K1.out.mono ?_;rintro e w1 ⟨A1,c1,rfl,hown,hb1⟩;have hrow:GRow kImg w1 w.heap.size l ds1 A1 c1:=⟨HG.out.len,hown,(HG.out.stays hb1).data,fun i o d h1 h2 hx k hk e=>by
  have:=HG.out.each i o d h1 h2 hx k hk;have:=(hown.block k e).1;omega⟩
 have HR1:=qH hrow;have HB1:Hid (Below w.heap.size w w1):=qH hb1;clear hown hb1 hrow K1;go_wp2_with fail;go_loopw [9] (fun i wr=>∃(k:Nat) (ds:List (Option Addr×Nat)),k<=l.length∧i=iv k∧Hid (GRow kImg wr w.heap.size l ds A1 c1)∧Hid (∀(j:Nat) (o:(List UInt8)) (d:Option Addr×Nat),j<k->l[j]?=some o->ds[j]?=some d->kImg.dat o≠[]->∀q,d.1.map (·.block)=some q->w.heap.size<=q)∧Hid (Below w.heap.size w wr)) (fun i _=>l.length-(intOf i).toNat)
 case atStart=>exact⟨0,ds1,Nat.zero_le _,rfl,HR1,qH (fun j o d h=>by omega),HB1⟩
 case round=>
  clear HR1 HB1;rename World=>wr;obtain⟨k,ds,hk,rfl,HR,HN,HB⟩:=hrel;have hsz:=HB.out.size;by_cases hlt:k<l.length
  ·obtain⟨g,rfl,hg1,hg2⟩:=HR.out.row.form (by omega);have hlk:l[k]?=some l[k]:=List.getElem?_eq_getElem hlt;have hdk:ds[k]?=some (ds[k]'(by have:=HR.out.len;omega)):=List.getElem?_eq_getElem _;obtain⟨x,hx⟩:=eX (l[k]);obtain⟨e,he⟩:=eX (ds[k]'(by have:=HR.out.len;omega));rw[hx]at hlk;rw[he]at hdk;have hcell:∀j,j<1->wr.cell? ⟨g,k+j,none⟩=(kImg.cell x e)[j]?:=fun j hj=>by
    rw[HR.out.row.cellAt _ (show k+j<l.length*1 by omega)];have h1:=cells_at (K:=kImg) l ds HR.out.len k j x e hlk hdk hj;rw[show k*kImg.size+j=k+j by show k*1+j=k+j;omega]at h1;exact h1
   have q1:wr.cell? ⟨g,k,none⟩=some (.slice e.1 x.length e.2):=by have:=hcell 0 (by decide);simpa[kImg]using this
   obtain⟨hd1,hd2⟩:=HR.out.data k x e hlk hdk;have hxl:x.length<=140737488351232:=(HBD.out x (List.mem_of_getElem? hlk));have HD1:Hid (Bts wr e.1 x):=qH hd1;have HLK:=qH hlk;have HDK:=qH hdk;have K1:=qH (fun w h=>cloneBytes_calls e.1 x.length e.2 (x.map bv) w (by simp) (by omega) h (bv_one _));have hfr:wr.frozen? ⟨g,k,none⟩=false:=HR.out.row.frozenAt _;have dl:decide ((k:Int)<(l.length:Int))=true:=decide_eq_true (by omega);have hwk:IntKind.i64.wrap ((k:Int)+1)=(k:Int)+1:=IntWalk.i64_in _ (by omega);have hcap:(l.length:Int)<=(c1:Int):=by have:=HR.out.row.le;omega
   clear hcell hx he hlk hdk hd1 hd2;go_wp2_with fail;refine(K1.out _ HD1.out.src).mono ?_;rintro en w2 ⟨B,d,rfl,hob,hb1⟩;have hb2:=hb1;have HR1:=qH (HR.out.below hb2);have hq1:w2.cell? ⟨g,k,none⟩=some (.slice e.1 x.length e.2):=(hb2.cell (p:=⟨g,k,none⟩) hg2).trans q1;have hf1:w2.frozen? ⟨g,k,none⟩=false:=(hb2.frozen (p:=⟨g,k,none⟩) hg2).trans hfr;have HBB:Hid (Below w.heap.size w (w2.setCell ⟨g,k,none⟩ (.slice B x.length d))):=qH ((HB.out.trans (hb2.mono hsz)).setCell (p:=⟨g,k,none⟩) hg1 _);have hgw:∀q,B.map (·.block)=some q->wr.heap.size<=q:=fun q h=>(hob.block q h).1;have HR2:Hid (GRow kImg (w2.setCell ⟨g,k,none⟩ (.slice B x.length d)) w.heap.size l (ds.set k (B,d)) (some ⟨g,0,none⟩) c1):=qH (by
    have h1:=HR1.out.setData (e:=(B,d)) HLK.out hob.src.bts (by show x.length<=d;simpa using hob.le) (fun _ q h e2=>by have:=hgw q h;omega);rw[show k*kImg.size+kImg.slot=k by show k*1+0=k;omega]at h1;exact h1)
   have HN1:Hid (∀(j:Nat) (o:(List UInt8)) (d':Option Addr×Nat),j<k+1->l[j]?=some o->(ds.set k (B,d))[j]?=some d'->kImg.dat o≠[]->∀q,d'.1.map (·.block)=some q->w.heap.size<=q):=qH (fun j o d' hj h1 h2 hx q hq=>by
    exact x9r5)
   clear hob hb1 hb2 q1 hfr hgw;exact x6bz
  exact x6wy
theorem big_recN(n:Nat)(h:0<n):bigBuild Tryz.prog 29 n:=by
 obtain⟨i,hi,_⟩:=info_parts (P:=Tryz.prog) (e:=29) (z:=.agg (recA Rec.zero)) (size:=11) (bytes:=88) (by kernel_rfl);exact⟨i,hi,h⟩
@[go_sem] theorem big_rec2N:bigBuild Tryz.prog 29 2:=big_recN 2 (by decide)
@[go_sem] theorem build_rec2N(g f:Int)(w:World):runBuild Tryz.prog 29 #[(0,iv g),(4,iv f)] w=.ok (.agg (recA ⟨g,0,false,0,f,Inf.zero,Inf.zero⟩)) w:=by kernel_rfl
@[go_sem] theorem build_devN(a b:OA)(c e:Nat)(x y:LU)(u:Bool)(w:World):runBuild Tryz.prog 38 #[(2,.bool u),(0,.agg (slotsA a x.length c b y.length e))] w=.ok (.agg (devA ⟨x,y,Cop.zero,Cop.zero,u,0,[],false,Pat.zero,0⟩ ⟨a,c,b,e,none,0,none,0⟩)) w:=by kernel_rfl
theorem devNew_calls(A:OA)(c:Nat)(b:LU)(w:World)(hl:b.length<=140737488351232)(hB:Bts w A b):Calls Tryz.prog 50 #[.slice A b.length c] w (DvRet w (devNew b).1 (devNew b).2):=by
 have hba:Below w.heap.size w (w.alloc (.cells (devA Dev.zero DLoc.zero) 38)):=bL _;have HBA:=qH hba;have HB:=qH hB;by_cases h1:64<b.length
 ·have hz:devNew b=(Dev.zero,1):=by unfold devNew;rw[if_pos h1]
  rw[hz];have q:(64:Int)<(b.length:Int):=by omega
  clear hB hba hz;go_enter Tryz.func50,Tryz.ntmps50;go_wp2_with fail;refine bodyPost_ret (rC (devA Dev.zero DLoc.zero)) rfl ⟨DLoc.zero,rfl,.const fun v=>DevIn.zero v,bZ HBA⟩
 have hz:devNew b=(newDev b,0):=by unfold devNew;rw[if_neg h1]
 rw[hz];have q:¬(64:Int)<(b.length:Int):=by omega
 have KS:=qH (fun w h=>sumOf_calls A c b w (by omega) h);have hb1:b.length<=64:=by omega
 have KR:=qH (fun w h=>room_calls A c b w hb1 h);have KN:=qH (fun w=>room_calls none 0 [] w (by simp) (bts_nil w none));have HRL:Hid ((room b).length=64∧(room []).length=64):=qH ⟨room_len hb1,room_len (by simp)⟩;obtain⟨s,hs⟩:=eX (sumOn 1 b);rw[hs]at KS;obtain⟨rb,hrb⟩:=eX (room b);obtain⟨rn,hrn⟩:=eX (room []);rw[hrb]at KR HRL;rw[hrn]at KN HRL;have hnd:newDev b=⟨rb,rn,⟨true,⟨1,0,false,0,1,⟨1,b.length,s⟩,Inf.zero⟩⟩,Cop.zero,true,0,[],false,Pat.zero,0⟩:=by unfold newDev;rw[hrb,hrn,hs]
 rw[hnd];clear hz hnd hs hrb hrn hb1 hB hba h1;go_enter Tryz.func50,Tryz.ntmps50;go_wp2_with fail;refine(KS.out _ (HB.out.stays ?_)).mono ?_
 ·exact x9q7
 rintro e w1 ⟨rfl,rfl⟩;go_wp2_with fail;refine(KR.out _ (HB.out.stays ?_)).mono ?_
 ·exact x9q7
 rintro e w2 ⟨A1,c1,rfl,ho1,hb⟩;have a2:=kp (w.heap.size) (devA Dev.zero DLoc.zero) hb;have a1:=kp (w.heap.size+1) (recA ⟨1,0,false,0,1,⟨1,(b.length:Int),s⟩,Inf.zero⟩) hb;have hsz1:w.heap.size+2<=w2.heap.size:=by have:=hb.size;simp at this;omega
 have HB1:Hid (Below w.heap.size w w2):=qH (by
  refine Below.trans ?_ (hb.mono (by first|omega|(simp<;>omega)));exact x9q7)
 have HO1:Hid (Own w2 (w.heap.size+2) 5 1 A1 rb.length c1 (rb.map bv)):=qH (by simpa using ho1);clear hb ho1;go_wp2_with fail;refine(KN.out _).mono ?_;rintro e w3 ⟨A2,c2,rfl,ho1,hb⟩;have a2:=kr a2 hb;have a1:=kr a1 hb;have hsz2:w2.heap.size<=w3.heap.size:=hb.size;have HB2:=bT HB1 hb;have HF:Hid (Fresh (w.heap.size+2) w3 (fun v=>Bts v A1 rb∧Bts v A2 rn)):=qH (fun v hv=>⟨(HO1.out.below hb).fresh v hv,(ho1.mono (base':=w.heap.size+2) (by omega)).fresh v hv⟩);have HC:Hid (rb.length<=c1∧rn.length<=c2):=qH ⟨HO1.out.le,ho1.le⟩;clear hb ho1;go_wp2_with fail;refine bodyPost_ret (rC (devA ⟨rb,rn,⟨true,⟨1,0,false,0,1,⟨1,b.length,s⟩,Inf.zero⟩⟩,Cop.zero,true,0,[],false,Pat.zero,0⟩ ⟨A1,c1,A2,c2,none,0,none,0⟩)) rfl ⟨⟨A1,c1,A2,c2,none,0,none,0⟩,rfl,?_,?_⟩
 ·refine Fresh.imp (P:=fun v=>Bts v A1 rb∧Bts v A2 rn) (Fresh.mono (base:=w.heap.size+2) ?_ (by omega)) (fun v hv=>⟨HC.out.1,by show rb.length<=_;rw[HRL.out.1];decide,hv.1,HC.out.2,by show rn.length<=_;rw[HRL.out.2];decide,hv.2,nl,Nat.zero_le _,Chs.nil _ _,pat_in_zero v,⟨by show -9223372036854775808<=(0:Int);omega,by show (0:Int)<=9223372036854775807;omega⟩,⟨by show -9223372036854775808<=(0:Int);omega,by show (0:Int)<=9223372036854775807;omega⟩⟩);repeat (first|exact HF.out|refine Fresh.row ?_ (by omega) _|refine Fresh.cell ?_ (by first|(show _<_;omega)|(simp<;>omega)) _|refine Fresh.alloc ?_ _)
 exact bZ HB2
section
open Go.RowKit
end
section
open Go.RowKit
end
section
open Go.RowKit
end
theorem x8e1(h:Y:=by
 rintro e w' ⟨A1,c1,ds,rfl,hrow,heach,hbel⟩;exact⟨_,rfl,_,rfl,A1,c1,ds,by simp,hrow,heach,(Below.refl _ _).drew.trans hbel⟩):Y:=h
theorem x9c7(h:Y:=by
 obtain⟨A1,c1,ds,y1,g1,g2,h⟩:=hJ;exact key h):Y:=h
def wnJ(w3:World)(g:Nat)(l:List (List UInt8))(d0:Dev)(L1:DLoc):Nat->(Nat->Value)->World->Prop
 |0,_,w=>w=w3.drew
 |1,cv,w=>∃A5 c5 ds,cv 1=.slice A5 l.length c5∧GRow kImg w w3.heap.size l ds A5 c5∧Each kImg l ds (fun k=>w3.heap.size<=k)∧Below w3.heap.size w3 w
 |2,cv,w=>∃A5 c5 ds,cv 3=.agg (worA ⟨l,d0,[]⟩ ⟨A5,c5,L1,none,0⟩)∧GRow kImg w w3.heap.size l ds A5 c5∧Each kImg l ds (fun k=>w3.heap.size<=k)∧Below w3.heap.size w3 w
 |_,_,w=>∃A5 c5 ds w4,GRow kImg w4 w3.heap.size l ds A5 c5∧Each kImg l ds (fun k=>w3.heap.size<=k)∧Below w3.heap.size w3 w4∧w=w4.setRow g (worA ⟨l,d0,[]⟩ ⟨A5,c5,L1,none,0⟩)
theorem wnJ_row{w3:World}{g q:Nat}{l:List (List UInt8)}{d0:Dev}{L1:DLoc}{cv:Nat->Value}(hk:k<=2)(hr:rowOf w3 q=devA d0 L1)(hf:frOf w3 q=(0,0))(hJ:wnJ w3 g l d0 L1 k cv w):rowOf w q=devA d0 L1∧frOf w q=(0,0):=by
 have hg:q<w3.heap.size:=row_lt (w:=w3) (by rw[hr];simp[devA]);have key:Below w3.heap.size w3 w->rowOf w q=devA d0 L1∧frOf w q=(0,0):=fun hb=>⟨(rowOf_below hg hb).trans hr,(frOf_below hg hb).trans hf⟩;rcases (show k=0∨k=1∨k=2 by omega)with rfl|rfl|rfl
 ·have hJ':w=w3.drew:=hJ;subst hJ';exact key (Below.refl _ _).drew
 ·exact x9c7
 exact x9c7
theorem worNew_calls(A:OA)(c:Nat)(l:List (List UInt8))(w:World)(hc:l.length<=c)(hl:l.length<=5864062014634)(hs:Ims w A l):Calls Tryz.prog 19 #[.slice A l.length c] w (WvRet w (worNew l).1 (worNew l).2):=by
 have HS:=qH hs;have K1:=qH (fun w h=>releases_calls A c l w hc hl h);have HBA:Hid (Below w.heap.size w (w.alloc (.cells (worA Wor.zero WLoc.zero) 40))):=qH (bL _);by_cases h3:relCheck l≠0
 ·have hz:worNew l=(Wor.zero,relCheck l):=by unfold worNew;rw[if_pos h3]
  rw[hz];have q:(relCheck l !=0)=true:=by simp[h3]
  generalize relCheck l=n at *
  clear hz h3 hs;go_enter Tryz.func19,Tryz.ntmps19;go_wp2_with fail;refine(K1.out _ (HS.out.stays HBA.out)).mono ?_;rintro e w1 ⟨rfl,rfl⟩;go_wp2_with fail;refine bodyPost_ret (rC (worA Wor.zero WLoc.zero)) rfl ⟨WLoc.zero,rfl,.const fun v=>WorIn.zero v,?_⟩;exact x0ap
 have h3:=Decidable.not_not.1 h3;obtain⟨hne,hfew,hsm⟩:=relCheck_ok.1 h3;obtain⟨b0,hb1⟩:=eX (l[0]'(List.length_pos_iff.2 hne));have hb2:b0.length<=64:=by rw[<-hb1];exact hsm _ (List.getElem_mem _)
 have hhd:l.headD []=b0:=by
  rw[<-hb1]
  cases l with
  |nil=>exact absurd rfl hne
  |cons a r=>rfl
 have hz:worNew l=(⟨l,newDev b0,[]⟩,0):=by unfold worNew;rw[if_neg (by omega),hhd]
 have hdn:devNew b0=(newDev b0,0):=by unfold devNew;rw[if_neg (by omega)]
 rw[hz];rw[h3]at K1;obtain⟨ab,ao,rfl,hab,cs,hcl,hcc,B,e3,rfl,hd1,hd2,hd3⟩:=hs 0 (List.length_pos_iff.2 hne);have q1:w.cell? ⟨ab,ao,none⟩=some (.slice B b0.length e3):=by have:=hcc 0 (by simp);rw[hb1]at this;simpa using this
 have HB1:Hid (Bts w B b0):=qH (by rw[<-hb1];exact hd3);have KD:=qH (fun w h=>devNew_calls B e3 b0 w (by omega) h);rw[hdn]at KD;obtain⟨d1,hd4⟩:=eX (newDev b0);rw[hd4]at KD⊢;have HQ1:=qH q1;have HQA:=qH hab;have hpos:0<l.length:=List.length_pos_iff.2 hne;have hposz:(0:Int)<(l.length:Int):=by omega
 have hcapz:(l.length:Int)<=(c:Int):=by omega
 have HBD:Hid (∀y∈l,y.length<=140737488351232):=qH HS.out.bound;have q0a:(w.alloc (.cells (worA Wor.zero WLoc.zero) 40)).cell? ⟨ab,ao,none⟩=some (.slice B b0.length e3):=(((bW w).alloc nl (.cells (worA Wor.zero WLoc.zero) 40)).cell (p:=⟨ab,ao,none⟩) hab).trans q1;clear hz hdn h3 hne hfew hsm hhd hcl hcc hd1 hd2 hd3 hb1 hd4 hb2 hs q1 hab;go_enter Tryz.func19,Tryz.ntmps19;go_wp2_with fail;refine(K1.out _ (HS.out.stays HBA.out)).mono ?_;rintro e w1 ⟨rfl,rfl⟩;go_wp2_with fail;refine(KD.out _ (HB1.out.stays HBA.out)).mono ?_;rintro e w2 ⟨L1,rfl,hfr,hb⟩;have a1:=kp (w.heap.size) (worA Wor.zero WLoc.zero) hb;have hsz1:w.heap.size+1<=w2.heap.size:=by have:=hb.size;simpa using this
 have HB2:=bT HBA hb;have HFR:Hid (Fresh (w.heap.size+1) w2 (fun v=>DevIn v d1 L1)):=qH (by simpa using hfr);clear hb hfr;go_wp2_with fail;obtain⟨w3,hw1⟩:=eX (w2.alloc (.cells (devA d1 L1) 38));have HRz:Hid (rowOf w3 w.heap.size=worA Wor.zero WLoc.zero):=qH (by rw[<-hw1,rowOf_alloc,if_neg a1.2.2.1];exact a1.1);have HFz:Hid (frOf w3 w.heap.size=(0,0)):=qH (by rw[<-hw1,frOf_alloc,if_neg a1.2.2.1];exact a1.2.1);have HR1:Hid (rowOf w3 w2.heap.size=devA d1 L1):=qH (by rw[<-hw1,rowOf_alloc,if_pos rfl]);have HF1:Hid (frOf w3 w2.heap.size=(0,0)):=qH (by rw[<-hw1,frOf_alloc,if_pos rfl]);have hsz2:w3.heap.size=w2.heap.size+1:=by rw[<-hw1];simp
 have HB3:Hid (Below w.heap.size w w3):=qH (by rw[<-hw1];exact HB2.out.alloc HB2.out.size _);have HF2:Hid (Fresh (w.heap.size+1) w3 (fun v=>DevIn v d1 L1)):=qH (by rw[<-hw1];exact HFR.out.alloc _);rw[hw1];obtain⟨g,hg⟩:=eX (w.heap.size);obtain⟨g1,hg1⟩:=eX (w2.heap.size);have HG:=qH hg;have KA:Hid (∀wq,Below w3.heap.size w3 wq->Calls Tryz.prog 51 #[.slice (some ⟨ab,ao,none⟩) l.length c] wq (KrRet kImg wq l)):=qH (fun wq h=>images_calls _ _ _ wq hl ((HS.out.stays HB3.out).stays h));rw[hg]at HRz HFz hsz1⊢;rw[hg1]at HR1 HF1⊢;clear hw1 a1 hg hg1;generalize hAA:(some ⟨ab,ao,none⟩:Option Addr)=A at *
 clear hAA;refine wp_region_mix (by kernel_rfl) (some 24::some 25::some 26::some 27::none::some 3::[]) (none::some 0::none::some 1::some 2::none::[]) (.slice A l.length c::undef::.agg (devA d1 L1)::undef::undef::iv 0::[]) 3 (wnJ w3 g l d1 L1) 28 rfl rfl (by decide+kernel) (by decide+kernel) (by decide+kernel) (by decide+kernel) rfl rfl (by decide+kernel) (by decide+kernel) (rfl) ?_ ?_
 ·refine⟨?_,?_,?_,?_,?_,?_,trivial⟩
  ·intro done cv k1 a wq hw h hJ hn;have e1:=mO 0 (.slice A l.length c) h;exact mx_move (ch_ev e1)
  ·intro done cv a wq hw h hJ;have e1:=mN 0 24 h hw;obtain rfl:wq=w3.drew:=hJ;refine wp_call (vals:=#[.slice A l.length c]) (by rw[List.map_toArray,List.map_cons,List.map_nil,ch_ev e1]) (enters_of Tryz.func51 (by kernel_rfl) rfl _ _) (KA.out _ ((Below.refl _ _).drew)) ?_;exact x8e1
  ·intro done cv k1 a wq hw h hJ hn;have e1:=mO 5 (.pointer (some ⟨g1,0,none⟩)) h;have hk:=hn 4 _ 2 rfl rfl (by decide);obtain⟨r_,f_⟩:=wnJ_row hk HR1.out HF1.out hJ;go_simp
  ·intro done cv a wq hw h hJ;have e1:=mx_cv (i:=1) (t:=25) h (hw 1 (by decide)) rfl rfl;have e26:=mN 2 26 h hw;obtain⟨A1,c1,ds,y1,hrow,heach,hbel⟩:=hJ;rw[y1]at e1;refine wp_val (v:=.agg (worA ⟨l,d1,[]⟩ ⟨A1,c1,L1,none,0⟩)) (by go_simp) ⟨_,rfl,A1,c1,ds,by simp,hrow,heach,hbel⟩
  ·intro done cv a wq hw h hJ;have e1:=mO 2 (.pointer (some ⟨g,0,none⟩)) h;have e27:=mx_cv (i:=3) (t:=27) h (hw 3 (by decide)) rfl rfl;obtain⟨A1,c1,ds,y1,hrow,heach,hbel⟩:=hJ;rw[y1]at e27;obtain⟨r_,f_,n_,c_,z_,l_⟩:=keep1 hbel HRz.out (by go_simp) HFz.out;refine wp_srow e1 e27 (by go_simp) (by go_simp) (cs:=worA Wor.zero WLoc.zero) r_ (by go_simp) f_ (by go_simp) ⟨undef,rfl,A1,c1,ds,wq,hrow,heach,hbel,?_⟩;rw[splice_all _ _ (by simp[worA])]
  ·intro done cv k1 a wq hw h hJ hn;exact mx_assign rfl
 intro cv w5 hJ;obtain⟨A1,c1,ds,w4,hrow,heach,hbel,rfl⟩:=hJ;simp only[mixAll,putAll_some,putAll_none,putAll_nil,List.getElem?_cons_zero,List.getElem?_cons_succ,Nat.zero_add,Nat.reduceAdd,List.setIfInBounds_toArray,List.set_cons_zero,List.set_cons_succ];have hs1:=hbel.size;have r1:0<(rowOf w4 g).size:=by rw[rowOf_below (by omega) hbel,HRz.out];simp[worA]
 have r2:rowOf (w4.setRow g (worA ⟨l,d1,[]⟩ ⟨A1,c1,L1,none,0⟩)) g=worA ⟨l,d1,[]⟩ ⟨A1,c1,L1,none,0⟩:=by rw[rowOf_setRow _ _ _ _ r1,if_pos rfl]
 have HBL:=qH hbel;have HIM:Hid (Fresh w3.heap.size w4 (fun v=>Ims v A1 l)):=qH ((hrow.fresh heach).imp fun v hv=>hv.src.ims HBD.out);have HC1:=qH hrow.row.le;clear hrow heach hbel;go_wp2_with fail;refine bodyPost_ret (results_ct rfl rfl (cs:=worA ⟨l,d1,[]⟩ ⟨A1,c1,L1,none,0⟩) r2 (by go_simp) (by go_simp)) rfl ⟨⟨A1,c1,L1,none,0⟩,rfl,?_,?_⟩
 ·refine Fresh.imp (P:=fun v=>DevIn v d1 L1∧Ims v A1 l) ?_ (fun v hv=>⟨HC1.out,hl,hv.2,hv.1,nl,Nat.zero_le _,Chs.nil _ _⟩);have e1:Fresh (g+1) (w4.setRow g (worA ⟨l,d1,[]⟩ ⟨A1,c1,L1,none,0⟩)) (fun v=>DevIn v d1 L1):=(Fresh.below (by rw[<-HG.out];exact HF2.out) HBL.out nl).row (by omega) _;have e2:Fresh (g+1) (w4.setRow g (worA ⟨l,d1,[]⟩ ⟨A1,c1,L1,none,0⟩)) (fun v=>Ims v A1 l):=(HIM.out.mono (by omega)).row (by omega) _;rw[HG.out];exact fun v hv=>⟨e1 v (fun k h1 h2=>hv k (by omega) h2),e2 v (fun k h1 h2=>hv k (by omega) h2)⟩
 rw[HG.out];have hb1:Below g w w3:=by rw[<-HG.out];exact HB3.out
 exact below_row (hb1.trans (HBL.out.mono (by omega))) nl _
def Bex(g base:Nat)(w w':World):Prop:=Below 0 w w'∧∀k,k<base->k≠g->w'.heap[k]?=w.heap[k]?
section
variable {g base:Nat} {w w' w2:World}
theorem Bex.refl(g base:Nat)(w:World):Bex g base w w:=⟨Below.refl _ _,fun _ _ _=>rfl⟩
theorem Bex.below(h:Bex g base w w')(hb:Below w'.heap.size w' w2)(hg:g<=w'.heap.size)(hs:base<=w'.heap.size):Bex g base w w2:=⟨h.1.trans (hb.mono (Nat.zero_le _)),fun k h1 h2=>(hb.block k (by omega)).trans (h.2 k h1 h2)⟩
theorem Bex.row(h:Bex g base w w'){q:Nat}(hq:q=g∨base<=q)(cs:Array Value):Bex g base w (w'.setRow q cs):=⟨below_row h.1 (Nat.zero_le _) _,fun k h1 h2=>(setRow_other _ _ _ _ (by omega)).trans (h.2 k h1 h2)⟩
theorem Bex.to(h:Bex g base w w'){B:Nat}(h1:B<=g)(h2:B<=base):Below B w w':=⟨h.1.os,h.1.tape,h.1.output,h.1.size,fun k hk=>h.2 k (by omega) (by omega)⟩
end
def HaRet(w:World)(g base:Nat)(x:Wor)(n:Int):Ending->World->Prop:=fun en w'=>
 en=.returned (iv n)∧(n=0->∃L,rowOf w' g=worA x L∧frOf w' g=(0,0)∧∀v:World,(∀k,base<=k->k≠g->k<w'.heap.size->v.heap[k]?=w'.heap[k]?)->WorIn v x L)∧Bex g base w w'∧w.heap.size<=w'.heap.size
theorem rowOf_heap{w':World}{g:Nat}(h:w'.heap[g]?=w.heap[g]?):rowOf w' g=rowOf w g∧frOf w' g=frOf w g:=by unfold rowOf frOf;rw[h];exact⟨rfl,rfl⟩
def HapOk(kd n:Int):Prop:=∀(g base m top:Nat) (ds:List (Option Addr×Nat)) (x:Wor) (L:WLoc) (w:World),rowOf w g=worA x L->frOf w g=(0,0)->(g<base∨top<=g)->WorAt w base m top ds x L->WorOk x->I64 n->Calls Tryz.prog 53 #[.pointer (some ⟨g,0,none⟩),.agg #[iv kd,iv n]] w (HaRet w g base (worHappen x kd n).1 (worHappen x kd n).2)
end Go.Proofs.YtefkfglkpebbmadGreat
