/- Walks. No conditions. -/
import Derived.Test.YtefkfglkpebbmabGreatP11
import Derived.Test.YtefkfglkpebbmabGreatP40
set_option linter.all false
set_option maxRecDepth 100000
set_option maxHeartbeats 0
namespace Go.Proofs.YtefkfglkpebbmabGreat
open Go.RowKit
variable {Y:Prop}
theorem x5pg(h:Y:=by
 go_enter Tryz.func7,Tryz.ntmps7;go_wp2_with fail;refine(K1.out _).mono ?_;rintro e w2 ⟨rfl,rfl⟩;go_wp2_with fail;refine K.out.mono ?_;rintro e w1 ⟨rfl,hb⟩;have HB:=qH hb;clear hb;go_wp2_with fail;go_ret;exact⟨rfl,HB.out⟩):Y:=h
def idxI(p:List UInt8->Bool):List (List UInt8)->Nat->Int
 |[],_=> -1
 |x::r,k=>if p x=true then (k:Int)else idxI p r (k+1)
theorem idxI_ge(p:List UInt8->Bool):∀(l:List (List UInt8)) (k:Nat),decide ((0:Int)<=idxI p l k)=l.any p
 |[],k=>by simp[idxI]
 |x::r,k=>by
  unfold idxI;by_cases h:p x=true
  ·rw[if_pos h];simp[h]
  rw[if_neg h,idxI_ge p r];simp[h]
def longB(b:LU):Bool:=decide ((64:Int)<(b.length:Int))
theorem rel1_calls(B:OA)(n d:Nat)(w:World):Calls Tryz.prog 23 #[.slice B n d] w (RetB w (.bool (decide ((64:Int)<(n:Int))))):=by
 go_enter Tryz.func23,Tryz.ntmps23;exact x43h
theorem idxImgs_calls(A:OA)(c:Nat)(l:List (List UInt8))(w:World)(hl:l.length<=5864062014634)(hs:Ims w A l):
  Calls Tryz.prog 68 #[.slice A l.length c,.func (Fn.func 23) #[] #[]] w (RetB w (iv (idxI longB l 0))):=by
 have HS:=qH hs;obtain⟨r,hr⟩:=eX (idxI longB l 0);rw[hr];have HR:Hid (idxI longB l 0=r):=qH hr;clear hr hs;go_enter Tryz.func68,Tryz.ntmps68;go_wp2_with fail;go_loopw [8] (fun i wr=>∃k:Nat,k<=l.length∧i=iv k∧Hid (idxI longB (l.drop k) k=r)∧Hid (Below w.heap.size w wr)) (fun i _=>l.length-(intOf i).toNat)
 case atStart=>exact⟨0,Nat.zero_le _,rfl,qH HR.out,qH (Below.refl _ _)⟩
 case round=>
  rename World=>wr;obtain⟨k,hk,rfl,HE,HB⟩:=hrel;have hsz:=HB.out.size;by_cases hlk:k<l.length
  ·obtain⟨b,o,rfl,hb,cs,hcl,hcc,B,d,rfl,hd1,hd2,hd3⟩:=(HS.out.stays HB.out) k hlk;obtain⟨x,hx⟩:=eX (l[k]);have q1:wr.cell? ⟨b,o+k,none⟩=some (.slice B x.length d):=by have:=hcc 0 (by simp);rw[hx]at this;simpa using this
   have hdr:l.drop k=x::l.drop (k+1):=by rw[List.drop_eq_getElem_cons hlk,hx]
   rw[hdr]at HE;have hn:=HE.out;unfold idxI at hn;have HN:=qH hn;clear hdr HE hn hcc hcl hd1 hd2 hd3 hx;obtain⟨q,hq⟩:=eX (longB x);rw[hq]at HN;have HC:Hid (∀w',Calls Tryz.prog 23 #[.slice B x.length d] w' (RetB w' (.bool q))):=qH fun w'=>hq▸rel1_calls B x.length d w';clear hq;go_wp2_with fail;refine(HC.out _).mono ?_;rintro e w1 ⟨rfl,hb1⟩;have HB1:Hid (Below w.heap.size w w1):=qH (HB.out.trans (hb1.mono hsz));clear hb1
   cases q
   ·have HE1:Hid (idxI longB (l.drop (k+1)) (k+1)=r):=qH (by simpa using HN.out);clear HN;exact x0jj
   have HE1:Hid ((k:Int)=r):=qH (by simpa using HN.out);clear HN;exact x9r8
  exact x4mb
theorem anyImgs_calls(A:OA)(c:Nat)(l:List (List UInt8))(w:World)(hl:l.length<=5864062014634)(hs:Ims w A l):
  Calls Tryz.prog 22 #[.slice A l.length c,.func (Fn.func 23) #[] #[]] w (RetB w (.bool (l.any longB))):=by
 have K:=qH (idxImgs_calls A c l w hl hs);have HI:Hid (decide ((0:Int)<=idxI longB l 0)=l.any longB):=qH (idxI_ge longB l 0);generalize idxI longB l 0=r at *
 generalize l.any longB=q at *
 clear hs;go_enter Tryz.func22,Tryz.ntmps22;go_wp2_with fail;refine K.out.mono ?_;rintro e w1 ⟨rfl,hb⟩;have HB:=qH hb;clear hb;go_wp2_with fail;go_ret;exact⟨by rw[<-HI.out];rfl,HB.out⟩
theorem relCheck_eq(l:List (List UInt8)):relCheck l=if within l.length 1 30=true∧l.any longB=false then 0 else 1:=by
 unfold relCheck within;have h1:(decide ((1:Int)<=(l.length:Int))&&decide ((l.length:Int)<=30))=true↔¬l=[]∧¬30<l.length:=by
  rw[Bool.and_eq_true,decide_eq_true_eq,decide_eq_true_eq]
  cases l<;>simp<;>omega
 have h2:l.any longB=false↔¬∃b∈l,64<b.length:=by
  unfold longB;rw[List.any_eq_false];simp;exact⟨fun h x hx=>by have:=h x hx;omega,fun h x hx=>by have:=h x hx;omega⟩
 by_cases h:l=[]∨30<l.length∨∃b∈l,64<b.length
 ·rw[if_pos h,if_neg];rintro⟨a,b⟩;obtain⟨a1,a2⟩:=h1.1 a;have b1:=h2.1 b;exact h.elim a1 fun h=>h.elim a2 b1
 rw[if_neg h,if_pos];exact⟨h1.2 ⟨fun e=>h (.inl e),fun e=>h (.inr (.inl e))⟩,h2.2 fun e=>h (.inr (.inr e))⟩
theorem refReleases_calls(A:OA)(c:Nat)(l:List (List UInt8))(w:World)(hl:l.length<=5864062014634)(hs:Ims w A l):
  Calls Tryz.prog 7 #[.slice A l.length c] w (RetB w (iv (relCheck l))):=by
 rw[relCheck_eq];have K:=qH (anyImgs_calls A c l w hl hs);have K1:Hid (∀w,Calls Tryz.prog 21 #[iv l.length,iv 1,iv 30] w (Ret w (.bool (within l.length 1 30)))):=qH (fun w=>in_calls l.length 1 30 w);generalize l.any longB=q at *
 generalize within l.length 1 30=p at *
 clear hs
 cases p
 ·rw[if_neg (by simp)];go_enter Tryz.func7,Tryz.ntmps7;go_wp2_with fail;refine(K1.out _).mono ?_;rintro e w1 ⟨rfl,rfl⟩;exact x43h
 cases q
 ·rw[if_pos (by simp)];exact x5pg
 rw[if_neg (by simp)];exact x5pg
theorem x0bh(h:Y:=by
 go_wp2_with fail;go_ret;have hgg:=HG.out;have hs:=HB3.out.size;refine⟨ret_int hz.out.symm,?_⟩;repeat (first|exact HB3.out|refine bA ?_ _)):Y:=h
theorem x59w(h:Y:=by
 go_quiet (fail)
 go_wp2_with fail;go_meet
 case rel=>exact⟨by rw[hres],qH (below_drewN _ _)⟩):Y:=h
theorem x5lm(h:Y:=by
 go_wp2_with fail;go_ret;have hgg:=HG.out;have hs:=HB2.out.size;refine⟨ret_int hz.out.symm,?_⟩;repeat (first|exact HB2.out|refine bA ?_ _)):Y:=h
theorem x75b(h:Y:=by
 go_wp2_with fail;go_ret;have hgg:=HG.out;have hs:=HBA.out.size;refine⟨ret_int hz.out.symm,?_⟩;repeat (first|exact HBA.out|refine bA ?_ _)):Y:=h
theorem refPatSameZ_calls(p:Pat)(B:OA)(c:Nat)(w:World)(hp:PatIn w p B c):Calls Tryz.prog 64 #[.agg (patA p.from_ p.to_ p.old p.new_ p.size B p.ops.length c),.agg (patA 0 0 0 0 0 none 0 0)] w (RetB w (.bool (decide (p=Pat.zero)))):=
 refPatSameA_calls B none c 0 p.from_ p.to_ p.old p.new_ p.size 0 0 0 0 0 p.ops [] w hp.len (by simp) hp.ops (Sps.nil _ _)
theorem run_min64(n:Int)(w:World):(Builtin.min_ #[3,3] 3 #[iv 64,iv n]).run Tryz.prog w=.ok (iv (min 64 n)) w:=by
 by_cases h:n<(64:Int)
 ·have e:min 64 n=n:=by omega
  rw[e];go_simp<;>omega
 have e:min 64 n=64:=by omega
 rw[e];go_simp<;>omega
theorem refDevCheck_calls(d:Dev)(L:DLoc)(w:World)(h:DevIn w d L):Calls Tryz.prog 19 #[.agg (devA d L)] w (RetB w (iv (devCheck d))):=by
 have HIN:=qH h;clear h;obtain⟨n,hn⟩:=eX (devCheck d);rw[hn];have HN:=qH hn;clear hn;have HBA:=qH ((bW w).alloc nl (.cells (devA d L) 38));obtain⟨g,hg⟩:=eX (w.heap.size);have HG:=qH hg;clear hg;go_enter Tryz.func19,Tryz.ntmps19;by_cases l2:d.s0.length=64
 case neg=>
  have q1:((d.s0.length:Int) !=64)=true:=by simp;omega
  have hz:Hid (n=3):=qH (HN.out.symm.trans (devCheck_is_len (.inl l2)));clear l2;exact x75b
 have q7:((d.s0.length:Int) !=64)=false:=by simp;omega
 by_cases l1:d.s1.length=64
 case neg=>
  have q1:((d.s1.length:Int) !=64)=true:=by simp;omega
  have hz:Hid (n=3):=qH (HN.out.symm.trans (devCheck_is_len (.inr l1)));clear l1 l2;exact x75b
 have q1:((d.s1.length:Int) !=64)=false:=by simp;omega
 have HL2:=qH l2;have HL1:=qH l1;clear l2 l1;go_wp2_with fail;refine(refCopies_calls d.c0 d.c1 _).mono ?_;rintro e w1 ⟨rfl,hb⟩;have a0r:rowOf (w.alloc (.cells (devA d L) 38)) w.heap.size=devA d L:=by rw[rowOf_alloc,if_pos rfl]
 have a0f:frOf (w.alloc (.cells (devA d L) 38)) w.heap.size=(0,0):=by rw[frOf_alloc,if_pos rfl]
 have HB1:=bT HBA hb;rw[HG.out]at a0r a0f⊢;obtain⟨a0r,a0f,a0n,a0c,a0z,a0l⟩:=keep1 (g:=g) (cs:=devA d L) hb a0r (by go_simp) a0f;clear hb q7 q1 HBA;by_cases hc:copCheck d.c0 d.c1=0
 case neg=>
  have q:(copCheck d.c0 d.c1 !=0)=true:=by simp[hc]
  have hz:Hid (n=copCheck d.c0 d.c1):=qH (HN.out.symm.trans (devCheck_is_cop HL2.out HL1.out hc));generalize copCheck d.c0 d.c1=e1 at *
  clear hc;go_wp2_with fail;go_ret;have hgg:=HG.out;have hs:=HB1.out.size;refine⟨ret_int hz.out.symm,?_⟩;repeat (first|exact HB1.out|refine bA ?_ _)
 rw[hc];have HC:=qH hc;clear hc;go_upto_region 6 with fail
 obtain⟨idle,hidle⟩:∃b,decide (d.done=0∧d.job=Pat.zero)=b:=⟨_,rfl⟩;have HID:=qH hidle;clear hidle;go_cut [4] (fun v wx=>v=.bool idle∧Hid (Below w1.heap.size w1 wx))
 case first=>
  by_cases hd:d.done=0
  ·have q1:(d.done==0)=true:=by simp[hd]
   have hres:decide (d.job=Pat.zero)=idle:=by rw[<-HID.out];simp[hd]
   clear hd;go_wp2_with fail;refine(refPatSameZ_calls d.job L.aj L.cj w1 (HIN.out.job.stays HB1.out)).mono ?_;rintro e w2 ⟨rfl,hb⟩;rw[hres];have HB2:=qH hb;clear hb;go_wp2_with fail;go_meet
   case rel=>exact⟨rfl,HB2⟩
  have q1:(d.done==0)=false:=by simp[hd]
  have hres:idle=false:=by rw[<-HID.out];simp[hd]
  clear hd;exact x74k
 case rest=>
 obtain⟨rfl,hb⟩:=hcut;obtain⟨a0r,a0f,a0n,a0c,a0z,a0l⟩:=keep1 (g:=g) (cs:=devA d L) hb.out a0r (by go_simp) a0f;have HB2:=bT HB1 hb.out;clear hb HB1;have HIZ:Hid (idle=false->d.done≠0∨d.job≠Pat.zero):=qH (fun e=>by
  have:=HID.out;rw[e]at this;by_cases h1:d.done=0
  ·exact .inr (fun h2=>of_decide_eq_false this ⟨h1,h2⟩)
  exact .inl h1)
 have HIO:Hid (idle=true->d.done=0∧d.job=Pat.zero):=qH (fun e=>by have:=HID.out;rw[e]at this;exact of_decide_eq_true this);clear HID
 cases hu:d.up
 ·have E:=qH (HN.out.symm.trans (devCheck_is_off HL2.out HL1.out HC.out hu));by_cases c1:d.running=0
  ·have q1:(d.running !=0)=false:=by simp[c1]
   by_cases c2:d.got=[]
   ·have q2:decide ((0:Int)<(d.got.length:Int))=false:=by rw[c2];simp
    cases c3:d.busy
    ·cases c4:idle
     ·have hz:Hid (n=3):=qH (E.out.trans (if_pos (.inr (.inr (.inr (HIZ.out c4))))));clear c1;exact x5lm
     ·have hz:Hid (n=0):=qH (E.out.trans (if_neg (by rintro (h|h|h|h|h);exact h c1;exact h c2;rw[c3]at h;cases h;exact h (HIO.out c4).1;exact h (HIO.out c4).2)));clear c1;exact x5lm
    have hz:Hid (n=3):=qH (E.out.trans (if_pos (.inr (.inr (.inl c3)))));clear c1;exact x5lm
   have q2:decide ((0:Int)<(d.got.length:Int))=true:=decide_eq_true (by have:=List.length_pos_iff.2 c2;omega);have hz:Hid (n=3):=qH (E.out.trans (if_pos (.inr (.inl c2))));have c2n:0<d.got.length:=List.length_pos_iff.2 c2;clear c1;exact x5lm
  have q1:(d.running !=0)=true:=by simp[c1]
  have hz:Hid (n=3):=qH (E.out.trans (if_pos (.inl c1)));clear c1;exact x5lm
 have hact:=rec_active (recRead_ok HC.out);have hok:=recRead_ok HC.out;have hnw:=refNewest_ok HC.out;have KN:=qH (fun w=>newest_calls d.c0 d.c1 w);rw[hnw]at KN;have HIM:=qH (fun w h=>imageOf_calls d L w h HL2.out HL1.out HC.out);have hrec:(recRead d.c0 d.c1).1=d.rec_:=rfl;have E:=qH (HN.out.symm.trans (devCheck_is_up HL2.out HL1.out HC.out hu));rw[hrec]at KN hact hok E;obtain⟨rk,hrk⟩:=eX ((recRead d.c0 d.c1).2);rw[hrk]at KN;generalize d.rec_=r at *
 obtain⟨a,ha,ha1⟩:∃a:Nat,r.active=(a:Int)∧a<=1:=⟨r.active.toNat,by omega,by omega⟩;have HOK:=qH hok;have HA:=qH ha;clear hrec hrk hnw hok hact ha HN;go_wp2_with fail;refine(KN.out _).mono ?_;rintro e w2 ⟨rfl,hb⟩;obtain⟨a0r,a0f,a0n,a0c,a0z,a0l⟩:=keep1 (g:=g) (cs:=devA d L) hb a0r (by go_simp) a0f;have HB3:=bT HB2 hb;clear hb KN HB2;go_upto_region 12 with fail
 obtain⟨w4,hw1⟩:=eX (w2.alloc (.cells (recA r) 29));have hb:Below w2.heap.size w2 w4:=by rw[<-hw1];exact bL _
 have r0r:rowOf w4 w2.heap.size=recA r:=by rw[<-hw1,rowOf_alloc,if_pos rfl]
 have r0f:frOf w4 w2.heap.size=(0,0):=by rw[<-hw1,frOf_alloc,if_pos rfl]
 obtain⟨a0r,a0f,a0n,a0c,a0z,a0l⟩:=keep1 (g:=g) (cs:=devA d L) hb a0r (by go_simp) a0f;have HB2:=bT HB3 hb;rw[hw1];obtain⟨gr,hgr⟩:=eX (w2.heap.size);rw[hgr]at r0r r0f⊢;clear hw1 hb hgr HB3;obtain⟨r0r,r0f,r0n,r0c,r0z,r0l⟩:=keep1 (bW w4) r0r (by simp[recA]) r0f;go_cut [78] (fun v wx=>v=.bool (decide (d.running<0∨1<d.running∨(d.running≠r.active∧r.trying=false)))∧Hid (Below w4.heap.size w4 wx))
 case first=>
  by_cases c1:0<=d.running∧d.running<=1
  ·have KI:=qH (fun w=>refIn_t (n:=d.running) (a:=0) (b:=1) c1 w)
   cases c2:r.trying
   ·by_cases c3:d.running=r.active
    ·have q1:(d.running !=r.active)=false:=by simp[c3]
     have hres:decide (d.running<0∨1<d.running∨(d.running≠r.active∧r.trying=false))=false:=decide_eq_false (by rintro (h|h|h);omega;omega;exact h.1 c3);clear c1 c3;go_wp2_with fail;refine(KI.out _).mono ?_;rintro e w3 ⟨rfl,rfl⟩;exact x74k
    ·have q2:(d.running !=r.active)=true:=by simp[c3]
     have hres:decide (d.running<0∨1<d.running∨(d.running≠r.active∧r.trying=false))=true:=decide_eq_true (.inr (.inr ⟨c3,c2⟩));clear c1 c3;go_wp2_with fail;refine(KI.out _).mono ?_;rintro e w3 ⟨rfl,rfl⟩;exact x74k
   have hres:decide (d.running<0∨1<d.running∨(d.running≠r.active∧r.trying=false))=false:=decide_eq_false (by rintro (h|h|h);omega;omega;rw[c2]at h;cases h.2);clear c1;go_wp2_with fail;refine(KI.out _).mono ?_;rintro e w3 ⟨rfl,rfl⟩;exact x74k
  have KI:=qH (fun w=>refIn_f (n:=d.running) (a:=0) (b:=1) (by omega) w);have hres:decide (d.running<0∨1<d.running∨(d.running≠r.active∧r.trying=false))=true:=decide_eq_true (by omega);clear c1;go_wp2_with fail;refine(KI.out _).mono ?_;rintro e w3 ⟨rfl,rfl⟩;exact x74k
 case rest=>
 obtain⟨rfl,hb⟩:=hcut;obtain⟨a0r,a0f,a0n,a0c,a0z,a0l⟩:=keep1 (g:=g) (cs:=devA d L) hb.out a0r (by go_simp) a0f;obtain⟨r0r,r0f,r0n,r0c,r0z,r0l⟩:=keep1 (g:=gr) (cs:=recA r) hb.out r0r (by simp[recA]) r0f;have HB3:=bT HB2 hb.out;clear hb HB2;by_cases c1:d.running<0∨1<d.running∨(d.running≠r.active∧r.trying=false)
 ·have q:decide (d.running<0∨1<d.running∨(d.running≠r.active∧r.trying=false))=true:=decide_eq_true c1;have hz:Hid (n=2):=qH (E.out.trans (devUp_range c1));rw[q];clear c1 q;exact x0bh
 have q:decide (d.running<0∨1<d.running∨(d.running≠r.active∧r.trying=false))=false:=decide_eq_false c1;have HRG:=qH c1;rw[q];clear c1 q;go_wp2_with fail;refine(refChkList_calls L.ag L.cg d.got _ HIN.out.lg (HIN.out.got.stays HB3.out)).mono ?_;rintro e w3 ⟨rfl,hb⟩;obtain⟨a0r,a0f,a0n,a0c,a0z,a0l⟩:=keep1 (g:=g) (cs:=devA d L) hb a0r (by go_simp) a0f;obtain⟨r0r,r0f,r0n,r0c,r0z,r0l⟩:=keep1 (g:=gr) (cs:=recA r) hb r0r (by simp[recA]) r0f;have HB2:=bT HB3 hb;clear hb HB3;by_cases c1:chkList d.got=0
 case neg=>
  have q:(chkList d.got !=0)=true:=by simp[c1]
  have hz:Hid (n=chkList d.got):=qH (E.out.trans (devUp_list HRG.out c1));generalize chkList d.got=e1 at *
  clear c1;exact x5lm
 rw[c1];have HGT:=qH c1;clear c1
 cases c2:d.busy
 ·have E1:=qH (E.out.trans (devUp_idle HRG.out HGT.out c2))
  cases c4:idle
  ·have hz:Hid (n=3):=qH (E1.out.trans (if_pos (HIZ.out c4)));clear c4;exact x5lm
  have hz:Hid (n=0):=qH (E1.out.trans (if_neg (by rintro (h|h);exact h (HIO.out c4).1;exact h (HIO.out c4).2)));clear c4;exact x5lm
 have E1:=qH (E.out.trans (devUp_busy HRG.out HGT.out c2));clear E HRG HGT HIZ HIO;go_upto_region 21 with fail
 obtain⟨a',ha',ha2⟩:∃a':Nat,a+a'=1∧a'<=1:=⟨1-a,by omega,by omega⟩;have hsub:(1:Int)-(a:Int)=(a':Int):=by omega
 have hwr:IntKind.i64.wrap ((1:Int)-(a:Int))=(a':Int):=by rw[hsub];exact IntWalk.i64_in _ (by omega)
 obtain⟨bad,hbad⟩:∃b,decide (r.trying=true∨d.job.to_<r.floor∨d.job.from_≠(r.at_ r.active).ver∨(r.at_ (1-r.active)).ver≠0)=b:=⟨_,rfl⟩;have HBAD:=qH hbad;have hbad1:=hbad;rw[HA.out,hsub]at hbad1;have HBAD1:=qH hbad1;clear hbad hbad1;go_cut [121] (fun v wx=>v=.bool bad∧Hid (Below w3.heap.size w3 wx))
 case first=>
  have ha:=HA.out;have pv:=recA_ver r ha1;have pv1:=recA_ver r ha2;have z1:=(at_sizes HOK.out (a':Int)).2.2;have k1:(0:Int)<=(a:Int):=by omega
  have k2:(a:Int)<2:=by omega
  have k3:¬(2:Int)<=(a:Int):=by omega
  have k4:(0:Int)<=(a':Int):=by omega
  have k5:(a':Int)<2:=by omega
  have k6:¬(2:Int)<=(a':Int):=by omega
  clear HBAD
  cases c3:r.trying
  ·by_cases c1:d.job.to_<r.floor
   ·have hres:bad=true:=by rw[<-HBAD1.out];exact decide_eq_true (.inr (.inl c1))
    have q1:decide (d.job.to_<r.floor)=true:=decide_eq_true c1;clear c1 pv pv1;exact x59w
   ·have q2:decide (d.job.to_<r.floor)=false:=decide_eq_false c1;generalize (r.at_ (a:Int)).ver=x1 at *
    generalize (r.at_ (a':Int)).ver=x2 at *
    by_cases c2:d.job.from_=x1
    ·have q1:(d.job.from_ !=x1)=false:=by simp[c2]
     by_cases c4:x2=0
     ·have hres:bad=false:=by rw[<-HBAD1.out];exact decide_eq_false (by rintro (h|h|h|h);rw[c3]at h;cases h;exact c1 h;exact h c2;exact h c4)
      have q3:decide (0<x2)=false:=decide_eq_false (by omega);clear c1 c2 c4;exact x59w
     have hres:bad=true:=by rw[<-HBAD1.out];exact decide_eq_true (.inr (.inr (.inr c4)))
     have q3:decide (0<x2)=true:=decide_eq_true (by omega);clear c1 c2 c4;exact x59w
    have q1:(d.job.from_ !=x1)=true:=by simp[c2]
    have hres:bad=true:=by rw[<-HBAD1.out];exact decide_eq_true (.inr (.inr (.inl c2)))
    clear c1 c2 pv1;exact x59w
  have hres:bad=true:=by rw[<-HBAD1.out];exact decide_eq_true (.inl c3)
  clear pv pv1;exact x59w
 case rest=>
 obtain⟨rfl,hb⟩:=hcut;obtain⟨a0r,a0f,a0n,a0c,a0z,a0l⟩:=keep1 (g:=g) (cs:=devA d L) hb.out a0r (by go_simp) a0f;obtain⟨r0r,r0f,r0n,r0c,r0z,r0l⟩:=keep1 (g:=gr) (cs:=recA r) hb.out r0r (by simp[recA]) r0f;have HB3:=bT HB2 hb.out;clear hb HB2 HBAD1
 cases hbd:bad
 case true=>
  have hz:Hid (n=3):=qH (E1.out.trans (devBusy_form (of_decide_eq_true (HBAD.out.trans hbd))));clear hbd;exact x0bh
 have hnf:=of_decide_eq_false (HBAD.out.trans hbd);have hrest:=E1.out.trans (devBusy_rest hnf);clear hbd HBAD E1 hnf;obtain⟨img,himg⟩:=eX (d.image r.active r);rw[himg]at hrest HIM;have hil:img.length<=64:=by
  exact x0wh
 rw[HA.out,hsub]at hrest;have hpok:=@patDo_ok (sumOn 1) d.job img;obtain⟨⟨b,en⟩,hpd⟩:∃x,patDo (sumOn 1) d.job img=x:=⟨_,rfl⟩;rw[hpd]at hrest hpok;have HBL:Hid (en=0->b.length<=64∧(b.length:Int)=d.job.size∧d.job.size<=64):=qH (fun e=>by
  exact x2v6)
 dsimp only at hrest;have HR1:=qH hrest;have HPD:=qH hpd;clear hrest hpok hpd himg hsub;have RD:Hid (rowOf wc g=devA d L):=qH a0r;have FD:Hid (frOf wc g=(0,0)):=qH a0f;have KI:Hid (∀wq,Below wc.heap.size wc wq->Calls Tryz.prog 67 #[.agg (devA d L)] wq (ImRet wq img)):=qH (fun wq h=>HIM.out wq ((HIN.out.stays HB3.out).stays h));have KD:Hid (∀wq A c,Below wc.heap.size wc wq->img.length<=c->Bts wq A img->Calls Tryz.prog 66 #[.agg (patA d.job.from_ d.job.to_ d.job.old d.job.new_ d.job.size L.aj d.job.ops.length L.cj),.slice A img.length c] wq (ByRet2 wq b en)):=qH (fun wq A c h hc hb=>by
  have hq:=refDone_calls L.aj A L.cj c d.job img wq hc (by omega) hb ((HIN.out.job.stays HB3.out).stays h);rw[HPD.out]at hq;exact hq)
 go_wp2_with fail;have hq1:=fun v (h:Below wc.heap.size wc v)=>keep1 h RD.out (by go_simp) FD.out
 go_region_held3 (fun v=>Below wc.heap.size wc v) (first|exact hbb|exact(Below.refl _ _).drew)
  (first
    |(go_at_call 67;refine(KI.out _ (by assumption)).mono ?_;rintro e wj ⟨Aj,cj,rfl,h3,h4,h5⟩;have hbb:=(bW wc).drew.trans (h5.mono (by simp)))
    |(go_at_call 66;refine(KD.out _ _ _ (by assumption) h3 h4).mono ?_;rintro e w8 ⟨A2,c2',rfl,g1,g2,g9⟩;have hbb:=hbb.trans (g9.mono hbb.size)))
 have g3:=hbb;clear hbb g9 h3 h4 h5 hq1;obtain⟨a0r,a0f,a0n,a0c,a0z,a0l⟩:=keep1 (g:=g) (cs:=devA d L) g3 a0r (by go_simp) a0f;obtain⟨r0r,r0f,r0n,r0c,r0z,r0l⟩:=keep1 (g:=gr) (cs:=recA r) g3 r0r (by simp[recA]) r0f;have HB2:Hid (Below w.heap.size w w8):=qH (HB3.out.trans (g3.mono HB3.out.size));have HBB:=qH g1;have HC1:=qH g2;clear g1 g2 g3 KI KD RD FD HIM HB3 HPD;by_cases c1:en=0
 case neg=>
  have q:(en !=0)=true:=by simp[c1]
  have hz:Hid (n=en):=qH (HR1.out.trans (if_pos c1));clear c1;exact x5lm
 subst c1;obtain⟨b1,b2,b3⟩:=HBL.out rfl;have HR2:=qH (HR1.out.trans (if_neg (by decide)));have hw1:IntKind.i64.wrap (d.job.size+7)=d.job.size+7:=IntWalk.i64_in _ (by omega);have hmn:=run_min64 (d.job.size+7);have HSZ:=qH b3;have HB1:=qH b1;clear HR1 HBL b2;go_upto_region 26 with fail
 obtain⟨bad1,hbad1⟩:∃b,decide (d.done<0∨64<d.done∨d.done%8≠0∨d.job.size+8<=d.done)=b:=⟨_,rfl⟩;have HBAD:=qH hbad1;clear hbad1 b1 b3;go_cut [147] (fun v wx=>v=.bool bad1∧Hid (Below w8.heap.size w8 wx))
 case first=>
  have hsz:=HSZ.out;by_cases c1:0<=d.done∧d.done<=min 64 (d.job.size+7)
  ·have KI:=qH (fun w=>refIn_t (n:=d.done) (a:=0) (b:=min 64 (d.job.size+7)) c1 w);have hmod:d.done.tmod 8=d.done%8:=Int.tmod_eq_emod_of_nonneg c1.1;by_cases c2:d.done%8=0
   ·have q1:(d.done.tmod 8 !=0)=false:=by rw[hmod];simp[c2]
    have hres:bad1=false:=by rw[<-HBAD.out];exact decide_eq_false (by omega)
    clear c1 c2 hmod hsz;go_wp2_with fail;refine(KI.out _).mono ?_;rintro e w5 ⟨rfl,rfl⟩;exact x74k
   have q1:(d.done.tmod 8 !=0)=true:=by rw[hmod];simp[c2]
   have hres:bad1=true:=by rw[<-HBAD.out];exact decide_eq_true (.inr (.inr (.inl c2)))
   clear c1 c2 hmod hsz;go_wp2_with fail;refine(KI.out _).mono ?_;rintro e w5 ⟨rfl,rfl⟩;exact x74k
  have KI:=qH (fun w=>refIn_f (n:=d.done) (a:=0) (b:=min 64 (d.job.size+7)) (by omega) w);have hres:bad1=true:=by rw[<-HBAD.out];exact decide_eq_true (by omega)
  clear c1 hsz;go_wp2_with fail;refine(KI.out _).mono ?_;rintro e w5 ⟨rfl,rfl⟩;exact x74k
 case rest=>
 obtain⟨rfl,hb⟩:=hcut;obtain⟨a0r,a0f,a0n,a0c,a0z,a0l⟩:=keep1 (g:=g) (cs:=devA d L) hb.out a0r (by go_simp) a0f;obtain⟨r0r,r0f,r0n,r0c,r0z,r0l⟩:=keep1 (g:=gr) (cs:=recA r) hb.out r0r (by simp[recA]) r0f;have HB3:=bT HB2 hb.out;have HBB:=qH (HBB.out.stays hb.out);clear hb HB2 hw1 hmn
 cases hbd:bad1
 case true=>
  have hz:Hid (n=2):=qH (HR2.out.trans (if_pos (of_decide_eq_true (HBAD.out.trans hbd))));clear hbd;exact x0bh
 have hnb:=of_decide_eq_false (HBAD.out.trans hbd);have HR1:=qH (HR2.out.trans (if_neg hnb));obtain⟨dn',hdn⟩:∃dn':Nat,d.done=(dn':Int):=⟨d.done.toNat,by omega⟩;have hdt:d.done.toNat=dn':=by omega
 rw[hdt]at HR1;have hd1:dn'<=64:=by omega
 have HDN:=qH hdn;clear hbd HBAD HR2 hnb hdt;have hsl:=slot_len HL2.out HL1.out (a':Int);obtain⟨A1,c2,p1,p2,p3⟩:=devSlotA (HIN.out.stays HB3.out) ha2;generalize d.slot (a':Int)=sl at *
 have HP1:=qH p1;have HX:=qH p3;obtain⟨bx,ox,hax,-⟩:=p3 0 (by omega);have HSL:=qH (pre_slice (A:=A1) (n:=sl.length) (c:=c2) dn' hdn p2 (by omega) (by omega) ⟨bx,ox,hax⟩);have hrl:=room_len HB1.out;obtain⟨eq,heq⟩:=eX (decide (sl.take dn'=(room b).take dn'));have hlt1:(sl.take dn').length=dn':=by rw[List.length_take,hsl];omega
 have hlt2:((room b).take dn').length=dn':=by rw[List.length_take,hrl];omega
 have KQ:Hid (∀wq A c,Below wc.heap.size wc wq->dn'<=c->Bts wq A ((room b).take dn')->Calls Tryz.prog 40 #[.slice A1 dn' c2,.slice A dn' c] wq (RetB wq (.bool eq))):=qH (fun wq A c h hc hb=>by
  have hq:=(bytesEqual_calls A1 A c2 c (sl.take dn') ((room b).take dn') wq (by omega) (by omega) (mid_take (HX.out.stays h) dn') hb).mono (fun _ _ h=>h.to);rw[heq,hlt1,hlt2]at hq;exact hq)
 have HQ:=qH heq;have HRL:=qH hrl;obtain⟨rb,hrb⟩:=eX (room b);rw[hrb]at KQ HQ HRL HR1;have HRB:=qH hrb;have HKS:Hid ((0:Int)<=(a':Int)∧(a':Int)<2∧¬(2:Int)<=(a':Int)∧IntKind.i64.wrap ((1:Int)-(a:Int))=(a':Int)):=qH ⟨by omega,by omega,by omega,hwr⟩;clear hsl p1 p2 p3 hax hrl heq hlt1 hlt2 hrb hwr hdn;go_wp2_with fail;have RD:Hid (rowOf wc g=devA d L):=qH a0r;have FD:Hid (frOf wc g=(0,0)):=qH a0f;have RR:Hid (rowOf wc gr=recA r):=qH r0r;have FR:Hid (frOf wc gr=(0,0)):=qH r0f;refine wM (some 148::some 149::some 150::some 151::some 152::some 153::some 154::some 155::some 156::some 157::some 158::some 159::some 160::some 161::some 162::some 163::[]) (none::none::none::none::none::none::none::none::none::none::some 0::none::none::some 1::some 2::some 3::[]) (.pointer (some ⟨gr,1,none⟩)::iv (a:Int)::iv (a':Int)::.pointer (some ⟨g,0,none⟩)::.pointer (some ⟨g,a',none⟩)::.slice A1 sl.length c2::.pointer (some ⟨g,36,none⟩)::iv d.done::.slice A1 dn' c2::.slice A2 b.length c2'::undef::.pointer (some ⟨g,36,none⟩)::iv d.done::undef::undef::undef::[]) 4 (rmJ wc rb dn' eq) 164 (rfl) ?_ ?_
 ·refine⟨?_,?_,?_,?_,?_,?_,?_,?_,?_,?_,?_,?_,?_,?_,?_,?_,trivial⟩
  ·exact x1xc
  ·intro done cv k2 a wq hw h hJ hn;have e1:=mN 0 148 h hw;exact x0t0
  ·intro done cv k1 a wq hw h hJ hn;have e1:=mN 1 149 h hw;exact x2qu
  ·exact x4wi
  ·intro done cv k1 a wq hw h hJ hn;have e1:=mN 3 151 h hw;have e150:=mN 2 150 h hw;exact x2qu
  ·intro done cv k2 a wq hw h hJ hn;have e1:=mN 4 152 h hw;have y_:=kq (rmJ_bel hJ) RD FD;have e_:=HP1.out;go_simp
  ·exact x1jh
  ·intro done cv k2 a wq hw h hJ hn;have e1:=mN 6 154 h hw;exact x8u2
  ·intro done cv k1 a wq hw h hJ hn;have e1:=mN 5 153 h hw;have e155:=mN 7 155 h hw;have hs_:=HSL.out;go_simp
  ·intro done cv k2 a wq hw h hJ hn;have e1:=mO 8 (.slice A2 b.length c2') h;exact mx_move (ch_ev e1)
  ·intro done cv a wq hw h hJ;have e1:=mN 9 157 h hw;obtain rfl:wq=wc.drew:=hJ;refine wp_call (vals:=#[.slice A2 b.length c2']) (by rw[List.map_toArray,List.map_cons,List.map_nil,ch_ev e1]) (enters_of Tryz.func24 (by kernel_rfl) rfl _ _) (filled_calls A2 c2' b _ HB1.out (HBB.out.stays (Below.refl _ _).drew)) ?_;rintro e w' ⟨A2,c3,rfl,hown,hbel⟩;rw[HRB.out]at hown⊢;exact⟨_,rfl,_,rfl,A2,c3,by simp,hown.src.bts,hown.le,(Below.refl _ _).drew.trans hbel⟩
  ·exact x1jh
  ·intro done cv k2 a wq hw h hJ hn;have e1:=mN 11 159 h hw;exact x8u2
  ·intro done cv a wq hw h hJ;have e1:=mx_cv (i:=10) (t:=158) h (hw 10 (by decide)) rfl rfl;have e160:=mN 12 160 h hw;obtain⟨A2,c3,y1,g1,g2,g3⟩:=hJ;rw[y1]at e1;obtain⟨by_,oy_,hay,-⟩:=g1 0 (by rw[HRL.out];omega);have hs_:=pre_slice (z:=d.done) dn' HDN.out g2 (by rw[HRL.out];omega) (by rw[HRL.out];omega) ⟨by_,oy_,hay⟩;clear hay;refine wp_val (v:=.slice A2 dn' c3) (by go_simp) ⟨_,rfl,A2,c3,by simp,mid_take g1 dn',by rw[HRL.out]at g2;omega,g3⟩
  ·intro done cv a wq hw h hJ;have e1:=mN 8 156 h hw;have e161:=mx_cv (i:=13) (t:=161) h (hw 13 (by decide)) rfl rfl;obtain⟨A2,c3,y1,g1,g2,g3⟩:=hJ;rw[y1]at e161;refine wp_call (vals:=#[.slice A1 dn' c2,.slice A2 dn' c3]) (by rw[List.map_toArray,List.map_cons,List.map_cons,List.map_nil,ch_ev e1,ch_ev e161]) (enters_of Tryz.func40 (by kernel_rfl) rfl _ _) (KQ.out _ _ _ g3 g2 g1) ?_;rintro e w' ⟨rfl,hbel⟩;exact⟨_,rfl,_,rfl,by simp,g3.trans (hbel.mono g3.size)⟩
  ·intro done cv a wq hw h hJ;have e1:=mx_cv (i:=14) (t:=162) h (hw 14 (by decide)) rfl rfl;exact x8jo
 intro cv1 w5 hJ;obtain⟨y1,hb⟩:=hJ;simp only[mixAll,pA,mA,Nat.reduceAdd];rw[y1];have HB2:=bT HB3 hb;clear hb y1
 cases eq
 ·have hz:Hid (n=3):=qH (HR1.out.trans (if_pos (by have:=HQ.out;simpa using this)));exact x5lm
 have hz:Hid (n=0):=qH (HR1.out.trans (if_neg (by have:=HQ.out;simpa using this)));exact x5lm
theorem refWorCheck_calls(x:Wor)(L:WLoc)(w:World)(h:WorIn w x L):Calls Tryz.prog 6 #[.agg (worA x L)] w (RetB w (iv (worCheck x))):=by
 have HBA:=qH ((bW w).alloc nl (.cells (worA x L) 40));have HIN:=qH h;have K1:=qH (fun w h=>refReleases_calls L.ar L.cr x.rel w HIN.out.lr h);have K2:=qH (fun w h=>refDevCheck_calls x.d L.l w h);obtain⟨n,hn⟩:=eX (worCheck x);rw[hn];have HN:=qH hn;obtain⟨e1,he1⟩:∃e,relCheck x.rel=e:=⟨_,rfl⟩;obtain⟨e2,he2⟩:∃e,devCheck x.d=e:=⟨_,rfl⟩;rw[he1]at K1;rw[he2]at K2;have HE1:=qH he1;have HE2:=qH he2;clear h hn he1 he2;go_enter Tryz.func6,Tryz.ntmps6;go_wp2_with fail;refine(K1.out _ (HIN.out.rel.stays HBA.out)).mono ?_;rintro e w3 ⟨rfl,hb⟩;have a1:=kp (w.heap.size) (worA x L) hb;have HB3:=bT HBA hb;clear hb;by_cases c1:e1≠0
 ·have hz:Hid (n=e1):=qH (by rw[<-HN.out,worCheck_rel (by rw[HE1.out];exact c1),HE1.out]);have q:(e1 !=0)=true:=by simp[c1]
  clear c1;go_wp2_with fail;go_ret;have hs:=HB3.out.size;refine⟨ret_int hz.out.symm,?_⟩;exact x0ap
 have c1:=Decidable.not_not.1 c1;subst c1;go_wp2_with fail;refine(K2.out _ (HIN.out.dev.stays HB3.out)).mono ?_;rintro e w1 ⟨rfl,hb⟩;have a1:=kr a1 hb;have HB1:=bT HB3 hb;clear hb;by_cases c2:e2≠0
 ·have hz:Hid (n=e2):=qH (by rw[<-HN.out,worCheck_dev HE1.out (by rw[HE2.out];exact c2),HE2.out]);have q:(e2 !=0)=true:=by simp[c2]
  clear c2;go_wp2_with fail;go_ret;have hs:=HB1.out.size;refine⟨ret_int hz.out.symm,?_⟩;exact x0ap
 have c2:=Decidable.not_not.1 c2;subst c2;by_cases c3:120<x.net.length
 ·have hz:Hid (n=1):=qH (by rw[<-HN.out,worCheck_many HE1.out HE2.out c3]);have q:(120:Int)<(x.net.length:Int):=by omega
  go_wp2_with fail;go_ret;have hs:=HB1.out.size;refine⟨ret_int hz.out.symm,?_⟩;exact x0ap
 have q3:¬(120:Int)<(x.net.length:Int):=by omega
 have HN1:Hid (netCheck x.net=n):=qH (by rw[<-HN.out,worCheck_net HE1.out HE2.out c3]);have hcap:(x.net.length:Int)<=(L.cn:Int):=by have:=HIN.out.kn;omega
 have HNT:=qH HIN.out.net;go_wp2_with fail;generalize L.an=an at *
 go_loopw [27] (fun i wr=>∃k:Nat,k<=x.net.length∧i=iv k∧Hid (netCheck (x.net.drop k)=n)∧Hid (Below w.heap.size w wr)) (fun i _=>x.net.length-(intOf i).toNat)
 case atStart=>exact⟨0,Nat.zero_le _,rfl,qH (by rw[List.drop_zero];exact HN1.out),HB1⟩
 case round=>
  clear HB1 HN1 a1;rename World=>wr;obtain⟨k,hk,rfl,HE,HB⟩:=hrel;have hsz:=HB.out.size;by_cases hlt:k<x.net.length
  ·obtain⟨b,o,B,c,rfl,hb,hck,hin⟩:=(HNT.out.stays HB.out).chk hlt;obtain⟨y,hy⟩:=eX (x.net[k]);rw[hy]at hck hin;obtain⟨q6,q1,q2,q4,q5⟩:=hck;have hdr:x.net.drop k=y::x.net.drop (k+1):=by rw[List.drop_eq_getElem_cons hlt,hy]
   have hne:=HE.out;rw[hdr,netCheck_cons]at hne;have HNE:=qH hne;have KC:=qH (fun w=>refChkCheckX_calls B c y w ⟨hin.i2,hin.i3⟩);exact x61q
  obtain rfl:k=x.net.length:=by omega
  have dl:decide ((x.net.length:Int)<(x.net.length:Int))=false:=by simp
  have hz:Hid (n=0):=qH (by have:=HE.out;rw[List.drop_length]at this;exact this.symm);go_wp2_with fail;go_ret;have hs:=HB.out.size;refine⟨ret_int hz.out.symm,?_⟩;exact x0ap
theorem x2ed(h:Y:=by
 repeat (first|exact ho|refine On.row ?_ (by rintro (h|h)<;>omega) _|refine On.cell2 ?_ (by rintro (h|h)<;>omega) _|refine On.alloc ?_ _)):Y:=h
theorem x3rt(h:Y:=by
 clear hb;go_wp2_with fail;refine bodyPost_ret (rC (worA Wor.zero WLoc.zero)) rfl ⟨WLoc.zero,rfl,.const fun v=>WorIn.zero v,bZ HBZ⟩):Y:=h
def HpRet(S:Nat->Prop)(w:World)(x:Wor)(n:Int):Ending->World->Prop:=fun en w'=>
 ∃L,en=.returned (.tuple #[.agg (worA x L),iv n])∧On (fun k=>S k∧k<w.heap.size∨w.heap.size<=k) w' (fun v=>WorIn v x L)∧Below w.heap.size w w'
theorem hapBad_calls(n:Int)(w:World):Calls Tryz.prog 43 #[iv n] w (RetB w (.tuple #[.agg (worA Wor.zero WLoc.zero),iv n])):=by
 go_enter Tryz.func43,Tryz.ntmps43;go_wp2_with fail;refine bodyPost_ret (rC (worA Wor.zero WLoc.zero)) rfl ⟨rfl,?_⟩;exact x89i
theorem On.worDev{S:Nat->Prop}{w:World}{x:Wor}{L:WLoc}{d:Dev}{K:DLoc}(h:On S w (fun v=>WorIn v x L))(g:On S w (fun v=>DevIn v d K)):On S w (fun v=>WorIn v {x with d:=d} {L with l:=K}):=
 (h.and g).imp fun v h=>⟨h.1.kr,h.1.lr,h.1.rel,h.2,h.1.kn,h.1.ln,h.1.net⟩
theorem On.worNet{S:Nat->Prop}{w:World}{x:Wor}{L:WLoc}{l:List Chk}{A:OA}{c:Nat}(h:On S w (fun v=>WorIn v x L))(hc:l.length<=c)(hl:l.length<=2513169434843)(g:On S w (fun v=>Chs v A l)):On S w (fun v=>WorIn v {x with net:=l} {L with an:=A,cn:=c}):=
 (h.and g).imp fun v h=>⟨h.1.kr,h.1.lr,h.1.rel,h.1.dev,hc,hl,h.2⟩
theorem hap_dev(S:Nat->Prop)(x:Wor)(L:WLoc)(kd n:Int)(w:World)(hok:WorOk x)(hn:I64 n)(hx:On S w (fun v=>WorIn v x L))(hk:¬(1<=kd∧kd<=4)):Calls Tryz.prog 13 #[.agg (worA x L),.agg #[iv kd,iv n]] w (HpRet S w (worDevice x (devAct x.d kd n)).1 (worDevice x (devAct x.d kd n)).2):=by
 have HBA:Hid (Below w.heap.size w (((w.alloc (.cells (worA x L) 40)).alloc (.cells #[iv kd,iv n] 42)).alloc (.cells (worA Wor.zero WLoc.zero) 40))):=qH ((((bW w).alloc nl _).alloc (by simp) _).alloc (by simp;omega) _);have HX:=qH hx;have q1:(kd==1)=false:=by simp;omega
 have q2:(kd==2)=false:=by simp;omega
 have q3:(kd==3)=false:=by simp;omega
 have q4:(kd==4)=false:=by simp;omega
 have KI:=qH (fun w=>in_calls kd 5 12 w);by_cases hr:5<=kd∧kd<=12
 ·have hw:within kd 5 12=true:=by unfold within;simp;omega
  rw[hw]at KI;have KA:Hid (∀wq,Below w.heap.size w wq->Calls Tryz.prog 48 #[.agg (devA x.d L.l),.agg #[iv kd,iv n],.agg (chkA 0 0 0 0 none 0 0)] wq (AcRet (fun k=>S k∧k<w.heap.size) wq (devAct x.d kd n).1 (devAct x.d kd n).2)):=qH (fun wq hb=>by
   have h:=acts_calls (fun k=>S k∧k<w.heap.size) x.d L.l kd n Chk.zero none 0 wq (.inr hr) hok.dev hn (((hx.imp fun v h=>h.dev).sub fun k h1 h2=>⟨h2,h1⟩).below hb) (.const fun v=>⟨nl,by simp[Chk.zero],bts_nil v none,⟨by decide,by decide⟩,⟨by decide,by decide⟩,⟨by decide,by decide⟩,⟨by decide,by decide⟩⟩);rwa [show devActs x.d Chk.zero kd n=devAct x.d kd n from if_neg (by omega)]at h)
  have hdef:worDevice x (devAct x.d kd n)=if (devAct x.d kd n).2≠0 then (Wor.zero,(devAct x.d kd n).2)else ({x with d:=(devAct x.d kd n).1},0):=rfl
  rw[hdef];obtain⟨⟨d1,e1⟩,he⟩:∃z,devAct x.d kd n=z:=⟨_,rfl⟩;rw[he]at KA⊢;dsimp only;obtain⟨res,hres⟩:=eX ((if e1≠0 then (Wor.zero,e1)else ({x with d:=d1},0):Wor×Int));rw[hres];have HD:=qH hres;clear he hdef hw hx hk hr hok hn hres;go_enter Tryz.func13,Tryz.ntmps13;go_wp2_with fail;refine(KI.out _).mono ?_;rintro e w1 ⟨rfl,rfl⟩;go_wp2_with fail;refine(KA.out _ ?_).mono ?_
  ·exact bZ HBA
  rintro e w1 ⟨K,rfl,hon,hb⟩;have a3:=kp (w.heap.size) (worA x L) hb;have a1:=kp (w.heap.size+1) (#[iv kd,iv n]) hb;have a2:=kp (w.heap.size+1+1) (worA Wor.zero WLoc.zero) hb;have HB1:=bU HBA hb;have HON:Hid (On (fun q=>S q∧q<w.heap.size∨(w.heap.size+3<=q∧q<w1.heap.size)) w1 (fun v=>WorIn v {x with d:=d1} {L with l:=K})):=qH (((HX.out.sub fun k h1 h2=>.inl ⟨h2,h1⟩).below HB1.out).worDev (hon.sub fun k h1 h2=>by
   rcases h2 with ⟨h2,_⟩|h2
   ·exact .inl h2
   exact .inr ⟨by simpa using h2,h1⟩))
  have hs1:=hb.size;have hs1':w.heap.size+3<=w1.heap.size:=by simpa using hs1
  clear hb hon hs1;by_cases c1:e1≠0
  ·have q:(e1 !=0)=true:=by simp[c1]
   obtain rfl:=HD.out.symm.trans (if_pos c1);clear c1;go_wp2_with fail;refine(hapBad_calls e1 _).mono ?_;rintro e wz ⟨rfl,hb⟩;have z1:=kp (w.heap.size+1+1) (worA Wor.zero WLoc.zero) hb;have HBZ:=bU HB1 hb;exact x3rt
  have c1:=Decidable.not_not.1 c1;subst c1;obtain rfl:=HD.out.symm.trans (if_neg (by simp));go_wp2_with fail;refine bodyPost_ret (rC (worA {x with d:=d1} {L with l:=K})) rfl ⟨{L with l:=K},rfl,?_,?_⟩
  ·have ho:On (fun q=>S q∧q<w.heap.size∨(w.heap.size+3<=q∧q<w1.heap.size)) w1 (fun v=>WorIn v {x with d:=d1} {L with l:=K}):=HON.out;refine On.sub (S:=fun q=>S q∧q<w.heap.size∨(w.heap.size+3<=q∧q<w1.heap.size)) ?_ (fun q _ h=>h.elim .inl (fun h=>.inr (by omega)));exact x2ed
  exact bZ HB1
 have hw:within kd 5 12=false:=by unfold within;simp;omega
 rw[hw]at KI;have hdef:worDevice x (devAct x.d kd n)=(Wor.zero,3):=by
  have:devAct x.d kd n=(Dev.zero,3):=by
   unfold devAct;simp only[show ¬kd=5 by omega,show ¬kd=6 by omega,show ¬kd=7 by omega,show ¬kd=8 by omega,show ¬kd=9 by omega,show ¬kd=10 by omega,show ¬kd=11 by omega,show ¬kd=12 by omega,if_false]
  rw[this];rfl
 rw[hdef];clear hdef hw hx hk hr hok hn;go_enter Tryz.func13,Tryz.ntmps13;go_wp2_with fail;refine(KI.out _).mono ?_;rintro e w1 ⟨rfl,rfl⟩;go_wp2_with fail;refine(hapBad_calls 3 _).mono ?_;rintro e wz ⟨rfl,hb⟩;have z1:=kp (w.heap.size+1+1) (worA Wor.zero WLoc.zero) hb;have HBZ:=bU HBA hb;exact x3rt
