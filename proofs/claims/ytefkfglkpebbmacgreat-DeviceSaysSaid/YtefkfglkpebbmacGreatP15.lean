/- Walks of functions, and plain words. No conditions. -/
import Derived.Test.YtefkfglkpebbmacGreatP14
set_option linter.unusedVariables false
set_option linter.unusedSimpArgs false
set_option maxRecDepth 100000
set_option maxHeartbeats 40000000
namespace Go.Proofs.YtefkfglkpebbmacGreat
open Go.RowKit
variable {Y:Prop}
variable {x:Chk}
theorem acts_confirm(d:Dev)(L:DLoc)(n f t m o:Int)(B:OA)(bl bc:Nat)(w:World)(hok:DevOk d)(hu:d.up=true):Calls Tryz.prog 19 #[.agg (devA d L),.agg #[iv 8,iv n],.agg (chkA f t m o B bl bc)] w (ActRet w d L (devConfirm d).1 (devConfirm d).2):=by
 have hrec:=rec_ok hok;have hrd:devReady d=0:=by unfold devReady;rw[if_neg (by simpa using devCheck_ok.2 hok),if_neg (by rw[hu];decide)]
 have KN:=qH (fun w=>newest_calls d.c0 d.c1 w);rw[refNewest_ok hok.cops]at KN;obtain⟨rk,hrk⟩:=eX ((recRead d.c0 d.c1).2);have hre:(recRead d.c0 d.c1).1=d.rec_:=rfl;rw[hrk,hre]at KN;clear hrk hre;have hact:=rec_active hrec;have hrun:=(hok.run hu).2;have hdef:devConfirm d=if d.running=d.rec_.active then (Dev.zero,5)else (if (recWrite d.c0 d.c1 (recDone d.rec_) false).2≠0 then (Dev.zero,(recWrite d.c0 d.c1 (recDone d.rec_) false).2)else (d.write (recDone d.rec_) false,0)):=by
  unfold devConfirm;rw[if_neg (by omega)];by_cases c:d.running=d.rec_.active
  ·rw[if_pos c,if_pos c]
  have hc:recConfirm d.rec_=(recDone d.rec_,0):=by unfold recConfirm;rw[if_pos hrec,if_pos (hrun.resolve_left c)]
  rw[if_neg c,if_neg c,hc];rfl
 have HD:=qH hdef;have HR:=qH hrun;have K1:=qH (fun w=>confirmed_calls d.rec_ w (by omega));have K2:=qH (fun gd w h1 h2=>actsWrite_calls d L (recDone d.rec_) false gd w hok.cops h1 h2);generalize devConfirm d=res at *
 clear hrec hrd hok hact hrun hdef;generalize d.rec_=r at *
 go_enter Tryz.func19,Tryz.ntmps19;go_wp2_with fail;refine(KN.out _).mono ?_;rintro e w1 ⟨rfl,hb⟩;have a2:=kp (w.heap.size) (devA d L) hb;have a1:=kp (w.heap.size+1) (#[iv 8,iv n]) hb;have a1:=kp (w.heap.size+1+1+1) (devA Dev.zero DLoc.zero) hb;have a3:=kp (w.heap.size+1+1+1+1) (#[.func (Fn.func 51) #[] #[]]) hb;have HB1:Hid (Below w.heap.size w w1):=qH (((((((bW w).alloc nl (.cells (devA d L) 37)).alloc (by simp) (.cells #[iv 8,iv n] 55)).alloc (by simp;omega) (.cells (chkA f t m o B bl bc) 39)).alloc (by simp;omega) (.cells (devA Dev.zero DLoc.zero) 37)).alloc (by simp;omega) _).trans (hb.mono (by simp;omega)));clear hb;by_cases c1:d.running=r.active
 ·have hz:=HD.out.trans (if_pos c1);subst hz;have q:(d.running==r.active)=true:=by simp[c1]
  clear c1 HD HR K1 K2 KN;exact x1zo
 have ht:=HR.out.resolve_left c1;have q:(d.running==r.active)=false:=by simp[c1]
 have HD1:=qH (HD.out.trans (if_neg c1));clear c1 HD HR KN hu;go_wp2_with fail;refine(K1.out _).mono ?_;rintro e w1 ⟨rfl,hb⟩;have a2:=kr a2 hb;have a1:=kr a1 hb;have a3:=kr a3 hb;have HB1:=bU HB1 hb;clear hb;go_wp2_with fail;refine(K2.out _ _ (by go_simp) (by go_simp)).mono ?_;rintro e w1 ⟨wa,wb,rfl,hba,hwb,hbb⟩;have a1:=kr a1 hba;have a1:=kr a3 hba;have a1:=kr a2 hba;have HBa:=bU HB1 hba;clear hba;obtain⟨e1,he1⟩:=eX ((recWrite d.c0 d.c1 (recDone r) false).2);rw[he1]at hwb HD1⊢;clear he1 K1 K2;by_cases c1:e1≠0
 ·rw[if_neg c1]at hwb;subst hwb;have b1:=kp (w.heap.size+1+1+1) (devA Dev.zero DLoc.zero) hbb;have b1:=kp (w.heap.size+1+1+1+1) (#[.func (Fn.func 51) #[] #[]]) hbb;have b1:=kp (w.heap.size) (devA d L) hbb;have HB1:=bT HBa hbb;have hz:=HD1.out.trans (if_pos c1);subst hz;have KD:=qH (fun gb gd w h1 h2=>actsDone_bad e1 gb gd w c1 h1 h2);clear hbb c1;go_wp2_with fail;refine(KD.out _ _ _ (by go_simp) (by go_simp)).mono ?_;rintro e w1 ⟨rfl,hb⟩;have c1:=kp (w.heap.size+1+1+1) (devA Dev.zero DLoc.zero) hb;exact x20b
 have c1:=Decidable.not_not.1 c1;subst c1;rw[if_pos rfl]at hwb;subst hwb;have hz:=HD1.out.trans (if_neg (by decide));subst hz;have hin:∀v,DevIn v d L->DevIn v (d.write (recDone r) false) L:=fun v h=>⟨h.k0,h.l0,h.b0,h.k1,h.l1,h.b1,h.kg,h.lg,h.got,h.job,h.ir,h.id⟩;have HIN:=qH hin;clear hin;generalize d.write (recDone r) false=d2 at *
 have b1:=kp (w.heap.size+1+1+1) (devA Dev.zero DLoc.zero) hbb;have b1:=kp (w.heap.size) (devA d2 L) hbb;have HB1:Hid (Below w.heap.size w w1):=qH ((below_row HBa.out (by omega) _).trans (hbb.mono (by have:=HBa.out.size;simp;omega)));clear hbb;go_wp2_with fail;refine(actsDone_ok d2 L _ _ _ (by go_simp) (by go_simp)).mono ?_;rintro e w1 ⟨rfl,hb⟩;have c1:=kp (w.heap.size+1+1+1) (devA Dev.zero DLoc.zero) hb;have HB1:=bU HB1 hb;clear hb;go_wp2_with fail;refine bodyPost_ret (rC (devA d2 L)) rfl ⟨L,rfl,HIN.out,bZ HB1⟩
def idxR(p:Chk->Bool):List Chk->Nat->Int
 |[],_=> -1
 |x::r,k=>if p x=true then (k:Int)else idxR p r (k+1)
theorem idxR_f{p:Chk->Bool}{r:List Chk}{k:Nat}(h:p x=false):idxR p (x::r) k=idxR p r (k+1):=if_neg (by simp[h])
theorem idxR_t{p:Chk->Bool}{r:List Chk}{k:Nat}(h:p x=true):idxR p (x::r) k=(k:Int):=if_pos h
theorem idxR_spec(p:Chk->Bool):∀(l:List Chk) (k:Nat),(l.find? p=none∧idxR p l k= -1)∨∃j x,l[j]?=some x∧idxR p l k=((k+j:Nat):Int)∧l.find? p=some x
 |[],k=>.inl ⟨rfl,rfl⟩
 |x::r,k=>by
  by_cases h:p x=true
  ·exact .inr ⟨0,x,rfl,by rw[idxR_t h];simp,by simp[h]⟩
  have h:=Bool.eq_false_iff.2 h;rw[idxR_f h];rcases idxR_spec p r (k+1)with ⟨h1,h2⟩|⟨j,y,h1,h2,h3⟩
  ·exact .inl ⟨by simp[h,h1],h2⟩
  exact .inr ⟨j+1,y,by simpa using h1,by rw[h2];congr 1;omega,by simp[h,h3]⟩
def isN(x:Chk)(n:Int):Bool:=x.n==n
theorem atN_isN(l:List Chk)(n:Int):atN l n=l.find? (fun x=>isN x n):=rfl
theorem raN_go(x:Chk)(n:Int)(B:OA)(k g:Nat)(w:World)(hlt:g<w.heap.size)(hc:w.cell? ⟨g,0,none⟩=some (iv n))(b0:Bool)(hb0:(x.n==n)=b0):
  Calls Tryz.prog 90 #[.agg (chkA x.from_ x.to_ x.n x.of_ B x.data.length k),.pointer (some ⟨g,0,none⟩)] w (RetB w (.bool (b0))):=by
 cases b0<;>(
  go_enter Tryz.func90,Tryz.ntmps90;go_wp2_with fail;go_ret;exact⟨rfl,bL _⟩)
theorem raN_calls(x:Chk)(n:Int)(B:OA)(k g:Nat)(w:World)(hlt:g<w.heap.size)(hc:w.cell? ⟨g,0,none⟩=some (iv n)):
  Calls Tryz.prog 90 #[.agg (chkA x.from_ x.to_ x.n x.of_ B x.data.length k),.pointer (some ⟨g,0,none⟩)] w (RetB w (.bool (isN x n))):=by
 refine(raN_go x n B k g w hlt hc _ rfl).mono fun _ _ h=>?_;exact h
theorem raN_idx(A:OA)(cc g:Nat)(l:List Chk)(n:Int)(w:World)(hl:l.length<=2513169434843)(hs:Chs w A l)(hlt:g<w.heap.size)(hc:w.cell? ⟨g,0,none⟩=some (iv n)):
  Calls Tryz.prog 89 #[.slice A l.length cc,.func (Fn.func 90) #[] #[.pointer (some ⟨g,0,none⟩)]] w (RetB w (iv (idxR (fun x=>isN x n) l 0))):=by
 have HS:=qH hs;have HCC:Hid (∀(x:Chk) (B:OA) (k:Nat) w',Below w.heap.size w w'->Calls Tryz.prog 90 #[.agg (chkA x.from_ x.to_ x.n x.of_ B x.data.length k),.pointer (some ⟨g,0,none⟩)] w' (RetB w' (.bool ((fun x=>isN x n) x)))):=qH fun x B k w' hb=>raN_calls x n B k g w' (by have:=hb.size;omega) ((hb.cell (p:=⟨g,0,none⟩) hlt).trans hc);clear hs hc;generalize (fun x=>isN x n)=p at *
 obtain⟨r,hr⟩:=eX (idxR p l 0);rw[hr];have HR:Hid (idxR p l 0=r):=qH hr;clear hr;go_enter Tryz.func89,Tryz.ntmps89;go_wp2_with fail;go_loopw [8] (fun i wr=>∃k:Nat,k<=l.length∧i=iv k∧Hid (idxR p (l.drop k) k=r)∧Hid (Below w.heap.size w wr)) (fun i _=>l.length-(intOf i).toNat)
 case atStart=>exact⟨0,Nat.zero_le _,rfl,qH HR.out,qH (Below.refl _ _)⟩
 case round=>
  rename World=>wr;obtain⟨k,hk,rfl,HE,HB⟩:=hrel;have hsz:=HB.out.size;by_cases hlk:k<l.length
  ·obtain⟨b,o,B,cx,rfl,hs1,p6,p1,p2,p3,p4,p5⟩:=(HS.out.stays HB.out).at_ hlk;have hdr:l.drop k=l[k]::l.drop (k+1):=List.drop_eq_getElem_cons hlk;rw[hdr]at HE;clear p5 hdr;generalize l[k]=x at *
   obtain⟨q,hq⟩:=eX (p x);have HX:Hid (p x=q):=qH hq;have HC1:Hid (∀w',Below wr.heap.size wr w'->Calls Tryz.prog 90 #[.agg (chkA x.from_ x.to_ x.n x.of_ B x.data.length cx),.pointer (some ⟨g,0,none⟩)] w' (RetB w' (.bool q))):=qH fun w' hb=>by
    have:=HCC.out x B cx w' (HB.out.trans (hb.mono HB.out.size));rwa [hq]at this
   clear hq;go_wp2_with fail;refine(HC1.out _ ?_).mono ?_
   ·exact x0rc
   rintro e w1 ⟨rfl,hb1⟩;have HB1:Hid (Below w.heap.size w w1):=by
    exact x7ta
   clear hb1
   cases q
   ·have HE1:Hid (idxR p (l.drop (k+1)) (k+1)=r):=qH ((idxR_f HX.out).symm.trans HE.out);clear HE HX;go_wp2_with fail;go_roundw
    case rel=>exact⟨k+1,by omega,by go_num,HE1,HB1⟩
    case measure=>simp[intOf]<;>omega
   have HE1:Hid ((k:Int)=r):=qH ((idxR_t HX.out).symm.trans HE.out);clear HE HX;go_wp2_with fail;go_ret;exact⟨by rw[<-HE1.out];rfl,HB1.out⟩
  have HE1:Hid ((-1:Int)=r):=qH (by
   rw[<-HE.out,List.drop_of_length_le (by omega)];rfl)
  clear HE;go_wp2_with fail;go_ret;exact⟨by rw[<-HE1.out];rfl,HB.out⟩
theorem x4n0(h:Y:=by
 go_quiet (fail)
 go_wp2_with fail;go_meet
 case rel=>exact⟨by rw[hres],qH (below_drewN _ _)⟩):Y:=h
theorem row_add{w2 w':World}{base:Nat}{P:Nat->Prop}{out:List Chk}{ds:List (Option Addr×Nat)}{C:OA}{cc:Nat}{y:Chk}{D:OA}{d:Nat}{C1:OA}{cc1:Nat}{o:Obj}(h:GRow kChk w2 base out ds C cc)(hE:Each kChk out ds P)(hB0:∀q,P q->q<base)(hy:ChkIn w2 y D d)(hD:kChk.dat y≠[]->∀q,D.map (·.block)=some q->P q)
  (hown:Own w' base 39 5 C1 (out.length+1) cc1 (kChk.cells out ds++kChk.cell y (D,d))) (hgr:(w2.alloc o).grownBy w' (C.map (·.block))) (hbel:Below base (w2.alloc o) w') (hor:C1.map (·.block)=C.map (·.block)∨C1.map (·.block)=some (w2.alloc o).heap.size):
  GRow kChk w' base (out++[y]) (ds++[(D,d)]) C1 cc1∧Each kChk (out++[y]) (ds++[(D,d)]) P:=by
 have hb:=(bW w2).alloc nl o;refine⟨(h.below hb).push (o:=y) (d:=(D,d)) hown hbel (fun k hk hn=>hgr.block k hk (fun e=>hn e.symm)) ?_ (hy.data.stays hb) hy.cap (fun hx q e e2=>by have h1:=hB0 _ (hD hx q e);have h2:=(h.row.block q e2).1;omega),hE.push h.len hD⟩;rcases hor with h|h
 ·exact .inl h
 exact .inr (fun k hk=>by rw[h]at hk;injection hk with hk;omega)
theorem pick_succ(l:List Chk)(c:Chk)(k:Nat):(List.range (k+1)).flatMap (fun (j:Nat)=>pickN l c (j:Int))=(List.range k).flatMap (fun (j:Nat)=>pickN l c (j:Int))++pickN l c (k:Int):=by
 rw[List.range_succ,List.flatMap_append];simp
theorem GRow.freshB{α:Type}{K:Kd α}{w v:World}{base:Nat}{P:Nat->Prop}{l:List α}{ds:List (Option Addr×Nat)}{A:OA}{c:Nat}(h:GRow K w base l ds A c)(hn:Each K l ds P)(hv:∀k,P k∨base<=k->k<w.heap.size->v.heap[k]?=w.heap[k]?):GRow K v base l ds A c:=by
 have hlt:∀k,P k∨base<=k->k<w.heap.size->k<v.heap.size:=fun k h1 h2=>by
  exact x1s0
 refine⟨h.len,own_fresh h.row (fun k h1=>hv k (.inr h1)),fun i o d h1 h2=>⟨fun j hj=>?_,(h.data i o d h1 h2).2⟩,h.off⟩;obtain⟨b,o1,e1,hl1,hc⟩:=(h.data i o d h1 h2).1 j hj;have hx:K.dat o≠[]:=fun e=>by rw[e]at hj;simp at hj
 have hbb:=hn i o d h1 h2 hx b (by rw[e1];rfl);exact⟨b,o1,e1,hlt b (.inl hbb) hl1,(World.cell?_of_block (hv b (.inl hbb) hl1)).trans hc⟩
def AdRet(S:Nat->Prop)(w:World)(l:List Chk)(n:Int):Ending->World->Prop:=fun en w'=>
 ∃A c,en=.returned (.tuple #[.slice A l.length c,iv n])∧l.length<=c∧Below w.heap.size w w'∧On (fun k=>S k∧k<w.heap.size∨w.heap.size<=k) w' (fun v=>Chs v A l)
def otherB(l:List Chk)(x:Chk):Bool:=match l with
 |[]=>false
 |y::_=>decide (¬kin y x)
theorem otherB_at{l:List Chk}{y:Chk}(h:l[0]?=some y):otherB l x=decide (¬kin y x):=by
 rcases l with _|⟨z,r⟩
 ·simp at h
 simp at h;subst h;rfl
theorem refAdded_calls(A B:OA)(c d:Nat)(l:List Chk)(x:Chk)(S:Nat->Prop)(w:World)(hl:l.length<=2513169434843)(hs:On S w (fun v=>Chs v A l))(hx:On S w (fun v=>ChkIn v x B d)):
  Calls Tryz.prog 55 #[.slice A l.length c,.agg (chkA x.from_ x.to_ x.n x.of_ B x.data.length d)] w (AdRet S w (chkAdd l x).1 (chkAdd l x).2):=by
 have HS:=qH hs;have HX:=qH hx;have K1:=qH (fun w h=>refChkList_calls A c l w hl h);have K2:=qH (fun w=>refChkCheckX_calls B d x w ⟨hx.now.i2,hx.now.i3⟩);have hba:=(bW w).alloc nl (.cells (chkA x.from_ x.to_ x.n x.of_ B x.data.length d) 39);have HBA:=qH hba;clear hs hx hba;obtain⟨r,hr⟩:=eX (chkAdd l x);rw[hr];have HR:=qH hr;clear hr;go_enter Tryz.func55,Tryz.ntmps55;go_wp2_with fail;refine(K1.out _ (HS.out.at_ HBA.out)).mono ?_;rintro e w1 ⟨rfl,hb⟩;obtain⟨a0r,a0f,a0n,a0c,a0z,a0l⟩:=kp (w.heap.size) (chkA x.from_ x.to_ x.n x.of_ B x.data.length d) hb;have HB1:=bT HBA hb;clear hb;by_cases he1:chkList l≠0
 ·have hz:=HR.out.symm.trans (chkAdd_err1 (c:=x) he1);have q:(chkList l !=0)=true:=by simp[he1]
  generalize chkList l=e1 at *
  clear he1 HR;go_wp2_with fail;go_ret2;rw[hz];exact⟨none,0,rfl,nl,HB1.out,.const fun v=>Chs.nil v _⟩
 have he1:=Decidable.not_not.1 he1;rw[he1];go_wp2_with fail;refine(K2.out _).mono ?_;rintro e w1 ⟨rfl,hb⟩;obtain⟨a0r,a0f,a0n,a0c,a0z,a0l⟩:=kp (w.heap.size) (chkA x.from_ x.to_ x.n x.of_ B x.data.length d) hb;have HB2:=bT HB1 hb;clear hb HB1;by_cases he2:chkCheck x≠0
 ·have hz:=HR.out.symm.trans (chkAdd_err2 he1 he2);have q:(chkCheck x !=0)=true:=by simp[he2]
  generalize chkCheck x=e2 at *
  clear he1 he2 HR;go_wp2_with fail;go_ret2;rw[hz];exact⟨none,0,rfl,nl,HB2.out,.const fun v=>Chs.nil v _⟩
 have he2:=Decidable.not_not.1 he2;rw[he2];have hr1:=refAdd_is he1 he2;have hbd:∀y∈(chkAdd l x).1,ChkB y:=by
  obtain⟨k1,_,_⟩:=add_again he1 he2;intro y hy;obtain⟨⟨h1,h2,h3,h4,h5,h6,h7,h8⟩,_,h9,_⟩:=chkCheck_ok.1 ((chkList_ok.1 k1).1 y hy);refine⟨by omega,⟨?_,?_⟩,⟨?_,?_⟩,⟨?_,?_⟩,⟨?_,?_⟩⟩<;>omega
 rw[<-hr1]at hbd;have hres:r=(refAdd l x,0):=by rw[<-HR.out];exact Prod.ext hr1.symm (chkAdd_ok he1 he2).1
 have HRES:=qH hres;unfold refAdd at hbd HRES;have HBD:=qH hbd;have hll:=chkList_len he1;have hxn:I64 x.n:=HX.out.now.i2;clear hbd hr1 he1 he2 hl HR K1 K2 hres;have HRF:=qH (And.intro a0r a0f);go_upto_region 7 with fail
 go_cut [50] (fun v wx=>v=.bool (otherB l x)∧Hid (Below w1.heap.size w1 wx))
 case first=>
  rcases Nat.eq_zero_or_pos l.length with hl0|hlp
  ·have hn:=List.eq_nil_of_length_eq_zero hl0;have hres:otherB l x=false:=by rw[hn];rfl
   subst hn;exact x4n0
  obtain⟨b,o,By,dy,rfl,hbl,hat,-⟩:=HS.out.now.chk hlp;have h1:l[0]?=some l[0]:=List.getElem?_eq_getElem hlp;have HO:=qH (otherB_at (x:=x) h1);obtain⟨y,hy⟩:=eX (l[0]);rw[hy]at hat HO;rw[Nat.zero_mul,Nat.add_zero]at hat;obtain⟨y5,y1,y2,y3,y4⟩:=hat.stays hbl HB2.out;have q4:(0:Int)<(l.length:Int):=by omega
  have q4:¬(l.length:Int)<=0:=by omega
  have nb2:¬l.length=0:=by omega
  have nb1:¬l=[]:=fun e=>by rw[e]at hlp;simp at hlp
  clear hy h1 hat;by_cases c1:x.from_=y.from_
  ·by_cases c2:x.to_=y.to_
   ·by_cases c3:x.of_=y.of_
    ·have hres:otherB l x=false:=by rw[HO.out];exact decide_eq_false (fun h=>h ⟨c1.symm,c2.symm,c3.symm⟩)
     have q1:(x.from_ !=y.from_)=false:=by simp[c1]
     have q1:(x.to_ !=y.to_)=false:=by simp[c2]
     have q1:(x.of_ !=y.of_)=false:=by simp[c3]
     clear c1 c2 c3;exact x4n0
    ·have hres:otherB l x=true:=by rw[HO.out];exact decide_eq_true (fun h=>c3 h.2.2.symm)
     have q1:(x.from_ !=y.from_)=false:=by simp[c1]
     have q1:(x.to_ !=y.to_)=false:=by simp[c2]
     have q1:(x.of_ !=y.of_)=true:=by simp[c3]
     clear c1 c2 c3;exact x4n0
   ·have hres:otherB l x=true:=by rw[HO.out];exact decide_eq_true (fun h=>c2 h.2.1.symm)
    have q1:(x.from_ !=y.from_)=false:=by simp[c1]
    have q1:(x.to_ !=y.to_)=true:=by simp[c2]
    clear c1 c2;exact x4n0
  have hres:otherB l x=true:=by rw[HO.out];exact decide_eq_true (fun h=>c1 h.1.symm)
  have q1:(x.from_ !=y.from_)=true:=by simp[c1]
  clear c1;exact x4n0
 case rest=>
 obtain⟨rfl,hb⟩:=hcut;have HB1:=bT HB2 hb.out;have HRF1:Hid (rowOf wc w.heap.size=chkA x.from_ x.to_ x.n x.of_ B x.data.length d∧frOf wc w.heap.size=(0,0)):=qH (by
  obtain⟨q1,q2,_⟩:=keep1 (g:=w.heap.size) (cs:=chkA x.from_ x.to_ x.n x.of_ B x.data.length d) hb.out HRF.out.1 (by go_simp) HRF.out.2;exact⟨q1,q2⟩)
 clear hb HB2 HRF a0r a0f a0n a0c a0z a0l;obtain⟨w1,hw1⟩:=eX (wc);subst hw1;obtain⟨m,hm⟩:=eX (ofKin l x);rw[hm]at HBD HRES;have HMK:=qH hm;clear hm;go_upto_if 50 with fail
 go_cut [0] (fun v wx=>wc=wx∧∃A' c',v=.slice A' m.length c'∧m.length<=2513169434843∧Hid (On S w (fun v=>Chs v A' m)))
 case first=>
  cases hob:otherB l x
  ·go_wp2_with fail;go_meet
   case rel=>
    have hm:l=m:=by
     rw[<-HMK.out];rcases l with _|⟨y,t⟩
     ·rfl
     exact(if_pos (by simpa[otherB]using hob)).symm
    exact⟨rfl,A,c,by rw[hm],by rw[<-hm];omega,by rw[<-hm];exact HS⟩
  go_wp2_with fail;go_meet
  case rel=>
   have hm:m=[]:=by
    rw[<-HMK.out];rcases l with _|⟨y,t⟩
    ·rfl
    exact if_neg (by simpa[otherB]using hob)
   exact⟨rfl,none,0,by rw[hm];rfl,by rw[hm];simp,by rw[hm];exact qH (On.const fun v=>Chs.nil v _)⟩
 case rest=>
 obtain⟨hwx,A',c',rfl,hml,HM⟩:=hcut;subst hwx;rename World=>w1;have hs1:=HB1.out.size;have hsw:∀q,S q∧q<w.heap.size->q<w1.heap.size:=fun q h=>Nat.lt_of_lt_of_le h.2 hs1;clear HS HMK;go_wp2_with fail;go_loopw [51,8] (fun i v wr=>∃(k:Nat) (out:List Chk) (ds:List (Option Addr×Nat)) (C:OA) (cc:Nat),k<=52∧i=iv k∧v=.slice C out.length cc∧Hid (out=(List.range k).flatMap (fun (j:Nat)=>pickN m x (j:Int)))∧out.length<=k∧Hid (GRow kChk wr w1.heap.size out ds C cc)∧Hid (Each kChk out ds (fun q=>S q∧q<w.heap.size))∧Hid (Below w1.heap.size w1 wr)) (fun i _ _=>52-(intOf i).toNat)
 case atStart=>exact⟨0,[],[],none,0,by omega,rfl,rfl,qH rfl,by simp,qH (GRow.nil _ _),qH Each.nil,qH (Below.refl _ _)⟩
 case round=>
  rename World=>wr;obtain⟨k,out,ds,C,cc,hk,rfl,rfl,HO,hol,HR,HE,HB⟩:=hrel;have hsr:=HB.out.size;have HBW:=qH (HB1.out.trans (HB.out.mono hs1));obtain⟨a0r,a0f,a0n,a0c,a0z,a0l⟩:=keep1 (g:=w.heap.size) (cs:=chkA x.from_ x.to_ x.n x.of_ B x.data.length d) HB.out HRF1.out.1 (by go_simp) HRF1.out.2;by_cases hlt:k<52
  ·have dl:decide ((k:Int)<52)=true:=decide_eq_true (by omega);have hwk:IntKind.i64.wrap ((k:Int)+1)=(k:Int)+1:=IntWalk.i64_in _ (by omega);have hbn:=(bW wr).alloc nl (.cells #[iv (k:Int)] 3);have HBN:=qH (HB.out.trans (hbn.mono hsr));have K1:=qH (raN_idx A' c' wr.heap.size m (k:Int) (wr.alloc (.cells #[iv (k:Int)] 3)) hml (HM.out.at_ (HBW.out.trans (hbn.mono HBW.out.size))) (by simp) (by rw[cell_of_row _ _ _ _ _ _ (blk_top rfl)];rfl));have HR1:=qH (HR.out.below hbn);have HPS:=qH (pick_succ m x k);clear hbn;rcases idxR_spec (fun z=>isN z (k:Int)) m 0 with ⟨hf1,hf2⟩|⟨j,y,hj,hf2,hf1⟩
   ·rw[hf2]at K1;have hpk:pickN m x (k:Int)=if (k:Int)=x.n then [x] else []:=by unfold pickN;rw[atN_isN,hf1]
    rw[hpk]at HPS;clear hpk hf1 hf2;go_wp2_with fail;refine K1.out.mono ?_;rintro e w2 ⟨rfl,hb1⟩;have b1:=kp (w.heap.size) (chkA x.from_ x.to_ x.n x.of_ B x.data.length d) hb1;have n1:=kp (wr.heap.size) (#[iv (k:Int)]) hb1;have HB2:=bT HBN hb1;have HR1:=qH (HR1.out.below hb1);have hs2:=HB2.out.size;clear hb1 a0r a0f a0n a0c a0z a0l;by_cases hkn:(k:Int)=x.n
    ·rw[if_pos hkn]at HPS;have q1:((k:Int)==x.n)=true:=by simp[hkn]
     clear hkn;have hoa:=HR1.out.row.alloc (.cells (chkA x.from_ x.to_ x.n x.of_ B x.data.length d) 39);have hsd:Src (w2.alloc (.cells (chkA x.from_ x.to_ x.n x.of_ B x.data.length d) 39)) (some ⟨w2.heap.size,0,none⟩) (kChk.cell x (B,d)):=by
      have:=src_blk (w:=w2.alloc (.cells (chkA x.from_ x.to_ x.n x.of_ B x.data.length d) 39)) (g:=w2.heap.size) (blk_top rfl);rwa [chkA_list]at this
     have hob:out.length+1<=137438953472:=by omega
     have hle:w1.heap.size<=(w2.alloc (.cells (chkA x.from_ x.to_ x.n x.of_ B x.data.length d) 39)).heap.size:=by simp;omega
     go_wp2_with (at_builtin;go_must (refine wpList_app (w2.alloc (.cells (chkA x.from_ x.to_ x.n x.of_ B x.data.length d) 39)) rfl _ _ 32 rfl elChunks w1.heap.size C out.length cc (kChk.cells out ds) rfl hoa (some ⟨w2.heap.size,0,none⟩) 1 1 (kChk.cell x (B,d)) rfl hsd (by simp[kChk]) (kChk.one _ _) hob hle ?_;intro C1 cc1 w5 hown hgr hbel hor));have hra:=row_add HR1.out HE.out hsw (HX.out.at_ (HB1.out.trans (HB2.out.mono hs1))) (fun h=>(HX.out.imp fun _ h=>h.data).bts_in h) hown hgr hbel hor;have HR1:=qH hra.1;have HE1:=qH hra.2;have HB1:Hid (Below w1.heap.size w1 w5):=qH ((HB2.out.alloc hs2 _).trans hbel);have HL:Hid (out.length+1=(out++[x]).length):=qH (by simp);clear hra hown hgr hbel hor hoa hsd hob hle;go_roundw
     case rel=>exact⟨k+1,out++[x],ds++[(B,d)],C1,cc1,by omega,by go_num,by rw[HL.out],qH (by rw[HPS.out,<-HO.out]),by simp;omega,HR1,HE1,HB1⟩
     case measure=>simp[intOf];omega
    rw[if_neg hkn,List.append_nil]at HPS;have q1:((k:Int)==x.n)=false:=by simp[hkn]
    clear hkn;go_wp2_with fail;go_roundw
    case rel=>exact⟨k+1,out,ds,C,cc,by omega,by go_num,rfl,qH (by rw[HPS.out];exact HO.out),by omega,HR1,HE,HB2⟩
    case measure=>simp[intOf];omega
   rw[hf2]at K1;have hpk:pickN m x (k:Int)=[y]:=by unfold pickN;rw[atN_isN,hf1]
   rw[hpk]at HPS;clear hpk hf1 hf2;have hjl:j<m.length:=(List.getElem?_eq_some_iff.1 hj).1;have hyj:m[j]=y:=by rw[List.getElem?_eq_getElem hjl]at hj;injection hj
   obtain⟨b,o,B1,d1,rfl,hbl,hat,hin⟩:=HM.out.now.chk hjl;have hyd:=fun h=>HM.out.chk_in hjl rfl hat h hin;rw[hyj]at hat hin hyd;have HYD:Hid (kChk.dat y≠[]->∀q,B1.map (·.block)=some q->S q∧q<w.heap.size):=qH hyd;have HYI:=qH hin;have HYA:Hid (∀v,Below w.heap.size w v->ChkAt v b (o+j*5) y B1 d1):=qH (fun v hv=>hat.stays hbl hv);have hj1:(0:Int)<=((0+j:Nat):Int):=by omega
   rw[Nat.zero_add]at K1;clear hj hyj hat hin hj1 hyd;go_wp2_with fail;refine K1.out.mono ?_;rintro e w2 ⟨rfl,hb1⟩;have b1:=kp (w.heap.size) (chkA x.from_ x.to_ x.n x.of_ B x.data.length d) hb1;have HB2:=bT HBN hb1;have HR1:=qH (HR1.out.below hb1);have hs2:=HB2.out.size;obtain⟨z5,z1,z2,z3,z4⟩:=HYA.out w2 (HB1.out.trans (HB2.out.mono hs1));clear hb1 a0r a0f a0n a0c a0z a0l;have hoa:=HR1.out.row.alloc (.cells (chkA y.from_ y.to_ y.n y.of_ B1 y.data.length d1) 39);have hsd:Src (w2.alloc (.cells (chkA y.from_ y.to_ y.n y.of_ B1 y.data.length d1) 39)) (some ⟨w2.heap.size,0,none⟩) (kChk.cell y (B1,d1)):=by
    have:=src_blk (w:=w2.alloc (.cells (chkA y.from_ y.to_ y.n y.of_ B1 y.data.length d1) 39)) (g:=w2.heap.size) (blk_top rfl);rwa [chkA_list]at this
   have hob:out.length+1<=137438953472:=by omega
   have hle:w1.heap.size<=(w2.alloc (.cells (chkA y.from_ y.to_ y.n y.of_ B1 y.data.length d1) 39)).heap.size:=by simp;omega
   go_wp2_with (at_builtin;go_must (refine wpList_app (w2.alloc (.cells (chkA y.from_ y.to_ y.n y.of_ B1 y.data.length d1) 39)) rfl _ _ 32 rfl elChunks w1.heap.size C out.length cc (kChk.cells out ds) rfl hoa (some ⟨w2.heap.size,0,none⟩) 1 1 (kChk.cell y (B1,d1)) rfl hsd (by simp[kChk]) (kChk.one _ _) hob hle ?_;intro C1 cc1 w5 hown hgr hbel hor));have hra:=row_add HR1.out HE.out hsw (HYI.out.stays (HB1.out.trans (HB2.out.mono hs1))) HYD.out hown hgr hbel hor;have HR1:=qH hra.1;have HE1:=qH hra.2;have HB1:Hid (Below w1.heap.size w1 w5):=qH ((HB2.out.alloc hs2 _).trans hbel);have HL:Hid (out.length+1=(out++[y]).length):=qH (by simp);clear hra hown hgr hbel hor hoa hsd hob hle;go_roundw
   case rel=>exact⟨k+1,out++[y],ds++[(B1,d1)],C1,cc1,by omega,by go_num,by rw[HL.out],qH (by rw[HPS.out,<-HO.out]),by simp;omega,HR1,HE1,HB1⟩
   case measure=>simp[intOf];omega
  obtain rfl:k=52:=by omega
  have hfin:=HO.out;have hrs:=HRES.out;rw[<-hfin]at hrs;go_wp2_with fail;go_ret2;rw[hrs];exact⟨C,cc,rfl,HR.out.row.le,HBW.out,fun v _ hv=>(HR.out.freshB HE.out (fun k h1 h2=>hv k (h1.imp id (fun h=>by omega)) h2)).src.chs (by rw[hfin];exact HBD.out)⟩
theorem acts_hear(S:Nat->Prop)(d:Dev)(L:DLoc)(n:Int)(x:Chk)(B:OA)(bc:Nat)(w:World)(hok:DevOk d)(hu:d.up=true)(hd:On S w (fun v=>DevIn v d L))(hx:On S w (fun v=>ChkIn v x B bc)):Calls Tryz.prog 19 #[.agg (devA d L),.agg #[iv 2,iv n],.agg (chkA x.from_ x.to_ x.n x.of_ B x.data.length bc)] w (AcRet S w (devHear d x).1 (devHear d x).2):=by
 have hrec:=rec_ok hok;have hrd:devReady d=0:=by unfold devReady;rw[if_neg (by simpa using devCheck_ok.2 hok),if_neg (by rw[hu];decide)]
 have KN:=qH (fun w=>newest_calls d.c0 d.c1 w);rw[refNewest_ok hok.cops]at KN;obtain⟨rk,hrk⟩:=eX ((recRead d.c0 d.c1).2);have hre:(recRead d.c0 d.c1).1=d.rec_:=rfl;rw[hrk,hre]at KN;clear hrk hre;have hdef:devHear d x=if d.busy=true then (Dev.zero,5)else if (chkAdd d.got x).2≠0 then (Dev.zero,(chkAdd d.got x).2)else ({d with got:=(chkAdd d.got x).1},0):=by
  unfold devHear;rw[if_neg (by omega)]
 have HD:=qH hdef;have HI:=qH hd;have hd':On (fun k=>S k∧k<w.heap.size) w (fun v=>DevIn v d L):=hd.sub (fun k h1 h2=>⟨h2,h1⟩);have hx':On (fun k=>S k∧k<w.heap.size) w (fun v=>ChkIn v x B bc):=hx.sub (fun k h1 h2=>⟨h2,h1⟩);have K1:=qH (fun v (hb:Below w.heap.size w v)=>refAdded_calls L.ag B L.cg bc d.got x (fun k=>S k∧k<w.heap.size) v hd.now.lg ((hd'.below hb).imp fun _ h=>h.got) (hx'.below hb));have hln:(chkAdd d.got x).2=0->(chkAdd d.got x).1.length<=2513169434843:=fun e=>by have:=chkList_len (add_again (chkAdd_zero e).1 (chkAdd_zero e).2).1;omega
 have HLN:=qH hln;obtain⟨⟨l',e1⟩,hl'⟩:∃y,chkAdd d.got x=y:=⟨_,rfl⟩;rw[hl']at K1 HD HLN;dsimp only at K1 HD HLN;generalize devHear d x=res at *
 clear hrec hrd hok hdef hd hx hl' hd' hx' hln;generalize d.rec_=r at *
 go_enter Tryz.func19,Tryz.ntmps19;go_wp2_with fail;refine(KN.out _).mono ?_;rintro e w1 ⟨rfl,hb⟩;have a5:=kp (w.heap.size) (devA d L) hb;have a1:=kp (w.heap.size+1) (#[iv 2,iv n]) hb;have a1:=kp (w.heap.size+1+1) (chkA x.from_ x.to_ x.n x.of_ B x.data.length bc) hb;have a1:=kp (w.heap.size+1+1+1) (devA Dev.zero DLoc.zero) hb;have a2:=kp (w.heap.size+1+1+1+1) (#[.func (Fn.func 51) #[] #[]]) hb;have HB1:Hid (Below w.heap.size w w1):=qH (((((((bW w).alloc nl (.cells (devA d L) 37)).alloc (by simp) (.cells #[iv 2,iv n] 55)).alloc (by simp;omega) (.cells (chkA x.from_ x.to_ x.n x.of_ B x.data.length bc) 39)).alloc (by simp;omega) (.cells (devA Dev.zero DLoc.zero) 37)).alloc (by simp;omega) _).trans (hb.mono (by simp;omega)));clear hb
 cases c1:d.busy
 case true=>
  have hz:=HD.out.trans (if_pos c1);subst hz;clear HD K1 KN;go_wp2_with fail;refine(actsBad_calls 5 _).mono ?_;rintro e wz ⟨rfl,hb⟩;have z1:=kp (w.heap.size+1+1+1) (devA Dev.zero DLoc.zero) hb;have HBZ:=bU HB1 hb;clear hb;go_wp2_with fail;refine bodyPost_ret (rC (devA Dev.zero DLoc.zero)) rfl ⟨DLoc.zero,rfl,.const fun v=>DevIn.zero v,?_⟩;exact below_row HBZ.out (by omega) _
 case false=>
  have HD1:=qH (HD.out.trans (if_neg (by rw[c1];decide)));clear HD KN;go_wp2_with fail;refine(K1.out _ (by have hs:=HB1.out.size;repeat (first|exact HB1.out|refine bA ?_ _))).mono ?_;rintro e w2 ⟨A1,c1,rfl,hc1,hb,ho1⟩;have a3:=kr a5 hb;have a1:=kr a1 hb;have a1:=kr a2 hb;have HB1:=bU HB1 hb;have hsz:w.heap.size+5<=w1.heap.size:=by omega
  have HO1:Hid (On (fun k=>S k∧k<w.heap.size∨w1.heap.size<=k) w2 (fun v=>Chs v A1 l')):=qH (ho1.sub (fun k _ h=>h.elim (fun h=>.inl h.1) (fun h=>.inr (by simp at h;omega))));clear hb K1 ho1;by_cases c2:e1≠0
  ·have hz:=HD1.out.trans (if_pos c2);subst hz;have KD:=qH (fun gb gd w h1 h2=>actsDone_bad e1 gb gd w c2 h1 h2);clear c2 HD1;go_wp2_with fail;refine(KD.out _ _ _ (by go_simp) (by go_simp)).mono ?_;rintro e w1 ⟨rfl,hb⟩;have c3k:=kp (w.heap.size+1+1+1) (devA Dev.zero DLoc.zero) hb;have HB1:=bU HB1 hb;clear hb;go_wp2_with fail;refine bodyPost_ret (rC (devA Dev.zero DLoc.zero)) rfl ⟨DLoc.zero,rfl,.const fun v=>DevIn.zero v,?_⟩;exact below_row HB1.out (by omega) _
  have c2:=Decidable.not_not.1 c2;subst c2;have hz:=HD1.out.trans (if_neg (by decide));have hl1:=HLN.out rfl;subst hz;clear HD1;go_wp2_with fail;refine(actsDone_ok {d with got:=l'} {L with ag:=A1,cg:=c1} _ _ _ (by go_simp) (by go_simp)).mono ?_;rintro e w2 ⟨rfl,hb⟩;have c3k:=kp (w.heap.size+1+1+1) (devA Dev.zero DLoc.zero) hb;have hn1:¬(S w.heap.size∧w.heap.size<w.heap.size∨w1.heap.size<=w.heap.size):=by rintro (h|h)<;>omega
  have hn2:¬(S (w.heap.size+1+1+1)∧w.heap.size+1+1+1<w.heap.size∨w1.heap.size<=w.heap.size+1+1+1):=by rintro (h|h)<;>omega
  have HB1:=bU HB1 hb;have o1:On (fun k=>S k∧k<w.heap.size∨w1.heap.size<=k) w2 (fun v=>Chs v A1 l'):=(HO1.out.cell hn1 _).below hb;have o2:On (fun k=>S k∧k<w.heap.size∨w1.heap.size<=k) w2 (fun v=>DevIn v d L):=(HI.out.sub (fun k h1 h2=>.inl ⟨h2,h1⟩)).below HB1.out;have HIN:Hid (On (fun k=>S k∧k<w.heap.size∨w1.heap.size<=k) w2 (fun v=>DevIn v {d with got:=l'} {L with ag:=A1,cg:=c1})):=qH ((o2.and o1).imp fun v ⟨h,g⟩=>⟨h.k0,h.l0,h.b0,h.k1,h.l1,h.b1,hc1,hl1,g,h.job,h.ir,h.id⟩);clear hb o1 o2 hn1;go_wp2_with fail;refine bodyPost_ret (rC (devA {d with got:=l'} {L with ag:=A1,cg:=c1})) rfl ⟨_,rfl,?_,below_row HB1.out (by omega) _⟩;exact(HIN.out.row hn2 _).sub fun k _ h=>h.elim .inl fun h=>.inr (by omega)
theorem splice_tryIt(r:Rec)(x:Inf){a a':Nat}(ha:r.active=(a:Int))(h:a+a'=1):splice (recA ⟨r.gen,(a:Int),true,3,r.floor,r.a,r.b⟩) (5+a'*3) (infA x)=recA (r.tryIt x):=by
 unfold Rec.tryIt Rec.setOther;rcases (show (a=0∧a'=1)∨(a=1∧a'=0) by omega)with ⟨rfl,rfl⟩|⟨rfl,rfl⟩
 ·rw[if_pos (by simp[ha])];simp[splice,recA,infA,ha]
 rw[if_neg (by simp[ha])];simp[splice,recA,infA,ha]
theorem acts_finish7(d:Dev)(L:DLoc)(n f t m o:Int)(B:OA)(bl bc:Nat)(w:World)(hok:DevOk d)(hu:d.up=true):Calls Tryz.prog 19 #[.agg (devA d L),.agg #[iv 7,iv n],.agg (chkA f t m o B bl bc)] w (ActRet w d L (devFinish d false).1 (devFinish d false).2):=by
 have hrec:=rec_ok hok;have hrd:devReady d=0:=by unfold devReady;rw[if_neg (by simpa using devCheck_ok.2 hok),if_neg (by rw[hu];decide)]
 have KN:=qH (fun w=>newest_calls d.c0 d.c1 w);rw[refNewest_ok hok.cops]at KN;obtain⟨rk,hrk⟩:=eX ((recRead d.c0 d.c1).2);have hre:(recRead d.c0 d.c1).1=d.rec_:=rfl;rw[hrk,hre]at KN;clear hrk hre;have hact:=rec_active hrec;have hdef:devFinish d false=if d.busy=false∨d.done<d.job.size then (Dev.zero,5)else if (recWrite d.c0 d.c1 (d.rec_.tryIt ⟨d.job.to_,d.job.size,d.job.new_⟩) false).2≠0 then (Dev.zero,(recWrite d.c0 d.c1 (d.rec_.tryIt ⟨d.job.to_,d.job.size,d.job.new_⟩) false).2)else ({d.write (d.rec_.tryIt ⟨d.job.to_,d.job.size,d.job.new_⟩) false with busy:=false,job:=Pat.zero,done:=0},0):=by
  unfold devFinish;rw[if_neg (by omega)];rfl
 have HD:=qH hdef;have K1:=qH (fun gd w h1 h2=>actsWrite_calls d L (d.rec_.tryIt ⟨d.job.to_,d.job.size,d.job.new_⟩) false gd w hok.cops h1 h2);generalize devFinish d false=res at *
 clear hrec hrd hok hdef;generalize d.rec_=r at *
 go_enter Tryz.func19,Tryz.ntmps19;go_wp2_with fail;refine(KN.out _).mono ?_;rintro e w1 ⟨rfl,hb⟩;have a2:=kp (w.heap.size) (devA d L) hb;have a1:=kp (w.heap.size+1) (#[iv 7,iv n]) hb;have a3:=kp (w.heap.size+1+1+1) (devA Dev.zero DLoc.zero) hb;have a4:=kp (w.heap.size+1+1+1+1) (#[.func (Fn.func 51) #[] #[]]) hb;have HB1:Hid (Below w.heap.size w w1):=qH (((((((bW w).alloc nl (.cells (devA d L) 37)).alloc (by simp) (.cells #[iv 7,iv n] 55)).alloc (by simp;omega) (.cells (chkA f t m o B bl bc) 39)).alloc (by simp;omega) (.cells (devA Dev.zero DLoc.zero) 37)).alloc (by simp;omega) _).trans (hb.mono (by simp;omega)));clear hb;by_cases c1:d.busy=false∨d.done<d.job.size
 ·have hz:=HD.out.trans (if_pos c1);subst hz;clear HD K1 KN hact
  cases c2:d.busy
  case false=>
   exact x1zo
  case true=>
   have q:d.done<d.job.size:=c1.resolve_left (by rw[c2];decide);clear c1;exact x1zo
 have c2:d.busy=true:=by cases h:d.busy;exact absurd (.inl h) c1;rfl
 have q:¬d.done<d.job.size:=fun h=>c1 (.inr h);have HD1:=qH (HD.out.trans (if_neg c1));obtain⟨a,ha⟩:∃a:Nat,r.active=(a:Int):=⟨r.active.toNat,by omega⟩;obtain⟨a',haa⟩:∃a':Nat,a+a'=1:=⟨1-a,by omega⟩;have hsp:=splice_tryIt r ⟨d.job.to_,d.job.size,d.job.new_⟩ ha haa;generalize r.tryIt ⟨d.job.to_,d.job.size,d.job.new_⟩=r2 at *
 have hle:5+a'*3+3<=11:=by omega
 have hw1:IntKind.i64.wrap ((1:Int)-(a:Int))=(a':Int):=by rw[IntWalk.i64_in _ (by omega)];omega
 have i1:(0:Int)<=(a':Int):=by omega
 have i2:(a':Int)<2:=by omega
 have i3:¬(2:Int)<=(a':Int):=by omega
 clear c1 HD KN hu hact;go_upto_region 54 with fail
 obtain⟨w2,hw2⟩:=eX (w1.alloc (.cells (recA r2) 28));have hb:Below w1.heap.size w1 w2:=by rw[<-hw2];exact bL _
 have hrr:rowOf w2 w1.heap.size=recA r2∧frOf w2 w1.heap.size=(0,0):=by rw[<-hw2];exact⟨by rw[rowOf_alloc,if_pos rfl],by rw[frOf_alloc,if_pos rfl]⟩
 have a2:=keep1 (g:=w.heap.size) (cs:=devA d L) hb a2.1 (by go_simp) a2.2.1;have a1:=keep1 (g:=w.heap.size+1) (cs:=#[iv 7,iv n]) hb a1.1 (by go_simp) a1.2.1;have a3:=keep1 (g:=w.heap.size+1+1+1) (cs:=devA Dev.zero DLoc.zero) hb a3.1 (by go_simp) a3.2.1;have a4:=keep1 (g:=w.heap.size+1+1+1+1) (cs:=#[.func (Fn.func 51) #[] #[]]) hb a4.1 (by go_simp) a4.2.1;have r1:=keep1 (bW w2) hrr.1 (by simp[recA]) hrr.2;have HB2:=bT HB1 hb;rw[hw2];clear hw2 hb hrr hsp hle hw1 i1 i2 i3 ha haa HB1;go_wp2_with fail;refine(K1.out _ _ (by go_simp) (by go_simp)).mono ?_;rintro e w1 ⟨wa,wb,rfl,hba,hwb,hbb⟩;have a3:=kp (w.heap.size+1+1+1) (devA Dev.zero DLoc.zero) hba;have a3:=kp (w.heap.size+1+1+1+1) (#[.func (Fn.func 51) #[] #[]]) hba;have a2:=kp (w.heap.size) (devA d L) hba;have a1:=kp (w.heap.size+1) (#[iv 7,iv n]) hba;have HBa:=bU HB2 hba;clear hba;obtain⟨e1,he1⟩:=eX ((recWrite d.c0 d.c1 r2 false).2);rw[he1]at hwb HD1⊢;clear he1 K1;by_cases c1:e1≠0
 ·rw[if_neg c1]at hwb;subst hwb;have b1:=kp (w.heap.size+1) (#[iv 7,iv n]) hbb;have b1:=kp (w.heap.size+1+1+1) (devA Dev.zero DLoc.zero) hbb;have b1:=kp (w.heap.size+1+1+1+1) (#[.func (Fn.func 51) #[] #[]]) hbb;have b1:=kp (w.heap.size) (devA d L) hbb;have HB1:=bT HBa hbb;have hz:=HD1.out.trans (if_pos c1);subst hz;have KD:=qH (fun gb gd w h1 h2=>actsDone_bad e1 gb gd w c1 h1 h2);clear hbb c1;go_wp2_with fail;refine(KD.out _ _ _ (by go_simp) (by go_simp)).mono ?_;rintro e w1 ⟨rfl,hb⟩;have e1:=kp (w.heap.size+1+1+1) (devA Dev.zero DLoc.zero) hb;exact x20b
 have c1:=Decidable.not_not.1 c1;subst c1;rw[if_pos rfl]at hwb;subst hwb;have hz:=HD1.out.trans (if_neg (by decide));subst hz;have hin:∀v,DevIn v d L->DevIn v {d.write r2 false with busy:=false,job:=Pat.zero,done:=0} {L with aj:=none,cj:=0}:=fun v h=>⟨h.k0,h.l0,h.b0,h.k1,h.l1,h.b1,h.kg,h.lg,h.got,pat_in_zero v,h.ir,i64_0⟩;have HIN:=qH hin;clear hin HD1;generalize d.write r2 false=d2 at *
 have b1:=kp (w.heap.size+1) (#[iv 7,iv n]) hbb;have b1:=kp (w.heap.size+1+1+1) (devA Dev.zero DLoc.zero) hbb;have b1:=kp (w.heap.size+1+1+1+1) (#[.func (Fn.func 51) #[] #[]]) hbb;have b1:=kp (w.heap.size) (devA d2 L) hbb;have HB1:Hid (Below w.heap.size w w1):=qH ((below_row HBa.out (by omega) _).trans (hbb.mono (by have:=HBa.out.size;simp;omega)));clear hbb;go_wp2_with fail;refine(actsDone_ok {d2 with busy:=false,job:=Pat.zero,done:=0} {L with aj:=none,cj:=0} _ _ _ (by first|(go_simp;done)|(go_simp;rfl)) (by go_simp)).mono ?_;rintro e w1 ⟨rfl,hb⟩;have e1:=kp (w.heap.size+1+1+1) (devA Dev.zero DLoc.zero) hb;have HB1:=bU HB1 hb;clear hb;go_wp2_with fail;refine bodyPost_ret (rC (devA {d2 with busy:=false,job:=Pat.zero,done:=0} {L with aj:=none,cj:=0})) rfl ⟨{L with aj:=none,cj:=0},rfl,HIN.out,bZ HB1⟩
theorem acts_finish12(d:Dev)(L:DLoc)(n f t m o:Int)(B:OA)(bl bc:Nat)(w:World)(hok:DevOk d)(hu:d.up=true):Calls Tryz.prog 19 #[.agg (devA d L),.agg #[iv 12,iv n],.agg (chkA f t m o B bl bc)] w (ActRet w d L (devFinish d true).1 (devFinish d true).2):=by
 have hrec:=rec_ok hok;have hrd:devReady d=0:=by unfold devReady;rw[if_neg (by simpa using devCheck_ok.2 hok),if_neg (by rw[hu];decide)]
 have KN:=qH (fun w=>newest_calls d.c0 d.c1 w);rw[refNewest_ok hok.cops]at KN;obtain⟨rk,hrk⟩:=eX ((recRead d.c0 d.c1).2);have hre:(recRead d.c0 d.c1).1=d.rec_:=rfl;rw[hrk,hre]at KN;clear hrk hre;have hact:=rec_active hrec;have hdef:devFinish d true=if d.busy=false∨d.done<d.job.size then (Dev.zero,5)else if (recWrite d.c0 d.c1 (d.rec_.tryIt ⟨d.job.to_,d.job.size,d.job.new_⟩) true).2≠0 then (Dev.zero,(recWrite d.c0 d.c1 (d.rec_.tryIt ⟨d.job.to_,d.job.size,d.job.new_⟩) true).2)else (Dev.down {d.write (d.rec_.tryIt ⟨d.job.to_,d.job.size,d.job.new_⟩) true with busy:=false,job:=Pat.zero,done:=0},0):=by
  unfold devFinish;rw[if_neg (by omega)];rfl
 have HD:=qH hdef;have K1:=qH (fun gd w h1 h2=>actsWrite_calls d L (d.rec_.tryIt ⟨d.job.to_,d.job.size,d.job.new_⟩) true gd w hok.cops h1 h2);generalize devFinish d true=res at *
 clear hrec hrd hok hdef;generalize d.rec_=r at *
 go_enter Tryz.func19,Tryz.ntmps19;go_wp2_with fail;refine(KN.out _).mono ?_;rintro e w1 ⟨rfl,hb⟩;have a2:=kp (w.heap.size) (devA d L) hb;have a1:=kp (w.heap.size+1) (#[iv 12,iv n]) hb;have a3:=kp (w.heap.size+1+1+1) (devA Dev.zero DLoc.zero) hb;have a4:=kp (w.heap.size+1+1+1+1) (#[.func (Fn.func 51) #[] #[]]) hb;have HB1:Hid (Below w.heap.size w w1):=qH (((((((bW w).alloc nl (.cells (devA d L) 37)).alloc (by simp) (.cells #[iv 12,iv n] 55)).alloc (by simp;omega) (.cells (chkA f t m o B bl bc) 39)).alloc (by simp;omega) (.cells (devA Dev.zero DLoc.zero) 37)).alloc (by simp;omega) _).trans (hb.mono (by simp;omega)));clear hb;by_cases c1:d.busy=false∨d.done<d.job.size
 ·have hz:=HD.out.trans (if_pos c1);subst hz;clear HD K1 KN hact
  cases c2:d.busy
  case false=>
   exact x1zo
  case true=>
   have q:d.done<d.job.size:=c1.resolve_left (by rw[c2];decide);clear c1;exact x1zo
 have c2:d.busy=true:=by cases h:d.busy;exact absurd (.inl h) c1;rfl
 have q:¬d.done<d.job.size:=fun h=>c1 (.inr h);have HD1:=qH (HD.out.trans (if_neg c1));obtain⟨a,ha⟩:∃a:Nat,r.active=(a:Int):=⟨r.active.toNat,by omega⟩;obtain⟨a',haa⟩:∃a':Nat,a+a'=1:=⟨1-a,by omega⟩;have hsp:=splice_tryIt r ⟨d.job.to_,d.job.size,d.job.new_⟩ ha haa;generalize r.tryIt ⟨d.job.to_,d.job.size,d.job.new_⟩=r2 at *
 have hle:5+a'*3+3<=11:=by omega
 have hw1:IntKind.i64.wrap ((1:Int)-(a:Int))=(a':Int):=by rw[IntWalk.i64_in _ (by omega)];omega
 have i1:(0:Int)<=(a':Int):=by omega
 have i2:(a':Int)<2:=by omega
 have i3:¬(2:Int)<=(a':Int):=by omega
 clear c1 HD KN hu hact;go_upto_region 54 with fail
 obtain⟨w2,hw2⟩:=eX (w1.alloc (.cells (recA r2) 28));have hb:Below w1.heap.size w1 w2:=by rw[<-hw2];exact bL _
 have hrr:rowOf w2 w1.heap.size=recA r2∧frOf w2 w1.heap.size=(0,0):=by rw[<-hw2];exact⟨by rw[rowOf_alloc,if_pos rfl],by rw[frOf_alloc,if_pos rfl]⟩
 have a2:=keep1 (g:=w.heap.size) (cs:=devA d L) hb a2.1 (by go_simp) a2.2.1;have a1:=keep1 (g:=w.heap.size+1) (cs:=#[iv 12,iv n]) hb a1.1 (by go_simp) a1.2.1;have a3:=keep1 (g:=w.heap.size+1+1+1) (cs:=devA Dev.zero DLoc.zero) hb a3.1 (by go_simp) a3.2.1;have a4:=keep1 (g:=w.heap.size+1+1+1+1) (cs:=#[.func (Fn.func 51) #[] #[]]) hb a4.1 (by go_simp) a4.2.1;have r1:=keep1 (bW w2) hrr.1 (by simp[recA]) hrr.2;have HB2:=bT HB1 hb;rw[hw2];clear hw2 hb hrr hsp hle hw1 i1 i2 i3 ha haa HB1;go_wp2_with fail;refine(K1.out _ _ (by go_simp) (by go_simp)).mono ?_;rintro e w1 ⟨wa,wb,rfl,hba,hwb,hbb⟩;have a3:=kp (w.heap.size+1+1+1) (devA Dev.zero DLoc.zero) hba;have a3:=kp (w.heap.size+1+1+1+1) (#[.func (Fn.func 51) #[] #[]]) hba;have a2:=kp (w.heap.size) (devA d L) hba;have a1:=kp (w.heap.size+1) (#[iv 12,iv n]) hba;have HBa:=bU HB2 hba;clear hba;obtain⟨e1,he1⟩:=eX ((recWrite d.c0 d.c1 r2 true).2);rw[he1]at hwb HD1⊢;clear he1 K1;by_cases c1:e1≠0
 ·rw[if_neg c1]at hwb;subst hwb;have b1:=kp (w.heap.size+1) (#[iv 12,iv n]) hbb;have b1:=kp (w.heap.size+1+1+1) (devA Dev.zero DLoc.zero) hbb;have b1:=kp (w.heap.size+1+1+1+1) (#[.func (Fn.func 51) #[] #[]]) hbb;have b1:=kp (w.heap.size) (devA d L) hbb;have HB1:=bT HBa hbb;have hz:=HD1.out.trans (if_pos c1);subst hz;have KD:=qH (fun gb gd w h1 h2=>actsDone_bad e1 gb gd w c1 h1 h2);clear hbb c1;go_wp2_with fail;refine(without_calls _ _ _).mono ?_;rintro e w1 ⟨rfl,hb⟩;have c1:=kp (w.heap.size) (devA {d with busy:=false,done:=0} L) hb;have c1:=kp (w.heap.size+1+1+1) (devA Dev.zero DLoc.zero) hb;have c1:=kp (w.heap.size+1+1+1+1) (#[.func (Fn.func 51) #[] #[]]) hb;have HB1:=bU HB1 hb;clear hb;go_wp2_with fail;refine(KD.out _ _ _ (by go_simp) (by go_simp)).mono ?_;rintro e w1 ⟨rfl,hb⟩;have e1:=kp (w.heap.size+1+1+1) (devA Dev.zero DLoc.zero) hb;exact x20b
 have c1:=Decidable.not_not.1 c1;subst c1;rw[if_pos rfl]at hwb;subst hwb;have hz:=HD1.out.trans (if_neg (by decide));subst hz;have hin:∀v,DevIn v d L->DevIn v (Dev.down {d.write r2 true with busy:=false,job:=Pat.zero,done:=0}) L.down:=fun v h=>(show DevIn v (Dev.down (d.write r2 true)) L.down from DevIn.down (d:=d.write r2 true) ⟨h.k0,h.l0,h.b0,h.k1,h.l1,h.b1,h.kg,h.lg,h.got,h.job,h.ir,h.id⟩);have HIN:=qH hin;clear hin HD1;generalize d.write r2 true=d2 at *
 have b1:=kp (w.heap.size+1) (#[iv 12,iv n]) hbb;have b1:=kp (w.heap.size+1+1+1) (devA Dev.zero DLoc.zero) hbb;have b1:=kp (w.heap.size+1+1+1+1) (#[.func (Fn.func 51) #[] #[]]) hbb;have b1:=kp (w.heap.size) (devA d2 L) hbb;have HB1:Hid (Below w.heap.size w w1):=qH ((below_row HBa.out (by omega) _).trans (hbb.mono (by have:=HBa.out.size;simp;omega)));clear hbb;go_wp2_with fail;refine(without_calls _ _ _).mono ?_;rintro e w1 ⟨rfl,hb⟩;have c1:=kp (w.heap.size) (devA {d2 with busy:=false,done:=0} L) hb;have c1:=kp (w.heap.size+1+1+1) (devA Dev.zero DLoc.zero) hb;have c1:=kp (w.heap.size+1+1+1+1) (#[.func (Fn.func 51) #[] #[]]) hb;have HB1:=bU HB1 hb;clear hb;go_wp2_with fail;refine(actsDone_ok (Dev.down {d2 with busy:=false,job:=Pat.zero,done:=0}) L.down _ _ _ (by first|(go_simp;done)|(go_simp;rfl)) (by go_simp)).mono ?_;rintro e w1 ⟨rfl,hb⟩;have e1:=kp (w.heap.size+1+1+1) (devA Dev.zero DLoc.zero) hb;have HB1:=bU HB1 hb;clear hb;go_wp2_with fail;refine bodyPost_ret (rC (devA (Dev.down {d2 with busy:=false,job:=Pat.zero,done:=0}) L.down)) rfl ⟨L.down,rfl,HIN.out,bZ HB1⟩
end Go.Proofs.YtefkfglkpebbmacGreat
