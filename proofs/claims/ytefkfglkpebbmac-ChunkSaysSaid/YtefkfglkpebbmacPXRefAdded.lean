/- The walk of the document's Added. No conditions. -/
import Derived.Test.YtefkfglkpebbmacP4
import Derived.Test.YtefkfglkpebbmacPXRefAddFunc
import Derived.Test.YtefkfglkpebbmacPXRefChkList
import Derived.Test.YtefkfglkpebbmacPXOn
set_option linter.unusedVariables false
set_option linter.unusedSimpArgs false
set_option maxRecDepth 100000
set_option maxHeartbeats 40000000
namespace Go.Proofs.Ytefkfglkpebbmac
open Go.RowKit
variable {Y:Prop}
theorem x4n0(h:Y:=by
 go_quiet (fail)
 go_wp2_with fail;go_meet
 case rel=>exact⟨by rw[hres],qH (below_drewN _ _)⟩):Y:=h
theorem row_add{w2 w':World}{base:Nat}{P:Nat->Prop}{out:List Chk}{ds:List (Option Addr×Nat)}{C:OA}{cc:Nat}{y:Chk}{D:OA}{d:Nat}{C1:OA}{cc1:Nat}{o:Obj}(h:GRow kChk w2 base out ds C cc)(hE:Each kChk out ds P)(hB0:∀q,P q->q<base)(hy:ChkIn w2 y D d)(hD:kChk.dat y≠[]->∀q,D.map (·.block)=some q->P q)
  (hown:Own w' base 49 5 C1 (out.length+1) cc1 (kChk.cells out ds++kChk.cell y (D,d))) (hgr:(w2.alloc o).grownBy w' (C.map (·.block))) (hbel:Below base (w2.alloc o) w') (hor:C1.map (·.block)=C.map (·.block)∨C1.map (·.block)=some (w2.alloc o).heap.size):
  GRow kChk w' base (out++[y]) (ds++[(D,d)]) C1 cc1∧Each kChk (out++[y]) (ds++[(D,d)]) P:=by
 have hb:=(bW w2).alloc nl o;refine⟨(h.below hb).push (o:=y) (d:=(D,d)) hown hbel (fun k hk hn=>hgr.block k hk (fun e=>hn e.symm)) ?_ (hy.data.stays hb) hy.cap (fun hx q e e2=>by have h1:=hB0 _ (hD hx q e);have h2:=(h.row.block q e2).1;omega),hE.push h.len hD⟩;rcases hor with h|h
 ·exact .inl h
 exact x55s
theorem pick_succ(l:List Chk)(c:Chk)(k:Nat):(List.range (k+1)).flatMap (fun (j:Nat)=>pickN l c (j:Int))=(List.range k).flatMap (fun (j:Nat)=>pickN l c (j:Int))++pickN l c (k:Int):=by
 rw[List.range_succ,List.flatMap_append];simp
theorem GRow.freshB{α:Type}{K:Kd α}{w v:World}{base:Nat}{P:Nat->Prop}{l:List α}{ds:List (Option Addr×Nat)}{A:OA}{c:Nat}(h:GRow K w base l ds A c)(hn:Each K l ds P)(hv:∀k,P k∨base<=k->k<w.heap.size->v.heap[k]?=w.heap[k]?):GRow K v base l ds A c:=by
 have hlt:∀k,P k∨base<=k->k<w.heap.size->k<v.heap.size:=fun k h1 h2=>by
  have e:=hv k h1 h2;rcases Nat.lt_or_ge k v.heap.size with h|h
  ·exact h
  rw[Array.getElem?_eq_none h,Array.getElem?_eq_getElem h2]at e;cases e
 refine⟨h.len,own_fresh h.row (fun k h1=>hv k (.inr h1)),fun i o d h1 h2=>⟨fun j hj=>?_,(h.data i o d h1 h2).2⟩,h.off⟩;obtain⟨b,o1,e1,hl1,hc⟩:=(h.data i o d h1 h2).1 j hj;have hx:K.dat o≠[]:=fun e=>by rw[e]at hj;simp at hj
 have hbb:=hn i o d h1 h2 hx b (by rw[e1];rfl);exact⟨b,o1,e1,hlt b (.inl hbb) hl1,(World.cell?_of_block (hv b (.inl hbb) hl1)).trans hc⟩
def AdRet(S:Nat->Prop)(w:World)(l:List Chk)(n:Int):Ending->World->Prop:=fun en w'=>
 ∃A c,en=.returned (.tuple #[.slice A l.length c,iv n])∧l.length<=c∧Below w.heap.size w w'∧On (fun k=>S k∧k<w.heap.size∨w.heap.size<=k) w' (fun v=>Chs v A l)
def otherB(l:List Chk)(x:Chk):Bool:=match l with
 |[]=>false
 |y::_=>decide (¬kin y x)
theorem otherB_at{l:List Chk}{x y:Chk}(h:l[0]?=some y):otherB l x=decide (¬kin y x):=by
 rcases l with _|⟨z,r⟩
 ·simp at h
 simp at h;subst h;rfl
theorem refAdded_calls(A B:OA)(c d:Nat)(l:List Chk)(x:Chk)(S:Nat->Prop)(w:World)(hl:l.length<=2513169434843)(hs:On S w (fun v=>Chs v A l))(hx:On S w (fun v=>ChkIn v x B d)):
  Calls Try.prog 45 #[.slice A l.length c,.agg (chkA x.from_ x.to_ x.n x.of_ B x.data.length d)] w (AdRet S w (chkAdd l x).1 (chkAdd l x).2):=by
 have HS:=qH hs;have HX:=qH hx;have K1:=qH (fun w h=>refChkList_calls A c l w hl h);have K2:=qH (fun w=>refChkCheckX_calls B d x w ⟨hx.now.i2,hx.now.i3⟩);have hba:=(bW w).alloc nl (.cells (chkA x.from_ x.to_ x.n x.of_ B x.data.length d) 49);have HBA:=qH hba;clear hs hx hba;obtain⟨r,hr⟩:=eX (chkAdd l x);rw[hr];have HR:=qH hr;clear hr;go_enter Try.func45,Try.ntmps45;go_wp2_with fail;refine(K1.out _ (HS.out.at_ HBA.out)).mono ?_;rintro e w1 ⟨rfl,hb⟩;obtain⟨a0r,a0f,a0n,a0c,a0z,a0l⟩:=kp (w.heap.size) (chkA x.from_ x.to_ x.n x.of_ B x.data.length d) hb;have HB1:=bT HBA hb;clear hb;by_cases he1:chkList l≠0
 ·have hz:=HR.out.symm.trans (chkAdd_err1 (c:=x) he1);have q:(chkList l !=0)=true:=by simp[he1]
  generalize chkList l=e1 at *
  clear he1 HR;go_wp2_with fail;go_ret2;rw[hz];exact⟨none,0,rfl,nl,HB1.out,.const fun v=>Chs.nil v _⟩
 have he1:=Decidable.not_not.1 he1;rw[he1];go_wp2_with fail;refine(K2.out _).mono ?_;rintro e w1 ⟨rfl,hb⟩;obtain⟨a0r,a0f,a0n,a0c,a0z,a0l⟩:=kp (w.heap.size) (chkA x.from_ x.to_ x.n x.of_ B x.data.length d) hb;have HB2:=bT HB1 hb;clear hb HB1;by_cases he2:chkCheck x≠0
 ·have hz:=HR.out.symm.trans (chkAdd_err2 he1 he2);have q:(chkCheck x !=0)=true:=by simp[he2]
  generalize chkCheck x=e2 at *
  clear he1 he2 HR;go_wp2_with fail;go_ret2;rw[hz];exact⟨none,0,rfl,nl,HB2.out,.const fun v=>Chs.nil v _⟩
 have he2:=Decidable.not_not.1 he2;rw[he2];have hr1:=refAdd_is he1 he2;have hbd:∀y∈(chkAdd l x).1,ChkB y:=by
  obtain⟨k1,_,_⟩:=add_again he1 he2;intro y hy;obtain⟨⟨h1,h2,h3,h4,h5,h6,h7,h8⟩,_,h9,_⟩:=chkCheck_ok.1 ((chkList_ok.1 k1).1 y hy);exact x0ek
 rw[<-hr1]at hbd;have hres:r=(refAdd l x,0):=by rw[<-HR.out];exact Prod.ext hr1.symm (chkAdd_ok he1 he2).1
 have HRES:=qH hres;unfold refAdd at hbd HRES;have HBD:=qH hbd;have hll:=chkList_len he1;have hxn:I64 x.n:=HX.out.now.i2;clear hbd hr1 he1 he2 hl HR K1 K2 hres;have HRF:=qH (And.intro a0r a0f);go_upto_region 7 with fail
 go_cut [50] (fun v wx=>v=.bool (otherB l x)∧Hid (Below w1.heap.size w1 wx))
 case first=>
  rcases Nat.eq_zero_or_pos l.length with hl0|hlp
  ·have hn:=List.eq_nil_of_length_eq_zero hl0;have hres:otherB l x=false:=by rw[hn];rfl
   subst hn;exact x4n0
  obtain⟨b,o,By,dy,rfl,hbl,hat,-⟩:=HS.out.now.chk hlp;have h1:l[0]?=some l[0]:=List.getElem?_eq_getElem hlp;have HO:=qH (otherB_at (x:=x) h1);obtain⟨y,hy⟩:=eX (l[0]);rw[hy]at hat HO;rw[Nat.zero_mul,Nat.add_zero]at hat;obtain⟨y5,y1,y2,y3,y4⟩:=hat.stays hbl HB2.out;have q4:(0:Int)<(l.length:Int):=by omega
  have q4:¬(l.length:Int)<=0:=by omega
  have nb2:¬l.length=0:=by omega
  have nb1:¬l=[]:=fun e=>by rw[e]at hlp;simp at hlp
  clear hy h1 hat;by_cases c1:x.from_=y.from_
  ·by_cases c2:x.to_=y.to_
   ·by_cases c3:x.of_=y.of_
    ·have hres:otherB l x=false:=by rw[HO.out];exact decide_eq_false (fun h=>h ⟨c1.symm,c2.symm,c3.symm⟩)
     have q1:(x.from_ !=y.from_)=false:=by simp[c1]
     have q1:(x.to_ !=y.to_)=false:=by simp[c2]
     have q1:(x.of_ !=y.of_)=false:=by simp[c3]
     clear c1 c2 c3;exact x4n0
    ·have hres:otherB l x=true:=by rw[HO.out];exact decide_eq_true (fun h=>c3 h.2.2.symm)
     have q1:(x.from_ !=y.from_)=false:=by simp[c1]
     have q1:(x.to_ !=y.to_)=false:=by simp[c2]
     have q1:(x.of_ !=y.of_)=true:=by simp[c3]
     clear c1 c2 c3;exact x4n0
   ·have hres:otherB l x=true:=by rw[HO.out];exact decide_eq_true (fun h=>c2 h.2.1.symm)
    have q1:(x.from_ !=y.from_)=false:=by simp[c1]
    have q1:(x.to_ !=y.to_)=true:=by simp[c2]
    clear c1 c2;exact x4n0
  have hres:otherB l x=true:=by rw[HO.out];exact decide_eq_true (fun h=>c1 h.1.symm)
  have q1:(x.from_ !=y.from_)=true:=by simp[c1]
  clear c1;exact x4n0
 case rest=>
 obtain⟨rfl,hb⟩:=hcut;have HB1:=bT HB2 hb.out;have HRF1:Hid (rowOf wc w.heap.size=chkA x.from_ x.to_ x.n x.of_ B x.data.length d∧frOf wc w.heap.size=(0,0)):=qH (by
  obtain⟨q1,q2,_⟩:=keep1 (g:=w.heap.size) (cs:=chkA x.from_ x.to_ x.n x.of_ B x.data.length d) hb.out HRF.out.1 (by go_simp) HRF.out.2;exact⟨q1,q2⟩)
 clear hb HB2 HRF a0r a0f a0n a0c a0z a0l;obtain⟨w1,hw1⟩:=eX (wc);subst hw1;obtain⟨m,hm⟩:=eX (ofKin l x);rw[hm]at HBD HRES;have HMK:=qH hm;clear hm;go_upto_if 50 with fail
 go_cut [0] (fun v wx=>wc=wx∧∃A' c',v=.slice A' m.length c'∧m.length<=2513169434843∧Hid (On S w (fun v=>Chs v A' m)))
 case first=>
  cases hob:otherB l x
  ·go_wp2_with fail;go_meet
   case rel=>
    have hm:l=m:=by
     rw[<-HMK.out];rcases l with _|⟨y,t⟩
     ·rfl
     exact(if_pos (by simpa[otherB]using hob)).symm
    exact⟨rfl,A,c,by rw[hm],by rw[<-hm];omega,by rw[<-hm];exact HS⟩
  go_wp2_with fail;go_meet
  case rel=>
   have hm:m=[]:=by
    rw[<-HMK.out];rcases l with _|⟨y,t⟩
    ·rfl
    exact if_neg (by simpa[otherB]using hob)
   exact⟨rfl,none,0,by rw[hm];rfl,by rw[hm];simp,by rw[hm];exact qH (On.const fun v=>Chs.nil v _)⟩
 case rest=>
 obtain⟨hwx,A',c',rfl,hml,HM⟩:=hcut;subst hwx;rename World=>w1;have hs1:=HB1.out.size;have hsw:∀q,S q∧q<w.heap.size->q<w1.heap.size:=fun q h=>Nat.lt_of_lt_of_le h.2 hs1;clear HS HMK;go_wp2_with fail;go_loopw [51,8] (fun i v wr=>∃(k:Nat) (out:List Chk) (ds:List (Option Addr×Nat)) (C:OA) (cc:Nat),k<=52∧i=iv k∧v=.slice C out.length cc∧Hid (out=(List.range k).flatMap (fun (j:Nat)=>pickN m x (j:Int)))∧out.length<=k∧Hid (GRow kChk wr w1.heap.size out ds C cc)∧Hid (Each kChk out ds (fun q=>S q∧q<w.heap.size))∧Hid (Below w1.heap.size w1 wr)) (fun i _ _=>52-(intOf i).toNat)
 case atStart=>exact⟨0,[],[],none,0,by omega,rfl,rfl,qH rfl,by simp,qH (GRow.nil _ _),qH Each.nil,qH (Below.refl _ _)⟩
 case round=>
  rename World=>wr;obtain⟨k,out,ds,C,cc,hk,rfl,rfl,HO,hol,HR,HE,HB⟩:=hrel;have hsr:=HB.out.size;have HBW:=qH (HB1.out.trans (HB.out.mono hs1));obtain⟨a0r,a0f,a0n,a0c,a0z,a0l⟩:=keep1 (g:=w.heap.size) (cs:=chkA x.from_ x.to_ x.n x.of_ B x.data.length d) HB.out HRF1.out.1 (by go_simp) HRF1.out.2;by_cases hlt:k<52
  ·have dl:decide ((k:Int)<52)=true:=decide_eq_true (by omega);have hwk:IntKind.i64.wrap ((k:Int)+1)=(k:Int)+1:=IntWalk.i64_in _ (by omega);have hbn:=(bW wr).alloc nl (.cells #[iv (k:Int)] 3);have HBN:=qH (HB.out.trans (hbn.mono hsr));have K1:=qH (raN_idx A' c' wr.heap.size m (k:Int) (wr.alloc (.cells #[iv (k:Int)] 3)) hml (HM.out.at_ (HBW.out.trans (hbn.mono HBW.out.size))) (by simp) (by rw[cell_of_row _ _ _ _ _ _ (blk_top rfl)];rfl));have HR1:=qH (HR.out.below hbn);have HPS:=qH (pick_succ m x k);clear hbn;rcases idxR_spec (fun z=>isN z (k:Int)) m 0 with ⟨hf1,hf2⟩|⟨j,y,hj,hf2,hf1⟩
   ·rw[hf2]at K1;have hpk:pickN m x (k:Int)=if (k:Int)=x.n then [x] else []:=by unfold pickN;rw[atN_isN,hf1]
    rw[hpk]at HPS;clear hpk hf1 hf2;go_wp2_with fail;refine K1.out.mono ?_;rintro e w2 ⟨rfl,hb1⟩;have b1:=kp (w.heap.size) (chkA x.from_ x.to_ x.n x.of_ B x.data.length d) hb1;have n1:=kp (wr.heap.size) (#[iv (k:Int)]) hb1;have HB2:=bT HBN hb1;have HR1:=qH (HR1.out.below hb1);have hs2:=HB2.out.size;clear hb1 a0r a0f a0n a0c a0z a0l;by_cases hkn:(k:Int)=x.n
    ·rw[if_pos hkn]at HPS;have q1:((k:Int)==x.n)=true:=by simp[hkn]
     clear hkn;have hoa:=HR1.out.row.alloc (.cells (chkA x.from_ x.to_ x.n x.of_ B x.data.length d) 49);have hsd:Src (w2.alloc (.cells (chkA x.from_ x.to_ x.n x.of_ B x.data.length d) 49)) (some ⟨w2.heap.size,0,none⟩) (kChk.cell x (B,d)):=by
      have:=src_blk (w:=w2.alloc (.cells (chkA x.from_ x.to_ x.n x.of_ B x.data.length d) 49)) (g:=w2.heap.size) (blk_top rfl);rwa [chkA_list]at this
     have hob:out.length+1<=137438953472:=by omega
     have hle:w1.heap.size<=(w2.alloc (.cells (chkA x.from_ x.to_ x.n x.of_ B x.data.length d) 49)).heap.size:=by simp;omega
     go_wp2_with (at_builtin;go_must (refine wpList_app (w2.alloc (.cells (chkA x.from_ x.to_ x.n x.of_ B x.data.length d) 49)) rfl _ _ 43 rfl elChunks w1.heap.size C out.length cc (kChk.cells out ds) rfl hoa (some ⟨w2.heap.size,0,none⟩) 1 1 (kChk.cell x (B,d)) rfl hsd (by simp[kChk]) (kChk.one _ _) hob hle ?_;intro C1 cc1 w5 hown hgr hbel hor));have hra:=row_add HR1.out HE.out hsw (HX.out.at_ (HB1.out.trans (HB2.out.mono hs1))) (fun h=>(HX.out.imp fun _ h=>h.data).bts_in h) hown hgr hbel hor;have HR1:=qH hra.1;have HE1:=qH hra.2;have HB1:Hid (Below w1.heap.size w1 w5):=qH ((HB2.out.alloc hs2 _).trans hbel);have HL:Hid (out.length+1=(out++[x]).length):=qH (by simp);clear hra hown hgr hbel hor hoa hsd hob hle;go_roundw
     case rel=>exact⟨k+1,out++[x],ds++[(B,d)],C1,cc1,by omega,by go_num,by rw[HL.out],qH (by rw[HPS.out,<-HO.out]),by simp;omega,HR1,HE1,HB1⟩
     case measure=>simp[intOf];omega
    rw[if_neg hkn,List.append_nil]at HPS;have q1:((k:Int)==x.n)=false:=by simp[hkn]
    clear hkn;go_wp2_with fail;go_roundw
    case rel=>exact⟨k+1,out,ds,C,cc,by omega,by go_num,rfl,qH (by rw[HPS.out];exact HO.out),by omega,HR1,HE,HB2⟩
    case measure=>simp[intOf];omega
   rw[hf2]at K1;have hpk:pickN m x (k:Int)=[y]:=by unfold pickN;rw[atN_isN,hf1]
   rw[hpk]at HPS;clear hpk hf1 hf2;have hjl:j<m.length:=(List.getElem?_eq_some_iff.1 hj).1;have hyj:m[j]=y:=by rw[List.getElem?_eq_getElem hjl]at hj;injection hj
   obtain⟨b,o,B1,d1,rfl,hbl,hat,hin⟩:=HM.out.now.chk hjl;have hyd:=fun h=>HM.out.chk_in hjl rfl hat h hin;rw[hyj]at hat hin hyd;have HYD:Hid (kChk.dat y≠[]->∀q,B1.map (·.block)=some q->S q∧q<w.heap.size):=qH hyd;have HYI:=qH hin;have HYA:Hid (∀v,Below w.heap.size w v->ChkAt v b (o+j*5) y B1 d1):=qH (fun v hv=>hat.stays hbl hv);have hj1:(0:Int)<=((0+j:Nat):Int):=by omega
   rw[Nat.zero_add]at K1;clear hj hyj hat hin hj1 hyd;go_wp2_with fail;refine K1.out.mono ?_;rintro e w2 ⟨rfl,hb1⟩;have b1:=kp (w.heap.size) (chkA x.from_ x.to_ x.n x.of_ B x.data.length d) hb1;have HB2:=bT HBN hb1;have HR1:=qH (HR1.out.below hb1);have hs2:=HB2.out.size;obtain⟨z5,z1,z2,z3,z4⟩:=HYA.out w2 (HB1.out.trans (HB2.out.mono hs1));clear hb1 a0r a0f a0n a0c a0z a0l;have hoa:=HR1.out.row.alloc (.cells (chkA y.from_ y.to_ y.n y.of_ B1 y.data.length d1) 49);have hsd:Src (w2.alloc (.cells (chkA y.from_ y.to_ y.n y.of_ B1 y.data.length d1) 49)) (some ⟨w2.heap.size,0,none⟩) (kChk.cell y (B1,d1)):=by
    have:=src_blk (w:=w2.alloc (.cells (chkA y.from_ y.to_ y.n y.of_ B1 y.data.length d1) 49)) (g:=w2.heap.size) (blk_top rfl);rwa [chkA_list]at this
   have hob:out.length+1<=137438953472:=by omega
   have hle:w1.heap.size<=(w2.alloc (.cells (chkA y.from_ y.to_ y.n y.of_ B1 y.data.length d1) 49)).heap.size:=by simp;omega
   go_wp2_with (at_builtin;go_must (refine wpList_app (w2.alloc (.cells (chkA y.from_ y.to_ y.n y.of_ B1 y.data.length d1) 49)) rfl _ _ 43 rfl elChunks w1.heap.size C out.length cc (kChk.cells out ds) rfl hoa (some ⟨w2.heap.size,0,none⟩) 1 1 (kChk.cell y (B1,d1)) rfl hsd (by simp[kChk]) (kChk.one _ _) hob hle ?_;intro C1 cc1 w5 hown hgr hbel hor));have hra:=row_add HR1.out HE.out hsw (HYI.out.stays (HB1.out.trans (HB2.out.mono hs1))) HYD.out hown hgr hbel hor;have HR1:=qH hra.1;have HE1:=qH hra.2;have HB1:Hid (Below w1.heap.size w1 w5):=qH ((HB2.out.alloc hs2 _).trans hbel);have HL:Hid (out.length+1=(out++[y]).length):=qH (by simp);clear hra hown hgr hbel hor hoa hsd hob hle;go_roundw
   case rel=>exact⟨k+1,out++[y],ds++[(B1,d1)],C1,cc1,by omega,by go_num,by rw[HL.out],qH (by rw[HPS.out,<-HO.out]),by simp;omega,HR1,HE1,HB1⟩
   case measure=>simp[intOf];omega
  obtain rfl:k=52:=by omega
  have hfin:=HO.out;have hrs:=HRES.out;rw[<-hfin]at hrs;go_wp2_with fail;go_ret2;rw[hrs];exact⟨C,cc,rfl,HR.out.row.le,HBW.out,fun v _ hv=>(HR.out.freshB HE.out (fun k h1 h2=>hv k (h1.imp id (fun h=>by omega)) h2)).src.chs (by rw[hfin];exact HBD.out)⟩
end Go.Proofs.Ytefkfglkpebbmac
