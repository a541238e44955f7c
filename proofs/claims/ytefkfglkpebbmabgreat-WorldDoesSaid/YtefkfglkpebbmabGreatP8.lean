/- Walks. No conditions. -/
import Derived.Test.YtefkfglkpebbmabGreatP7
import Derived.Lib.MakeNoZero
set_option linter.all false
set_option maxRecDepth 100000
set_option maxHeartbeats 0
namespace Go.Proofs.YtefkfglkpebbmabGreat
open Go.RowKit
variable {Y:Prop}
variable {x:Chk} {r:List Chk} {k:Nat} {R:List Value}
theorem x0hm(h:Y:=by
 have h1:=HE1.out;have h2:=HR.out;have h3:unpacked (dataOf (x::t)) 400=(u,eu):=by rw[<-HXT.out];exact hu
 rw[HXT.out]at h1 h2;have h4:¬((x::t).length:Int)<x.of_:=by rw[<-HXT.out];exact hfw
 refine⟨fun e=>?_,fun e=>?_⟩
 ·rw[<-h2,chkJoin_pack h1 h4 (by rw[h3];exact e),h3]
 rw[<-h2,chkJoin_read h1 h4 (by rw[h3];exact e),h3,HXT.out]):Y:=h
theorem x0v8(h:Y:=by
 go_wp2_with fail;refine bodyPost_ret (rC (patA 0 0 0 0 0 none 0 0)) rfl ?_;rw[HZ.out];exact⟨none,0,rfl,.const fun v=>patIn_zero v,below_row HB1.out (by omega) _⟩):Y:=h
theorem x2tq(h:Y:=by
 have h1:=HE1.out;have h2:=HR.out;rw[HXT.out]at h1 h2;rw[<-h2,chkJoin_few h1 (by rw[<-HXT.out];exact hfew)]):Y:=h
theorem x3og(h:Y:=by
 go_wp2_with fail;generalize w1.alloc (.cells (patA p.from_ p.to_ p.old p.new_ p.size A1 p.ops.length c4) 36)=w6 at *
 generalize w1.heap.size=g9 at *
 obtain⟨z1,z2,z3,z4,z5⟩:=blkFacts HG1.out (by simp[patA]);go_quiet (fail)
 have ng:¬g9=w.heap.size:=by omega
 have ng1:¬w.heap.size=g9:=by omega
 go_wp2_with fail;refine bodyPost_ret (rC (patA p.from_ p.to_ p.old p.new_ p.size A1 p.ops.length c4)) rfl ?_;rw[HZ.out];exact⟨A1,c4,rfl,((HF1.out.drewN _).row (by omega) _).mono (by omega),below_row (Below.drewN' HB1.out _) nl _⟩):Y:=h
theorem x4px(h:Y:=by
 have:=(chkCheck_ok.1 ((chkList_ok.1 HE1.out).1 l[k] (List.getElem_mem hlt))).2;unfold Chk.full at this;exact this.2.1):Y:=h
theorem x5jz(h:Y:=by
 have:=(chkCheck_ok.1 ((chkList_ok.1 he1).1 x hx)).2;unfold Chk.full at this;exact this.2.1):Y:=h
theorem x78y(h:Y:=by
 go_wp2_with fail;generalize w1.alloc (.cells (patA p.from_ p.to_ p.old p.new_ p.size A1 p.ops.length c4) 36)=w6 at *
 generalize w1.heap.size=g9 at *
 obtain⟨z1,z2,z3,z4,z5⟩:=blkFacts HG1.out (by simp[patA]);go_quiet (fail)
 go_wp2_with fail;refine bodyPost_ret (rC (patA 0 0 0 0 0 none 0 0)) rfl ?_;rw[HZ.out];exact⟨none,0,rfl,.const fun v=>patIn_zero v,below_row (Below.drewN' HB1.out _) (by omega) _⟩):Y:=h
theorem x9n1(h:Y:=by
 go_wp2_with fail;refine(K1.out _ (HS.out.stays HBA.out)).mono ?_;rintro e w1 ⟨rfl,hb1⟩;obtain⟨a0r,a0f,a0n,a0c,a0z,a0l⟩:=kp (w.heap.size) (patA 0 0 0 0 0 none 0 0) hb1;have HB1:=bT HBA hb1;clear hb1;go_wp2_with fail;refine bodyPost_ret (rC (patA 0 0 0 0 0 none 0 0)) rfl ?_;rw[HZ.out];exact⟨none,0,rfl,.const fun v=>patIn_zero v,below_row HB1.out (by omega) _⟩):Y:=h
theorem chkJoin_list{l:List Chk}(h:chkList l≠0):chkJoin l=(Pat.zero,chkList l):=by unfold chkJoin;rw[if_pos h]
theorem chkJoin_nil:chkJoin []=(Pat.zero,5):=by unfold chkJoin;rw[if_neg (by simp[chkList,listGo])]
theorem chkJoin_few(h:chkList (x::r)=0)(g:((x::r).length:Int)<x.of_):chkJoin (x::r)=(Pat.zero,5):=by
 unfold chkJoin;rw[if_neg (by simpa using h)];dsimp only;rw[if_pos g]
theorem chkJoin_pack(h:chkList (x::r)=0)(g:¬((x::r).length:Int)<x.of_)(u:(unpacked (dataOf (x::r)) 400).2≠0):chkJoin (x::r)=(Pat.zero,(unpacked (dataOf (x::r)) 400).2):=by
 unfold chkJoin;rw[if_neg (by simpa using h)];dsimp only;rw[if_neg g,if_pos u]
theorem chkJoin_read(h:chkList (x::r)=0)(g:¬((x::r).length:Int)<x.of_)(u:(unpacked (dataOf (x::r)) 400).2=0):chkJoin (x::r)=joinDone (x::r) (patRead (unpacked (dataOf (x::r)) 400).1) x:=by
 unfold chkJoin;rw[if_neg (by simpa using h)];dsimp only;rw[if_neg g,if_neg (by simpa using u)]
theorem dataOf_snoc(l:List Chk)(x:Chk):dataOf (l++[x])=dataOf l++x.data:=by simp[dataOf]
theorem dataOf_le:∀(l:List Chk),(∀x∈l,x.data.length<=16)->(dataOf l).length<=16*l.length
 |[],_=>by simp[dataOf]
 |x::l,h=>by
  have ih:=dataOf_le l (fun y hy=>h y (by simp[hy]));have h1:=h x (by simp);have e:dataOf (x::l)=x.data++dataOf l:=by simp[dataOf]
  rw[e,List.length_append,List.length_cons];omega
theorem patReadJ_calls(A:OA)(c:Nat)(b:LU)(w:World)(hc:b.length<=c)(hB:Bts w A b):
  Calls Tryz.prog 134 #[.slice A b.length c] w (PaRet w (patRead b).1 (patRead b).2):=by
 by_cases h:400<b.length∨b.length<8
 ·exact patRead_short A c b w h
 exact patRead_long A c b w hc (by omega) (by omega) hB
theorem chkJoin_calls(A:OA)(c:Nat)(l:List Chk)(w:World)(hl:l.length<=2513169434843)(hs:Chs w A l):
  Calls Tryz.prog 105 #[.slice A l.length c] w (PaRet w (chkJoin l).1 (chkJoin l).2):=by
 have HS:=qH hs;have K1:=qH (fun w h=>chkList_calls A c l w hl h);have hba:=(bW w).alloc nl (.cells (patA 0 0 0 0 0 none 0 0) 36);have HBA:=qH hba;clear hs hba;obtain⟨r,hr⟩:=eX (chkJoin l);rw[hr];have HR:=qH hr;clear hr;by_cases he1:chkList l≠0
 ·have hz:r=(Pat.zero,chkList l):=by rw[<-HR.out,chkJoin_list he1]
  have HZ:=qH hz;have q:(chkList l !=0)=true:=by simp[he1]
  generalize chkList l=e1 at *
  clear he1 hz;go_enter Tryz.func105,Tryz.ntmps105;exact x9n1
 have he1:=Decidable.not_not.1 he1;rw[he1]at K1;have hll:=chkList_len he1;have hdl:=dataOf_le l (fun x hx=>by
  exact x5jz)
 have HE1:=qH he1;clear he1;rcases Nat.eq_zero_or_pos l.length with hl0|hlp
 ·have hz:r=(Pat.zero,5):=by rw[<-HR.out,List.eq_nil_of_length_eq_zero hl0,chkJoin_nil]
  have HZ:=qH hz;have q:((l.length:Int)==0)=true:=by simp[hl0]
  clear hz hl0;go_enter Tryz.func105,Tryz.ntmps105;exact x9n1
 obtain⟨g,o,B1,d1,rfl,hgl,hat1,-⟩:=HS.out.chk (i:=0) hlp;rw[Nat.zero_mul,Nat.add_zero]at hat1;obtain⟨x,t,hxt⟩:∃x t,l=x::t:=by
  rcases l with _|⟨x,t⟩
  ·simp at hlp
  exact⟨x,t,rfl⟩
 have hx1:l[0]=x:=by subst hxt;rfl
 rw[hx1]at hat1;have HAT:=qH hat1;have HXT:=qH hxt;have q4:((l.length:Int)==0)=false:=beq_eq_false_iff_ne.2 (by omega);have nb3:¬l.length=0:=by omega
 have nb1:¬l=[]:=by rw[hxt];simp
 have nb1:¬(l.length:Int)<=0:=by omega
 clear hat1 hx1 hxt;by_cases hfew:(l.length:Int)<x.of_
 ·have hz:r=(Pat.zero,5):=by
   exact x2tq
  have HZ:=qH hz;clear hz;go_enter Tryz.func105,Tryz.ntmps105;go_wp2_with fail;refine(K1.out _ (HS.out.stays HBA.out)).mono ?_;rintro e w1 ⟨rfl,hb1⟩;obtain⟨a0r,a0f,a0n,a0c,a0z,a0l⟩:=kp (w.heap.size) (patA 0 0 0 0 0 none 0 0) hb1;have HB1:=bT HBA hb1;obtain⟨c5,c1,c2,c3,c4⟩:=HAT.out.stays hgl HB1.out;clear hb1;exact x0v8
 have hfw:¬(l.length:Int)<x.of_:=hfew;obtain⟨u,eu,hu⟩:∃u eu,unpacked (dataOf l) 400=(u,eu):=⟨_,_,rfl⟩;have hz:(eu≠0->r=(Pat.zero,eu))∧(eu=0->r=joinDone l (patRead u) x):=by
  exact x0hm
 have HZ1:=qH hz;have HU:=qH hu;clear hz hu hfew;go_enter Tryz.func105,Tryz.ntmps105;go_wp2_with fail;refine(K1.out _ (HS.out.stays HBA.out)).mono ?_;rintro e w1 ⟨rfl,hb1⟩;obtain⟨a0r,a0f,a0n,a0c,a0z,a0l⟩:=kp (w.heap.size) (patA 0 0 0 0 0 none 0 0) hb1;have HB1:=bT HBA hb1;have HRF1:=qH (And.intro a0r a0f);have hs1:=HB1.out.size;obtain⟨c6,c1,c2,c3,c4⟩:=HAT.out.stays hgl HB1.out;clear hb1;go_wp2_with fail;clear c6 c1 c2 c3 c4 a0r a0f a0n a0c a0z;go_loopw [5,31] (fun v i wr=>∃(k:Nat) (C:OA) (cc:Nat) (b:LU),k<=l.length∧i=iv k∧v=.slice C b.length cc∧Hid (b=dataOf (l.take k))∧b.length<=16*k∧Hid (Own wr w1.heap.size 5 1 C b.length cc (b.map bv))∧Hid (Below w1.heap.size w1 wr)) (fun _ i _=>l.length-(intOf i).toNat)
 case atStart=>exact⟨0,none,0,[],Nat.zero_le _,rfl,rfl,qH (by simp[dataOf]),by simp,qH (Own.nil_ _ _ _ _),qH (Below.refl _ _)⟩
 case round=>
  rename World=>wr;obtain⟨k,C,cc,b,hk,rfl,rfl,HBK,hbl,HO,HBR⟩:=hrel;have hsr:=HBR.out.size;have HBW:Hid (Below w.heap.size w wr):=qH (HB1.out.trans (HBR.out.mono hs1));by_cases hlt:k<l.length
  ·obtain⟨g',o',D,d,e,_,hat,hin⟩:=(HS.out.stays HBW.out).chk hlt;injection e with e;injection e with e1 e2;subst e1 e2;have hsn:dataOf (l.take (k+1))=b++l[k].data:=by rw[List.take_succ_eq_append_getElem hlt,dataOf_snoc,<-HBK.out]
   have hyl:l[k].data.length<=16:=by
    exact x4px
   obtain⟨y,hy⟩:=eX (l[k]);rw[hy]at hat hin hsn hyl;have HSN:=qH hsn;obtain⟨c5,c1,c2,c3,c4⟩:=hat;have dl:decide ((k:Int)<(l.length:Int))=true:=decide_eq_true (by omega);have hwk:IntKind.i64.wrap ((k:Int)+1)=(k:Int)+1:=IntWalk.i64_in _ (by omega);have hoa:=HO.out.alloc (.cells (chkA y.from_ y.to_ y.n y.of_ D y.data.length d) 61);have hsd:=(hin.data.stays ((bW wr).alloc nl (.cells (chkA y.from_ y.to_ y.n y.of_ D y.data.length d) 61))).src;have hob:b.length+y.data.length<=137438953472:=by omega
   have hle:w1.heap.size<=(wr.alloc (.cells (chkA y.from_ y.to_ y.n y.of_ D y.data.length d) 61)).heap.size:=by simp;omega
   clear hy hin hsn;go_wp2_with (at_builtin;go_must (refine wpList_app (wr.alloc (.cells (chkA y.from_ y.to_ y.n y.of_ D y.data.length d) 61)) rfl _ _ 23 rfl elBytes w1.heap.size C b.length cc (b.map bv) rfl hoa D y.data.length d (y.data.map bv) rfl hsd (by simp) (bv_one _) hob hle ?_;intro C1 cc1 w3 hown hgr hbel hor));have HL:Hid (b.length+y.data.length=(b++y.data).length):=qH (by simp);have HO1:Hid (Own w3 w1.heap.size 5 1 C1 (b++y.data).length cc1 ((b++y.data).map bv)):=qH (by rw[List.map_append,<-HL.out];exact hown);have HB1:Hid (Below w1.heap.size w1 w3):=qH ((HBR.out.alloc hsr _).trans hbel);clear hown hgr hbel hor hoa hsd hob hle;go_roundw
   case rel=>exact⟨k+1,C1,cc1,b++y.data,by omega,by go_num,by rw[HL.out],qH HSN.out.symm,by simp;omega,HO1,HB1⟩
   case measure=>simp[intOf];omega
  obtain rfl:k=l.length:=by omega
  have dl:decide ((l.length:Int)<(l.length:Int))=false:=by simp
  have hbd:b=dataOf l:=by rw[HBK.out,List.take_length]
  have hbt:=HO.out.src.bts;have hbc:=HO.out.le;have b1:=keep1 (g:=w.heap.size) (cs:=patA 0 0 0 0 0 none 0 0) HBR.out HRF1.out.1 (by go_simp) HRF1.out.2;have K1:=qH (unpack_calls C cc b 400 wr hbc (by omega) ⟨by decide,by decide⟩ hbt);rw[hbd,HU.out,<-hbd]at K1;clear hbd hbt;go_wp2_with fail;refine K1.out.mono ?_;rintro e w1 ⟨A1,c4,rfl,ho1,hb1⟩;obtain⟨a0r,a0f,a0n,a0c,a0z,a0l'⟩:=keep1 (g:=w.heap.size) (cs:=patA 0 0 0 0 0 none 0 0) hb1 b1.1 (by go_simp) b1.2.1;have HB1:=bT HBW hb1;have hbt1:=ho1.src.bts;have hbc1:=ho1.le;have HT1:=qH hbt1;have hn1:w.heap.size<w1.heap.size:=a0l';clear hb1 ho1 hbt1 b1;by_cases heu:eu≠0
  ·have q1:(eu !=0)=true:=by simp[heu]
   have HZ:=qH (HZ1.out.1 heu);clear heu;exact x0v8
  have heu:=Decidable.not_not.1 heu;have hz:=HZ1.out.2 heu;subst heu;obtain⟨p,ep,hp⟩:∃p ep,patRead u=(p,ep):=⟨_,_,rfl⟩;rw[hp]at hz;have K1:=qH (patReadJ_calls A1 c4 u w1 hbc1 HT1.out);rw[hp]at K1;dsimp only at K1;have HZJ:=qH hz;clear hz hp;go_wp2_with fail;refine K1.out.mono ?_;rintro e w1 ⟨A1,c4,rfl,hf1,hb1⟩;have b1:=keep1 (g:=w.heap.size) (cs:=patA 0 0 0 0 0 none 0 0) hb1 a0r (by go_simp) a0f;have HB2:=bT HB1 hb1;have HF1:=qH hf1;have hs1:=HB1.out.size;have hs1:=hb1.size;clear hb1 hf1 a0r a0f a0n a0c a0z a0l';have hba1:=(bW w1).alloc nl (.cells (patA p.from_ p.to_ p.old p.new_ p.size A1 p.ops.length c4) 36);have HB1:=bT HB2 hba1;have HF1:=qH (HF1.out.below hba1 nl);have HG1:Hid ((w1.alloc (.cells (patA p.from_ p.to_ p.old p.new_ p.size A1 p.ops.length c4) 36)).heap[w1.heap.size]?=some (.cells (patA p.from_ p.to_ p.old p.new_ p.size A1 p.ops.length c4) 36 (0,0))):=qH (blk_top rfl);obtain⟨a0r,a0f,a0n,a0c,a0z,a0l'⟩:=keep1 (g:=w.heap.size) (cs:=patA 0 0 0 0 0 none 0 0) hba1 b1.1 (by go_simp) b1.2.1;have hs1:=hba1.size;have hn1:w.heap.size<w1.heap.size:=b1.2.2.2.2.2;clear hba1 b1;by_cases hep:ep≠0
  ·have hz:r=(p,ep):=by rw[HZJ.out];unfold joinDone;rw[if_neg (fun h=>hep h.1)]
   have HZ:=qH hz;have q1:(ep==0)=false:=by simp[hep]
   clear hep hz;exact x3og
  have hep:=Decidable.not_not.1 hep;subst hep;obtain⟨c5,c1,c2,c3,c4'⟩:=HAT.out.stays hgl HB1.out;by_cases hf:p.from_=x.from_
  ·have q1:(p.from_ !=x.from_)=false:=by simp[hf]
   by_cases ht:p.to_=x.to_
   ·have hz:r=(p,0):=by rw[HZJ.out];unfold joinDone;rw[if_neg (fun h=>by rcases h.2 with h|h;exact h hf;exact h ht)]
    have HZ:=qH hz;have q1:(p.to_ !=x.to_)=false:=by simp[ht]
    clear hz hf ht;exact x3og
   have hz:r=(Pat.zero,3):=by rw[HZJ.out];unfold joinDone;rw[if_pos ⟨rfl,.inr ht⟩]
   have HZ:=qH hz;have q1:(p.to_ !=x.to_)=true:=by simp[ht]
   clear hz hf ht;exact x78y
  have hz:r=(Pat.zero,3):=by rw[HZJ.out];unfold joinDone;rw[if_pos ⟨rfl,.inl hf⟩]
  have HZ:=qH hz;have q1:(p.from_ !=x.from_)=true:=by simp[hf]
  clear hz hf;exact x78y
theorem x6d0(h:Y:=by
 have e1:=fO 9 (.slice (some ⟨g,0,none⟩) n n) h;exact mx_move (ch_ev e1)):Y:=h
def filledR(x:UInt8)(k:Nat)(R:List Value):List Value:=List.replicate k (bv x)++R.drop k
theorem filledR_len(x:UInt8)(h:k<=R.length):(filledR x k R).length=R.length:=by unfold filledR;simp;omega
theorem filledR_zero(x:UInt8)(R:List Value):filledR x 0 R=R:=by simp[filledR]
theorem filledR_more(x:UInt8){m:Nat}(h:k+m<=R.length):Go.splice (filledR x k R) k (List.replicate m (bv x))=filledR x (k+m) R:=by
 unfold filledR Go.splice;rw[List.take_append_of_le_length (by simp),List.length_replicate,List.drop_append,List.length_replicate,List.take_of_length_le (by simp),List.drop_eq_nil_of_le (by simp),List.nil_append,<-List.append_assoc,List.replicate_append_replicate,List.drop_drop];congr 2;omega
theorem filledR_at(x:UInt8){j:Nat}(h:j<k):(filledR x k R)[j]?=some (bv x):=by
 unfold filledR;rw[List.getElem?_append_left (by simpa using h),List.getElem?_replicate];simp[h]
def rbJ(wo:World)(g:Nat)(x:UInt8)(k m:Nat)(R:List Value)(done:Nat->Bool)(cv:Nat->Value)(w:World):Prop:=
 if done 7=true then cv 7=iv (m:Int)∧w.heap[g]?=some (.cells (filledR x (k+m) R).toArray 5 (0,0))∧Below g wo w else w=wo.drew
def BsRet(w:World)(l:LU):Ending->World->Prop:=fun en w'=>∃A c,en=.returned (.slice A l.length c)∧l.length<=c∧Bts w' A l∧Below w.heap.size w w'
theorem bts_filledR{w:World}{g n:Nat}{x:UInt8}(h:w.heap[g]?=some (.cells (filledR x n R).toArray 5 (0,0))):Bts w (some ⟨g,0,none⟩) (List.replicate n x):=by
 intro i hi;rw[List.length_replicate]at hi;refine⟨g,0,rfl,blk_lt h,?_⟩;rw[Nat.zero_add,cell_of_row _ _ _ _ _ _ h,List.getElem?_toArray,filledR_at x hi,List.getElem_replicate]
theorem repeatB_calls(A:OA)(c:Nat)(x:UInt8)(n:Nat)(w:World)(hn:1<=n)(hn2:n<=1000)(hA:Bts w A [x]):
  Calls Tryz.prog 140 #[.slice A 1 c,iv n] w (BsRet w (List.replicate n x)):=by
 obtain⟨a,o,rfl,hlt,hc⟩:=hA 0 (by simp);simp only[Nat.add_zero,List.getElem_cons_zero]at hc;have HC:=qH hc;clear hA hc;have d3:((n:Int)==0)=false:=by simp;omega
 have d1:¬(n:Int)<0:=by omega
 have u1:IntKind.u64.wrap (n:Int)=(n:Int):=by rw[IntKind.wrap_u64];omega
 have i1:IntKind.i64.wrap (n:Int)=(n:Int):=IntWalk.i64_in _ (by omega);obtain⟨cs,hrunM,hle,_⟩:=Lib.run_makeNoZero (P:=Tryz.prog) w #[3] 23 5 Tryz.underlying23 n (by omega);have hcall:(callFunc 153 #[iv (n:Int)]).run Tryz.prog w=.ok (.value (.slice (some ⟨w.heap.size,0,none⟩) n cs.size)) ((w.alloc (.cells cs 5)).drewN 2):=by
  rw[run_callFunc_extern Tryz.func153 (by kernel_rfl) (by kernel_rfl) (by kernel_rfl) (e:=Extern.BytealgMakeNoZero.makeNoZero #[3] #[23]) (by kernel_rfl),hrunM];rfl
 clear hrunM;have s1:(n:Int)<=(cs.size:Int):=by omega
 have s1:(0:Int)<=(n:Int):=by omega
 have s1:decide ((8192:Int)<(n:Int))=false:=by simp;omega
 go_enter Tryz.func140,Tryz.ntmps140;go_wp2_with fail;refine(mul1_calls n w (by omega)).mono ?_;rintro e w1 ⟨rfl,rfl⟩;have d1:decide ((9223372036854775807:Int)<(n:Int))=false:=by simp;omega
 have hb1:Below w.heap.size w ((w.alloc (.cells cs 5)).drewN 2):=Below.drewN' (bL _) 2;have hg1:((w.alloc (.cells cs 5)).drewN 2).heap[w.heap.size]?=some (.cells cs 5 (0,0)):=blk_top rfl;have hca:=(hb1.cell (p:=⟨a,o,none⟩) hlt).trans HC.out;obtain⟨R,hR⟩:∃R,R=cs.toList:=⟨_,rfl⟩;have hcs:cs=R.toArray:=by rw[hR,Array.toArray_toList]
 have hRl:n<=R.length:=by rw[hR];simpa using hle
 have hcp:(Builtin.copy_ #[23,23] 3 #[.slice (some ⟨w.heap.size,0,none⟩) n n,.slice (some ⟨a,o,none⟩) 1 c]).run Tryz.prog ((w.alloc (.cells cs 5)).drewN 2)=.ok (iv 1) (((w.alloc (.cells cs 5)).drewN 2).setRow w.heap.size (filledR x 1 R).toArray):=by
  have:=run_copy_row (P:=Tryz.prog) ((w.alloc (.cells cs 5)).drewN 2) 23 23 3 5 w.heap.size 0 n n ⟨a,o,none⟩ 1 c cs 5 [bv x] Tryz.underlying23 (by kernel_rfl) hg1 (by simp[Nat.min_def];omega)
   (fun j v hv=>by
     obtain⟨hj,rfl⟩:=List.getElem?_eq_some_iff.1 hv;have e1:j=0:=by simp at hj;omega
     subst e1;simpa[Addr.add]using hca) (by simp;omega) (by simp[Value.oneCell'])
  rw[this];have e:=filledR_more x (k:=0) (m:=1) (R:=R) (by omega);unfold Go.splice at e;rw[filledR_zero]at e;simp only[Nat.zero_add]at e⊢;rw[show (List.replicate 1 (bv x))=[bv x] from rfl]at e;rw[<-hR,List.append_assoc,e];rfl
 have hf1:Hid ((((w.alloc (.cells cs 5)).drewN 2).setRow w.heap.size (filledR x 1 R).toArray).heap[w.heap.size]?=some (.cells (filledR x 1 R).toArray 5 (0,0))):=qH (setRow_heap _ _ _ _ _ _ hg1);have HB1:Hid (Below w.heap.size w (((w.alloc (.cells cs 5)).drewN 2).setRow w.heap.size (filledR x 1 R).toArray)):=qH (below_row hb1 nl _);clear hg1 hb1 hca hR hcs;go_wp2_with fail;clear hcp hcall;generalize ((w.alloc (.cells cs 5)).drewN 2).setRow w.heap.size (filledR x 1 R).toArray=w2 at *
 generalize hgg:w.heap.size=g at *
 go_loopw [10] (fun y wr=>∃(k:Nat),y=iv (k:Int)∧1<=k∧k<=n∧Hid (wr.heap[g]?=some (.cells (filledR x k R).toArray 5 (0,0)))∧Hid (Below g w wr)) (fun y _=>n-(intOf y).toNat)
 case atStart=>exact⟨1,rfl,by omega,hn,hf1,HB1⟩
 case round=>
  rename World=>wo;obtain⟨k,rfl,hk1,hkn,HF,HB⟩:=hrel;by_cases hlt:k<n
  ·obtain⟨m,hm⟩:∃m,m=Nat.min k (n-k):=⟨_,rfl⟩;have hm1:1<=m∧k+m<=n:=by rw[hm];simp only[Nat.min_def];split<;>omega
   have HM:=qH hm;have HMK:Hid ((k:Int)<=(n:Int)):=qH (by omega);have HMK1:Hid (m<=k):=qH (by rw[hm];exact Nat.min_le_left _ _);have HMN:Hid (k+m<=R.length):=qH (by omega);have HK:Hid (k<=R.length):=qH (by omega);have HNK:Hid (¬n=k):=qH (by omega);have HKN:Hid ((k:Int)<=(n:Int)):=qH (by omega);have HI:Hid (IntKind.i64.wrap ((k:Int)+(m:Int))=(k:Int)+(m:Int)):=qH (IntWalk.i64_in _ (by omega));have dk:decide ((k:Int)<(n:Int))=true:=by simp;omega
   have dm:min (k:Int) (n:Int)=(k:Int):=by omega
   clear hm hf1 HB1;go_wp2_with fail;refine wF (some 67::some 68::some 69::some 70::some 71::some 72::some 73::some 74::some 75::some 10::[]) (false::false::false::false::false::false::false::true::false::false::[]) (iv ((k:Nat):Int)::.slice (some ⟨g,0,none⟩) n n::iv ((k:Nat):Int)::.slice (some ⟨g,(k:Nat),none⟩) (n-k) (n-k)::.slice (some ⟨g,0,none⟩) n n::iv ((k:Nat):Int)::.slice (some ⟨g,0,none⟩) k n::undef::iv ((k+m:Nat):Int)::iv ((k+m:Nat):Int)::[]) (rbJ wo g x k m R) 77 (by rw[rbJ,if_neg (by simp)]) ?_ ?_
   ·refine⟨?_,?_,?_,?_,?_,?_,?_,?_,?_,?_,trivial⟩;all_goals intro done cv a wq hn hw hcl h hJ
    ·have e1:=fr_un (t:=10) (i:=0) (i0:=9) (v:=iv ((k:Nat):Int)) h hcl hn rfl (by decide) (by decide) rfl;exact mx_move (ch_ev e1)
    ·exact x6d0
    ·have e1:=fr_un (t:=10) (i:=2) (i0:=9) (v:=iv ((k:Nat):Int)) h hcl hn rfl (by decide) (by decide) rfl;exact mx_move (ch_ev e1)
    ·have e1:=fN 1 68 h hw;have e69:=fN 2 69 h hw;have hnk:=HNK.out;have hkn:=HKN.out;go_simp
    ·exact x6d0
    ·have e1:=fO 11 (iv ((k:Nat):Int)) h;exact mx_move (ch_ev e1)
    ·have e1:=fN 4 71 h hw;have e72:=fN 5 72 h hw;exact x2m3
    ·have e3:=fN 3 70 h hw;have e73:=fN 6 73 h hw;have hd:¬maskB [false,false,false,false,false,false,false,true,false,false] done 7=true:=by unfold maskB;rw[hn];simp
     rw[rbJ,if_neg hd]at hJ;obtain rfl:wq=wo.drew:=hJ;refine wp_copy rfl (.tmp 70) (.tmp 73) 23 23 rfl 5 Tryz.underlying23 (by kernel_rfl) _ _ _ _ _ _ (ch_ev e3) (ch_ev e73) g k (filledR x k R) 5 HF.out (List.replicate m (bv x)) (by rw[List.length_replicate];exact HM.out) (fun _=>⟨rfl,_,rfl,fun j v hv=>?_⟩) (by rw[filledR_len x HK.out,List.length_replicate];exact HMN.out) (fun v hv=>by rw[List.eq_of_mem_replicate hv];rfl) g wo ((Below.refl _ _).drew) nl ?_
     ·obtain⟨hj,rfl⟩:=List.getElem?_eq_some_iff.1 hv;rw[List.length_replicate]at hj;have e1:=filledR_at x (R:=R) (show j<k by have:=HMK1.out;omega);exact x0wu
     intro w' hg' hb';rw[filledR_more x HMN.out]at hg';exact⟨_,rfl,by rw[rbJ,if_pos (by simp)];exact⟨by simp[goInt],hg',hb'⟩⟩
    ·have e1:=fN 0 67 h hw;have e74:=fr_cv (i:=7) (t:=74) h (hw 7 (by decide)) rfl rfl;have hd:maskB [false,false,false,false,false,false,false,true,false,false] done 7=true:=by unfold maskB;rw[hw 7 (by decide)];rfl
     rw[rbJ,if_pos hd]at hJ;rw[hJ.1]at e74;have hi:=HI.out;go_simp
    ·have e1:=fN 8 75 h hw;exact mx_assign (ch_ev e1)
   intro d cv w1 hall hJ;rw[rbJ,if_pos (hall 7 rfl (by decide))]at hJ;exact x6a4
  obtain rfl:k=n:=by omega
  have dk:decide ((k:Int)<(k:Int))=false:=by simp
  go_wp2_with fail;go_ret;exact⟨some ⟨g,0,none⟩,k,by simp,by simp,bts_filledR HF.out,hgg▸HB.out⟩
theorem x0cq(h:Y:=by
 have HZ:=qH hz;clear hz;go_wp2_with fail;go_quiet (fail)
 go_wp2_with fail;go_ret2;exact⟨none,0,by rw[<-HZ.out];rfl,by rw[<-HZ.out];exact Own.nil_ _ _ _ _,HBE.out▸Below.drewN' HB.out _⟩):Y:=h
theorem refUnpack_calls(Ab:OA)(cb:Nat)(b:LU)(most:Int)(w:World)(hc:b.length<=cb)(hl:b.length<=4194304)(hm:I64 most)(hB:Bts w Ab b):
  Calls Tryz.prog 125 #[.slice Ab b.length cb,iv most] w (UnRet w (unpacked b most)):=by
 obtain⟨hm1,hm2⟩:=hm;have HB3:=qH hB;have HBB:Hid (Below w.heap.size w w):=qH (Below.refl _ _);have HO1:Hid (Own w w.heap.size 5 1 none 0 0 (([]:List UInt8).map bv)):=qH (Own.nil_ _ _ _ _);clear hB;go_enter Tryz.func125,Tryz.ntmps125;go_wp2_with fail;generalize hbase:w.heap.size=base at *
 have HBE:=qH hbase;clear hbase;go_loopw [6,7] (fun o i wr=>∃(k:Nat) (out:LU) (B:OA) (d:Nat),o=.slice B out.length d∧i=iv (k:Int)∧k<=b.length∧Hid (unpackAt most (b.drop k) out=unpacked b most)∧out.length<=127*k∧Hid (Own wr base 5 1 B out.length d (out.map bv))∧Hid (Below base w wr)) (fun _ i _=>b.length-(intOf i).toNat)
 case atStart=>exact⟨0,[],none,0,rfl,rfl,Nat.zero_le _,qH rfl,by simp,HO1,HBB⟩
 case round=>
  clear HO1 HBB;rename World=>wo;obtain⟨k,out,B,d,rfl,rfl,hk,HE,hob,HO,HB⟩:=hrel;by_cases hlt:k<b.length
  ·have dl:decide ((k:Int)<(b.length:Int))=true:=decide_eq_true (by omega);obtain⟨ab,ao,rfl,hab,hx⟩:=(HB3.out.stays (HBE.out▸HB.out)) k hlt;obtain⟨x,hxe⟩:=eX (b[k]);obtain⟨r,hre⟩:=eX (b.drop (k+1));have hdr:b.drop k=x::r:=by rw[List.drop_eq_getElem_cons hlt,hxe,hre]
   rw[hdr]at HE;rw[hxe]at hx;have hrl:r.length=b.length-(k+1):=by rw[<-hre,List.length_drop]
   have HRE:=qH hre;have hxl:=x.toNat_lt;obtain⟨n,hn⟩:∃n,n=x.toNat%128:=⟨_,rfl⟩;have hxn:(x.toNat:Int)%128=(n:Int):=by omega
   have hxt:(x.toNat:Int).tmod 128=(n:Int):=by rw[Int.tmod_eq_emod_of_nonneg (by omega)];exact hxn
   have hn1:n<128:=by omega
   have HN:=qH hn;clear hn hre hdr hxe;have hwk:IntKind.i64.wrap ((k:Int)+1)=(k:Int)+1:=IntWalk.i64_in _ (by omega);have hw1:IntKind.i64.wrap ((b.length:Int)-((k:Int)+1))=(b.length:Int)-((k:Int)+1):=IntWalk.i64_in _ (by omega);have hw1:IntKind.i64.wrap ((out.length:Int)+(n:Int))=(out.length:Int)+(n:Int):=IntWalk.i64_in _ (by omega);have hw1:IntKind.i64.wrap ((k:Int)+1+(n:Int))=(k:Int)+1+(n:Int):=IntWalk.i64_in _ (by omega);by_cases n1:n=0
   ·subst n1;have hz:(([]:List UInt8),(3:Int))=unpacked b most:=by rw[<-HE.out,unpackAt_zero HN.out.symm]
    clear HE;exact x0cq
   have dn:((n:Int)==0)=false:=by simp;omega
   have hn1:x.toNat%128≠0:=by rw[<-HN.out];exact n1
   by_cases h3:128<=x.toNat
   ·have hu:=unpackAt_run (most:=most) (r:=r) (out:=out) hn1 h3;rw[HE.out,<-HN.out]at hu;have d2:decide ((128:Int)<=(x.toNat:Int))=true:=decide_eq_true (by omega);clear HE;by_cases h1:r.length<1
    ·have hz:(([]:List UInt8),(7:Int))=unpacked b most:=by rw[hu,if_pos h1]
     have d1:decide ((b.length:Int)-((k:Int)+1)<1)=true:=decide_eq_true (by omega);clear hu;exact x0cq
    have d1:decide ((b.length:Int)-((k:Int)+1)<1)=false:=decide_eq_false (by omega);rw[if_neg h1]at hu;by_cases hgt:most-(out.length:Int)<(n:Int)
    ·have dg:decide (most<(out.length:Int)+(n:Int))=true:=decide_eq_true (by omega);have hz:(([]:List UInt8),(1:Int))=unpacked b most:=by rw[hu,if_pos hgt]
     clear hu;exact x0cq
    have dg:decide (most<(out.length:Int)+(n:Int))=false:=decide_eq_false (by omega);rw[if_neg hgt]at hu;have hk1:k+1<b.length:=by omega
    obtain⟨y,hy⟩:=eX (b[k+1]);have hr1:r=y::b.drop (k+2):=by rw[<-HRE.out,List.drop_eq_getElem_cons hk1,hy]
    rw[hr1,List.drop_succ_cons,List.drop_zero,List.headD_cons]at hu;have HU:=qH hu;have HY:Hid (∀nd,Bts (wo.drewN nd) (some ⟨ab,ao+(k+1),none⟩) [y]):=qH (fun nd i hi=>by
     have e1:i=0:=by simp at hi;omega
     subst e1;obtain⟨b',o',e1,h1,h2⟩:=(HB3.out.stays (HBE.out▸HB.out)) (k+1) hk1;injection e1 with e1;injection e1 with e4 e5;subst e4 e5;rw[hy]at h2;exact⟨ab,ao+(k+1),rfl,h1,by simpa using h2⟩)
    have hcc:¬cb=k+1:=by omega
    have j1:(k:Int)+1+1<=(cb:Int):=by omega
    have hob1:out.length+n<=137438953472:=by omega
    have HOX:Hid (∀nd,Own (wo.drewN nd) base 5 1 B out.length d (out.map bv)∧Below base w (wo.drewN nd)):=qH (fun nd=>⟨HO.out.drewN nd,Below.drewN' HB.out nd⟩);clear hu hgt hr1;go_wp2_with fail;go_quiet (fail)
    go_wp2_with fail;obtain⟨hox,hbx⟩:=HOX.out nq;refine(repeatB_calls (some ⟨ab,ao+(k+1),none⟩) (cb-(k+1)) y n (wo.drewN nq) (by omega) (by omega) (HY.out nq)).mono ?_;rintro e w1 ⟨A1,c1,rfl,hc1,hs1,hb1⟩;rw[List.length_replicate]at hc1;have hs1:=hs1.src;have hle:base<=w1.heap.size:=Nat.le_trans (Nat.le_trans (Nat.le_of_eq HBE.out.symm) hbx.size) hb1.size;have ho1:=hox.below hb1;have hls:((List.replicate n y).map bv).length=n*1:=by simp
    have HB1:Hid (Below base w w1):=qH (hbx.trans (hb1.mono (Nat.le_trans (Nat.le_of_eq HBE.out.symm) hbx.size)));simp only[List.length_replicate];go_wp2_with (at_builtin;go_must (refine wpList_app w1 rfl _ _ 23 rfl elBytes base B out.length d (out.map bv) rfl ho1 A1 n c1 ((List.replicate n y).map bv) rfl hs1 hls (bv_one _) hob1 hle ?_;intro A' c' w2 hown hgr hbel hor));have HO1:=qH hown;have HB1:Hid (Below base w w2):=qH (HB1.out.trans hbel);have HE1:Hid (out.length+n=(out++List.replicate n y).length):=qH (by simp);clear hown hgr hbel hor hs1 ho1 hb1 hls hle hob1 hox hbx;go_roundw
    case rel=>exact⟨k+2,out++List.replicate n y,A',c',by rw[HE1.out],by go_num,by omega,qH HU.out.symm,by simp;omega,qH (by simpa using HO1.out),HB1⟩
    case measure=>simp[intOf];omega
   have hu:=unpackAt_plain (most:=most) (r:=r) (out:=out) hn1 h3;rw[HE.out,<-HN.out]at hu;have d2:decide ((128:Int)<=(x.toNat:Int))=false:=decide_eq_false (by omega);clear HE;by_cases h1:r.length<n
   ·have hz:(([]:List UInt8),(7:Int))=unpacked b most:=by rw[hu,if_pos h1]
    have d1:decide ((b.length:Int)-((k:Int)+1)<(n:Int))=true:=decide_eq_true (by omega);clear hu;exact x0cq
   have d1:decide ((b.length:Int)-((k:Int)+1)<(n:Int))=false:=decide_eq_false (by omega);rw[if_neg h1]at hu;by_cases hgt:most-(out.length:Int)<(n:Int)
   ·have dg:decide (most<(out.length:Int)+(n:Int))=true:=decide_eq_true (by omega);have hz:(([]:List UInt8),(1:Int))=unpacked b most:=by rw[hu,if_pos hgt]
    clear hu;exact x0cq
   have dg:decide (most<(out.length:Int)+(n:Int))=false:=decide_eq_false (by omega);rw[if_neg hgt]at hu;have hdd:r.drop n=b.drop (k+1+n):=by rw[<-HRE.out,List.drop_drop]
   rw[hdd]at hu;have HU:=qH hu;have hcc:¬cb=k+1:=by omega
   have j1:(k:Int)+1+(n:Int)<=(cb:Int):=by omega
   have j1:(k:Int)+1<=(k:Int)+1+(n:Int):=by omega
   have hob1:out.length+n<=137438953472:=by omega
   have HS:Hid (∀nd,Src (wo.drewN nd) (some ⟨ab,ao+(k+1),none⟩) ((r.take n).map bv)):=qH (fun nd=>by
    have:=mid_at ((HB3.out.stays (HBE.out▸HB.out)).drewN nd) (k+1);rw[HRE.out]at this;exact(mid_take this n).src)
   have hls:((r.take n).map bv).length=n*1:=by simp;omega
   have HOX:Hid (∀nd,Own (wo.drewN nd) base 5 1 B out.length d (out.map bv)∧Below base w (wo.drewN nd)):=qH (fun nd=>⟨HO.out.drewN nd,Below.drewN' HB.out nd⟩);have hlen:k+1+n-(k+1)=n:=by omega
   clear hu hgt hdd;go_wp2_with fail;go_quiet (fail)
   obtain⟨hox,hbx⟩:=HOX.out nq;have hs1:=HS.out nq;have hle:base<=(wo.drewN nq).heap.size:=Nat.le_trans (Nat.le_of_eq HBE.out.symm) hbx.size;go_wp2_with (at_builtin;go_must (refine wpList_app (wo.drewN nq) rfl _ _ 23 rfl elBytes base B out.length d (out.map bv) rfl hox (some ⟨ab,ao+(k+1),none⟩) (k+1+n-(k+1)) (cb-(k+1)) ((r.take n).map bv) rfl hs1 (by rw[hlen];exact hls) (bv_one _) (by rw[hlen];exact hob1) hle ?_;intro A' c' w2 hown hgr hbel hor));rw[hlen]at hown;have HO1:=qH hown;have HB1:Hid (Below base w w2):=qH (hbx.trans hbel);have HE1:Hid (out.length+n=(out++r.take n).length):=qH (by simp;omega);clear hown hgr hbel hor hs1 hls hle hob1 hox hbx;go_roundw
   case rel=>exact⟨k+1+n,out++r.take n,A',c',by rw[HE1.out],by go_num,by omega,qH HU.out.symm,by simp;omega,qH (by rw[<-HE1.out];simpa using HO1.out),HB1⟩
   case measure=>simp[intOf];omega
  obtain rfl:k=b.length:=by omega
  have dl:decide ((b.length:Int)<(b.length:Int))=false:=by simp
  have hz:(out,(0:Int))=unpacked b most:=by rw[<-HE.out,List.drop_length,unpackAt_nil]
  have HZ:=qH hz;clear hz HE;go_wp2_with fail;go_ret2;exact x433
theorem refPatCheckR_calls(A:OA)(c:Nat)(f t o n sz:Int)(l:List Stp)(w:World)(hl:l.length<=3518437208780)(hs:Sps w A l):
  Calls Tryz.prog 82 #[.agg (patA f t o n sz A l.length c)] w (RetB w (iv (patCheck ⟨f,t,o,n,sz,l⟩))):=refPatCheckA_calls A c f t o n sz l w hl hs
theorem u8wrap(n:Int):IntKind.u8.wrap n=n%256:=by unfold IntKind.wrap;simp[IntKind.signed,IntKind.bits]
theorem bv_by3(n:Int):bv (by_ n)=.int .u8 (IntKind.u8.wrap n):=by rw[u8wrap];exact bv_by2 n
theorem refPatPut_bad(B:OA)(d:Nat)(p:Pat)(w:World)(hp:PatIn w p B d)(h:patCheck p≠0):
  Calls Tryz.prog 83 #[.agg (patA p.from_ p.to_ p.old p.new_ p.size B p.ops.length d)] w (RetB w (.tuple #[.slice none 0 0,iv (patCheck p)])):=by
 obtain⟨f,t,o,n,sz,l⟩:=p;obtain⟨hcap,hlen,hops,-,-,-,-,-⟩:=hp;dsimp only at *
 have hba:=(bW w).alloc nl (.cells (patA f t o n sz B l.length d) 36);have K1:=qH (refPatCheckR_calls B d f t o n sz l _ hlen (hops.stays hba));generalize patCheck ⟨f,t,o,n,sz,l⟩=ck at *
 have q:(ck !=0)=true:=by simp[h]
 clear hops h;go_enter Tryz.func83,Tryz.ntmps83;exact x5t4
theorem refPatPut_ok(B:OA)(d:Nat)(p:Pat)(w:World)(hp:PatIn w p B d)(h:patCheck p=0):
  Calls Tryz.prog 83 #[.agg (patA p.from_ p.to_ p.old p.new_ p.size B p.ops.length d)] w (UnRet w (patBytes p,0)):=by
 have hl1:=patBytes_len h;obtain⟨hr,hd⟩:=patCheck_ok.1 h;have HPB:Hid (patBytes p=patHead p++opsBytes p.ops):=qH rfl;obtain⟨f,t,o,n,sz,l⟩:=p;obtain⟨hcap,hlen,hops,-,-,-,-,-⟩:=hp;unfold Pat.range at hr;dsimp only at *
 obtain⟨r1,r2,r3,r4,r5,r6,r7,r8⟩:=hr;have r1:=hd.s0;have r1:=hd.s1;have r1:=hd.many;have hba:=(bW w).alloc nl (.cells (patA f t o n sz B l.length d) 36);have K1:=qH (refPatCheckR_calls B d f t o n sz l _ hlen (hops.stays hba));rw[h]at K1;have HD:=qH hd;have HS:=qH hops;have HBA:=qH hba;have t1:o.tdiv 256=o / 256:=Int.tdiv_eq_ediv_of_nonneg (by omega);have t2:o.tmod 256=o%256:=Int.tmod_eq_emod_of_nonneg (by omega);have t3:n.tdiv 256=n / 256:=Int.tdiv_eq_ediv_of_nonneg (by omega);have t4:n.tmod 256=n%256:=Int.tmod_eq_emod_of_nonneg (by omega);have u1:IntKind.i64.wrap (o / 256)=o / 256:=IntWalk.i64_in _ (by omega);have u2:IntKind.i64.wrap (n / 256)=n / 256:=IntWalk.i64_in _ (by omega);clear hops hd h hba;go_enter Tryz.func83,Tryz.ntmps83;go_wp2_with fail;refine K1.out.mono ?_;rintro e w1 ⟨rfl,hb1⟩;have a1:=kp (w.heap.size) (patA f t o n sz B l.length d) hb1;have HB1:=bT HBA hb1;clear hb1 K1;go_wp2_with fail;obtain⟨ns,hns⟩:∃ns:List Int,[f,t,o / 256,o%256,n / 256,n%256,sz,(l.length:Int)]=ns:=⟨_,rfl⟩;have HHD:Hid ((patHead ⟨f,t,o,n,sz,l⟩)=ns.map by_):=qH (by
  have e:∀m:Int,by_ (m%256)=by_ m:=fun m=>by unfold by_;rw[Int.emod_emod_of_dvd _ (Int.dvd_refl _)]
  rw[<-hns];unfold patHead;simp only[List.map_cons,List.map_nil,e])
 have hn1:ns.length=8:=by rw[<-hns];rfl
 have HNT:Hid (Nts (w1.alloc (.cells #[iv f,iv t,iv (o / 256),iv (o%256),iv (n / 256),iv (n%256),iv sz,iv (l.length:Int)] 3)) (some ⟨w1.heap.size,0,none⟩) ns):=qH (nts_top rfl (by rw[<-hns];rfl));have HB2:Hid (Below w.heap.size w (w1.alloc (.cells #[iv f,iv t,iv (o / 256),iv (o%256),iv (n / 256),iv (n%256),iv sz,iv (l.length:Int)] 3))):=qH (HB1.out.alloc HB1.out.size _);obtain⟨b0r,b0f,b0n,b0c,b0z,b0l⟩:=keep1 (g:=w.heap.size) (cs:=patA f t o n sz B l.length d) (bL (.cells #[iv f,iv t,iv (o / 256),iv (o%256),iv (n / 256),iv (n%256),iv sz,iv (l.length:Int)] 3)) a1.1 (by simp[patA]) a1.2.1;have HR1:=qH b0r;have HF1:=qH b0f;have hsw:=HB2.out.size;clear hns t1 t2 t3 t4 u1 u2 a1 b0r b0f b0n b0c b0z;generalize w1.alloc (.cells #[iv f,iv t,iv (o / 256),iv (o%256),iv (n / 256),iv (n%256),iv sz,iv (l.length:Int)] 3)=w2 at *
 generalize hg1:w1.heap.size=g1 at *
 clear hg1;generalize hbase:w2.heap.size=base at *
 have HBE:=qH hbase;have HS1:Hid (∀w',Below base w2 w'->Sps w' B l):=qH (fun w' hb=>(HS.out.stays HB2.out).stays (HBE.out.symm▸hb));generalize hg0:w.heap.size=g0 at *
 have HG1:=qH hg0;clear hg0 hbase HB1 HBA;have HFIN:Hid (∀w' A c (x:LU),Own w' base 5 1 A x.length c (x.map bv)->Below base w2 w'->Own w' w.heap.size 5 1 A x.length c (x.map bv)∧Below w.heap.size w w'):=qH (fun w' A c x h1 h2=>⟨h1.mono (by rw[HG1.out];omega),by rw[HG1.out];exact HB2.out.trans (h2.mono (by omega))⟩);have hph1:(patHead ⟨f,t,o,n,sz,l⟩).length=8:=rfl;have HP1:=qH hph1;clear hph1;generalize patHead ⟨f,t,o,n,sz,l⟩=hd at *
 generalize patBytes ⟨f,t,o,n,sz,l⟩=pb at *
 go_loopw [5,38] (fun v i wr=>∃(k:Nat) (C:OA) (cc:Nat) (pre:LU),k<=8∧i=iv k∧v=.slice C pre.length cc∧Hid (pre=hd.take k)∧Hid (Own wr base 5 1 C pre.length cc (pre.map bv))∧Hid (Below base w2 wr)) (fun _ i _=>8-(intOf i).toNat)
 case atStart=>exact⟨0,none,0,[],Nat.zero_le _,rfl,rfl,qH (by simp),qH (Own.nil_ _ _ _ _),qH (Below.refl _ _)⟩
 case round=>
  rename World=>wz;obtain⟨k,C,cc,pre,hk,rfl,rfl,HPRE,HO1,HB1⟩:=hrel;have hbz:base<=wz.heap.size:=Nat.le_trans (Nat.le_of_eq HBE.out.symm) HB1.out.size;have hpl:pre.length=k:=by rw[HPRE.out,List.length_take,HP1.out];omega
  by_cases hlt:k<8
  ·have hbw:Below w2.heap.size w2 wz:=HBE.out▸HB1.out;have hkn:k<ns.length:=by omega
   obtain⟨sb,so,e1,hsb,hc⟩:=(HNT.out.stays hbw) k hkn;injection e1 with e1;injection e1 with e1 e2;subst e1 e2;have hpre1:hd.take (k+1)=pre++[by_ ns[k]]:=by
    rw[List.take_succ_eq_append_getElem (by rw[HP1.out];omega),<-HPRE.out];congr 2;simp[HHD.out]
   obtain⟨x,hx⟩:=eX (ns[k]);rw[hx]at hc hpre1;clear hx;simp only[Nat.zero_add]at hc;have HPRE1:=qH hpre1;have dl:decide ((k:Int)<8)=true:=decide_eq_true (by omega);have HBV:Hid (([by_ x]:List UInt8).map bv=[.int .u8 (IntKind.u8.wrap x)]):=qH (by simp only[List.map_cons,List.map_nil];rw[bv_by3]);clear hpre1 hbw;rw[u8wrap]at HBV;have hoa:=HO1.out.alloc (.cells #[.int .u8 (x%256)] 5);have hs1:Src (wz.alloc (.cells #[.int .u8 (x%256)] 5)) (some ⟨wz.heap.size,0,none⟩) [.int .u8 (x%256)]:=src_blk (blk_top rfl);have hob:pre.length+1<=137438953472:=by omega
   clear hpl;have hle:base<=(wz.alloc (.cells #[.int .u8 (x%256)] 5)).heap.size:=by simp;omega
   go_wp2_with (at_builtin;go_must (refine wpList_app (wz.alloc (.cells #[.int .u8 (x%256)] 5)) rfl _ _ 23 rfl elBytes base C pre.length cc (pre.map bv) rfl hoa (some ⟨wz.heap.size,0,none⟩) 1 1 [.int .u8 (x%256)] rfl hs1 rfl (by simp[Value.oneCell']) hob hle ?_;intro C1 c1 w3 hown hgr hbel hor));have HB1:Hid (Below base w2 w3):=qH ((HB1.out.alloc hbz _).trans hbel);have HL:Hid (pre.length+1=(pre++[by_ x]).length):=qH (by simp);have HO1:Hid (Own w3 base 5 1 C1 (pre++[by_ x]).length c1 ((pre++[by_ x]).map bv)):=qH (by rw[List.map_append,HBV.out,<-HL.out];exact hown);clear hown hgr hbel hor hoa hs1 hob hle;go_roundw
   case rel=>exact⟨k+1,C1,c1,pre++[by_ x],by omega,by go_num,by rw[HL.out],qH HPRE1.out.symm,HO1,HB1⟩
   case measure=>simp[intOf];omega
  obtain rfl:k=8:=by omega
  have dl:decide ((8:Int)<8)=false:=by decide
  have e1:((8:Nat):Int)=8:=rfl;rw[e1];clear e1;have hpre:pre=hd:=by rw[HPRE.out,List.take_of_length_le (by rw[HP1.out];omega)]
  subst hpre;clear hpl;obtain⟨b0r,b0f,b0n,b0c,b0z,b0l'⟩:=keep1 (W:=w2) (w':=wz) (g:=g0) (cs:=patA f t o n sz B l.length d) (HBE.out▸HB1.out) HR1.out (by simp[patA]) HF1.out;go_wp2_with fail;go_loopw [5,51] (fun v i wr=>∃(k:Nat) (C:OA) (cc:Nat) (p2:LU),k<=l.length∧i=iv k∧v=.slice C p2.length cc∧Hid (p2=pre++opsBytes (l.take k))∧Hid (Own wr base 5 1 C p2.length cc (p2.map bv))∧Hid (Below base w2 wr)) (fun _ i _=>l.length-(intOf i).toNat)
  case atStart=>exact⟨0,C,cc,pre,Nat.zero_le _,rfl,rfl,qH (by simp[opsBytes]),HO1,HB1⟩
  case round=>
   clear HO1 HB1 b0r b0f b0n b0c b0z b0l';rename World=>wx;obtain⟨k,C,cc,p2,hk,rfl,rfl,HPRE,HO1,HB1⟩:=hrel;have hbx:base<=wx.heap.size:=Nat.le_trans (Nat.le_of_eq HBE.out.symm) HB1.out.size;have hpl:p2.length+(opsBytes (l.drop k)).length=pb.length:=by
    exact x9ll
   by_cases hlt:k<l.length
   ·have hxo:=HD.out.each l[k] (List.getElem_mem hlt);have hbw:Below w2.heap.size w2 wx:=HBE.out▸HB1.out;obtain⟨sb,so,D,dc,rfl,hsb,q3,q1,q2,p3,p4,p5,-,-⟩:=(HS1.out w2 (Below.refl _ _)).at_ hlt;have p6:=(hbw.cell (p:=⟨sb,so+k*3,none⟩) hsb).trans q3;have p1:=(hbw.cell (p:=⟨sb,so+k*3+1,none⟩) hsb).trans q1;have p2c:=(hbw.cell (p:=⟨sb,so+k*3+2,none⟩) hsb).trans q2;clear q3 q1 q2;have hpre1:pre++opsBytes (l.take (k+1))=p2++stpBytes l[k]:=by rw[List.take_succ_eq_append_getElem hlt,opsBytes_append,opsBytes_one,<-List.append_assoc,<-HPRE.out]
    have hdrop:l.drop k=l[k]::l.drop (k+1):=List.drop_eq_getElem_cons hlt;rw[hdrop,opsBytes_cons,List.length_append]at hpl;obtain⟨x,hx⟩:=eX (l[k]);rw[hx]at hxo hpre1 hpl p6 p1 p2c p3 p4 p5;clear hx hdrop;obtain⟨at_,len,data⟩:=x;obtain⟨hform,hin⟩:=hxo;unfold Stp.in_ at hin;dsimp only at *
    obtain⟨j1,j2,j3⟩:=hin;have HDT1:Hid (∀w',Below base w2 w'->Bts w' D data):=qH (fun w' hb=>p5.stays (HBE.out▸hb));have HPRE1:=qH hpre1;have dl:decide ((k:Int)<(l.length:Int))=true:=decide_eq_true (by omega);have hwk:IntKind.i64.wrap ((k:Int)+1)=(k:Int)+1:=IntWalk.i64_in _ (by omega);clear p5 hpre1 hbw;by_cases hl1:0<len
    ·have hst:stpBytes ⟨at_,len,data⟩=[by_ at_,by_ len]:=by unfold stpBytes;rw[if_pos hl1]
     rw[hst]at HPRE1 hpl;have hj1:at_<=64:=by omega
     have hj1:len<=64:=by omega
     have dz:(len==0)=false:=by simp;omega
     have v1:at_%256=at_:=by omega
     have v1:len%256=len:=by omega
     have HBV:Hid (([by_ at_,by_ len]:List UInt8).map bv=[.int .u8 at_,.int .u8 len]):=qH (by simp only[List.map_cons,List.map_nil];rw[bv_by at_ (by omega),bv_by len (by omega)]);have hoa:=(HO1.out.alloc (.cells #[iv at_,iv len,.slice D data.length dc] 145)).alloc (.cells #[.int .u8 at_,.int .u8 len] 5);have hs1:Src ((wx.alloc (.cells #[iv at_,iv len,.slice D data.length dc] 145)).alloc (.cells #[.int .u8 at_,.int .u8 len] 5)) (some ⟨wx.heap.size+1,0,none⟩) [.int .u8 at_,.int .u8 len]:=src_blk (blk_top (by simp));have hob:p2.length+2<=137438953472:=by omega
     have hle:base<=((wx.alloc (.cells #[iv at_,iv len,.slice D data.length dc] 145)).alloc (.cells #[.int .u8 at_,.int .u8 len] 5)).heap.size:=by simp;omega
     clear hst hform hpl;go_wp2_with (at_builtin;go_must (refine wpList_app ((wx.alloc (.cells #[iv at_,iv len,.slice D data.length dc] 145)).alloc (.cells #[.int .u8 at_,.int .u8 len] 5)) rfl _ _ 23 rfl elBytes base C p2.length cc (p2.map bv) rfl hoa (some ⟨wx.heap.size+1,0,none⟩) 2 2 [.int .u8 at_,.int .u8 len] rfl hs1 rfl (by simp[Value.oneCell']) hob hle ?_;intro C1 c1 w3 hown hgr hbel hor));have HB1:Hid (Below base w2 w3):=qH (((HB1.out.alloc hbx _).alloc (by simp;omega) _).trans hbel);have HL:Hid (p2.length+2=(p2++[by_ at_,by_ len]).length):=qH (by simp);have HO1:Hid (Own w3 base 5 1 C1 (p2++[by_ at_,by_ len]).length c1 ((p2++[by_ at_,by_ len]).map bv)):=qH (by rw[List.map_append,HBV.out,<-HL.out];exact hown);clear hown hgr hbel hor hoa hs1 hob hle;go_roundw
     case rel=>exact⟨k+1,C1,c1,p2++[by_ at_,by_ len],by omega,by go_num,by rw[HL.out],qH HPRE1.out.symm,HO1,HB1⟩
     case measure=>simp[intOf];omega
    obtain rfl:len=0:=by omega
    obtain⟨rfl,hd1,hd2⟩:=hform.1 rfl;have hst:stpBytes ⟨0,0,data⟩=255::by_ data.length::data:=by unfold stpBytes;rw[if_neg (by simp)]
    rw[hst]at HPRE1 hpl;simp only[List.length_cons]at hpl;have hdl:data.length<=64:=hd2;have v1:(data.length:Int)%256=(data.length:Int):=by omega
    have HBV:Hid ((255::by_ data.length::data:LU).map bv=[.int .u8 255,.int .u8 (data.length:Int)]++data.map bv):=qH (by simp only[List.map_cons];rw[bv_by (data.length:Int) (by omega)];rfl);have HG0':Hid ((wx.alloc (.cells #[iv 0,iv 0,.slice D data.length dc] 145)).heap[wx.heap.size]?=some (.cells #[iv 0,iv 0,.slice D data.length dc] 145 (0,0))):=qH (blk_top rfl);have hoa:=(HO1.out.alloc (.cells #[iv 0,iv 0,.slice D data.length dc] 145)).alloc (.cells #[.int .u8 255,.int .u8 (data.length:Int)] 5);have hs1:Src ((wx.alloc (.cells #[iv 0,iv 0,.slice D data.length dc] 145)).alloc (.cells #[.int .u8 255,.int .u8 (data.length:Int)] 5)) (some ⟨wx.heap.size+1,0,none⟩) [.int .u8 255,.int .u8 (data.length:Int)]:=src_blk (blk_top (by simp));have hob:p2.length+2<=137438953472:=by omega
    have hob1:p2.length+2+data.length<=137438953472:=by omega
    have hle:base<=((wx.alloc (.cells #[iv 0,iv 0,.slice D data.length dc] 145)).alloc (.cells #[.int .u8 255,.int .u8 (data.length:Int)] 5)).heap.size:=by simp;omega
    have hgC:C.map (·.block)≠some wx.heap.size:=fun e=>by have:=(HO1.out.block _ e).2;omega
    clear hst hform hpl;go_wp2_with (at_builtin;go_must (refine wpList_app ((wx.alloc (.cells #[iv 0,iv 0,.slice D data.length dc] 145)).alloc (.cells #[.int .u8 255,.int .u8 (data.length:Int)] 5)) rfl _ _ 23 rfl elBytes base C p2.length cc (p2.map bv) rfl hoa (some ⟨wx.heap.size+1,0,none⟩) 2 2 [.int .u8 255,.int .u8 (data.length:Int)] rfl hs1 rfl (by simp[Value.oneCell']) hob hle ?_));intro C1 c1 w1 hown hgr hbel hor;have hg1:w1.heap[wx.heap.size]?=some (.cells #[iv 0,iv 0,.slice D data.length dc] 145 (0,0)):=(hgr.block wx.heap.size (by simp;omega) (fun e=>hgC e.symm)).trans (blk_old HG0'.out);obtain⟨g1c,g2c,g3c,g4c,g5c⟩:=blkFacts hg1 (by simp);have HB1:Hid (Below base w2 w1):=qH (((HB1.out.alloc hbx _).alloc (by simp;omega) _).trans hbel);have hbz1:base<=w1.heap.size:=Nat.le_trans (Nat.le_of_eq HBE.out.symm) HB1.out.size;have HO1:Hid (Own w1 base 5 1 C1 (p2.length+2) c1 (p2.map bv++[.int .u8 255,.int .u8 (data.length:Int)])):=qH hown;have hsd:=(HDT1.out w1 HB1.out).src;clear hown hgr hbel hor hoa hs1 hob hle hg1 hgC;go_wp2_with (at_builtin;go_must (refine wpList_app w1 rfl _ _ 23 rfl elBytes base C1 (p2.length+2) c1 (p2.map bv++[.int .u8 255,.int .u8 (data.length:Int)]) rfl HO1.out D data.length dc (data.map bv) rfl hsd (by simp) (bv_one _) hob1 hbz1 ?_));intro C1 c1 w1 hown hgr hbel hor;have HB1:Hid (Below base w2 w1):=qH (HB1.out.trans hbel);have HL:Hid (p2.length+2+data.length=(p2++(255::by_ data.length::data)).length):=qH (by simp;omega);have HO1:Hid (Own w1 base 5 1 C1 (p2++(255::by_ data.length::data)).length c1 ((p2++(255::by_ data.length::data)).map bv)):=qH (by rw[List.map_append,HBV.out,<-HL.out];simpa using hown);clear hown hgr hbel hor hsd hob1;go_wp2_with fail;go_roundw
    case rel=>exact⟨k+1,C1,c1,p2++(255::by_ data.length::data),by omega,by go_num,by rw[HL.out],qH HPRE1.out.symm,HO1,HB1⟩
    case measure=>simp[intOf];omega
   obtain rfl:k=l.length:=by omega
   have dl:decide ((l.length:Int)<(l.length:Int))=false:=by simp
   have hpre:p2=pb:=by rw[HPB.out,HPRE.out,List.take_length]
   subst hpre;have d1:decide ((400:Int)<(p2.length:Int))=false:=decide_eq_false (by omega);clear hpl;go_wp2_with fail;go_ret2;obtain⟨z1,z2⟩:=HFIN.out _ C cc p2 HO1.out HB1.out;exact⟨C,cc,rfl,z1,z2⟩
