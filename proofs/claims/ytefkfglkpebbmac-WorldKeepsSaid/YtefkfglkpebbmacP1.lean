/- Walks of functions, and plain words. No conditions. -/
import Derived.Test.YtefkfglkpebbmacPE1
import Derived.Test.YtefkfglkpebbmacPA
import Derived.Deep.LoopGhost
import Derived.Laws.StructEq
set_option linter.unusedVariables false
set_option linter.unusedSimpArgs false
set_option maxRecDepth 100000
set_option maxHeartbeats 40000000
namespace Go.Proofs.Ytefkfglkpebbmac
open Go.RowKit
variable {Y:Prop}
variable {k n g:Nat} {w w':World} {A:OA} {ds:List (Option Addr×Nat)}
def patA(f t o n s:Int)(A:OA)(k c:Nat):Array Value:=#[iv f,iv t,iv o,iv n,iv s,.slice A k c]
@[go_sem] theorem patA_size(f t o n s:Int)(A:OA)(k c:Nat):(patA f t o n s A k c).size=6:=by simp[patA]
@[go_sem] theorem patA_one(f t o n s:Int)(A:OA)(k c:Nat):allOne (patA f t o n s A k c)=true:=by simp[patA,allOne,Value.oneCell']
@[go_sem] theorem patA_at0(f t o n s:Int)(A:OA)(k c:Nat)(h:0<(patA f t o n s A k c).size):(patA f t o n s A k c)[0]'h=iv f:=by simp[patA]
@[go_sem] theorem patA_at1(f t o n s:Int)(A:OA)(k c:Nat)(h:1<(patA f t o n s A k c).size):(patA f t o n s A k c)[1]'h=iv t:=by simp[patA]
@[go_sem] theorem patA_at2(f t o n s:Int)(A:OA)(k c:Nat)(h:2<(patA f t o n s A k c).size):(patA f t o n s A k c)[2]'h=iv o:=by simp[patA]
@[go_sem] theorem patA_at3(f t o n s:Int)(A:OA)(k c:Nat)(h:3<(patA f t o n s A k c).size):(patA f t o n s A k c)[3]'h=iv n:=by simp[patA]
@[go_sem] theorem patA_at4(f t o n s:Int)(A:OA)(k c:Nat)(h:4<(patA f t o n s A k c).size):(patA f t o n s A k c)[4]'h=iv s:=by simp[patA]
@[go_sem] theorem patA_at5(f t o n s:Int)(A:OA)(k c:Nat)(h:5<(patA f t o n s A k c).size):(patA f t o n s A k c)[5]'h=.slice A k c:=by simp[patA]
@[go_sem] theorem patA_all(f t o n s:Int)(A:OA)(k c:Nat):(patA f t o n s A k c).extract 0 6=patA f t o n s A k c:=by simp[patA]
@[go_sem] theorem pat_lit(f t o n s:Int)(A:OA)(k c:Nat):Value.agg #[iv f,iv t,iv o,iv n,iv s,.slice A k c]=Value.agg (patA f t o n s A k c):=by simp[patA]
@[go_sem] theorem patA_set5(f t o n s:Int)(A:OA)(k c:Nat)(B:OA)(m d:Nat):(patA f t o n s A k c).setIfInBounds 5 (.slice B m d)=patA f t o n s B m d:=by simp[patA]
@[go_sem] theorem aggSzPat:aggSz Try.prog 35=6:=by kernel_rfl
@[go_sem] theorem patA_set0(f t o n s:Int)(A:OA)(k c:Nat)(x:Int):(patA f t o n s A k c).setIfInBounds 0 (iv x)=patA x t o n s A k c:=by simp[patA]
@[go_sem] theorem patA_set1(f t o n s:Int)(A:OA)(k c:Nat)(x:Int):(patA f t o n s A k c).setIfInBounds 1 (iv x)=patA f x o n s A k c:=by simp[patA]
@[go_sem] theorem patA_set2(f t o n s:Int)(A:OA)(k c:Nat)(x:Int):(patA f t o n s A k c).setIfInBounds 2 (iv x)=patA f t x n s A k c:=by simp[patA]
@[go_sem] theorem patA_set3(f t o n s:Int)(A:OA)(k c:Nat)(x:Int):(patA f t o n s A k c).setIfInBounds 3 (iv x)=patA f t o x s A k c:=by simp[patA]
@[go_sem] theorem patA_set4(f t o n s:Int)(A:OA)(k c:Nat)(x:Int):(patA f t o n s A k c).setIfInBounds 4 (iv x)=patA f t o n x A k c:=by simp[patA]
def PaRet(w:World)(p:Pat)(n:Int):Ending->World->Prop:=fun en w'=>
 ∃A c,en=.returned (.tuple #[.agg (patA p.from_ p.to_ p.old p.new_ p.size A p.ops.length c),iv n])∧Fresh w.heap.size w' (fun v=>PatIn v p A c)∧Below w.heap.size w w'
theorem patIn_zero(w:World):PatIn w Pat.zero none 0:=⟨nl,by simp[Pat.zero],Sps.nil _ _,⟨by decide,by decide⟩,⟨by decide,by decide⟩,⟨by decide,by decide⟩,⟨by decide,by decide⟩,⟨by decide,by decide⟩⟩
theorem patCheck_calls(A:OA)(c:Nat)(f t o n sz:Int)(l:List Stp)(w:World)(hl:l.length<=3518437208780)(hs:Sps w A l):
  Calls Try.prog 29 #[.agg (patA f t o n sz A l.length c)] w (RetB w (iv (patCheck ⟨f,t,o,n,sz,l⟩))):=patCheckA_calls A c f t o n sz l w hl hs
theorem x0b0(h:Y:=by
 have e1:=fO 7 (.slice (some ⟨g,0,none⟩) n n) h;exact mx_move (ch_ev e1)):Y:=h
def filled(x:UInt8)(k n:Nat):List Value:=List.replicate k (bv x)++List.replicate (n-k) (.int .u8 0)
theorem filled_len(x:UInt8)(h:k<=n):(filled x k n).length=n:=by unfold filled;simp;omega
theorem filled_more(x:UInt8){m:Nat}(h:k+m<=n):Go.splice (filled x k n) k (List.replicate m (bv x))=filled x (k+m) n:=by
 unfold filled Go.splice;rw[List.take_append_of_le_length (by simp),List.length_replicate,List.drop_append,List.length_replicate,List.take_of_length_le (by simp),List.drop_eq_nil_of_le (by simp),List.nil_append,<-List.append_assoc,List.replicate_append_replicate,List.drop_replicate];congr 2;omega
theorem filled_all(x:UInt8)(n:Nat):filled x n n=List.replicate n (bv x):=by unfold filled;simp
theorem filled_at(x:UInt8){j:Nat}(h:j<k):(filled x k n)[j]?=some (bv x):=by
 unfold filled;rw[List.getElem?_append_left (by simpa using h),List.getElem?_replicate];simp[h]
theorem wp_copy{P:Program}{o:Oper}{a:Act}{K:Act->World->Prop}{Q:Exit->Act->World->Prop}(hgd:o.guard=none)(d s:Operand)(dT sT:TypeId)
  (ho:o.op=.call {callee:=.builtin .copy,args:=#[d,s],argTypes:=#[dT,sT]}) (elem:TypeId) (hu:P.underlying dT=some (.slice elem)) (hsz:(P.info? elem).map (·.size)=some 1)
  (dp sp:OA) (dLen dCap sLen sCap:Nat) (hd:a.eval d=.slice dp dLen dCap) (hs:a.eval s=.slice sp sLen sCap)
  (g off:Nat) (cur:List Value) (t:TypeId) (hg:w.heap[g]?=some (.cells cur.toArray t (0,0))) (cs:List Value) (hn:cs.length=Nat.min sLen dLen)
  (hpos:0<cs.length->dp=some ⟨g,off,none⟩∧∃ad,sp=some ad∧∀j v,cs[j]?=some v->w.cell? (ad.add j)=some v)
  (hfit:off+cs.length<=cur.length) (h1:∀v∈cs,v.oneCell'=true) (B:Nat) (w0:World) (hb:RowKit.Below B w0 w) (hBg:B<=g)
  (h:∀w',w'.heap[g]?=some (.cells (Go.splice cur off cs).toArray t (0,0))->RowKit.Below B w0 w'->K (a.put o.dst (goInt cs.length)) w'):
  Oper.wp P o a w K Q:=by
 have h1:=step_copy_splice (P:=P) (ops:=#[]) (E:=True) (K:=K) (Q:=Q) hgd d s dT sT ho elem hu hsz dp sp dLen dCap sLen sCap hd hs g off cur t hg cs hn hpos hfit h1 B w0 hb hBg (fun w' hg hb=>h w' hg.out hb);rwa [if_pos (by simp[Region.wanted,hgd])]at h1
def rpJ(wo:World)(g:Nat)(x:UInt8)(k m n:Nat)(done:Nat->Bool)(cv:Nat->Value)(w:World):Prop:=
 if done 7=true then cv 7=iv (m:Int)∧w.heap[g]?=some (.cells (filled x (k+m) n).toArray 5 (0,0))∧Below g wo w else w=wo.drew
theorem own_filled{base:Nat}{x:UInt8}(h:w.heap[g]?=some (.cells (filled x n n).toArray 5 (0,0)))(hb:base<=g)(hn:n<=140737488351232):Own w base 5 1 (some ⟨g,0,none⟩) n n ((List.replicate n x).map bv):=
 ⟨by simp,Or.inr ⟨g,n,_,rfl,hb,h,nl,by unfold maxLen;omega,by rw[filled_all];simp,by rw[filled_all];simp⟩⟩
theorem made_filled(x:UInt8)(n:Nat):madeCells #[Value.int .u8 0] n=(filled x 0 n).toArray:=by
 unfold filled
 apply Array.ext'
 simp[madeCells]
 apply List.ext_getElem?
 intro i;simp only[Nat.mod_one,List.getElem?_map];by_cases h:i<n<;>simp[h]
theorem repeat_calls(A:OA)(c:Nat)(x:UInt8)(n:Nat)(w:World)(hn:1<=n)(hn2:n<=1000)(hA:Bts w A [x]):
  Calls Try.prog 144 #[.slice A 1 c,iv n] w (BtRet w (List.replicate n x)):=by
 obtain⟨a,o,rfl,hlt,hc⟩:=hA 0 (by simp);simp only[Nat.add_zero,List.getElem_cons_zero]at hc;have HC:=qH hc;clear hA hc;have d1:¬(n:Int)<0:=by omega
 have u1:IntKind.u64.wrap (n:Int)=(n:Int):=by rw[IntKind.wrap_u64];omega
 have i1:IntKind.i64.wrap (n:Int)=(n:Int):=IntWalk.i64_in _ (by omega);have hmk:∀w:World,(Instr.makeSlice 22 (iv (n:Int)) (iv (n:Int))).run Try.prog w=.ok (.slice (some ⟨w.heap.size,0,none⟩) n n) (w.alloc (.cells (filled x 0 n).toArray 5)):=fun w=>by
  have:=run_make_row' (P:=Try.prog) 22 5 (.int .u8 0) 1 Try.underlying22 (by kernel_rfl) rfl .i64 .i64 n (by omega) (by omega) w;rw[made_filled x]at this;exact this
 go_enter Try.func144,Try.ntmps144;go_wp2_with fail;refine(mul1_calls n w (by omega)).mono ?_;rintro e w1 ⟨rfl,rfl⟩;have d1:decide ((9223372036854775807:Int)<(n:Int))=false:=by simp;omega
 have hb1:Below w.heap.size w (w.alloc (.cells (filled x 0 n).toArray 5)):=bL _;have hg1:(w.alloc (.cells (filled x 0 n).toArray 5)).heap[w.heap.size]?=some (.cells (filled x 0 n).toArray 5 (0,0)):=blk_top rfl;have hca:=(hb1.cell (p:=⟨a,o,none⟩) hlt).trans HC.out;have hcp:(Builtin.copy_ #[22,22] 3 #[.slice (some ⟨w.heap.size,0,none⟩) n n,.slice (some ⟨a,o,none⟩) 1 c]).run Try.prog (w.alloc (.cells (filled x 0 n).toArray 5))=.ok (iv 1) (w.alloc (.cells (filled x 1 n).toArray 5)):=by
  have:=run_copy_row (P:=Try.prog) (w.alloc (.cells (filled x 0 n).toArray 5)) 22 22 3 5 w.heap.size 0 n n ⟨a,o,none⟩ 1 c (filled x 0 n).toArray 5 [bv x] Try.underlying22 (by kernel_rfl) hg1 (by simp[Nat.min_def];omega)
   (fun j v hv=>by
     obtain⟨hj,rfl⟩:=List.getElem?_eq_some_iff.1 hv;have e1:j=0:=by simp at hj;omega
     subst e1;simpa[Addr.add]using hca) (by rw[List.size_toArray,filled_len x (Nat.zero_le _)];simp;omega) (by simp[Value.oneCell'])
  rw[this,setRow_alloc,if_pos rfl];have e:=filled_more x (k:=0) (m:=1) (n:=n) (by omega);unfold Go.splice at e;simp only[Nat.zero_add]at e⊢;rw[show (List.replicate 1 (bv x))=[bv x] from rfl]at e;rw[List.append_assoc,e];rfl
 have hf1:Hid ((w.alloc (.cells (filled x 1 n).toArray 5)).heap[w.heap.size]?=some (.cells (filled x 1 n).toArray 5 (0,0))):=qH (blk_top rfl);have HB1:Hid (Below w.heap.size w (w.alloc (.cells (filled x 1 n).toArray 5))):=qH (bL _);clear hg1 hb1 hca;go_wp2_with fail;clear hcp hmk;generalize w.alloc (.cells (filled x 1 n).toArray 5)=w2 at *
 generalize hgg:w.heap.size=g at *
 go_loopw [8] (fun y wr=>∃(k:Nat),y=iv (k:Int)∧1<=k∧k<=n∧Hid (wr.heap[g]?=some (.cells (filled x k n).toArray 5 (0,0)))∧Hid (Below g w wr)) (fun y _=>n-(intOf y).toNat)
 case atStart=>exact⟨1,rfl,by omega,hn,hf1,HB1⟩
 case round=>
  rename World=>wo;obtain⟨k,rfl,hk1,hkn,HF,HB⟩:=hrel;by_cases hlt:k<n
  ·obtain⟨m,hm⟩:∃m,m=Nat.min k (n-k):=⟨_,rfl⟩;have hm1:1<=m∧k+m<=n:=by rw[hm];simp only[Nat.min_def];split<;>omega
   have HM:=qH hm;have HMK:Hid ((k:Int)<=(n:Int)):=qH (by omega);have HMK1:Hid (m<=k):=qH (by rw[hm];exact Nat.min_le_left _ _);have HMN:=qH hm1.2;have HK:=qH hkn;have HNK:Hid (¬n=k):=qH (by omega);have HKN:Hid ((k:Int)<=(n:Int)):=qH (by omega);have HI:Hid (IntKind.i64.wrap ((k:Int)+(m:Int))=(k:Int)+(m:Int)):=qH (IntWalk.i64_in _ (by omega));have dk:decide ((k:Int)<(n:Int))=true:=by simp;omega
   clear hm hf1 HB1;go_wp2_with fail;refine wp_region_free (by kernel_rfl) (some 38::some 39::some 40::some 41::some 42::some 43::some 44::some 45::some 46::some 8::[]) (false::false::false::false::false::false::false::true::false::false::[]) (iv ((k:Nat):Int)::.slice (some ⟨g,0,none⟩) n n::iv ((k:Nat):Int)::.slice (some ⟨g,(k:Nat),none⟩) (n-k) (n-k)::.slice (some ⟨g,0,none⟩) n n::iv ((k:Nat):Int)::.slice (some ⟨g,0,none⟩) k n::undef::iv ((k+m:Nat):Int)::iv ((k+m:Nat):Int)::[]) (rpJ wo g x k m n) 48 rfl rfl (by decide+kernel) (by decide+kernel) (by decide+kernel) rfl rfl (by rw[rpJ,if_neg (by simp)]) ?_ ?_
   ·refine⟨?_,?_,?_,?_,?_,?_,?_,?_,?_,?_,trivial⟩;all_goals intro done cv a wq hn hw hcl h hJ
    ·have e1:=fr_un (t:=8) (i:=0) (i0:=9) (v:=iv ((k:Nat):Int)) h hcl hn rfl (by decide) (by decide) rfl;exact mx_move (ch_ev e1)
    ·exact x0b0
    ·have e1:=fr_un (t:=8) (i:=2) (i0:=9) (v:=iv ((k:Nat):Int)) h hcl hn rfl (by decide) (by decide) rfl;exact mx_move (ch_ev e1)
    ·have e1:=fN 1 39 h hw;have e40:=fN 2 40 h hw;have hnk:=HNK.out;have hkn:=HKN.out;go_simp
    ·exact x0b0
    ·have e1:=fr_un (t:=8) (i:=5) (i0:=9) (v:=iv ((k:Nat):Int)) h hcl hn rfl (by decide) (by decide) rfl;exact mx_move (ch_ev e1)
    ·have e1:=fN 4 42 h hw;have e43:=fN 5 43 h hw;have hnk:=HNK.out;have hkn:=HKN.out;have hmn:=HMK.out;go_simp
    ·have e3:=fN 3 41 h hw;have e44:=fN 6 44 h hw;have hd:¬maskB [false,false,false,false,false,false,false,true,false,false] done 7=true:=by unfold maskB;rw[hn];simp
     rw[rpJ,if_neg hd]at hJ;obtain rfl:wq=wo.drew:=hJ;refine wp_copy rfl (.tmp 41) (.tmp 44) 22 22 rfl 5 Try.underlying22 (by kernel_rfl) _ _ _ _ _ _ (ch_ev e3) (ch_ev e44) g k (filled x k n) 5 HF.out (List.replicate m (bv x)) (by rw[List.length_replicate];exact HM.out) (fun _=>⟨rfl,_,rfl,fun j v hv=>?_⟩) (by rw[filled_len x HK.out,List.length_replicate];exact HMN.out) (fun v hv=>by rw[List.eq_of_mem_replicate hv];rfl) g wo ((Below.refl _ _).drew) nl ?_
     ·obtain⟨hj,rfl⟩:=List.getElem?_eq_some_iff.1 hv;rw[List.length_replicate]at hj;have e1:=filled_at x (n:=n) (show j<k by have:=HMK1.out;omega);have e2:(⟨g,0,none⟩:Addr).add j=⟨g,j,none⟩:=by unfold Addr.add;split<;>simp_all
      rw[e2,List.getElem_replicate];refine(cell_of_row _ _ _ _ _ _ HF.out).trans ?_;rw[List.getElem?_toArray,e1]
     intro w' hg' hb';rw[filled_more x HMN.out]at hg';exact⟨_,rfl,by rw[rpJ,if_pos (by simp)];exact⟨by simp[goInt],hg',hb'⟩⟩
    ·have e1:=fN 0 38 h hw;have e45:=fr_cv (i:=7) (t:=45) h (hw 7 (by decide)) rfl rfl;have hd:maskB [false,false,false,false,false,false,false,true,false,false] done 7=true:=by unfold maskB;rw[hw 7 (by decide)];rfl
     rw[rpJ,if_pos hd]at hJ;rw[hJ.1]at e45;have hi:=HI.out;go_simp
    ·have e1:=fN 8 46 h hw;exact mx_assign (ch_ev e1)
   intro d cv w1 hall hJ;rw[rpJ,if_pos (hall 7 rfl (by decide))]at hJ;obtain⟨_,g1,g2⟩:=hJ;have HF1:=qH g1;have HB1:Hid (Below g w w1):=qH (HB.out.trans g2);clear g1 g2;simp only[freeAll,putAll_some,putAll_none,putAll_nil,List.getD_cons_zero,List.getD_cons_succ,Bool.false_eq_true,if_true,if_false,reduceIte,Nat.zero_add,Nat.reduceAdd,List.setIfInBounds_toArray,List.set_cons_zero,List.set_cons_succ];go_wp2_with fail;go_roundw
   case rel=>exact⟨k+m,rfl,by omega,hm1.2,HF1,HB1⟩
   case measure=>simp[intOf];omega
  obtain rfl:k=n:=by omega
  have dk:decide ((k:Int)<(k:Int))=false:=by simp
  go_wp2_with fail;go_ret;have:=HF.out;refine⟨some ⟨g,0,none⟩,k,by simp,?_,hgg▸HB.out⟩;have ho:=own_filled HF.out (base:=g) nl (by omega);rw[hgg];simpa using ho
theorem x7zz(h:Y:=by
 go_wp2_with fail;go_ret2;exact⟨none,0,by rw[<-HZ.out];rfl,by rw[<-HZ.out];exact Own.nil_ _ _ _ _,HBE.out▸HB.out⟩):Y:=h
theorem mid_drop{l:LU}(h:Bts w A l)(c k:Nat)(hc:l.length<=c):Bts w (if c=k then A else Option.map (fun x=>x.add k) A) (l.drop k):=by
 by_cases e:k<l.length
 ·obtain⟨b,o,rfl,hlt,_⟩:=h 0 (by omega);rw[if_neg (by omega)];have e1:Option.map (fun x:Addr=>x.add k) (some ⟨b,o,none⟩)=some ⟨b,o+k,none⟩:=by simp[Addr.add]
  rw[e1];intro i hi;rw[List.length_drop]at hi;obtain⟨b',o',e1,h1,h2⟩:=h (k+i) (by omega);injection e1 with e1;injection e1 with e4 e5;subst e4 e5;exact⟨b,o+k,rfl,h1,by rw[Nat.add_assoc,h2];simp⟩
 rw[List.drop_eq_nil_of_le (by omega)];exact Bts.nil _ _
theorem mid_at{ab ao:Nat}{l:LU}(h:Bts w (some ⟨ab,ao,none⟩) l)(k:Nat):Bts w (some ⟨ab,ao+k,none⟩) (l.drop k):=by
 intro i hi;rw[List.length_drop]at hi;obtain⟨b',o',e1,h1,h2⟩:=h (k+i) (by omega);injection e1 with e1;injection e1 with e4 e5;subst e4 e5;exact⟨ab,ao+k,rfl,h1,by rw[Nat.add_assoc,h2];simp⟩
theorem mid_take{l:LU}(h:Bts w A l)(k:Nat):Bts w A (l.take k):=by
 intro i hi;rw[List.length_take]at hi;obtain⟨b,o,rfl,h1,h2⟩:=h i (by omega);exact⟨b,o,rfl,h1,by simpa using h2⟩
def UnRet(w:World)(r:List UInt8×Int):Ending->World->Prop:=fun en w'=>
 ∃A c,en=.returned (.tuple #[.slice A r.1.length c,iv r.2])∧Own w' w.heap.size 5 1 A r.1.length c (r.1.map bv)∧Below w.heap.size w w'
theorem and127(x:UInt8):bits .and .u8 (x.toNat:Int) 127=((x.toNat%128:Nat):Int):=by
 have key:∀n:Fin 256,bits .and .u8 (n.val:Int) 127=((n.val%128:Nat):Int):=by decide+kernel
 exact key ⟨x.toNat,x.toNat_lt⟩
theorem unpack_calls(Ab:OA)(cb:Nat)(b:LU)(most:Int)(w:World)(hc:b.length<=cb)(hl:b.length<=4194304)(hm:I64 most)(hB:Bts w Ab b):
  Calls Try.prog 104 #[.slice Ab b.length cb,iv most] w (UnRet w (unpacked b most)):=by
 obtain⟨hm1,hm2⟩:=hm;have HB3:=qH hB;have HBB:Hid (Below w.heap.size w w):=qH (Below.refl _ _);have HO1:Hid (Own w w.heap.size 5 1 none 0 0 (([]:List UInt8).map bv)):=qH (Own.nil_ _ _ _ _);clear hB;go_enter Try.func104,Try.ntmps104;go_wp2_with fail;generalize hbase:w.heap.size=base at *
 have HBE:=qH hbase;clear hbase
 go_loopg [0,6] b.length (fun g y o wr=>∃(l out:LU) (A B:OA) (c d:Nat),y=.slice A l.length c∧o=.slice B out.length d∧l.length<=c∧l.length<=g∧Hid (unpackAt most l out=unpacked b most)∧((out.length:Int)<=most∨out=[])∧out.length+127*l.length<=127*b.length∧Hid (Bts w A l)∧Hid (Own wr base 5 1 B out.length d (out.map bv))∧Hid (Below base w wr))
 case atStart=>exact⟨b,[],Ab,none,cb,0,rfl,rfl,hc,nl,qH rfl,.inr rfl,by simp,HB3,HO1,HBB⟩
 case round=>
  clear HB3 HO1 HBB;rename World=>wo;obtain⟨l,out,A,B,c,d,rfl,rfl,hlc,hlg,HE,hom,hob,HBt,HO,HB⟩:=hrel;rcases l with _|⟨x,r⟩
  ·have hz:(out,(0:Int))=unpacked b most:=by rw[<-HE.out,unpackAt_nil]
   have HZ:=qH hz;simp only[List.length_nil,Int.ofNat_eq_natCast,Int.natCast_zero]at *
   clear hz;go_wp2_with fail;go_ret2;exact⟨B,d,by rw[<-HZ.out];rfl,by rw[<-HZ.out];exact HBE.out▸HO.out,HBE.out▸HB.out⟩
  simp only[List.length_cons]at *
  have HBW:Hid (∀w1,Below base w w1->Bts w1 A (x::r)):=qH (fun w1 h=>HBt.out.stays (HBE.out▸h));obtain⟨ab,ao,rfl,hab,hx⟩:=HBW.out wo HB.out 0 (by simp);simp only[Nat.add_zero,List.getElem_cons_zero]at hx;have hxl:=x.toNat_lt;obtain⟨n,hn⟩:∃n,n=x.toNat%128:=⟨_,rfl⟩;have hand:bits .and .u8 (x.toNat:Int) 127=(n:Int):=by rw[and127,hn]
  have hn1:n<128:=by omega
  have HN:=qH hn;clear hn;have dl:decide ((0:Int)<((r.length+1:Nat):Int))=true:=by simp<;>omega
  have hw1:IntKind.i64.wrap (most-(out.length:Int))=most-(out.length:Int):=IntWalk.i64_in _ (by have:(out.length:Int)<=most∨(out.length:Int)=0:=(hom.imp id (fun h=>by rw[h];rfl));omega);have hw1:IntKind.i64.wrap (1+(n:Int))=1+(n:Int):=IntWalk.i64_in _ (by omega);have HOM:=qH hom;clear hom;by_cases n1:n=0
  ·subst n1;have hz:(([]:List UInt8),(3:Int))=unpacked b most:=by rw[<-HE.out,unpackAt_zero HN.out.symm]
   have HZ:=qH hz;clear hz HE;exact x7zz
  have dn:((n:Int)==0)=false:=by simp<;>omega
  have hn1:x.toNat%128≠0:=by rw[<-HN.out];exact n1
  by_cases h3:128<=x.toNat
  ·have hu:=unpackAt_run (most:=most) (r:=r) (out:=out) hn1 h3;rw[HE.out,<-HN.out]at hu;have d8:decide ((128:Int)<=(x.toNat:Int))=true:=by simp<;>omega
   rcases r with _|⟨y,r⟩
   ·have hz:(([]:List UInt8),(7:Int))=unpacked b most:=by rw[hu,if_pos (by simp)]
    simp only[List.length_nil,Nat.zero_add,Int.natCast_one]at *
    clear hu;have HZ:=qH hz;clear hz HE;exact x7zz
   simp only[List.length_cons]at *
   have d2:decide ((((r.length+1+1:Nat)):Int)<2)=false:=by simp<;>omega
   rw[if_neg (by omega)]at hu;by_cases hgt:most-(out.length:Int)<(n:Int)
   ·have dg:decide (most-(out.length:Int)<(n:Int))=true:=by simp<;>omega
    have hz:(([]:List UInt8),(1:Int))=unpacked b most:=by rw[hu,if_pos hgt]
    clear hu;have HZ:=qH hz;clear hz HE;exact x7zz
   have dg:decide (most-(out.length:Int)<(n:Int))=false:=by simp<;>omega
   rw[if_neg hgt,List.drop_succ_cons,List.drop_zero,List.headD_cons]at hu;have HU:=qH hu;have HY:Hid (Bts wo (some ⟨ab,ao+1,none⟩) [y]):=qH (fun i hi=>by
    have e1:i=0:=by simp at hi;omega
    subst e1;obtain⟨b',o',e1,h1,h2⟩:=HBW.out wo HB.out 1 (by simp);injection e1 with e1;injection e1 with e4 e5;subst e4 e5;exact⟨ab,ao+1,rfl,h1,by simpa using h2⟩)
   have HG:Hid (¬most-(out.length:Int)<(n:Int)):=qH hgt;have hcc:¬c=1:=by omega
   have j1:(2:Int)<=(c:Int):=by omega
   have hob1:out.length+n<=137438953472:=by omega
   clear hu hgt;go_wp2_with fail;refine(repeat_calls (some ⟨ab,ao+1,none⟩) (c-1) y n wo (by omega) (by omega) HY.out).mono ?_;rintro e w1 ⟨A1,c1,rfl,ho1,hb1⟩;rw[List.length_replicate]at ho1;have hle:base<=w1.heap.size:=Nat.le_trans (Nat.le_trans (Nat.le_of_eq HBE.out.symm) HB.out.size) hb1.size;have hs1:=ho1.src;have ho2:=HO.out.below hb1;have hls:((List.replicate n y).map bv).length=n*1:=by simp
   have HB1:Hid (Below base w w1):=qH (HB.out.trans (hb1.mono (Nat.le_trans (Nat.le_of_eq HBE.out.symm) HB.out.size)));simp only[List.length_replicate];go_wp2_with (at_builtin;go_must (refine wpList_app w1 rfl _ _ 22 rfl elBytes base B out.length d (out.map bv) rfl ho2 A1 n c1 ((List.replicate n y).map bv) rfl hs1 hls (bv_one _) hob1 hle ?_;intro A' c' w2 hown hgr hbel hor));all_goals (
    have HO1:=qH hown;have HB1:Hid (Below base w w2):=qH (HB1.out.trans hbel);have HM1:Hid (((out++List.replicate n y).length:Int)<=most∨out++List.replicate n y=[]):=qH (.inl (by have:=HG.out;simp;omega));clear hown hgr hbel hor hs1 ho2 ho1 hb1 hls hle hob1
    go_roundg r.length
    case rel=>first
     |exact⟨r,out++List.replicate n y,some ⟨ab,ao+2,none⟩,A',c-2,c',rfl,by simp,by omega,by omega,qH HU.out.symm,HM1.out,by simp;omega,qH (mid_at HBt.out 2),qH (by simpa using HO1.out),HB1⟩
     |exact⟨r,out++List.replicate n y,some ⟨ab,ao,none⟩,A',0,c',rfl,by simp,by omega,by omega,qH HU.out.symm,HM1.out,by simp;omega,qH (by rw[List.eq_nil_of_length_eq_zero (by omega:r.length=0)];exact Bts.nil _ _),qH (by simpa using HO1.out),HB1⟩
    case measure=>omega)
  have hu:=unpackAt_plain (most:=most) (r:=r) (out:=out) hn1 h3;rw[HE.out,<-HN.out]at hu;have d8:decide ((128:Int)<=(x.toNat:Int))=false:=by simp<;>omega
  by_cases h1:r.length<n
  ·have hz:(([]:List UInt8),(7:Int))=unpacked b most:=by rw[hu,if_pos h1]
   have d2:decide (((r.length+1:Nat):Int)<1+(n:Int))=true:=by simp<;>omega
   clear hu;have HZ:=qH hz;clear hz HE;exact x7zz
  have d2:decide (((r.length+1:Nat):Int)<1+(n:Int))=false:=by simp<;>omega
  rw[if_neg h1]at hu;by_cases hgt:most-(out.length:Int)<(n:Int)
  ·have dg:decide (most-(out.length:Int)<(n:Int))=true:=by simp<;>omega
   have hz:(([]:List UInt8),(1:Int))=unpacked b most:=by rw[hu,if_pos hgt]
   have HZ:=qH hz;clear hu hz HE;exact x7zz
  have dg:decide (most-(out.length:Int)<(n:Int))=false:=by simp<;>omega
  rw[if_neg hgt]at hu;have HU:=qH hu;have HG:Hid (¬most-(out.length:Int)<(n:Int)):=qH hgt;have hcc:¬c=1:=by omega
  have j1:(1:Int)+(n:Int)<=(c:Int):=by omega
  have j1:(1:Int)<=1+(n:Int):=by omega
  have hob1:out.length+(1+n-1)<=137438953472:=by omega
  have hs1:Src wo (some ⟨ab,ao+1,none⟩) ((r.take n).map bv):=(mid_take (mid_at (HBW.out wo HB.out) 1) n).src;have hls:((r.take n).map bv).length=(1+n-1)*1:=by simp;omega
  have hle:base<=wo.heap.size:=Nat.le_trans (Nat.le_of_eq HBE.out.symm) HB.out.size;have ho1:=HO.out;clear hu hgt;go_wp2_with (at_builtin;go_must (refine wpList_app wo rfl _ _ 22 rfl elBytes base B out.length d (out.map bv) rfl ho1 (some ⟨ab,ao+1,none⟩) (1+n-1) (c-1) ((r.take n).map bv) rfl hs1 hls (bv_one _) hob1 hle ?_;intro A' c' w2 hown hgr hbel hor));all_goals (
   have e1n:out.length+n=(out++r.take n).length:=by simp;omega
   rw[show out.length+(1+n-1)=(out++r.take n).length by simp;omega]at hown;have HO1:=qH hown;have HB1:Hid (Below base w w2):=qH (HB.out.trans hbel);have HM1:Hid (((out++r.take n).length:Int)<=most∨out++r.take n=[]):=qH (.inl (by have:=HG.out;simp;omega));have HE1:Hid (r.length+1-(1+n)=(r.drop n).length):=qH (by simp;omega);have HE2:Hid (out.length+n=(out++r.take n).length):=qH e1n;clear hown hgr hbel hor hs1 ho1 hls hle hob1 e1n
   go_roundg r.length
   case rel=>first
    |(have h9:¬c=1+n:=by assumption
      exact⟨r.drop n,out++r.take n,some ⟨ab,ao+(1+n),none⟩,A',c-(1+n),c',by rw[HE1.out],by rw[HE2.out],by simp;omega,by simp,qH HU.out.symm,HM1.out,by simp;omega,qH (by have:=mid_at HBt.out (1+n);rwa [show (x::r).drop (1+n)=r.drop n by rw[Nat.add_comm,List.drop_succ_cons]]at this),qH (by simpa using HO1.out),HB1⟩)
    |exact⟨r.drop n,out++r.take n,some ⟨ab,ao,none⟩,A',0,c',by rw[HE1.out],by rw[HE2.out],by simp;omega,by simp,qH HU.out.symm,HM1.out,by simp;omega,qH (by rw[List.eq_nil_of_length_eq_zero (show (r.drop n).length=0 by simp;omega)];exact Bts.nil _ _),qH (by simpa using HO1.out),HB1⟩
   case measure=>omega)
section
open Go.RowKit
end
theorem x1s0(h:Y:=by
 have e:=hv k h1 h2;rcases Nat.lt_or_ge k v.heap.size with h|h
 ·exact h
 rw[Array.getElem?_eq_none h,Array.getElem?_eq_getElem h2]at e;cases e):Y:=h
structure Kd(α:Type) where
 ty:TypeId
 size:Nat
 slot:Nat
 cell:α->Option Addr×Nat->List Value
 dat:α->List UInt8
 len:∀x e,(cell x e).length=size
 lt:slot<size
 set:∀x e e',(cell x e).set slot (.slice e'.1 (dat x).length e'.2)=cell x e'
 get:∀x e,(cell x e)[slot]?=some (.slice e.1 (dat x).length e.2)
 one:∀x e,∀u∈cell x e,u.oneCell'=true
section
variable {α:Type} (K:Kd α)
def Kd.cells:List α->List (Option Addr×Nat)->List Value
 |o::l,d::ds=>K.cell o d++Kd.cells l ds
 |_,_=>[]
variable {K}
theorem cells_len:∀(l:List α) (ds:List (Option Addr×Nat)),ds.length=l.length->(K.cells l ds).length=l.length*K.size
 |[],[],_=>by simp[Kd.cells]
 |[],_::_,h=>by simp at h
 |_::_,[],h=>by simp at h
 |o::l,d::ds,h=>by
  have:=cells_len l ds (by simpa using h);rw[Kd.cells,List.length_append,K.len,this,List.length_cons,Nat.succ_mul];omega
theorem cells_append:∀(l m:List α) (ds es:List (Option Addr×Nat)),ds.length=l.length->K.cells (l++m) (ds++es)=K.cells l ds++K.cells m es
 |[],m,[],es,_=>by simp[Kd.cells]
 |[],_,_::_,_,h=>by simp at h
 |_::_,_,[],_,h=>by simp at h
 |x::l,m,y::ds,es,h=>by
  have:=cells_append l m ds es (by simpa using h);simp[Kd.cells,this]
theorem cells_one(x:α)(e:Option Addr×Nat):K.cells [x] [e]=K.cell x e:=by simp[Kd.cells]
theorem cells_oneCell:∀(l:List α) (ds:List (Option Addr×Nat)),∀u∈K.cells l ds,u.oneCell'=true
 |[],_,u,h=>by simp[Kd.cells]at h
 |_::_,[],u,h=>by simp[Kd.cells]at h
 |o::l,d::ds,u,h=>by
  rw[Kd.cells]at h;rcases List.mem_append.1 h with h|h
  ·exact K.one o d u h
  exact cells_oneCell l ds u h
theorem cells_at:∀(l:List α) (ds:List (Option Addr×Nat)),ds.length=l.length->∀(i j:Nat) (o:α) (d:Option Addr×Nat),l[i]?=some o->ds[i]?=some d->j<K.size->(K.cells l ds)[i*K.size+j]?=(K.cell o d)[j]?
 |[],[],_,i,j,o,d,h,_,_=>by simp at h
 |[],_::_,h,_,_,_,_,_,_,_=>by simp at h
 |_::_,[],h,_,_,_,_,_,_,_=>by simp at h
 |x::l,y::ds,h,i,j,o,d,hi,hd,hj=>by
  match i with
  |0=>
   have e1:x=o:=by simpa using hi
   have e2:y=d:=by simpa using hd
   subst e1 e2;rw[Kd.cells,Nat.zero_mul,Nat.zero_add,List.getElem?_append_left (by rw[K.len];exact hj)]
  |i+1=>
   have:=cells_at l ds (by simpa using h) i j o d (by simpa using hi) (by simpa using hd) hj;rw[Kd.cells,List.getElem?_append_right (by rw[K.len,Nat.succ_mul];omega),<-this,K.len];congr 1;rw[Nat.succ_mul];omega
theorem cells_take(l:List α)(ds:List (Option Addr×Nat))(h:ds.length=l.length)(i:Nat)(hi:i<=l.length):K.cells (l.take i) (ds.take i)=(K.cells l ds).take (i*K.size)∧K.cells (l.drop i) (ds.drop i)=(K.cells l ds).drop (i*K.size):=by
 have e:=cells_append (K:=K) (l.take i) (l.drop i) (ds.take i) (ds.drop i) (by simp;omega);rw[List.take_append_drop,List.take_append_drop]at e;have hl:=cells_len (K:=K) (l.take i) (ds.take i) (by simp;omega);rw[List.length_take,Nat.min_eq_left hi]at hl;refine⟨?_,?_⟩
 ·rw[e,List.take_left' hl]
 rw[e,List.drop_left' hl]
theorem cells_set:∀(l:List α) (ds:List (Option Addr×Nat)),ds.length=l.length->∀(i:Nat) (o:α) (e:Option Addr×Nat),l[i]?=some o->(K.cells l ds).set (i*K.size+K.slot) (.slice e.1 (K.dat o).length e.2)=K.cells l (ds.set i e)
 |[],_,_,i,o,e,h=>by simp at h
 |_::_,[],h,_,_,_,_=>by simp at h
 |x::l,y::ds,h,i,o,e,hi=>by
  have hlt:=K.lt
  match i with
  |0=>
   have e1:x=o:=by simpa using hi
   subst e1;rw[Kd.cells,Nat.zero_mul,Nat.zero_add,List.set_append_left _ _ (by rw[K.len];exact hlt),K.set,List.set_cons_zero,Kd.cells]
  |i+1=>
   have:=cells_set l ds (by simpa using h) i o e (by simpa using hi);rw[Kd.cells,List.set_append_right _ _ (by rw[K.len,Nat.succ_mul];omega),K.len,List.set_cons_succ,Kd.cells,<-this];congr 2;rw[Nat.succ_mul];omega
end
structure GSrc{α:Type}(K:Kd α)(w:World)(A:OA)(l:List α)(ds:List (Option Addr×Nat)):Prop where
 len:ds.length=l.length
 row:Src w A (K.cells l ds)
 data:∀(i:Nat) (o:α) (d:Option Addr×Nat),l[i]?=some o->ds[i]?=some d->Bts w d.1 (K.dat o)∧(K.dat o).length<=d.2
def Each{α:Type}(K:Kd α)(l:List α)(ds:List (Option Addr×Nat))(P:Nat->Prop):Prop:=
 ∀(i:Nat) (o:α) (d:Option Addr×Nat),l[i]?=some o->ds[i]?=some d->K.dat o≠[]->∀k,d.1.map (·.block)=some k->P k
structure GRow{α:Type}(K:Kd α)(w:World)(base:Nat)(l:List α)(ds:List (Option Addr×Nat))(A:OA)(c:Nat):Prop where
 len:ds.length=l.length
 row:Own w base K.ty K.size A l.length c (K.cells l ds)
 data:∀(i:Nat) (o:α) (d:Option Addr×Nat),l[i]?=some o->ds[i]?=some d->Bts w d.1 (K.dat o)∧(K.dat o).length<=d.2
 off:Each K l ds (fun k=>A.map (·.block)≠some k)
theorem bts_keep{B:OA}{x:LU}(h:Bts w B x)(hs:w.heap.size<=w'.heap.size)(hk:x≠[]->∀k,k<w.heap.size->B.map (·.block)=some k->w'.heap[k]?=w.heap[k]?):Bts w' B x:=by
 intro j hj;obtain⟨b,o1,e1,hlt,hc⟩:=h j hj;have e:=hk (fun e=>by rw[e]at hj;simp at hj) b hlt (by rw[e1];rfl);exact x8f0
theorem bts_block{B:OA}{x:LU}(h:Bts w B x)(hx:x≠[]):∀k,B.map (·.block)=some k->k<w.heap.size:=by
 obtain⟨b,o1,e1,hlt,hc⟩:=h 0 (List.length_pos_iff.2 hx);intro k hk;rw[e1]at hk;have e:b=k:=by simpa using hk
 omega
section
variable {α:Type} {K:Kd α} {w w':World} {base:Nat} {l:List α} {ds:List (Option Addr×Nat)} {A:OA} {c:Nat} {P Q:Nat->Prop}
theorem Each.imp(h:Each K l ds P)(hq:∀k,P k->Q k):Each K l ds Q:=fun i o d e1 e2 hx k hk=>hq k (h i o d e1 e2 hx k hk)
theorem Each.nil:Each K ([]:List α) ds P:=fun i o d h=>by simp at h
theorem GSrc.each(h:GSrc K w A l ds):Each K l ds (fun k=>k<w.heap.size):=fun i o d e1 e2 hx=>bts_block (h.data i o d e1 e2).1 hx
theorem GRow.src(h:GRow K w base l ds A c):GSrc K w A l ds:=⟨h.len,h.row.src,h.data⟩
theorem GSrc.stays(h:GSrc K w A l ds)(hb:Below w.heap.size w w'):GSrc K w' A l ds:=
 ⟨h.len,h.row.stays hb,fun i o d h1 h2=>⟨(h.data i o d h1 h2).1.stays hb,(h.data i o d h1 h2).2⟩⟩
theorem GRow.nil(w:World)(base:Nat):GRow K w base ([]:List α) [] none 0:=⟨rfl,by simpa[Kd.cells]using Own.nil_ _ _ _ _,fun i o d h=>by simp at h,Each.nil⟩
theorem GRow.below(h:GRow K w base l ds A c)(hb:Below w.heap.size w w'):GRow K w' base l ds A c:=
 ⟨h.len,h.row.below hb,fun i o d h1 h2=>⟨(h.data i o d h1 h2).1.stays hb,(h.data i o d h1 h2).2⟩,h.off⟩
theorem GRow.mono{base':Nat}(h:GRow K w base l ds A c)(hb:base'<=base):GRow K w base' l ds A c:=⟨h.len,h.row.mono hb,h.data,h.off⟩
theorem GRow.keep(h:GRow K w base l ds A c)(hs:w.heap.size<=w'.heap.size)(hA:∀k,k<w.heap.size->A.map (·.block)=some k->w'.heap[k]?=w.heap[k]?)(hd:Each K l ds (fun k=>k<w.heap.size->w'.heap[k]?=w.heap[k]?)):GRow K w' base l ds A c:=
 ⟨h.len,h.row.same (fun k e=>hA k (h.row.block k e).2 e),fun i o d h1 h2=>⟨bts_keep (h.data i o d h1 h2).1 hs fun hx k h3 e=>hd i o d h1 h2 hx k e h3,(h.data i o d h1 h2).2⟩,h.off⟩
theorem GRow.setOther{j:Nat}(h:GRow K w base l ds A c)(hA:A.map (·.block)≠some g)(hd:Each K l ds (fun k=>k≠g))(v:Value):GRow K (w.setCell ⟨g,j,none⟩ v) base l ds A c:=
 h.keep (by simp) (fun k _ hk=>Below.heap_setCell _ _ _ _ (fun e=>hA (by rw[hk,show k=g from e]))) (hd.imp fun k hk _=>Below.heap_setCell _ _ _ _ hk)
theorem GRow.remake{B:Nat}{l':List α}{ds':List (Option Addr×Nat)}{A':OA}{c':Nat}(h:GRow K w base l ds A c)(hl:ds'.length=l'.length)(h1:Own w' base K.ty K.size A' l'.length c' (K.cells l' ds'))(hb:Below B w w')
  (hk:∀k,k<w.heap.size->A.map (·.block)≠some k->w'.heap[k]?=w.heap[k]?) (h3:A'.map (·.block)=A.map (·.block)∨∀k,A'.map (·.block)=some k->w.heap.size<=k)
  (hd:∀(i:Nat) (o:α) (d:Option Addr×Nat),l'[i]?=some o->ds'[i]?=some d->(∃j:Nat,l[j]?=some o∧ds[j]?=some d)∨(Bts w d.1 (K.dat o)∧(K.dat o).length<=d.2∧(K.dat o≠[]->∀k,d.1.map (·.block)=some k->A.map (·.block)≠some k))):
  GRow K w' base l' ds' A' c':=by
 have key:∀(i:Nat) (o:α) (d:Option Addr×Nat),l'[i]?=some o->ds'[i]?=some d->Bts w d.1 (K.dat o)∧(K.dat o).length<=d.2∧(K.dat o≠[]->∀k,d.1.map (·.block)=some k->A.map (·.block)≠some k):=by
  intro i o d e1 e2;rcases hd i o d e1 e2 with ⟨j,e3,e4⟩|h
  ·exact⟨(h.data j o d e3 e4).1,(h.data j o d e3 e4).2,h.off j o d e3 e4⟩
  exact h
 refine⟨hl,h1,fun i o d e1 e2=>?_,fun i o d e1 e2 hx k hk2=>?_⟩
 ·obtain⟨k1,k2,k3⟩:=key i o d e1 e2;exact⟨bts_keep k1 hb.size fun hx k h4 e=>hk k h4 (k3 hx k e),k2⟩
 obtain⟨k1,k2,k3⟩:=key i o d e1 e2;have k2:=k3 hx k hk2;have k1:=bts_block k1 hx k hk2;rcases h3 with h3|h3
 ·rw[h3];exact k2
 intro e;have:=h3 k e;omega
theorem GRow.push{B:Nat}{A':OA}{c':Nat}{o:α}{d:Option Addr×Nat}(h:GRow K w base l ds A c)
  (h1:Own w' base K.ty K.size A' (l.length+1) c' (K.cells l ds++K.cell o d)) (hb:Below B w w') (hk:∀k,k<w.heap.size->A.map (·.block)≠some k->w'.heap[k]?=w.heap[k]?) (h3:A'.map (·.block)=A.map (·.block)∨∀k,A'.map (·.block)=some k->w.heap.size<=k)
  (hd:Bts w d.1 (K.dat o)) (hd2:(K.dat o).length<=d.2) (hd3:K.dat o≠[]->∀k,d.1.map (·.block)=some k->A.map (·.block)≠some k):
  GRow K w' base (l++[o]) (ds++[d]) A' c':=by
 have hlen:=h.len;refine h.remake (by simp[hlen]) ?_ hb hk h3 fun i o' d' hi hd'=>?_
 ·rw[cells_append _ _ _ _ hlen,cells_one,List.length_append];exact h1
 rcases snoc_at hi with hi|⟨rfl,rfl⟩
 ·have hil:i<l.length:=(List.getElem?_eq_some_iff.1 hi).1;rw[List.getElem?_append_left (by omega)]at hd';exact .inl ⟨i,hi,hd'⟩
 rw[<-hlen]at hd';simp at hd';subst hd';exact .inr ⟨hd,hd2,hd3⟩
theorem Each.push{o:α}{d:Option Addr×Nat}(h:Each K l ds P)(hl:ds.length=l.length)(hd:K.dat o≠[]->∀k,d.1.map (·.block)=some k->P k):Each K (l++[o]) (ds++[d]) P:=by
 intro i o' d' hi hd' hx k hk;rcases snoc_at hi with hi|⟨rfl,rfl⟩
 ·have hil:i<l.length:=(List.getElem?_eq_some_iff.1 hi).1;rw[List.getElem?_append_left (by omega)]at hd';exact h i o' d' hi hd' hx k hk
 rw[<-hl]at hd';simp at hd';subst hd';exact hd hx k hk
theorem GRow.setData{i:Nat}{o:α}{e:Option Addr×Nat}(h:GRow K w base l ds (some ⟨g,0,none⟩) c)(hi:l[i]?=some o)(hd:Bts w e.1 (K.dat o))(hd2:(K.dat o).length<=e.2)(hd3:K.dat o≠[]->∀k,e.1.map (·.block)=some k->g≠k):
  GRow K (w.setCell ⟨g,i*K.size+K.slot,none⟩ (.slice e.1 (K.dat o).length e.2)) base l (ds.set i e) (some ⟨g,0,none⟩) c:=by
 have hr:=h.row.stored (i*K.size+K.slot) (.slice e.1 (K.dat o).length e.2);rw[cells_set l ds h.len i o e hi]at hr;refine⟨by rw[List.length_set];exact h.len,hr,fun j o' d' e1 e2=>?_,fun j o' d' e1 e2 hx k hk=>?_⟩
 ·rw[List.getElem?_set]at e2;by_cases hji:i=j
  ·subst hji;rw[hi]at e1;injection e1 with e1;subst e1;by_cases hl:i<ds.length
   ·rw[if_pos rfl,if_pos hl]at e2;injection e2 with e2;subst e2;exact⟨bts_keep hd (by simp) fun hx k _ hk=>Below.heap_setCell _ _ _ _ (fun e3=>hd3 hx k hk e3.symm),hd2⟩
   rw[if_pos rfl,if_neg hl]at e2;cases e2
  rw[if_neg hji]at e2;obtain⟨k1,k2⟩:=h.data j o' d' e1 e2;exact⟨bts_keep k1 (by simp) fun hx k _ hk=>Below.heap_setCell _ _ _ _ (fun e3=>h.off j o' d' e1 e2 hx k hk (by rw[show k=g from e3];rfl)),k2⟩
 rw[List.getElem?_set]at e2;by_cases hji:i=j
 ·by_cases hl:i<ds.length
  ·rw[if_pos hji,if_pos hl]at e2;injection e2 with e2;subst e2 hji;rw[hi]at e1;injection e1 with e1;subst e1;exact fun e3=>hd3 hx k hk (by injection e3)
  ·rw[if_pos hji,if_neg hl]at e2;cases e2
 rw[if_neg hji]at e2;exact h.off j o' d' e1 e2 hx k hk
theorem GRow.fresh(h:GRow K w base l ds A c)(hn:Each K l ds (fun k=>base<=k)):Fresh base w (fun v=>GRow K v base l ds A c):=by
 intro v hv;have hlt:∀k,base<=k->k<w.heap.size->k<v.heap.size:=fun k h1 h2=>by
  exact x1s0
 refine⟨h.len,own_fresh h.row hv,fun i o d h1 h2=>⟨fun j hj=>?_,(h.data i o d h1 h2).2⟩,h.off⟩;obtain⟨b,o1,e1,hl1,hc⟩:=(h.data i o d h1 h2).1 j hj;have hx:K.dat o≠[]:=fun e=>by rw[e]at hj;simp at hj
 have hbb:=hn i o d h1 h2 hx b (by rw[e1];rfl);exact⟨b,o1,e1,hlt b hbb hl1,(World.cell?_of_block (hv b hbb hl1)).trans hc⟩
end
def kOp:Kd Stp where
 ty:=117
 size:=3
 slot:=2
 cell:=fun o e=>[iv o.at_,iv o.len,.slice e.1 o.data.length e.2]
 dat:=Stp.data
 len:=fun _ _=>rfl
 lt:=by decide
 set:=fun _ _ _=>rfl
 get:=fun _ _=>rfl
 one:=fun x e u hu=>by simp at hu;rcases hu with rfl|rfl|rfl<;>rfl
def kChk:Kd Chk where
 ty:=49
 size:=5
 slot:=4
 cell:=fun x e=>chkC x e.1 e.2
 dat:=Chk.data
 len:=fun _ _=>rfl
 lt:=by decide
 set:=fun _ _ _=>rfl
 get:=fun _ _=>rfl
 one:=fun x e u hu=>by simp at hu;rcases hu with rfl|rfl|rfl|rfl|rfl<;>rfl
def kImg:Kd (List UInt8) where
 ty:=22
 size:=1
 slot:=0
 cell:=fun x e=>[.slice e.1 x.length e.2]
 dat:=fun x=>x
 len:=fun _ _=>rfl
 lt:=by decide
 set:=fun _ _ _=>rfl
 get:=fun _ _=>rfl
 one:=fun x e u hu=>by simp at hu;subst hu;rfl
def rImg:CR (List UInt8):=fun w cs x=>∃B c,cs=[.slice B x.length c]∧x.length<=c∧x.length<=140737488351232∧Bts w B x
theorem stays_img:Stays rImg:=by
 rintro w w' cs x ⟨B,c,rfl,h1,h2,h3⟩ hb;exact⟨B,c,rfl,h1,h2,h3.stays hb⟩
abbrev Ims (w:World) (A:OA) (l:List (List UInt8)):Prop:=Elems 1 rImg w A l
theorem Ims.stays{l:List (List UInt8)}(h:Ims w A l)(hb:Below w.heap.size w w'):Ims w' A l:=Elems.stays stays_img h hb
section
variable {α:Type} {K:Kd α} {w:World} {A:OA} {l:List α} {ds:List (Option Addr×Nat)} {R:CR α}
theorem gsrc_of(hR:∀cs x,R w cs x->∃e:Option Addr×Nat,cs=K.cell x e∧Bts w e.1 (K.dat x)∧(K.dat x).length<=e.2)(h:Elems K.size R w A l):∃ds,GSrc K w A l ds:=by
 have each:∀i:Fin l.length,∃e:Option Addr×Nat,∃b o,A=some ⟨b,o,none⟩∧b<w.heap.size∧(∀j,(hj:j<(K.cell l[i.1] e).length)->w.cell? ⟨b,o+i.1*K.size+j,none⟩=some (K.cell l[i.1] e)[j])∧Bts w e.1 (K.dat l[i.1])∧(K.dat l[i.1]).length<=e.2:=by
  intro i;obtain⟨b,o,h1,h2,cs,h3,h4,h5⟩:=h i.1 i.2;obtain⟨e,rfl,h3,h5⟩:=hR _ _ h5;exact⟨e,b,o,h1,h2,h4,h3,h5⟩
 let f:Fin l.length->Option Addr×Nat:=fun i=>Classical.choose (each i)
 have hf:∀i:Fin l.length,∃b o,A=some ⟨b,o,none⟩∧b<w.heap.size∧(∀j,(hj:j<(K.cell l[i.1] (f i)).length)->w.cell? ⟨b,o+i.1*K.size+j,none⟩=some (K.cell l[i.1] (f i))[j])∧Bts w (f i).1 (K.dat l[i.1])∧(K.dat l[i.1]).length<=(f i).2:=fun i=>Classical.choose_spec (each i);have hl:(List.ofFn f).length=l.length:=by simp
 refine⟨List.ofFn f,hl,fun p hp=>?_,fun i o d h1 h2=>?_⟩
 ·rw[cells_len _ _ hl]at hp;have hs:0<K.size:=by have:=K.lt;omega
  have hi:p / K.size<l.length:=Nat.div_lt_of_lt_mul (by rw[Nat.mul_comm];exact hp);have hj:p%K.size<K.size:=Nat.mod_lt _ hs;have hpe:p / K.size*K.size+p%K.size=p:=by rw[Nat.mul_comm];exact Nat.div_add_mod _ _
  obtain⟨b,o,hA,hb,hc,_⟩:=hf ⟨p / K.size,hi⟩;refine⟨b,o,hA,hb,?_⟩;have e1:=cells_at (K:=K) l (List.ofFn f) hl (p / K.size) (p%K.size) l[p / K.size] (f ⟨p / K.size,hi⟩) (List.getElem?_eq_getElem hi) (by simp[hi]) hj;rw[hpe]at e1;have e2:=hc (p%K.size) (by rw[K.len];exact hj);dsimp only at e2;rw[show o+p / K.size*K.size+p%K.size=o+p by omega]at e2;rw[e2,<-List.getElem?_eq_getElem,<-e1,List.getElem?_eq_getElem (by rw[cells_len _ _ hl];exact hp)]
 have hi:=(List.getElem?_eq_some_iff.1 h1).1;obtain⟨_,_,_,_,_,h3,h4⟩:=hf ⟨i,hi⟩;have e1:l[i]=o:=by rw[List.getElem?_eq_getElem hi]at h1;injection h1
 have e2:f ⟨i,hi⟩=d:=by simpa[hi]using h2
 dsimp only at h3 h4;rw[e1,e2]at h3 h4;exact⟨h3,h4⟩
theorem elems_of(h:GSrc K w A l ds)(hR:∀x∈l,∀e:Option Addr×Nat,Bts w e.1 (K.dat x)->(K.dat x).length<=e.2->R w (K.cell x e) x):Elems K.size R w A l:=by
 intro i hi;have hs:0<K.size:=by have:=K.lt;omega
 have hd:i<ds.length:=by rw[h.len];exact hi
 have hl:l[i]?=some l[i]:=List.getElem?_eq_getElem hi;have hds:ds[i]?=some ds[i]:=List.getElem?_eq_getElem hd;have hcl:=cells_len (K:=K) l ds h.len;have hib:i*K.size+K.size<=l.length*K.size:=by rw[<-Nat.succ_mul];exact Nat.mul_le_mul_right _ hi
 obtain⟨b,o,hA,hlt,_⟩:=h.row (i*K.size) (by omega);obtain⟨hd1,hd2⟩:=h.data i _ _ hl hds;refine⟨b,o,hA,hlt,K.cell l[i] ds[i],K.len _ _,fun j hj=>?_,hR _ (List.getElem_mem hi) _ hd1 hd2⟩;rw[K.len]at hj;obtain⟨b',o',e,_,hc⟩:=h.row (i*K.size+j) (by omega);rw[hA]at e;injection e with e;injection e with e1 e2;subst e1 e2;have:=cells_at (K:=K) l ds h.len i j _ _ hl hds hj;rw[List.getElem?_eq_getElem (by omega),List.getElem?_eq_getElem (by rw[K.len];exact hj)]at this;rw[show o+i*K.size+j=o+(i*K.size+j) by omega,hc];exact this
end
theorem Sps.gsrc{l:List Stp}(h:Sps w A l):∃ds,GSrc kOp w A l ds:=
 gsrc_of (K:=kOp) (R:=rOp) (fun cs x ⟨B,c,h1,h2,_,h4,_⟩=>⟨(B,c),h1,h4,h2⟩) h
theorem GSrc.sps{l:List Stp}(h:GSrc kOp w A l ds)(hb:∀o∈l,I64 o.at_∧I64 o.len∧o.data.length<=140737488351232):Sps w A l:=
 elems_of (K:=kOp) (R:=rOp) h fun x hx e h1 h2=>⟨e.1,e.2,rfl,h2,(hb x hx).2.2,h1,(hb x hx).1,(hb x hx).2.1⟩
def ChkB(x:Chk):Prop:=x.data.length<=140737488351232∧I64 x.from_∧I64 x.to_∧I64 x.n∧I64 x.of_
theorem Chs.gsrc{l:List Chk}(h:Chs w A l):∃ds,GSrc kChk w A l ds:=
 gsrc_of (K:=kChk) (R:=rChk) (fun cs x ⟨B,c,h1,h2⟩=>⟨(B,c),h1,h2.data,h2.cap⟩) h
theorem GSrc.chs{l:List Chk}(h:GSrc kChk w A l ds)(hb:∀x∈l,ChkB x):Chs w A l:=
 elems_of (K:=kChk) (R:=rChk) h fun x hx e h1 h2=>⟨e.1,e.2,rfl,h2,(hb x hx).1,h1,(hb x hx).2.1,(hb x hx).2.2.1,(hb x hx).2.2.2.1,(hb x hx).2.2.2.2⟩
theorem Chs.bound{l:List Chk}(h:Chs w A l):∀x∈l,ChkB x:=by
 intro x hx;obtain⟨i,hi,rfl⟩:=List.mem_iff_getElem.1 hx;obtain⟨b,o,_,_,cs,_,_,B,c,_,h1⟩:=h i hi;exact⟨h1.len,h1.i0,h1.i1,h1.i2,h1.i3⟩
theorem Sps.bound{l:List Stp}(h:Sps w A l):∀o∈l,I64 o.at_∧I64 o.len∧o.data.length<=140737488351232:=by
 intro x hx;obtain⟨i,hi,rfl⟩:=List.mem_iff_getElem.1 hx;obtain⟨b,o,_,_,cs,_,_,B,c,_,h1,h2,h3,h4,h5⟩:=h i hi;exact⟨h4,h5,h2⟩
theorem Ims.gsrc{l:List (List UInt8)}(h:Ims w A l):∃ds,GSrc kImg w A l ds:=
 gsrc_of (K:=kImg) (R:=rImg) (fun cs x ⟨B,c,h1,h2,h3,h4⟩=>⟨(B,c),h1,h4,h2⟩) h
theorem GSrc.ims{l:List (List UInt8)}(h:GSrc kImg w A l ds)(hb:∀x∈l,x.length<=140737488351232):Ims w A l:=
 elems_of (K:=kImg) (R:=rImg) h fun x hx e h1 h2=>⟨e.1,e.2,rfl,h2,hb x hx,h1⟩
theorem Ims.bound{l:List (List UInt8)}(h:Ims w A l):∀x∈l,x.length<=140737488351232:=by
 intro x hx;obtain⟨i,hi,rfl⟩:=List.mem_iff_getElem.1 hx;obtain⟨b,o,_,_,cs,_,_,B,c,_,h1,h2,h3⟩:=h i hi;exact h2
def chkA(f t n o:Int)(A:OA)(k c:Nat):Array Value:=#[iv f,iv t,iv n,iv o,.slice A k c]
@[go_sem] theorem chkA_size(f t n o:Int)(A:OA)(k c:Nat):(chkA f t n o A k c).size=5:=by simp[chkA]
@[go_sem] theorem chkA_one(f t n o:Int)(A:OA)(k c:Nat):allOne (chkA f t n o A k c)=true:=by simp[chkA,allOne,Value.oneCell']
@[go_sem] theorem chkA_at0(f t n o:Int)(A:OA)(k c:Nat)(h:0<(chkA f t n o A k c).size):(chkA f t n o A k c)[0]'h=iv f:=by simp[chkA]
@[go_sem] theorem chkA_at1(f t n o:Int)(A:OA)(k c:Nat)(h:1<(chkA f t n o A k c).size):(chkA f t n o A k c)[1]'h=iv t:=by simp[chkA]
@[go_sem] theorem chkA_at2(f t n o:Int)(A:OA)(k c:Nat)(h:2<(chkA f t n o A k c).size):(chkA f t n o A k c)[2]'h=iv n:=by simp[chkA]
@[go_sem] theorem chkA_at3(f t n o:Int)(A:OA)(k c:Nat)(h:3<(chkA f t n o A k c).size):(chkA f t n o A k c)[3]'h=iv o:=by simp[chkA]
@[go_sem] theorem chkA_at4(f t n o:Int)(A:OA)(k c:Nat)(h:4<(chkA f t n o A k c).size):(chkA f t n o A k c)[4]'h=.slice A k c:=by simp[chkA]
@[go_sem] theorem chkA_all(f t n o:Int)(A:OA)(k c:Nat):(chkA f t n o A k c).extract 0 5=chkA f t n o A k c:=by simp[chkA]
@[go_sem] theorem chk_lit(f t n o:Int)(A:OA)(k c:Nat):Value.agg #[iv f,iv t,iv n,iv o,.slice A k c]=Value.agg (chkA f t n o A k c):=by simp[chkA]
@[go_sem] theorem chkA_set4(f t n o:Int)(A:OA)(k c:Nat)(B:OA)(m d:Nat):(chkA f t n o A k c).setIfInBounds 4 (.slice B m d)=chkA f t n o B m d:=by simp[chkA]
@[go_sem] theorem aggSzChk:aggSz Try.prog 49=5:=by kernel_rfl
@[go_sem] theorem chkA_set0(f t n o:Int)(A:OA)(k c:Nat)(x:Int):(chkA f t n o A k c).setIfInBounds 0 (iv x)=chkA x t n o A k c:=by simp[chkA]
@[go_sem] theorem chkA_set1(f t n o:Int)(A:OA)(k c:Nat)(x:Int):(chkA f t n o A k c).setIfInBounds 1 (iv x)=chkA f x n o A k c:=by simp[chkA]
@[go_sem] theorem chkA_set2(f t n o:Int)(A:OA)(k c:Nat)(x:Int):(chkA f t n o A k c).setIfInBounds 2 (iv x)=chkA f t x o A k c:=by simp[chkA]
@[go_sem] theorem chkA_set3(f t n o:Int)(A:OA)(k c:Nat)(x:Int):(chkA f t n o A k c).setIfInBounds 3 (iv x)=chkA f t n x A k c:=by simp[chkA]
@[go_sem] theorem chkA_ne(f t n o:Int)(A:OA)(k c:Nat):(chkA f t n o A k c=#[])=False:=by simp[chkA]
theorem cut_bound{p:Pat}{y:Chk}(hy:y∈(chkCut p).1):ChkB y:=by
 by_cases h:(chkCut p).2=0
 ·have hc:=(chkCheck_ok.1 (cut_chunks h y hy));obtain⟨h1,h2⟩:=hc;unfold Chk.range at h1;unfold Chk.full at h2;refine⟨by omega,⟨by omega,by omega⟩,⟨by omega,by omega⟩,⟨by omega,by omega⟩,⟨by omega,by omega⟩⟩
 exfalso;unfold chkCut at hy h;by_cases h1:patCheck p≠0
 ·rw[if_pos h1]at hy;simp at hy
 rw[if_neg h1]at hy h;split at hy
 ·simp at hy
 rename_i h2;rw[if_neg h2]at h;exact h rfl
def infA(x:Inf):Array Value:=#[iv x.ver,iv x.size,iv x.sum]
@[go_sem] theorem infA_size(x:Inf):(infA x).size=3:=by simp[infA]
@[go_sem] theorem infA_one(x:Inf):allOne (infA x)=true:=by simp[infA,allOne,Value.oneCell']
@[go_sem] theorem infA_at0(x:Inf)(h:0<(infA x).size):(infA x)[0]'h=iv x.ver:=by simp[infA]
@[go_sem] theorem infA_at1(x:Inf)(h:1<(infA x).size):(infA x)[1]'h=iv x.size:=by simp[infA]
def recA(r:Rec):Array Value:=#[iv r.gen,iv r.active,.bool r.trying,iv r.tries,iv r.floor,iv r.a.ver,iv r.a.size,iv r.a.sum,iv r.b.ver,iv r.b.size,iv r.b.sum]
@[go_sem] theorem recA_size(r:Rec):(recA r).size=11:=by simp[recA]
@[go_sem] theorem recA_one(r:Rec):allOne (recA r)=true:=by simp[recA,allOne,Value.oneCell']
@[go_sem] theorem recA_at0(r:Rec)(h:0<(recA r).size):(recA r)[0]'h=iv r.gen:=by simp[recA]
@[go_sem] theorem recA_at1(r:Rec)(h:1<(recA r).size):(recA r)[1]'h=iv r.active:=by simp[recA]
@[go_sem] theorem recA_at2(r:Rec)(h:2<(recA r).size):(recA r)[2]'h=.bool r.trying:=by simp[recA]
@[go_sem] theorem recA_at3(r:Rec)(h:3<(recA r).size):(recA r)[3]'h=iv r.tries:=by simp[recA]
@[go_sem] theorem recA_at4(r:Rec)(h:4<(recA r).size):(recA r)[4]'h=iv r.floor:=by simp[recA]
@[go_sem] theorem recA_at5(r:Rec)(h:5<(recA r).size):(recA r)[5]'h=iv r.a.ver:=by simp[recA]
@[go_sem] theorem recA_at8(r:Rec)(h:8<(recA r).size):(recA r)[8]'h=iv r.b.ver:=by simp[recA]
@[go_sem] theorem recA_all(r:Rec):(recA r).extract 0 11=recA r:=by simp[recA]
def copA(c:Cop):Array Value:=#[.bool c.ok,iv c.r.gen,iv c.r.active,.bool c.r.trying,iv c.r.tries,iv c.r.floor,iv c.r.a.ver,iv c.r.a.size,iv c.r.a.sum,iv c.r.b.ver,iv c.r.b.size,iv c.r.b.sum]
@[go_sem] theorem copA_size(c:Cop):(copA c).size=12:=by simp[copA]
@[go_sem] theorem copA_one(c:Cop):allOne (copA c)=true:=by simp[copA,allOne,Value.oneCell']
@[go_sem] theorem copA_at0(c:Cop)(h:0<(copA c).size):(copA c)[0]'h=.bool c.ok:=by simp[copA]
def copsA(c d:Cop):Array Value:=#[.bool c.ok,iv c.r.gen,iv c.r.active,.bool c.r.trying,iv c.r.tries,iv c.r.floor,iv c.r.a.ver,iv c.r.a.size,iv c.r.a.sum,iv c.r.b.ver,iv c.r.b.size,iv c.r.b.sum,.bool d.ok,iv d.r.gen,iv d.r.active,.bool d.r.trying,iv d.r.tries,iv d.r.floor,iv d.r.a.ver,iv d.r.a.size,iv d.r.a.sum,iv d.r.b.ver,iv d.r.b.size,iv d.r.b.sum]
@[go_sem] theorem copsA_size(c d:Cop):(copsA c d).size=24:=by simp[copsA]
@[go_sem] theorem copsA_one(c d:Cop):allOne (copsA c d)=true:=by simp[copsA,allOne,Value.oneCell']
@[go_sem] theorem copsA_get0(c d:Cop):(copsA c d)[0]?=some (.bool c.ok):=by simp[copsA]
@[go_sem] theorem copsA_get12(c d:Cop):(copsA c d)[12]?=some (.bool d.ok):=by simp[copsA]
@[go_sem] theorem copsA_at0(c d:Cop)(h:0<(copsA c d).size):(copsA c d)[0]'h=.bool c.ok:=by simp[copsA]
@[go_sem] theorem copsA_at1(c d:Cop)(h:1<(copsA c d).size):(copsA c d)[1]'h=iv c.r.gen:=by simp[copsA]
@[go_sem] theorem copsA_at12(c d:Cop)(h:12<(copsA c d).size):(copsA c d)[12]'h=.bool d.ok:=by simp[copsA]
@[go_sem] theorem copsA_at13(c d:Cop)(h:13<(copsA c d).size):(copsA c d)[13]'h=iv d.r.gen:=by simp[copsA]
@[go_sem] theorem copsA_all(c d:Cop):(copsA c d).extract 0 24=copsA c d:=by simp[copsA]
@[go_sem] theorem recA_ex5_8(r:Rec):(recA r).extract 5 8=infA r.a:=by simp[recA,infA]
@[go_sem] theorem recA_ex8_11(r:Rec):(recA r).extract 8 11=infA r.b:=by simp[recA,infA]
@[go_sem] theorem copA_ex1_12(c:Cop):(copA c).extract 1 12=recA c.r:=by simp[copA,recA]
@[go_sem] theorem copsA_ex1_12(c d:Cop):(copsA c d).extract 1 12=recA c.r:=by simp[copsA,recA]
@[go_sem] theorem copsA_ex13_24(c d:Cop):(copsA c d).extract 13 24=recA d.r:=by simp[copsA,recA]
@[go_sem] theorem recA_set_gen(r:Rec)(v:Int):(recA r).setIfInBounds 0 (iv v)=recA {r with gen:=v}:=by simp[recA]
@[go_sem] theorem recA_set_active(r:Rec)(v:Int):(recA r).setIfInBounds 1 (iv v)=recA {r with active:=v}:=by simp[recA]
@[go_sem] theorem recA_set_trying(r:Rec)(v:Bool):(recA r).setIfInBounds 2 (.bool v)=recA {r with trying:=v}:=by simp[recA]
@[go_sem] theorem recA_set_tries(r:Rec)(v:Int):(recA r).setIfInBounds 3 (iv v)=recA {r with tries:=v}:=by simp[recA]
@[go_sem] theorem recA_set_floor(r:Rec)(v:Int):(recA r).setIfInBounds 4 (iv v)=recA {r with floor:=v}:=by simp[recA]
@[go_sem] theorem recA_splice_a(r:Rec)(x:Inf):splice (recA r) 5 (infA x)=recA {r with a:=x}:=by simp[splice,recA,infA]
@[go_sem] theorem recA_splice_b(r:Rec)(x:Inf):splice (recA r) 8 (infA x)=recA {r with b:=x}:=by simp[splice,recA,infA]
@[go_sem] theorem copsA_splice_0(c d e:Cop):splice (copsA c d) 0 (copA e)=copsA e d:=by simp[splice,copsA,copA]
@[go_sem] theorem copsA_splice_1(c d e:Cop):splice (copsA c d) 12 (copA e)=copsA c e:=by simp[splice,copsA,copA]
@[go_sem] theorem aggSzInf:aggSz Try.prog 63=3:=by kernel_rfl
@[go_sem] theorem aggSzRec:aggSz Try.prog 66=11:=by kernel_rfl
@[go_sem] theorem aggSzCop:aggSz Try.prog 68=12:=by kernel_rfl
@[go_sem] theorem aggSzCops:aggSz Try.prog 69=24:=by kernel_rfl
@[go_sem] theorem aggSzInfs:aggSz Try.prog 64=6:=by kernel_rfl
@[go_sem] theorem zero_rec:Value.agg #[iv 0,iv 0,.bool false,iv 0,iv 0,iv 0,iv 0,iv 0,iv 0,iv 0,iv 0]=Value.agg (recA Rec.zero):=by simp[recA,Rec.zero,Inf.zero]
@[go_sem] theorem zero_cop:Value.agg #[.bool false,iv 0,iv 0,.bool false,iv 0,iv 0,iv 0,iv 0,iv 0,iv 0,iv 0,iv 0]=Value.agg (copA Cop.zero):=by simp[copA,Cop.zero,Rec.zero,Inf.zero]
@[go_sem] theorem zero_cops:Value.agg #[.bool false,iv 0,iv 0,.bool false,iv 0,iv 0,iv 0,iv 0,iv 0,iv 0,iv 0,iv 0,.bool false,iv 0,iv 0,.bool false,iv 0,iv 0,iv 0,iv 0,iv 0,iv 0,iv 0,iv 0]=Value.agg (copsA Cop.zero Cop.zero):=by simp[copsA,Cop.zero,Rec.zero,Inf.zero]
@[go_sem] theorem zero_inf:Value.agg #[iv 0,iv 0,iv 0]=Value.agg (infA Inf.zero):=by simp[infA,Inf.zero]
structure DLoc where
 a0:Option Addr
 c0:Nat
 a1:Option Addr
 c1:Nat
 ag:Option Addr
 cg:Nat
 aj:Option Addr
 cj:Nat
def DLoc.zero:DLoc:=⟨none,0,none,0,none,0,none,0⟩
def slotsA(a:OA)(k c:Nat)(b:OA)(m e:Nat):Array Value:=#[.slice a k c,.slice b m e]
@[go_sem] theorem slotsA_size(a:OA)(k c:Nat)(b:OA)(m e:Nat):(slotsA a k c b m e).size=2:=by simp[slotsA]
@[go_sem] theorem slotsA_one(a:OA)(k c:Nat)(b:OA)(m e:Nat):allOne (slotsA a k c b m e)=true:=by simp[slotsA,allOne,Value.oneCell']
def devA(d:Dev)(L:DLoc):Array Value:=#[.slice L.a0 d.s0.length L.c0,.slice L.a1 d.s1.length L.c1,.bool d.c0.ok,iv d.c0.r.gen,iv d.c0.r.active,.bool d.c0.r.trying,iv d.c0.r.tries,iv d.c0.r.floor,iv d.c0.r.a.ver,iv d.c0.r.a.size,iv d.c0.r.a.sum,iv d.c0.r.b.ver,iv d.c0.r.b.size,iv d.c0.r.b.sum,.bool d.c1.ok,iv d.c1.r.gen,iv d.c1.r.active,.bool d.c1.r.trying,iv d.c1.r.tries,iv d.c1.r.floor,iv d.c1.r.a.ver,iv d.c1.r.a.size,iv d.c1.r.a.sum,iv d.c1.r.b.ver,iv d.c1.r.b.size,iv d.c1.r.b.sum,.bool d.up,iv d.running,.slice L.ag d.got.length L.cg,.bool d.busy,iv d.job.from_,iv d.job.to_,iv d.job.old,iv d.job.new_,iv d.job.size,.slice L.aj d.job.ops.length L.cj,iv d.done]
@[go_sem] theorem devA_size(d:Dev)(L:DLoc):(devA d L).size=37:=by simp[devA]
@[go_sem] theorem devA_one(d:Dev)(L:DLoc):allOne (devA d L)=true:=by simp[devA,allOne,Value.oneCell']
@[go_sem] theorem devA_at0(d:Dev)(L:DLoc)(h:0<(devA d L).size):(devA d L)[0]'h=.slice L.a0 d.s0.length L.c0:=by simp[devA]
@[go_sem] theorem devA_at1(d:Dev)(L:DLoc)(h:1<(devA d L).size):(devA d L)[1]'h=.slice L.a1 d.s1.length L.c1:=by simp[devA]
@[go_sem] theorem devA_at26(d:Dev)(L:DLoc)(h:26<(devA d L).size):(devA d L)[26]'h=.bool d.up:=by simp[devA]
@[go_sem] theorem devA_at27(d:Dev)(L:DLoc)(h:27<(devA d L).size):(devA d L)[27]'h=iv d.running:=by simp[devA]
@[go_sem] theorem devA_at28(d:Dev)(L:DLoc)(h:28<(devA d L).size):(devA d L)[28]'h=.slice L.ag d.got.length L.cg:=by simp[devA]
@[go_sem] theorem devA_at29(d:Dev)(L:DLoc)(h:29<(devA d L).size):(devA d L)[29]'h=.bool d.busy:=by simp[devA]
@[go_sem] theorem devA_at30(d:Dev)(L:DLoc)(h:30<(devA d L).size):(devA d L)[30]'h=iv d.job.from_:=by simp[devA]
@[go_sem] theorem devA_at31(d:Dev)(L:DLoc)(h:31<(devA d L).size):(devA d L)[31]'h=iv d.job.to_:=by simp[devA]
@[go_sem] theorem devA_at33(d:Dev)(L:DLoc)(h:33<(devA d L).size):(devA d L)[33]'h=iv d.job.new_:=by simp[devA]
@[go_sem] theorem devA_at34(d:Dev)(L:DLoc)(h:34<(devA d L).size):(devA d L)[34]'h=iv d.job.size:=by simp[devA]
@[go_sem] theorem devA_at36(d:Dev)(L:DLoc)(h:36<(devA d L).size):(devA d L)[36]'h=iv d.done:=by simp[devA]
@[go_sem] theorem devA_all(d:Dev)(L:DLoc):(devA d L).extract 0 37=devA d L:=by simp[devA]
@[go_sem] theorem devA_ex0_2(d:Dev)(L:DLoc):(devA d L).extract 0 2=slotsA L.a0 d.s0.length L.c0 L.a1 d.s1.length L.c1:=by simp[devA,slotsA]
@[go_sem] theorem devA_ex2_26(d:Dev)(L:DLoc):(devA d L).extract 2 26=copsA d.c0 d.c1:=by simp[devA,copsA]
@[go_sem] theorem devA_ex30_36(d:Dev)(L:DLoc):(devA d L).extract 30 36=patA d.job.from_ d.job.to_ d.job.old d.job.new_ d.job.size L.aj d.job.ops.length L.cj:=by simp[devA,patA]
@[go_sem] theorem devA_set_up(d:Dev)(L:DLoc)(v:Bool):(devA d L).setIfInBounds 26 (.bool v)=devA {d with up:=v} L:=by simp[devA]
@[go_sem] theorem devA_set_running(d:Dev)(L:DLoc)(v:Int):(devA d L).setIfInBounds 27 (iv v)=devA {d with running:=v} L:=by simp[devA]
@[go_sem] theorem devA_set_got(d:Dev)(L:DLoc)(l:List Chk)(A:OA)(c:Nat):(devA d L).setIfInBounds 28 (.slice A l.length c)=devA {d with got:=l} {L with ag:=A,cg:=c}:=by simp[devA]
@[go_sem] theorem devA_set_got0(d:Dev)(L:DLoc)(A:OA)(c:Nat):(devA d L).setIfInBounds 28 (.slice A 0 c)=devA {d with got:=[]} {L with ag:=A,cg:=c}:=by simp[devA]
@[go_sem] theorem devA_set_busy(d:Dev)(L:DLoc)(v:Bool):(devA d L).setIfInBounds 29 (.bool v)=devA {d with busy:=v} L:=by simp[devA]
@[go_sem] theorem devA_set_done(d:Dev)(L:DLoc)(v:Int):(devA d L).setIfInBounds 36 (iv v)=devA {d with done:=v} L:=by simp[devA]
@[go_sem] theorem devA_splice_slots(d:Dev)(L:DLoc)(a b:OA)(c e:Nat)(x y:LU):splice (devA d L) 0 (slotsA a x.length c b y.length e)=devA {d with s0:=x,s1:=y} {L with a0:=a,c0:=c,a1:=b,c1:=e}:=by simp[splice,devA,slotsA]
@[go_sem] theorem devA_splice_cops(d:Dev)(L:DLoc)(p q:Cop):splice (devA d L) 2 (copsA p q)=devA {d with c0:=p,c1:=q} L:=by simp[splice,devA,copsA]
@[go_sem] theorem devA_splice_cop0(d:Dev)(L:DLoc)(p:Cop):splice (devA d L) 2 (copA p)=devA {d with c0:=p} L:=by simp[splice,devA,copA]
@[go_sem] theorem devA_splice_job(d:Dev)(L:DLoc)(f t o n s:Int)(l:List Stp)(A:OA)(c:Nat):splice (devA d L) 30 (patA f t o n s A l.length c)=devA {d with job:=⟨f,t,o,n,s,l⟩} {L with aj:=A,cj:=c}:=by simp[splice,devA,patA]
@[go_sem] theorem devA_splice_job0(d:Dev)(L:DLoc)(A:OA)(c:Nat):splice (devA d L) 30 (patA 0 0 0 0 0 A 0 c)=devA {d with job:=Pat.zero} {L with aj:=A,cj:=c}:=by simp[splice,devA,patA,Pat.zero]
@[go_sem] theorem aggSzDev:aggSz Try.prog 71=37:=by kernel_rfl
@[go_sem] theorem aggSzSlots:aggSz Try.prog 61=2:=by kernel_rfl
@[go_sem] theorem zero_dev:Value.agg #[.slice none 0 0,.slice none 0 0,.bool false,iv 0,iv 0,.bool false,iv 0,iv 0,iv 0,iv 0,iv 0,iv 0,iv 0,iv 0,.bool false,iv 0,iv 0,.bool false,iv 0,iv 0,iv 0,iv 0,iv 0,iv 0,iv 0,iv 0,.bool false,iv 0,.slice none 0 0,.bool false,iv 0,iv 0,iv 0,iv 0,iv 0,.slice none 0 0,iv 0]=Value.agg (devA Dev.zero DLoc.zero):=by simp[devA,Dev.zero,DLoc.zero,Cop.zero,Rec.zero,Inf.zero,Pat.zero]
@[go_sem] theorem slots_lit(a:OA)(k c:Nat)(b:OA)(m e:Nat):Value.agg #[.slice a k c,.slice b m e]=Value.agg (slotsA a k c b m e):=by simp[slotsA]
@[go_sem] theorem slotsA_set0(a:OA)(k c:Nat)(b:OA)(m e:Nat)(x:OA)(y z:Nat):(slotsA a k c b m e).setIfInBounds 0 (.slice x y z)=slotsA x y z b m e:=by simp[slotsA]
@[go_sem] theorem slotsA_set1(a:OA)(k c:Nat)(b:OA)(m e:Nat)(x:OA)(y z:Nat):(slotsA a k c b m e).setIfInBounds 1 (.slice x y z)=slotsA a k c x y z:=by simp[slotsA]
@[go_sem] theorem slotsA_ne(a:OA)(k c:Nat)(b:OA)(m e:Nat):(slotsA a k c b m e=#[])=False:=by simp[slotsA]
structure DevIn(w:World)(d:Dev)(L:DLoc):Prop where
 k0:d.s0.length<=L.c0
 l0:d.s0.length<=140737488351232
 b0:Bts w L.a0 d.s0
 k1:d.s1.length<=L.c1
 l1:d.s1.length<=140737488351232
 b1:Bts w L.a1 d.s1
 kg:d.got.length<=L.cg
 lg:d.got.length<=2513169434843
 got:Chs w L.ag d.got
 job:PatIn w d.job L.aj L.cj
 ir:I64 d.running
 id:I64 d.done
theorem DevIn.stays{d:Dev}{L:DLoc}(h:DevIn w d L)(hb:Below w.heap.size w w'):DevIn w' d L:=
 ⟨h.k0,h.l0,h.b0.stays hb,h.k1,h.l1,h.b1.stays hb,h.kg,h.lg,h.got.stays hb,h.job.stays hb,h.ir,h.id⟩
theorem pat_in_zero(w:World):PatIn w Pat.zero none 0:=⟨nl,by simp[Pat.zero],fun i hi=>absurd hi (by simp[Pat.zero]),⟨by decide,by decide⟩,⟨by decide,by decide⟩,⟨by decide,by decide⟩,⟨by decide,by decide⟩,⟨by decide,by decide⟩⟩
theorem bts_nil(w:World)(A:OA):Bts w A []:=fun i hi=>absurd hi (by simp)
theorem DevIn.zero(w:World):DevIn w Dev.zero DLoc.zero:=
 ⟨nl,by simp[Dev.zero],bts_nil _ _,nl,by simp[Dev.zero],bts_nil _ _,nl,by simp[Dev.zero],Chs.nil _ _,pat_in_zero w,⟨by decide,by decide⟩,⟨by decide,by decide⟩⟩
structure WLoc where
 ar:Option Addr
 cr:Nat
 l:DLoc
 an:Option Addr
 cn:Nat
def WLoc.zero:WLoc:=⟨none,0,DLoc.zero,none,0⟩
def worA(x:Wor)(L:WLoc):Array Value:=#[.slice L.ar x.rel.length L.cr,.slice L.l.a0 x.d.s0.length L.l.c0,.slice L.l.a1 x.d.s1.length L.l.c1,.bool x.d.c0.ok,iv x.d.c0.r.gen,iv x.d.c0.r.active,.bool x.d.c0.r.trying,iv x.d.c0.r.tries,iv x.d.c0.r.floor,iv x.d.c0.r.a.ver,iv x.d.c0.r.a.size,iv x.d.c0.r.a.sum,iv x.d.c0.r.b.ver,iv x.d.c0.r.b.size,iv x.d.c0.r.b.sum,.bool x.d.c1.ok,iv x.d.c1.r.gen,iv x.d.c1.r.active,.bool x.d.c1.r.trying,iv x.d.c1.r.tries,iv x.d.c1.r.floor,iv x.d.c1.r.a.ver,iv x.d.c1.r.a.size,iv x.d.c1.r.a.sum,iv x.d.c1.r.b.ver,iv x.d.c1.r.b.size,iv x.d.c1.r.b.sum,.bool x.d.up,iv x.d.running,.slice L.l.ag x.d.got.length L.l.cg,.bool x.d.busy,iv x.d.job.from_,iv x.d.job.to_,iv x.d.job.old,iv x.d.job.new_,iv x.d.job.size,.slice L.l.aj x.d.job.ops.length L.l.cj,iv x.d.done,.slice L.an x.net.length L.cn]
@[go_sem] theorem worA_size(x:Wor)(L:WLoc):(worA x L).size=39:=by simp[worA]
@[go_sem] theorem worA_one(x:Wor)(L:WLoc):allOne (worA x L)=true:=by simp[worA,allOne,Value.oneCell']
@[go_sem] theorem worA_at0(x:Wor)(L:WLoc)(h:0<(worA x L).size):(worA x L)[0]'h=.slice L.ar x.rel.length L.cr:=by simp[worA]
@[go_sem] theorem worA_at1(x:Wor)(L:WLoc)(h:1<(worA x L).size):(worA x L)[1]'h=.slice L.l.a0 x.d.s0.length L.l.c0:=by simp[worA]
@[go_sem] theorem worA_at2(x:Wor)(L:WLoc)(h:2<(worA x L).size):(worA x L)[2]'h=.slice L.l.a1 x.d.s1.length L.l.c1:=by simp[worA]
@[go_sem] theorem worA_at27(x:Wor)(L:WLoc)(h:27<(worA x L).size):(worA x L)[27]'h=.bool x.d.up:=by simp[worA]
@[go_sem] theorem worA_at28(x:Wor)(L:WLoc)(h:28<(worA x L).size):(worA x L)[28]'h=iv x.d.running:=by simp[worA]
@[go_sem] theorem worA_at38(x:Wor)(L:WLoc)(h:38<(worA x L).size):(worA x L)[38]'h=.slice L.an x.net.length L.cn:=by simp[worA]
@[go_sem] theorem worA_all(x:Wor)(L:WLoc):(worA x L).extract 0 39=worA x L:=by simp[worA]
@[go_sem] theorem worA_ex1_38(x:Wor)(L:WLoc):(worA x L).extract 1 38=devA x.d L.l:=by simp[worA,devA]
@[go_sem] theorem worA_ex3_27(x:Wor)(L:WLoc):(worA x L).extract 3 27=copsA x.d.c0 x.d.c1:=by simp[worA,copsA]
@[go_sem] theorem worA_set_net(x:Wor)(L:WLoc)(l:List Chk)(A:OA)(c:Nat):(worA x L).setIfInBounds 38 (.slice A l.length c)=worA {x with net:=l} {L with an:=A,cn:=c}:=by simp[worA]
@[go_sem] theorem worA_splice_dev(x:Wor)(L:WLoc)(d:Dev)(K:DLoc):splice (worA x L) 1 (devA d K)=worA {x with d:=d} {L with l:=K}:=by simp[splice,worA,devA]
@[go_sem] theorem aggSzWor:aggSz Try.prog 88=39:=by kernel_rfl
@[go_sem] theorem zero_wor:Value.agg #[.slice none 0 0,.slice none 0 0,.slice none 0 0,.bool false,iv 0,iv 0,.bool false,iv 0,iv 0,iv 0,iv 0,iv 0,iv 0,iv 0,iv 0,.bool false,iv 0,iv 0,.bool false,iv 0,iv 0,iv 0,iv 0,iv 0,iv 0,iv 0,iv 0,.bool false,iv 0,.slice none 0 0,.bool false,iv 0,iv 0,iv 0,iv 0,iv 0,.slice none 0 0,iv 0,.slice none 0 0]=Value.agg (worA Wor.zero WLoc.zero):=by simp[worA,Wor.zero,WLoc.zero,Dev.zero,DLoc.zero,Cop.zero,Rec.zero,Inf.zero,Pat.zero]
structure WorIn(w:World)(x:Wor)(L:WLoc):Prop where
 kr:x.rel.length<=L.cr
 lr:x.rel.length<=5864062014634
 rel:Ims w L.ar x.rel
 dev:DevIn w x.d L.l
 kn:x.net.length<=L.cn
 ln:x.net.length<=2513169434843
 net:Chs w L.an x.net
theorem WorIn.stays{x:Wor}{L:WLoc}(h:WorIn w x L)(hb:Below w.heap.size w w'):WorIn w' x L:=
 ⟨h.kr,h.lr,h.rel.stays hb,h.dev.stays hb,h.kn,h.ln,h.net.stays hb⟩
theorem WorIn.zero(w:World):WorIn w Wor.zero WLoc.zero:=
 ⟨nl,by simp[Wor.zero],fun i hi=>absurd hi (by simp[Wor.zero]),DevIn.zero w,nl,by simp[Wor.zero],Chs.nil _ _⟩
end Go.Proofs.Ytefkfglkpebbmac
