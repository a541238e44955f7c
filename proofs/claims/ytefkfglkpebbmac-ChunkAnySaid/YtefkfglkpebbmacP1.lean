/- Walks of functions, and plain words. No conditions. -/
import Derived.Test.YtefkfglkpebbmacPE1
import Derived.Test.YtefkfglkpebbmacPA
import Derived.Deep.LoopGhost
set_option linter.unusedVariables false
set_option linter.unusedSimpArgs false
set_option maxRecDepth 100000
set_option maxHeartbeats 40000000
namespace Go.Proofs.Ytefkfglkpebbmac
open Go.RowKit
variable {Y:Prop}
variable {k n:Nat} {w:World} {l:LU}
def patA(f t o n s:Int)(A:OA)(k c:Nat):Array Value:=#[iv f,iv t,iv o,iv n,iv s,.slice A k c]
@[go_sem] theorem patA_size(f t o n s:Int)(A:OA)(k c:Nat):(patA f t o n s A k c).size=6:=by simp[patA]
@[go_sem] theorem patA_one(f t o n s:Int)(A:OA)(k c:Nat):allOne (patA f t o n s A k c)=true:=by simp[patA,allOne,Value.oneCell']
@[go_sem] theorem patA_at0(f t o n s:Int)(A:OA)(k c:Nat)(h:0<(patA f t o n s A k c).size):(patA f t o n s A k c)[0]'h=iv f:=by simp[patA]
@[go_sem] theorem patA_at1(f t o n s:Int)(A:OA)(k c:Nat)(h:1<(patA f t o n s A k c).size):(patA f t o n s A k c)[1]'h=iv t:=by simp[patA]
@[go_sem] theorem patA_at2(f t o n s:Int)(A:OA)(k c:Nat)(h:2<(patA f t o n s A k c).size):(patA f t o n s A k c)[2]'h=iv o:=by simp[patA]
@[go_sem] theorem patA_at3(f t o n s:Int)(A:OA)(k c:Nat)(h:3<(patA f t o n s A k c).size):(patA f t o n s A k c)[3]'h=iv n:=by simp[patA]
@[go_sem] theorem patA_at4(f t o n s:Int)(A:OA)(k c:Nat)(h:4<(patA f t o n s A k c).size):(patA f t o n s A k c)[4]'h=iv s:=by simp[patA]
@[go_sem] theorem patA_at5(f t o n s:Int)(A:OA)(k c:Nat)(h:5<(patA f t o n s A k c).size):(patA f t o n s A k c)[5]'h=.slice A k c:=by simp[patA]
@[go_sem] theorem patA_all(f t o n s:Int)(A:OA)(k c:Nat):(patA f t o n s A k c).extract 0 6=patA f t o n s A k c:=by simp[patA]
@[go_sem] theorem pat_lit(f t o n s:Int)(A:OA)(k c:Nat):Value.agg #[iv f,iv t,iv o,iv n,iv s,.slice A k c]=Value.agg (patA f t o n s A k c):=by simp[patA]
@[go_sem] theorem patA_set5(f t o n s:Int)(A:OA)(k c:Nat)(B:OA)(m d:Nat):(patA f t o n s A k c).setIfInBounds 5 (.slice B m d)=patA f t o n s B m d:=by simp[patA]
@[go_sem] theorem aggSzPat:aggSz Try.prog 35=6:=by kernel_rfl
@[go_sem] theorem patA_set0(f t o n s:Int)(A:OA)(k c:Nat)(x:Int):(patA f t o n s A k c).setIfInBounds 0 (iv x)=patA x t o n s A k c:=by simp[patA]
@[go_sem] theorem patA_set1(f t o n s:Int)(A:OA)(k c:Nat)(x:Int):(patA f t o n s A k c).setIfInBounds 1 (iv x)=patA f x o n s A k c:=by simp[patA]
@[go_sem] theorem patA_set2(f t o n s:Int)(A:OA)(k c:Nat)(x:Int):(patA f t o n s A k c).setIfInBounds 2 (iv x)=patA f t x n s A k c:=by simp[patA]
@[go_sem] theorem patA_set3(f t o n s:Int)(A:OA)(k c:Nat)(x:Int):(patA f t o n s A k c).setIfInBounds 3 (iv x)=patA f t o x s A k c:=by simp[patA]
@[go_sem] theorem patA_set4(f t o n s:Int)(A:OA)(k c:Nat)(x:Int):(patA f t o n s A k c).setIfInBounds 4 (iv x)=patA f t o n x A k c:=by simp[patA]
theorem patC_eq(p:Pat)(A:OA)(c:Nat):(patC p A c).toArray=patA p.from_ p.to_ p.old p.new_ p.size A p.ops.length c:=by simp[patA]
def PaRet(w:World)(p:Pat)(n:Int):Ending->World->Prop:=fun en w'=>
 ∃A c,en=.returned (.tuple #[.agg (patA p.from_ p.to_ p.old p.new_ p.size A p.ops.length c),iv n])∧Fresh w.heap.size w' (fun v=>PatIn v p A c)∧Below w.heap.size w w'
theorem patIn_zero(w:World):PatIn w Pat.zero none 0:=⟨nl,by simp[Pat.zero],Sps.nil _ _,⟨by decide,by decide⟩,⟨by decide,by decide⟩,⟨by decide,by decide⟩,⟨by decide,by decide⟩,⟨by decide,by decide⟩⟩
theorem patCheck_calls(A:OA)(c:Nat)(f t o n sz:Int)(l:List Stp)(w:World)(hl:l.length<=3518437208780)(hs:Sps w A l):
  Calls Try.prog 29 #[.agg (patA f t o n sz A l.length c)] w (RetB w (iv (patCheck ⟨f,t,o,n,sz,l⟩))):=patCheckA_calls A c f t o n sz l w hl hs
theorem x0b0(h:Y:=by
 have e1:=fO 7 (.slice (some ⟨g,0,none⟩) n n) h;exact mx_move (ch_ev e1)):Y:=h
theorem x0wu(h:Y:=by
 have e2:(⟨g,0,none⟩:Addr).add j=⟨g,j,none⟩:=by unfold Addr.add;split<;>simp_all
 rw[e2,List.getElem_replicate];refine(cell_of_row _ _ _ _ _ _ HF.out).trans ?_;rw[List.getElem?_toArray,e1]):Y:=h
theorem x2m3(h:Y:=by
 have hnk:=HNK.out;have hkn:=HKN.out;have hmn:=HMK.out;go_simp):Y:=h
theorem x6lk(h:Y:=by
 obtain⟨_,g1,g2⟩:=hJ;have HF1:=qH g1;have HB1:Hid (Below g w w1):=qH (HB.out.trans g2);clear g1 g2;simp only[freeAll,putAll_some,putAll_none,putAll_nil,List.getD_cons_zero,List.getD_cons_succ,Bool.false_eq_true,if_true,if_false,reduceIte,Nat.zero_add,Nat.reduceAdd,List.setIfInBounds_toArray,List.set_cons_zero,List.set_cons_succ];go_wp2_with fail;go_roundw
 case rel=>exact⟨k+m,rfl,by omega,hm1.2,HF1,HB1⟩
 case measure=>simp[intOf];omega):Y:=h
def filled(x:UInt8)(k n:Nat):List Value:=List.replicate k (bv x)++List.replicate (n-k) (.int .u8 0)
theorem filled_len(x:UInt8)(h:k<=n):(filled x k n).length=n:=by unfold filled;simp;omega
theorem filled_more(x:UInt8){m:Nat}(h:k+m<=n):Go.splice (filled x k n) k (List.replicate m (bv x))=filled x (k+m) n:=by
 unfold filled Go.splice;rw[List.take_append_of_le_length (by simp),List.length_replicate,List.drop_append,List.length_replicate,List.take_of_length_le (by simp),List.drop_eq_nil_of_le (by simp),List.nil_append,<-List.append_assoc,List.replicate_append_replicate,List.drop_replicate];congr 2;omega
theorem filled_all(x:UInt8)(n:Nat):filled x n n=List.replicate n (bv x):=by unfold filled;simp
theorem filled_at(x:UInt8){j:Nat}(h:j<k):(filled x k n)[j]?=some (bv x):=by
 unfold filled;rw[List.getElem?_append_left (by simpa using h),List.getElem?_replicate];simp[h]
theorem wp_copy{P:Program}{o:Oper}{a:Act}{K:Act->World->Prop}{Q:Exit->Act->World->Prop}(hgd:o.guard=none)(d s:Operand)(dT sT:TypeId)
  (ho:o.op=.call {callee:=.builtin .copy,args:=#[d,s],argTypes:=#[dT,sT]}) (elem:TypeId) (hu:P.underlying dT=some (.slice elem)) (hsz:(P.info? elem).map (·.size)=some 1)
  (dp sp:OA) (dLen dCap sLen sCap:Nat) (hd:a.eval d=.slice dp dLen dCap) (hs:a.eval s=.slice sp sLen sCap)
  (g off:Nat) (cur:List Value) (t:TypeId) (hg:w.heap[g]?=some (.cells cur.toArray t (0,0))) (cs:List Value) (hn:cs.length=Nat.min sLen dLen)
  (hpos:0<cs.length->dp=some ⟨g,off,none⟩∧∃ad,sp=some ad∧∀j v,cs[j]?=some v->w.cell? (ad.add j)=some v)
  (hfit:off+cs.length<=cur.length) (h1:∀v∈cs,v.oneCell'=true) (B:Nat) (w0:World) (hb:RowKit.Below B w0 w) (hBg:B<=g)
  (h:∀w',w'.heap[g]?=some (.cells (Go.splice cur off cs).toArray t (0,0))->RowKit.Below B w0 w'->K (a.put o.dst (goInt cs.length)) w'):
  Oper.wp P o a w K Q:=by
 have h1:=step_copy_splice (P:=P) (ops:=#[]) (E:=True) (K:=K) (Q:=Q) hgd d s dT sT ho elem hu hsz dp sp dLen dCap sLen sCap hd hs g off cur t hg cs hn hpos hfit h1 B w0 hb hBg (fun w' hg hb=>h w' hg.out hb);rwa [if_pos (by simp[Region.wanted,hgd])]at h1
def rpJ(wo:World)(g:Nat)(x:UInt8)(k m n:Nat)(done:Nat->Bool)(cv:Nat->Value)(w:World):Prop:=
 if done 7=true then cv 7=iv (m:Int)∧w.heap[g]?=some (.cells (filled x (k+m) n).toArray 5 (0,0))∧Below g wo w else w=wo.drew
theorem own_filled{base g:Nat}{x:UInt8}(h:w.heap[g]?=some (.cells (filled x n n).toArray 5 (0,0)))(hb:base<=g)(hn:n<=140737488351232):Own w base 5 1 (some ⟨g,0,none⟩) n n ((List.replicate n x).map bv):=
 ⟨by simp,Or.inr ⟨g,n,_,rfl,hb,h,nl,by unfold maxLen;omega,by rw[filled_all];simp,by rw[filled_all];simp⟩⟩
theorem made_filled(x:UInt8)(n:Nat):madeCells #[Value.int .u8 0] n=(filled x 0 n).toArray:=by
 unfold filled
 apply Array.ext'
 simp[madeCells]
 apply List.ext_getElem?
 intro i;simp only[Nat.mod_one,List.getElem?_map];by_cases h:i<n<;>simp[h]
theorem repeat_calls(A:OA)(c:Nat)(x:UInt8)(n:Nat)(w:World)(hn:1<=n)(hn2:n<=1000)(hA:Bts w A [x]):
  Calls Try.prog 144 #[.slice A 1 c,iv n] w (BtRet w (List.replicate n x)):=by
 obtain⟨a,o,rfl,hlt,hc⟩:=hA 0 (by simp);simp only[Nat.add_zero,List.getElem_cons_zero]at hc;have HC:=qH hc;clear hA hc;have d1:¬(n:Int)<0:=by omega
 have u1:IntKind.u64.wrap (n:Int)=(n:Int):=by rw[IntKind.wrap_u64];omega
 have i1:IntKind.i64.wrap (n:Int)=(n:Int):=IntWalk.i64_in _ (by omega);have hmk:∀w:World,(Instr.makeSlice 22 (iv (n:Int)) (iv (n:Int))).run Try.prog w=.ok (.slice (some ⟨w.heap.size,0,none⟩) n n) (w.alloc (.cells (filled x 0 n).toArray 5)):=fun w=>by
  have:=run_make_row' (P:=Try.prog) 22 5 (.int .u8 0) 1 Try.underlying22 (by kernel_rfl) rfl .i64 .i64 n (by omega) (by omega) w;rw[made_filled x]at this;exact this
 go_enter Try.func144,Try.ntmps144;go_wp2_with fail;refine(mul1_calls n w (by omega)).mono ?_;rintro e w1 ⟨rfl,rfl⟩;have d1:decide ((9223372036854775807:Int)<(n:Int))=false:=by simp;omega
 have hb1:Below w.heap.size w (w.alloc (.cells (filled x 0 n).toArray 5)):=bL _;have hg1:(w.alloc (.cells (filled x 0 n).toArray 5)).heap[w.heap.size]?=some (.cells (filled x 0 n).toArray 5 (0,0)):=blk_top rfl;have hca:=(hb1.cell (p:=⟨a,o,none⟩) hlt).trans HC.out;have hcp:(Builtin.copy_ #[22,22] 3 #[.slice (some ⟨w.heap.size,0,none⟩) n n,.slice (some ⟨a,o,none⟩) 1 c]).run Try.prog (w.alloc (.cells (filled x 0 n).toArray 5))=.ok (iv 1) (w.alloc (.cells (filled x 1 n).toArray 5)):=by
  have:=run_copy_row (P:=Try.prog) (w.alloc (.cells (filled x 0 n).toArray 5)) 22 22 3 5 w.heap.size 0 n n ⟨a,o,none⟩ 1 c (filled x 0 n).toArray 5 [bv x] Try.underlying22 (by kernel_rfl) hg1 (by simp[Nat.min_def];omega)
   (fun j v hv=>by
     obtain⟨hj,rfl⟩:=List.getElem?_eq_some_iff.1 hv;have e1:j=0:=by simp at hj;omega
     subst e1;simpa[Addr.add]using hca) (by rw[List.size_toArray,filled_len x (Nat.zero_le _)];simp;omega) (by simp[Value.oneCell'])
  rw[this,setRow_alloc,if_pos rfl];have e:=filled_more x (k:=0) (m:=1) (n:=n) (by omega);unfold Go.splice at e;simp only[Nat.zero_add]at e⊢;rw[show (List.replicate 1 (bv x))=[bv x] from rfl]at e;rw[List.append_assoc,e];rfl
 have hf1:Hid ((w.alloc (.cells (filled x 1 n).toArray 5)).heap[w.heap.size]?=some (.cells (filled x 1 n).toArray 5 (0,0))):=qH (blk_top rfl);have HB1:Hid (Below w.heap.size w (w.alloc (.cells (filled x 1 n).toArray 5))):=qH (bL _);clear hg1 hb1 hca;go_wp2_with fail;clear hcp hmk;generalize w.alloc (.cells (filled x 1 n).toArray 5)=w2 at *
 generalize hgg:w.heap.size=g at *
 go_loopw [8] (fun y wr=>∃(k:Nat),y=iv (k:Int)∧1<=k∧k<=n∧Hid (wr.heap[g]?=some (.cells (filled x k n).toArray 5 (0,0)))∧Hid (Below g w wr)) (fun y _=>n-(intOf y).toNat)
 case atStart=>exact⟨1,rfl,by omega,hn,hf1,HB1⟩
 case round=>
  rename World=>wo;obtain⟨k,rfl,hk1,hkn,HF,HB⟩:=hrel;by_cases hlt:k<n
  ·obtain⟨m,hm⟩:∃m,m=Nat.min k (n-k):=⟨_,rfl⟩;have hm1:1<=m∧k+m<=n:=by rw[hm];simp only[Nat.min_def];split<;>omega
   have HM:=qH hm;have HMK:Hid ((k:Int)<=(n:Int)):=qH (by omega);have HMK1:Hid (m<=k):=qH (by rw[hm];exact Nat.min_le_left _ _);have HMN:=qH hm1.2;have HK:=qH hkn;have HNK:Hid (¬n=k):=qH (by omega);have HKN:Hid ((k:Int)<=(n:Int)):=qH (by omega);have HI:Hid (IntKind.i64.wrap ((k:Int)+(m:Int))=(k:Int)+(m:Int)):=qH (IntWalk.i64_in _ (by omega));have dk:decide ((k:Int)<(n:Int))=true:=by simp;omega
   clear hm hf1 HB1;go_wp2_with fail;refine wp_region_free (by kernel_rfl) (some 38::some 39::some 40::some 41::some 42::some 43::some 44::some 45::some 46::some 8::[]) (false::false::false::false::false::false::false::true::false::false::[]) (iv ((k:Nat):Int)::.slice (some ⟨g,0,none⟩) n n::iv ((k:Nat):Int)::.slice (some ⟨g,(k:Nat),none⟩) (n-k) (n-k)::.slice (some ⟨g,0,none⟩) n n::iv ((k:Nat):Int)::.slice (some ⟨g,0,none⟩) k n::undef::iv ((k+m:Nat):Int)::iv ((k+m:Nat):Int)::[]) (rpJ wo g x k m n) 48 rfl rfl (by decide+kernel) (by decide+kernel) (by decide+kernel) rfl rfl (by rw[rpJ,if_neg (by simp)]) ?_ ?_
   ·refine⟨?_,?_,?_,?_,?_,?_,?_,?_,?_,?_,trivial⟩;all_goals intro done cv a wq hn hw hcl h hJ
    ·have e1:=fr_un (t:=8) (i:=0) (i0:=9) (v:=iv ((k:Nat):Int)) h hcl hn rfl (by decide) (by decide) rfl;exact mx_move (ch_ev e1)
    ·exact x0b0
    ·have e1:=fr_un (t:=8) (i:=2) (i0:=9) (v:=iv ((k:Nat):Int)) h hcl hn rfl (by decide) (by decide) rfl;exact mx_move (ch_ev e1)
    ·have e1:=fN 1 39 h hw;have e40:=fN 2 40 h hw;have hnk:=HNK.out;have hkn:=HKN.out;go_simp
    ·exact x0b0
    ·have e1:=fr_un (t:=8) (i:=5) (i0:=9) (v:=iv ((k:Nat):Int)) h hcl hn rfl (by decide) (by decide) rfl;exact mx_move (ch_ev e1)
    ·have e1:=fN 4 42 h hw;have e43:=fN 5 43 h hw;exact x2m3
    ·have e3:=fN 3 41 h hw;have e44:=fN 6 44 h hw;have hd:¬maskB [false,false,false,false,false,false,false,true,false,false] done 7=true:=by unfold maskB;rw[hn];simp
     rw[rpJ,if_neg hd]at hJ;obtain rfl:wq=wo.drew:=hJ;refine wp_copy rfl (.tmp 41) (.tmp 44) 22 22 rfl 5 Try.underlying22 (by kernel_rfl) _ _ _ _ _ _ (ch_ev e3) (ch_ev e44) g k (filled x k n) 5 HF.out (List.replicate m (bv x)) (by rw[List.length_replicate];exact HM.out) (fun _=>⟨rfl,_,rfl,fun j v hv=>?_⟩) (by rw[filled_len x HK.out,List.length_replicate];exact HMN.out) (fun v hv=>by rw[List.eq_of_mem_replicate hv];rfl) g wo ((Below.refl _ _).drew) nl ?_
     ·obtain⟨hj,rfl⟩:=List.getElem?_eq_some_iff.1 hv;rw[List.length_replicate]at hj;have e1:=filled_at x (n:=n) (show j<k by have:=HMK1.out;omega);exact x0wu
     intro w' hg' hb';rw[filled_more x HMN.out]at hg';exact⟨_,rfl,by rw[rpJ,if_pos (by simp)];exact⟨by simp[goInt],hg',hb'⟩⟩
    ·have e1:=fN 0 38 h hw;have e45:=fr_cv (i:=7) (t:=45) h (hw 7 (by decide)) rfl rfl;have hd:maskB [false,false,false,false,false,false,false,true,false,false] done 7=true:=by unfold maskB;rw[hw 7 (by decide)];rfl
     rw[rpJ,if_pos hd]at hJ;rw[hJ.1]at e45;have hi:=HI.out;go_simp
    ·have e1:=fN 8 46 h hw;exact mx_assign (ch_ev e1)
   intro d cv w1 hall hJ;rw[rpJ,if_pos (hall 7 rfl (by decide))]at hJ;exact x6lk
  obtain rfl:k=n:=by omega
  have dk:decide ((k:Int)<(k:Int))=false:=by simp
  go_wp2_with fail;go_ret;have:=HF.out;refine⟨some ⟨g,0,none⟩,k,by simp,?_,hgg▸HB.out⟩;have ho:=own_filled HF.out (base:=g) nl (by omega);rw[hgg];simpa using ho
theorem x433(h:Y:=by
 exact⟨B,d,by rw[<-HZ.out];rfl,by rw[<-HZ.out];exact HBE.out▸HO.out,HBE.out▸HB.out⟩):Y:=h
theorem x7zz(h:Y:=by
 go_wp2_with fail;go_ret2;exact⟨none,0,by rw[<-HZ.out];rfl,by rw[<-HZ.out];exact Own.nil_ _ _ _ _,HBE.out▸HB.out⟩):Y:=h
theorem mid_drop{A:OA}(h:Bts w A l)(c k:Nat)(hc:l.length<=c):Bts w (if c=k then A else Option.map (fun x=>x.add k) A) (l.drop k):=by
 by_cases e:k<l.length
 ·obtain⟨b,o,rfl,hlt,_⟩:=h 0 (by omega);rw[if_neg (by omega)];have e1:Option.map (fun x:Addr=>x.add k) (some ⟨b,o,none⟩)=some ⟨b,o+k,none⟩:=by simp[Addr.add]
  rw[e1];intro i hi;rw[List.length_drop]at hi;obtain⟨b',o',e1,h1,h2⟩:=h (k+i) (by omega);injection e1 with e1;injection e1 with e4 e5;subst e4 e5;exact⟨b,o+k,rfl,h1,by rw[Nat.add_assoc,h2];simp⟩
 rw[List.drop_eq_nil_of_le (by omega)];exact Bts.nil _ _
theorem mid_at{ab ao:Nat}(h:Bts w (some ⟨ab,ao,none⟩) l)(k:Nat):Bts w (some ⟨ab,ao+k,none⟩) (l.drop k):=by
 intro i hi;rw[List.length_drop]at hi;obtain⟨b',o',e1,h1,h2⟩:=h (k+i) (by omega);injection e1 with e1;injection e1 with e4 e5;subst e4 e5;exact⟨ab,ao+k,rfl,h1,by rw[Nat.add_assoc,h2];simp⟩
theorem mid_take{A:OA}(h:Bts w A l)(k:Nat):Bts w A (l.take k):=by
 intro i hi;rw[List.length_take]at hi;obtain⟨b,o,rfl,h1,h2⟩:=h i (by omega);exact⟨b,o,rfl,h1,by simpa using h2⟩
def UnRet(w:World)(r:List UInt8×Int):Ending->World->Prop:=fun en w'=>
 ∃A c,en=.returned (.tuple #[.slice A r.1.length c,iv r.2])∧Own w' w.heap.size 5 1 A r.1.length c (r.1.map bv)∧Below w.heap.size w w'
theorem and127(x:UInt8):bits .and .u8 (x.toNat:Int) 127=((x.toNat%128:Nat):Int):=by
 have key:∀n:Fin 256,bits .and .u8 (n.val:Int) 127=((n.val%128:Nat):Int):=by decide+kernel
 exact key ⟨x.toNat,x.toNat_lt⟩
theorem unpack_calls(Ab:OA)(cb:Nat)(b:LU)(most:Int)(w:World)(hc:b.length<=cb)(hl:b.length<=4194304)(hm:I64 most)(hB:Bts w Ab b):
  Calls Try.prog 104 #[.slice Ab b.length cb,iv most] w (UnRet w (unpacked b most)):=by
 obtain⟨hm1,hm2⟩:=hm;have HB3:=qH hB;have HBB:Hid (Below w.heap.size w w):=qH (Below.refl _ _);have HO1:Hid (Own w w.heap.size 5 1 none 0 0 (([]:List UInt8).map bv)):=qH (Own.nil_ _ _ _ _);clear hB;go_enter Try.func104,Try.ntmps104;go_wp2_with fail;generalize hbase:w.heap.size=base at *
 have HBE:=qH hbase;clear hbase
 go_loopg [0,6] b.length (fun g y o wr=>∃(l out:LU) (A B:OA) (c d:Nat),y=.slice A l.length c∧o=.slice B out.length d∧l.length<=c∧l.length<=g∧Hid (unpackAt most l out=unpacked b most)∧((out.length:Int)<=most∨out=[])∧out.length+127*l.length<=127*b.length∧Hid (Bts w A l)∧Hid (Own wr base 5 1 B out.length d (out.map bv))∧Hid (Below base w wr))
 case atStart=>exact⟨b,[],Ab,none,cb,0,rfl,rfl,hc,nl,qH rfl,.inr rfl,by simp,HB3,HO1,HBB⟩
 case round=>
  clear HB3 HO1 HBB;rename World=>wo;obtain⟨l,out,A,B,c,d,rfl,rfl,hlc,hlg,HE,hom,hob,HBt,HO,HB⟩:=hrel;rcases l with _|⟨x,r⟩
  ·have hz:(out,(0:Int))=unpacked b most:=by rw[<-HE.out,unpackAt_nil]
   have HZ:=qH hz;simp only[List.length_nil,Int.ofNat_eq_natCast,Int.natCast_zero]at *
   clear hz;go_wp2_with fail;go_ret2;exact x433
  simp only[List.length_cons]at *
  have HBW:Hid (∀w1,Below base w w1->Bts w1 A (x::r)):=qH (fun w1 h=>HBt.out.stays (HBE.out▸h));obtain⟨ab,ao,rfl,hab,hx⟩:=HBW.out wo HB.out 0 (by simp);simp only[Nat.add_zero,List.getElem_cons_zero]at hx;have hxl:=x.toNat_lt;obtain⟨n,hn⟩:∃n,n=x.toNat%128:=⟨_,rfl⟩;have hand:bits .and .u8 (x.toNat:Int) 127=(n:Int):=by rw[and127,hn]
  have hn1:n<128:=by omega
  have HN:=qH hn;clear hn;have dl:decide ((0:Int)<((r.length+1:Nat):Int))=true:=by simp<;>omega
  have hw1:IntKind.i64.wrap (most-(out.length:Int))=most-(out.length:Int):=IntWalk.i64_in _ (by have:(out.length:Int)<=most∨(out.length:Int)=0:=(hom.imp id (fun h=>by rw[h];rfl));omega);have hw1:IntKind.i64.wrap (1+(n:Int))=1+(n:Int):=IntWalk.i64_in _ (by omega);have HOM:=qH hom;clear hom;by_cases n1:n=0
  ·subst n1;have hz:(([]:List UInt8),(3:Int))=unpacked b most:=by rw[<-HE.out,unpackAt_zero HN.out.symm]
   have HZ:=qH hz;clear hz HE;exact x7zz
  have dn:((n:Int)==0)=false:=by simp<;>omega
  have hn1:x.toNat%128≠0:=by rw[<-HN.out];exact n1
  by_cases h3:128<=x.toNat
  ·have hu:=unpackAt_run (most:=most) (r:=r) (out:=out) hn1 h3;rw[HE.out,<-HN.out]at hu;have d8:decide ((128:Int)<=(x.toNat:Int))=true:=by simp<;>omega
   rcases r with _|⟨y,r⟩
   ·have hz:(([]:List UInt8),(7:Int))=unpacked b most:=by rw[hu,if_pos (by simp)]
    simp only[List.length_nil,Nat.zero_add,Int.natCast_one]at *
    clear hu;have HZ:=qH hz;clear hz HE;exact x7zz
   simp only[List.length_cons]at *
   have d2:decide ((((r.length+1+1:Nat)):Int)<2)=false:=by simp<;>omega
   rw[if_neg (by omega)]at hu;by_cases hgt:most-(out.length:Int)<(n:Int)
   ·have dg:decide (most-(out.length:Int)<(n:Int))=true:=by simp<;>omega
    have hz:(([]:List UInt8),(1:Int))=unpacked b most:=by rw[hu,if_pos hgt]
    clear hu;have HZ:=qH hz;clear hz HE;exact x7zz
   have dg:decide (most-(out.length:Int)<(n:Int))=false:=by simp<;>omega
   rw[if_neg hgt,List.drop_succ_cons,List.drop_zero,List.headD_cons]at hu;have HU:=qH hu;have HY:Hid (Bts wo (some ⟨ab,ao+1,none⟩) [y]):=qH (fun i hi=>by
    have e1:i=0:=by simp at hi;omega
    subst e1;obtain⟨b',o',e1,h1,h2⟩:=HBW.out wo HB.out 1 (by simp);injection e1 with e1;injection e1 with e4 e5;subst e4 e5;exact⟨ab,ao+1,rfl,h1,by simpa using h2⟩)
   have HG:Hid (¬most-(out.length:Int)<(n:Int)):=qH hgt;have hcc:¬c=1:=by omega
   have j1:(2:Int)<=(c:Int):=by omega
   have hob1:out.length+n<=137438953472:=by omega
   clear hu hgt;go_wp2_with fail;refine(repeat_calls (some ⟨ab,ao+1,none⟩) (c-1) y n wo (by omega) (by omega) HY.out).mono ?_;rintro e w1 ⟨A1,c1,rfl,ho1,hb1⟩;rw[List.length_replicate]at ho1;have hle:base<=w1.heap.size:=Nat.le_trans (Nat.le_trans (Nat.le_of_eq HBE.out.symm) HB.out.size) hb1.size;have hs1:=ho1.src;have ho2:=HO.out.below hb1;have hls:((List.replicate n y).map bv).length=n*1:=by simp
   have HB1:Hid (Below base w w1):=qH (HB.out.trans (hb1.mono (Nat.le_trans (Nat.le_of_eq HBE.out.symm) HB.out.size)));simp only[List.length_replicate];go_wp2_with (at_builtin;go_must (refine wpList_app w1 rfl _ _ 22 rfl elBytes base B out.length d (out.map bv) rfl ho2 A1 n c1 ((List.replicate n y).map bv) rfl hs1 hls (bv_one _) hob1 hle ?_;intro A' c' w2 hown hgr hbel hor));all_goals (
    have HO1:=qH hown;have HB1:Hid (Below base w w2):=qH (HB1.out.trans hbel);have HM1:Hid (((out++List.replicate n y).length:Int)<=most∨out++List.replicate n y=[]):=qH (.inl (by have:=HG.out;simp;omega));clear hown hgr hbel hor hs1 ho2 ho1 hb1 hls hle hob1
    go_roundg r.length
    case rel=>first
     |exact⟨r,out++List.replicate n y,some ⟨ab,ao+2,none⟩,A',c-2,c',rfl,by simp,by omega,by omega,qH HU.out.symm,HM1.out,by simp;omega,qH (mid_at HBt.out 2),qH (by simpa using HO1.out),HB1⟩
     |exact⟨r,out++List.replicate n y,some ⟨ab,ao,none⟩,A',0,c',rfl,by simp,by omega,by omega,qH HU.out.symm,HM1.out,by simp;omega,qH (by rw[List.eq_nil_of_length_eq_zero (by omega:r.length=0)];exact Bts.nil _ _),qH (by simpa using HO1.out),HB1⟩
    case measure=>omega)
  have hu:=unpackAt_plain (most:=most) (r:=r) (out:=out) hn1 h3;rw[HE.out,<-HN.out]at hu;have d8:decide ((128:Int)<=(x.toNat:Int))=false:=by simp<;>omega
  by_cases h1:r.length<n
  ·have hz:(([]:List UInt8),(7:Int))=unpacked b most:=by rw[hu,if_pos h1]
   have d2:decide (((r.length+1:Nat):Int)<1+(n:Int))=true:=by simp<;>omega
   clear hu;have HZ:=qH hz;clear hz HE;exact x7zz
  have d2:decide (((r.length+1:Nat):Int)<1+(n:Int))=false:=by simp<;>omega
  rw[if_neg h1]at hu;by_cases hgt:most-(out.length:Int)<(n:Int)
  ·have dg:decide (most-(out.length:Int)<(n:Int))=true:=by simp<;>omega
   have hz:(([]:List UInt8),(1:Int))=unpacked b most:=by rw[hu,if_pos hgt]
   have HZ:=qH hz;clear hu hz HE;exact x7zz
  have dg:decide (most-(out.length:Int)<(n:Int))=false:=by simp<;>omega
  rw[if_neg hgt]at hu;have HU:=qH hu;have HG:Hid (¬most-(out.length:Int)<(n:Int)):=qH hgt;have hcc:¬c=1:=by omega
  have j1:(1:Int)+(n:Int)<=(c:Int):=by omega
  have j1:(1:Int)<=1+(n:Int):=by omega
  have hob1:out.length+(1+n-1)<=137438953472:=by omega
  have hs1:Src wo (some ⟨ab,ao+1,none⟩) ((r.take n).map bv):=(mid_take (mid_at (HBW.out wo HB.out) 1) n).src;have hls:((r.take n).map bv).length=(1+n-1)*1:=by simp;omega
  have hle:base<=wo.heap.size:=Nat.le_trans (Nat.le_of_eq HBE.out.symm) HB.out.size;have ho1:=HO.out;clear hu hgt;go_wp2_with (at_builtin;go_must (refine wpList_app wo rfl _ _ 22 rfl elBytes base B out.length d (out.map bv) rfl ho1 (some ⟨ab,ao+1,none⟩) (1+n-1) (c-1) ((r.take n).map bv) rfl hs1 hls (bv_one _) hob1 hle ?_;intro A' c' w2 hown hgr hbel hor));all_goals (
   have e1n:out.length+n=(out++r.take n).length:=by simp;omega
   rw[show out.length+(1+n-1)=(out++r.take n).length by simp;omega]at hown;have HO1:=qH hown;have HB1:Hid (Below base w w2):=qH (HB.out.trans hbel);have HM1:Hid (((out++r.take n).length:Int)<=most∨out++r.take n=[]):=qH (.inl (by have:=HG.out;simp;omega));have HE1:Hid (r.length+1-(1+n)=(r.drop n).length):=qH (by simp;omega);have HE2:Hid (out.length+n=(out++r.take n).length):=qH e1n;clear hown hgr hbel hor hs1 ho1 hls hle hob1 e1n
   go_roundg r.length
   case rel=>first
    |(have h9:¬c=1+n:=by assumption
      exact⟨r.drop n,out++r.take n,some ⟨ab,ao+(1+n),none⟩,A',c-(1+n),c',by rw[HE1.out],by rw[HE2.out],by simp;omega,by simp,qH HU.out.symm,HM1.out,by simp;omega,qH (by have:=mid_at HBt.out (1+n);rwa [show (x::r).drop (1+n)=r.drop n by rw[Nat.add_comm,List.drop_succ_cons]]at this),qH (by simpa using HO1.out),HB1⟩)
    |exact⟨r.drop n,out++r.take n,some ⟨ab,ao,none⟩,A',0,c',by rw[HE1.out],by rw[HE2.out],by simp;omega,by simp,qH HU.out.symm,HM1.out,by simp;omega,qH (by rw[List.eq_nil_of_length_eq_zero (show (r.drop n).length=0 by simp;omega)];exact Bts.nil _ _),qH (by simpa using HO1.out),HB1⟩
   case measure=>omega)
end Go.Proofs.Ytefkfglkpebbmac
