/- Walks of functions, and plain words. No conditions. -/
import Derived.Test.YtefkfglkpebbmadGreatProg
import Derived.WalkKit
import Derived.WalkSpells
import Derived.WalkLawsBesides
import Derived.BigQuiet
import Derived.Deep.QuietTactic
import Derived.Outline
import Derived.Lib.Hide
import Derived.Deep.Draws
import Derived.Deep.DeepFit
import Derived.Lib.SlBytesConst
import Derived.Test.YtefkfglkpebbmadGreatRows
import Derived.ProofKit
import Derived.ChangeOld
import Derived.OpenShut
import Derived.ChangeBears
import Derived.JoinedCond
import Derived.ChangeSame
import Derived.JoinedOf
import Derived.JoinedAt
import Derived.SizedLaws
import Derived.HandedShaped
import Derived.Below
import Derived.Deep.RegionHeld3
import Derived.Shelf.Bits.Mul64
import Derived.IntWalk
set_option linter.unusedVariables false
set_option linter.unusedSimpArgs false
set_option maxRecDepth 100000
set_option maxHeartbeats 40000000
namespace Go.Proofs.YtefkfglkpebbmadGreat
open Go.RowKit
abbrev OA:=Option Addr
abbrev LU:=List UInt8
theorem qH{p:Prop}(h:p):Hid p:=Lib.hid h
variable {Y:Prop}
theorem x1gi(h:Y:=by
 go_wp2_with fail;go_ret;exact⟨rfl,rfl⟩):Y:=h
theorem x71y(h:Y:=by
 intro i hi;obtain⟨b,o,rfl,hlt,hc⟩:=h i hi;exact⟨b,o,rfl,Nat.lt_of_lt_of_le hlt hb.size,(hb.cell (p:=⟨b,o+i,none⟩) hlt).trans hc⟩):Y:=h
theorem ret_int{k:IntKind}{a b:Int}(h:a=b):Ending.returned (.int k a)=.returned (.int k b):=by rw[h]
theorem ret_bool{a b:Bool}(h:a=b):Ending.returned (.bool a)=.returned (.bool b):=by rw[h]
abbrev bv (x:UInt8):Value:=.int .u8 (x.toNat:Int)
def Bts(w:World)(A:Option Addr)(l:List UInt8):Prop:=
 ∀i,(h:i<l.length)->∃b o,A=some ⟨b,o,none⟩∧b<w.heap.size∧w.cell? ⟨b,o+i,none⟩=some (bv l[i])
theorem Bts.stays{w w':World}{A:Option Addr}{l:List UInt8}(h:Bts w A l)(hb:Below w.heap.size w w'):Bts w' A l:=by
 exact x71y
theorem Bts.nil(w:World)(A:Option Addr):Bts w A []:=fun i hi=>absurd hi (by simp)
abbrev iv (n:Int):Value:=.int .i64 n
theorem convert_const{P:Program}(t e:TypeId)(ht:P.underlying t=some (.slice e))(he:P.underlying e=some (.int .u8))(w:World)(C:Array Value)(n c g:Nat)(hg:g=w.heap.size):
  (convert t t (.slice (some ⟨g,0,none⟩) n c)).run P (w.alloc (.cells C e))=.ok (.slice (some ⟨g,0,none⟩) n c) (w.alloc (.cells C e (C.size,C.size+1))):=by
 subst hg;exact Lib.run_convert_bytes_const w t e C n c ht he
/-! Blocks in a chain of new ones -/
theorem blk_top{w:World}{g:Nat}{o:Obj}(hg:g=w.heap.size):(w.alloc o).heap[g]?=some o:=by subst hg;exact heap_alloc_new w o
theorem blk_lt{w:World}{g:Nat}{o:Obj}(h:w.heap[g]?=some o):g<w.heap.size:=by
 rcases Nat.lt_or_ge g w.heap.size with hlt|hge
 ·exact hlt
 rw[Array.getElem?_eq_none hge]at h;cases h
theorem blk_old{w:World}{g:Nat}{o o':Obj}(h:w.heap[g]?=some o'):(w.alloc o).heap[g]?=some o':=(Below.heap_alloc w o g (blk_lt h)).trans h
theorem bts_blk{w:World}{g:Nat}{l:List UInt8}{cs:Array Value}{t:TypeId}{fr:Nat×Nat}(h:w.heap[g]?=some (.cells cs t fr))(hcs:cs=(l.map bv).toArray):Bts w (some ⟨g,0,none⟩) l:=by
 subst hcs;intro i hi;refine⟨_,_,rfl,blk_lt h,?_⟩;rw[cell_of_row _ _ _ _ _ _ h];simp[List.getElem?_eq_getElem hi]
def Ret(w:World)(v:Value):Ending->World->Prop:=fun e w'=>e=.returned v∧w=w'
def RetB(w:World)(v:Value):Ending->World->Prop:=fun e w'=>e=.returned v∧Below w.heap.size w w'
theorem Ret.to{w:World}{v:Value}{e:Ending}{w':World}(h:Ret w v e w'):RetB w v e w':=by
 obtain⟨rfl,rfl⟩:=h;exact⟨rfl,Below.refl _ _⟩
def RetN(w:World)(v:Value):Ending->World->Prop:=fun e w'=>e=.returned v∧∃n,w.drewN n=w'
theorem below_drewN(w:World)(n:Nat):Below w.heap.size w (w.drewN n):=⟨rfl,rfl,rfl,Nat.le_refl _,fun _ _=>rfl⟩
theorem Below.drewN'{B:Nat}{a w:World}(h:Below B a w)(n:Nat):Below B a (w.drewN n):=⟨h.os,h.tape,h.output,h.size,h.block⟩
theorem Bts.drewN{w:World}{A:Option Addr}{l:List UInt8}(h:Bts w A l)(n:Nat):Bts (w.drewN n) A l:=h
theorem quietRet{P:Program}{f:FuncId}{args:Array Value}{w:World}{n:Nat}{v:Value}(h:Calls P f args (w.drewN n) (Ret (w.drewN n) v)):
  Calls P f args (w.drewN n) fun e w''=>e=.returned v∧∃m,w''=w.drewN m:=
 h.mono fun _ _ ⟨he,hm⟩=>⟨he,n,hm.symm⟩
theorem take_eq_succ{α:Type}{l m:List α}{k:Nat}(h:l.take k=m.take k)(hl:k<l.length)(hm:k<m.length)(e:l[k]=m[k]):l.take (k+1)=m.take (k+1):=by
 rw[List.take_succ_eq_append_getElem hl,List.take_succ_eq_append_getElem hm,h,e]
theorem ne_of_at{α:Type}{l m:List α}{k:Nat}(hl:k<l.length)(hm:k<m.length)(e:l[k]≠m[k]):l≠m:=by
 rintro rfl;exact e rfl
structure Inf where
 ver:Int
 size:Int
 sum:Int
deriving DecidableEq
structure Rec where
 gen:Int
 active:Int
 trying:Bool
 tries:Int
 floor:Int
 a:Inf
 b:Inf
deriving DecidableEq
structure Cop where
 ok:Bool
 r:Rec
deriving DecidableEq
def Inf.zero:Inf:=⟨0,0,0⟩
def Rec.zero:Rec:=⟨0,0,false,0,0,.zero,.zero⟩
def Cop.zero:Cop:=⟨false,.zero⟩
def Rec.at_(r:Rec)(k:Int):Inf:=if k=0 then r.a else r.b
def RangeOk(r:Rec):Prop:=1<=r.gen∧r.gen<=1000000∧0<=r.active∧r.active<=1∧0<=r.tries∧r.tries<=3∧1<=r.floor∧r.floor<=30
instance (r:Rec):Decidable (RangeOk r):=by unfold RangeOk;infer_instance
def InfRange(x:Inf):Prop:=0<=x.ver∧x.ver<=30∧0<=x.size∧x.size<=64∧0<=x.sum∧x.sum<=65535
instance (x:Inf):Decidable (InfRange x):=by unfold InfRange;infer_instance
def infCheck(x:Inf):Int:=if InfRange x then (if x.ver=0∧¬(x.size=0∧x.sum=0)then 3 else 0)else 2
def FormOk(r:Rec):Prop:=(r.at_ r.active).ver≠0∧(r.trying=true->(r.at_ (1-r.active)).ver≠0∧r.floor<=(r.at_ (1-r.active)).ver)∧(r.trying=false->r.tries=0)∧r.floor<=(r.at_ r.active).ver
instance (r:Rec):Decidable (FormOk r):=by unfold FormOk;infer_instance
def recCheck(r:Rec):Int:=
 if RangeOk r then
  if infCheck r.a=0 then
   if infCheck r.b=0 then (if FormOk r then 0 else 3)else infCheck r.b
  else infCheck r.a
 else 2
def copOne(c:Cop):Int:=if c.ok=true then recCheck c.r else if c.r=Rec.zero then 0 else 3
def copCheck(c d:Cop):Int:=if copOne c=0 then (if copOne d=0 then (if c.ok=false∧d.ok=false then 7 else 0)else copOne d)else copOne c
theorem copOne_lost0{c:Cop}(h:c.ok=false)(h1:c.r=Rec.zero):copOne c=0:=by unfold copOne;rw[if_neg (by simp[h]),if_pos h1]
theorem copOne_lost3{c:Cop}(h:c.ok=false)(h1:c.r≠Rec.zero):copOne c=3:=by unfold copOne;rw[if_neg (by simp[h]),if_neg h1]
theorem copOne_ok{c:Cop}(h:c.ok=true):copOne c=recCheck c.r:=by unfold copOne;rw[if_pos h]
theorem copCheck_1{c d:Cop}{n:Int}(h:copOne c=n)(hn:n≠0):copCheck c d=n:=by unfold copCheck;rw[if_neg (by omega),h]
theorem copCheck_2{c d:Cop}{n:Int}(h0:copOne c=0)(h:copOne d=n)(hn:n≠0):copCheck c d=n:=by unfold copCheck;rw[if_pos h0,if_neg (by omega),h]
theorem copCheck_3{c d:Cop}(h0:copOne c=0)(h:copOne d=0):copCheck c d=if c.ok=false∧d.ok=false then 7 else 0:=by unfold copCheck;rw[if_pos h0,if_pos h]
theorem infCheck_bad{x:Inf}(h:¬InfRange x):infCheck x=2:=by unfold infCheck;rw[if_neg h]
theorem infCheck_form{x:Inf}(h:InfRange x)(h1:x.ver=0)(h2:¬(x.size=0∧x.sum=0)):infCheck x=3:=by unfold infCheck;rw[if_pos h,if_pos ⟨h1,h2⟩]
theorem infCheck_ok{x:Inf}(h:InfRange x)(h1:x.ver=0->x.size=0∧x.sum=0):infCheck x=0:=by unfold infCheck;rw[if_pos h,if_neg (fun h2=>h2.2 (h1 h2.1))]
theorem recCheck_a{r:Rec}{n:Int}(h:RangeOk r)(h1:infCheck r.a=n)(hn:n≠0):recCheck r=n:=by unfold recCheck;rw[if_pos h,if_neg (by omega),h1]
theorem recCheck_b{r:Rec}{n:Int}(h:RangeOk r)(h0:infCheck r.a=0)(h1:infCheck r.b=n)(hn:n≠0):recCheck r=n:=by unfold recCheck;rw[if_pos h,if_pos h0,if_neg (by omega),h1]
theorem recCheck_form{r:Rec}(h:RangeOk r)(h0:infCheck r.a=0)(h1:infCheck r.b=0)(h2:¬FormOk r):recCheck r=3:=by unfold recCheck;rw[if_pos h,if_pos h0,if_pos h1,if_neg h2]
theorem recCheck_ok{r:Rec}(h:RangeOk r)(h0:infCheck r.a=0)(h1:infCheck r.b=0)(h2:FormOk r):recCheck r=0:=by unfold recCheck;rw[if_pos h,if_pos h0,if_pos h1,if_pos h2]
theorem recCheck_bad{r:Rec}(h:¬RangeOk r):recCheck r=2:=by unfold recCheck;rw[if_neg h]
section
open Go.RowKit Go.WideShapes
abbrev CR (α:Type):=World->List Value->α->Prop
def rInt:CR Int:=fun _ cs n=>cs=[.int .i64 n]∧-9223372036854775808<=n∧n<=9223372036854775807
def rBool:CR Bool:=fun _ cs b=>cs=[.bool b]
def rByte:CR UInt8:=fun _ cs x=>cs=[bv x]
def Elems{α:Type}(size:Nat)(R:CR α)(w:World)(A:OA)(xs:List α):Prop:=
 ∀i,(h:i<xs.length)->∃b o,A=some ⟨b,o,none⟩∧b<w.heap.size∧∃cs,cs.length=size∧(∀j,(hj:j<cs.length)->w.cell? ⟨b,o+i*size+j,none⟩=some cs[j])∧R w cs xs[i]
def rSliceM{α:Type}(size:Nat)(R:CR α)(M:Nat):CR (List α):=fun w cs xs=>
 ∃A c,cs=[.slice A xs.length c]∧xs.length<=c∧xs.length<=M∧Elems size R w A xs
abbrev rSlice {α:Type} (size:Nat) (R:CR α):CR (List α):=rSliceM size R 140737488351232
theorem Elems.bts{w:World}{A:OA}{l:LU}(h:Elems 1 rByte w A l):Bts w A l:=by
 intro i hi;obtain⟨b,o,rfl,hlt,cs,hl,hc,hr⟩:=h i hi;have hr':cs=[bv l[i]]:=hr;subst hr';exact⟨b,o,rfl,hlt,by simpa using hc 0 (by simp)⟩
def Stays{α:Type}(R:CR α):Prop:=∀w w' cs x,R w cs x->Below w.heap.size w w'->R w' cs x
theorem Elems.stays{α:Type}{size:Nat}{R:CR α}(hR:Stays R){w w':World}{A:OA}{xs:List α}(h:Elems size R w A xs)(hb:Below w.heap.size w w'):Elems size R w' A xs:=by
 intro i hi;obtain⟨b,o,rfl,hlt,cs,hl,hc,hr⟩:=h i hi;exact⟨b,o,rfl,Nat.lt_of_lt_of_le hlt hb.size,cs,hl,fun j hj=>(hb.cell (p:=⟨b,o+i*size+j,none⟩) hlt).trans (hc j hj),hR _ _ _ _ hr hb⟩
/-! ### Readings out of the form's own reading -/
section
variable {H:Type} {enc:TypeId×Value->H} {P:Program} {w:World} {sp:Nat->Bool} {held:Bool}
def TyFine(P:Program):Prop:=laidOutB P=true∧∀t e,t<P.types.size->P.underlying t=some (.slice e)->0<P.bytesOf e
def Wt(P:Program)(t:TypeId)(d:DataW H):Prop:=TyFine P∧t<P.types.size∧∀x∈d.weights P t,x<=140737488351232
theorem wt_all{e:TypeId}:∀(l:List (DataW H)) (d:DataW H),d∈l->∀x∈d.weights P e,x∈DataW.weightsAll P e l
 |[],_,h,_,_=>by cases h
 |y::r,d,h,x,hx=>by
  simp only[DataW.weightsAll,List.mem_append];rcases List.mem_cons.1 h with rfl|h
  ·exact .inl hx
  exact .inr (wt_all r d h x hx)
theorem wt_each:∀(ts:List TypeId) (l:List (DataW H)) (i:Nat) (t:TypeId) (d:DataW H),ts[i]?=some t->l[i]?=some d->∀x∈d.weights P t,x∈DataW.weightsEach P ts l
 |[],_,_,_,_,h,_,_,_=>by simp at h
 |_::_,[],_,_,_,_,h,_,_=>by simp at h
 |t'::ts,y::r,0,t,d,h,g,x,hx=>by
  simp at h g;subst h g;simp only[DataW.weightsEach,List.mem_append];exact .inl hx
 |t'::ts,y::r,i+1,t,d,h,g,x,hx=>by
  simp only[DataW.weightsEach,List.mem_append];exact .inr (wt_each ts r i t d (by simpa using h) (by simpa using g) x hx)
theorem wt_slice{t e:TypeId}(ht:P.underlying t=some (.slice e)){a b:List (DataW H)}(h:Wt P t (.slice a b)):(a.length+b.length)*P.bytesOf e<=140737488351232∧∀d∈a,Wt P e d:=by
 obtain⟨h2,h1,h⟩:=h;simp only[DataW.weights,ht,List.mem_cons,List.mem_append]at h;exact⟨h _ (.inl rfl),fun d hd=>⟨h2,kid_slice h2.1 h1 ht,fun x hx=>h x (.inr (.inl (wt_all a d hd x hx)))⟩⟩
theorem wt_struct{t:TypeId}{fs:Array Field}(ht:P.underlying t=some (.struct fs)){l:List (DataW H)}(h:Wt P t (.agg l))(i:Nat)(f:Field)(d:DataW H)(hf:fs[i]?=some f)(hd:l[i]?=some d):Wt P f.type d:=by
 obtain⟨h2,h1,h⟩:=h;simp only[DataW.weights,ht]at h;exact⟨h2,(kid_struct h2.1 h1 ht).1 f (List.mem_of_getElem? (i:=i) (by simp[hf])),fun x hx=>h x (wt_each _ l i f.type d (by simp[hf]) hd x hx)⟩
theorem wt_array{t e:TypeId}{m:Nat}(ht:P.underlying t=some (.array m e)){l:List (DataW H)}(h:Wt P t (.agg l))(d:DataW H)(hd:d∈l):Wt P e d:=by
 obtain⟨h2,h1,h⟩:=h;simp only[DataW.weights,ht]at h;exact⟨h2,(kid_array h2.1 h1 ht).1,fun x hx=>h x (wt_all l d hd x hx)⟩
theorem wt_more:∀(ts us:List TypeId) (l:List (DataW H)),l.length<=ts.length->DataW.weightsEach P (ts++us) l=DataW.weightsEach P ts l
 |[],us,[],_=>by cases us<;>simp[DataW.weightsEach]
 |[],_,_::_,h=>by simp at h
 |_::_,_,[],_=>by simp[DataW.weightsEach]
 |t::ts,us,y::r,h=>by
  simp only[List.cons_append,DataW.weightsEach];rw[wt_more ts us r (by simpa using h)]
def ReadBy{α:Type}(enc:TypeId×Value->H)(P:Program)(w:World)(sp:Nat->Bool)(held:Bool)(t:TypeId)(R:CR α):Prop:=
 ∀fuel cs d ps,DataW.trod enc P w 0 sp held fuel t cs=some (d,ps)->Wt P t d->∃x,R w cs x
theorem readBy_int{t:TypeId}(ht:P.underlying t=some (.int .i64)):ReadBy enc P w sp held t rInt:=by
 intro fuel cs d ps h _;obtain⟨n,rfl,_,hwf⟩:=DataW.trod_int ht h;refine⟨n,rfl,?_⟩;simpa[Lit.wf,IntKind.min,IntKind.max,IntKind.signed,IntKind.bits]using hwf
theorem readBy_bool{t:TypeId}(ht:P.underlying t=some .bool):ReadBy enc P w sp held t rBool:=by
 intro fuel cs d ps h _;obtain⟨n,rfl,_⟩:=DataW.trod_bool ht h;exact⟨n,rfl⟩
theorem readBy_byte{t:TypeId}(ht:P.underlying t=some (.int .u8)):ReadBy enc P w sp held t rByte:=by
 intro fuel cs d ps h _;obtain⟨n,rfl,_,hwf⟩:=DataW.trod_int ht h;have hb:0<=n∧n<=255:=by simpa[Lit.wf,IntKind.min,IntKind.max,IntKind.signed,IntKind.bits]using hwf
 refine⟨UInt8.ofNat n.toNat,?_⟩;have e:((UInt8.ofNat n.toNat).toNat:Int)=n:=by
  rw[UInt8.toNat_ofNat'];omega
 show _=[bv _];unfold bv;rw[e]
theorem readBy_sliceM{α:Type}{t e:TypeId}{size M:Nat}{R:CR α}(ht:P.underlying t=some (.slice e))(hs:P.cellsOf e=size)(hs0:0<size)(hR:ReadBy enc P w sp held e R)(hM:∀n,0<P.bytesOf e->n*P.bytesOf e<=140737488351232->n<=M):ReadBy enc P w sp held t (rSliceM size R M):=by
 intro fuel cs d ps h hb;rcases DataW.trod_slice ht h with ⟨rfl,_⟩|⟨a,len,cap,elems,rest,n,_,rfl,hx,_,hl,_,hlen,hel,_⟩
 ·exact⟨[],none,0,rfl,Nat.le_refl _,by simp,fun i hi=>absurd hi (by simp)⟩
 have hx1:d=.slice (elems.map (·.1)) (rest.map (·.1)):=congrArg Prod.fst hx;subst hx1;have hpos:0<P.bytesOf e:=hb.1.2 _ _ hb.2.1 ht;have hb:=wt_slice ht hb;simp only[List.length_map]at hb;have hlen1:len<=M:=hM _ hpos (Nat.le_trans (Nat.mul_le_mul_right _ (by omega:len<=elems.length+rest.length)) hb.1);have each:∀i,i<len->∃x cs',w.cells? 0 (a.add (i*size)) size=some cs'∧R w cs' x:=by
  intro i hi;have h1:=hel i hi;rw[hs,List.getElem?_eq_getElem (by omega),Option.bind_eq_some_iff]at h1;obtain⟨cs',hc,hd⟩:=h1;obtain⟨x,hx⟩:=hR n cs' _ _ hd (hb.2 _ (List.mem_map.2 ⟨_,List.getElem_mem _,rfl⟩));exact⟨x,cs',hc,hx⟩
 let f:Fin len->α:=fun i=>Classical.choose (each i.1 i.2)
 have hf:∀i:Fin len,∃cs',w.cells? 0 (a.add (i.1*size)) size=some cs'∧R w cs' (f i):=fun i=>Classical.choose_spec (each i.1 i.2);have cell:∀(i:Nat) (cs':List Value),w.cells? 0 (a.add (i*size)) size=some cs'->cs'.length=size∧∀j,(hj:j<cs'.length)->w.cell? ((a.add (i*size)).add j)=some cs'[j]:=by
  intro i cs' hc;unfold World.cells? at hc;rw[if_pos (Nat.zero_le _)]at hc;have hl':cs'.length=size:=(mapM_some_length hc).trans List.length_range;refine⟨hl',fun j hj=>?_⟩;have:=mapM_some_get hc j j (List.getElem?_range (by omega));rw[this,List.getElem?_eq_getElem hj]
 refine⟨List.ofFn f,some a,cap,by simp,by simpa using hl,by simp;omega,fun i hi=>?_⟩;simp at hi;obtain⟨cs1,hc1,_⟩:=hf ⟨0,by omega⟩;obtain⟨cs',hc,hr⟩:=hf ⟨i,hi⟩;obtain⟨hl1,h1⟩:=cell 0 cs1 (by simpa using hc1);obtain⟨hl',hj⟩:=cell i cs' hc;obtain⟨b,o,spot⟩:=a;have hz:=h1 0 (by omega);have hspot:spot=none:=by
  have:w.cell? ⟨b,o,spot⟩=some cs1[0]:=by simpa[Addr.add]using hz
  unfold World.cell? at this;split at this<;>simp_all
 subst hspot;have hadd:∀k:Nat,(⟨b,o,none⟩:Addr).add k=⟨b,o+k,none⟩:=by
  intro k;unfold Addr.add;split<;>simp_all
 refine⟨b,o,rfl,?_,cs',hl',fun j hj'=>?_,by simpa using hr⟩
 ·have:w.cell? ⟨b,o,none⟩=some cs1[0]:=by simpa[Addr.add]using hz
  rcases Nat.lt_or_ge b w.heap.size with h|h
  ·exact h
  unfold World.cell? at this;rw[Array.getElem?_eq_none h]at this;simp at this
 have:=hj j hj';rw[hadd]at this;have h2:(⟨b,o+i*size,none⟩:Addr).add j=⟨b,o+i*size+j,none⟩:=by unfold Addr.add;split<;>simp_all
 rw[h2]at this;exact this
theorem readBy_slice{α:Type}{t e:TypeId}{size:Nat}{R:CR α}(ht:P.underlying t=some (.slice e))(hs:P.cellsOf e=size)(hs0:0<size)(hR:ReadBy enc P w sp held e R):ReadBy enc P w sp held t (rSlice size R):=
 readBy_sliceM ht hs hs0 hR fun _ h1 h2=>Nat.le_trans (Nat.le_mul_of_pos_right _ h1) h2
theorem field_of{t:TypeId}{fs:Array Field}{fuel:Nat}{cs:List Value}{d:DataW H}{ps:List MemPlace}(ht:P.underlying t=some (.struct fs))(h:DataW.trod enc P w 0 sp held fuel t cs=some (d,ps))(hb:Wt P t d):
  cs.length=P.cellsOf t∧∀(i:Nat) (f:Field),fs[i]?=some f->∀{α:Type} {R:CR α},ReadBy enc P w sp held f.type R->∃x,R w ((cs.drop f.offset).take (P.cellsOf f.type)) x:=by
 obtain⟨xs,n,_,hx,hl,hlen,hf⟩:=DataW.trod_struct ht h;have hx1:d=.agg (xs.map (·.1)):=congrArg Prod.fst hx;subst hx1;refine⟨hl,fun i f hi α R hR=>?_⟩;have h1:=hf i f hi;have hi':i<xs.length:=by rw[hlen];exact(Array.getElem?_eq_some_iff.1 hi).1
 rw[List.getElem?_eq_getElem hi']at h1;exact hR n _ _ _ h1 (wt_struct ht hb i f _ hi (by rw[List.getElem?_map,List.getElem?_eq_getElem hi'];rfl))
theorem place_of{t e:TypeId}{m fuel:Nat}{cs:List Value}{d:DataW H}{ps:List MemPlace}(ht:P.underlying t=some (.array m e))(h:DataW.trod enc P w 0 sp held fuel t cs=some (d,ps))(hb:Wt P t d):
  cs.length=P.cellsOf t∧∀(i:Nat),i<m->∀{α:Type} {R:CR α},ReadBy enc P w sp held e R->∃x,R w ((cs.drop (i*P.cellsOf e)).take (P.cellsOf e)) x:=by
 obtain⟨xs,n,_,hx,hl,hlen,hf⟩:=DataW.trod_array ht h;have hx1:d=.agg (xs.map (·.1)):=congrArg Prod.fst hx;subst hx1;refine⟨hl,fun i hi α R hR=>?_⟩;have h1:=hf i hi;rw[List.getElem?_eq_getElem (by omega)]at h1;exact hR n _ _ _ h1 (wt_array ht hb _ (List.mem_map.2 ⟨_,List.getElem_mem _,rfl⟩))
theorem trodAll_below(hl:laidOutB P=true){W W':World}(hb:Below W.heap.size W W'):∀(ts:List TypeId) (vs:List Value) (ds:List (DataW H)) (ps:List MemPlace),
  (ts.all fun t=>P.readableRec t&&decide (t<P.types.size))=true->DataW.TrodAll enc P W 0 (fun _=>true) true ts vs ds ps->DataW.TrodAll enc P W' 0 (fun b=>decide (b<W.heap.size)) true ts vs ds ps
 |[],[],[],_,_,h=>h
 |t::ts,v::vs,d::ds,ps,ha,⟨p,q,h1,h2,e⟩=>by
  simp only[List.all_cons,Bool.and_eq_true,decide_eq_true_eq]at ha;refine⟨p,q,?_,trodAll_below hl hb ts vs ds q (by simpa using ha.2) h2,e⟩;refine Below.trod hl ha.1.1 ha.1.2 h1 hb ?_;obtain⟨m,hm⟩:=h1;exact DataW.trod_lt m _ _ _ hm
end
theorem arg_read{H:Type}{enc:TypeId×Value->H}{P:Program}{w:World}{α:Type}{R:CR α}{t:TypeId}{v:Value}{d:DataW H}{p:List MemPlace}(h:DataW.Trod enc P w 0 (fun _=>true) true t v d p)(hR:ReadBy enc P w (fun _=>true) true t R)(hb:Wt P t d):
  ∃x,R w v.cells.toList x:=by
 obtain⟨fuel,hf⟩:=h;exact hR fuel _ d p hf hb
end
section
open Go.RowKit Go.WideShapes Go.ChangeShapes Go.ChangeAt
theorem own:ownKnob Tryz.prog.godebug=none:=by kernel_rfl
theorem laidOut:laidOutB Tryz.prog=true:=by kernel_rfl
theorem tyFine:TyFine Tryz.prog:=by
 refine⟨laidOut,fun t e g he=>?_⟩;have h:(List.range Tryz.prog.types.size).all (fun t=>match Tryz.prog.underlying t with|some (.slice e)=>decide (0<Tryz.prog.bytesOf e)|_=>true)=true:=by kernel_rfl
 have:=List.all_eq_true.1 h t (List.mem_range.2 g);rw[he]at this;exact of_decide_eq_true this
theorem contract_of{P:Program}(laidOut:laidOutB P=true){H:Type}{enc:TypeId×Value->H}(f:FuncId)(fn:Func)(s:ChangeSpec)(t:TypeId)(ht:P.underlying t=some .bool)(hrt:fn.resultTypes.toList=[t])(hsz:fn.resultTypes.size=1)
  (hread:(fn.params.toList.all fun t=>P.readableRec t&&decide (t<P.types.size))=true)
  (hspec:∀ds:List (DataW H),ds.length=fn.params.size->s.fn H (ds++[])={results:=[.lit (.bool true)],args:=ds}) (hvars:s.vars=[])
  (walk:∀(W:World) (base:Nat) (args:Array Value) (ds:List (DataW H)) (p:List MemPlace),DataW.TrodAll enc P W 0 (fun _=>true) true fn.params.toList args.toList ds p->
    (∀(j:Nat) t v,fn.params[j]?=some t->args[j]?=some v->Value.okWide P W .any base t v)->(∀x∈DataW.weightsEach P fn.params.toList ds,x<=140737488351232)->Calls P f args W (RetB W (.bool true)))
  (W:World) (base:Nat) (args:Array Value) (ds gs:List (DataW H)) (before:List MemPlace)
  (hval:∀(j:Nat) t v,fn.params[j]?=some t->args[j]?=some v->Value.okWide P W .any base t v)
  (hW:DataW.Whole enc P fn.params.toList s.vars false W args.toList ds gs before)
  (hk:(DataW.weightsEach P (fn.params.toList++s.plain.varTypes P) (ds++gs)).all (· <=reachBytes)=true):
  Calls P f args W fun e W'=>∃v,e=.returned v∧s.post enc P fn false true false false W args v W':=by
 have hW':=hW;obtain⟨p,q,hA,hV,rfl,hfz,hnd⟩:=hW;have hV':DataW.TrodVars enc P W (fun _=>true) [] gs q:=by rw[<-hvars];exact hV
 obtain⟨rfl,rfl⟩:=trodVars_none hV';have hlen:∀(ts:List TypeId) (vs:List Value) (ds:List (DataW H)) (p:List MemPlace),DataW.TrodAll enc P W 0 (fun _=>true) true ts vs ds p->ds.length=ts.length:=by
  intro ts
  induction ts with
  |nil=>intro vs ds p h;obtain⟨_,rfl,_⟩:=trodAll_nil h;rfl
  |cons t ts ih=>
   intro vs ds p h;obtain⟨v,vs',d,ds',p',q',rfl,rfl,rfl,_,h2⟩:=trodAll_cons h;simp[ih _ _ _ h2]
 have hl:=hlen _ _ _ _ hA;have hb:∀x∈DataW.weightsEach P fn.params.toList ds,x<=140737488351232:=by
  rw[List.append_nil,wt_more _ _ _ (by omega)]at hk;intro x hx;have:=List.all_eq_true.1 hk x hx;exact of_decide_eq_true this
 refine(walk W base args ds p hA hval hb).mono fun e W' ⟨he,bel⟩=>?_;subst he;refine⟨_,rfl,?_⟩;have hs:s.fn H (ds++[])={results:=[.lit (.bool true)],args:=ds}:=hspec ds (by simpa using hl);have hv:s.vars=[]:=hvars;refine⟨ds,[],p++[],[],p,[],hW',?_,?_,?_,bel.frame _,fun h=>by cases h⟩
 ·rw[hs,hrt,hsz];exact trodAll_mk1 (shut_bool ht _)
 ·rw[hs];exact trodAll_below laidOut bel _ _ _ _ hread hA
 rw[hs,hv];rfl
end
section
open Go.RowKit Go.WideShapes Go.ChangeShapes Go.ChangeAt
def ArgAgg{α:Type}(R:CR α)(W:World)(v:Value)(x:α):Prop:=∃cs:List Value,v=.agg cs.toArray∧R W cs x
section
variable {H:Type} {enc:TypeId×Value->H} {P:Program} {w:World} {base:Nat} {t:TypeId} {v:Value} {d:DataW H} {p:List MemPlace}
theorem argAgg_of{α:Type}{R:CR α}(ht:(∃fs,P.underlying t=some (.struct fs))∨∃n e,P.underlying t=some (.array n e))
  (hR:ReadBy enc P w (fun _=>true) true t R) (ho:Value.okWide P w .any base t v) (h:DataW.Trod enc P w 0 (fun _=>true) true t v d p) (hb:Wt P t d):∃x,ArgAgg R w v x:=by
 obtain⟨x,hx⟩:=arg_read h hR hb;have:∃cs,v=.agg cs:=by
  rcases ht with ⟨fs,ht⟩|⟨n,e,ht⟩<;>simp only[Value.okWide,ht]at ho<;>exact⟨_,ho.choose_spec.1⟩
 obtain⟨cs,rfl⟩:=this;exact⟨x,cs.toList,by simp,hx⟩
end
end
def pre:List UInt8->List UInt8->Nat
 |x::a,y::b=>if x=y then pre a b+1 else 0
 |_,_=>0
def preAt(old b:LU)(i k:Nat):Nat:=pre (old.drop i) (b.drop k)
def longTo(old b:LU)(k:Nat):Nat->Nat×Nat
 |0=>(0,0)
 |i+1=>if (longTo old b k i).2<preAt old b i k then (i,preAt old b i k)else longTo old b k i
def longest(old b:LU)(k:Nat):Nat×Nat:=longTo old b k old.length
structure Stp where
 at_:Int
 len:Int
 data:List UInt8
deriving DecidableEq
def Stp.n(o:Stp):Int:=o.len+o.data.length
def Stp.form(o:Stp):Prop:=(o.len=0->o.at_=0∧o.data≠[]∧o.data.length<=64)∧(o.len≠0->o.data=[])
instance (o:Stp):Decidable o.form:=by unfold Stp.form;infer_instance
def Stp.in_(o:Stp)(old:Int):Prop:=0<=o.len∧0<=o.at_∧o.at_+o.len<=old
instance (o:Stp) (old:Int):Decidable (o.in_ old):=by unfold Stp.in_;infer_instance
def stepsCheck(old:Int):List Stp->Int->Int
 |[],size=>if size=0 then 0 else 3
 |o::l,size=>if ¬o.form then 3 else if ¬o.in_ old then 2 else if size<o.n then 1 else stepsCheck old l (size-o.n)
def deltaCheck(l:List Stp)(old size:Int):Int:=
 if 40<l.length∨old<0∨64<old∨size<0∨64<size then 1 else stepsCheck old l size
def made(l:List Stp):Int:=(l.map Stp.n).sum
theorem made_nil:made []=0:=rfl
theorem made_cons(o:Stp)(l:List Stp):made (o::l)=o.n+made l:=by simp[made]
theorem made_append(l m:List Stp):made (l++m)=made l+made m:=by simp[made]
theorem stepsCheck_ok(old:Int):∀(l:List Stp) (size:Int),0<=size->(stepsCheck old l size=0↔(∀o∈l,o.form∧o.in_ old)∧made l=size)
 |[],size,h=>by simp[stepsCheck,made_nil];constructor<;>(intro e;omega)
 |o::l,size,h=>by
  unfold stepsCheck;by_cases h1:o.form
  ·rw[if_neg (by simpa using h1)];by_cases h2:o.in_ old
   ·rw[if_neg (by simpa using h2)];have hn:0<=o.n:=by unfold Stp.n;unfold Stp.in_ at h2;omega
    have hm:(∀o∈l,o.form∧o.in_ old)->0<=made l:=by
     intro hl;clear h h1 h2 hn
     induction l with
     |nil=>simp[made_nil]
     |cons x l ih=>
      rw[made_cons];have:=ih (fun y hy=>hl y (by simp[hy]));have hx:=(hl x (by simp)).2;unfold Stp.in_ at hx;unfold Stp.n;omega
    by_cases h3:size<o.n
    ·rw[if_pos h3];constructor
     ·intro e;omega
     rintro⟨g1,g2⟩;rw[made_cons]at g2;have:=hm (fun y hy=>g1 y (by simp[hy]));omega
    rw[if_neg h3,stepsCheck_ok old l _ (by omega),made_cons];constructor
    ·rintro⟨g1,g2⟩;refine⟨fun y hy=>?_,by omega⟩;rcases List.mem_cons.1 hy with rfl|hy
     ·exact⟨h1,h2⟩
     exact g1 y hy
    rintro⟨g1,g2⟩;exact⟨fun y hy=>g1 y (by simp[hy]),by omega⟩
   rw[if_pos h2];constructor
   ·intro e;omega
   rintro⟨g1,_⟩;exact absurd (g1 o (by simp)).2 h2
  rw[if_pos h1];constructor
  ·intro e;omega
  rintro⟨g1,_⟩;exact absurd (g1 o (by simp)).1 h1
structure DOk(l:List Stp)(old size:Int):Prop where
 many:l.length<=40
 o0:0<=old
 o1:old<=64
 s0:0<=size
 s1:size<=64
 each:∀o∈l,o.form∧o.in_ old
 sum:made l=size
theorem deltaCheck_ok{l:List Stp}{old size:Int}:deltaCheck l old size=0↔DOk l old size:=by
 unfold deltaCheck;by_cases h:40<l.length∨old<0∨64<old∨size<0∨64<size
 ·rw[if_pos h];constructor
  ·intro e;omega
  rintro⟨h1,h2,h3,h4,h5,_,_⟩;omega
 rw[if_neg h,stepsCheck_ok _ _ _ (by omega)];constructor
 ·rintro⟨h1,h2⟩;exact⟨by omega,by omega,by omega,by omega,by omega,h1,h2⟩
 intro g;exact⟨g.each,g.sum⟩
def Stp.piece(old:LU)(o:Stp):List UInt8:=(old.drop o.at_.toNat).take o.len.toNat++o.data
def applied(old:LU)(l:List Stp):List UInt8:=(l.map (Stp.piece old)).flatten
theorem applied_append(old:LU)(l m:List Stp):applied old (l++m)=applied old l++applied old m:=by simp[applied]
theorem applied_cons(old:LU)(o:Stp)(l:List Stp):applied old (o::l)=o.piece old++applied old l:=by simp[applied]
theorem applied_one(old:LU)(o:Stp):applied old [o]=o.piece old:=by simp[applied]
theorem piece_len{old:LU}{o:Stp}(h:o.in_ old.length):((o.piece old).length:Int)=o.n:=by
 unfold Stp.in_ at h;unfold Stp.piece Stp.n;rw[List.length_append,List.length_take,List.length_drop];omega
theorem applied_len{old:LU}:∀{l:List Stp},(∀o∈l,o.in_ old.length)->((applied old l).length:Int)=made l
 |[],_=>rfl
 |o::l,h=>by
  rw[applied_cons,made_cons,List.length_append];have h1:=piece_len (h o (by simp));have h2:=applied_len (l:=l) (fun y hy=>h y (by simp[hy]));omega
/-! ### Diff -/
def addByte:List Stp->UInt8->List Stp
 |[],x=>[⟨0,0,[x]⟩]
 |[o],x=>if 0<o.len then [o,⟨0,0,[x]⟩] else [⟨o.at_,o.len,o.data++[x]⟩]
 |o::p::l,x=>o::addByte (p::l) x
def diffStep(old b:LU)(p:Nat×List Stp):Nat×List Stp:=
 if p.1<b.length then
  (if 4<=(longest old b p.1).2 then (p.1+(longest old b p.1).2,p.2++[⟨(longest old b p.1).1,(longest old b p.1).2,[]⟩])else (p.1+1,addByte p.2 (b.getD p.1 0)))
 else p
def diffN(old b:LU):Nat->Nat×List Stp
 |0=>(0,[])
 |k+1=>diffStep old b (diffN old b k)
def diffed(old b:LU):List Stp:=(diffN old b b.length).2
def apart:List Stp->Prop
 |[]=>True
 |[_]=>True
 |o::p::l=>(o.len=0->p.len≠0)∧apart (p::l)
/-! ### Parts -/
theorem DOk.take{l:List Stp}{old size:Int}(h:DOk l old size)(k:Nat):DOk (l.take k) old (made (l.take k))∧DOk (l.drop k) old (size-made (l.take k))∧0<=made (l.take k)∧made (l.take k)<=size:=by
 have hs:made (l.take k)+made (l.drop k)=size:=by rw[<-made_append,List.take_append_drop];exact h.sum
 have h3:∀m:List Stp,(∀o∈m,o∈l)->0<=made m:=by
  intro m hm
  induction m with
  |nil=>simp[made_nil]
  |cons x m ih=>
   have hx:=(h.each x (hm x (by simp))).2;have:=ih (fun y hy=>hm y (by simp[hy]));rw[made_cons];unfold Stp.in_ at hx;unfold Stp.n;omega
 have h1:=h3 (l.take k) (fun o ho=>List.mem_of_mem_take ho);have h2:=h3 (l.drop k) (fun o ho=>List.mem_of_mem_drop ho);have hz:=h.s1;have hm:=h.many;refine⟨⟨by rw[List.length_take];omega,h.o0,h.o1,h1,by omega,fun o ho=>h.each o (List.mem_of_mem_take ho),rfl⟩,
  ⟨by rw[List.length_drop];omega,h.o0,h.o1,by omega,by omega,fun o ho=>h.each o (List.mem_of_mem_drop ho),by omega⟩,h1,by omega⟩
section
open Go.RowKit Go.WideShapes Go.ChangeShapes Go.ChangeAt
def I64(n:Int):Prop:= -9223372036854775808<=n∧n<=9223372036854775807
def rOp:CR Stp:=fun w cs o=>∃B c,cs=[iv o.at_,iv o.len,.slice B o.data.length c]∧o.data.length<=c∧o.data.length<=140737488351232∧Bts w B o.data∧I64 o.at_∧I64 o.len
theorem stays_op:Stays rOp:=by
 rintro w w' cs o ⟨B,c,rfl,h1,h2,h3,h4,h5⟩ hb;exact⟨B,c,rfl,h1,h2,h3.stays hb,h4,h5⟩
abbrev Sps (w:World) (A:OA) (l:List Stp):Prop:=Elems 3 rOp w A l
theorem Sps.stays{w w':World}{A:OA}{l:List Stp}(h:Sps w A l)(hb:Below w.heap.size w w'):Sps w' A l:=Elems.stays stays_op h hb
theorem Sps.nil(w:World)(A:OA):Sps w A []:=fun i hi=>absurd hi (by simp)
theorem Sps.at_{w:World}{A:OA}{l:List Stp}(h:Sps w A l){i:Nat}(hi:i<l.length):∃b o B c,A=some ⟨b,o,none⟩∧b<w.heap.size∧
  w.cell? ⟨b,o+i*3,none⟩=some (iv l[i].at_)∧w.cell? ⟨b,o+i*3+1,none⟩=some (iv l[i].len)∧w.cell? ⟨b,o+i*3+2,none⟩=some (.slice B l[i].data.length c)∧
  l[i].data.length<=c∧l[i].data.length<=140737488351232∧Bts w B l[i].data∧I64 l[i].at_∧I64 l[i].len:=by
 obtain⟨b,o,rfl,hlt,cs,hl,hc,B,c,rfl,h1,h2,h3,h4,h5⟩:=h i hi;exact⟨b,o,B,c,rfl,hlt,hc 0 (by simp),hc 1 (by simp),hc 2 (by simp),h1,h2,h3,h4,h5⟩
section
variable {H:Type} {enc:TypeId×Value->H} {P:Program} {w:World} {sp:Nat->Bool} {held:Bool}
theorem bts_rSlice{cs:List Value}{l:LU}(h:rSlice 1 rByte w cs l):∃B c,cs=[.slice B l.length c]∧l.length<=c∧l.length<=140737488351232∧Bts w B l:=by
 obtain⟨A,c,rfl,h1,h2,h3⟩:=h;exact⟨A,c,rfl,h1,h2,h3.bts⟩
theorem readBy_op{t:TypeId}{f0 f1 f2:Field}{e:TypeId}(ht:P.underlying t=some (.struct #[f0,f1,f2]))(hs:P.cellsOf t=3)
  (o0:f0.offset=0) (o1:f1.offset=1) (o2:f2.offset=2) (k0:P.cellsOf f0.type=1) (k1:P.cellsOf f1.type=1) (k2:P.cellsOf f2.type=1)
  (t0:P.underlying f0.type=some (.int .i64)) (t1:P.underlying f1.type=some (.int .i64)) (t2:P.underlying f2.type=some (.slice e)) (he:P.underlying e=some (.int .u8)) (hes:P.cellsOf e=1):ReadBy enc P w sp held t rOp:=by
 intro fuel cs d ps h hb;obtain⟨hl,hf⟩:=field_of ht h hb;obtain⟨a,ha⟩:=hf 0 f0 rfl (readBy_int t0);obtain⟨b,hb⟩:=hf 1 f1 rfl (readBy_int t1);obtain⟨c,hc⟩:=hf 2 f2 rfl (readBy_slice t2 hes (by omega) (readBy_byte he));rw[hs]at hl
 match cs,hl with
 |[x,y,z],_=>
  rw[o0,k0]at ha;rw[o1,k1]at hb;rw[o2,k2]at hc;obtain⟨ha,ha'⟩:=ha;obtain⟨hb,hb'⟩:=hb;obtain⟨B,n,hz,h1,h2,h3⟩:=bts_rSlice hc;simp at ha hb hz;subst ha hb hz;exact⟨⟨a,b,c⟩,B,n,rfl,h1,h2,h3,ha',hb'⟩
end
theorem reads_op{H:Type}{enc:TypeId×Value->H}{w:World}{sp:Nat->Bool}{held:Bool}:ReadBy enc Tryz.prog w sp held 122 rOp:=
 readBy_op Tryz.underlying122 (by kernel_rfl) rfl rfl rfl (by kernel_rfl) (by kernel_rfl) (by kernel_rfl) Tryz.underlying3 Tryz.underlying3 Tryz.underlying23 Tryz.underlying5 (by kernel_rfl)
end
structure Pat where
 from_:Int
 to_:Int
 old:Int
 new_:Int
 size:Int
 ops:List Stp
deriving DecidableEq
def Pat.zero:Pat:=⟨0,0,0,0,0,[]⟩
def Pat.range(p:Pat):Prop:=1<=p.from_∧p.from_<=30∧1<=p.to_∧p.to_<=30∧0<=p.old∧p.old<=65535∧0<=p.new_∧p.new_<=65535
instance (p:Pat):Decidable p.range:=by unfold Pat.range;infer_instance
def patCheck(p:Pat):Int:=if ¬p.range then 2 else deltaCheck p.ops 64 p.size
theorem patCheck_ok{p:Pat}:patCheck p=0↔p.range∧DOk p.ops 64 p.size:=by
 unfold patCheck;by_cases h:p.range
 ·rw[if_neg (by simpa using h),deltaCheck_ok];exact⟨fun g=>⟨h,g⟩,fun g=>g.2⟩
 rw[if_pos h];exact⟨fun e=>by omega,fun g=>absurd g.1 h⟩
def patMake(s:List UInt8->Int)(from_ to_:Int)(old b:LU):Pat×Int:=
 if 64<old.length∨64<b.length then (Pat.zero,1)
 else if patCheck ⟨from_,to_,s old,s b,b.length,diffed old b⟩≠0 then (Pat.zero,patCheck ⟨from_,to_,s old,s b,b.length,diffed old b⟩)
 else (⟨from_,to_,s old,s b,b.length,diffed old b⟩,0)
def patDo(s:List UInt8->Int)(p:Pat)(old:LU):List UInt8×Int:=
 if patCheck p≠0 then ([],patCheck p)
 else if 64<old.length then ([],1)
 else if s old≠p.old then ([],6)
 else if deltaCheck p.ops old.length p.size≠0 then ([],deltaCheck p.ops old.length p.size)
 else if s (applied old p.ops)≠p.new_ then ([],6)
 else (applied old p.ops,0)
/-! ### As bytes -/
def by_(n:Int):UInt8:=UInt8.ofNat (n%256).toNat
def stpBytes(o:Stp):List UInt8:=if 0<o.len then [by_ o.at_,by_ o.len] else 255::by_ o.data.length::o.data
def opsBytes(l:List Stp):List UInt8:=(l.map stpBytes).flatten
def patHead(p:Pat):List UInt8:=[by_ p.from_,by_ p.to_,by_ (p.old / 256),by_ p.old,by_ (p.new_ / 256),by_ p.new_,by_ p.size,by_ p.ops.length]
def patBytes(p:Pat):List UInt8:=patHead p++opsBytes p.ops
theorem opsBytes_cons(o:Stp)(l:List Stp):opsBytes (o::l)=stpBytes o++opsBytes l:=by simp[opsBytes]
theorem opsBytes_len{old:Int}:∀{l:List Stp},(∀o∈l,o.form∧o.in_ old)->((opsBytes l).length:Int)<=2*l.length+made l
 |[],_=>by simp[opsBytes,made_nil]
 |o::l,h=>by
  have ih:=opsBytes_len (l:=l) (fun x hx=>h x (by simp[hx]));have ho:=(h o (by simp)).2;unfold Stp.in_ at ho;rw[opsBytes_cons,made_cons,List.length_append,List.length_cons];unfold Stp.n;have:((stpBytes o).length:Int)<=2+o.len+o.data.length:=by
   unfold stpBytes;split<;>simp<;>omega
  omega
theorem patBytes_len{p:Pat}(h:patCheck p=0):(patBytes p).length<=152:=by
 have h1:=(patCheck_ok.1 h).2;have h2:=opsBytes_len h1.each;have h3:=h1.many;have h3:=h1.s1;rw[h1.sum]at h2;unfold patBytes patHead;simp only[List.length_append,List.length_cons,List.length_nil];omega
def readOps:Nat->List UInt8->List Stp->Int×List Stp×List UInt8
 |0,b,acc=>(0,acc,b)
 |n+1,x::y::r,acc=>
  if x=255 then (if r.length<y.toNat then (7,[],[])else readOps n (r.drop y.toNat) (acc++[⟨0,0,r.take y.toNat⟩]))
  else if y=0 then (3,[],[])else readOps n r (acc++[⟨x.toNat,y.toNat,[]⟩])
 |_+1,_,_=>(7,[],[])
def headPat(b:LU)(ops:List Stp):Pat:=
 ⟨(b.getD 0 0).toNat,(b.getD 1 0).toNat,(b.getD 2 0).toNat*256+(b.getD 3 0).toNat,(b.getD 4 0).toNat*256+(b.getD 5 0).toNat,(b.getD 6 0).toNat,ops⟩
def readDone(b:LU)(q:Int×List Stp×List UInt8):Pat×Int:=
 if q.1≠0 then (Pat.zero,q.1)
 else if q.2.2≠[] then (Pat.zero,7)
 else if patCheck (headPat b q.2.1)≠0 then (Pat.zero,patCheck (headPat b q.2.1))
 else (headPat b q.2.1,0)
def patRead(b:LU):Pat×Int:=
 if 400<b.length then (Pat.zero,1)
 else if b.length<8 then (Pat.zero,7)
 else readDone b (readOps (b.getD 7 0).toNat (b.drop 8) [])
def cntEq(x:UInt8):List UInt8->Nat->Nat
 |y::l,k+1=>if y=x then cntEq x l k+1 else 0
 |_,_=>0
theorem cntEq_le(x:UInt8):∀(l:LU) (k:Nat),cntEq x l k<=k∧cntEq x l k<=l.length
 |[],k=>by simp[cntEq]
 |y::l,0=>by simp[cntEq]
 |y::l,k+1=>by
  have:=cntEq_le x l k;unfold cntEq;split<;>simp only[List.length_cons]<;>omega
theorem cntEq_take(x:UInt8):∀(l:LU) (k:Nat),l.take (cntEq x l k)=List.replicate (cntEq x l k) x
 |[],k=>by simp[cntEq]
 |y::l,0=>by simp[cntEq]
 |y::l,k+1=>by
  have:=cntEq_take x l k;unfold cntEq;by_cases h:y=x
  ·rw[if_pos h,List.take_succ_cons,this,List.replicate_succ,h]
  rw[if_neg h];simp
def alike:List UInt8->Nat
 |[]=>0
 |x::l=>cntEq x l 126+1
theorem alike_le(l:LU):alike l<=127∧alike l<=l.length:=by
 cases l with
 |nil=>simp[alike]
 |cons x l=>have:=cntEq_le x l 126;simp only[alike,List.length_cons];omega
theorem alike_take(x:UInt8)(l:LU):(x::l).take (alike (x::l))=List.replicate (alike (x::l)) x:=by
 simp only[alike,List.take_succ_cons,List.replicate_succ,cntEq_take]
def flushed(plain:LU):List UInt8:=if plain=[] then [] else UInt8.ofNat plain.length::plain
def packF:Nat->List UInt8->List UInt8->List UInt8
 |0,_,plain=>flushed plain
 |_+1,[],plain=>flushed plain
 |f+1,x::r,plain=>
  if 3<=alike (x::r)then flushed plain++[UInt8.ofNat (128+alike (x::r)),x]++packF f ((x::r).drop (alike (x::r))) []
  else if plain.length+1=127 then flushed (plain++[x])++packF f r []
  else packF f r (plain++[x])
def packed(b:LU):List UInt8:=packF b.length b []
theorem packF_fuel:∀(f g:Nat) (l plain:LU),l.length<=f->l.length<=g->packF f l plain=packF g l plain
 |0,g,l,plain,h,_=>by
  have:l=[]:=List.eq_nil_of_length_eq_zero (by omega);subst this
  cases g<;>rfl
 |f+1,0,l,plain,_,h=>by
  have:l=[]:=List.eq_nil_of_length_eq_zero (by omega);subst this;rfl
 |f+1,g+1,[],plain,_,_=>rfl
 |f+1,g+1,x::r,plain,h,h'=>by
  simp only[List.length_cons]at h h';unfold packF;by_cases h3:3<=alike (x::r)
  ·rw[if_pos h3,if_pos h3,packF_fuel f g _ [] (by simp only[List.length_drop,List.length_cons];omega) (by simp only[List.length_drop,List.length_cons];omega)]
  rw[if_neg h3,if_neg h3,packF_fuel f g r [] (by omega) (by omega),packF_fuel f g r (plain++[x]) (by omega) (by omega)]
def packAt(l plain:LU):List UInt8:=packF l.length l plain
theorem packAt_nil(plain:LU):packAt [] plain=flushed plain:=rfl
theorem packAt_run{x:UInt8}{r plain:LU}(h:3<=alike (x::r)):packAt (x::r) plain=flushed plain++[UInt8.ofNat (128+alike (x::r)),x]++packAt ((x::r).drop (alike (x::r))) []:=by
 show packF (r.length+1) (x::r) plain=_;unfold packF;rw[if_pos h];unfold packAt;rw[packF_fuel r.length _ _ [] (by simp only[List.length_drop,List.length_cons];omega) (Nat.le_refl _)]
theorem packAt_full{x:UInt8}{r plain:LU}(h:¬3<=alike (x::r))(hp:plain.length+1=127):packAt (x::r) plain=flushed (plain++[x])++packAt r []:=by
 show packF (r.length+1) (x::r) plain=_;unfold packF;rw[if_neg h,if_pos hp];rfl
theorem packAt_byte{x:UInt8}{r plain:LU}(h:¬3<=alike (x::r))(hp:plain.length+1≠127):packAt (x::r) plain=packAt r (plain++[x]):=by
 show packF (r.length+1) (x::r) plain=_;unfold packF;rw[if_neg h,if_neg hp];rfl
/-! ### Unpack -/
def unpackF(most:Int):Nat->List UInt8->List UInt8->List UInt8×Int
 |0,_,out=>(out,0)
 |_+1,[],out=>(out,0)
 |f+1,x::r,out=>
  if x.toNat%128=0 then ([],3)
  else if 128<=x.toNat then
   (if r.length<1 then ([],7)else if most-out.length<(x.toNat%128:Nat)then ([],1)else unpackF most f (r.drop 1) (out++List.replicate (x.toNat%128) (r.headD 0)))
  else
   (if r.length<x.toNat%128 then ([],7)else if most-out.length<(x.toNat%128:Nat)then ([],1)else unpackF most f (r.drop (x.toNat%128)) (out++r.take (x.toNat%128)))
def unpacked(b:LU)(most:Int):List UInt8×Int:=unpackF most b.length b []
theorem unpackF_fuel(most:Int):∀(f g:Nat) (l out:LU),l.length<=f->l.length<=g->unpackF most f l out=unpackF most g l out
 |0,g,l,out,h,_=>by
  have:l=[]:=List.eq_nil_of_length_eq_zero (by omega);subst this
  cases g<;>rfl
 |f+1,0,l,out,_,h=>by
  have:l=[]:=List.eq_nil_of_length_eq_zero (by omega);subst this;rfl
 |f+1,g+1,[],out,_,_=>rfl
 |f+1,g+1,x::r,out,h,h'=>by
  simp only[List.length_cons]at h h';unfold unpackF;rw[unpackF_fuel most f g (r.drop 1) _ (by simp only[List.length_drop];omega) (by simp only[List.length_drop];omega),
   unpackF_fuel most f g (r.drop (x.toNat%128)) _ (by simp only[List.length_drop];omega) (by simp only[List.length_drop];omega)]
def unpackAt(most:Int)(l out:LU):List UInt8×Int:=unpackF most l.length l out
theorem unpackAt_nil(most:Int)(out:LU):unpackAt most [] out=(out,0):=rfl
theorem unpackAt_run{most:Int}{x:UInt8}{r out:LU}(h:x.toNat%128≠0)(h8:128<=x.toNat):unpackAt most (x::r) out=
  if r.length<1 then ([],7)else if most-out.length<(x.toNat%128:Nat)then ([],1)else unpackAt most (r.drop 1) (out++List.replicate (x.toNat%128) (r.headD 0)):=by
 show unpackF most (r.length+1) (x::r) out=_;unfold unpackF;rw[if_neg h,if_pos h8];unfold unpackAt;rw[unpackF_fuel most r.length (r.drop 1).length (r.drop 1) _ (by simp only[List.length_drop];omega) (Nat.le_refl _)]
theorem unpackAt_plain{most:Int}{x:UInt8}{r out:LU}(h:x.toNat%128≠0)(h8:¬128<=x.toNat):unpackAt most (x::r) out=
  if r.length<x.toNat%128 then ([],7)else if most-out.length<(x.toNat%128:Nat)then ([],1)else unpackAt most (r.drop (x.toNat%128)) (out++r.take (x.toNat%128)):=by
 show unpackF most (r.length+1) (x::r) out=_;unfold unpackF;rw[if_neg h,if_neg h8];unfold unpackAt;rw[unpackF_fuel most r.length (r.drop (x.toNat%128)).length (r.drop (x.toNat%128)) _ (by simp only[List.length_drop];omega) (Nat.le_refl _)]
/-! ### Back again -/
inductive Packs:List UInt8->List UInt8->Prop
 |nil:Packs [] []
 |run {n:Nat} {x:UInt8} {p b:LU}:1<=n->n<=127->Packs p b->Packs (UInt8.ofNat (128+n)::x::p) (List.replicate n x++b)
 |plain {l p b:LU}:l≠[]->l.length<=127->Packs p b->Packs (UInt8.ofNat l.length::(l++p)) (l++b)
theorem packs_flushed{plain p b:LU}(hp:plain.length<=127)(h:Packs p b):Packs (flushed plain++p) (plain++b):=by
 unfold flushed;by_cases e:plain=[]
 ·subst e;simpa using h
 rw[if_neg e];exact .plain e hp h
theorem packAt_packs:∀(n:Nat) (l plain:LU),l.length<=n->plain.length<127->Packs (packAt l plain) (plain++l)
 |_,[],plain,_,hp=>by
  have:=packs_flushed (p:=[]) (b:=[]) (by omega:plain.length<=127) .nil;simpa[packAt_nil]using this
 |0,x::r,plain,h,_=>by simp at h
 |n+1,x::r,plain,h,hp=>by
  simp only[List.length_cons]at h;by_cases h3:3<=alike (x::r)
  ·rw[packAt_run h3];have hl:=alike_le (x::r);have ih:=packAt_packs n ((x::r).drop (alike (x::r))) [] (by simp only[List.length_drop,List.length_cons];omega) (by simp);rw[List.nil_append]at ih;have h1:=Packs.run (x:=x) (by omega:1<=alike (x::r)) hl.1 ih;rw[<-alike_take,List.take_append_drop]at h1;have:=packs_flushed (by omega:plain.length<=127) h1;simpa using this
  by_cases h7:plain.length+1=127
  ·rw[packAt_full h3 h7];have ih:=packAt_packs n r [] (by omega) (by simp);rw[List.nil_append]at ih;have:=packs_flushed (plain:=plain++[x]) (by simp;omega) ih;simpa using this
  rw[packAt_byte h3 h7];have:=packAt_packs n r (plain++[x]) (by omega) (by simp;omega);simpa using this
theorem packed_packs(b:LU):Packs (packed b) b:=packAt_packs b.length b [] (Nat.le_refl _) (by simp)
theorem ofNat_toNat(n:Nat)(h:n<256):(UInt8.ofNat n).toNat=n:=by rw[UInt8.toNat_ofNat'];omega
theorem Packs.unpack{p b:LU}(h:Packs p b):∀(out:LU) (most:Int),unpackAt most p out=if (out.length+b.length:Int)<=most∨b=[] then (out++b,0)else ([],1):=by
 induction h with
 |nil=>intro out most;simp[unpackAt_nil]
 |@run n x p b h1 h2 _ ih=>
  intro out most;have e:=ofNat_toNat (128+n) (by omega);have e2:(128+n)%128=n:=by omega
  rw[unpackAt_run (by rw[e,e2];omega) (by rw[e];omega),e,e2,if_neg (by simp)];have hne:List.replicate n x++b≠[]:=by
   intro h;have:=congrArg List.length h;simp at this;omega
  simp only[hne,or_false,List.length_append,List.length_replicate];by_cases hlt:most-out.length<(n:Int)
  ·rw[if_pos hlt,if_neg (by omega)]
  rw[if_neg hlt];simp only[List.drop_succ_cons,List.drop_zero,List.headD_cons];rw[ih];simp only[List.length_append,List.length_replicate,List.append_assoc];by_cases hb:b=[]
  ·subst hb;rw[if_pos (Or.inr rfl),if_pos (by simp;omega)]
  simp only[hb,or_false];by_cases hle:(out.length+n+b.length:Int)<=most
  ·rw[if_pos (by omega),if_pos (by omega)]
  rw[if_neg (by omega),if_neg (by omega)]
 |@plain l p b h1 h2 _ ih=>
  intro out most;have hl:=List.length_pos_iff.2 h1;have e:=ofNat_toNat l.length (by omega);have e2:l.length%128=l.length:=by omega
  rw[unpackAt_plain (by rw[e,e2];omega) (by rw[e];omega),e,e2,if_neg (by simp)];have hne:l++b≠[]:=by simp[h1]
  simp only[hne,or_false,List.length_append];by_cases hlt:most-out.length<(l.length:Int)
  ·rw[if_pos hlt,if_neg (by omega)]
  rw[if_neg hlt];simp only[List.drop_left,List.take_left];rw[ih];simp only[List.length_append,List.append_assoc];by_cases hb:b=[]
  ·subst hb;rw[if_pos (Or.inr rfl),if_pos (by simp;omega)]
  simp only[hb,or_false];by_cases hle:(out.length+l.length+b.length:Int)<=most
  ·rw[if_pos (by omega),if_pos (by omega)]
  rw[if_neg (by omega),if_neg (by omega)]
theorem unpack_packs{p b:LU}(h:Packs p b)(most:Int):unpacked p most=if (b.length:Int)<=most∨b=[] then (b,0)else ([],1):=by
 have:=h.unpack [] most;simpa[unpackAt,unpacked]using this
theorem packAt_len:∀(n:Nat) (l plain:LU),l.length<=n->plain.length<127->127*(packAt l plain).length<=128*(plain.length+l.length)+127
 |_,[],plain,_,hp=>by
  rw[packAt_nil];unfold flushed;split<;>simp<;>omega
 |0,x::r,plain,h,_=>by simp at h
 |n+1,x::r,plain,h,hp=>by
  simp only[List.length_cons]at h
  ·by_cases h3:3<=alike (x::r)
   ·rw[packAt_run h3];have hl:=alike_le (x::r);simp only[List.length_cons]at hl;have ih:=(packAt_len n ((x::r).drop (alike (x::r))) [] (by simp only[List.length_drop,List.length_cons];omega) (by simp));simp only[List.length_drop,List.length_cons,List.length_nil]at ih;have hf:(flushed plain).length<=plain.length+1:=by unfold flushed;split<;>simp
    have hf0:plain=[]->(flushed plain).length=0:=by intro e;unfold flushed;rw[if_pos e];rfl
    simp only[List.length_append,List.length_cons,List.length_nil];omega
   ·by_cases h7:plain.length+1=127
    ·rw[packAt_full h3 h7];have ih:=(packAt_len n r [] (by omega) (by simp));have hf:(flushed (plain++[x])).length=plain.length+2:=by unfold flushed;rw[if_neg (by simp)];simp
     simp only[List.length_append,List.length_cons,List.length_nil]at ih⊢;omega
    ·rw[packAt_byte h3 h7];have ih:=(packAt_len n r (plain++[x]) (by omega) (by simp;omega));simp only[List.length_append,List.length_cons,List.length_nil]at ih⊢;omega
theorem packed_len(b:LU):(packed b).length<=b.length+b.length / 127+1:=by
 have:=(packAt_len b.length b [] (Nat.le_refl _) (by simp));have h1:packAt b []=packed b:=rfl;rw[h1]at this;simp at this;omega
/-! ### The document's answer -/
structure Chk where
 from_:Int
 to_:Int
 n:Int
 of_:Int
 data:List UInt8
deriving DecidableEq
def Chk.zero:Chk:=⟨0,0,0,0,[]⟩
def Chk.range(c:Chk):Prop:=1<=c.from_∧c.from_<=30∧1<=c.to_∧c.to_<=30∧1<=c.of_∧c.of_<=52∧0<=c.n∧c.n<c.of_
instance (c:Chk):Decidable c.range:=by unfold Chk.range;infer_instance
def Chk.full(c:Chk):Prop:=c.data≠[]∧c.data.length<=16∧(c.n<c.of_-1->c.data.length=16)
instance (c:Chk):Decidable c.full:=by unfold Chk.full;infer_instance
def chkCheck(c:Chk):Int:=if ¬c.range then 2 else if ¬c.full then 3 else 0
theorem chkCheck_ok{c:Chk}:chkCheck c=0↔c.range∧c.full:=by
 unfold chkCheck;by_cases h:c.range
 ·rw[if_neg (by simpa using h)];by_cases g:c.full
  ·rw[if_neg (by simpa using g)];simp[h,g]
  rw[if_pos g];simp[g]
 rw[if_pos h];simp[h]
def kin(a b:Chk):Prop:=a.from_=b.from_∧a.to_=b.to_∧a.of_=b.of_
instance (a b:Chk):Decidable (kin a b):=by unfold kin;infer_instance
theorem kin_trans{a b c:Chk}(h:kin a b)(g:kin b c):kin a c:=by unfold kin at *;omega
theorem kin_symm{a b:Chk}(h:kin a b):kin b a:=by unfold kin at *;omega
theorem kin_refl(a:Chk):kin a a:=⟨rfl,rfl,rfl⟩
def follows(p:Option Chk)(c:Chk):Prop:=∀q,p=some q->kin q c∧q.n<c.n
instance (p:Option Chk) (c:Chk):Decidable (follows p c):=by
 cases p with
 |none=>exact isTrue (fun q h=>by cases h)
 |some q=>exact decidable_of_iff (kin q c∧q.n<c.n) ⟨fun h r e=>by injection e with e;subst e;exact h,fun h=>h q rfl⟩
def listGo:Option Chk->List Chk->Int
 |_,[]=>0
 |p,c::l=>if chkCheck c≠0 then chkCheck c else if ¬follows p c then 3 else listGo (some c) l
def chkList(l:List Chk):Int:=listGo none l
def Lined:Option Chk->List Chk->Prop
 |_,[]=>True
 |p,c::l=>chkCheck c=0∧follows p c∧Lined (some c) l
theorem listGo_ok:∀(p:Option Chk) (l:List Chk),listGo p l=0↔Lined p l
 |_,[]=>by simp[listGo,Lined]
 |p,c::l=>by
  unfold listGo Lined;by_cases h:chkCheck c=0
  ·rw[if_neg (by omega)];by_cases g:follows p c
   ·rw[if_neg (by simpa using g),listGo_ok];simp[h,g]
   rw[if_pos g];simp[g]
  rw[if_pos h];simp[h]
def chunkAt(p:Pat)(b:LU)(of_ k:Nat):Chk:=⟨p.from_,p.to_,k,of_,(b.drop (k*16)).take 16⟩
def chunksOf(p:Pat)(b:LU):List Chk:=(List.range ((b.length+15) / 16)).map (chunkAt p b ((b.length+15) / 16))
def chkCut(p:Pat):List Chk×Int:=
 if patCheck p≠0 then ([],patCheck p)
 else if 52<((packed (patBytes p)).length+15) / 16 then ([],1)
 else (chunksOf p (packed (patBytes p)),0)
theorem packed_patch_len{p:Pat}(h:patCheck p=0):(packed (patBytes p)).length<=154∧1<=(packed (patBytes p)).length:=by
 have h1:=patBytes_len h;have h1:=packed_len (patBytes p);refine⟨by omega,?_⟩;have h1:=packed_packs (patBytes p);rcases hq:packed (patBytes p)with _|⟨x,r⟩
 ·rw[hq]at h1;have h1:=unpack_packs h1 152;rw[if_pos (Or.inl (by omega))]at h1;have h2:unpacked [] 152=([],0):=rfl;rw[h2]at h1;injection h1 with h1;have h1:=congrArg List.length h1;simp[patBytes,patHead]at h1
 simp
def insAt(l:List Chk)(n:Int):Nat:=(l.takeWhile (fun c=>decide (c.n<n))).length
def chkAdd(l:List Chk)(c:Chk):List Chk×Int:=
 if chkList l≠0 then ([],chkList l)
 else if chkCheck c≠0 then ([],chkCheck c)
 else match l with
  |[]=>([c],0)
  |x::r=>
   if ¬kin x c then ([c],0)
   else if ∃y∈x::r,y.n=c.n then (x::r,0)
   else ((x::r).take (insAt (x::r) c.n)++c::(x::r).drop (insAt (x::r) c.n),0)
def dataOf(l:List Chk):List UInt8:=(l.map Chk.data).flatten
def joinDone(l:List Chk)(q:Pat×Int)(x:Chk):Pat×Int:=if q.2=0∧(q.1.from_≠x.from_∨q.1.to_≠x.to_)then (Pat.zero,3)else q
def chkJoin(l:List Chk):Pat×Int:=
 if chkList l≠0 then (Pat.zero,chkList l)
 else match l with
  |[]=>(Pat.zero,5)
  |x::r=>if ((x::r).length:Int)<x.of_ then (Pat.zero,5)
   else if (unpacked (dataOf (x::r)) 400).2≠0 then (Pat.zero,(unpacked (dataOf (x::r)) 400).2)
   else joinDone (x::r) (patRead (unpacked (dataOf (x::r)) 400).1) x
section
open Go.RowKit Go.WideShapes Go.ChangeShapes Go.ChangeAt
abbrev patC (p:Pat) (A:OA) (c:Nat):List Value:=[iv p.from_,iv p.to_,iv p.old,iv p.new_,iv p.size,.slice A p.ops.length c]
structure PatIn(w:World)(p:Pat)(A:OA)(c:Nat):Prop where
 cap:p.ops.length<=c
 len:p.ops.length<=3518437208780
 ops:Sps w A p.ops
 i0:I64 p.from_
 i1:I64 p.to_
 i2:I64 p.old
 i3:I64 p.new_
 i4:I64 p.size
theorem PatIn.stays{w w':World}{p:Pat}{A:OA}{c:Nat}(h:PatIn w p A c)(hb:Below w.heap.size w w'):PatIn w' p A c:=
 ⟨h.cap,h.len,h.ops.stays hb,h.i0,h.i1,h.i2,h.i3,h.i4⟩
def rPat:CR Pat:=fun w cs p=>∃A c,cs=patC p A c∧PatIn w p A c
abbrev chkC (x:Chk) (A:OA) (c:Nat):List Value:=[iv x.from_,iv x.to_,iv x.n,iv x.of_,.slice A x.data.length c]
structure ChkIn(w:World)(x:Chk)(A:OA)(c:Nat):Prop where
 cap:x.data.length<=c
 len:x.data.length<=140737488351232
 data:Bts w A x.data
 i0:I64 x.from_
 i1:I64 x.to_
 i2:I64 x.n
 i3:I64 x.of_
theorem ChkIn.stays{w w':World}{x:Chk}{A:OA}{c:Nat}(h:ChkIn w x A c)(hb:Below w.heap.size w w'):ChkIn w' x A c:=
 ⟨h.cap,h.len,h.data.stays hb,h.i0,h.i1,h.i2,h.i3⟩
def rChk:CR Chk:=fun w cs x=>∃A c,cs=chkC x A c∧ChkIn w x A c
theorem stays_chk:Stays rChk:=by
 rintro w w' cs p ⟨A,c,rfl,h⟩ hb;exact⟨A,c,rfl,h.stays hb⟩
abbrev Chs (w:World) (A:OA) (l:List Chk):Prop:=Elems 5 rChk w A l
theorem Chs.stays{w w':World}{A:OA}{l:List Chk}(h:Chs w A l)(hb:Below w.heap.size w w'):Chs w' A l:=Elems.stays stays_chk h hb
theorem Chs.nil(w:World)(A:OA):Chs w A []:=fun i hi=>absurd hi (by simp)
theorem Chs.at_{w:World}{A:OA}{l:List Chk}(h:Chs w A l){i:Nat}(hi:i<l.length):∃b o B c,A=some ⟨b,o,none⟩∧b<w.heap.size∧
  w.cell? ⟨b,o+i*5,none⟩=some (iv l[i].from_)∧w.cell? ⟨b,o+i*5+1,none⟩=some (iv l[i].to_)∧w.cell? ⟨b,o+i*5+2,none⟩=some (iv l[i].n)∧w.cell? ⟨b,o+i*5+3,none⟩=some (iv l[i].of_)∧
  w.cell? ⟨b,o+i*5+4,none⟩=some (.slice B l[i].data.length c)∧ChkIn w l[i] B c:=by
 obtain⟨b,o,rfl,hlt,cs,hl,hc,B,c,rfl,h1⟩:=h i hi;exact⟨b,o,B,c,rfl,hlt,hc 0 (by simp),hc 1 (by simp),hc 2 (by simp),hc 3 (by simp),hc 4 (by simp),h1⟩
section
variable {H:Type} {enc:TypeId×Value->H} {P:Program} {w:World} {sp:Nat->Bool} {held:Bool}
theorem readBy_pat{t e:TypeId}{f0 f1 f2 f3 f4 f5:Field}(ht:P.underlying t=some (.struct #[f0,f1,f2,f3,f4,f5]))(hs:P.cellsOf t=6)
  (o0:f0.offset=0) (o1:f1.offset=1) (o2:f2.offset=2) (o3:f3.offset=3) (o4:f4.offset=4) (o5:f5.offset=5)
  (k0:P.cellsOf f0.type=1) (k1:P.cellsOf f1.type=1) (k2:P.cellsOf f2.type=1) (k3:P.cellsOf f3.type=1) (k4:P.cellsOf f4.type=1) (k5:P.cellsOf f5.type=1)
  (t0:P.underlying f0.type=some (.int .i64)) (t1:P.underlying f1.type=some (.int .i64)) (t2:P.underlying f2.type=some (.int .i64)) (t3:P.underlying f3.type=some (.int .i64)) (t4:P.underlying f4.type=some (.int .i64))
  (t5:P.underlying f5.type=some (.slice e)) (he:P.cellsOf e=3) (hB:P.bytesOf e=40) (hR:ReadBy enc P w sp held e rOp):ReadBy enc P w sp held t rPat:=by
 intro fuel cs d ps h hb;obtain⟨hl,hf⟩:=field_of ht h hb;obtain⟨a6,h6⟩:=hf 0 f0 rfl (readBy_int t0);obtain⟨a1,h1⟩:=hf 1 f1 rfl (readBy_int t1);obtain⟨a2,h2⟩:=hf 2 f2 rfl (readBy_int t2);obtain⟨a3,h3⟩:=hf 3 f3 rfl (readBy_int t3);obtain⟨a4,h4⟩:=hf 4 f4 rfl (readBy_int t4);obtain⟨a5,h5⟩:=hf 5 f5 rfl (readBy_sliceM (M:=3518437208780) t5 he (by omega) hR (fun n _ h=>by rw[hB]at h;omega));rw[hs]at hl;rw[o0,k0]at h6;rw[o1,k1]at h1;rw[o2,k2]at h2;rw[o3,k3]at h3;rw[o4,k4]at h4;rw[o5,k5]at h5
 match cs,hl with
 |[c0,c1,c2,c3,c4,c5],_=>
  obtain⟨h6,g0⟩:=h6;obtain⟨h1,g1⟩:=h1;obtain⟨h2,g2⟩:=h2;obtain⟨h3,g3⟩:=h3;obtain⟨h4,g4⟩:=h4;obtain⟨A,c,h5,g5,g6,g7⟩:=h5;simp at h6 h1 h2 h3 h4 h5;subst h6 h1 h2 h3 h4 h5;exact⟨⟨a6,a1,a2,a3,a4,a5⟩,A,c,rfl,g5,g6,g7,g0,g1,g2,g3,g4⟩
theorem readBy_chk{t e:TypeId}{f0 f1 f2 f3 f4:Field}(ht:P.underlying t=some (.struct #[f0,f1,f2,f3,f4]))(hs:P.cellsOf t=5)
  (o0:f0.offset=0) (o1:f1.offset=1) (o2:f2.offset=2) (o3:f3.offset=3) (o4:f4.offset=4)
  (k0:P.cellsOf f0.type=1) (k1:P.cellsOf f1.type=1) (k2:P.cellsOf f2.type=1) (k3:P.cellsOf f3.type=1) (k4:P.cellsOf f4.type=1)
  (t0:P.underlying f0.type=some (.int .i64)) (t1:P.underlying f1.type=some (.int .i64)) (t2:P.underlying f2.type=some (.int .i64)) (t3:P.underlying f3.type=some (.int .i64))
  (t4:P.underlying f4.type=some (.slice e)) (te:P.underlying e=some (.int .u8)) (he:P.cellsOf e=1):ReadBy enc P w sp held t rChk:=by
 intro fuel cs d ps h hb;obtain⟨hl,hf⟩:=field_of ht h hb;obtain⟨a5,h5⟩:=hf 0 f0 rfl (readBy_int t0);obtain⟨a1,h1⟩:=hf 1 f1 rfl (readBy_int t1);obtain⟨a2,h2⟩:=hf 2 f2 rfl (readBy_int t2);obtain⟨a3,h3⟩:=hf 3 f3 rfl (readBy_int t3);obtain⟨a4,h4⟩:=hf 4 f4 rfl (readBy_slice t4 he (by omega) (readBy_byte te));rw[hs]at hl;rw[o0,k0]at h5;rw[o1,k1]at h1;rw[o2,k2]at h2;rw[o3,k3]at h3;rw[o4,k4]at h4
 match cs,hl with
 |[c0,c1,c2,c3,c4],_=>
  obtain⟨h5,g0⟩:=h5;obtain⟨h1,g1⟩:=h1;obtain⟨h2,g2⟩:=h2;obtain⟨h3,g3⟩:=h3;obtain⟨A,c,q4,g5,g6,g7⟩:=bts_rSlice h4;simp at h5 h1 h2 h3 q4;subst h5 h1 h2 h3 q4;exact⟨⟨a5,a1,a2,a3,a4⟩,A,c,rfl,g5,g6,g7,g0,g1,g2,g3⟩
end
end
def newer(c d:Cop):Bool:=!c.ok || (d.ok&&decide (c.r.gen<d.r.gen))
def recRead(c d:Cop):Rec×Int:=if newer c d=true then (d.r,1)else (c.r,0)
def recPut(c d:Cop)(r:Rec)(torn:Bool):Cop×Cop:=
 if (recRead c d).2=0 then (c,if torn=true then Cop.zero else ⟨true,{r with gen:=(recRead c d).1.gen+1}⟩)
 else (if torn=true then Cop.zero else ⟨true,{r with gen:=(recRead c d).1.gen+1}⟩,d)
def recWrite(c d:Cop)(r:Rec)(torn:Bool):(Cop×Cop)×Int:=
 if copCheck c d=0 then
  if recCheck {r with gen:=(recRead c d).1.gen+1}=0 then (recPut c d r torn,0)
  else ((Cop.zero,Cop.zero),recCheck {r with gen:=(recRead c d).1.gen+1})
 else ((Cop.zero,Cop.zero),copCheck c d)
theorem recCheck_range0{r:Rec}(h:recCheck r=0):RangeOk r:=by
 unfold recCheck at h;split at h
 ·assumption
 omega
theorem copCheck_ok{c d:Cop}(h:copCheck c d=0):copOne c=0∧copOne d=0∧¬(c.ok=false∧d.ok=false):=by
 unfold copCheck at h;split at h
 ·split at h
  ·split at h
   ·omega
   ·exact⟨by assumption,by assumption,by assumption⟩
  ·omega
 omega
theorem recRead_ok{c d:Cop}(h:copCheck c d=0):recCheck (recRead c d).1=0:=by
 obtain⟨h1,h2,h3⟩:=copCheck_ok h;unfold recRead newer
 cases hc:c.ok
 ·cases hd:d.ok
  ·exact absurd ⟨hc,hd⟩ h3
  ·simp;rw[<-copOne_ok hd];exact h2
 rw[copOne_ok hc]at h1
 cases hd:d.ok
 ·simp;exact h1
 rw[copOne_ok hd]at h2;simp;split
 ·exact h2
 exact h1
def recStart(r:Rec):Int×Rec×Int:=
 if recCheck r=0 then
  if r.trying=true then (if r.tries=0 then (r.active,{r with trying:=false},0)else (1-r.active,{r with tries:=r.tries-1},0))
  else (r.active,r,0)
 else (0,Rec.zero,recCheck r)
def recDone(r:Rec):Rec:=⟨r.gen,1-r.active,false,0,max r.floor (r.at_ (1-r.active)).ver,r.a,r.b⟩
def recConfirm(r:Rec):Rec×Int:=
 if recCheck r=0 then (if r.trying=true then (recDone r,0)else (Rec.zero,5))else (Rec.zero,recCheck r)
theorem recCheck_parts{r:Rec}(h:recCheck r=0):RangeOk r∧infCheck r.a=0∧infCheck r.b=0∧FormOk r:=by
 unfold recCheck at h;by_cases h1:RangeOk r
 ·rw[if_pos h1]at h;by_cases h2:infCheck r.a=0
  ·rw[if_pos h2]at h;by_cases h3:infCheck r.b=0
   ·rw[if_pos h3]at h;by_cases h4:FormOk r
    ·exact⟨h1,h2,h3,h4⟩
    rw[if_neg h4]at h;omega
   rw[if_neg h3]at h;exact absurd h h3
  rw[if_neg h2]at h;exact absurd h h2
 rw[if_neg h1]at h;omega
theorem copOne_zero:copOne Cop.zero=0:=by decide
def nextRec(c d:Cop)(r:Rec):Rec:={r with gen:=(recRead c d).1.gen+1}
theorem newer_ok{c d:Cop}(h:copCheck c d=0):(newer c d=true∧recRead c d=(d.r,1)∧d.ok=true∧recCheck d.r=0)∨(newer c d=false∧recRead c d=(c.r,0)∧c.ok=true∧recCheck c.r=0):=by
 obtain⟨h1,h2,h3⟩:=copCheck_ok h;unfold recRead newer
 cases hc:c.ok
 ·cases hd:d.ok
  ·exact absurd ⟨hc,hd⟩ h3
  ·rw[copOne_ok hd]at h2;left;simp;exact h2
 rw[copOne_ok hc]at h1
 cases hd:d.ok
 ·right;simp;exact h1
 rw[copOne_ok hd]at h2;by_cases hg:c.r.gen<d.r.gen
 ·left;simp[hg];exact h2
 right;simp[hg];exact h1
theorem write_torn{c d:Cop}{r:Rec}(h:copCheck c d=0)(hr:recCheck (nextRec c d r)=0):
  recWrite c d r false=(recPut c d r false,0)∧recWrite c d r true=(recPut c d r true,0)∧
  copCheck (recPut c d r false).1 (recPut c d r false).2=0∧copCheck (recPut c d r true).1 (recPut c d r true).2=0∧
  recRead (recPut c d r false).1 (recPut c d r false).2=(nextRec c d r,1-(recRead c d).2)∧
  recRead (recPut c d r true).1 (recPut c d r true).2=recRead c d∧
  ((recRead c d).2=0->(recPut c d r false).1=c∧(recPut c d r true).1=c)∧((recRead c d).2=1->(recPut c d r false).2=d∧(recPut c d r true).2=d):=by
 have hw:∀t,recWrite c d r t=(recPut c d r t,0):=by
  intro t;unfold recWrite;rw[if_pos h];exact if_pos hr
 obtain⟨h1,h2,h3⟩:=copCheck_ok h;rcases newer_ok h with ⟨_,g2,g3,g4⟩|⟨_,g2,g3,g4⟩
 ·have e:∀t,recPut c d r t=(if t=true then Cop.zero else ⟨true,nextRec c d r⟩,d):=by
   intro t;unfold recPut nextRec;rw[g2];simp
  have e1:recPut c d r false=(⟨true,nextRec c d r⟩,d):=by rw[e];rfl
  have e2:recPut c d r true=(Cop.zero,d):=by rw[e];rfl
  have hgen:(nextRec c d r).gen=d.r.gen+1:=by unfold nextRec;rw[g2]
  refine⟨hw _,hw _,?_,?_,?_,?_,?_,?_⟩
  ·rw[e1];rw[copCheck_3 (by rw[copOne_ok rfl];exact hr) h2,if_neg (by simp)]
  ·rw[e2];rw[copCheck_3 copOne_zero h2,if_neg (by simp[g3])]
  ·rw[e1,g2];unfold recRead newer;simp only[g3,hgen,Bool.not_true,Bool.false_or,Bool.true_and];rw[if_neg (by simp;omega)];rfl
  ·rw[e2,g2];unfold recRead newer;simp[Cop.zero]
  ·rw[g2];intro e;cases e
  rw[e1,e2];intro _;exact⟨rfl,rfl⟩
 have e:∀t,recPut c d r t=(c,if t=true then Cop.zero else ⟨true,nextRec c d r⟩):=by
  intro t;unfold recPut nextRec;rw[g2];simp
 have e1:recPut c d r false=(c,⟨true,nextRec c d r⟩):=by rw[e];rfl
 have e2:recPut c d r true=(c,Cop.zero):=by rw[e];rfl
 have hgen:(nextRec c d r).gen=c.r.gen+1:=by unfold nextRec;rw[g2]
 refine⟨hw _,hw _,?_,?_,?_,?_,?_,?_⟩
 ·rw[e1];rw[copCheck_3 h1 (by rw[copOne_ok rfl];exact hr),if_neg (by simp)]
 ·rw[e2];rw[copCheck_3 h1 copOne_zero,if_neg (by simp[g3])]
 ·rw[e1,g2];unfold recRead newer;simp only[g3,hgen,Bool.not_true,Bool.false_or,Bool.true_and];rw[if_pos (by simp;omega)];rfl
 ·rw[e2,g2];unfold recRead newer;simp[Cop.zero,g3]
 ·rw[e1,e2];intro _;exact⟨rfl,rfl⟩
 rw[g2];intro e;cases e
/-! ### Starts -/
def nowAt(r:Rec)(k:Int):Rec:=if r.trying=true then (if k<=r.tries then {r with tries:=r.tries-k} else {r with tries:=0,trying:=false})else r
theorem nowAt_0{r:Rec}(h:recCheck r=0):nowAt r 0=r:=by
 have:=(recCheck_range0 h);unfold RangeOk at this;unfold nowAt;split
 ·rw[if_pos (by omega)];simp
 rfl
theorem nowAt_ok{r:Rec}(h:recCheck r=0){k:Int}(hk:0<=k):recCheck (nowAt r k)=0:=by
 obtain⟨h1,h2,h3,h4⟩:=recCheck_parts h;unfold nowAt;by_cases ht:r.trying=true
 ·rw[if_pos ht];unfold RangeOk at h1;unfold FormOk at h4;by_cases hle:k<=r.tries
  ·rw[if_pos hle];refine recCheck_ok ?_ h2 h3 ?_
   ·unfold RangeOk;simp only;omega
   unfold FormOk;exact⟨h4.1,fun _=>h4.2.1 ht,fun e=>by simp[ht]at e,h4.2.2.2⟩
  rw[if_neg hle];refine recCheck_ok ?_ h2 h3 ?_
  ·unfold RangeOk;simp only;omega
  unfold FormOk;exact⟨h4.1,fun e=>by simp at e,fun _=>rfl,h4.2.2.2⟩
 rw[if_neg ht];exact h
def slotAt(r:Rec)(k:Int):Int:=if r.trying=true∧k<r.tries then 1-r.active else r.active
theorem start_at{r:Rec}(h:recCheck r=0){k:Int}(hk:0<=k):recStart (nowAt r k)=(slotAt r k,nowAt r (k+1),0):=by
 have hn:=nowAt_ok h hk;unfold recStart;rw[if_pos hn];have h1:=recCheck_range0 h;unfold RangeOk at h1;unfold nowAt slotAt;by_cases ht:r.trying=true
 ·simp only[ht,if_true,true_and];by_cases hle:k<=r.tries
  ·simp only[if_pos hle];by_cases he:k=r.tries
   ·subst he;simp;omega
   rw[if_pos True.intro,if_neg (by omega),if_pos (by omega),if_pos (by omega)];congr 3;omega
  simp only[if_neg hle];rw[if_neg (by simp),if_neg (by omega),if_neg (by omega)]
 simp[ht]
theorem slot_floor{r:Rec}(h:recCheck r=0)(k:Int):(slotAt r k=0∨slotAt r k=1)∧r.floor<=(r.at_ (slotAt r k)).ver:=by
 obtain⟨h1,h2,h3,h4⟩:=recCheck_parts h;unfold RangeOk at h1;unfold FormOk at h4;unfold slotAt;split
 ·rename_i hh;exact⟨by omega,(h4.2.1 hh.1).2⟩
 exact⟨by omega,h4.2.2.2⟩
theorem nowAt_at(r:Rec)(k s:Int):(nowAt r k).at_ s=r.at_ s∧(nowAt r k).floor=r.floor∧(nowAt r k).active=r.active:=by
 unfold nowAt;split
 ·split<;>exact⟨rfl,rfl,rfl⟩
 exact⟨rfl,rfl,rfl⟩
def sumStep(s:Int)(x:UInt8):Int:=(s*31+(x.toNat:Int))%65521
def sumOn(s:Int)(l:LU):Int:=l.foldl sumStep s
theorem sumStep_bd(s:Int)(x:UInt8):0<=sumStep s x∧sumStep s x<=65520:=by unfold sumStep;omega
theorem sumOn_bd(s:Int)(l:LU)(h:0<=s∧s<=65520):0<=sumOn s l∧sumOn s l<=65520:=by
 unfold sumOn
 induction l generalizing s with
 |nil=>simpa using h
 |cons x l ih=>exact ih _ (sumStep_bd s x)
theorem sumOn_take(s:Int)(l:LU)(k:Nat)(h:k<l.length):sumOn s (l.take (k+1))=sumStep (sumOn s (l.take k)) l[k]:=by
 unfold sumOn;rw[List.take_succ_eq_append_getElem h,List.foldl_append];rfl
theorem mul_mod(a b c:Int):((a%65521)*b+c)%65521=(a*b+c)%65521:=by
 rw[Int.add_emod,Int.mul_emod,Int.emod_emod,<-Int.mul_emod,<-Int.add_emod]
theorem sumOn_more(s:Int)(l:LU):∃q,sumOn s l=s*31 ^ l.length+sumOn 0 l+65521*q:=by
 induction l generalizing s with
 |nil=>exact⟨0,by simp[sumOn]⟩
 |cons x l ih=>
  have e:∀s,sumOn s (x::l)=sumOn (sumStep s x) l:=fun _=>rfl;obtain⟨q1,h1⟩:=ih (sumStep s x);obtain⟨q2,h2⟩:=ih (sumStep 0 x);have ha:sumStep s x=s*31+(x.toNat:Int)-65521*((s*31+(x.toNat:Int)) / 65521):=by unfold sumStep;omega
  have hb:sumStep 0 x=(x.toNat:Int)-65521*((x.toNat:Int) / 65521):=by unfold sumStep;omega
  rw[e,e,h1,h2,ha,hb,List.length_cons,Int.pow_succ];generalize (s*31+(x.toNat:Int)) / 65521=a;generalize (x.toNat:Int) / 65521=b;generalize (31:Int) ^ l.length=t;exact⟨-a*t+b*t+q1-q2,by grind⟩
theorem sumOn_split(s:Int)(l:LU):sumOn s l%65521=(s*31 ^ l.length+sumOn 0 l)%65521:=by
 obtain⟨q,h⟩:=sumOn_more s l;rw[h];omega
def pw(k:Nat):Int:=31 ^ k%65521
theorem pw_bd(k:Nat):0<=pw k∧pw k<=65520:=by unfold pw;omega
theorem pw_succ(k:Nat):pw (k+1)=pw k*31%65521:=by
 unfold pw;rw[Int.pow_succ];have:=mul_mod (31 ^ k) 31 0;simpa using this.symm
theorem sumOn_drop(l:LU)(k:Nat)(h:k<l.length):sumOn 0 (l.drop k)=(sumOn 0 (l.drop (k+1))+(l[k].toNat:Int)*pw (l.length-(k+1)))%65521:=by
 rw[List.drop_eq_getElem_cons h];have e:sumOn 0 (l[k]::l.drop (k+1))=sumOn (sumStep 0 l[k]) (l.drop (k+1)):=rfl;have hb:=sumOn_bd 0 (l[k]::l.drop (k+1)) (by omega);obtain⟨q,h1⟩:=sumOn_more (sumStep 0 l[k]) (l.drop (k+1));have hx:=l[k].toNat_lt;have h4:sumStep 0 l[k]=(l[k].toNat:Int):=by unfold sumStep;omega
 rw[<-e,h4,List.length_drop]at h1;have h2:pw (l.length-(k+1))=31 ^ (l.length-(k+1))-65521*(31 ^ (l.length-(k+1)) / 65521):=by unfold pw;omega
 rw[h2];generalize (31:Int) ^ (l.length-(k+1)) / 65521=a at *
 generalize (31:Int) ^ (l.length-(k+1))=t at *
 have h1:sumOn 0 (l.drop (k+1))+(l[k].toNat:Int)*(t-65521*a)=sumOn 0 (l[k]::l.drop (k+1))+65521*(- q-(l[k].toNat:Int)*a):=by rw[h1];grind
 rw[h1];omega
theorem sumOn_ref(s:Int)(l:LU)(h:0<=s∧s<=65520):sumOn s l=(s*pw l.length+sumOn 0 l)%65521:=by
 have hb:=sumOn_bd s l h;have h1:sumOn s l=sumOn s l%65521:=by omega
 rw[h1,sumOn_split];unfold pw;rw[Int.mul_comm s (31 ^ _%65521),mul_mod,Int.mul_comm]
structure Dev where
 s0:List UInt8
 s1:List UInt8
 c0:Cop
 c1:Cop
 up:Bool
 running:Int
 got:List Chk
 busy:Bool
 job:Pat
 done:Int
deriving DecidableEq
def Dev.zero:Dev:=⟨[],[],Cop.zero,Cop.zero,false,0,[],false,Pat.zero,0⟩
def Dev.slot(d:Dev)(k:Int):List UInt8:=if k=0 then d.s0 else d.s1
def Dev.setSlot(d:Dev)(k:Int)(b:LU):Dev:=if k=0 then {d with s0:=b} else {d with s1:=b}
def Dev.rec_(d:Dev):Rec:=(recRead d.c0 d.c1).1
def Dev.image(d:Dev)(k:Int)(r:Rec):List UInt8:=(d.slot k).take (r.at_ k).size.toNat
def room(b:LU):List UInt8:=b++List.replicate (64-b.length) 0
theorem room_len{b:LU}(h:b.length<=64):(room b).length=64:=by unfold room;simp;omega
def newDev(b:LU):Dev:=⟨room b,room [],⟨true,⟨1,0,false,0,1,⟨1,b.length,sumOn 1 b⟩,Inf.zero⟩⟩,Cop.zero,true,0,[],false,Pat.zero,0⟩
def devNew(b:LU):Dev×Int:=if 64<b.length then (Dev.zero,1)else (newDev b,0)
def devBusyCheck(d:Dev)(r:Rec):Int:=
 if r.trying=true∨d.job.to_<r.floor∨d.job.from_≠(r.at_ r.active).ver∨(r.at_ (1-r.active)).ver≠0 then 3
 else if (patDo (sumOn 1) d.job (d.image r.active r)).2≠0 then (patDo (sumOn 1) d.job (d.image r.active r)).2
 else if d.done<0∨64<d.done∨d.done%8≠0∨d.job.size+8<=d.done then 2
 else if (d.slot (1-r.active)).take d.done.toNat≠(room (patDo (sumOn 1) d.job (d.image r.active r)).1).take d.done.toNat then 3
 else 0
def devUpCheck(d:Dev)(r:Rec):Int:=
 if d.running<0∨1<d.running∨(d.running≠r.active∧r.trying=false)then 2
 else if chkList d.got≠0 then chkList d.got
 else if d.busy=false then (if d.done≠0∨d.job≠Pat.zero then 3 else 0)
 else devBusyCheck d r
def devCheck(d:Dev):Int:=
 if d.s0.length≠64∨d.s1.length≠64 then 3
 else if copCheck d.c0 d.c1≠0 then copCheck d.c0 d.c1
 else if d.up=false then (if d.running≠0∨d.got≠[]∨d.busy=true∨d.done≠0∨d.job≠Pat.zero then 3 else 0)
 else devUpCheck d d.rec_
def devReady(d:Dev):Int:=if devCheck d≠0 then devCheck d else if d.up=false then 5 else 0
def Dev.down(d:Dev):Dev:=⟨d.s0,d.s1,d.c0,d.c1,false,0,[],false,Pat.zero,0⟩
def devHear(d:Dev)(c:Chk):Dev×Int:=
 if devReady d≠0 then (Dev.zero,devReady d)
 else if d.busy=true then (Dev.zero,5)
 else if (chkAdd d.got c).2≠0 then (Dev.zero,(chkAdd d.got c).2)
 else ({d with got:=(chkAdd d.got c).1},0)
def Rec.setOther(r:Rec)(x:Inf):Rec:=if r.active=0 then {r with b:=x} else {r with a:=x}
def Dev.write(d:Dev)(r:Rec)(torn:Bool):Dev:={d with c0:=(recWrite d.c0 d.c1 r torn).1.1,c1:=(recWrite d.c0 d.c1 r torn).1.2}
def devOpen(d:Dev):Dev×Int:=
 if devReady d≠0 then (Dev.zero,devReady d)
 else if d.busy=true∨d.rec_.trying=true then (Dev.zero,5)
 else if (chkJoin d.got).2≠0 then (Dev.zero,(chkJoin d.got).2)
 else if (chkJoin d.got).1.from_≠(d.rec_.at_ d.rec_.active).ver∨(chkJoin d.got).1.to_<d.rec_.floor then (Dev.zero,4)
 else if (patDo (sumOn 1) (chkJoin d.got).1 (d.image d.rec_.active d.rec_)).2≠0 then (Dev.zero,(patDo (sumOn 1) (chkJoin d.got).1 (d.image d.rec_.active d.rec_)).2)
 else if (recWrite d.c0 d.c1 (d.rec_.setOther Inf.zero) false).2≠0 then (Dev.zero,(recWrite d.c0 d.c1 (d.rec_.setOther Inf.zero) false).2)
 else ({d.write (d.rec_.setOther Inf.zero) false with busy:=true,job:=(chkJoin d.got).1,done:=0,got:=[]},0)
def Dev.put(d:Dev)(b:LU)(n:Nat):List UInt8:=(d.slot (1-d.rec_.active)).take d.done.toNat++((room b).drop d.done.toNat).take n++(d.slot (1-d.rec_.active)).drop (d.done.toNat+n)
def keepN(torn:Bool)(keep:Int):Int:=if torn=true then max 0 (min 8 keep)else 8
def devWrite(d:Dev)(torn:Bool)(keep:Int):Dev×Int:=
 if devReady d≠0 then (Dev.zero,devReady d)
 else if d.busy=false∨d.job.size<=d.done then (Dev.zero,5)
 else if (patDo (sumOn 1) d.job (d.image d.rec_.active d.rec_)).2≠0 then (Dev.zero,(patDo (sumOn 1) d.job (d.image d.rec_.active d.rec_)).2)
 else
  let e:={d.setSlot (1-d.rec_.active) (d.put (patDo (sumOn 1) d.job (d.image d.rec_.active d.rec_)).1 (keepN torn keep).toNat)with done:=d.done+keepN torn keep}
  (if torn=true then e.down else e,0)
def Rec.tryIt(r:Rec)(x:Inf):Rec:=({r with trying:=true,tries:=3}).setOther x
def devFinish(d:Dev)(torn:Bool):Dev×Int:=
 if devReady d≠0 then (Dev.zero,devReady d)
 else if d.busy=false∨d.done<d.job.size then (Dev.zero,5)
 else if (recWrite d.c0 d.c1 (d.rec_.tryIt ⟨d.job.to_,d.job.size,d.job.new_⟩) torn).2≠0 then (Dev.zero,(recWrite d.c0 d.c1 (d.rec_.tryIt ⟨d.job.to_,d.job.size,d.job.new_⟩) torn).2)
 else
  let e:={d.write (d.rec_.tryIt ⟨d.job.to_,d.job.size,d.job.new_⟩) torn with busy:=false,job:=Pat.zero,done:=0}
  (if torn=true then e.down else e,0)
def devConfirm(d:Dev):Dev×Int:=
 if devReady d≠0 then (Dev.zero,devReady d)
 else if d.running=d.rec_.active then (Dev.zero,5)
 else if (recConfirm d.rec_).2≠0 then (Dev.zero,(recConfirm d.rec_).2)
 else if (recWrite d.c0 d.c1 (recConfirm d.rec_).1 false).2≠0 then (Dev.zero,(recWrite d.c0 d.c1 (recConfirm d.rec_).1 false).2)
 else (d.write (recConfirm d.rec_).1 false,0)
def devCrash(d:Dev):Dev×Int:=if devReady d≠0 then (Dev.zero,devReady d)else (d.down,0)
def devBoot(d:Dev):Dev×Int:=
 if devCheck d≠0 then (Dev.zero,devCheck d)
 else if d.up=true then (Dev.zero,5)
 else if (recStart d.rec_).2.2≠0 then (Dev.zero,(recStart d.rec_).2.2)
 else if (recStart d.rec_).2.1≠d.rec_ then
  (if (recWrite d.c0 d.c1 (recStart d.rec_).2.1 false).2≠0 then (Dev.zero,(recWrite d.c0 d.c1 (recStart d.rec_).2.1 false).2)
  else ({d.write (recStart d.rec_).2.1 false with up:=true,running:=(recStart d.rec_).1},0))
 else ({d with up:=true,running:=(recStart d.rec_).1},0)
structure BusyOk(d:Dev)(r:Rec):Prop where
 tr:r.trying=false
 fl:r.floor<=d.job.to_
 fr:d.job.from_=(r.at_ r.active).ver
 ot:(r.at_ (1-r.active)).ver=0
 does:(patDo (sumOn 1) d.job (d.image r.active r)).2=0
 d0:0<=d.done
 d1:d.done<=64
 d8:d.done%8=0
 ds:d.done<d.job.size+8
 alike:(d.slot (1-r.active)).take d.done.toNat=(room (patDo (sumOn 1) d.job (d.image r.active r)).1).take d.done.toNat
structure DevOk(d:Dev):Prop where
 l0:d.s0.length=64
 l1:d.s1.length=64
 cops:copCheck d.c0 d.c1=0
 off:d.up=false->d.running=0∧d.got=[]∧d.busy=false∧d.done=0∧d.job=Pat.zero
 run:d.up=true->(d.running=0∨d.running=1)∧(d.running=d.rec_.active∨d.rec_.trying=true)
 got:d.up=true->chkList d.got=0
 idle:d.up=true->d.busy=false->d.done=0∧d.job=Pat.zero
 work:d.up=true->d.busy=true->BusyOk d d.rec_
theorem devBusy_ok{d:Dev}{r:Rec}:devBusyCheck d r=0↔BusyOk d r:=by
 unfold devBusyCheck;by_cases h1:r.trying=true∨d.job.to_<r.floor∨d.job.from_≠(r.at_ r.active).ver∨(r.at_ (1-r.active)).ver≠0
 ·rw[if_pos h1];refine⟨fun e=>by omega,fun g=>?_⟩;exfalso;rcases h1 with h|h|h|h
  ·rw[g.tr]at h;cases h
  ·have:=g.fl;omega
  ·exact h g.fr
  exact h g.ot
 rw[if_neg h1];by_cases h2:(patDo (sumOn 1) d.job (d.image r.active r)).2≠0
 ·rw[if_pos h2];exact⟨fun e=>absurd e h2,fun g=>absurd g.does h2⟩
 rw[if_neg h2];by_cases h2:d.done<0∨64<d.done∨d.done%8≠0∨d.job.size+8<=d.done
 ·rw[if_pos h2];refine⟨fun e=>by omega,fun g=>?_⟩;have:=g.d0;have:=g.d1;have:=g.d8;have:=g.ds;omega
 rw[if_neg h2];by_cases h2:(d.slot (1-r.active)).take d.done.toNat≠(room (patDo (sumOn 1) d.job (d.image r.active r)).1).take d.done.toNat
 ·rw[if_pos h2];exact⟨fun e=>by omega,fun g=>absurd g.alike h2⟩
 rw[if_neg h2];refine⟨fun _=>?_,fun _=>rfl⟩;have ht:r.trying=false:=by
  cases hh:r.trying
  ·rfl
  exact absurd (Or.inl hh) h1
 have h1:¬(d.job.to_<r.floor∨d.job.from_≠(r.at_ r.active).ver∨(r.at_ (1-r.active)).ver≠0):=fun e=>h1 (Or.inr e);exact⟨ht,by omega,by omega,by omega,by omega,by omega,by omega,by omega,by omega,by simpa using h2⟩
theorem devCheck_ok{d:Dev}:devCheck d=0↔DevOk d:=by
 unfold devCheck;by_cases h1:d.s0.length≠64∨d.s1.length≠64
 ·rw[if_pos h1];refine⟨fun e=>by omega,fun g=>?_⟩;have:=g.l0;have:=g.l1;omega
 rw[if_neg h1];by_cases h1:copCheck d.c0 d.c1≠0
 ·rw[if_pos h1];exact⟨fun e=>absurd e h1,fun g=>absurd g.cops h1⟩
 rw[if_neg h1];by_cases hu:d.up=false
 ·rw[if_pos hu];by_cases h1:d.running≠0∨d.got≠[]∨d.busy=true∨d.done≠0∨d.job≠Pat.zero
  ·rw[if_pos h1];refine⟨fun e=>by omega,fun g=>?_⟩;exfalso;obtain⟨g1,g2,g3,g4,g5⟩:=g.off hu;rcases h1 with h|h|h|h|h
   ·exact h g1
   ·exact h g2
   ·rw[g3]at h;cases h
   ·exact h g4
   exact h g5
  rw[if_neg h1];refine⟨fun _=>?_,fun _=>rfl⟩;simp only[not_or]at h1;refine⟨by omega,by omega,by omega,fun _=>⟨by omega,by simpa using h1.2.1,by simpa using h1.2.2.1,by omega,by simpa using h1.2.2.2.2⟩,?_,?_,?_,?_⟩<;>(intro e;rw[hu]at e;cases e)
 rw[if_neg hu];have hup:d.up=true:=by simpa using hu
 unfold devUpCheck;by_cases h1:d.running<0∨1<d.running∨(d.running≠d.rec_.active∧d.rec_.trying=false)
 ·rw[if_pos h1];refine⟨fun e=>by omega,fun g=>?_⟩;exfalso;obtain⟨g1,g2⟩:=g.run hup;rcases h1 with h|h|h
  ·omega
  ·omega
  rcases g2 with g2|g2
  ·exact h.1 g2
  rw[g2]at h;cases h.2
 rw[if_neg h1];simp only[not_or,not_and]at h1;by_cases h2:chkList d.got≠0
 ·rw[if_pos h2];exact⟨fun e=>absurd e h2,fun g=>absurd (g.got hup) h2⟩
 rw[if_neg h2];have base:(d.running=0∨d.running=1)∧(d.running=d.rec_.active∨d.rec_.trying=true):=by
  refine⟨by omega,?_⟩;by_cases e:d.running=d.rec_.active
  ·exact Or.inl e
  exact Or.inr (by simpa using h1.2.2 e)
 by_cases hb:d.busy=false
 ·rw[if_pos hb];by_cases h1:d.done≠0∨d.job≠Pat.zero
  ·rw[if_pos h1];refine⟨fun e=>by omega,fun g=>?_⟩;exfalso;obtain⟨g1,g2⟩:=g.idle hup hb;rcases h1 with h|h
   ·exact h g1
   exact h g2
  rw[if_neg h1];simp only[not_or,ne_eq,Classical.not_not]at h1;exact⟨fun _=>⟨by omega,by omega,by omega,fun e=>absurd e hu,fun _=>base,fun _=>by omega,fun _ _=>h1,fun _ e=>by rw[hb]at e;cases e⟩,fun _=>rfl⟩
 rw[if_neg hb,devBusy_ok];exact⟨fun g=>⟨by omega,by omega,by omega,fun e=>absurd e hu,fun _=>base,fun _=>by omega,fun _ e=>absurd e hb,fun _ _=>g⟩,fun g=>g.work hup (by simpa using hb)⟩
theorem devReady_ok{d:Dev}:devReady d=0↔DevOk d∧d.up=true:=by
 unfold devReady;by_cases h:devCheck d=0
 ·rw[if_neg (by simpa using h)];have:=devCheck_ok.1 h
  cases hu:d.up
  ·simp
  simp[this]
 rw[if_pos h];exact⟨fun e=>absurd e h,fun g=>absurd (devCheck_ok.2 g.1) h⟩
def meets(p o:Stp):Option Stp:=
 if o.len=0∧p.len=0 then some ⟨p.at_,p.len,p.data++o.data⟩
 else if 0<o.len∧0<p.len∧p.at_+p.len=o.at_ then some ⟨p.at_,p.len+o.len,p.data⟩
 else none
/-! ### What they make -/
/-! ### With a step that takes all -/
def waits(md:Region.Mode)(ops:Array Oper)(i:Nat):List Nat:=match ops[i]? with
 |some o=>(o.after.toList.filter (Region.binds md)).map (·.on)
 |none=>[]
def leftN(listed:Array Bool):Nat:=listed.toList.countP (fun b=>!b)
theorem leftN_set{listed:Array Bool}{i:Nat}(h:listed.getD i true=false):leftN (listed.setIfInBounds i true)+1=leftN listed:=by
 obtain⟨l⟩:=listed;have hl:l.getD i true=false:=by simpa using h
 unfold leftN;simp only[List.setIfInBounds_toArray];clear h
 induction l generalizing i with
 |nil=>simp at hl
 |cons b l ih=>
  cases i with
  |zero=>simp at hl;subst hl;simp
  |succ i=>
   have:=ih (i:=i) (by simpa using hl);simp only[List.set_cons_succ,List.countP_cons];omega
theorem getD_set{listed:Array Bool}{i j:Nat}(h:listed.getD i true=false):(listed.setIfInBounds i true).getD j true=(if j=i then true else listed.getD j true)∧(listed.setIfInBounds i true).getD j false=(if j=i then true else listed.getD j false):=by
 have hi:i<listed.size:=by
  rcases Nat.lt_or_ge i listed.size with h'|h'
  ·exact h'
  simp[Array.getElem?_eq_none h']at h
 by_cases e:j=i
 ·subst e;simp[hi]
 rw[if_neg e,if_neg e];simp only[Array.getD_eq_getD_getElem?,Array.getElem?_setIfInBounds,if_neg (fun h=>e h.symm:¬i=j)];exact⟨trivial,trivial⟩
section
variable {P:Program} {md:Region.Mode} {ops:Array Oper} {Q:Exit->Act->World->Prop}
theorem wpAnyH_inv{S:World->Prop}(I:(Nat->Bool)->Act->World->Prop)(E:List Nat)(hE:∀i∈E,i<ops.size)(hac:∀i∈E,∀d∈waits md ops i,d<i∧d<ops.size)
  (step:∀i∈E,∀(done:Nat->Bool) (a:Act) (w:World),done i=false->(∀d∈waits md ops i,done d=true)->I done a w->wpOp P ops Q i (I (fun j=>if j=i then true else done j)) a w)
  (hdone:∀(done:Nat->Bool) (a:Act) (w:World),(∀i∈E,done i=true)->I done a w->Q .normal a w) (hS:∀(done:Nat->Bool) (a:Act) (w:World),I done a w->S w):
  ∀(fuel:Nat) (listed:Array Bool) (a:Act) (w:World),listed.size=ops.size->(∀j,j<ops.size->j ∉ E->listed.getD j true=true)->leftN listed<=fuel->I (fun j=>listed.getD j true) a w->wpAnyH P md ops Q S fuel listed a w:=by
 have stop:∀(listed:Array Bool),listed.size=ops.size->(∀j,j<ops.size->j ∉ E->listed.getD j true=true)->Region.ready md ops listed=[]->∀i∈E,listed.getD i true=true:=by
  intro listed hsz hL hr;have key:∀n i,i<=n->i∈E->listed.getD i true=true:=by
   intro n
   induction n with
   |zero=>
    intro i hi hm;obtain rfl:i=0:=by omega
    cases hb:listed.getD 0 true with
    |true=>rfl
    |false=>
     exfalso;have hlt:=hE 0 hm;have:(0:Nat)∈Region.ready md ops listed:=mem_ready.2 ⟨hb,ops[0],Array.getElem?_eq_getElem hlt,fun e he hbi=>by
      have hd:=hac 0 hm e.on (by unfold waits;rw[Array.getElem?_eq_getElem hlt];exact List.mem_map.2 ⟨e,List.mem_filter.2 ⟨by simpa using he,hbi⟩,rfl⟩);omega⟩
     rw[hr]at this;cases this
   |succ n ih=>
    intro i hi hm
    cases hb:listed.getD i true with
    |true=>rfl
    |false=>
     exfalso;have hlt:=hE i hm;have:i∈Region.ready md ops listed:=mem_ready.2 ⟨hb,ops[i],Array.getElem?_eq_getElem hlt,fun e he hbi=>by
      have hd:=hac i hm e.on (by unfold waits;rw[Array.getElem?_eq_getElem hlt];exact List.mem_map.2 ⟨e,List.mem_filter.2 ⟨by simpa using he,hbi⟩,rfl⟩);have ht:listed.getD e.on true=true:=by
       by_cases hin:e.on∈E
       ·exact ih e.on (by omega) hin
       exact hL e.on hd.2 hin
      have hlt2:e.on<listed.size:=by omega
      simp only[Array.getD_eq_getD_getElem?,Array.getElem?_eq_getElem hlt2,Option.getD_some]at ht⊢;exact ht⟩
     rw[hr]at this;cases this
  exact fun i hm=>key i i (Nat.le_refl _) hm
 intro fuel
 induction fuel with
 |zero=>
  intro listed a w hsz hL hf hI;have hall:∀i,listed.getD i true=true:=by
   intro i
   cases hb:listed.getD i true with
   |true=>rfl
   |false=>have:=leftN_set hb;omega
  have hr:Region.ready md ops listed=[]:=by
   rw[List.eq_nil_iff_forall_not_mem];intro i hi;have:=(mem_ready.1 hi).1;rw[hall i]at this;cases this
  exact⟨hr,hdone _ a w (fun i _=>hall i) hI⟩
 |succ fuel ih=>
  intro listed a w hsz hL hf hI;refine⟨fun hr=>hdone _ a w (stop listed hsz hL hr) hI,fun i hi=>?_⟩;obtain⟨hb,o,ho,hw⟩:=mem_ready.1 hi;have hlt:i<ops.size:=(Array.getElem?_eq_some_iff.1 ho).1;have hm:i∈E:=by
   by_cases hm:i∈E
   ·exact hm
   rw[hL i hlt hm]at hb;cases hb
  have hs:=step i hm _ a w hb (fun d hd=>by
   unfold waits at hd;rw[ho]at hd;obtain⟨e,he,rfl⟩:=List.mem_map.1 hd;obtain⟨he,hbi⟩:=List.mem_filter.1 he;have:=hw e (by simpa using he) hbi;have hlt2:e.on<listed.size:=by
    rcases Nat.lt_or_ge e.on listed.size with h'|h'
    ·exact h'
    simp[Array.getElem?_eq_none h']at this
   simp only[Array.getD_eq_getD_getElem?,Array.getElem?_eq_getElem hlt2,Option.getD_some]at this⊢;exact this) hI
  refine wpOp_mono (fun a' w' h=>⟨hS _ _ _ h,?_⟩) hs;refine ih _ a' w' (by simpa using hsz) (fun j hj hjE=>?_) (by have:=leftN_set hb;omega) ?_
  ·rw[(getD_set hb).1];split
   ·rfl
   ·exact hL j hj hjE
  have e:(fun j=>(listed.setIfInBounds i true).getD j true)=(fun j=>if j=i then true else listed.getD j true):=by
   funext j;exact(getD_set hb).1
  rw[e];exact h
theorem wpOp_do{i:Nat}{o:Oper}{a:Act}{w:World}{K:Act->World->Prop}(ho:ops[i]?=some o)(hg:o.guard=none)(h:o.wp P a w K Q):wpOp P ops Q i K a w:=by
 unfold wpOp;rw[ho]
 show if Region.wanted o (yielded ops a.tmps)=true then _ else _
 rw[if_pos (by simp[Region.wanted,hg])];exact Or.inl h
end
theorem set_same{a:Array Value}{d:Nat}(h:d<a.size)(v:Value):(a.setIfInBounds d v)[d]?=some v:=by simp[h]
theorem set_ne{a:Array Value}{d t:Nat}(h:d≠t)(v:Value):(a.setIfInBounds d v)[t]?=a[t]?:=by rw[Array.getElem?_setIfInBounds,if_neg h]
theorem x8iq(h:Y:=by
 unfold dstOf at ht;obtain⟨oi,hoi,_⟩:=Option.bind_eq_some_iff.1 ht;exact(Array.getElem?_eq_some_iff.1 hoi).1):Y:=h
def dstOf(ops:Array Oper)(i:Nat):Option Tmp:=(ops[i]?).bind (·.dst)
def dstsOk(ops:Array Oper)(n:Nat):Bool:=decide (ops.toList.filterMap (·.dst)).Nodup&&(ops.toList.filterMap (·.dst)).all (· <n)
def waitsOk(ops:Array Oper):Bool:=(List.range ops.size).all fun i=>(waits .any ops i).all fun d=>decide (d<i)
structure RegSt(ops:Array Oper)(vals:Nat->Value)(a0:Act)(w0:World)(done:Nat->Bool)(a:Act)(w:World):Prop where
 size:a.tmps.size=a0.tmps.size
 defers:a.defers=a0.defers
 old:∀t,(∀i,dstOf ops i≠some t)->a.tmps[t]?=a0.tmps[t]?
 new:∀i t,done i=true->dstOf ops i=some t->a.tmps[t]?=some (vals i)
 bel:Below w0.heap.size w0 w
theorem nodup_inj:∀(l:List Oper),(l.filterMap (·.dst)).Nodup->∀i j t (hi:i<l.length) (hj:j<l.length),l[i].dst=some t->l[j].dst=some t->i=j
 |[],_,i,_,_,hi,_,_,_=>by simp at hi
 |o::l,h,i,j,t,hi,hj,ei,ej=>by
  have mem:∀k (hk:k<l.length),l[k].dst=some t->t∈l.filterMap (·.dst):=fun k hk e=>List.mem_filterMap.2 ⟨_,List.getElem_mem hk,e⟩;rw[List.filterMap_cons]at h
  match i,j with
  |0,0=>rfl
  |0,j+1=>
   have e0:o.dst=some t:=ei;rw[e0]at h;exact absurd (mem j (by simpa using hj) (by simpa using ej)) (List.nodup_cons.1 h).1
  |i+1,0=>
   have e0:o.dst=some t:=ej;rw[e0]at h;exact absurd (mem i (by simpa using hi) (by simpa using ei)) (List.nodup_cons.1 h).1
  |i+1,j+1=>
   have h':(l.filterMap (·.dst)).Nodup:=by
    split at h
    ·exact h
    exact(List.nodup_cons.1 h).2
   have:=nodup_inj l h' i j t (by simpa using hi) (by simpa using hj) (by simpa using ei) (by simpa using ej);omega
theorem dst_inj{ops:Array Oper}{n:Nat}(h:dstsOk ops n=true){i j:Nat}{t:Tmp}(hi:dstOf ops i=some t)(hj:dstOf ops j=some t):i=j:=by
 unfold dstsOk at h;simp only[Bool.and_eq_true,decide_eq_true_eq]at h;unfold dstOf at hi hj;obtain⟨oi,hoi,ei⟩:=Option.bind_eq_some_iff.1 hi;obtain⟨oj,hoj,ej⟩:=Option.bind_eq_some_iff.1 hj;obtain⟨li,gi⟩:=Array.getElem?_eq_some_iff.1 hoi;obtain⟨lj,gj⟩:=Array.getElem?_eq_some_iff.1 hoj;exact nodup_inj ops.toList h.1 i j t (by simpa using li) (by simpa using lj) (by simp[gi,ei]) (by simp[gj,ej])
theorem dst_lt{ops:Array Oper}{n:Nat}(h:dstsOk ops n=true){i:Nat}{t:Tmp}(hi:dstOf ops i=some t):t<n:=by
 unfold dstsOk at h;simp only[Bool.and_eq_true,decide_eq_true_eq,List.all_eq_true]at h;unfold dstOf at hi;obtain⟨oi,hoi,ei⟩:=Option.bind_eq_some_iff.1 hi;obtain⟨li,gi⟩:=Array.getElem?_eq_some_iff.1 hoi;exact h.2 t (List.mem_filterMap.2 ⟨oi,by rw[<-gi];simp,ei⟩)
def OpLeaves(ops:Array Oper)(vals:Nat->Value)(i:Nat)(a:Act)(w:World)(a':Act)(w':World):Prop:=a'=a.put (dstOf ops i) (vals i)∧Below w.heap.size w w'
section
variable {P:Program} {ops:Array Oper} {Q:Exit->Act->World->Prop}
theorem wpAnyH_vals{S:World->Prop}(vals:Nat->Value)(a0:Act)(w0:World)(hd:dstsOk ops a0.tmps.size=true)(hw:waitsOk ops=true)
  (step:∀i,i<ops.size->∀(done:Nat->Bool) (a:Act) (w:World),(∀d∈waits .any ops i,done d=true)->RegSt ops vals a0 w0 done a w->wpOp P ops Q i (OpLeaves ops vals i a w) a w)
  (hQ:∀(a:Act) (w:World),RegSt ops vals a0 w0 (fun _=>true) a w->Q .normal a w) (hS:∀w,Below w0.heap.size w0 w->S w):
  wpAnyH P .any ops Q S ops.size (Array.replicate ops.size false) a0 w0:=by
 have hac:∀i∈List.range ops.size,∀d∈waits .any ops i,d<i∧d<ops.size:=by
  intro i hi d hd;unfold waitsOk at hw;have h1:=List.all_eq_true.1 (List.all_eq_true.1 hw i hi) d hd;have:i<ops.size:=by simpa using hi
  simp at h1;omega
 refine wpAnyH_inv (P:=P) (md:=.any) (ops:=ops) (Q:=Q) (S:=S) (RegSt ops vals a0 w0) (List.range ops.size) (fun i hi=>by simpa using hi) hac ?_ ?_ (fun _ _ _ h=>hS _ h.bel) ops.size _ a0 w0 (by simp) (fun j hj hn=>absurd (by simpa using hj) hn) ?_ ?_
 ·intro i hi done a w hdone hwait hI;refine wpOp_mono ?_ (step i (by simpa using hi) done a w hwait hI);rintro a' w' ⟨rfl,hb⟩
  cases hdi:dstOf ops i with
  |none=>
   refine⟨hI.size,hI.defers,hI.old,fun j t hj ht=>?_,hI.bel.trans (hb.mono hI.bel.size)⟩;have hji:j≠i:=by rintro rfl;rw[hdi]at ht;cases ht
   have hj':done j=true:=by simpa[hji]using hj
   exact hI.new j t hj' ht
  |some d=>
   have hlt:=dst_lt hd hdi;have hsz:d<a.tmps.size:=by rw[hI.size];exact hlt
   refine⟨by simp[Act.put,hI.size],by simp[Act.put,hI.defers],fun t ht=>?_,fun j t hj ht=>?_,hI.bel.trans (hb.mono hI.bel.size)⟩
   ·have hne:d≠t:=by rintro rfl;exact ht i hdi
    show (a.tmps.setIfInBounds d (vals i))[t]?=_;rw[set_ne hne];exact hI.old t ht
   show (a.tmps.setIfInBounds d (vals i))[t]?=_;by_cases e:d=t
   ·subst e;have:=dst_inj hd hdi ht;subst this;exact set_same hsz _
   have hji:j≠i:=by rintro rfl;rw[hdi]at ht;injection ht with ht;exact e ht
   have hj':done j=true:=by simpa[hji]using hj
   rw[set_ne e];exact hI.new j t hj' ht
 ·intro done a w hall hI;refine hQ a w ⟨hI.size,hI.defers,hI.old,fun i t _ ht=>?_,hI.bel⟩;have hi:i<ops.size:=by
   exact x8iq
  exact hI.new i t (hall i (by simpa using hi)) ht
 ·unfold leftN;refine Nat.le_trans List.countP_le_length ?_;simp
 refine⟨rfl,rfl,fun _ _=>rfl,fun i t hi ht=>?_,Below.refl _ _⟩;have hi':i<ops.size:=by
  exact x8iq
 simp[hi']at hi
theorem wp_region_vals{id:Nat}(hm:P.follows .mixedOrders=true)(vals:Nat->Value)(a0:Act)(w0:World)(hd:dstsOk ops a0.tmps.size=true)(hw:waitsOk ops=true)
  (step:∀i,i<ops.size->∀(done:Nat->Bool) (a:Act) (w:World),(∀d∈waits .any ops i,done d=true)->RegSt ops vals a0 w0.drew done a w->wpOp P ops Q i (OpLeaves ops vals i a w) a w)
  (hQ:∀(a:Act) (w:World),RegSt ops vals a0 w0.drew (fun _=>true) a w->Q .normal a w):(Code.region id ops true).wp P Q a0 w0:=
 wp_region_held (S:=fun _=>True) hm (wpAnyH_vals vals a0 w0.drew hd hw step hQ (fun _ _=>trivial))
def regEnd(ops:Array Oper)(vals:Nat->Value)(a0:Act):Act:=
 {tmps:=(List.range ops.size).foldl (fun b i=>match dstOf ops i with|some d=>b.setIfInBounds d (vals i)|none=>b) a0.tmps,defers:=a0.defers}
theorem RegSt.end_{vals:Nat->Value}{a0:Act}{w0:World}{a:Act}{w:World}(hd:dstsOk ops a0.tmps.size=true)(h:RegSt ops vals a0 w0 (fun _=>true) a w):a=regEnd ops vals a0:=by
 have key:∀(l:List Nat) (b:Array Value),b.size=a.tmps.size->(∀t,(∀i∈l,dstOf ops i≠some t)->a.tmps[t]?=b[t]?)->
   a.tmps=l.foldl (fun b i=>match dstOf ops i with|some d=>b.setIfInBounds d (vals i)|none=>b) b:=by
  intro l
  induction l with
  |nil=>intro b hb ht;exact Array.ext_getElem? (fun t=>ht t (by simp))
  |cons i l ih=>
   intro b hb ht;rw[List.foldl_cons]
   cases hdi:dstOf ops i with
   |none=>
    refine ih b hb (fun t hn=>ht t fun j hj=>?_);rcases List.mem_cons.1 hj with rfl|hj
    ·rw[hdi];simp
    exact hn j hj
   |some d=>
    refine ih _ (by simpa using hb) (fun t hn=>?_);by_cases e:d=t
    ·subst e;have hlt:d<b.size:=by rw[hb,h.size];exact dst_lt hd hdi
     rw[h.new i d rfl hdi];simp[hlt]
    show a.tmps[t]?=(b.setIfInBounds d (vals i))[t]?;rw[set_ne e];refine ht t fun j hj=>?_;rcases List.mem_cons.1 hj with rfl|hj
    ·rw[hdi];simpa using e
    exact hn j hj
 have ht:=key (List.range ops.size) a0.tmps h.size.symm (fun t ht=>h.old t fun i hi=>by
  have hi':i<ops.size:=by
   unfold dstOf at hi;obtain⟨oi,hoi,_⟩:=Option.bind_eq_some_iff.1 hi;exact(Array.getElem?_eq_some_iff.1 hoi).1
  exact ht i (by simpa using hi') hi)
 have hdf:=h.defers;obtain⟨at_,ad⟩:=a;unfold regEnd;simp only at ht hdf;rw[ht,hdf]
theorem wpOp_on{i:Nat}{o:Oper}{a:Act}{w:World}{K:Act->World->Prop}(ho:ops[i]?=some o)(hg:∀j b,o.guard=some (j,b)->∃t,dstOf ops j=some t∧a.tmps[t]?=some (.bool b))(h:o.wp P a w K Q):wpOp P ops Q i K a w:=by
 unfold wpOp;rw[ho]
 show if Region.wanted o (yielded ops a.tmps)=true then _ else _
 have:Region.wanted o (yielded ops a.tmps)=true:=by
  unfold Region.wanted
  cases hgd:o.guard with
  |none=>rfl
  |some p=>
   obtain⟨j,b⟩:=p;obtain⟨t,h1,h2⟩:=hg j b hgd;unfold dstOf at h1;simp[yielded,h1,h2]
 rw[if_pos this];exact Or.inl h
theorem wpOp_off{i:Nat}{o:Oper}{a:Act}{w:World}{K:Act->World->Prop}(ho:ops[i]?=some o){j:Nat}{b:Bool}(hg:o.guard=some (j,b)){t:Tmp}{v:Value}(ht:dstOf ops j=some t)(hv:a.tmps[t]?=some v)(hne:v≠.bool b)(h:K (a.put o.dst undef) w):wpOp P ops Q i K a w:=by
 unfold wpOp;rw[ho]
 show if Region.wanted o (yielded ops a.tmps)=true then _ else _
 have:Region.wanted o (yielded ops a.tmps)=false:=by
  unfold Region.wanted;rw[hg];unfold dstOf at ht;simp only[yielded,ht,Option.bind_some,hv]
  cases v<;>simp_all
 rw[this];exact h
end
theorem x0im(h:Y:=by
 intro i;unfold dstOf;rw[<-hds];simp only[List.getElem?_toArray,List.getElem?_map]
 cases l[i]?<;>rfl):Y:=h
theorem x9q7(h:Y:=by
 repeat (first|exact Below.refl _ _|refine bA ?_ _)):Y:=h
def waitsO(o:Oper):List Nat:=(o.after.toList.filter (Region.binds .any)).map (·.on)
theorem waits_eq(ops:Array Oper)(i:Nat)(o:Oper)(h:ops[i]?=some o):waits .any ops i=waitsO o:=by unfold waits waitsO;rw[h]
structure ChSt(ds:List (Option Tmp))(vs:List Value)(a0:Act)(w0:World)(done:Nat->Bool)(a:Act)(w:World):Prop where
 old:∀t,ds.contains (some t)=false->a.tmps[t]?=a0.tmps[t]?
 new:∀(i:Nat) t,done i=true->ds[i]?=some (some t)->a.tmps[t]?=some (vs.getD i undef)
 bel:Below w0.heap.size w0 w
def onB(vs:List Value)(o:Oper):Bool:=match o.guard with
 |none=>true
 |some (j,b)=>match vs[j]? with
  |some (.bool c)=>c==b
  |_=>false
def OpStep(P:Program)(Q:Exit->Act->World->Prop)(o:Oper)(v:Value)(a:Act)(w:World):Prop:=o.wp P a w (fun a' w'=>a'=a.put o.dst v∧Below w.heap.size w w') Q
def StepsOk(P:Program)(Q:Exit->Act->World->Prop)(ds:List (Option Tmp))(vs:List Value)(a0:Act)(w0:World):List Oper->List Value->Prop
 |[],_=>True
 |o::r,v::u=>((onB vs o=true∧∀(done:Nat->Bool) (a:Act) (w:World),(∀d∈waitsO o,done d=true)->ChSt ds vs a0 w0 done a w->OpStep P Q o v a w)∨(onB vs o=false∧v=undef))∧StepsOk P Q ds vs a0 w0 r u
 |_::_,[]=>False
def guardsOk(ds:List (Option Tmp))(l:List Oper):Bool:=l.all fun o=>match o.guard with
 |none=>true
 |some (j,_)=>(waitsO o).contains j&&(match ds[j]? with|some (some _)=>true|_=>false)
theorem steps_at{P:Program}{Q:Exit->Act->World->Prop}{ds:List (Option Tmp)}{vs0:List Value}{a0:Act}{w0:World}:∀(l:List Oper) (vs:List Value),StepsOk P Q ds vs0 a0 w0 l vs->∀(i:Nat) o,l[i]?=some o->
  (onB vs0 o=true∧∀(done:Nat->Bool) (a:Act) (w:World),(∀d∈waitsO o,done d=true)->ChSt ds vs0 a0 w0 done a w->OpStep P Q o (vs.getD i undef) a w)∨(onB vs0 o=false∧vs.getD i undef=undef)
 |[],_,_,i,o,h=>by simp at h
 |o::r,[],h,_,_,_=>h.elim
 |o::r,v::u,h,i,o',e=>by
  obtain⟨h1,h2⟩:=h
  match i with
  |0=>
   have e':o=o':=by simpa using e
   subst e';exact h1
  |i+1=>exact steps_at r u h2 i o' (by simpa using e)
def putAll:List (Option Tmp)->List Value->Array Value->Array Value
 |some d::ds,v::vs,b=>putAll ds vs (b.setIfInBounds d v)
 |none::ds,_::vs,b=>putAll ds vs b
 |_,_,b=>b
theorem putAll_some(d:Tmp)(ds:List (Option Tmp))(v:Value)(vs:List Value)(b:Array Value):putAll (some d::ds) (v::vs) b=putAll ds vs (b.setIfInBounds d v):=by rw[putAll]
theorem putAll_none(ds:List (Option Tmp))(v:Value)(vs:List Value)(b:Array Value):putAll (none::ds) (v::vs) b=putAll ds vs b:=by rw[putAll]
theorem putAll_nil(vs:List Value)(b:Array Value):putAll [] vs b=b:=by rw[putAll]<;>simp
theorem putAll_range(ops:Array Oper)(vals:List Value):∀(ds:List (Option Tmp)) (vs:List Value) (k:Nat) (b:Array Value),ds.length=vs.length->(∀i,dstOf ops (k+i)=(ds[i]?).bind (fun x=>x))->(∀i,i<ds.length->vals.getD (k+i) undef=vs.getD i undef)->
  (List.range' k ds.length).foldl (fun b i=>match dstOf ops i with|some d=>b.setIfInBounds d (vals.getD i undef)|none=>b) b=putAll ds vs b
 |[],vs,k,b,_,_,_=>by cases vs<;>rfl
 |x::ds,[],k,b,h,_,_=>by simp at h
 |x::ds,v::vs,k,b,h,hd,hv=>by
  have ih:=fun b=>putAll_range ops vals ds vs (k+1) b (by simpa using h) (fun i=>by have:=hd (i+1);rw[show k+1+i=k+(i+1) by omega];simpa using this) (fun i hi=>by have:=hv (i+1) (by simpa using hi);rw[show k+1+i=k+(i+1) by omega];simpa using this);have h0:=hd 0;have v0:=hv 0 (by simp);simp only[Nat.add_zero,List.getElem?_cons_zero,Option.bind_some]at h0;simp only[Nat.add_zero,List.getD_cons_zero]at v0;rw[List.length_cons,List.range'_succ,List.foldl_cons,h0,v0]
  cases x with
  |none=>rw[putAll_none];exact ih b
  |some d=>rw[putAll_some];exact ih _
section
variable {P:Program} {Q:Exit->Act->World->Prop}
theorem wp_region_chain{id:Nat}{l:List Oper}{a0:Act}{w0:World}(hm:P.follows .mixedOrders=true)(ds:List (Option Tmp))(vs:List Value)(n:Nat)(hn:a0.tmps.size=n)(hds:l.map (·.dst)=ds)(hd:dstsOk l.toArray n=true)(hw:waitsOk l.toArray=true)(hg:guardsOk ds l=true)
  (hlen:ds.length=vs.length) (steps:StepsOk P Q ds vs a0 w0.drew l vs) (hQ:∀(w:World),Below w0.heap.size w0 w->Q .normal {tmps:=putAll ds vs a0.tmps,defers:=a0.defers} w):(Code.region id l.toArray true).wp P Q a0 w0:=by
 rw[<-hn]at hd;have hdst:∀i,dstOf l.toArray i=(ds[i]?).bind (fun x=>x):=by
  exact x0im
 have conv:∀{done:Nat->Bool} {a:Act} {w:World},RegSt l.toArray (vs.getD · undef) a0 w0.drew done a w->ChSt ds vs a0 w0.drew done a w:=by
  intro done a w h;refine⟨fun t ht=>h.old t fun i hi=>?_,fun i t hi ht=>h.new i t hi (by rw[hdst,ht];rfl),h.bel⟩;rw[hdst]at hi
  cases e:ds[i]? with
  |none=>rw[e]at hi;cases hi
  |some x=>
   rw[e]at hi;have hx:x=some t:=hi;subst hx;have:=List.mem_of_getElem? e;rw[List.contains_iff_mem.2 this]at ht;cases ht
 refine wp_region_vals hm (vs.getD · undef) a0 w0 hd hw ?_ ?_
 ·intro i hi done a w hwait h;have hil:i<l.length:=by simpa using hi
  have ho:l.toArray[i]?=some l[i]:=by simp[hil]
  rw[waits_eq _ _ _ ho]at hwait;have hdi:dstOf l.toArray i=l[i].dst:=by unfold dstOf;rw[ho];rfl
  have hst:=steps_at l vs steps i l[i] (by simp[hil]);have hgd:∀j b,l[i].guard=some (j,b)->done j=true∧∃t,dstOf l.toArray j=some t:=by
   intro j b e;unfold guardsOk at hg;have:=List.all_eq_true.1 hg l[i] (List.getElem_mem hil);rw[e]at this;simp only[Bool.and_eq_true]at this;obtain⟨g1,g2⟩:=this;refine⟨hwait j (by simpa using g1),?_⟩;rw[hdst];split at g2
   ·rename_i t e2;exact⟨t,by rw[e2];rfl⟩
   cases g2
  rcases hst with ⟨h1,h2⟩|⟨h1,h2⟩
  ·refine wpOp_on ho (fun j b e=>?_) ?_
   ·obtain⟨g1,t,g2⟩:=hgd j b e;refine⟨t,g2,?_⟩;rw[h.new j t g1 g2];unfold onB at h1;rw[e]at h1;dsimp only at h1;split at h1
    ·rename_i c e2;rw[List.getD_eq_getElem?_getD,e2];simp at h1;subst h1;rfl
    cases h1
   ·refine Oper.wp_mono ?_ (h2 done a w hwait (conv h));rintro a' w' ⟨rfl,hb⟩;exact⟨by rw[hdi],hb⟩
  unfold onB at h1
  cases e:l[i].guard with
  |none=>rw[e]at h1;cases h1
  |some p=>
   obtain⟨j,b⟩:=p;obtain⟨g1,t,g2⟩:=hgd j b e;rw[e]at h1;refine wpOp_off ho e g2 (h.new j t g1 g2) ?_ ⟨by rw[hdi];show _=a.put _ (vs.getD i undef);rw[h2],Below.refl _ _⟩;intro ev;dsimp only at h1;have ev':vs.getD j undef=.bool b:=ev;rw[List.getD_eq_getElem?_getD]at ev'
   cases ej:vs[j]? with
   |none=>rw[ej]at ev';cases ev'
   |some v=>
    rw[ej]at ev' h1;have ev2:v=.bool b:=ev';subst ev2;simp at h1
 intro a w h;have e:=h.end_ hd;have hp:=putAll_range l.toArray vs ds vs 0 a0.tmps hlen (fun i=>by rw[Nat.zero_add];exact hdst i) (fun i _=>by rw[Nat.zero_add]);have hl:ds.length=l.toArray.size:=by rw[<-hds];simp
 rw[hl,<-List.range_eq_range']at hp;have e1:regEnd l.toArray (vs.getD · undef) a0={tmps:=putAll ds vs a0.tmps,defers:=a0.defers}:=by
  rw[<-hp];rfl
 rw[e,e1];exact hQ w ⟨h.bel.os,h.bel.tape,h.bel.output,h.bel.size,h.bel.block⟩
/-! Readings of operands. -/
theorem ch_new{ds:List (Option Tmp)}{vs:List Value}{a0:Act}{w0:World}{done:Nat->Bool}{a:Act}{w:World}(h:ChSt ds vs a0 w0 done a w){i:Nat}{t:Tmp}{v:Value}(hi:done i=true)(hd:ds[i]?=some (some t))(hv:vs[i]?=some v):a.tmps[t]?=some v:=by
 have:=h.new i t hi hd;rwa [List.getD_eq_getElem?_getD,hv]at this
theorem ch_old{ds:List (Option Tmp)}{vs:List Value}{a0:Act}{w0:World}{done:Nat->Bool}{a:Act}{w:World}(h:ChSt ds vs a0 w0 done a w){t:Tmp}{v:Value}(hd:ds.contains (some t)=false)(hv:a0.tmps[t]?=some v):a.tmps[t]?=some v:=by
 have:=h.old t hd;rwa [hv]at this
/-! Operations, by kind. -/
variable {d:Option Tmp} {t:TypeId} {p:String} {af:Array Edge} {g:Option (Nat×Bool)} {a:Act} {w:World} {v u:Value} {x y:Tmp} {z:Operand}
theorem ch_ev(e:a.tmps[x]?=some v):a.eval (.tmp x)=v:=by simp[Act.eval,e]
theorem ch_pure{o:Oper}(hx:(execOp a.eval o).run P w=.ok (.value v) w):OpStep P Q o v a w:=by
 unfold OpStep Oper.wp;rw[hx];exact⟨rfl,Below.refl _ _⟩
section
variable {x y z:Operand}
theorem ch_move(e:a.eval x=v):OpStep P Q ⟨d,.move x,t,p,af,g⟩ v a w:=ch_pure (by simp[execOp,e])
theorem ch_pick_t{x:Tmp}(e:a.tmps[x]?=some (.bool true))(f:a.eval y=v):OpStep P Q ⟨d,.pick (.tmp x) y z,t,p,af,g⟩ v a w:=ch_pure (by simp[execOp,ch_ev e,f,asBool])
theorem ch_pick_f{x:Tmp}(e:a.tmps[x]?=some (.bool false))(f:a.eval z=v):OpStep P Q ⟨d,.pick (.tmp x) y z,t,p,af,g⟩ v a w:=ch_pure (by simp[execOp,ch_ev e,f,asBool])
variable {ty uty:TypeId} {k:IntKind} {m n:Int}
end
theorem ch_call{f:FuncId}{args:Array Operand}{ts:Array TypeId}{vals:Array Value}(e:args.map a.eval=vals)(hf:(callFunc f vals).run P w=.ok (.enter f vals) w)(h:Calls P f vals w (RetB w v)):OpStep P Q ⟨d,.call {callee:=.value (.func f),args:=args,argTypes:=ts},t,p,af,g⟩ v a w:=by
 have hx:(execOp a.eval ⟨d,.call {callee:=.value (.func f),args:=args,argTypes:=ts},t,p,af,g⟩).run P w=(callFunc f vals).run P w:=by
  simp[execOp,resolve,e,Act.eval,invoke,Deferred.ofValue]
 unfold OpStep Oper.wp;rw[hx,hf];refine h.mono ?_;rintro e w' ⟨rfl,hb⟩;exact⟨rfl,hb⟩
end
def mixV(ks:List (Option Nat))(vs:List Value)(cv:Nat->Value)(i:Nat):Value:=match ks[i]? with
 |some (some _)=>cv i
 |_=>vs.getD i undef
structure MixSt(ds:List (Option Tmp))(ks:List (Option Nat))(vs:List Value)(a0:Act)(done:Nat->Bool)(cv:Nat->Value)(k:Nat)(a:Act):Prop where
 size:a.tmps.size=a0.tmps.size
 defers:a.defers=a0.defers
 old:∀t,ds.contains (some t)=false->a.tmps[t]?=a0.tmps[t]?
 new:∀(i:Nat) t,done i=true->ds[i]?=some (some t)->a.tmps[t]?=some (mixV ks vs cv i)
 cnt:∀i j,ks[i]?=some (some j)->(done i=true↔j<k)
def mixOk(ks:List (Option Nat))(l:List Oper):Bool:=(ks.filterMap id).Nodup&&(l.zip ks).all fun p=>match p.2 with
 |some (j+1)=>(waitsO p.1).any fun q=>ks[q]?==some (some j)
 |_=>true
theorem nodup_pos:∀(ks:List (Option Nat)),(ks.filterMap id).Nodup->∀(i j k:Nat),ks[i]?=some (some k)->ks[j]?=some (some k)->i=j
 |[],_,i,_,_,h,_=>by simp at h
 |x::ks,h,i,j,k,hi,hj=>by
  have mem:∀n,ks[n]?=some (some k)->k∈ks.filterMap id:=fun n e=>List.mem_filterMap.2 ⟨some k,List.mem_of_getElem? e,rfl⟩
  match i,j with
  |0,0=>rfl
  |0,j+1=>
   have e:x=some k:=by simpa using hi
   subst e;rw[List.filterMap_cons]at h;exact absurd (mem j (by simpa using hj)) (List.nodup_cons.1 h).1
  |i+1,0=>
   have e:x=some k:=by simpa using hj
   subst e;rw[List.filterMap_cons]at h;exact absurd (mem i (by simpa using hi)) (List.nodup_cons.1 h).1
  |i+1,j+1=>
   have h':(ks.filterMap id).Nodup:=by
    rw[List.filterMap_cons]at h;split at h
    ·exact h
    exact(List.nodup_cons.1 h).2
   have:=nodup_pos ks h' i j k (by simpa using hi) (by simpa using hj);omega
section
variable {P:Program} {Q:Exit->Act->World->Prop}
def MixStep(P:Program)(l0:List Oper)(Q:Exit->Act->World->Prop)(ds:List (Option Tmp))(ks:List (Option Nat))(vs:List Value)(a0:Act)(J:Nat->(Nat->Value)->World->Prop)(i:Nat)(o:Oper):Option Nat->Value->Prop
 |none,v=>∀(done:Nat->Bool) (cv:Nat->Value) (k:Nat) (a:Act) (w:World),(∀d∈waitsO o,done d=true)->MixSt ds ks vs a0 done cv k a->J k cv w->(∀(i':Nat) o' j,l0[i']?=some o'->ks[i']?=some (some j)->i∈waitsO o'->k<=j)->(execOp a.eval o).run P w=.ok (.value v) w
 |some k,_=>∀(done:Nat->Bool) (cv:Nat->Value) (a:Act) (w:World),(∀d∈waitsO o,done d=true)->MixSt ds ks vs a0 done cv k a->J k cv w->
  o.wp P a w (fun a' w'=>∃v,a'=a.put o.dst v∧J (k+1) (fun j=>if j=i then v else cv j) w') Q
def MixSteps(P:Program)(l0:List Oper)(Q:Exit->Act->World->Prop)(ds:List (Option Tmp))(ks0:List (Option Nat))(vs0:List Value)(a0:Act)(J:Nat->(Nat->Value)->World->Prop):Nat->List Oper->List (Option Nat)->List Value->Prop
 |_,[],_,_=>True
 |i,o::l,x::ks,v::vs=>MixStep P l0 Q ds ks0 vs0 a0 J i o x v∧MixSteps P l0 Q ds ks0 vs0 a0 J (i+1) l ks vs
 |_,_::_,_,_=>False
theorem mix_at{l0:List Oper}{ds:List (Option Tmp)}{ks0:List (Option Nat)}{vs0:List Value}{a0:Act}{J:Nat->(Nat->Value)->World->Prop}:∀(l:List Oper) (ks:List (Option Nat)) (vs:List Value) (n:Nat),MixSteps P l0 Q ds ks0 vs0 a0 J n l ks vs->
  ∀(i:Nat) o,l[i]?=some o->∃x,ks[i]?=some x∧MixStep P l0 Q ds ks0 vs0 a0 J (n+i) o x (vs.getD i undef)
 |[],_,_,_,_,i,o,h=>by simp at h
 |o::l,[],_,_,h,_,_,_=>h.elim
 |o::l,x::ks,[],_,h,_,_,_=>h.elim
 |o::l,x::ks,v::vs,n,h,i,o',e=>by
  obtain⟨h1,h2⟩:=h
  match i with
  |0=>
   have e':o=o':=by simpa using e
   subst e';exact⟨x,rfl,h1⟩
  |i+1=>
   obtain⟨y,e1,e2⟩:=mix_at l ks vs (n+1) h2 i o' (by simpa using e);exact⟨y,by simpa using e1,by rw[show n+(i+1)=n+1+i by omega];simpa using e2⟩
def mixAll(ks:List (Option Nat))(cv:Nat->Value):Nat->List Value->List Value
 |_,[]=>[]
 |i,v::vs=>(match ks[i]? with|some (some _)=>cv i|_=>v)::mixAll ks cv (i+1) vs
theorem mixAll_len(ks:List (Option Nat))(cv:Nat->Value):∀(n:Nat) (vs:List Value),(mixAll ks cv n vs).length=vs.length
 |_,[]=>rfl
 |n,v::vs=>by simp[mixAll,mixAll_len ks cv (n+1) vs]
theorem mixAll_at(ks:List (Option Nat))(cv:Nat->Value):∀(vs:List Value) (n i:Nat),i<vs.length->(mixAll ks cv n vs).getD i undef=(match ks[n+i]? with|some (some _)=>cv (n+i)|_=>vs.getD i undef)
 |[],_,_,h=>by simp at h
 |v::vs,n,0,_=>by simp[mixAll]
 |v::vs,n,i+1,h=>by
  have:=mixAll_at ks cv vs (n+1) i (by simpa using h);simp only[mixAll,List.getD_cons_succ];rw[this,show n+1+i=n+(i+1) by omega]
theorem wp_region_mix{id:Nat}{l:List Oper}{a0:Act}{w0:World}(hm:P.follows .mixedOrders=true)(ds:List (Option Tmp))(ks:List (Option Nat))(vs:List Value)(m:Nat)(J:Nat->(Nat->Value)->World->Prop)(n:Nat)(hn:a0.tmps.size=n)
  (hds:l.map (·.dst)=ds) (hd:dstsOk l.toArray n=true) (hw:waitsOk l.toArray=true) (hg:l.all (·.guard.isNone)=true) (hk:mixOk ks l=true) (hlen:ds.length=vs.length) (hlk:ds.length=ks.length) (hkm:ks.all (fun x=>match x with|some j=>decide (j<m)|none=>true)=true) (hmk:(List.range m).all (fun j=>ks.contains (some j))=true)
  (h0:J 0 (fun _=>undef) w0.drew) (steps:MixSteps P l Q ds ks vs a0 J 0 l ks vs)
  (hQ:∀(cv:Nat->Value) (w:World),J m cv w->Q .normal {tmps:=putAll ds (mixAll ks cv 0 vs) a0.tmps,defers:=a0.defers} w):(Code.region id l.toArray true).wp P Q a0 w0:=by
 rw[<-hn]at hd;have hdst:∀i,dstOf l.toArray i=(ds[i]?).bind (fun x=>x):=by
  exact x0im
 have hsz:l.length=ds.length:=by rw[<-hds];simp
 unfold mixOk at hk;simp only[Bool.and_eq_true,decide_eq_true_eq]at hk;obtain⟨hk1,hk2⟩:=hk;have hac:∀i∈List.range l.toArray.size,∀d∈waits .any l.toArray i,d<i∧d<l.toArray.size:=by
  intro i hi d hd;unfold waitsOk at hw;have h1:=List.all_eq_true.1 (List.all_eq_true.1 hw i hi) d hd;have:i<l.toArray.size:=by simpa using hi
  simp at h1 this⊢;omega
 refine wp_region_held (S:=fun _=>True) hm ?_;refine wpAnyH_inv (P:=P) (md:=.any) (ops:=l.toArray) (Q:=Q) (S:=fun _=>True) (fun done a w=>(∀(i:Nat) o,l[i]?=some o->done i=true->∀d∈waitsO o,done d=true)∧∃cv k,k<=m∧MixSt ds ks vs a0 done cv k a∧J k cv w) (List.range l.toArray.size) (fun i hi=>by simpa using hi) hac ?_ ?_ (fun _ _ _ _=>trivial) l.toArray.size _ a0 _ (by simp) (fun j hj hn=>absurd (by simpa using hj) hn) ?_ ?_
 ·rintro i hi done a w hdone hwait ⟨hcl,cv,k,hkm',hst,hJ⟩;have hil:i<l.length:=by simpa using hi
  have ho:l.toArray[i]?=some l[i]:=by simp[hil]
  rw[waits_eq _ _ _ ho]at hwait;have hgn:l[i].guard=none:=by
   have:=List.all_eq_true.1 hg l[i] (List.getElem_mem hil);simpa using this
  have hdi:dstOf l.toArray i=l[i].dst:=by unfold dstOf;rw[ho];rfl
  obtain⟨x,hx,hstep⟩:=mix_at l ks vs 0 steps i l[i] (by simp[hil]);rw[Nat.zero_add]at hstep
  -- the state behind it
  have next:∀(v:Value) (cv':Nat->Value) (k':Nat),(∀j,j≠i->cv' j=cv j)->v=mixV ks vs cv' i->(∀j q,ks[j]?=some (some q)->((if j=i then true else done j)=true↔q<k'))->MixSt ds ks vs a0 (fun j=>if j=i then true else done j) cv' k' (a.put l[i].dst v):=by
   intro v cv' k' hcv hv hc;refine⟨?_,?_,fun t ht=>?_,fun j t hj ht=>?_,hc⟩
   ·cases h:l[i].dst<;>simp[Act.put,hst.size]
   ·cases h:l[i].dst<;>simp[Act.put,hst.defers]
   ·cases h:l[i].dst with
    |none=>exact hst.old t ht
    |some d=>
     have hne:d≠t:=by
      rintro rfl;rw[h]at hdi;rw[hdst]at hdi
      cases e:ds[i]? with
      |none=>rw[e]at hdi;cases hdi
      |some y=>
       rw[e]at hdi;have hy:y=some d:=hdi;subst hy;rw[List.contains_iff_mem.2 (List.mem_of_getElem? e)]at ht;cases ht
     show (a.tmps.setIfInBounds d v)[t]?=_;rw[set_ne hne];exact hst.old t ht
   have hj1:dstOf l.toArray j=some t:=by rw[hdst,ht];rfl
   by_cases e:j=i
   ·subst e;rw[hdi]at hj1;rw[hj1]
    show (a.tmps.setIfInBounds t v)[t]?=_;rw[set_same (by rw[hst.size];exact dst_lt hd (hdi.trans hj1)),hv]
   have hj':done j=true:=by simpa[e]using hj
   have hold:=hst.new j t hj' ht;have hmv:mixV ks vs cv' j=mixV ks vs cv j:=by unfold mixV;rw[hcv j e]
   rw[hmv]
   cases h:l[i].dst with
   |none=>exact hold
   |some d=>
    have hne:d≠t:=by
     rintro rfl;rw[h]at hdi;exact e (dst_inj hd hj1 hdi)
    show (a.tmps.setIfInBounds d v)[t]?=_;rw[set_ne hne];exact hold
  have hcl':∀(j:Nat) o,l[j]?=some o->(if j=i then true else done j)=true->∀d∈waitsO o,(if d=i then true else done d)=true:=by
   intro j o hj hdj d hdm;by_cases e:d=i
   ·simp[e]
   simp only[e,if_false];by_cases e1:j=i
   ·subst e1;have:o=l[j]:=by rw[List.getElem?_eq_getElem hil]at hj;injection hj with hj;exact hj.symm
    subst this;exact hwait d hdm
   simp only[e1,if_false]at hdj;exact hcl j o hj hdj d hdm
  cases x with
  |none=>
   have hr:=hstep done cv k a w hwait hst hJ (fun i' o' j h1 h2 h3=>by
    rcases Nat.lt_or_ge j k with h|h
    ·have:=hcl i' o' h1 ((hst.cnt i' j h2).2 h) i h3;rw[hdone]at this;cases this
    exact h)
   refine wpOp_do ho hgn ?_;unfold Oper.wp;rw[hr];refine⟨hcl',cv,k,hkm',next _ cv k (fun _ _=>rfl) (by unfold mixV;rw[hx]) (fun j q hj=>?_),hJ⟩;have hne:j≠i:=by rintro rfl;rw[hx]at hj;cases hj
   simp only[hne,if_false];exact hst.cnt j q hj
  |some q=>
   have h1:¬q<k:=fun h=>by
    have:=(hst.cnt i q hx).2 h;rw[hdone]at this;cases this
   have h2:q<=k:=by
    cases q with
    |zero=>omega
    |succ q=>
     have hz:=List.all_eq_true.1 hk2 (l[i],some (q+1)) (by
      rw[List.mem_iff_getElem?];exact⟨i,by rw[List.getElem?_zip_eq_some];exact⟨by simp[hil],hx⟩⟩)
     obtain⟨p,hp,he⟩:=List.any_eq_true.1 hz;have:=(hst.cnt p q (by simpa using he)).1 (hwait p hp);omega
   obtain rfl:q=k:=by omega
   have hqm:q<m:=by
    have:=List.all_eq_true.1 hkm (some q) (List.mem_of_getElem? hx);simpa using this
   have hr:=hstep done cv a w hwait hst hJ;refine wpOp_do ho hgn (Oper.wp_mono ?_ hr);rintro a' w' ⟨v,rfl,hJ'⟩;refine⟨hcl',_,q+1,by omega,next v _ (q+1) (fun j hj=>by simp[hj]) (by unfold mixV;rw[hx];simp) (fun j r hj=>?_),hJ'⟩;by_cases e:j=i
   ·subst e;rw[hx]at hj;injection hj with hj;injection hj with hj;simp;omega
   simp only[e,if_false];rw[hst.cnt j r hj];have:r≠q:=fun h=>by subst h;exact e (nodup_pos ks hk1 _ _ _ hj hx)
   omega
 ·rintro done a w hall ⟨_,cv,k,hkm',hst,hJ⟩;have hkm1:k=m:=by
   rcases Nat.lt_or_ge k m with h|h
   ·have hc:=List.all_eq_true.1 hmk k (by simpa using h);obtain⟨j,hj⟩:=List.mem_iff_getElem?.1 (List.contains_iff_mem.1 hc);have hjl:j<l.length:=by rw[hsz,hlk];exact(List.getElem?_eq_some_iff.1 hj).1
    have:=(hst.cnt j k hj).1 (hall j (by simpa using hjl));omega
   omega
  subst hkm1;have e:a={tmps:=putAll ds (mixAll ks cv 0 vs) a0.tmps,defers:=a0.defers}:=by
   have hreg:RegSt l.toArray ((mixAll ks cv 0 vs).getD · undef) a0 w (fun j=>if j<l.length then true else false) a w:=by
    refine⟨hst.size,hst.defers,fun t ht=>hst.old t ?_,fun i t hi ht=>?_,Below.refl _ _⟩
    ·cases hc:ds.contains (some t)with
     |false=>rfl
     |true=>
      obtain⟨j,hj⟩:=List.mem_iff_getElem?.1 (List.contains_iff_mem.1 hc);exact absurd (by rw[hdst,hj];rfl) (ht j)
    have hil:i<l.length:=by
     rcases Nat.lt_or_ge i l.length with h|h
     ·exact h
     simp[Nat.not_lt.2 h]at hi
    have ht':ds[i]?=some (some t):=by
     rw[hdst]at ht
     cases e:ds[i]? with
     |none=>rw[e]at ht;cases ht
     |some y=>rw[e]at ht;have hy:y=some t:=ht;rw[hy]
    rw[hst.new i t (hall i (by simpa using hil)) ht'];have:=mixAll_at ks cv vs 0 i (by omega);rw[Nat.zero_add]at this
    show some (mixV ks vs cv i)=some ((mixAll ks cv 0 vs).getD i undef);rw[this];rfl
   have hreg1:RegSt l.toArray ((mixAll ks cv 0 vs).getD · undef) a0 w (fun _=>true) a w:=by
    refine⟨hreg.size,hreg.defers,hreg.old,fun i t _ ht=>?_,hreg.bel⟩;have hi:i<l.length:=by
     unfold dstOf at ht;obtain⟨oi,hoi,_⟩:=Option.bind_eq_some_iff.1 ht;simpa using (Array.getElem?_eq_some_iff.1 hoi).1
    exact hreg.new i t (by simp[hi]) ht
   have e:=hreg1.end_ hd;have hml:=mixAll_len ks cv 0 vs;have hp:=putAll_range l.toArray (mixAll ks cv 0 vs) ds (mixAll ks cv 0 vs) 0 a0.tmps (by rw[hml];exact hlen) (fun i=>by rw[Nat.zero_add];exact hdst i) (fun i _=>by rw[Nat.zero_add]);have hl:ds.length=l.toArray.size:=by rw[<-hds];simp
   rw[hl,<-List.range_eq_range']at hp;have e1:regEnd l.toArray ((mixAll ks cv 0 vs).getD · undef) a0={tmps:=putAll ds (mixAll ks cv 0 vs) a0.tmps,defers:=a0.defers}:=by
    rw[<-hp];rfl
   rw[e,e1]
  rw[e];exact hQ cv w hJ
 ·unfold leftN;refine Nat.le_trans List.countP_le_length ?_;simp
 refine⟨fun i o ho hi=>?_,fun _=>undef,0,Nat.zero_le _,⟨rfl,rfl,fun _ _=>rfl,fun i t hi ht=>?_,fun i j hj=>?_⟩,h0⟩
 ·have hil:i<l.length:=(List.getElem?_eq_some_iff.1 ho).1;simp[hil]at hi
 ·have hil:i<l.length:=by rw[hsz];exact(List.getElem?_eq_some_iff.1 ht).1
  simp[hil]at hi
 have hil:i<l.length:=by rw[hsz,hlk];exact(List.getElem?_eq_some_iff.1 hj).1
 simp[hil]
/-! Readings of operands. -/
theorem mx_new{ds:List (Option Tmp)}{ks:List (Option Nat)}{vs:List Value}{a0:Act}{done:Nat->Bool}{cv:Nat->Value}{k:Nat}{a:Act}(h:MixSt ds ks vs a0 done cv k a){i:Nat}{t:Tmp}{v:Value}(hi:done i=true)(hd:ds[i]?=some (some t))(hk:ks[i]?=some none)(hv:vs[i]?=some v):a.tmps[t]?=some v:=by
 rw[h.new i t hi hd];unfold mixV;rw[hk,List.getD_eq_getElem?_getD,hv];rfl
theorem mx_cv{ds:List (Option Tmp)}{ks:List (Option Nat)}{vs:List Value}{a0:Act}{done:Nat->Bool}{cv:Nat->Value}{k:Nat}{a:Act}(h:MixSt ds ks vs a0 done cv k a){i j:Nat}{t:Tmp}(hi:done i=true)(hd:ds[i]?=some (some t))(hk:ks[i]?=some (some j)):a.tmps[t]?=some (cv i):=by
 rw[h.new i t hi hd];unfold mixV;rw[hk]
theorem mx_old{ds:List (Option Tmp)}{ks:List (Option Nat)}{vs:List Value}{a0:Act}{done:Nat->Bool}{cv:Nat->Value}{k:Nat}{a:Act}(h:MixSt ds ks vs a0 done cv k a){t:Tmp}{v:Value}(hd:ds.contains (some t)=false)(hv:a0.tmps[t]?=some v):a.tmps[t]?=some v:=(h.old t hd).trans hv
section
variable {a:Act} {w:World} {x:Operand} {v:Value} {d:Option Tmp} {t:TypeId} {p:String} {af:Array Edge} {g:Option (Nat×Bool)}
theorem mx_move(e:a.eval x=v):(execOp a.eval ⟨d,.move x,t,p,af,g⟩).run P w=.ok (.value v) w:=by simp[execOp,e]
theorem mx_assign(e:a.eval x=v):(execOp a.eval ⟨d,.assign x,t,p,af,g⟩).run P w=.ok (.value v) w:=by simp[execOp,e]
end
end
section
variable {P:Program} {Q:Exit->Act->World->Prop}
/-! Readings of operands. -/
end
theorem wp_asg{P:Program}{a:Act}{w:World}{K:Act->World->Prop}{Q:Exit->Act->World->Prop}{x:Operand}{v:Value}{d:Option Tmp}{t:TypeId}{p:String}{af:Array Edge}{g:Option (Nat×Bool)}(e:a.eval x=v)(h:K (a.put d v) w):Oper.wp P ⟨d,.assign x,t,p,af,g⟩ a w K Q:=by
 unfold Oper.wp;rw[mx_assign e];exact h
section
open Go.Shelf Go.RowKit
end
theorem wp_call{P:Program}{Q:Exit->Act->World->Prop}{K:Act->World->Prop}{R:Ending->World->Prop}{d:Option Tmp}{t:TypeId}{p:String}{af:Array Edge}{g:Option (Nat×Bool)}{a:Act}{w:World}{f:FuncId}{args:Array Operand}{ts:Array TypeId}{vals:Array Value}(e:args.map a.eval=vals)(hf:(callFunc f vals).run P w=.ok (.enter f vals) w)(h:Calls P f vals w R)
  (hk:∀e w',R e w'->∃v,e=.returned v∧K (a.put d v) w'):Oper.wp P ⟨d,.call {callee:=.value (.func f),args:=args,argTypes:=ts},t,p,af,g⟩ a w K Q:=by
 have hx:(execOp a.eval ⟨d,.call {callee:=.value (.func f),args:=args,argTypes:=ts},t,p,af,g⟩).run P w=(callFunc f vals).run P w:=by
  simp[execOp,resolve,e,Act.eval,invoke,Deferred.ofValue]
 unfold Oper.wp;rw[hx,hf];refine h.mono ?_;intro e w' hr;obtain⟨v,rfl,hk⟩:=hk e w' hr;exact hk
theorem x4pw(h:Y:=by
 rw[if_pos h1]at h;exact absurd h h1):Y:=h
def Before(a b:Chk):Prop:=kin a b∧a.n<b.n
theorem lined_pair:∀(p:Option Chk) (l:List Chk),Lined p l↔(∀c∈l,chkCheck c=0)∧List.Pairwise Before l∧∀q,p=some q->∀c∈l,Before q c
 |p,[]=>by simp[Lined]
 |p,c::l=>by
  unfold Lined;rw[lined_pair (some c) l,List.pairwise_cons];constructor
  ·rintro⟨h1,h2,h3,h4,h5⟩;refine⟨fun x hx=>?_,⟨fun x hx=>h5 c rfl x hx,h4⟩,fun q hq x hx=>?_⟩
   ·rcases List.mem_cons.1 hx with rfl|hx
    ·exact h1
    ·exact h3 x hx
   have hc:=h2 q hq;rcases List.mem_cons.1 hx with rfl|hx
   ·exact hc
   have:=h5 c rfl x hx;exact⟨kin_trans hc.1 this.1,by have:=this.2;have:=hc.2;omega⟩
  rintro⟨h1,⟨h2,h3⟩,h4⟩;exact⟨h1 c (by simp),fun q hq=>h4 q hq c (by simp),fun x hx=>h1 x (by simp[hx]),h3,fun q hq x hx=>by injection hq with hq;subst hq;exact h2 x hx⟩
theorem chkList_ok{l:List Chk}:chkList l=0↔(∀c∈l,chkCheck c=0)∧List.Pairwise Before l:=by
 unfold chkList;rw[listGo_ok,lined_pair];simp
/-! ### One more -/
theorem take_insAt(l:List Chk)(n:Int):l.take (insAt l n)=l.takeWhile (fun c=>decide (c.n<n))∧l.drop (insAt l n)=l.dropWhile (fun c=>decide (c.n<n)):=by
 unfold insAt
 induction l with
 |nil=>simp
 |cons x l ih=>
  rw[List.takeWhile_cons,List.dropWhile_cons];by_cases h:x.n<n
  ·simp only[h,decide_true,if_true,List.length_cons,List.take_succ_cons,List.drop_succ_cons,ih];exact⟨trivial,trivial⟩
  simp[h]
theorem kin_head{x:Chk}{r:List Chk}(h:List.Pairwise Before (x::r)):∀y∈x::r,kin x y:=by
 intro y hy;rcases List.mem_cons.1 hy with rfl|hy
 ·exact kin_refl _
 exact((List.pairwise_cons.1 h).1 y hy).1
theorem ins_pair{l:List Chk}{c:Chk}(h:List.Pairwise Before l)(hk:∀y∈l,kin y c)(hn:∀y∈l,y.n≠c.n):
  List.Pairwise Before (l.takeWhile (fun y=>decide (y.n<c.n))++c::l.dropWhile (fun y=>decide (y.n<c.n))):=by
 induction l with
 |nil=>simp
 |cons x l ih=>
  obtain⟨h1,h2⟩:=List.pairwise_cons.1 h;rw[List.takeWhile_cons,List.dropWhile_cons];by_cases e:x.n<c.n
  ·simp only[e,decide_true,if_true,List.cons_append,List.pairwise_cons];refine⟨fun y hy=>?_,ih h2 (fun y hy=>hk y (by simp[hy])) (fun y hy=>hn y (by simp[hy]))⟩;rcases List.mem_append.1 hy with hy|hy
   ·exact h1 y ((List.takeWhile_subset _) hy)
   rcases List.mem_cons.1 hy with rfl|hy
   ·exact⟨hk x (by simp),e⟩
   exact h1 y ((List.dropWhile_subset _) hy)
  simp only[e,decide_false,Bool.false_eq_true,if_false,List.nil_append];refine List.pairwise_cons.2 ⟨fun y hy=>?_,h⟩;have hx:=hn x (by simp);rcases List.mem_cons.1 hy with rfl|hy
  ·exact⟨kin_symm (hk y (by simp)),by omega⟩
  have:=h1 y hy;exact⟨kin_trans (kin_symm (hk x (by simp))) this.1,by have:=this.2;omega⟩
theorem chkAdd_ok{l:List Chk}{c:Chk}(hl:chkList l=0)(hc:chkCheck c=0):(chkAdd l c).2=0∧
  ((l=[]∨∃x∈l,¬kin x c)->(chkAdd l c).1=[c])∧
  ((∀x∈l,kin x c)->(∃y∈l,y.n=c.n)->(chkAdd l c).1=l)∧
  ((∀x∈l,kin x c)->(∀y∈l,y.n≠c.n)->(chkAdd l c).1=l.takeWhile (fun y=>decide (y.n<c.n))++c::l.dropWhile (fun y=>decide (y.n<c.n))):=by
 obtain⟨g1,g2⟩:=chkList_ok.1 hl;unfold chkAdd;rw[if_neg (by simpa using hl),if_neg (by simpa using hc)]
 match l with
 |[]=>simp
 |x::r=>
  dsimp only;have hh:=kin_head g2;by_cases hk:kin x c
  ·rw[if_neg (by simpa using hk)];have hall:∀y∈x::r,kin y c:=fun y hy=>kin_trans (kin_symm (hh y hy)) hk;by_cases he:∃y∈x::r,y.n=c.n
   ·rw[if_pos he];refine⟨rfl,fun h=>?_,fun _ _=>rfl,fun _ h=>?_⟩
    ·rcases h with h|⟨y,hy,hn⟩
     ·cases h
     ·exact absurd (hall y hy) hn
    obtain⟨y,hy,e⟩:=he;exact absurd e (h y hy)
   rw[if_neg he];refine⟨rfl,fun h=>?_,fun _ h=>absurd h he,fun _ _=>?_⟩
   ·rcases h with h|⟨y,hy,hn⟩
    ·cases h
    ·exact absurd (hall y hy) hn
   rw[(take_insAt _ _).1,(take_insAt _ _).2]
  rw[if_pos hk];exact⟨rfl,fun _=>rfl,fun h=>absurd (h x (by simp)) hk,fun h=>absurd (h x (by simp)) hk⟩
theorem kin_all{l:List Chk}{c:Chk}(hl:chkList l=0)(hne:l≠[]):(∀x∈l,kin x c)∨(∃x∈l,¬kin x c)∧∀x∈l,¬kin x c:=by
 obtain⟨g1,g2⟩:=chkList_ok.1 hl
 match l,hne with
 |x::r,_=>
  have hh:=kin_head g2;by_cases hk:kin x c
  ·exact .inl fun y hy=>kin_trans (kin_symm (hh y hy)) hk
  exact .inr ⟨⟨x,by simp,hk⟩,fun y hy h=>hk (kin_trans (hh y hy) h)⟩
theorem add_again{l:List Chk}{c:Chk}(hl:chkList l=0)(hc:chkCheck c=0):
  chkList (chkAdd l c).1=0∧(∃y∈(chkAdd l c).1,y.n=c.n∧kin y c)∧chkAdd (chkAdd l c).1 c=((chkAdd l c).1,0):=by
 obtain⟨e4,e1,e2,e3⟩:=chkAdd_ok hl hc;obtain⟨g1,g2⟩:=chkList_ok.1 hl;have key:chkList (chkAdd l c).1=0∧(∃y∈(chkAdd l c).1,y.n=c.n∧kin y c)∧∀y∈(chkAdd l c).1,kin y c:=by
  have one:chkList [c]=0:=chkList_ok.2 ⟨by simp[hc],by simp⟩;by_cases hne:l=[]
  ·rw[e1 (.inl hne)];exact⟨one,⟨c,by simp,rfl,kin_refl c⟩,by simp[kin_refl]⟩
  rcases kin_all (c:=c) hl hne with hk|⟨hk,_⟩
  ·by_cases he:∃y∈l,y.n=c.n
   ·rw[e2 hk he];obtain⟨y,hy,h⟩:=he;exact⟨hl,⟨y,hy,h,hk y hy⟩,hk⟩
   ·have he':∀y∈l,y.n≠c.n:=fun y hy h=>he ⟨y,hy,h⟩;rw[e3 hk he'];have mem:∀y∈l.takeWhile (fun y=>decide (y.n<c.n))++c::l.dropWhile (fun y=>decide (y.n<c.n)),y=c∨y∈l:=by
     intro y hy;rcases List.mem_append.1 hy with hy|hy
     ·exact .inr ((List.takeWhile_subset _) hy)
     rcases List.mem_cons.1 hy with rfl|hy
     ·exact .inl rfl
     exact .inr ((List.dropWhile_subset _) hy)
    refine⟨chkList_ok.2 ⟨fun y hy=>?_,ins_pair g2 hk he'⟩,⟨c,by simp,rfl,kin_refl c⟩,fun y hy=>?_⟩
    ·rcases mem y hy with rfl|h
     ·exact hc
     ·exact g1 y h
    rcases mem y hy with rfl|h
    ·exact kin_refl _
    exact hk y h
  rw[e1 (.inr hk)];exact⟨one,⟨c,by simp,rfl,kin_refl c⟩,by simp[kin_refl]⟩
 obtain⟨k1,k2,k3⟩:=key;refine⟨k1,k2,?_⟩;obtain⟨f4,f1,f2,f3⟩:=chkAdd_ok k1 hc;obtain⟨y,hy,h,_⟩:=k2;exact Prod.ext (f2 k3 ⟨y,hy,h⟩) f4
theorem chkAdd_zero{l:List Chk}{c:Chk}(h:(chkAdd l c).2=0):chkList l=0∧chkCheck c=0:=by
 unfold chkAdd at h;by_cases h1:chkList l=0
 ·by_cases h2:chkCheck c=0
  ·exact⟨h1,h2⟩
  ·rw[if_neg (by simpa using h1),if_pos h2]at h;exact absurd h h2
 exact x4pw
/-! ### All of a patch -/
def nOf(b:LU):Nat:=(b.length+15) / 16
theorem chunkAt_ok{p:Pat}{b:LU}(hp:p.range)(h:nOf b<=52){k:Nat}(hk:k<nOf b):chkCheck (chunkAt p b (nOf b) k)=0:=by
 rw[chkCheck_ok];unfold Pat.range at hp;unfold nOf at *
 refine⟨⟨hp.1,hp.2.1,hp.2.2.1,hp.2.2.2.1,by simp[chunkAt];omega,by simp[chunkAt];omega,by simp[chunkAt],by simp[chunkAt];omega⟩,?_,?_,?_⟩
 ·intro e;have:=congrArg List.length e;simp[chunkAt]at this;omega
 ·simp[chunkAt];omega
 intro e;simp[chunkAt]at e⊢;omega
theorem chkCut_ok{p:Pat}(h:(chkCut p).2=0):patCheck p=0∧nOf (packed (patBytes p))<=52∧1<=nOf (packed (patBytes p))∧(chkCut p).1=chunksOf p (packed (patBytes p)):=by
 unfold chkCut at *
 by_cases h1:patCheck p=0
 ·rw[if_neg (by simpa using h1)]at h⊢;by_cases h2:52<((packed (patBytes p)).length+15) / 16
  ·rw[if_pos h2]at h;simp at h
  rw[if_neg h2];have:=packed_patch_len h1;refine⟨h1,by unfold nOf;omega,by unfold nOf;omega,rfl⟩
 exact x4pw
theorem x1va(h:Y:=by
 rw[if_pos h2]at h;exact absurd h h2):Y:=h
theorem rec_ok{d:Dev}(h:DevOk d):recCheck d.rec_=0:=recRead_ok h.cops
theorem rec_active{r:Rec}(h:recCheck r=0):r.active=0∨r.active=1:=by
 have:=(recCheck_parts h).1;unfold RangeOk at this;omega
theorem written{d:Dev}(h:copCheck d.c0 d.c1=0){r:Rec}{torn:Bool}(hw:(recWrite d.c0 d.c1 r torn).2=0):
  recCheck (nextRec d.c0 d.c1 r)=0∧copCheck (d.write r torn).c0 (d.write r torn).c1=0∧(d.write r torn).rec_=if torn=true then d.rec_ else nextRec d.c0 d.c1 r:=by
 have hr:recCheck (nextRec d.c0 d.c1 r)=0:=by
  unfold recWrite at hw;rw[if_pos h]at hw;by_cases e:recCheck {r with gen:=(recRead d.c0 d.c1).1.gen+1}=0
  ·exact e
  rw[if_neg e]at hw;exact absurd hw e
 obtain⟨h1,h2,h3,h4,h5,h6,_,_⟩:=write_torn h hr;refine⟨hr,?_,?_⟩
 ·cases torn
  ·simp only[Dev.write,h1];exact h3
  ·simp only[Dev.write,h2];exact h4
 cases torn
 ·simp only[Dev.write,h1,Dev.rec_,h5];rfl
 simp only[Dev.write,h2,Dev.rec_,h6];rfl
theorem nextRec_at(c d:Cop)(r:Rec)(k:Int):(nextRec c d r).at_ k=r.at_ k:=rfl
theorem down_ok{d:Dev}(h0:d.s0.length=64)(h1:d.s1.length=64)(hc:copCheck d.c0 d.c1=0):DevOk d.down:=
 ⟨h0,h1,hc,fun _=>⟨rfl,rfl,rfl,rfl,rfl⟩,fun e=>(by cases e),fun e=>(by cases e),fun e=>(by cases e),fun e=>(by cases e)⟩
theorem setOther_at{r:Rec}(h:r.active=0∨r.active=1)(x:Inf):(r.setOther x).at_ r.active=r.at_ r.active∧(r.setOther x).at_ (1-r.active)=x∧(r.setOther x).active=r.active∧(r.setOther x).floor=r.floor∧(r.setOther x).trying=r.trying∧(r.setOther x).tries=r.tries:=by
 unfold Rec.setOther Rec.at_;rcases h with h|h<;>simp[h]
theorem tryIt_at{r:Rec}(h:r.active=0∨r.active=1)(x:Inf):(r.tryIt x).at_ r.active=r.at_ r.active∧(r.tryIt x).at_ (1-r.active)=x∧(r.tryIt x).active=r.active∧(r.tryIt x).floor=r.floor∧(r.tryIt x).trying=true∧(r.tryIt x).tries=3:=by
 unfold Rec.tryIt Rec.setOther Rec.at_;rcases h with h|h<;>simp[h]
theorem ready_zero{d:Dev}{e:Dev×Int}(h:(if devReady d≠0 then (Dev.zero,devReady d)else e).2=0):DevOk d∧d.up=true∧(if devReady d≠0 then (Dev.zero,devReady d)else e)=e:=by
 by_cases hr:devReady d=0
 ·rw[if_neg (by simpa using hr)];exact⟨(devReady_ok.1 hr).1,(devReady_ok.1 hr).2,rfl⟩
 rw[if_pos hr]at h;exact absurd h hr
theorem hear_keeps{d:Dev}{c:Chk}(h:(devHear d c).2=0):DevOk d∧d.up=true∧d.busy=false∧(chkAdd d.got c).2=0∧(devHear d c).1={d with got:=(chkAdd d.got c).1}∧DevOk (devHear d c).1:=by
 unfold devHear at h⊢;obtain⟨g,hu,e⟩:=ready_zero h;rw[e]at h⊢;by_cases hb:d.busy=true
 ·rw[if_pos hb]at h;simp at h
 rw[if_neg hb]at h⊢;by_cases ha:(chkAdd d.got c).2≠0
 ·rw[if_pos ha]at h;exact absurd h ha
 rw[if_neg ha]at h⊢;have ha':(chkAdd d.got c).2=0:=by omega
 have hb':d.busy=false:=by simpa using hb
 obtain⟨z1,z2⟩:=chkAdd_zero ha';refine⟨g,hu,hb',ha',rfl,g.l0,g.l1,g.cops,fun e=>(by rw[hu]at e;cases e),fun e=>g.run e,fun _=>(add_again z1 z2).1,fun e e'=>g.idle e e',fun _ e=>?_⟩;have e':d.busy=true:=e;rw[hb']at e';cases e'
structure Opened(d e:Dev):Prop where
 ok:DevOk d
 up:d.up=true
 idle:d.busy=false∧d.rec_.trying=false
 joined:(chkJoin d.got).2=0
 fits:(chkJoin d.got).1.from_=(d.rec_.at_ d.rec_.active).ver∧d.rec_.floor<=(chkJoin d.got).1.to_
 does:(patDo (sumOn 1) (chkJoin d.got).1 (d.image d.rec_.active d.rec_)).2=0
 writes:(recWrite d.c0 d.c1 (d.rec_.setOther Inf.zero) false).2=0
 is:e={d.write (d.rec_.setOther Inf.zero) false with busy:=true,job:=(chkJoin d.got).1,done:=0,got:=[]}
theorem open_parts{d:Dev}(h:(devOpen d).2=0):Opened d (devOpen d).1:=by
 unfold devOpen at h⊢;obtain⟨g,hu,e⟩:=ready_zero h;rw[e]at h⊢;by_cases h1:d.busy=true∨d.rec_.trying=true
 ·rw[if_pos h1]at h;simp at h
 rw[if_neg h1]at h⊢;by_cases h2:(chkJoin d.got).2≠0
 ·exact x1va
 rw[if_neg h2]at h⊢;by_cases h2:(chkJoin d.got).1.from_≠(d.rec_.at_ d.rec_.active).ver∨(chkJoin d.got).1.to_<d.rec_.floor
 ·rw[if_pos h2]at h;simp at h
 rw[if_neg h2]at h⊢;by_cases h2:(patDo (sumOn 1) (chkJoin d.got).1 (d.image d.rec_.active d.rec_)).2≠0
 ·exact x1va
 rw[if_neg h2]at h⊢;by_cases h2:(recWrite d.c0 d.c1 (d.rec_.setOther Inf.zero) false).2≠0
 ·exact x1va
 rw[if_neg h2];simp only[not_or,Bool.not_eq_true]at h1;exact⟨g,hu,h1,by omega,⟨by omega,by omega⟩,by omega,by omega,rfl⟩
theorem opened_rec{d e:Dev}(o:Opened d e):e.rec_=nextRec d.c0 d.c1 (d.rec_.setOther Inf.zero)∧e.s0=d.s0∧e.s1=d.s1∧e.up=true∧e.running=d.running∧e.got=[]∧e.busy=true∧e.done=0∧e.job=(chkJoin d.got).1:=by
 have:=(written o.ok.cops o.writes).2.2;rw[o.is];exact⟨this,rfl,rfl,o.up,rfl,rfl,rfl,rfl,rfl⟩
theorem opened_ok{d e:Dev}(o:Opened d e):DevOk e:=by
 obtain⟨w1,w2,w3⟩:=written o.ok.cops o.writes;obtain⟨e1,e2,e3,e4,e5,e6,e7,e8,e9⟩:=opened_rec o;have hact:=rec_active (rec_ok o.ok);obtain⟨s1,s2,s3,s4,s5,s6⟩:=setOther_at hact Inf.zero;have ra:e.rec_.active=d.rec_.active:=by rw[e1];exact s3
 have rt:e.rec_.trying=false:=by rw[e1];exact s5.trans o.idle.2
 have im:e.image e.rec_.active e.rec_=d.image d.rec_.active d.rec_:=by
  unfold Dev.image Dev.slot;rw[ra,e2,e3,e1,nextRec_at,s1]
 have hc:copCheck e.c0 e.c1=0:=by rw[o.is];exact w2
 refine⟨by rw[e2];exact o.ok.l0,by rw[e3];exact o.ok.l1,hc,fun h=>(by rw[e4]at h;cases h),fun _=>?_,fun _=>by rw[e6];rfl,fun _ h=>(by rw[e7]at h;cases h),fun _ _=>?_⟩
 ·rw[e5,ra];refine⟨(o.ok.run o.up).1,.inl ?_⟩;rcases (o.ok.run o.up).2 with h|h
  ·exact h
  rw[o.idle.2]at h;cases h
 have hz:(e.rec_.at_ (1-e.rec_.active)).ver=0:=by rw[ra,e1,nextRec_at,s2];rfl
 refine⟨rt,?_,?_,hz,?_,by omega,by omega,by rw[e8];rfl,?_,?_⟩
 ·rw[e9,e1];show (d.rec_.setOther Inf.zero).floor<=_;rw[s4];exact o.fits.2
 ·rw[e9,o.fits.1,ra,e1,nextRec_at,s1]
 ·rw[im,e9];exact o.does
 ·rw[e8,e9];have hd:=o.does;unfold patDo at hd;by_cases hp:patCheck (chkJoin d.got).1=0
  ·have:=(patCheck_ok.1 hp).2.s0;omega
  rw[if_pos hp]at hd;exact absurd hd hp
 rw[e8];simp
theorem patDo_ok{s:List UInt8->Int}{p:Pat}{old:LU}(h:(patDo s p old).2=0):
  patCheck p=0∧old.length<=64∧s old=p.old∧DOk p.ops old.length p.size∧(patDo s p old).1=applied old p.ops∧s (applied old p.ops)=p.new_∧((applied old p.ops).length:Int)=p.size:=by
 unfold patDo at *
 by_cases h1:patCheck p≠0
 ·exact x4pw
 rw[if_neg h1]at h⊢;by_cases h1:64<old.length
 ·rw[if_pos h1]at h;simp at h
 rw[if_neg h1]at h⊢;by_cases h1:s old≠p.old
 ·rw[if_pos h1]at h;simp at h
 rw[if_neg h1]at h⊢;by_cases h1:deltaCheck p.ops old.length p.size≠0
 ·exact x4pw
 rw[if_neg h1]at h⊢;by_cases h1:s (applied old p.ops)≠p.new_
 ·rw[if_pos h1]at h;simp at h
 rw[if_neg h1];have hd:=deltaCheck_ok.1 (by omega:deltaCheck p.ops old.length p.size=0);refine⟨by omega,by omega,by omega,hd,rfl,by omega,?_⟩;rw[applied_len (fun o ho=>(hd.each o ho).2),hd.sum]
def Dev.next(d:Dev):List UInt8:=(patDo (sumOn 1) d.job (d.image d.rec_.active d.rec_)).1
def Dev.wrote(d:Dev)(torn:Bool)(keep:Int):Dev:={d.setSlot (1-d.rec_.active) (d.put d.next (keepN torn keep).toNat)with done:=d.done+keepN torn keep}
structure Wrote(d:Dev):Prop where
 ok:DevOk d
 up:d.up=true
 busy:d.busy=true
 more:d.done<d.job.size
 work:BusyOk d d.rec_
theorem write_parts{d:Dev}{torn:Bool}{keep:Int}(h:(devWrite d torn keep).2=0):Wrote d∧(devWrite d torn keep).1=if torn=true then (d.wrote torn keep).down else d.wrote torn keep:=by
 unfold devWrite at h⊢;obtain⟨g,hu,e⟩:=ready_zero h;rw[e]at h⊢;by_cases h1:d.busy=false∨d.job.size<=d.done
 ·rw[if_pos h1]at h;simp at h
 rw[if_neg h1]at h⊢;by_cases h2:(patDo (sumOn 1) d.job (d.image d.rec_.active d.rec_)).2≠0
 ·exact x1va
 rw[if_neg h2];simp only[not_or,Bool.not_eq_false]at h1;exact⟨⟨g,hu,h1.1,by omega,g.work hu h1.1⟩,rfl⟩
theorem slot_set{d:Dev}{k j:Int}(hk:k=0∨k=1)(hj:j=0∨j=1)(b:LU):(d.setSlot k b).slot j=if j=k then b else d.slot j:=by
 unfold Dev.setSlot Dev.slot;rcases hk with rfl|rfl<;>rcases hj with rfl|rfl<;>simp
theorem keepN_bd(torn:Bool)(keep:Int):0<=keepN torn keep∧keepN torn keep<=8:=by
 unfold keepN;split<;>omega
theorem busy_len{d:Dev}{r:Rec}(h:BusyOk d r):((patDo (sumOn 1) d.job (d.image r.active r)).1.length:Int)=d.job.size∧d.job.size<=64:=by
 obtain⟨h1,h2,h3,h4,h5,h6,h7⟩:=patDo_ok h.does;rw[h5];exact⟨h7,h4.s1⟩
theorem put_len{d:Dev}(h:Wrote d){n:Nat}(hn:n<=8):(d.put d.next n).length=64:=by
 have hact:=rec_active (rec_ok h.ok);have hl:(d.slot (1-d.rec_.active)).length=64:=by
  unfold Dev.slot;split
  ·exact h.ok.l0
  exact h.ok.l1
 have hb:=busy_len h.work;have hr:(room d.next).length=64:=room_len (by unfold Dev.next;omega);have:=h.work.d0;have:=h.work.d1;have:=h.work.d8;have:=h.more;unfold Dev.put;simp only[List.length_append,List.length_take,List.length_drop,hl,hr];omega
theorem wrote_slots{d:Dev}(h:Wrote d)(torn:Bool)(keep:Int):(d.wrote torn keep).rec_=d.rec_∧(d.wrote torn keep).slot d.rec_.active=d.slot d.rec_.active∧
  (d.wrote torn keep).slot (1-d.rec_.active)=d.put d.next (keepN torn keep).toNat∧(d.wrote torn keep).s0.length=64∧(d.wrote torn keep).s1.length=64:=by
 have hact:=rec_active (rec_ok h.ok);have hp:=put_len h (n:=(keepN torn keep).toNat) (by have:=keepN_bd torn keep;omega);have hk:(1-d.rec_.active=0∨1-d.rec_.active=1):=by omega
 have e1:(d.wrote torn keep).rec_=d.rec_:=by unfold Dev.wrote Dev.rec_ Dev.setSlot;split<;>rfl
 have e2:∀j,(d.wrote torn keep).slot j=(d.setSlot (1-d.rec_.active) (d.put d.next (keepN torn keep).toNat)).slot j:=fun j=>by unfold Dev.wrote Dev.slot;rfl
 have a2:(d.wrote torn keep).s0=(d.wrote torn keep).slot 0:=by simp[Dev.slot]
 have a1:(d.wrote torn keep).s1=(d.wrote torn keep).slot 1:=by simp[Dev.slot]
 have l2:=h.ok.l0;have l1:=h.ok.l1;refine⟨e1,?_,?_,?_,?_⟩
 ·rw[e2,slot_set hk hact,if_neg (by omega)]
 ·rw[e2,slot_set hk hk,if_pos rfl]
 ·rw[a2,e2,slot_set hk (.inl rfl)];split
  ·exact hp
  simpa[Dev.slot]using l2
 rw[a1,e2,slot_set hk (.inr rfl)];split
 ·exact hp
 simpa[Dev.slot]using l1
theorem wrote_cops(d:Dev)(torn:Bool)(keep:Int):(d.wrote torn keep).c0=d.c0∧(d.wrote torn keep).c1=d.c1∧(d.wrote torn keep).up=d.up∧(d.wrote torn keep).running=d.running∧(d.wrote torn keep).got=d.got∧(d.wrote torn keep).busy=d.busy∧(d.wrote torn keep).job=d.job∧(d.wrote torn keep).done=d.done+keepN torn keep:=by
 unfold Dev.wrote Dev.setSlot;split<;>exact⟨rfl,rfl,rfl,rfl,rfl,rfl,rfl,rfl⟩
theorem put_take{d:Dev}(h:Wrote d):(d.put d.next 8).take (d.done+8).toNat=(room d.next).take (d.done+8).toNat:=by
 have hl:(d.slot (1-d.rec_.active)).length=64:=by
  unfold Dev.slot;split
  ·exact h.ok.l0
  exact h.ok.l1
 have hb:=busy_len h.work;have hr:(room d.next).length=64:=room_len (by unfold Dev.next;omega);have h2:=h.work.d0;have h1:=h.work.d1;have h8:=h.work.d8;have hm:=h.more;have ha:=h.work.alike;have e:(d.done+8).toNat=d.done.toNat+8:=by omega
 unfold Dev.put;rw[e,ha]
 show ((room d.next).take d.done.toNat++((room d.next).drop d.done.toNat).take 8++(d.slot (1-d.rec_.active)).drop (d.done.toNat+8)).take (d.done.toNat+8)=_;rw[<-List.take_add,List.take_append_of_le_length (by simp[hr];omega),List.take_take];simp
theorem wrote_ok{d:Dev}(h:Wrote d)(keep:Int):DevOk (d.wrote false keep):=by
 obtain⟨e1,e2,e3,e4,e5⟩:=wrote_slots h false keep;obtain⟨c1,c2,c3,c4,c5,c6,c7,c8⟩:=wrote_cops d false keep;have hk:keepN false keep=8:=by simp[keepN]
 have h2:=h.work.d0;have h1:=h.work.d1;have h8:=h.work.d8;have hm:=h.more;have hb:=busy_len h.work;have im:(d.wrote false keep).image d.rec_.active d.rec_=d.image d.rec_.active d.rec_:=by unfold Dev.image;rw[e2]
 refine⟨e4,e5,by rw[c1,c2];exact h.ok.cops,fun e=>(by rw[c3,h.up]at e;cases e),fun _=>by rw[c4,e1];exact h.ok.run h.up,fun _=>by rw[c5];exact h.ok.got h.up,fun _ e=>(by rw[c6,h.busy]at e;cases e),fun _ _=>?_⟩;rw[e1];refine⟨h.work.tr,by rw[c7];exact h.work.fl,by rw[c7];exact h.work.fr,h.work.ot,by rw[c7,im];exact h.work.does,by omega,by omega,by omega,by rw[c7];omega,?_⟩;rw[c7,im,e3,c8,hk];exact put_take h
theorem write_ok_dev{d:Dev}{torn:Bool}{keep:Int}(h:(devWrite d torn keep).2=0):DevOk (devWrite d torn keep).1:=by
 obtain⟨h1,h2⟩:=write_parts h;rw[h2]
 cases torn
 ·exact wrote_ok h1 keep
 obtain⟨e1,e2,e3,e4,e5⟩:=wrote_slots h1 true keep;obtain⟨c1,c2,_⟩:=wrote_cops d true keep;exact down_ok e4 e5 (by rw[c1,c2];exact h1.ok.cops)
def Dev.jobInf(d:Dev):Inf:=⟨d.job.to_,d.job.size,d.job.new_⟩
def Dev.fin(d:Dev)(torn:Bool):Dev:={d.write (d.rec_.tryIt d.jobInf) torn with busy:=false,job:=Pat.zero,done:=0}
structure Finished(d:Dev)(torn:Bool):Prop where
 ok:DevOk d
 up:d.up=true
 busy:d.busy=true
 all:d.job.size<=d.done
 work:BusyOk d d.rec_
 writes:(recWrite d.c0 d.c1 (d.rec_.tryIt d.jobInf) torn).2=0
theorem finish_parts{d:Dev}{torn:Bool}(h:(devFinish d torn).2=0):Finished d torn∧(devFinish d torn).1=if torn=true then (d.fin torn).down else d.fin torn:=by
 unfold devFinish at h⊢;obtain⟨g,hu,e⟩:=ready_zero h;rw[e]at h⊢;by_cases h1:d.busy=false∨d.done<d.job.size
 ·rw[if_pos h1]at h;simp at h
 rw[if_neg h1]at h⊢;by_cases h2:(recWrite d.c0 d.c1 (d.rec_.tryIt ⟨d.job.to_,d.job.size,d.job.new_⟩) torn).2≠0
 ·exact x1va
 rw[if_neg h2];simp only[not_or,Bool.not_eq_false]at h1;exact⟨⟨g,hu,h1.1,by omega,g.work hu h1.1,by unfold Dev.jobInf;omega⟩,rfl⟩
theorem fin_rec{d:Dev}{torn:Bool}(h:Finished d torn):(d.fin torn).rec_=if torn=true then d.rec_ else nextRec d.c0 d.c1 (d.rec_.tryIt d.jobInf):=(written h.ok.cops h.writes).2.2
theorem finish_ok_dev{d:Dev}{torn:Bool}(h:(devFinish d torn).2=0):DevOk (devFinish d torn).1:=by
 obtain⟨h1,h2⟩:=finish_parts h;obtain⟨w1,w2,w3⟩:=written h1.ok.cops h1.writes;have hr:=fin_rec h1;rw[h2]
 cases torn
 ·have hact:=rec_active (rec_ok h1.ok);obtain⟨s1,s2,s3,s4,s5,s6⟩:=tryIt_at hact d.jobInf;have ht:(d.fin false).rec_.trying=true:=by rw[hr];exact s5
  refine⟨h1.ok.l0,h1.ok.l1,w2,fun e=>?_,fun _=>⟨(h1.ok.run h1.up).1,.inr ht⟩,fun _=>h1.ok.got h1.up,fun _ _=>⟨rfl,rfl⟩,fun _ e=>(by cases e)⟩;have e':d.up=false:=e;rw[h1.up]at e';cases e'
 exact down_ok h1.ok.l0 h1.ok.l1 w2
structure Confirmed(d:Dev):Prop where
 ok:DevOk d
 up:d.up=true
 runs:d.running≠d.rec_.active
 trying:d.rec_.trying=true
 writes:(recWrite d.c0 d.c1 (recDone d.rec_) false).2=0
theorem confirm_parts{d:Dev}(h:(devConfirm d).2=0):Confirmed d∧(devConfirm d).1=d.write (recDone d.rec_) false:=by
 unfold devConfirm at h⊢;obtain⟨g,hu,e⟩:=ready_zero h;rw[e]at h⊢;by_cases h1:d.running=d.rec_.active
 ·rw[if_pos h1]at h;simp at h
 rw[if_neg h1]at h⊢;have hok:=rec_ok g;by_cases ht:d.rec_.trying=true
 ·have hc:recConfirm d.rec_=(recDone d.rec_,0):=by unfold recConfirm;rw[if_pos hok,if_pos ht]
  rw[hc]at h⊢;dsimp only at h⊢;rw[if_neg (by simp)]at h⊢;by_cases h2:(recWrite d.c0 d.c1 (recDone d.rec_) false).2≠0
  ·exact x1va
  rw[if_neg h2];exact⟨⟨g,hu,h1,ht,by omega⟩,rfl⟩
 have hc:recConfirm d.rec_=(Rec.zero,5):=by unfold recConfirm;rw[if_pos hok,if_neg ht]
 rw[hc]at h;simp at h
theorem confirm_ok_dev{d:Dev}(h:(devConfirm d).2=0):DevOk (devConfirm d).1∧(devConfirm d).1.rec_=nextRec d.c0 d.c1 (recDone d.rec_)∧d.busy=false:=by
 obtain⟨h1,h2⟩:=confirm_parts h;obtain⟨w1,w2,w3⟩:=written h1.ok.cops h1.writes;have hact:=rec_active (rec_ok h1.ok);have hb:d.busy=false:=by
  cases hb:d.busy
  ·rfl
  have:=(h1.ok.work h1.up hb).tr;rw[h1.trying]at this;cases this
 have hr:(d.write (recDone d.rec_) false).rec_=nextRec d.c0 d.c1 (recDone d.rec_):=w3;have hrun:=(h1.ok.run h1.up).1;rw[h2];refine⟨⟨h1.ok.l0,h1.ok.l1,w2,fun e=>?_,fun _=>⟨hrun,.inl ?_⟩,fun _=>h1.ok.got h1.up,fun _ _=>h1.ok.idle h1.up hb,fun _ e=>?_⟩,hr,hb⟩
 ·have e':d.up=false:=e;rw[h1.up]at e';cases e'
 ·rw[hr]
  show d.running=1-d.rec_.active;have:=h1.runs;omega
 have e':d.busy=true:=e;rw[hb]at e';cases e'
theorem crash_parts{d:Dev}(h:(devCrash d).2=0):DevOk d∧d.up=true∧(devCrash d).1=d.down∧DevOk d.down:=by
 unfold devCrash at h⊢;obtain⟨g,hu,e⟩:=ready_zero h;rw[e];exact⟨g,hu,rfl,down_ok g.l0 g.l1 g.cops⟩
theorem start_of{r:Rec}(h:recCheck r=0):recStart r=(slotAt r 0,nowAt r 1,0):=by
 have:=start_at h (k:=0) (Int.le_refl _);rw[nowAt_0 h]at this;exact this
def Dev.boots(d:Dev):Dev:=if nowAt d.rec_ 1≠d.rec_ then {d.write (nowAt d.rec_ 1) false with up:=true,running:=slotAt d.rec_ 0} else {d with up:=true,running:=slotAt d.rec_ 0}
structure Booted(d:Dev):Prop where
 ok:DevOk d
 off:d.up=false
 writes:nowAt d.rec_ 1≠d.rec_->(recWrite d.c0 d.c1 (nowAt d.rec_ 1) false).2=0
theorem boot_is{d:Dev}(hok:DevOk d)(hu:d.up=false):devBoot d=if nowAt d.rec_ 1≠d.rec_∧(recWrite d.c0 d.c1 (nowAt d.rec_ 1) false).2≠0 then (Dev.zero,(recWrite d.c0 d.c1 (nowAt d.rec_ 1) false).2)else (d.boots,0):=by
 have hs:=start_of (rec_ok hok);unfold devBoot;rw[if_neg (by simpa using devCheck_ok.2 hok),if_neg (by simp[hu]),hs];dsimp only;rw[if_neg (by simp)];unfold Dev.boots;by_cases h1:nowAt d.rec_ 1≠d.rec_
 ·rw[if_pos h1,if_pos h1];by_cases h2:(recWrite d.c0 d.c1 (nowAt d.rec_ 1) false).2≠0
  ·rw[if_pos h2,if_pos ⟨h1,h2⟩]
  rw[if_neg h2,if_neg (fun h=>h2 h.2)]
 rw[if_neg h1,if_neg h1,if_neg (fun h=>h1 h.1)]
theorem boot_parts{d:Dev}(h:(devBoot d).2=0):Booted d∧(devBoot d).1=d.boots:=by
 have hok:devCheck d=0:=by
  unfold devBoot at h;by_cases e:devCheck d=0
  ·exact e
  rw[if_pos e]at h;exact absurd h e
 have hu:d.up=false:=by
  unfold devBoot at h;rw[if_neg (by simpa using hok)]at h
  cases e:d.up
  ·rfl
  rw[if_pos e]at h;simp at h
 have hd:=devCheck_ok.1 hok;rw[boot_is hd hu]at h⊢;by_cases h1:nowAt d.rec_ 1≠d.rec_∧(recWrite d.c0 d.c1 (nowAt d.rec_ 1) false).2≠0
 ·rw[if_pos h1]at h;exact absurd h h1.2
 rw[if_neg h1];exact⟨⟨hd,hu,fun h=>by
  by_cases e:(recWrite d.c0 d.c1 (nowAt d.rec_ 1) false).2=0
  ·exact e
  exact absurd ⟨h,e⟩ h1⟩,rfl⟩
theorem boots_rec{d:Dev}(b:Booted d):d.boots.s0=d.s0∧d.boots.s1=d.s1∧d.boots.up=true∧d.boots.running=slotAt d.rec_ 0∧d.boots.got=[]∧d.boots.busy=false∧d.boots.job=Pat.zero∧d.boots.done=0∧copCheck d.boots.c0 d.boots.c1=0∧
  ((nowAt d.rec_ 1=d.rec_∧d.boots.rec_=d.rec_)∨(nowAt d.rec_ 1≠d.rec_∧d.boots.rec_=nextRec d.c0 d.c1 (nowAt d.rec_ 1))):=by
 obtain⟨o1,o2,o3,o4,o5⟩:=b.ok.off b.off;unfold Dev.boots;by_cases h:nowAt d.rec_ 1≠d.rec_
 ·rw[if_pos h];obtain⟨w1,w2,w3⟩:=written b.ok.cops (b.writes h);exact⟨rfl,rfl,rfl,rfl,o2,o3,o5,o4,w2,.inr ⟨h,w3⟩⟩
 rw[if_neg h];exact⟨rfl,rfl,rfl,rfl,o2,o3,o5,o4,b.ok.cops,.inl ⟨by simpa using h,rfl⟩⟩
theorem boots_at{d:Dev}(b:Booted d):d.boots.rec_.active=d.rec_.active∧d.boots.rec_.floor=d.rec_.floor∧(∀k,d.boots.rec_.at_ k=d.rec_.at_ k)∧d.boots.rec_.trying=(nowAt d.rec_ 1).trying∧d.boots.rec_.tries=(nowAt d.rec_ 1).tries:=by
 rcases (boots_rec b).2.2.2.2.2.2.2.2.2 with ⟨h1,h2⟩|⟨h1,h2⟩
 ·rw[h2,h1];exact⟨rfl,rfl,fun _=>rfl,rfl,rfl⟩
 rw[h2];have e:=fun k=>nowAt_at d.rec_ 1 k;exact⟨(e 0).2.2,(e 0).2.1,fun k=>(nextRec_at _ _ _ k).trans (e k).1,rfl,rfl⟩
theorem boot_ok_dev{d:Dev}(b:Booted d):DevOk d.boots:=by
 obtain⟨e1,e2,e3,e4,e5,e6,e7,e8,e9,_⟩:=boots_rec b;obtain⟨a1,a2,a3,a4,a5⟩:=boots_at b;have hr:=rec_ok b.ok;have hs:=(slot_floor hr 0).1;refine⟨by rw[e1];exact b.ok.l0,by rw[e2];exact b.ok.l1,e9,fun h=>(by rw[e3]at h;cases h),fun _=>⟨by rw[e4];exact hs,?_⟩,fun _=>by rw[e5];rfl,fun _ _=>⟨e8,e7⟩,fun _ h=>(by rw[e6]at h;cases h)⟩;rw[e4,a1,a4];unfold slotAt nowAt;have:=(recCheck_parts hr).1;unfold RangeOk at this;by_cases ht:d.rec_.trying=true∧0<d.rec_.tries
 ·rw[if_pos ht,if_pos ht.1,if_pos (by omega)];exact .inr ht.1
 rw[if_neg ht];exact .inl rfl
structure Wor where
 rel:List (List UInt8)
 d:Dev
 net:List Chk
deriving DecidableEq
def Wor.zero:Wor:=⟨[],Dev.zero,[]⟩
def relCheck(l:List (List UInt8)):Int:=if l=[]∨30<l.length∨∃b∈l,64<b.length then 1 else 0
def netCheck:List Chk->Int
 |[]=>0
 |c::l=>if chkCheck c≠0 then chkCheck c else netCheck l
def worCheck(w:Wor):Int:=
 if relCheck w.rel≠0 then relCheck w.rel
 else if devCheck w.d≠0 then devCheck w.d
 else if 120<w.net.length then 1
 else netCheck w.net
def worNew(l:List (List UInt8)):Wor×Int:=if relCheck l≠0 then (Wor.zero,relCheck l)else (⟨l,newDev (l.headD []),[]⟩,0)
theorem relCheck_ok{l:List (List UInt8)}:relCheck l=0↔l≠[]∧l.length<=30∧∀b∈l,b.length<=64:=by
 unfold relCheck;by_cases h:l=[]∨30<l.length∨∃b∈l,64<b.length
 ·rw[if_pos h];refine⟨fun e=>by omega,fun ⟨h1,h2,h3⟩=>?_⟩;rcases h with h|h|⟨b,hb,h⟩
  ·exact absurd h h1
  ·omega
  have:=h3 b hb;omega
 rw[if_neg h];simp only[not_or,not_exists,not_and]at h;exact⟨fun _=>⟨h.1,by omega,fun b hb=>by have:=h.2.2 b hb;omega⟩,fun _=>rfl⟩
theorem netCheck_ok:∀{l:List Chk},netCheck l=0↔∀c∈l,chkCheck c=0
 |[]=>by simp[netCheck]
 |c::l=>by
  unfold netCheck;by_cases h:chkCheck c=0
  ·rw[if_neg (by simpa using h),netCheck_ok];simp[h]
  rw[if_pos h];simp[h]
structure WorOk(w:Wor):Prop where
 rel:relCheck w.rel=0
 dev:DevOk w.d
 few:w.net.length<=120
 net:∀c∈w.net,chkCheck c=0
theorem worCheck_ok{w:Wor}:worCheck w=0↔WorOk w:=by
 unfold worCheck;by_cases h1:relCheck w.rel=0
 ·rw[if_neg (by simpa using h1)];by_cases h2:devCheck w.d=0
  ·rw[if_neg (by simpa using h2)];by_cases h3:120<w.net.length
   ·rw[if_pos h3];exact⟨fun e=>by omega,fun g=>by have:=g.few;omega⟩
   rw[if_neg h3,netCheck_ok];exact⟨fun g=>⟨h1,devCheck_ok.1 h2,by omega,g⟩,fun g=>g.net⟩
  rw[if_pos h2];exact⟨fun e=>absurd e h2,fun g=>absurd (devCheck_ok.2 g.dev) h2⟩
 rw[if_pos h1];exact⟨fun e=>absurd e h1,fun g=>absurd g.rel h1⟩
def Dev.good(d:Dev):Int:=(d.rec_.at_ d.rec_.active).ver
def relAt(l:List (List UInt8))(v:Int):List UInt8:=l.getD (v-1).toNat []
def worSend(w:Wor)(to_:Int):Wor×Int:=
 if to_<1∨(w.rel.length:Int)<to_∨(w.rel.length:Int)<w.d.good then (Wor.zero,4)
 else if (patMake (sumOn 1) w.d.good to_ (relAt w.rel w.d.good) (relAt w.rel to_)).2≠0 then (Wor.zero,(patMake (sumOn 1) w.d.good to_ (relAt w.rel w.d.good) (relAt w.rel to_)).2)
 else if (chkCut (patMake (sumOn 1) w.d.good to_ (relAt w.rel w.d.good) (relAt w.rel to_)).1).2≠0 then (Wor.zero,(chkCut (patMake (sumOn 1) w.d.good to_ (relAt w.rel w.d.good) (relAt w.rel to_)).1).2)
 else if 120<w.net.length+(chkCut (patMake (sumOn 1) w.d.good to_ (relAt w.rel w.d.good) (relAt w.rel to_)).1).1.length then (Wor.zero,1)
 else ({w with net:=w.net++(chkCut (patMake (sumOn 1) w.d.good to_ (relAt w.rel w.d.good) (relAt w.rel to_)).1).1},0)
def worHear(w:Wor)(kind n:Int):Wor×Int:=
 if n<0∨(w.net.length:Int)<=n then (Wor.zero,4)
 else if kind≠4∧(devHear w.d (w.net.getD n.toNat Chk.zero)).2≠0 then (Wor.zero,(devHear w.d (w.net.getD n.toNat Chk.zero)).2)
 else (⟨w.rel,if kind≠4 then (devHear w.d (w.net.getD n.toNat Chk.zero)).1 else w.d,if kind≠3 then w.net.eraseIdx n.toNat else w.net⟩,0)
def devAct(d:Dev)(kind n:Int):Dev×Int:=
 if kind=5 then devOpen d
 else if kind=6 then devWrite d false n
 else if kind=7 then devFinish d false
 else if kind=8 then devConfirm d
 else if kind=9 then devCrash d
 else if kind=10 then devBoot d
 else if kind=11 then devWrite d true n
 else if kind=12 then devFinish d true
 else (Dev.zero,3)
def worDevice(w:Wor)(q:Dev×Int):Wor×Int:=if q.2≠0 then (Wor.zero,q.2)else ({w with d:=q.1},0)
def worHappen(w:Wor)(kind n:Int):Wor×Int:=
 if kind=1 then worSend w n
 else if kind=2∨kind=3∨kind=4 then worHear w kind n
 else worDevice w (devAct w.d kind n)
def worTry(w:Wor)(x:Int×Int):Wor:=if (worHappen w x.1 x.2).2=0 then (worHappen w x.1 x.2).1 else w
def worGo:List (Int×Int)->Wor->Wor
 |[],w=>w
 |x::l,w=>worGo l (worTry w x)
def worSaid:List (Int×Int)->Wor->List Int
 |[],_=>[]
 |x::l,w=>(worHappen w x.1 x.2).2::worSaid l (worTry w x)
def worRun(w:Wor)(l:List (Int×Int)):Wor×List Int×Int:=
 if worCheck w≠0 then (Wor.zero,[],worCheck w)
 else if 200<l.length then (Wor.zero,[],1)
 else (worGo l w,worSaid l w,0)
theorem worGo_append:∀(l m:List (Int×Int)) (w:Wor),worGo (l++m) w=worGo m (worGo l w)∧worSaid (l++m) w=worSaid l w++worSaid m (worGo l w)
 |[],m,w=>⟨rfl,rfl⟩
 |x::l,m,w=>by
  have ih:=worGo_append l m (worTry w x);exact⟨ih.1,congrArg ((worHappen w x.1 x.2).2::·) ih.2⟩
/-! ### A world stays one -/
theorem devAct_keeps{d:Dev}{kind n:Int}(h:(devAct d kind n).2=0):DevOk (devAct d kind n).1:=by
 unfold devAct at *
 split at h
 ·rename_i e;rw[if_pos e];exact opened_ok (open_parts h)
 rename_i e1;rw[if_neg e1];split at h
 ·rename_i e;rw[if_pos e];exact write_ok_dev h
 rename_i e2;rw[if_neg e2];split at h
 ·rename_i e;rw[if_pos e];exact finish_ok_dev h
 rename_i e3;rw[if_neg e3];split at h
 ·rename_i e;rw[if_pos e];exact(confirm_ok_dev h).1
 rename_i e4;rw[if_neg e4];split at h
 ·rename_i e;rw[if_pos e];obtain⟨_,_,h1,h2⟩:=crash_parts h;rw[h1];exact h2
 rename_i e5;rw[if_neg e5];split at h
 ·rename_i e;rw[if_pos e];obtain⟨h1,h2⟩:=boot_parts h;rw[h2];exact boot_ok_dev h1
 rename_i e6;rw[if_neg e6];split at h
 ·rename_i e;rw[if_pos e];exact write_ok_dev h
 rename_i e7;rw[if_neg e7];split at h
 ·rename_i e;rw[if_pos e];exact finish_ok_dev h
 simp at h
theorem cut_chunks{p:Pat}(h:(chkCut p).2=0):∀c∈(chkCut p).1,chkCheck c=0:=by
 obtain⟨h1,h2,h3,h4⟩:=chkCut_ok h;rw[h4];intro c hc;obtain⟨k,hk,rfl⟩:=List.mem_map.1 hc;exact chunkAt_ok (patCheck_ok.1 h1).1 h2 (by simpa[nOf]using hk)
structure Sent(w:Wor)(to_:Int)(p:Pat):Prop where
 t:1<=to_∧to_<=w.rel.length
 g:w.d.good<=w.rel.length
 made:patMake (sumOn 1) w.d.good to_ (relAt w.rel w.d.good) (relAt w.rel to_)=(p,0)
 cut:(chkCut p).2=0
 few:w.net.length+(chkCut p).1.length<=120
theorem send_parts{w:Wor}{to_:Int}(h:(worSend w to_).2=0):∃p,Sent w to_ p∧(worSend w to_).1={w with net:=w.net++(chkCut p).1}:=by
 unfold worSend at h⊢;by_cases h1:to_<1∨(w.rel.length:Int)<to_∨(w.rel.length:Int)<w.d.good
 ·rw[if_pos h1]at h;simp at h
 rw[if_neg h1]at h⊢;generalize hq:patMake (sumOn 1) w.d.good to_ (relAt w.rel w.d.good) (relAt w.rel to_)=q at *
 obtain⟨p,e⟩:=q;dsimp only at h⊢;by_cases h1:e≠0
 ·exact x4pw
 rw[if_neg h1]at h⊢;by_cases h1:(chkCut p).2≠0
 ·exact x4pw
 rw[if_neg h1]at h⊢;by_cases h1:120<w.net.length+(chkCut p).1.length
 ·rw[if_pos h1]at h;simp at h
 rw[if_neg h1];have h2':e=0:=by omega
 subst h2';exact⟨p,⟨by omega,by omega,hq,by omega,by omega⟩,rfl⟩
structure Heard(w:Wor)(kind n:Int):Prop where
 i:0<=n∧n<w.net.length
 h:kind≠4->(devHear w.d (w.net.getD n.toNat Chk.zero)).2=0
theorem hear_parts{w:Wor}{kind n:Int}(h:(worHear w kind n).2=0):Heard w kind n∧
  (worHear w kind n).1=⟨w.rel,if kind≠4 then (devHear w.d (w.net.getD n.toNat Chk.zero)).1 else w.d,if kind≠3 then w.net.eraseIdx n.toNat else w.net⟩:=by
 unfold worHear at h⊢;by_cases h1:n<0∨(w.net.length:Int)<=n
 ·rw[if_pos h1]at h;simp at h
 rw[if_neg h1]at h⊢;by_cases h1:kind≠4∧(devHear w.d (w.net.getD n.toNat Chk.zero)).2≠0
 ·rw[if_pos h1]at h;exact absurd h h1.2
 rw[if_neg h1];exact⟨⟨by omega,fun e=>by
  by_cases g:(devHear w.d (w.net.getD n.toNat Chk.zero)).2=0
  ·exact g
  exact absurd ⟨e,g⟩ h1⟩,rfl⟩
theorem worDevice_zero{w:Wor}{q:Dev×Int}(h:(worDevice w q).2=0):q.2=0∧(worDevice w q).1={w with d:=q.1}:=by
 unfold worDevice at *
 by_cases e:q.2≠0
 ·rw[if_pos e]at h;exact absurd h e
 rw[if_neg e];exact⟨by omega,rfl⟩
def netLeft(w:Wor)(kind n:Int):List Chk:=if kind=2∨kind=4 then w.net.eraseIdx n.toNat else w.net
theorem happen_keeps{w:Wor}{kind n:Int}(g:WorOk w)(h:(worHappen w kind n).2=0):
  WorOk (worHappen w kind n).1∧(worHappen w kind n).1.rel=w.rel∧(netLeft w kind n)<+:(worHappen w kind n).1.net∧(kind≠1->(worHappen w kind n).1.net=netLeft w kind n)∧
  (kind=2∨kind=4->0<=n∧n<w.net.length):=by
 unfold worHappen at *
 by_cases k1:kind=1
 ·rw[if_pos k1]at h⊢;obtain⟨p,hp,e⟩:=send_parts h;rw[e];have hl:netLeft w kind n=w.net:=by unfold netLeft;rw[if_neg (by omega)]
  refine⟨⟨g.rel,g.dev,by simp only[List.length_append];exact hp.few,fun c hc=>?_⟩,rfl,by rw[hl];exact List.prefix_append _ _,fun hk=>absurd k1 hk,fun hk=>by omega⟩;rcases List.mem_append.1 hc with hc|hc
  ·exact g.net c hc
  exact cut_chunks hp.cut c hc
 rw[if_neg k1]at h⊢;by_cases k1:kind=2∨kind=3∨kind=4
 ·rw[if_pos k1]at h⊢;obtain⟨hp,e⟩:=hear_parts h;rw[e];have hi:=hp.i;have hl:(if kind≠3 then w.net.eraseIdx n.toNat else w.net)=netLeft w kind n:=by
   unfold netLeft;by_cases e1:kind=3
   ·rw[if_neg (by simpa using e1),if_neg (by omega)]
   rw[if_pos e1,if_pos (by omega)]
  have hsub:∀c∈netLeft w kind n,c∈w.net:=by
   intro c hc;unfold netLeft at hc;split at hc
   ·exact List.mem_of_mem_eraseIdx hc
   exact hc
  have hlen:(netLeft w kind n).length<=120:=by
   have:=g.few;unfold netLeft;split
   ·have:=List.length_eraseIdx_le w.net n.toNat;omega
   exact this
  rw[hl];refine⟨⟨g.rel,?_,hlen,fun c hc=>g.net c (hsub c hc)⟩,rfl,List.prefix_refl _,fun _=>rfl,fun _=>hp.i⟩
  show DevOk (if kind≠4 then _ else w.d);by_cases e1:kind≠4
  ·rw[if_pos e1];exact(hear_keeps (hp.h e1)).2.2.2.2.2
  rw[if_neg e1];exact g.dev
 rw[if_neg k1]at h⊢;obtain⟨h1,h2⟩:=worDevice_zero h;rw[h2];have hl:netLeft w kind n=w.net:=by unfold netLeft;rw[if_neg (by omega)]
 rw[hl];exact⟨⟨g.rel,devAct_keeps h1,g.few,g.net⟩,rfl,List.prefix_refl _,fun _=>rfl,fun hk=>by omega⟩
/-! ### What runs, and what would -/
def stoRuns(w:Wor):Int×List UInt8×Int:=
 if worCheck w≠0 then (0,[],worCheck w)
 else if w.d.up=false then (0,[],5)
 else ((w.d.rec_.at_ w.d.running).ver,w.d.image w.d.running w.d.rec_,0)
def Dev.off(d:Dev):Dev:=if d.up=true then d.down else d
def stoNext(w:Wor):Int×Int:=
 if worCheck w≠0 then (0,worCheck w)
 else if (devBoot w.d.off).2≠0 then (0,(devBoot w.d.off).2)
 else (((devBoot w.d.off).1.rec_.at_ (devBoot w.d.off).1.running).ver,0)
theorem off_ok{d:Dev}(h:DevOk d):DevOk d.off∧d.off.up=false∧d.off.rec_=d.rec_∧d.off.s0=d.s0∧d.off.s1=d.s1∧d.off.c0=d.c0∧d.off.c1=d.c1:=by
 unfold Dev.off
 cases hu:d.up
 ·exact⟨h,hu,rfl,rfl,rfl,rfl,rfl⟩
 exact⟨down_ok h.l0 h.l1 h.cops,rfl,rfl,rfl,rfl,rfl,rfl⟩
theorem wp_val{P:Program}{o:Oper}{a:Act}{w:World}{K:Act->World->Prop}{Q:Exit->Act->World->Prop}{v:Value}(e:(execOp a.eval o).run P w=.ok (.value v) w)(h:K (a.put o.dst v) w):Oper.wp P o a w K Q:=by
 unfold Oper.wp;rw[e];exact h

theorem refIn_t{n a b:Int}(h:a<=n∧n<=b)(w:World):Calls Tryz.prog 44 #[iv n,iv a,iv b] w (Ret w (.bool true)):=by
 obtain⟨h1,h2⟩:=h;go_enter Tryz.func44,Tryz.ntmps44;exact x1gi
theorem refIn_f{n a b:Int}(h:n<a∨b<n)(w:World):Calls Tryz.prog 44 #[iv n,iv a,iv b] w (Ret w (.bool false)):=by
 by_cases h1:a<=n
 ·have h1:¬n<=b:=by omega
  clear h;go_enter Tryz.func44,Tryz.ntmps44;exact x1gi
 clear h;go_enter Tryz.func44,Tryz.ntmps44;exact x1gi
def im0:List UInt8:=[97,98,99,100,101,102,103,104]
def im1:List UInt8:=[120,101,102,103,104,97,98,99,100]
def im2:List UInt8:=[97,98,99,100,101,102,103,104,105,106,107]
def ims:List (List UInt8):=[im0,im1,im2]
theorem gone_new:(worNew ims).2=0:=by decide+kernel
theorem runs_runs:stoRuns (worNew ims).1=(1,im0,0):=by decide+kernel
theorem runs_next:stoNext (worNew ims).1=(1,0):=by decide+kernel
theorem runs_run:(worRun (worNew ims).1 [(9,0)]).2=([0],0):=by decide+kernel
theorem runs_late:(stoRuns (worRun (worNew ims).1 [(9,0)]).1).2.2=5:=by decide+kernel
section
open Go.RowKit
end
section
variable (A B:OA) (c d:Nat) (old b:LU) (w:World)
end
/-! ### What holds all along -/
section
open Go.RowKit Go.WideShapes Go.ChangeShapes Go.ChangeAt
theorem reads_chk{H:Type}{enc:TypeId×Value->H}{w:World}{sp:Nat->Bool}{held:Bool}:ReadBy enc Tryz.prog w sp held 56 rChk:=
 readBy_chk Tryz.underlying56 (by kernel_rfl) rfl rfl rfl rfl rfl (by kernel_rfl) (by kernel_rfl) (by kernel_rfl) (by kernel_rfl) (by kernel_rfl)
  Tryz.underlying3 Tryz.underlying3 Tryz.underlying3 Tryz.underlying3 Tryz.underlying23 Tryz.underlying5 (by kernel_rfl)
end
section
open Go.RowKit Go.WideShapes Go.ChangeShapes Go.ChangeAt
end
end Go.Proofs.YtefkfglkpebbmadGreat
