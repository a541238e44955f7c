/- Walks. No conditions. -/
import Derived.Test.YtefkfglkpebbmabGreatP0
import Derived.Deep.MidRow
import Derived.Laws.CopyOwn
import Derived.Laws.CopyRow
set_option linter.all false
set_option maxRecDepth 100000
set_option maxHeartbeats 0
namespace Go.Proofs.YtefkfglkpebbmabGreat
open Go.RowKit
variable {Y:Prop}
theorem x456(h:Y:=by
 have e:(w.alloc (.cells cs t fr)).heap[g]?=w.heap[g]?:=by
  show (w.heap.push _)[g]?=_;rw[Array.getElem?_push,if_neg h]
 rw[e]):Y:=h
theorem x4zr(h:Y:=by
 have hl:=loadVar_all (P:=P) hr hs h0;have hp':tmps[p]?.getD undef=.pointer (some ⟨g,0,none⟩):=by simpa using hp
 simp[results,h,hp',asAddr,hl]):Y:=h
theorem x61y(h:Y:=by
 subst e;rw[if_pos rfl]
 cases h:w.heap[a.block]? with
 |none=>rfl
 |some o=>cases o<;>rfl):Y:=h
def rowOf(w:World)(g:Nat):Array Value:=match w.heap[g]? with|some (.cells cs _ _)=>cs|_=>#[]
def frOf(w:World)(g:Nat):Nat×Nat:=match w.heap[g]? with|some (.cells _ _ fr)=>fr|_=>(0,0)
def aggSz(P:Program)(ty:TypeId):Nat:=match P.underlying ty,P.info? ty with
 |some (.struct _),some i=>i.size
 |some (.array _ _),some i=>i.size
 |_,_=>0
def splice(cs:Array Value)(o:Nat)(new:Array Value):Array Value:=(cs.toList.take o++new.toList++cs.toList.drop (o+new.size)).toArray
theorem splice_cons(cs:Array Value)(o:Nat)(v:Value)(r:List Value)(h:o<cs.size):splice (cs.setIfInBounds o v) (o+1) r.toArray=splice cs o (v::r).toArray:=by
 unfold splice;have e:(cs.setIfInBounds o v).toList=cs.toList.take o++v::cs.toList.drop (o+1):=by
  rw[Array.toList_setIfInBounds,List.set_eq_take_append_cons_drop,if_pos (by simpa using h)]
 have hl:(cs.toList.take o).length=o:=by rw[List.length_take];simp;omega
 rw[e];simp only[List.size_toArray,List.length_cons];congr 1;rw[List.take_append,List.drop_append,hl];have e1:(cs.toList.take o).take (o+1)=cs.toList.take o:=List.take_of_length_le (by omega);have e2:(cs.toList.take o).drop (o+1+r.length)=[]:=List.drop_eq_nil_of_le (by omega);rw[e1,e2];have e1:o+1-o=1:=by omega
 have e2:o+1+r.length-o=r.length+1:=by omega
 rw[e1,e2];simp only[List.take_succ_cons,List.take_zero,List.drop_succ_cons,List.drop_drop,List.nil_append];have e1:o+1+r.length=o+(r.length+1):=by omega
 rw[e1];simp
theorem splice_nil(cs:Array Value)(o:Nat):splice cs o #[]=cs:=by unfold splice;simp
theorem splice_all(cs new:Array Value)(h:new.size=cs.size):splice cs 0 new=new:=by
 unfold splice;rw[List.take_zero,List.drop_eq_nil_of_le (by simp;omega)];simp
section
variable {P:Program} {w:World} {g o:Nat}
theorem row_blk(h:0<(rowOf w g).size):∃t,w.heap[g]?=some (.cells (rowOf w g) t (frOf w g)):=by
 unfold rowOf frOf at *
 split at h
 ·rename_i cs t fr hg;exact⟨t,by rw[hg]⟩
 simp at h
theorem row_of_blk{cs:Array Value}{t:TypeId}{fr:Nat×Nat}(h:w.heap[g]?=some (.cells cs t fr)):rowOf w g=cs:=by unfold rowOf;rw[h]
theorem fr_of_blk{cs:Array Value}{t:TypeId}{fr:Nat×Nat}(h:w.heap[g]?=some (.cells cs t fr)):frOf w g=fr:=by unfold frOf;rw[h]
theorem aggSz_pos{ty:TypeId}(h:0<aggSz P ty):∃d,P.underlying ty=some d∧d.isRow=true∧(P.info? ty).map (·.size)=some (aggSz P ty):=by
 unfold aggSz at *
 split at h
 ·rename_i h1 h2;exact⟨_,h1,rfl,by simp[h2]⟩
 ·rename_i h1 h2;exact⟨_,h1,rfl,by simp[h2]⟩
 omega
theorem rowOf_alloc(w:World)(cs:Array Value)(t:TypeId)(fr:Nat×Nat)(g:Nat):rowOf (w.alloc (.cells cs t fr)) g=if g=w.heap.size then cs else rowOf w g:=by
 by_cases h:g=w.heap.size
 ·subst h;rw[if_pos rfl];exact row_of_blk (heap_alloc_new w _)
 rw[if_neg h];unfold rowOf;exact x456
theorem frOf_alloc(w:World)(cs:Array Value)(t:TypeId)(fr:Nat×Nat)(g:Nat):frOf (w.alloc (.cells cs t fr)) g=if g=w.heap.size then fr else frOf w g:=by
 by_cases h:g=w.heap.size
 ·subst h;rw[if_pos rfl];exact fr_of_blk (heap_alloc_new w _)
 rw[if_neg h];unfold frOf;exact x456
theorem rowOf_drew(w:World)(g:Nat):rowOf w.drew g=rowOf w g:=by
 have h:w.drew.heap=w.heap:=rfl;unfold rowOf;rw[h]
theorem rowOf_drewN(w:World)(n g:Nat):rowOf (w.drewN n) g=rowOf w g:=by unfold rowOf;simp
theorem frOf_drew(w:World)(g:Nat):frOf w.drew g=frOf w g:=by
 have h:w.drew.heap=w.heap:=rfl;unfold frOf;rw[h]
theorem frOf_drewN(w:World)(n g:Nat):frOf (w.drewN n) g=frOf w g:=by unfold frOf;simp
theorem rowOf_below{w w':World}{g:Nat}(hg:g<w.heap.size)(hb:Below w.heap.size w w'):rowOf w' g=rowOf w g:=by unfold rowOf;rw[hb.block g hg]
theorem frOf_below{w w':World}{g:Nat}(hg:g<w.heap.size)(hb:Below w.heap.size w w'):frOf w' g=frOf w g:=by unfold frOf;rw[hb.block g hg]
theorem row_lt(h:0<(rowOf w g).size):g<w.heap.size:=by obtain⟨t,ht⟩:=row_blk h;exact blk_lt ht
theorem loadVar_row{ty:TypeId}(h1:0<aggSz P ty)(h2:o+aggSz P ty<=(rowOf w g).size):
  (loadVar ty ⟨g,o,none⟩).run P w=.ok (.agg ((rowOf w g).extract o (o+aggSz P ty))) w:=by
 obtain⟨d,hu,hd,hi⟩:=aggSz_pos h1;obtain⟨t,ht⟩:=row_blk (w:=w) (g:=g) (by omega);have hr:=World.rangeAt_of_block ht o (aggSz P ty);have:=run_loadVar_mid (P:=P) w g o ty _ d hr hu hd (by rw[hi];simp;omega);rw[Array.toArray_toList]at this;exact this
theorem loadAt_row{ty:TypeId}(h1:0<aggSz P ty)(h2:o+aggSz P ty<=(rowOf w g).size):
  (Instr.loadAt ty (.pointer (some ⟨g,o,none⟩))).run P w=.ok (.agg ((rowOf w g).extract o (o+aggSz P ty))) w:=by
 simp only[Instr.loadAt,Instr.sureAddr,Sem.run_bind,Sem.run_pure,Result.andThen_ok,loadVar_row h1 h2]
theorem setRow_eq{cs:Array Value}{t:TypeId}{fr:Nat×Nat}(h:w.heap[g]?=some (.cells cs t fr))(new:List Value)(ho:o+new.length<=cs.size):
  w.setCells g o new=w.setRow g (splice cs o new.toArray):=by
 induction new generalizing w o cs with
 |nil=>
  rw[show ([]:List Value).toArray=#[] from rfl,splice_nil,setRow_self w g cs t fr h];rfl
 |cons v r ih=>
  simp only[List.length_cons]at ho;have hs:=setCell_eq_setRow w g o cs t fr v h
  show (w.setCell ⟨g,o,none⟩ v).setCells g (o+1) r=_;rw[hs];have h':(w.setRow g (cs.setIfInBounds o v)).heap[g]?=some (.cells (cs.setIfInBounds o v) t fr):=setRow_heap w g cs _ t fr h;rw[ih h' (by simp;omega),setRow_setRow];rw[splice_cons cs o v r (by omega)]
theorem storeVar_row{ty:TypeId}{cs:Array Value}(h1:aggSz P ty=cs.size)(h0:0<cs.size)(h2:o+cs.size<=(rowOf w g).size)(hf:frOf w g=(0,0))(hc:cs.all (·.oneCell')=true):
  (storeVar ty ⟨g,o,none⟩ (.agg cs)).run P w=.ok () (w.setRow g (splice (rowOf w g) o cs)):=by
 obtain⟨d,hu,hd,hi⟩:=aggSz_pos (P:=P) (ty:=ty) (by omega);obtain⟨t,ht⟩:=row_blk (w:=w) (g:=g) (by omega);rw[hf]at ht;have hth:w.there g o cs.size:=fun j hj=>by
  refine⟨?_,frozen_of_row w g (o+j) _ t ht⟩;rw[cell_of_row w g (o+j) _ t _ ht,Array.getElem?_eq_getElem (by omega)];rfl
 have:=run_storeVar_mid (P:=P) w g o ty cs hth (by rw[hi,h1]) hc;rw[this,setRow_eq ht cs.toList (by simpa using h2)]
theorem storeAt_row{ty:TypeId}{cs:Array Value}(h1:aggSz P ty=cs.size)(h0:0<cs.size)(h2:o+cs.size<=(rowOf w g).size)(hf:frOf w g=(0,0))(hc:cs.all (·.oneCell')=true):
  (Instr.storeAt ty (.pointer (some ⟨g,o,none⟩)) (.agg cs)).run P w=.ok () (w.setRow g (splice (rowOf w g) o cs)):=by
 simp only[Instr.storeAt,Instr.sureAddr,Sem.run_bind,Sem.run_pure,Result.andThen_ok,storeVar_row h1 h0 h2 hf hc]
theorem setRow_alloc(w:World)(cs:Array Value)(t:TypeId)(fr:Nat×Nat)(g:Nat)(new:Array Value):
  (w.alloc (.cells cs t fr)).setRow g new=if g=w.heap.size then w.alloc (.cells new t fr)else (w.setRow g new).alloc (.cells cs t fr):=by
 by_cases h:g=w.heap.size
 ·subst h;rw[if_pos rfl];unfold World.setRow;simp only[World.alloc];congr 1
  apply Array.ext_getElem?
  intro i;simp only[Array.getElem?_modify,Array.getElem?_push];by_cases hi:i=w.heap.size
  ·subst hi;simp
  rw[if_neg (fun e=>hi e.symm),if_neg hi,if_neg hi]
 rw[if_neg h];unfold World.setRow;simp only[World.alloc];congr 1
 apply Array.ext_getElem?
 intro i;simp only[Array.getElem?_modify,Array.getElem?_push,Array.size_modify];by_cases hi:i=w.heap.size
 ·subst hi;rw[if_neg h];simp
 rw[if_neg hi,if_neg hi]
theorem rowOf_setRow(w:World)(g g':Nat)(new:Array Value)(h:0<(rowOf w g).size):rowOf (w.setRow g new) g'=if g'=g then new else rowOf w g':=by
 by_cases e:g'=g
 ·subst e;obtain⟨t,ht⟩:=row_blk h;rw[if_pos rfl,row_of_blk (setRow_heap w g' _ new t _ ht)]
 rw[if_neg e];unfold rowOf;rw[setRow_other w g g' new e]
theorem frOf_setRow(w:World)(g g':Nat)(new:Array Value):frOf (w.setRow g new) g'=frOf w g':=by
 unfold frOf World.setRow;simp only[Array.getElem?_modify];by_cases e:g=g'
 ·subst e;rw[if_pos rfl]
  cases h:w.heap[g]? with
  |none=>rfl
  |some o=>cases o<;>rfl
 rw[if_neg e]
theorem rowOf_setCell(w:World)(g g' j:Nat)(v:Value):rowOf (w.setCell ⟨g,j,none⟩ v) g'=if g'=g then (rowOf w g').setIfInBounds j v else rowOf w g':=by
 unfold rowOf World.setCell;simp only[Array.getElem?_modify];by_cases e:g=g'
 ·subst e;rw[if_pos rfl,if_pos rfl]
  cases h:w.heap[g]? with
  |none=>simp
  |some o=>cases o<;>simp
 rw[if_neg e,if_neg (fun h=>e h.symm)]
theorem frOf_setCell(w:World)(a:Addr)(g':Nat)(v:Value):frOf (w.setCell a v) g'=frOf w g':=by
 unfold frOf World.setCell;simp only[Array.getElem?_modify];by_cases e:a.block=g'
 ·exact x61y
 rw[if_neg e]
theorem cell_row(h:0<(rowOf w g).size)(j:Nat):w.cell? ⟨g,j,none⟩=(rowOf w g)[j]?:=by
 obtain⟨t,ht⟩:=row_blk h;exact cell_of_row w g j _ t _ ht
theorem frozen_row(h:0<(rowOf w g).size)(hf:frOf w g=(0,0))(j:Nat):w.frozen? ⟨g,j,none⟩=false:=by
 obtain⟨t,ht⟩:=row_blk h;rw[hf]at ht;exact frozen_of_row w g j _ t ht
theorem keepB{W0 w1:World}(hb:Below W0.heap.size W0 w1){n:Nat}(hn:n=W0.heap.size):
  (∀g,g<n->rowOf w1 g=rowOf W0 g)∧(∀g,g<n->frOf w1 g=frOf W0 g)∧(∀g,g<n->¬g=w1.heap.size)∧
  (∀g j,g<n->w1.cell? ⟨g,j,none⟩=W0.cell? ⟨g,j,none⟩)∧(∀g j,g<n->w1.frozen? ⟨g,j,none⟩=W0.frozen? ⟨g,j,none⟩):=by
 subst hn;exact⟨fun g h=>rowOf_below h hb,fun g h=>frOf_below h hb,fun g h e=>by have:=hb.size;omega,fun g j h=>hb.cell (p:=⟨g,j,none⟩) h,fun g j h=>hb.frozen (p:=⟨g,j,none⟩) h⟩
theorem cell_setRow(w:World)(g g' j:Nat)(new:Array Value)(h:0<(rowOf w g).size):(w.setRow g new).cell? ⟨g',j,none⟩=if g'=g then new[j]? else w.cell? ⟨g',j,none⟩:=by
 by_cases e:g'=g
 ·subst e;obtain⟨t,ht⟩:=row_blk h;rw[if_pos rfl];exact cell_setRow_same w g' j _ new t _ ht
 rw[if_neg e];exact cell_setRow_other w g new ⟨g',j,none⟩ e
theorem frozen_setRow(w:World)(g:Nat)(a:Addr)(new:Array Value):(w.setRow g new).frozen? a=w.frozen? a:=by
 unfold World.frozen? World.setRow;simp only[Array.getElem?_modify];by_cases e:g=a.block
 ·exact x61y
 rw[if_neg e]
theorem below_row{B:Nat}{a w:World}(h:Below B a w){g:Nat}(hg:B<=g)(cs:Array Value):Below B a (w.setRow g cs):=below_setRow h hg cs
theorem keep1{W w':World}{g:Nat}{cs:Array Value}(hb:Below W.heap.size W w')(hr:rowOf W g=cs)(h0:0<cs.size)(hf:frOf W g=(0,0)):
  rowOf w' g=cs∧frOf w' g=(0,0)∧¬g=w'.heap.size∧(∀j,w'.cell? ⟨g,j,none⟩=cs[j]?)∧(∀j,w'.frozen? ⟨g,j,none⟩=false)∧g<w'.heap.size:=by
 have hlt:g<W.heap.size:=row_lt (w:=W) (by rw[hr];exact h0);have h1:rowOf w' g=cs:=(rowOf_below hlt hb).trans hr;have h2:frOf w' g=(0,0):=(frOf_below hlt hb).trans hf;exact⟨h1,h2,fun e=>by have:=hb.size;omega,fun j=>by rw[cell_row (by rw[h1];exact h0),h1],fun j=>frozen_row (by rw[h1];exact h0) h2 j,Nat.lt_of_lt_of_le hlt hb.size⟩
/-! Results that lie in cells. -/
theorem loadVar_all{ty:TypeId}{cs:Array Value}(hr:rowOf w g=cs)(hs:aggSz P ty=cs.size)(h0:0<cs.size):(loadVar ty ⟨g,0,none⟩).run P w=.ok (.agg cs) w:=by
 have:=loadVar_row (P:=P) (w:=w) (g:=g) (o:=0) (ty:=ty) (by omega) (by rw[hr];omega);rw[this,hr,hs];simp
section
variable {fn:Func} {p q u v:Tmp} {ty ty2:TypeId} {tmps:Array Value} {cs ds:Array Value} {g2:Nat}
theorem results_c(h:fn.results=#[.cell p ty])(hp:tmps.getD p undef=.pointer (some ⟨g,0,none⟩))(hr:rowOf w g=cs)(hs:aggSz P ty=cs.size)(h0:0<cs.size):
  (results fn tmps).run P w=.ok (.agg cs) w:=by
 exact x4zr
theorem results_ct(h:fn.results=#[.cell p ty,.tmp u])(hp:tmps.getD p undef=.pointer (some ⟨g,0,none⟩))(hr:rowOf w g=cs)(hs:aggSz P ty=cs.size)(h0:0<cs.size):
  (results fn tmps).run P w=.ok (.tuple #[.agg cs,tmps.getD u undef]) w:=by
 exact x4zr
theorem results_ctt(h:fn.results=#[.cell p ty,.tmp u,.tmp v])(hp:tmps.getD p undef=.pointer (some ⟨g,0,none⟩))(hr:rowOf w g=cs)(hs:aggSz P ty=cs.size)(h0:0<cs.size):
  (results fn tmps).run P w=.ok (.tuple #[.agg cs,tmps.getD u undef,tmps.getD v undef]) w:=by
 exact x4zr
theorem results_tc(h:fn.results=#[.tmp u,.cell p ty])(hp:tmps.getD p undef=.pointer (some ⟨g,0,none⟩))(hr:rowOf w g=cs)(hs:aggSz P ty=cs.size)(h0:0<cs.size):
  (results fn tmps).run P w=.ok (.tuple #[tmps.getD u undef,.agg cs]) w:=by
 exact x4zr
theorem results_tct(h:fn.results=#[.tmp u,.cell p ty,.tmp v])(hp:tmps.getD p undef=.pointer (some ⟨g,0,none⟩))(hr:rowOf w g=cs)(hs:aggSz P ty=cs.size)(h0:0<cs.size):
  (results fn tmps).run P w=.ok (.tuple #[tmps.getD u undef,.agg cs,tmps.getD v undef]) w:=by
 exact x4zr
theorem results_cct(h:fn.results=#[.cell p ty,.cell q ty2,.tmp v])(hp:tmps.getD p undef=.pointer (some ⟨g,0,none⟩))(hr:rowOf w g=cs)(hs:aggSz P ty=cs.size)(h0:0<cs.size)
  (hp2:tmps.getD q undef=.pointer (some ⟨g2,0,none⟩)) (hr2:rowOf w g2=ds) (hs2:aggSz P ty2=ds.size) (h02:0<ds.size):
  (results fn tmps).run P w=.ok (.tuple #[.agg cs,.agg ds,tmps.getD v undef]) w:=by
 have hl:=loadVar_all (P:=P) hr hs h0;have hl1:=loadVar_all (P:=P) hr2 hs2 h02;have hp':tmps[p]?.getD undef=.pointer (some ⟨g,0,none⟩):=by simpa using hp
 have hp2':tmps[q]?.getD undef=.pointer (some ⟨g2,0,none⟩):=by simpa using hp2
 simp[results,h,hp',hp2',asAddr,hl,hl1]
end
/-! As the walk meets them: the whole operation. -/
def plainPtr:Value->Bool| .pointer (some ⟨_,_,none⟩)=>true|_=>false
def blkOf:Value->Nat| .pointer (some a)=>a.block|_=>0
def offOf:Value->Nat| .pointer (some a)=>a.off|_=>0
def isAggV:Value->Bool| .agg _=>true|_=>false
theorem plainPtr_mk(g o:Nat):plainPtr (.pointer (some ⟨g,o,none⟩))=true:=by simp[plainPtr,blkOf,offOf,isAggV]
theorem blkOf_mk(g o:Nat)(s:Option Nat):blkOf (.pointer (some ⟨g,o,s⟩))=g:=by simp[plainPtr,blkOf,offOf,isAggV]
theorem offOf_mk(g o:Nat)(s:Option Nat):offOf (.pointer (some ⟨g,o,s⟩))=o:=by simp[plainPtr,blkOf,offOf,isAggV]
theorem isAggV_mk(cs:Array Value):isAggV (.agg cs)=true:=by simp[plainPtr,blkOf,offOf,isAggV]
theorem plain_form{v:Value}(h:plainPtr v=true):v=.pointer (some ⟨blkOf v,offOf v,none⟩):=by
 unfold plainPtr at h;split at h
 ·rfl
 cases h
def allOne(cs:Array Value):Bool:=cs.all (·.oneCell')
theorem exec_load_row{ev:Operand->Value}{d:Option Tmp}{ty t:TypeId}{x:Operand}{p:String}{e:Array Edge}{gd:Option (Nat×Bool)}(h1:0<aggSz P ty)(hp:plainPtr (ev x)=true)
  (h2:offOf (ev x)+aggSz P ty<=(rowOf w (blkOf (ev x))).size):
  (execOp ev ⟨d,.load ty x,t,p,e,gd⟩).run P w=.ok (.value (.agg ((rowOf w (blkOf (ev x))).extract (offOf (ev x)) (offOf (ev x)+aggSz P ty)))) w:=by
 have hl:=loadAt_row (P:=P) (w:=w) (g:=blkOf (ev x)) (o:=offOf (ev x)) h1 h2;rw[<-plain_form hp]at hl
 show (do let r <-Instr.loadAt ty (ev x);pure (Next.value r):Sem Next).run P w=_;rw[Sem.run_bind,hl];rfl
theorem exec_store_row{ev:Operand->Value}{d:Option Tmp}{ty t:TypeId}{x y:Operand}{p:String}{e:Array Edge}{gd:Option (Nat×Bool)}(h0:0<aggSz P ty)(hp:plainPtr (ev x)=true)(hy:isAggV (ev y)=true)(h1:aggSz P ty=(ev y).cells.size)
  (h2:offOf (ev x)+(ev y).cells.size<=(rowOf w (blkOf (ev x))).size) (hf:frOf w (blkOf (ev x))=(0,0)) (hc:allOne (ev y).cells=true):
  (execOp ev ⟨d,.store ty x y,t,p,e,gd⟩).run P w=.ok .skip (w.setRow (blkOf (ev x)) (splice (rowOf w (blkOf (ev x))) (offOf (ev x)) (ev y).cells)):=by
 obtain⟨cs,hcs⟩:∃cs,ev y=.agg cs:=by
  cases h:ev y<;>simp_all [isAggV]
 have hcc:(ev y).cells=cs:=by rw[hcs];rfl
 rw[hcc]at h1 h2 hc⊢;have hl:=storeAt_row (P:=P) (w:=w) (g:=blkOf (ev x)) (o:=offOf (ev x)) (ty:=ty) h1 (by omega) h2 hf hc;rw[<-plain_form hp,<-hcs]at hl
 show (do Instr.storeAt ty (ev x) (ev y);pure Next.skip:Sem Next).run P w=_;rw[Sem.run_bind,hl];rfl
end
@[go_sem] theorem lt_up2(n:Nat):(n<n+1+1)=True:=by simp<;>omega
@[go_sem] theorem lt_up3(n:Nat):(n<n+1+1+1)=True:=by simp<;>omega
@[go_sem] theorem lt_up4(n:Nat):(n<n+1+1+1+1)=True:=by simp<;>omega
@[go_sem] theorem lt_up5(n:Nat):(n<n+1+1+1+1+1)=True:=by simp<;>omega
@[go_sem] theorem lt_up6(n:Nat):(n<n+1+1+1+1+1+1)=True:=by simp<;>omega
@[go_sem] theorem lt_up7(n:Nat):(n<n+1+1+1+1+1+1+1)=True:=by simp<;>omega
@[go_sem] theorem lt_up8(n:Nat):(n<n+1+1+1+1+1+1+1+1)=True:=by simp<;>omega
@[go_sem] theorem lt_up9(n:Nat):(n<n+1+1+1+1+1+1+1+1+1)=True:=by simp<;>omega
@[go_sem] theorem lt_up10(n:Nat):(n<n+1+1+1+1+1+1+1+1+1+1)=True:=by simp<;>omega
@[go_sem] theorem lt_up11(n:Nat):(n<n+1+1+1+1+1+1+1+1+1+1+1)=True:=by simp<;>omega
@[go_sem] theorem lt_up12(n:Nat):(n<n+1+1+1+1+1+1+1+1+1+1+1+1)=True:=by simp<;>omega
@[go_sem] theorem lt_up13(n:Nat):(n<n+1+1+1+1+1+1+1+1+1+1+1+1+1)=True:=by simp<;>omega
@[go_sem] theorem lt_up14(n:Nat):(n<n+1+1+1+1+1+1+1+1+1+1+1+1+1+1)=True:=by simp<;>omega
@[go_sem] theorem lt_up15(n:Nat):(n<n+1+1+1+1+1+1+1+1+1+1+1+1+1+1+1)=True:=by simp<;>omega
@[go_sem] theorem lt_up16(n:Nat):(n<n+1+1+1+1+1+1+1+1+1+1+1+1+1+1+1+1)=True:=by simp<;>omega
@[go_sem] theorem lt_up17(n:Nat):(n<n+1+1+1+1+1+1+1+1+1+1+1+1+1+1+1+1+1)=True:=by simp<;>omega
@[go_sem] theorem lt_up18(n:Nat):(n<n+1+1+1+1+1+1+1+1+1+1+1+1+1+1+1+1+1+1)=True:=by simp<;>omega
@[go_sem] theorem lt_up19(n:Nat):(n<n+1+1+1+1+1+1+1+1+1+1+1+1+1+1+1+1+1+1+1)=True:=by simp<;>omega
@[go_sem] theorem lt_up20(n:Nat):(n<n+1+1+1+1+1+1+1+1+1+1+1+1+1+1+1+1+1+1+1+1)=True:=by simp<;>omega
@[go_sem] theorem lt_up21(n:Nat):(n<n+1+1+1+1+1+1+1+1+1+1+1+1+1+1+1+1+1+1+1+1+1)=True:=by simp<;>omega
@[go_sem] theorem lt_up22(n:Nat):(n<n+1+1+1+1+1+1+1+1+1+1+1+1+1+1+1+1+1+1+1+1+1+1)=True:=by simp<;>omega
@[go_sem] theorem lt_up23(n:Nat):(n<n+1+1+1+1+1+1+1+1+1+1+1+1+1+1+1+1+1+1+1+1+1+1+1)=True:=by simp<;>omega
@[go_sem] theorem lt_up24(n:Nat):(n<n+1+1+1+1+1+1+1+1+1+1+1+1+1+1+1+1+1+1+1+1+1+1+1+1)=True:=by simp<;>omega
@[go_sem] theorem eq_up2(n:Nat):(n=n+1+1)=False:=by simp<;>omega
@[go_sem] theorem up_eq2(n:Nat):(n+1+1=n)=False:=by simp<;>omega
@[go_sem] theorem eq_up3(n:Nat):(n=n+1+1+1)=False:=by simp<;>omega
@[go_sem] theorem up_eq3(n:Nat):(n+1+1+1=n)=False:=by simp<;>omega
@[go_sem] theorem eq_up4(n:Nat):(n=n+1+1+1+1)=False:=by simp<;>omega
@[go_sem] theorem up_eq4(n:Nat):(n+1+1+1+1=n)=False:=by simp<;>omega
@[go_sem] theorem up_eq5(n:Nat):(n+1+1+1+1+1=n)=False:=by simp<;>omega
@[go_sem] theorem up_eq6(n:Nat):(n+1+1+1+1+1+1=n)=False:=by simp<;>omega
@[go_sem] theorem up_eq8(n:Nat):(n+1+1+1+1+1+1+1+1=n)=False:=by simp<;>omega
@[go_sem] theorem up_eq9(n:Nat):(n+1+1+1+1+1+1+1+1+1=n)=False:=by simp<;>omega
@[go_sem] theorem up_eq11(n:Nat):(n+1+1+1+1+1+1+1+1+1+1+1=n)=False:=by simp<;>omega
@[go_sem] theorem up_eq20(n:Nat):(n+1+1+1+1+1+1+1+1+1+1+1+1+1+1+1+1+1+1+1+1=n)=False:=by simp<;>omega
@[go_sem] theorem up_eq24(n:Nat):(n+1+1+1+1+1+1+1+1+1+1+1+1+1+1+1+1+1+1+1+1+1+1+1+1=n)=False:=by simp<;>omega
def runBuild(P:Program)(T:TypeId)(parts:Array (Nat×Value))(w:World):Result Value:=(Instr.build T parts).run P w
def bigBuild(P:Program)(T:TypeId)(n:Nat):Prop:=∃i,P.info? T=some i∧0<n
theorem exec_build{P:Program}{ev:Operand->Value}{d:Option Tmp}{T t:TypeId}{parts:Array (Nat×Operand)}{p:String}{e:Array Edge}{gd:Option (Nat×Bool)}{w:World}(h:bigBuild P T parts.size):
  (execOp ev ⟨d,.build T parts,t,p,e,gd⟩).run P w=(runBuild P T (parts.map fun (i,x)=>(i,ev x)) w).andThen fun v w'=>.ok (.value v) w':=by
 show (do let r <-Instr.build T (parts.map fun (i,x)=>(i,ev x));pure (Next.value r):Sem Next).run P w=_;rw[Sem.run_bind];rfl
attribute [go_sem ↓] exec_build
attribute [go_sem] cell_setRow frozen_setRow
attribute [go_sem] plainPtr_mk blkOf_mk offOf_mk isAggV_mk rowOf_alloc frOf_alloc rowOf_drew rowOf_drewN frOf_drew frOf_drewN rowOf_setCell frOf_setCell rowOf_setRow frOf_setRow setRow_alloc splice_all
attribute [go_sem ↓] exec_load_row exec_store_row
theorem x0im(h:Y:=by
 intro i;unfold dstOf;rw[<-hds];simp only[List.getElem?_toArray,List.getElem?_map]
 cases l[i]?<;>rfl):Y:=h
theorem x0jj(h:Y:=by
 go_wp2_with fail;go_roundw
 case rel=>exact⟨k+1,by omega,by go_num,HE1,HB1⟩
 case measure=>simp[intOf]<;>omega):Y:=h
theorem x4mb(h:Y:=by
 have HE1:Hid ((-1:Int)=r):=qH (by
  rw[<-HE.out,List.drop_of_length_le (by omega)];rfl)
 clear HE;go_wp2_with fail;go_ret;exact⟨by rw[<-HE1.out];rfl,HB.out⟩):Y:=h
theorem x9q7(h:Y:=by
 repeat (first|exact Below.refl _ _|refine bA ?_ _)):Y:=h
theorem x9r8(h:Y:=by
 go_wp2_with fail;go_ret;exact⟨by rw[<-HE1.out];rfl,HB1.out⟩):Y:=h
def waitsO(o:Oper):List Nat:=(o.after.toList.filter (Region.binds .any)).map (·.on)
theorem waits_eq(ops:Array Oper)(i:Nat)(o:Oper)(h:ops[i]?=some o):waits .any ops i=waitsO o:=by unfold waits waitsO;rw[h]
structure ChSt(ds:List (Option Tmp))(vs:List Value)(a0:Act)(w0:World)(done:Nat->Bool)(a:Act)(w:World):Prop where
 old:∀t,ds.contains (some t)=false->a.tmps[t]?=a0.tmps[t]?
 new:∀(i:Nat) t,done i=true->ds[i]?=some (some t)->a.tmps[t]?=some (vs.getD i undef)
 bel:Below w0.heap.size w0 w
def onB(vs:List Value)(o:Oper):Bool:=match o.guard with
 |none=>true
 |some (j,b)=>match vs[j]? with
  |some (.bool c)=>c==b
  |_=>false
def OpStep(P:Program)(Q:Exit->Act->World->Prop)(o:Oper)(v:Value)(a:Act)(w:World):Prop:=o.wp P a w (fun a' w'=>a'=a.put o.dst v∧Below w.heap.size w w') Q
def StepsOk(P:Program)(Q:Exit->Act->World->Prop)(ds:List (Option Tmp))(vs:List Value)(a0:Act)(w0:World):List Oper->List Value->Prop
 |[],_=>True
 |o::r,v::u=>((onB vs o=true∧∀(done:Nat->Bool) (a:Act) (w:World),(∀d∈waitsO o,done d=true)->ChSt ds vs a0 w0 done a w->OpStep P Q o v a w)∨(onB vs o=false∧v=undef))∧StepsOk P Q ds vs a0 w0 r u
 |_::_,[]=>False
def guardsOk(ds:List (Option Tmp))(l:List Oper):Bool:=l.all fun o=>match o.guard with
 |none=>true
 |some (j,_)=>(waitsO o).contains j&&(match ds[j]? with|some (some _)=>true|_=>false)
theorem steps_at{P:Program}{Q:Exit->Act->World->Prop}{ds:List (Option Tmp)}{vs0:List Value}{a0:Act}{w0:World}:∀(l:List Oper) (vs:List Value),StepsOk P Q ds vs0 a0 w0 l vs->∀(i:Nat) o,l[i]?=some o->
  (onB vs0 o=true∧∀(done:Nat->Bool) (a:Act) (w:World),(∀d∈waitsO o,done d=true)->ChSt ds vs0 a0 w0 done a w->OpStep P Q o (vs.getD i undef) a w)∨(onB vs0 o=false∧vs.getD i undef=undef)
 |[],_,_,i,o,h=>by simp at h
 |o::r,[],h,_,_,_=>h.elim
 |o::r,v::u,h,i,o',e=>by
  obtain⟨h1,h2⟩:=h
  match i with
  |0=>
   have e':o=o':=by simpa using e
   subst e';exact h1
  |i+1=>exact steps_at r u h2 i o' (by simpa using e)
def putAll:List (Option Tmp)->List Value->Array Value->Array Value
 |some d::ds,v::vs,b=>putAll ds vs (b.setIfInBounds d v)
 |none::ds,_::vs,b=>putAll ds vs b
 |_,_,b=>b
theorem putAll_some(d:Tmp)(ds:List (Option Tmp))(v:Value)(vs:List Value)(b:Array Value):putAll (some d::ds) (v::vs) b=putAll ds vs (b.setIfInBounds d v):=by rw[putAll]
theorem putAll_none(ds:List (Option Tmp))(v:Value)(vs:List Value)(b:Array Value):putAll (none::ds) (v::vs) b=putAll ds vs b:=by rw[putAll]
theorem putAll_nil(vs:List Value)(b:Array Value):putAll [] vs b=b:=by rw[putAll]<;>simp
theorem putAll_range(ops:Array Oper)(vals:List Value):∀(ds:List (Option Tmp)) (vs:List Value) (k:Nat) (b:Array Value),ds.length=vs.length->(∀i,dstOf ops (k+i)=(ds[i]?).bind (fun x=>x))->(∀i,i<ds.length->vals.getD (k+i) undef=vs.getD i undef)->
  (List.range' k ds.length).foldl (fun b i=>match dstOf ops i with|some d=>b.setIfInBounds d (vals.getD i undef)|none=>b) b=putAll ds vs b
 |[],vs,k,b,_,_,_=>by cases vs<;>rfl
 |x::ds,[],k,b,h,_,_=>by simp at h
 |x::ds,v::vs,k,b,h,hd,hv=>by
  have ih:=fun b=>putAll_range ops vals ds vs (k+1) b (by simpa using h) (fun i=>by have:=hd (i+1);rw[show k+1+i=k+(i+1) by omega];simpa using this) (fun i hi=>by have:=hv (i+1) (by simpa using hi);rw[show k+1+i=k+(i+1) by omega];simpa using this);have h0:=hd 0;have v0:=hv 0 (by simp);simp only[Nat.add_zero,List.getElem?_cons_zero,Option.bind_some]at h0;simp only[Nat.add_zero,List.getD_cons_zero]at v0;rw[List.length_cons,List.range'_succ,List.foldl_cons,h0,v0]
  cases x with
  |none=>rw[putAll_none];exact ih b
  |some d=>rw[putAll_some];exact ih _
section
variable {P:Program} {Q:Exit->Act->World->Prop}
theorem wp_region_chain{id:Nat}{l:List Oper}{a0:Act}{w0:World}(hm:P.follows .mixedOrders=true)(ds:List (Option Tmp))(vs:List Value)(n:Nat)(hn:a0.tmps.size=n)(hds:l.map (·.dst)=ds)(hd:dstsOk l.toArray n=true)(hw:waitsOk l.toArray=true)(hg:guardsOk ds l=true)
  (hlen:ds.length=vs.length) (steps:StepsOk P Q ds vs a0 w0.drew l vs) (hQ:∀(w:World),Below w0.heap.size w0 w->Q .normal {tmps:=putAll ds vs a0.tmps,defers:=a0.defers} w):(Code.region id l.toArray true).wp P Q a0 w0:=by
 rw[<-hn]at hd;have hdst:∀i,dstOf l.toArray i=(ds[i]?).bind (fun x=>x):=by
  exact x0im
 have conv:∀{done:Nat->Bool} {a:Act} {w:World},RegSt l.toArray (vs.getD · undef) a0 w0.drew done a w->ChSt ds vs a0 w0.drew done a w:=by
  intro done a w h;refine⟨fun t ht=>h.old t fun i hi=>?_,fun i t hi ht=>h.new i t hi (by rw[hdst,ht];rfl),h.bel⟩;rw[hdst]at hi
  cases e:ds[i]? with
  |none=>rw[e]at hi;cases hi
  |some x=>
   rw[e]at hi;have hx:x=some t:=hi;subst hx;have:=List.mem_of_getElem? e;rw[List.contains_iff_mem.2 this]at ht;cases ht
 refine wp_region_vals hm (vs.getD · undef) a0 w0 hd hw ?_ ?_
 ·intro i hi done a w hwait h;have hil:i<l.length:=by simpa using hi
  have ho:l.toArray[i]?=some l[i]:=by simp[hil]
  rw[waits_eq _ _ _ ho]at hwait;have hdi:dstOf l.toArray i=l[i].dst:=by unfold dstOf;rw[ho];rfl
  have hst:=steps_at l vs steps i l[i] (by simp[hil]);have hgd:∀j b,l[i].guard=some (j,b)->done j=true∧∃t,dstOf l.toArray j=some t:=by
   intro j b e;unfold guardsOk at hg;have:=List.all_eq_true.1 hg l[i] (List.getElem_mem hil);rw[e]at this;simp only[Bool.and_eq_true]at this;obtain⟨g1,g2⟩:=this;refine⟨hwait j (by simpa using g1),?_⟩;rw[hdst];split at g2
   ·rename_i t e2;exact⟨t,by rw[e2];rfl⟩
   cases g2
  rcases hst with ⟨h1,h2⟩|⟨h1,h2⟩
  ·refine wpOp_on ho (fun j b e=>?_) ?_
   ·obtain⟨g1,t,g2⟩:=hgd j b e;refine⟨t,g2,?_⟩;rw[h.new j t g1 g2];unfold onB at h1;rw[e]at h1;dsimp only at h1;split at h1
    ·rename_i c e2;rw[List.getD_eq_getElem?_getD,e2];simp at h1;subst h1;rfl
    cases h1
   ·refine Oper.wp_mono ?_ (h2 done a w hwait (conv h));rintro a' w' ⟨rfl,hb⟩;exact⟨by rw[hdi],hb⟩
  unfold onB at h1
  cases e:l[i].guard with
  |none=>rw[e]at h1;cases h1
  |some p=>
   obtain⟨j,b⟩:=p;obtain⟨g1,t,g2⟩:=hgd j b e;rw[e]at h1;refine wpOp_off ho e g2 (h.new j t g1 g2) ?_ ⟨by rw[hdi];show _=a.put _ (vs.getD i undef);rw[h2],Below.refl _ _⟩;intro ev;dsimp only at h1;have ev':vs.getD j undef=.bool b:=ev;rw[List.getD_eq_getElem?_getD]at ev'
   cases ej:vs[j]? with
   |none=>rw[ej]at ev';cases ev'
   |some v=>
    rw[ej]at ev' h1;have ev2:v=.bool b:=ev';subst ev2;simp at h1
 intro a w h;have e:=h.end_ hd;have hp:=putAll_range l.toArray vs ds vs 0 a0.tmps hlen (fun i=>by rw[Nat.zero_add];exact hdst i) (fun i _=>by rw[Nat.zero_add]);have hl:ds.length=l.toArray.size:=by rw[<-hds];simp
 rw[hl,<-List.range_eq_range']at hp;have e1:regEnd l.toArray (vs.getD · undef) a0={tmps:=putAll ds vs a0.tmps,defers:=a0.defers}:=by
  rw[<-hp];rfl
 rw[e,e1];exact hQ w ⟨h.bel.os,h.bel.tape,h.bel.output,h.bel.size,h.bel.block⟩
/-! Readings of operands. -/
theorem ch_new{ds:List (Option Tmp)}{vs:List Value}{a0:Act}{w0:World}{done:Nat->Bool}{a:Act}{w:World}(h:ChSt ds vs a0 w0 done a w){i:Nat}{t:Tmp}{v:Value}(hi:done i=true)(hd:ds[i]?=some (some t))(hv:vs[i]?=some v):a.tmps[t]?=some v:=by
 have:=h.new i t hi hd;rwa [List.getD_eq_getElem?_getD,hv]at this
theorem ch_old{ds:List (Option Tmp)}{vs:List Value}{a0:Act}{w0:World}{done:Nat->Bool}{a:Act}{w:World}(h:ChSt ds vs a0 w0 done a w){t:Tmp}{v:Value}(hd:ds.contains (some t)=false)(hv:a0.tmps[t]?=some v):a.tmps[t]?=some v:=by
 have:=h.old t hd;rwa [hv]at this
/-! Operations, by kind. -/
variable {d:Option Tmp} {t:TypeId} {p:String} {af:Array Edge} {g:Option (Nat×Bool)} {a:Act} {w:World} {v u:Value} {x y:Tmp} {z:Operand}
theorem ch_ev(e:a.tmps[x]?=some v):a.eval (.tmp x)=v:=by simp[Act.eval,e]
theorem ch_pure{o:Oper}(hx:(execOp a.eval o).run P w=.ok (.value v) w):OpStep P Q o v a w:=by
 unfold OpStep Oper.wp;rw[hx];exact⟨rfl,Below.refl _ _⟩
section
variable {x y z:Operand}
theorem ch_move(e:a.eval x=v):OpStep P Q ⟨d,.move x,t,p,af,g⟩ v a w:=ch_pure (by simp[execOp,e])
theorem ch_pick_t{x:Tmp}(e:a.tmps[x]?=some (.bool true))(f:a.eval y=v):OpStep P Q ⟨d,.pick (.tmp x) y z,t,p,af,g⟩ v a w:=ch_pure (by simp[execOp,ch_ev e,f,asBool])
theorem ch_pick_f{x:Tmp}(e:a.tmps[x]?=some (.bool false))(f:a.eval z=v):OpStep P Q ⟨d,.pick (.tmp x) y z,t,p,af,g⟩ v a w:=ch_pure (by simp[execOp,ch_ev e,f,asBool])
variable {ty uty:TypeId} {k:IntKind} {m n:Int}
theorem ch_neq_int(hu:P.underlying ty=some (.int k))(e:a.eval x=.int k m)(f:a.eval z=.int k n)(hv:v=.bool (m !=n)):OpStep P Q ⟨d,.binOp .neq ty x z uty,t,p,af,g⟩ v a w:=by
 subst hv;refine ch_pure ?_;simp only[execOp,e,f];go_simp
end
theorem ch_call{f:FuncId}{args:Array Operand}{ts:Array TypeId}{vals:Array Value}(e:args.map a.eval=vals)(hf:(callFunc f vals).run P w=.ok (.enter f vals) w)(h:Calls P f vals w (RetB w v)):OpStep P Q ⟨d,.call {callee:=.value (.func f),args:=args,argTypes:=ts},t,p,af,g⟩ v a w:=by
 have hx:(execOp a.eval ⟨d,.call {callee:=.value (.func f),args:=args,argTypes:=ts},t,p,af,g⟩).run P w=(callFunc f vals).run P w:=by
  simp[execOp,resolve,e,Act.eval,invoke,Deferred.ofValue]
 unfold OpStep Oper.wp;rw[hx,hf];refine h.mono ?_;rintro e w' ⟨rfl,hb⟩;exact⟨rfl,hb⟩
end
theorem x06d(h:Y:=by
 rw[hdst]at ht
 cases e:ds[i]? with
 |none=>rw[e]at ht;cases ht
 |some y=>rw[e]at ht;have hy:y=some t:=ht;rw[hy]):Y:=h
theorem x0nj(h:Y:=by
 intro j o hj hdj d hdm;by_cases e:d=i
 ·simp[e]
 simp only[e,if_false];by_cases e1:j=i
 ·subst e1;have:o=l[j]:=by rw[List.getElem?_eq_getElem hil]at hj;injection hj with hj;exact hj.symm
  subst this;exact hwait d hdm
 simp only[e1,if_false]at hdj;exact hcl j o hj hdj d hdm):Y:=h
theorem x2dp(h:Y:=by
 unfold dstOf at ht;obtain⟨oi,hoi,_⟩:=Option.bind_eq_some_iff.1 ht;simpa using (Array.getElem?_eq_some_iff.1 hoi).1):Y:=h
theorem x4n2(h:Y:=by
 subst e;rw[hdi]at hj1;rw[hj1]
 show (a.tmps.setIfInBounds t v)[t]?=_;rw[set_same (by rw[hst.size];exact dst_lt hd (hdi.trans hj1)),hv]):Y:=h
theorem x5zb(h:Y:=by
 have hil:i<l.length:=by rw[hsz];exact(List.getElem?_eq_some_iff.1 ht).1
 simp[hil]at hi):Y:=h
theorem x7pd(h:Y:=by
 rw[hmv]
 cases h:l[i].dst with
 |none=>exact hold
 |some d=>
  have hne:d≠t:=by
   rintro rfl;rw[h]at hdi;exact e (dst_inj hd hj1 hdi)
  show (a.tmps.setIfInBounds d v)[t]?=_;rw[set_ne hne];exact hold):Y:=h
theorem x8ne(h:Y:=by
 intro i hi d hd;unfold waitsOk at hw;have h1:=List.all_eq_true.1 (List.all_eq_true.1 hw i hi) d hd;have:i<l.toArray.size:=by simpa using hi
 simp at h1 this⊢;omega):Y:=h
def mixV(ks:List (Option Nat))(vs:List Value)(cv:Nat->Value)(i:Nat):Value:=match ks[i]? with
 |some (some _)=>cv i
 |_=>vs.getD i undef
structure MixSt(ds:List (Option Tmp))(ks:List (Option Nat))(vs:List Value)(a0:Act)(done:Nat->Bool)(cv:Nat->Value)(k:Nat)(a:Act):Prop where
 size:a.tmps.size=a0.tmps.size
 defers:a.defers=a0.defers
 old:∀t,ds.contains (some t)=false->a.tmps[t]?=a0.tmps[t]?
 new:∀(i:Nat) t,done i=true->ds[i]?=some (some t)->a.tmps[t]?=some (mixV ks vs cv i)
 cnt:∀i j,ks[i]?=some (some j)->(done i=true↔j<k)
def mixOk(ks:List (Option Nat))(l:List Oper):Bool:=(ks.filterMap id).Nodup&&(l.zip ks).all fun p=>match p.2 with
 |some (j+1)=>(waitsO p.1).any fun q=>ks[q]?==some (some j)
 |_=>true
theorem nodup_pos:∀(ks:List (Option Nat)),(ks.filterMap id).Nodup->∀(i j k:Nat),ks[i]?=some (some k)->ks[j]?=some (some k)->i=j
 |[],_,i,_,_,h,_=>by simp at h
 |x::ks,h,i,j,k,hi,hj=>by
  have mem:∀n,ks[n]?=some (some k)->k∈ks.filterMap id:=fun n e=>List.mem_filterMap.2 ⟨some k,List.mem_of_getElem? e,rfl⟩
  match i,j with
  |0,0=>rfl
  |0,j+1=>
   have e:x=some k:=by simpa using hi
   subst e;rw[List.filterMap_cons]at h;exact absurd (mem j (by simpa using hj)) (List.nodup_cons.1 h).1
  |i+1,0=>
   have e:x=some k:=by simpa using hj
   subst e;rw[List.filterMap_cons]at h;exact absurd (mem i (by simpa using hi)) (List.nodup_cons.1 h).1
  |i+1,j+1=>
   have h':(ks.filterMap id).Nodup:=by
    rw[List.filterMap_cons]at h;split at h
    ·exact h
    exact(List.nodup_cons.1 h).2
   have:=nodup_pos ks h' i j k (by simpa using hi) (by simpa using hj);omega
section
variable {P:Program} {Q:Exit->Act->World->Prop}
def MixStep(P:Program)(l0:List Oper)(Q:Exit->Act->World->Prop)(ds:List (Option Tmp))(ks:List (Option Nat))(vs:List Value)(a0:Act)(J:Nat->(Nat->Value)->World->Prop)(i:Nat)(o:Oper):Option Nat->Value->Prop
 |none,v=>∀(done:Nat->Bool) (cv:Nat->Value) (k:Nat) (a:Act) (w:World),(∀d∈waitsO o,done d=true)->MixSt ds ks vs a0 done cv k a->J k cv w->(∀(i':Nat) o' j,l0[i']?=some o'->ks[i']?=some (some j)->i∈waitsO o'->k<=j)->(execOp a.eval o).run P w=.ok (.value v) w
 |some k,_=>∀(done:Nat->Bool) (cv:Nat->Value) (a:Act) (w:World),(∀d∈waitsO o,done d=true)->MixSt ds ks vs a0 done cv k a->J k cv w->
  o.wp P a w (fun a' w'=>∃v,a'=a.put o.dst v∧J (k+1) (fun j=>if j=i then v else cv j) w') Q
def MixSteps(P:Program)(l0:List Oper)(Q:Exit->Act->World->Prop)(ds:List (Option Tmp))(ks0:List (Option Nat))(vs0:List Value)(a0:Act)(J:Nat->(Nat->Value)->World->Prop):Nat->List Oper->List (Option Nat)->List Value->Prop
 |_,[],_,_=>True
 |i,o::l,x::ks,v::vs=>MixStep P l0 Q ds ks0 vs0 a0 J i o x v∧MixSteps P l0 Q ds ks0 vs0 a0 J (i+1) l ks vs
 |_,_::_,_,_=>False
theorem mix_at{l0:List Oper}{ds:List (Option Tmp)}{ks0:List (Option Nat)}{vs0:List Value}{a0:Act}{J:Nat->(Nat->Value)->World->Prop}:∀(l:List Oper) (ks:List (Option Nat)) (vs:List Value) (n:Nat),MixSteps P l0 Q ds ks0 vs0 a0 J n l ks vs->
  ∀(i:Nat) o,l[i]?=some o->∃x,ks[i]?=some x∧MixStep P l0 Q ds ks0 vs0 a0 J (n+i) o x (vs.getD i undef)
 |[],_,_,_,_,i,o,h=>by simp at h
 |o::l,[],_,_,h,_,_,_=>h.elim
 |o::l,x::ks,[],_,h,_,_,_=>h.elim
 |o::l,x::ks,v::vs,n,h,i,o',e=>by
  obtain⟨h1,h2⟩:=h
  match i with
  |0=>
   have e':o=o':=by simpa using e
   subst e';exact⟨x,rfl,h1⟩
  |i+1=>
   obtain⟨y,e1,e2⟩:=mix_at l ks vs (n+1) h2 i o' (by simpa using e);exact⟨y,by simpa using e1,by rw[show n+(i+1)=n+1+i by omega];simpa using e2⟩
def mixAll(ks:List (Option Nat))(cv:Nat->Value):Nat->List Value->List Value
 |_,[]=>[]
 |i,v::vs=>(match ks[i]? with|some (some _)=>cv i|_=>v)::mixAll ks cv (i+1) vs
theorem mixAll_len(ks:List (Option Nat))(cv:Nat->Value):∀(n:Nat) (vs:List Value),(mixAll ks cv n vs).length=vs.length
 |_,[]=>rfl
 |n,v::vs=>by simp[mixAll,mixAll_len ks cv (n+1) vs]
theorem mixAll_at(ks:List (Option Nat))(cv:Nat->Value):∀(vs:List Value) (n i:Nat),i<vs.length->(mixAll ks cv n vs).getD i undef=(match ks[n+i]? with|some (some _)=>cv (n+i)|_=>vs.getD i undef)
 |[],_,_,h=>by simp at h
 |v::vs,n,0,_=>by simp[mixAll]
 |v::vs,n,i+1,h=>by
  have:=mixAll_at ks cv vs (n+1) i (by simpa using h);simp only[mixAll,List.getD_cons_succ];rw[this,show n+1+i=n+(i+1) by omega]
theorem wp_region_mix{id:Nat}{l:List Oper}{a0:Act}{w0:World}(hm:P.follows .mixedOrders=true)(ds:List (Option Tmp))(ks:List (Option Nat))(vs:List Value)(m:Nat)(J:Nat->(Nat->Value)->World->Prop)(n:Nat)(hn:a0.tmps.size=n)
  (hds:l.map (·.dst)=ds) (hd:dstsOk l.toArray n=true) (hw:waitsOk l.toArray=true) (hg:l.all (·.guard.isNone)=true) (hk:mixOk ks l=true) (hlen:ds.length=vs.length) (hlk:ds.length=ks.length) (hkm:ks.all (fun x=>match x with|some j=>decide (j<m)|none=>true)=true) (hmk:(List.range m).all (fun j=>ks.contains (some j))=true)
  (h0:J 0 (fun _=>undef) w0.drew) (steps:MixSteps P l Q ds ks vs a0 J 0 l ks vs)
  (hQ:∀(cv:Nat->Value) (w:World),J m cv w->Q .normal {tmps:=putAll ds (mixAll ks cv 0 vs) a0.tmps,defers:=a0.defers} w):(Code.region id l.toArray true).wp P Q a0 w0:=by
 rw[<-hn]at hd;have hdst:∀i,dstOf l.toArray i=(ds[i]?).bind (fun x=>x):=by
  exact x0im
 have hsz:l.length=ds.length:=by rw[<-hds];simp
 unfold mixOk at hk;simp only[Bool.and_eq_true,decide_eq_true_eq]at hk;obtain⟨hk1,hk2⟩:=hk;have hac:∀i∈List.range l.toArray.size,∀d∈waits .any l.toArray i,d<i∧d<l.toArray.size:=by
  exact x8ne
 refine wp_region_held (S:=fun _=>True) hm ?_;refine wpAnyH_inv (P:=P) (md:=.any) (ops:=l.toArray) (Q:=Q) (S:=fun _=>True) (fun done a w=>(∀(i:Nat) o,l[i]?=some o->done i=true->∀d∈waitsO o,done d=true)∧∃cv k,k<=m∧MixSt ds ks vs a0 done cv k a∧J k cv w) (List.range l.toArray.size) (fun i hi=>by simpa using hi) hac ?_ ?_ (fun _ _ _ _=>trivial) l.toArray.size _ a0 _ (by simp) (fun j hj hn=>absurd (by simpa using hj) hn) ?_ ?_
 ·rintro i hi done a w hdone hwait ⟨hcl,cv,k,hkm',hst,hJ⟩;have hil:i<l.length:=by simpa using hi
  have ho:l.toArray[i]?=some l[i]:=by simp[hil]
  rw[waits_eq _ _ _ ho]at hwait;have hgn:l[i].guard=none:=by
   have:=List.all_eq_true.1 hg l[i] (List.getElem_mem hil);simpa using this
  have hdi:dstOf l.toArray i=l[i].dst:=by unfold dstOf;rw[ho];rfl
  obtain⟨x,hx,hstep⟩:=mix_at l ks vs 0 steps i l[i] (by simp[hil]);rw[Nat.zero_add]at hstep
  -- the state behind it
  have next:∀(v:Value) (cv':Nat->Value) (k':Nat),(∀j,j≠i->cv' j=cv j)->v=mixV ks vs cv' i->(∀j q,ks[j]?=some (some q)->((if j=i then true else done j)=true↔q<k'))->MixSt ds ks vs a0 (fun j=>if j=i then true else done j) cv' k' (a.put l[i].dst v):=by
   intro v cv' k' hcv hv hc;refine⟨?_,?_,fun t ht=>?_,fun j t hj ht=>?_,hc⟩
   ·cases h:l[i].dst<;>simp[Act.put,hst.size]
   ·cases h:l[i].dst<;>simp[Act.put,hst.defers]
   ·cases h:l[i].dst with
    |none=>exact hst.old t ht
    |some d=>
     have hne:d≠t:=by
      rintro rfl;rw[h]at hdi;rw[hdst]at hdi
      cases e:ds[i]? with
      |none=>rw[e]at hdi;cases hdi
      |some y=>
       rw[e]at hdi;have hy:y=some d:=hdi;subst hy;rw[List.contains_iff_mem.2 (List.mem_of_getElem? e)]at ht;cases ht
     show (a.tmps.setIfInBounds d v)[t]?=_;rw[set_ne hne];exact hst.old t ht
   have hj1:dstOf l.toArray j=some t:=by rw[hdst,ht];rfl
   by_cases e:j=i
   ·exact x4n2
   have hj':done j=true:=by simpa[e]using hj
   have hold:=hst.new j t hj' ht;have hmv:mixV ks vs cv' j=mixV ks vs cv j:=by unfold mixV;rw[hcv j e]
   exact x7pd
  have hcl':∀(j:Nat) o,l[j]?=some o->(if j=i then true else done j)=true->∀d∈waitsO o,(if d=i then true else done d)=true:=by
   exact x0nj
  cases x with
  |none=>
   have hr:=hstep done cv k a w hwait hst hJ (fun i' o' j h1 h2 h3=>by
    rcases Nat.lt_or_ge j k with h|h
    ·have:=hcl i' o' h1 ((hst.cnt i' j h2).2 h) i h3;rw[hdone]at this;cases this
    exact h)
   refine wpOp_do ho hgn ?_;unfold Oper.wp;rw[hr];refine⟨hcl',cv,k,hkm',next _ cv k (fun _ _=>rfl) (by unfold mixV;rw[hx]) (fun j q hj=>?_),hJ⟩;have hne:j≠i:=by rintro rfl;rw[hx]at hj;cases hj
   simp only[hne,if_false];exact hst.cnt j q hj
  |some q=>
   have h1:¬q<k:=fun h=>by
    have:=(hst.cnt i q hx).2 h;rw[hdone]at this;cases this
   have h2:q<=k:=by
    cases q with
    |zero=>omega
    |succ q=>
     have hz:=List.all_eq_true.1 hk2 (l[i],some (q+1)) (by
      rw[List.mem_iff_getElem?];exact⟨i,by rw[List.getElem?_zip_eq_some];exact⟨by simp[hil],hx⟩⟩)
     obtain⟨p,hp,he⟩:=List.any_eq_true.1 hz;have:=(hst.cnt p q (by simpa using he)).1 (hwait p hp);omega
   obtain rfl:q=k:=by omega
   have hqm:q<m:=by
    have:=List.all_eq_true.1 hkm (some q) (List.mem_of_getElem? hx);simpa using this
   have hr:=hstep done cv a w hwait hst hJ;refine wpOp_do ho hgn (Oper.wp_mono ?_ hr);rintro a' w' ⟨v,rfl,hJ'⟩;refine⟨hcl',_,q+1,by omega,next v _ (q+1) (fun j hj=>by simp[hj]) (by unfold mixV;rw[hx];simp) (fun j r hj=>?_),hJ'⟩;by_cases e:j=i
   ·subst e;rw[hx]at hj;injection hj with hj;injection hj with hj;simp;omega
   simp only[e,if_false];rw[hst.cnt j r hj];have:r≠q:=fun h=>by subst h;exact e (nodup_pos ks hk1 _ _ _ hj hx)
   omega
 ·rintro done a w hall ⟨_,cv,k,hkm',hst,hJ⟩;have hkm1:k=m:=by
   rcases Nat.lt_or_ge k m with h|h
   ·have hc:=List.all_eq_true.1 hmk k (by simpa using h);obtain⟨j,hj⟩:=List.mem_iff_getElem?.1 (List.contains_iff_mem.1 hc);have hjl:j<l.length:=by rw[hsz,hlk];exact(List.getElem?_eq_some_iff.1 hj).1
    have:=(hst.cnt j k hj).1 (hall j (by simpa using hjl));omega
   omega
  subst hkm1;have e:a={tmps:=putAll ds (mixAll ks cv 0 vs) a0.tmps,defers:=a0.defers}:=by
   have hreg:RegSt l.toArray ((mixAll ks cv 0 vs).getD · undef) a0 w (fun j=>if j<l.length then true else false) a w:=by
    refine⟨hst.size,hst.defers,fun t ht=>hst.old t ?_,fun i t hi ht=>?_,Below.refl _ _⟩
    ·cases hc:ds.contains (some t)with
     |false=>rfl
     |true=>
      obtain⟨j,hj⟩:=List.mem_iff_getElem?.1 (List.contains_iff_mem.1 hc);exact absurd (by rw[hdst,hj];rfl) (ht j)
    have hil:i<l.length:=by
     rcases Nat.lt_or_ge i l.length with h|h
     ·exact h
     simp[Nat.not_lt.2 h]at hi
    have ht':ds[i]?=some (some t):=by
     exact x06d
    rw[hst.new i t (hall i (by simpa using hil)) ht'];have:=mixAll_at ks cv vs 0 i (by omega);rw[Nat.zero_add]at this
    show some (mixV ks vs cv i)=some ((mixAll ks cv 0 vs).getD i undef);rw[this];rfl
   have hreg1:RegSt l.toArray ((mixAll ks cv 0 vs).getD · undef) a0 w (fun _=>true) a w:=by
    refine⟨hreg.size,hreg.defers,hreg.old,fun i t _ ht=>?_,hreg.bel⟩;have hi:i<l.length:=by
     exact x2dp
    exact hreg.new i t (by simp[hi]) ht
   have e:=hreg1.end_ hd;have hml:=mixAll_len ks cv 0 vs;have hp:=putAll_range l.toArray (mixAll ks cv 0 vs) ds (mixAll ks cv 0 vs) 0 a0.tmps (by rw[hml];exact hlen) (fun i=>by rw[Nat.zero_add];exact hdst i) (fun i _=>by rw[Nat.zero_add]);have hl:ds.length=l.toArray.size:=by rw[<-hds];simp
   rw[hl,<-List.range_eq_range']at hp;have e1:regEnd l.toArray ((mixAll ks cv 0 vs).getD · undef) a0={tmps:=putAll ds (mixAll ks cv 0 vs) a0.tmps,defers:=a0.defers}:=by
    rw[<-hp];rfl
   rw[e,e1]
  rw[e];exact hQ cv w hJ
 ·exact x7q7
 refine⟨fun i o ho hi=>?_,fun _=>undef,0,Nat.zero_le _,⟨rfl,rfl,fun _ _=>rfl,fun i t hi ht=>?_,fun i j hj=>?_⟩,h0⟩
 ·have hil:i<l.length:=(List.getElem?_eq_some_iff.1 ho).1;simp[hil]at hi
 ·exact x5zb
 have hil:i<l.length:=by rw[hsz,hlk];exact(List.getElem?_eq_some_iff.1 hj).1
 simp[hil]
/-! Readings of operands. -/
theorem mx_new{ds:List (Option Tmp)}{ks:List (Option Nat)}{vs:List Value}{a0:Act}{done:Nat->Bool}{cv:Nat->Value}{k:Nat}{a:Act}(h:MixSt ds ks vs a0 done cv k a){i:Nat}{t:Tmp}{v:Value}(hi:done i=true)(hd:ds[i]?=some (some t))(hk:ks[i]?=some none)(hv:vs[i]?=some v):a.tmps[t]?=some v:=by
 rw[h.new i t hi hd];unfold mixV;rw[hk,List.getD_eq_getElem?_getD,hv];rfl
theorem mx_cv{ds:List (Option Tmp)}{ks:List (Option Nat)}{vs:List Value}{a0:Act}{done:Nat->Bool}{cv:Nat->Value}{k:Nat}{a:Act}(h:MixSt ds ks vs a0 done cv k a){i j:Nat}{t:Tmp}(hi:done i=true)(hd:ds[i]?=some (some t))(hk:ks[i]?=some (some j)):a.tmps[t]?=some (cv i):=by
 rw[h.new i t hi hd];unfold mixV;rw[hk]
theorem mx_old{ds:List (Option Tmp)}{ks:List (Option Nat)}{vs:List Value}{a0:Act}{done:Nat->Bool}{cv:Nat->Value}{k:Nat}{a:Act}(h:MixSt ds ks vs a0 done cv k a){t:Tmp}{v:Value}(hd:ds.contains (some t)=false)(hv:a0.tmps[t]?=some v):a.tmps[t]?=some v:=(h.old t hd).trans hv
section
variable {a:Act} {w:World} {x:Operand} {v:Value} {d:Option Tmp} {t:TypeId} {p:String} {af:Array Edge} {g:Option (Nat×Bool)}
theorem mx_move(e:a.eval x=v):(execOp a.eval ⟨d,.move x,t,p,af,g⟩).run P w=.ok (.value v) w:=by simp[execOp,e]
theorem mx_assign(e:a.eval x=v):(execOp a.eval ⟨d,.assign x,t,p,af,g⟩).run P w=.ok (.value v) w:=by simp[execOp,e]
end
end
def freeV(es:List Bool)(vs:List Value)(cv:Nat->Value)(i:Nat):Value:=if es.getD i false=true then cv i else vs.getD i undef
structure FreeSt(ds:List (Option Tmp))(es:List Bool)(vs:List Value)(a0:Act)(done:Nat->Bool)(cv:Nat->Value)(a:Act):Prop where
 size:a.tmps.size=a0.tmps.size
 defers:a.defers=a0.defers
 old:∀t,(∀i,ds[i]?=some (some t)->done i=false)->a.tmps[t]?=a0.tmps[t]?
 new:∀(i:Nat) t,done i=true->ds[i]?=some (some t)->a.tmps[t]?=some (freeV es vs cv i)
def maskB(es:List Bool)(done:Nat->Bool):Nat->Bool:=fun j=>es.getD j false&&done j
theorem maskB_off{es:List Bool}{done:Nat->Bool}{i:Nat}(h:es.getD i false=false):maskB es (fun j=>if j=i then true else done j)=maskB es done:=by
 funext j
 unfold maskB;by_cases e:j=i
 ·subst e;simp only[h,Bool.false_and]
 simp only[e,if_false]
theorem maskB_on{es:List Bool}{done:Nat->Bool}{i:Nat}(h:es.getD i false=true):maskB es (fun j=>if j=i then true else done j)=fun j=>if j=i then true else maskB es done j:=by
 funext j
 unfold maskB;by_cases e:j=i
 ·subst e;simp only[h,if_true,Bool.true_and]
 simp only[e,if_false]
def freeAll(es:List Bool)(cv:Nat->Value):Nat->List Value->List Value
 |_,[]=>[]
 |i,v::vs=>(if es.getD i false=true then cv i else v)::freeAll es cv (i+1) vs
theorem freeAll_len(es:List Bool)(cv:Nat->Value):∀(n:Nat) (vs:List Value),(freeAll es cv n vs).length=vs.length
 |_,[]=>rfl
 |n,v::vs=>by simp[freeAll,freeAll_len es cv (n+1) vs]
theorem freeAll_at(es:List Bool)(cv:Nat->Value):∀(vs:List Value) (n i:Nat),i<vs.length->(freeAll es cv n vs).getD i undef=(if es.getD (n+i) false=true then cv (n+i)else vs.getD i undef)
 |[],_,_,h=>by simp at h
 |v::vs,n,0,_=>by simp[freeAll]
 |v::vs,n,i+1,h=>by
  have:=freeAll_at es cv vs (n+1) i (by simpa using h);simp only[freeAll,List.getD_cons_succ];rw[this,show n+1+i=n+(i+1) by omega]
section
variable {P:Program} {Q:Exit->Act->World->Prop}
def ClosedB(l:List Oper)(done:Nat->Bool):Prop:=∀(i:Nat) o,l[i]?=some o->done i=true->∀d∈waitsO o,done d=true
def FreeStep(P:Program)(l0:List Oper)(Q:Exit->Act->World->Prop)(ds:List (Option Tmp))(es:List Bool)(vs:List Value)(a0:Act)(J:(Nat->Bool)->(Nat->Value)->World->Prop)(i:Nat)(o:Oper):Bool->Value->Prop
 |false,v=>∀(done:Nat->Bool) (cv:Nat->Value) (a:Act) (w:World),done i=false->(∀d∈waitsO o,done d=true)->ClosedB l0 done->FreeSt ds es vs a0 done cv a->J (maskB es done) cv w->(execOp a.eval o).run P w=.ok (.value v) w
 |true,_=>∀(done:Nat->Bool) (cv:Nat->Value) (a:Act) (w:World),done i=false->(∀d∈waitsO o,done d=true)->ClosedB l0 done->FreeSt ds es vs a0 done cv a->J (maskB es done) cv w->
  o.wp P a w (fun a' w'=>∃v,a'=a.put o.dst v∧J (fun j=>if j=i then true else maskB es done j) (fun j=>if j=i then v else cv j) w') Q
def FreeSteps(P:Program)(l0:List Oper)(Q:Exit->Act->World->Prop)(ds:List (Option Tmp))(es0:List Bool)(vs0:List Value)(a0:Act)(J:(Nat->Bool)->(Nat->Value)->World->Prop):Nat->List Oper->List Bool->List Value->Prop
 |_,[],_,_=>True
 |i,o::l,x::es,v::vs=>FreeStep P l0 Q ds es0 vs0 a0 J i o x v∧FreeSteps P l0 Q ds es0 vs0 a0 J (i+1) l es vs
 |_,_::_,_,_=>False
theorem free_at{l0:List Oper}{ds:List (Option Tmp)}{es0:List Bool}{vs0:List Value}{a0:Act}{J:(Nat->Bool)->(Nat->Value)->World->Prop}:∀(l:List Oper) (es:List Bool) (vs:List Value) (n:Nat),FreeSteps P l0 Q ds es0 vs0 a0 J n l es vs->
  ∀(i:Nat) o,l[i]?=some o->∃x,es[i]?=some x∧FreeStep P l0 Q ds es0 vs0 a0 J (n+i) o x (vs.getD i undef)
 |[],_,_,_,_,i,o,h=>by simp at h
 |o::l,[],_,_,h,_,_,_=>h.elim
 |o::l,x::es,[],_,h,_,_,_=>h.elim
 |o::l,x::es,v::vs,n,h,i,o',e=>by
  obtain⟨h1,h2⟩:=h
  match i with
  |0=>
   have e':o=o':=by simpa using e
   subst e';exact⟨x,rfl,h1⟩
  |i+1=>
   obtain⟨y,e1,e2⟩:=free_at l es vs (n+1) h2 i o' (by simpa using e);exact⟨y,by simpa using e1,by rw[show n+(i+1)=n+1+i by omega];simpa using e2⟩
theorem wp_region_free{id:Nat}{l:List Oper}{a0:Act}{w0:World}(hm:P.follows .mixedOrders=true)(ds:List (Option Tmp))(es:List Bool)(vs:List Value)(J:(Nat->Bool)->(Nat->Value)->World->Prop)(n:Nat)(hn:a0.tmps.size=n)
  (hds:l.map (·.dst)=ds) (hd:dstsOk l.toArray n=true) (hw:waitsOk l.toArray=true) (hg:l.all (·.guard.isNone)=true) (hlen:ds.length=vs.length) (hle:ds.length=es.length)
  (h0:J (fun _=>false) (fun _=>undef) w0.drew) (steps:FreeSteps P l Q ds es vs a0 J 0 l es vs)
  (hQ:∀(d:Nat->Bool) (cv:Nat->Value) (w:World),(∀i,es.getD i false=true->i<l.length->d i=true)->J d cv w->Q .normal {tmps:=putAll ds (freeAll es cv 0 vs) a0.tmps,defers:=a0.defers} w):(Code.region id l.toArray true).wp P Q a0 w0:=by
 rw[<-hn]at hd;have hdst:∀i,dstOf l.toArray i=(ds[i]?).bind (fun x=>x):=by
  exact x0im
 have hsz:l.length=ds.length:=by rw[<-hds];simp
 have hac:∀i∈List.range l.toArray.size,∀d∈waits .any l.toArray i,d<i∧d<l.toArray.size:=by
  exact x8ne
 refine wp_region_held (S:=fun _=>True) hm ?_;refine wpAnyH_inv (P:=P) (md:=.any) (ops:=l.toArray) (Q:=Q) (S:=fun _=>True) (fun done a w=>ClosedB l done∧∃cv,FreeSt ds es vs a0 done cv a∧J (maskB es done) cv w) (List.range l.toArray.size) (fun i hi=>by simpa using hi) hac ?_ ?_ (fun _ _ _ _=>trivial) l.toArray.size _ a0 _ (by simp) (fun j hj hn=>absurd (by simpa using hj) hn) ?_ ?_
 ·rintro i hi done a w hdone hwait ⟨hcl,cv,hst,hJ⟩;have hil:i<l.length:=by simpa using hi
  have ho:l.toArray[i]?=some l[i]:=by simp[hil]
  rw[waits_eq _ _ _ ho]at hwait;have hgn:l[i].guard=none:=by
   have:=List.all_eq_true.1 hg l[i] (List.getElem_mem hil);simpa using this
  have hdi:dstOf l.toArray i=l[i].dst:=by unfold dstOf;rw[ho];rfl
  obtain⟨x,hx,hstep⟩:=free_at l es vs 0 steps i l[i] (by simp[hil]);rw[Nat.zero_add]at hstep;have hxD:es.getD i false=x:=by rw[List.getD_eq_getElem?_getD,hx];rfl
  have next:∀(v:Value) (cv':Nat->Value),(∀j,j≠i->cv' j=cv j)->v=freeV es vs cv' i->FreeSt ds es vs a0 (fun j=>if j=i then true else done j) cv' (a.put l[i].dst v):=by
   intro v cv' hcv hv;refine⟨?_,?_,fun t ht=>?_,fun j t hj ht=>?_⟩
   ·cases h:l[i].dst<;>simp[Act.put,hst.size]
   ·cases h:l[i].dst<;>simp[Act.put,hst.defers]
   ·have ht':∀j,ds[j]?=some (some t)->done j=false:=fun j hj=>by
     have:=ht j hj;by_cases e:j=i
     ·simp[e]at this
     simpa[e]using this
    cases h:l[i].dst with
    |none=>exact hst.old t ht'
    |some d=>
     have hne:d≠t:=by
      rintro rfl;rw[h]at hdi;rw[hdst]at hdi
      cases e:ds[i]? with
      |none=>rw[e]at hdi;cases hdi
      |some y=>
       rw[e]at hdi;have hy:y=some d:=hdi;subst hy;have:=ht i e;simp at this
     show (a.tmps.setIfInBounds d v)[t]?=_;rw[set_ne hne];exact hst.old t ht'
   have hj1:dstOf l.toArray j=some t:=by rw[hdst,ht];rfl
   by_cases e:j=i
   ·exact x4n2
   have hj':done j=true:=by simpa[e]using hj
   have hold:=hst.new j t hj' ht;have hmv:freeV es vs cv' j=freeV es vs cv j:=by unfold freeV;rw[hcv j e]
   exact x7pd
  have hcl':ClosedB l (fun j=>if j=i then true else done j):=by
   exact x0nj
  cases x with
  |false=>
   have hr:=hstep done cv a w hdone hwait hcl hst hJ;refine wpOp_do ho hgn ?_;unfold Oper.wp;rw[hr];exact⟨hcl',cv,next _ cv (fun _ _=>rfl) (by unfold freeV;rw[hxD];rfl),by rw[maskB_off hxD];exact hJ⟩
  |true=>
   have hr:=hstep done cv a w hdone hwait hcl hst hJ;refine wpOp_do ho hgn (Oper.wp_mono ?_ hr);rintro a' w' ⟨v,rfl,hJ'⟩;exact⟨hcl',fun j=>if j=i then v else cv j,next v (fun j=>if j=i then v else cv j) (fun j hj=>by simp[hj]) (by unfold freeV;rw[hxD];simp),by rw[maskB_on hxD];exact hJ'⟩
 ·rintro done a w hall ⟨_,cv,hst,hJ⟩;have hall':∀i,i<l.length->done i=true:=fun i hi=>hall i (by simpa using hi);have e:a={tmps:=putAll ds (freeAll es cv 0 vs) a0.tmps,defers:=a0.defers}:=by
   have hreg1:RegSt l.toArray ((freeAll es cv 0 vs).getD · undef) a0 w (fun _=>true) a w:=by
    refine⟨hst.size,hst.defers,fun t ht=>hst.old t ?_,fun i t _ ht=>?_,Below.refl _ _⟩
    ·exact fun j hj=>absurd (by rw[hdst,hj];rfl) (ht j)
    have hil:i<l.length:=by
     exact x2dp
    have ht':ds[i]?=some (some t):=by
     exact x06d
    rw[hst.new i t (hall' i hil) ht'];have:=freeAll_at es cv vs 0 i (by omega);rw[Nat.zero_add]at this
    show some (freeV es vs cv i)=some ((freeAll es cv 0 vs).getD i undef);rw[this];rfl
   have e:=hreg1.end_ hd;have hml:=freeAll_len es cv 0 vs;have hp:=putAll_range l.toArray (freeAll es cv 0 vs) ds (freeAll es cv 0 vs) 0 a0.tmps (by rw[hml];exact hlen) (fun i=>by rw[Nat.zero_add];exact hdst i) (fun i _=>by rw[Nat.zero_add]);have hl:ds.length=l.toArray.size:=by rw[<-hds];simp
   rw[hl,<-List.range_eq_range']at hp;have e1:regEnd l.toArray ((freeAll es cv 0 vs).getD · undef) a0={tmps:=putAll ds (freeAll es cv 0 vs) a0.tmps,defers:=a0.defers}:=by
    rw[<-hp];rfl
   rw[e,e1]
  rw[e];exact hQ (maskB es done) cv w (fun i h hi=>by unfold maskB;rw[h,hall' i hi];rfl) hJ
 ·exact x7q7
 refine⟨fun i o ho hi=>?_,fun _=>undef,⟨rfl,rfl,fun _ _=>rfl,fun i t hi ht=>?_⟩,?_⟩
 ·have hil:i<l.length:=(List.getElem?_eq_some_iff.1 ho).1;simp[hil]at hi
 ·exact x5zb
 have e:maskB es (fun j=>(Array.replicate l.toArray.size false).getD j true)=fun _=>false:=by
  funext j
  unfold maskB;by_cases hj:j<l.length
  ·simp[hj]
  rw[List.getD_eq_getElem?_getD,List.getElem?_eq_none (by omega)];rfl
 rw[e];exact h0
/-! Readings of operands. -/
theorem fr_new{ds:List (Option Tmp)}{es:List Bool}{vs:List Value}{a0:Act}{done:Nat->Bool}{cv:Nat->Value}{a:Act}(h:FreeSt ds es vs a0 done cv a){i:Nat}{t:Tmp}{v:Value}(hi:done i=true)(hd:ds[i]?=some (some t))(hk:es.getD i false=false)(hv:vs[i]?=some v):a.tmps[t]?=some v:=by
 rw[h.new i t hi hd];unfold freeV;rw[if_neg (by rw[hk];simp),List.getD_eq_getElem?_getD,hv];rfl
theorem fr_cv{ds:List (Option Tmp)}{es:List Bool}{vs:List Value}{a0:Act}{done:Nat->Bool}{cv:Nat->Value}{a:Act}(h:FreeSt ds es vs a0 done cv a){i:Nat}{t:Tmp}(hi:done i=true)(hd:ds[i]?=some (some t))(hk:es.getD i false=true):a.tmps[t]?=some (cv i):=by
 rw[h.new i t hi hd];unfold freeV;rw[if_pos hk]
theorem fr_old{ds:List (Option Tmp)}{es:List Bool}{vs:List Value}{a0:Act}{done:Nat->Bool}{cv:Nat->Value}{a:Act}(h:FreeSt ds es vs a0 done cv a){t:Tmp}{v:Value}(hd:ds.contains (some t)=false)(hv:a0.tmps[t]?=some v):a.tmps[t]?=some v:=
 (h.old t fun i hi=>by rw[List.contains_iff_mem.2 (List.mem_of_getElem? hi)]at hd;cases hd).trans hv
theorem fr_un{l:List Oper}{ds:List (Option Tmp)}{es:List Bool}{vs:List Value}{a0:Act}{done:Nat->Bool}{cv:Nat->Value}{a:Act}(h:FreeSt ds es vs a0 done cv a)(hcl:ClosedB l done){i i0:Nat}{t:Tmp}{v:Value}{o:Oper}(hn:done i=false)(ho:l[i0]?=some o)(hw:i∈waitsO o)
  (hu:(List.range ds.length).all (fun j=>decide (j=i0) || !(ds[j]?==some (some t)))=true) (hv:a0.tmps[t]?=some v):a.tmps[t]?=some v:=by
 refine(h.old t fun j hj=>?_).trans hv;have hjl:j<ds.length:=(List.getElem?_eq_some_iff.1 hj).1;have:=List.all_eq_true.1 hu j (by simpa using hjl);rw[hj]at this;have e:j=i0:=by simpa using this
 subst e
 cases hd:done j with
 |false=>rfl
 |true=>have:=hcl j o ho hd i hw;rw[hn]at this;cases this
end
theorem cN(i:Nat)(t:Tmp){ds:List (Option Tmp)}{vs:List Value}{a0:Act}{w0:World}{done:Nat->Bool}{a:Act}{w:World}{W:List Nat}{v:Value}(h:ChSt ds vs a0 w0 done a w)(hw:∀d∈W,done d=true)(hm:i∈W:=by decide)(hd:ds[i]?=some (some t):=by exact rfl)(hv:vs[i]?=some v:=by exact rfl):a.tmps[t]?=some v:=ch_new h (hw i hm) hd hv
theorem cO(t:Tmp)(v:Value){ds:List (Option Tmp)}{vs:List Value}{a0:Act}{w0:World}{done:Nat->Bool}{a:Act}{w:World}(h:ChSt ds vs a0 w0 done a w)(hd:ds.contains (some t)=false:=by exact rfl)(hv:a0.tmps[t]?=some v:=by exact rfl):a.tmps[t]?=some v:=ch_old h hd hv
theorem mN(i:Nat)(t:Tmp){ds:List (Option Tmp)}{ks:List (Option Nat)}{vs:List Value}{a0:Act}{done:Nat->Bool}{cv:Nat->Value}{k:Nat}{a:Act}{W:List Nat}{v:Value}(h:MixSt ds ks vs a0 done cv k a)(hw:∀d∈W,done d=true)(hm:i∈W:=by decide)(hd:ds[i]?=some (some t):=by exact rfl)(hk:ks[i]?=some none:=by exact rfl)(hv:vs[i]?=some v:=by exact rfl):a.tmps[t]?=some v:=mx_new h (hw i hm) hd hk hv
theorem mO(t:Tmp)(v:Value){ds:List (Option Tmp)}{ks:List (Option Nat)}{vs:List Value}{a0:Act}{done:Nat->Bool}{cv:Nat->Value}{k:Nat}{a:Act}(h:MixSt ds ks vs a0 done cv k a)(hd:ds.contains (some t)=false:=by exact rfl)(hv:a0.tmps[t]?=some v:=by exact rfl):a.tmps[t]?=some v:=mx_old h hd hv
theorem fN(i:Nat)(t:Tmp){ds:List (Option Tmp)}{es:List Bool}{vs:List Value}{a0:Act}{done:Nat->Bool}{cv:Nat->Value}{a:Act}{W:List Nat}{v:Value}(h:FreeSt ds es vs a0 done cv a)(hw:∀d∈W,done d=true)(hm:i∈W:=by decide)(hd:ds[i]?=some (some t):=by exact rfl)(hk:es.getD i false=false:=by exact rfl)(hv:vs[i]?=some v:=by exact rfl):a.tmps[t]?=some v:=fr_new h (hw i hm) hd hk hv
theorem fO(t:Tmp)(v:Value){ds:List (Option Tmp)}{es:List Bool}{vs:List Value}{a0:Act}{done:Nat->Bool}{cv:Nat->Value}{a:Act}(h:FreeSt ds es vs a0 done cv a)(hd:ds.contains (some t)=false:=by exact rfl)(hv:a0.tmps[t]?=some v:=by exact rfl):a.tmps[t]?=some v:=fr_old h hd hv
theorem kp{W w':World}(g:Nat)(cs:Array Value)(hb:Below W.heap.size W w')(hr:rowOf W g=cs:=by first|(go_simp;done)|(go_simp;rfl))(h0:0<cs.size:=by go_simp)(hf:frOf W g=(0,0):=by go_simp):
    rowOf w' g=cs∧frOf w' g=(0,0)∧¬g=w'.heap.size∧(∀j,w'.cell? ⟨g,j,none⟩=cs[j]?)∧(∀j,w'.frozen? ⟨g,j,none⟩=false)∧g<w'.heap.size:=keep1 hb hr h0 hf
theorem bR{B:Nat}{a w:World}(h:Below B a w){g:Nat}(cs:Array Value)(hg:B<=g:=by first|omega|(simp<;>omega)):Below B a (w.setRow g cs):=below_row h hg cs
theorem bA{B:Nat}{a w:World}(h:Below B a w)(o:Obj)(hB:B<=w.heap.size:=by first|omega|(simp<;>omega)):Below B a (w.alloc o):=h.alloc hB o
theorem bC{B:Nat}{a w:World}(h:Below B a w){p:Addr}(u:Value)(hp:B<=p.block:=by first|omega|(simp<;>omega)):Below B a (w.setCell p u):=h.setCell hp u
theorem hA{p:Prop}(h:Hid p:=by assumption):p:=h.out
theorem rC{P:Program}{w:World}{g:Nat}{fn:Func}{p u:Tmp}{ty:TypeId}{tmps:Array Value}(cs:Array Value)(h:fn.results=#[.cell p ty,.tmp u]:=by exact rfl)(hp:tmps.getD p undef=.pointer (some ⟨g,0,none⟩):=by exact rfl)(hr:rowOf w g=cs:=by go_simp)(hs:aggSz P ty=cs.size:=by go_simp)(h0:0<cs.size:=by go_simp):(results fn tmps).run P w=.ok (.tuple #[.agg cs,tmps.getD u undef]) w:=results_ct h hp hr hs h0
theorem bT{a b c:World}(H:Hid (Below a.heap.size a b))(h:Below b.heap.size b c):Hid (Below a.heap.size a c):=Lib.hid (H.out.trans (h.mono H.out.size))
theorem kr{V W w':World}{g:Nat}{cs:Array Value}(_:rowOf V g=cs∧frOf V g=(0,0)∧¬g=V.heap.size∧(∀j,V.cell? ⟨g,j,none⟩=cs[j]?)∧(∀j,V.frozen? ⟨g,j,none⟩=false)∧g<V.heap.size)(hb:Below W.heap.size W w')(hr:rowOf W g=cs:=by first|(go_simp;done)|(go_simp;rfl))(h0:0<cs.size:=by go_simp)(hf:frOf W g=(0,0):=by go_simp):
    rowOf w' g=cs∧frOf w' g=(0,0)∧¬g=w'.heap.size∧(∀j,w'.cell? ⟨g,j,none⟩=cs[j]?)∧(∀j,w'.frozen? ⟨g,j,none⟩=false)∧g<w'.heap.size:=keep1 hb hr h0 hf
theorem bU{a b b' c:World}(H:Hid (Below a.heap.size a b))(h:Below b'.heap.size b' c)(k:a.heap.size<=b.heap.size->Below a.heap.size a b->Below a.heap.size a b':=by intro hs hB;repeat (first|exact hB|refine bR ?_ _|refine bC ?_ _|refine bA ?_ _)):Hid (Below a.heap.size a c):=qH ((k H.out.size H.out).trans (h.mono (k H.out.size H.out).size))
theorem bZ{a b b':World}(H:Hid (Below a.heap.size a b))(k:a.heap.size<=b.heap.size->Below a.heap.size a b->Below a.heap.size a b':=by intro hs hB;repeat (first|exact hB|refine bR ?_ _|refine bC ?_ _|refine bA ?_ _)):Below a.heap.size a b':=k H.out.size H.out
theorem kq{W w':World}{g:Nat}{cs:Array Value}(hb:Below W.heap.size W w')(hr:Hid (rowOf W g=cs))(hf:Hid (frOf W g=(0,0)))(h0:0<cs.size:=by go_simp):
    rowOf w' g=cs∧frOf w' g=(0,0)∧¬g=w'.heap.size∧(∀j,w'.cell? ⟨g,j,none⟩=cs[j]?)∧(∀j,w'.frozen? ⟨g,j,none⟩=false)∧g<w'.heap.size:=keep1 hb hr.out h0 hf.out
theorem bW(w:World):Below w.heap.size w w:=Below.refl _ _
theorem bL{w:World}(o:Obj):Below w.heap.size w (w.alloc o):=(Below.refl _ _).alloc (Nat.le_refl _) o
theorem nl{n:Nat}:n<=n:=Nat.le_refl n
theorem eX{α:Sort _}(a:α):∃x,a=x:=⟨a,rfl⟩
theorem nW(b a:Nat){l:List Oper}{done:Nat->Bool}(hcl:ClosedB l done)(n:done a=false){o:Oper}(ho:l[b]?=some o:=by exact rfl)(ha:a∈waitsO o:=by decide):done b=false:=Bool.eq_false_iff.2 (fun e=>by have:=hcl b o ho e a ha;rw[n]at this;cases this)
theorem pA:type_of% @putAll_some∧type_of% @putAll_none∧type_of% @putAll_nil∧type_of% @List.setIfInBounds_toArray.{0}∧type_of% @List.set_cons_zero.{0}∧type_of% @List.set_cons_succ.{0}:=⟨putAll_some,putAll_none,putAll_nil,List.setIfInBounds_toArray,List.set_cons_zero,List.set_cons_succ⟩
theorem mA:type_of% @List.getElem?_cons_zero.{0}∧type_of% @List.getElem?_cons_succ.{0}∧type_of% @Nat.zero_add:=⟨List.getElem?_cons_zero,List.getElem?_cons_succ,Nat.zero_add⟩
theorem fA:type_of% @List.getD_cons_zero.{0}∧type_of% @List.getD_cons_succ.{0}∧type_of% @Nat.zero_add:=⟨List.getD_cons_zero,List.getD_cons_succ,Nat.zero_add⟩
section
variable {P:Program} {Q:Exit->Act->World->Prop} {id:Nat} {l:List Oper} {a0:Act} {w0:World}
theorem wM(ds:List (Option Tmp))(ks:List (Option Nat))(vs:List Value)(m:Nat)(J:Nat->(Nat->Value)->World->Prop)(n:Nat)(h0:J 0 (fun _=>undef) w0.drew)(steps:MixSteps P l Q ds ks vs a0 J 0 l ks vs)(hQ:∀(cv:Nat->Value) (w:World),J m cv w->Q .normal {tmps:=putAll ds (mixAll ks cv 0 vs) a0.tmps,defers:=a0.defers} w)(hm:P.follows .mixedOrders=true:=by kernel_rfl)(hn:a0.tmps.size=n:=by exact rfl)(hds:l.map (·.dst)=ds:=by exact rfl)(hd:dstsOk l.toArray n=true:=by decide+kernel)(hw:waitsOk l.toArray=true:=by decide+kernel)(hg:l.all (·.guard.isNone)=true:=by decide+kernel)(hk:mixOk ks l=true:=by decide+kernel)(hlen:ds.length=vs.length:=by exact rfl)(hlk:ds.length=ks.length:=by exact rfl)(hkm:ks.all (fun x=>match x with|some j=>decide (j<m)|none=>true)=true:=by decide+kernel)(hmk:(List.range m).all (fun j=>ks.contains (some j))=true:=by decide+kernel):(Code.region id l.toArray true).wp P Q a0 w0:=wp_region_mix hm ds ks vs m J n hn hds hd hw hg hk hlen hlk hkm hmk h0 steps hQ
theorem wF(ds:List (Option Tmp))(es:List Bool)(vs:List Value)(J:(Nat->Bool)->(Nat->Value)->World->Prop)(n:Nat)(h0:J (fun _=>false) (fun _=>undef) w0.drew)(steps:FreeSteps P l Q ds es vs a0 J 0 l es vs)(hQ:∀(d:Nat->Bool) (cv:Nat->Value) (w:World),(∀i,es.getD i false=true->i<l.length->d i=true)->J d cv w->Q .normal {tmps:=putAll ds (freeAll es cv 0 vs) a0.tmps,defers:=a0.defers} w)(hm:P.follows .mixedOrders=true:=by kernel_rfl)(hn:a0.tmps.size=n:=by exact rfl)(hds:l.map (·.dst)=ds:=by exact rfl)(hd:dstsOk l.toArray n=true:=by decide+kernel)(hw:waitsOk l.toArray=true:=by decide+kernel)(hg:l.all (·.guard.isNone)=true:=by decide+kernel)(hlen:ds.length=vs.length:=by exact rfl)(hle:ds.length=es.length:=by exact rfl):(Code.region id l.toArray true).wp P Q a0 w0:=wp_region_free hm ds es vs J n hn hds hd hw hg hlen hle h0 steps hQ
theorem wC(ds:List (Option Tmp))(vs:List Value)(n:Nat)(steps:StepsOk P Q ds vs a0 w0.drew l vs)(hQ:∀(w:World),Below w0.heap.size w0 w->Q .normal {tmps:=putAll ds vs a0.tmps,defers:=a0.defers} w)(hm:P.follows .mixedOrders=true:=by kernel_rfl)(hn:a0.tmps.size=n:=by exact rfl)(hds:l.map (·.dst)=ds:=by exact rfl)(hd:dstsOk l.toArray n=true:=by decide+kernel)(hw:waitsOk l.toArray=true:=by decide+kernel)(hg:guardsOk ds l=true:=by decide+kernel)(hlen:ds.length=vs.length:=by exact rfl):(Code.region id l.toArray true).wp P Q a0 w0:=wp_region_chain hm ds vs n hn hds hd hw hg hlen steps hQ
end
