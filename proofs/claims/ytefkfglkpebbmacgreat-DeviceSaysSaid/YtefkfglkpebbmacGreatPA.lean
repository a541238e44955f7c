/- Walks of functions, and plain words. No conditions. -/
import Derived.Test.YtefkfglkpebbmacGreatP0
import Derived.Deep.MidRow
import Derived.Laws.CopyOwn
import Derived.Laws.CopyRow
set_option linter.unusedVariables false
set_option linter.unusedSimpArgs false
set_option maxRecDepth 100000
set_option maxHeartbeats 40000000
namespace Go.Proofs.YtefkfglkpebbmacGreat
open Go.RowKit
variable {Y:Prop}
theorem x456(h:Y:=by
 have e:(w.alloc (.cells cs t fr)).heap[g]?=w.heap[g]?:=by
  show (w.heap.push _)[g]?=_;rw[Array.getElem?_push,if_neg h]
 rw[e]):Y:=h
theorem x4zr(h:Y:=by
 have hl:=loadVar_all (P:=P) hr hs h0;have hp':tmps[p]?.getD undef=.pointer (some ⟨g,0,none⟩):=by simpa using hp
 simp[results,h,hp',asAddr,hl]):Y:=h
theorem x61y(h:Y:=by
 subst e;rw[if_pos rfl]
 cases h:w.heap[a.block]? with
 |none=>rfl
 |some o=>cases o<;>rfl):Y:=h
def rowOf(w:World)(g:Nat):Array Value:=match w.heap[g]? with|some (.cells cs _ _)=>cs|_=>#[]
def frOf(w:World)(g:Nat):Nat×Nat:=match w.heap[g]? with|some (.cells _ _ fr)=>fr|_=>(0,0)
def aggSz(P:Program)(ty:TypeId):Nat:=match P.underlying ty,P.info? ty with
 |some (.struct _),some i=>i.size
 |some (.array _ _),some i=>i.size
 |_,_=>0
def splice(cs:Array Value)(o:Nat)(new:Array Value):Array Value:=(cs.toList.take o++new.toList++cs.toList.drop (o+new.size)).toArray
theorem splice_cons(cs:Array Value)(o:Nat)(v:Value)(r:List Value)(h:o<cs.size):splice (cs.setIfInBounds o v) (o+1) r.toArray=splice cs o (v::r).toArray:=by
 unfold splice;have e:(cs.setIfInBounds o v).toList=cs.toList.take o++v::cs.toList.drop (o+1):=by
  rw[Array.toList_setIfInBounds,List.set_eq_take_append_cons_drop,if_pos (by simpa using h)]
 have hl:(cs.toList.take o).length=o:=by rw[List.length_take];simp;omega
 rw[e];simp only[List.size_toArray,List.length_cons];congr 1;rw[List.take_append,List.drop_append,hl];have e1:(cs.toList.take o).take (o+1)=cs.toList.take o:=List.take_of_length_le (by omega);have e2:(cs.toList.take o).drop (o+1+r.length)=[]:=List.drop_eq_nil_of_le (by omega);rw[e1,e2];have e1:o+1-o=1:=by omega
 have e2:o+1+r.length-o=r.length+1:=by omega
 rw[e1,e2];simp only[List.take_succ_cons,List.take_zero,List.drop_succ_cons,List.drop_drop,List.nil_append];have e1:o+1+r.length=o+(r.length+1):=by omega
 rw[e1];simp
theorem splice_nil(cs:Array Value)(o:Nat):splice cs o #[]=cs:=by unfold splice;simp
theorem splice_all(cs new:Array Value)(h:new.size=cs.size):splice cs 0 new=new:=by
 unfold splice;rw[List.take_zero,List.drop_eq_nil_of_le (by simp;omega)];simp
section
variable {P:Program} {w:World} {g o:Nat}
theorem row_blk(h:0<(rowOf w g).size):∃t,w.heap[g]?=some (.cells (rowOf w g) t (frOf w g)):=by
 unfold rowOf frOf at *
 split at h
 ·rename_i cs t fr hg;exact⟨t,by rw[hg]⟩
 simp at h
theorem row_of_blk{cs:Array Value}{t:TypeId}{fr:Nat×Nat}(h:w.heap[g]?=some (.cells cs t fr)):rowOf w g=cs:=by unfold rowOf;rw[h]
theorem fr_of_blk{cs:Array Value}{t:TypeId}{fr:Nat×Nat}(h:w.heap[g]?=some (.cells cs t fr)):frOf w g=fr:=by unfold frOf;rw[h]
theorem aggSz_pos{ty:TypeId}(h:0<aggSz P ty):∃d,P.underlying ty=some d∧d.isRow=true∧(P.info? ty).map (·.size)=some (aggSz P ty):=by
 unfold aggSz at *
 split at h
 ·rename_i h1 h2;exact⟨_,h1,rfl,by simp[h2]⟩
 ·rename_i h1 h2;exact⟨_,h1,rfl,by simp[h2]⟩
 omega
theorem rowOf_alloc(w:World)(cs:Array Value)(t:TypeId)(fr:Nat×Nat)(g:Nat):rowOf (w.alloc (.cells cs t fr)) g=if g=w.heap.size then cs else rowOf w g:=by
 by_cases h:g=w.heap.size
 ·subst h;rw[if_pos rfl];exact row_of_blk (heap_alloc_new w _)
 rw[if_neg h];unfold rowOf;exact x456
theorem frOf_alloc(w:World)(cs:Array Value)(t:TypeId)(fr:Nat×Nat)(g:Nat):frOf (w.alloc (.cells cs t fr)) g=if g=w.heap.size then fr else frOf w g:=by
 by_cases h:g=w.heap.size
 ·subst h;rw[if_pos rfl];exact fr_of_blk (heap_alloc_new w _)
 rw[if_neg h];unfold frOf;exact x456
theorem rowOf_drew(w:World)(g:Nat):rowOf w.drew g=rowOf w g:=by
 have h:w.drew.heap=w.heap:=rfl;unfold rowOf;rw[h]
theorem rowOf_drewN(w:World)(n g:Nat):rowOf (w.drewN n) g=rowOf w g:=by unfold rowOf;simp
theorem frOf_drew(w:World)(g:Nat):frOf w.drew g=frOf w g:=by
 have h:w.drew.heap=w.heap:=rfl;unfold frOf;rw[h]
theorem frOf_drewN(w:World)(n g:Nat):frOf (w.drewN n) g=frOf w g:=by unfold frOf;simp
theorem rowOf_below{w w':World}{g:Nat}(hg:g<w.heap.size)(hb:Below w.heap.size w w'):rowOf w' g=rowOf w g:=by unfold rowOf;rw[hb.block g hg]
theorem frOf_below{w w':World}{g:Nat}(hg:g<w.heap.size)(hb:Below w.heap.size w w'):frOf w' g=frOf w g:=by unfold frOf;rw[hb.block g hg]
theorem row_lt(h:0<(rowOf w g).size):g<w.heap.size:=by obtain⟨t,ht⟩:=row_blk h;exact blk_lt ht
theorem loadVar_row{ty:TypeId}(h1:0<aggSz P ty)(h2:o+aggSz P ty<=(rowOf w g).size):
  (loadVar ty ⟨g,o,none⟩).run P w=.ok (.agg ((rowOf w g).extract o (o+aggSz P ty))) w:=by
 obtain⟨d,hu,hd,hi⟩:=aggSz_pos h1;obtain⟨t,ht⟩:=row_blk (w:=w) (g:=g) (by omega);have hr:=World.rangeAt_of_block ht o (aggSz P ty);have:=run_loadVar_mid (P:=P) w g o ty _ d hr hu hd (by rw[hi];simp;omega);rw[Array.toArray_toList]at this;exact this
theorem loadAt_row{ty:TypeId}(h1:0<aggSz P ty)(h2:o+aggSz P ty<=(rowOf w g).size):
  (Instr.loadAt ty (.pointer (some ⟨g,o,none⟩))).run P w=.ok (.agg ((rowOf w g).extract o (o+aggSz P ty))) w:=by
 simp only[Instr.loadAt,Instr.sureAddr,Sem.run_bind,Sem.run_pure,Result.andThen_ok,loadVar_row h1 h2]
theorem setRow_eq{cs:Array Value}{t:TypeId}{fr:Nat×Nat}(h:w.heap[g]?=some (.cells cs t fr))(new:List Value)(ho:o+new.length<=cs.size):
  w.setCells g o new=w.setRow g (splice cs o new.toArray):=by
 induction new generalizing w o cs with
 |nil=>
  rw[show ([]:List Value).toArray=#[] from rfl,splice_nil,setRow_self w g cs t fr h];rfl
 |cons v r ih=>
  simp only[List.length_cons]at ho;have hs:=setCell_eq_setRow w g o cs t fr v h
  show (w.setCell ⟨g,o,none⟩ v).setCells g (o+1) r=_;rw[hs];have h':(w.setRow g (cs.setIfInBounds o v)).heap[g]?=some (.cells (cs.setIfInBounds o v) t fr):=setRow_heap w g cs _ t fr h;rw[ih h' (by simp;omega),setRow_setRow];rw[splice_cons cs o v r (by omega)]
theorem storeVar_row{ty:TypeId}{cs:Array Value}(h1:aggSz P ty=cs.size)(h0:0<cs.size)(h2:o+cs.size<=(rowOf w g).size)(hf:frOf w g=(0,0))(hc:cs.all (·.oneCell')=true):
  (storeVar ty ⟨g,o,none⟩ (.agg cs)).run P w=.ok () (w.setRow g (splice (rowOf w g) o cs)):=by
 obtain⟨d,hu,hd,hi⟩:=aggSz_pos (P:=P) (ty:=ty) (by omega);obtain⟨t,ht⟩:=row_blk (w:=w) (g:=g) (by omega);rw[hf]at ht;have hth:w.there g o cs.size:=fun j hj=>by
  refine⟨?_,frozen_of_row w g (o+j) _ t ht⟩;rw[cell_of_row w g (o+j) _ t _ ht,Array.getElem?_eq_getElem (by omega)];rfl
 have:=run_storeVar_mid (P:=P) w g o ty cs hth (by rw[hi,h1]) hc;rw[this,setRow_eq ht cs.toList (by simpa using h2)]
theorem storeAt_row{ty:TypeId}{cs:Array Value}(h1:aggSz P ty=cs.size)(h0:0<cs.size)(h2:o+cs.size<=(rowOf w g).size)(hf:frOf w g=(0,0))(hc:cs.all (·.oneCell')=true):
  (Instr.storeAt ty (.pointer (some ⟨g,o,none⟩)) (.agg cs)).run P w=.ok () (w.setRow g (splice (rowOf w g) o cs)):=by
 simp only[Instr.storeAt,Instr.sureAddr,Sem.run_bind,Sem.run_pure,Result.andThen_ok,storeVar_row h1 h0 h2 hf hc]
theorem setRow_alloc(w:World)(cs:Array Value)(t:TypeId)(fr:Nat×Nat)(g:Nat)(new:Array Value):
  (w.alloc (.cells cs t fr)).setRow g new=if g=w.heap.size then w.alloc (.cells new t fr)else (w.setRow g new).alloc (.cells cs t fr):=by
 by_cases h:g=w.heap.size
 ·subst h;rw[if_pos rfl];unfold World.setRow;simp only[World.alloc];congr 1
  apply Array.ext_getElem?
  intro i;simp only[Array.getElem?_modify,Array.getElem?_push];by_cases hi:i=w.heap.size
  ·subst hi;simp
  rw[if_neg (fun e=>hi e.symm),if_neg hi,if_neg hi]
 rw[if_neg h];unfold World.setRow;simp only[World.alloc];congr 1
 apply Array.ext_getElem?
 intro i;simp only[Array.getElem?_modify,Array.getElem?_push,Array.size_modify];by_cases hi:i=w.heap.size
 ·subst hi;rw[if_neg h];simp
 rw[if_neg hi,if_neg hi]
theorem rowOf_setRow(w:World)(g g':Nat)(new:Array Value)(h:0<(rowOf w g).size):rowOf (w.setRow g new) g'=if g'=g then new else rowOf w g':=by
 by_cases e:g'=g
 ·subst e;obtain⟨t,ht⟩:=row_blk h;rw[if_pos rfl,row_of_blk (setRow_heap w g' _ new t _ ht)]
 rw[if_neg e];unfold rowOf;rw[setRow_other w g g' new e]
theorem frOf_setRow(w:World)(g g':Nat)(new:Array Value):frOf (w.setRow g new) g'=frOf w g':=by
 unfold frOf World.setRow;simp only[Array.getElem?_modify];by_cases e:g=g'
 ·subst e;rw[if_pos rfl]
  cases h:w.heap[g]? with
  |none=>rfl
  |some o=>cases o<;>rfl
 rw[if_neg e]
theorem rowOf_setCell(w:World)(g g' j:Nat)(v:Value):rowOf (w.setCell ⟨g,j,none⟩ v) g'=if g'=g then (rowOf w g').setIfInBounds j v else rowOf w g':=by
 unfold rowOf World.setCell;simp only[Array.getElem?_modify];by_cases e:g=g'
 ·subst e;rw[if_pos rfl,if_pos rfl]
  cases h:w.heap[g]? with
  |none=>simp
  |some o=>cases o<;>simp
 rw[if_neg e,if_neg (fun h=>e h.symm)]
theorem frOf_setCell(w:World)(a:Addr)(g':Nat)(v:Value):frOf (w.setCell a v) g'=frOf w g':=by
 unfold frOf World.setCell;simp only[Array.getElem?_modify];by_cases e:a.block=g'
 ·exact x61y
 rw[if_neg e]
theorem cell_row(h:0<(rowOf w g).size)(j:Nat):w.cell? ⟨g,j,none⟩=(rowOf w g)[j]?:=by
 obtain⟨t,ht⟩:=row_blk h;exact cell_of_row w g j _ t _ ht
theorem frozen_row(h:0<(rowOf w g).size)(hf:frOf w g=(0,0))(j:Nat):w.frozen? ⟨g,j,none⟩=false:=by
 obtain⟨t,ht⟩:=row_blk h;rw[hf]at ht;exact frozen_of_row w g j _ t ht
theorem keepB{W0 w1:World}(hb:Below W0.heap.size W0 w1){n:Nat}(hn:n=W0.heap.size):
  (∀g,g<n->rowOf w1 g=rowOf W0 g)∧(∀g,g<n->frOf w1 g=frOf W0 g)∧(∀g,g<n->¬g=w1.heap.size)∧
  (∀g j,g<n->w1.cell? ⟨g,j,none⟩=W0.cell? ⟨g,j,none⟩)∧(∀g j,g<n->w1.frozen? ⟨g,j,none⟩=W0.frozen? ⟨g,j,none⟩):=by
 subst hn;exact⟨fun g h=>rowOf_below h hb,fun g h=>frOf_below h hb,fun g h e=>by have:=hb.size;omega,fun g j h=>hb.cell (p:=⟨g,j,none⟩) h,fun g j h=>hb.frozen (p:=⟨g,j,none⟩) h⟩
theorem cell_setRow(w:World)(g g' j:Nat)(new:Array Value)(h:0<(rowOf w g).size):(w.setRow g new).cell? ⟨g',j,none⟩=if g'=g then new[j]? else w.cell? ⟨g',j,none⟩:=by
 by_cases e:g'=g
 ·subst e;obtain⟨t,ht⟩:=row_blk h;rw[if_pos rfl];exact cell_setRow_same w g' j _ new t _ ht
 rw[if_neg e];exact cell_setRow_other w g new ⟨g',j,none⟩ e
theorem frozen_setRow(w:World)(g:Nat)(a:Addr)(new:Array Value):(w.setRow g new).frozen? a=w.frozen? a:=by
 unfold World.frozen? World.setRow;simp only[Array.getElem?_modify];by_cases e:g=a.block
 ·exact x61y
 rw[if_neg e]
theorem below_row{B:Nat}{a w:World}(h:Below B a w){g:Nat}(hg:B<=g)(cs:Array Value):Below B a (w.setRow g cs):=below_setRow h hg cs
theorem keep1{W w':World}{g:Nat}{cs:Array Value}(hb:Below W.heap.size W w')(hr:rowOf W g=cs)(h0:0<cs.size)(hf:frOf W g=(0,0)):
  rowOf w' g=cs∧frOf w' g=(0,0)∧¬g=w'.heap.size∧(∀j,w'.cell? ⟨g,j,none⟩=cs[j]?)∧(∀j,w'.frozen? ⟨g,j,none⟩=false)∧g<w'.heap.size:=by
 have hlt:g<W.heap.size:=row_lt (w:=W) (by rw[hr];exact h0);have h1:rowOf w' g=cs:=(rowOf_below hlt hb).trans hr;have h2:frOf w' g=(0,0):=(frOf_below hlt hb).trans hf;exact⟨h1,h2,fun e=>by have:=hb.size;omega,fun j=>by rw[cell_row (by rw[h1];exact h0),h1],fun j=>frozen_row (by rw[h1];exact h0) h2 j,Nat.lt_of_lt_of_le hlt hb.size⟩
/-! Results that lie in cells. -/
theorem loadVar_all{ty:TypeId}{cs:Array Value}(hr:rowOf w g=cs)(hs:aggSz P ty=cs.size)(h0:0<cs.size):(loadVar ty ⟨g,0,none⟩).run P w=.ok (.agg cs) w:=by
 have:=loadVar_row (P:=P) (w:=w) (g:=g) (o:=0) (ty:=ty) (by omega) (by rw[hr];omega);rw[this,hr,hs];simp
section
variable {fn:Func} {p q u v:Tmp} {ty ty2:TypeId} {tmps:Array Value} {cs ds:Array Value} {g2:Nat}
theorem results_c(h:fn.results=#[.cell p ty])(hp:tmps.getD p undef=.pointer (some ⟨g,0,none⟩))(hr:rowOf w g=cs)(hs:aggSz P ty=cs.size)(h0:0<cs.size):
  (results fn tmps).run P w=.ok (.agg cs) w:=by
 exact x4zr
theorem results_ct(h:fn.results=#[.cell p ty,.tmp u])(hp:tmps.getD p undef=.pointer (some ⟨g,0,none⟩))(hr:rowOf w g=cs)(hs:aggSz P ty=cs.size)(h0:0<cs.size):
  (results fn tmps).run P w=.ok (.tuple #[.agg cs,tmps.getD u undef]) w:=by
 exact x4zr
theorem results_ctt(h:fn.results=#[.cell p ty,.tmp u,.tmp v])(hp:tmps.getD p undef=.pointer (some ⟨g,0,none⟩))(hr:rowOf w g=cs)(hs:aggSz P ty=cs.size)(h0:0<cs.size):
  (results fn tmps).run P w=.ok (.tuple #[.agg cs,tmps.getD u undef,tmps.getD v undef]) w:=by
 exact x4zr
theorem results_tc(h:fn.results=#[.tmp u,.cell p ty])(hp:tmps.getD p undef=.pointer (some ⟨g,0,none⟩))(hr:rowOf w g=cs)(hs:aggSz P ty=cs.size)(h0:0<cs.size):
  (results fn tmps).run P w=.ok (.tuple #[tmps.getD u undef,.agg cs]) w:=by
 exact x4zr
theorem results_tct(h:fn.results=#[.tmp u,.cell p ty,.tmp v])(hp:tmps.getD p undef=.pointer (some ⟨g,0,none⟩))(hr:rowOf w g=cs)(hs:aggSz P ty=cs.size)(h0:0<cs.size):
  (results fn tmps).run P w=.ok (.tuple #[tmps.getD u undef,.agg cs,tmps.getD v undef]) w:=by
 exact x4zr
theorem results_cct(h:fn.results=#[.cell p ty,.cell q ty2,.tmp v])(hp:tmps.getD p undef=.pointer (some ⟨g,0,none⟩))(hr:rowOf w g=cs)(hs:aggSz P ty=cs.size)(h0:0<cs.size)
  (hp2:tmps.getD q undef=.pointer (some ⟨g2,0,none⟩)) (hr2:rowOf w g2=ds) (hs2:aggSz P ty2=ds.size) (h02:0<ds.size):
  (results fn tmps).run P w=.ok (.tuple #[.agg cs,.agg ds,tmps.getD v undef]) w:=by
 have hl:=loadVar_all (P:=P) hr hs h0;have hl1:=loadVar_all (P:=P) hr2 hs2 h02;have hp':tmps[p]?.getD undef=.pointer (some ⟨g,0,none⟩):=by simpa using hp
 have hp2':tmps[q]?.getD undef=.pointer (some ⟨g2,0,none⟩):=by simpa using hp2
 simp[results,h,hp',hp2',asAddr,hl,hl1]
end
/-! As the walk meets them: the whole operation. -/
def plainPtr:Value->Bool| .pointer (some ⟨_,_,none⟩)=>true|_=>false
def blkOf:Value->Nat| .pointer (some a)=>a.block|_=>0
def offOf:Value->Nat| .pointer (some a)=>a.off|_=>0
def isAggV:Value->Bool| .agg _=>true|_=>false
theorem plainPtr_mk(g o:Nat):plainPtr (.pointer (some ⟨g,o,none⟩))=true:=by simp[plainPtr,blkOf,offOf,isAggV]
theorem blkOf_mk(g o:Nat)(s:Option Nat):blkOf (.pointer (some ⟨g,o,s⟩))=g:=by simp[plainPtr,blkOf,offOf,isAggV]
theorem offOf_mk(g o:Nat)(s:Option Nat):offOf (.pointer (some ⟨g,o,s⟩))=o:=by simp[plainPtr,blkOf,offOf,isAggV]
theorem isAggV_mk(cs:Array Value):isAggV (.agg cs)=true:=by simp[plainPtr,blkOf,offOf,isAggV]
theorem plain_form{v:Value}(h:plainPtr v=true):v=.pointer (some ⟨blkOf v,offOf v,none⟩):=by
 unfold plainPtr at h;split at h
 ·rfl
 cases h
def allOne(cs:Array Value):Bool:=cs.all (·.oneCell')
theorem exec_load_row{ev:Operand->Value}{d:Option Tmp}{ty t:TypeId}{x:Operand}{p:String}{e:Array Edge}{gd:Option (Nat×Bool)}(h1:0<aggSz P ty)(hp:plainPtr (ev x)=true)
  (h2:offOf (ev x)+aggSz P ty<=(rowOf w (blkOf (ev x))).size):
  (execOp ev ⟨d,.load ty x,t,p,e,gd⟩).run P w=.ok (.value (.agg ((rowOf w (blkOf (ev x))).extract (offOf (ev x)) (offOf (ev x)+aggSz P ty)))) w:=by
 have hl:=loadAt_row (P:=P) (w:=w) (g:=blkOf (ev x)) (o:=offOf (ev x)) h1 h2;rw[<-plain_form hp]at hl
 show (do let r <-Instr.loadAt ty (ev x);pure (Next.value r):Sem Next).run P w=_;rw[Sem.run_bind,hl];rfl
theorem exec_store_row{ev:Operand->Value}{d:Option Tmp}{ty t:TypeId}{x y:Operand}{p:String}{e:Array Edge}{gd:Option (Nat×Bool)}(h0:0<aggSz P ty)(hp:plainPtr (ev x)=true)(hy:isAggV (ev y)=true)(h1:aggSz P ty=(ev y).cells.size)
  (h2:offOf (ev x)+(ev y).cells.size<=(rowOf w (blkOf (ev x))).size) (hf:frOf w (blkOf (ev x))=(0,0)) (hc:allOne (ev y).cells=true):
  (execOp ev ⟨d,.store ty x y,t,p,e,gd⟩).run P w=.ok .skip (w.setRow (blkOf (ev x)) (splice (rowOf w (blkOf (ev x))) (offOf (ev x)) (ev y).cells)):=by
 obtain⟨cs,hcs⟩:∃cs,ev y=.agg cs:=by
  cases h:ev y<;>simp_all [isAggV]
 have hcc:(ev y).cells=cs:=by rw[hcs];rfl
 rw[hcc]at h1 h2 hc⊢;have hl:=storeAt_row (P:=P) (w:=w) (g:=blkOf (ev x)) (o:=offOf (ev x)) (ty:=ty) h1 (by omega) h2 hf hc;rw[<-plain_form hp,<-hcs]at hl
 show (do Instr.storeAt ty (ev x) (ev y);pure Next.skip:Sem Next).run P w=_;rw[Sem.run_bind,hl];rfl
end
@[go_sem] theorem lt_up2(n:Nat):(n<n+1+1)=True:=by simp<;>omega
@[go_sem] theorem lt_up3(n:Nat):(n<n+1+1+1)=True:=by simp<;>omega
@[go_sem] theorem lt_up4(n:Nat):(n<n+1+1+1+1)=True:=by simp<;>omega
@[go_sem] theorem lt_up5(n:Nat):(n<n+1+1+1+1+1)=True:=by simp<;>omega
@[go_sem] theorem lt_up6(n:Nat):(n<n+1+1+1+1+1+1)=True:=by simp<;>omega
@[go_sem] theorem lt_up7(n:Nat):(n<n+1+1+1+1+1+1+1)=True:=by simp<;>omega
@[go_sem] theorem lt_up8(n:Nat):(n<n+1+1+1+1+1+1+1+1)=True:=by simp<;>omega
@[go_sem] theorem lt_up9(n:Nat):(n<n+1+1+1+1+1+1+1+1+1)=True:=by simp<;>omega
@[go_sem] theorem lt_up10(n:Nat):(n<n+1+1+1+1+1+1+1+1+1+1)=True:=by simp<;>omega
@[go_sem] theorem lt_up11(n:Nat):(n<n+1+1+1+1+1+1+1+1+1+1+1)=True:=by simp<;>omega
@[go_sem] theorem lt_up12(n:Nat):(n<n+1+1+1+1+1+1+1+1+1+1+1+1)=True:=by simp<;>omega
@[go_sem] theorem lt_up13(n:Nat):(n<n+1+1+1+1+1+1+1+1+1+1+1+1+1)=True:=by simp<;>omega
@[go_sem] theorem lt_up14(n:Nat):(n<n+1+1+1+1+1+1+1+1+1+1+1+1+1+1)=True:=by simp<;>omega
@[go_sem] theorem lt_up15(n:Nat):(n<n+1+1+1+1+1+1+1+1+1+1+1+1+1+1+1)=True:=by simp<;>omega
@[go_sem] theorem lt_up16(n:Nat):(n<n+1+1+1+1+1+1+1+1+1+1+1+1+1+1+1+1)=True:=by simp<;>omega
@[go_sem] theorem lt_up17(n:Nat):(n<n+1+1+1+1+1+1+1+1+1+1+1+1+1+1+1+1+1)=True:=by simp<;>omega
@[go_sem] theorem lt_up18(n:Nat):(n<n+1+1+1+1+1+1+1+1+1+1+1+1+1+1+1+1+1+1)=True:=by simp<;>omega
@[go_sem] theorem lt_up19(n:Nat):(n<n+1+1+1+1+1+1+1+1+1+1+1+1+1+1+1+1+1+1+1)=True:=by simp<;>omega
@[go_sem] theorem lt_up20(n:Nat):(n<n+1+1+1+1+1+1+1+1+1+1+1+1+1+1+1+1+1+1+1+1)=True:=by simp<;>omega
@[go_sem] theorem lt_up21(n:Nat):(n<n+1+1+1+1+1+1+1+1+1+1+1+1+1+1+1+1+1+1+1+1+1)=True:=by simp<;>omega
@[go_sem] theorem lt_up22(n:Nat):(n<n+1+1+1+1+1+1+1+1+1+1+1+1+1+1+1+1+1+1+1+1+1+1)=True:=by simp<;>omega
@[go_sem] theorem lt_up23(n:Nat):(n<n+1+1+1+1+1+1+1+1+1+1+1+1+1+1+1+1+1+1+1+1+1+1+1)=True:=by simp<;>omega
@[go_sem] theorem lt_up24(n:Nat):(n<n+1+1+1+1+1+1+1+1+1+1+1+1+1+1+1+1+1+1+1+1+1+1+1+1)=True:=by simp<;>omega
@[go_sem] theorem eq_up2(n:Nat):(n=n+1+1)=False:=by simp<;>omega
@[go_sem] theorem up_eq2(n:Nat):(n+1+1=n)=False:=by simp<;>omega
@[go_sem] theorem eq_up3(n:Nat):(n=n+1+1+1)=False:=by simp<;>omega
@[go_sem] theorem up_eq3(n:Nat):(n+1+1+1=n)=False:=by simp<;>omega
@[go_sem] theorem eq_up4(n:Nat):(n=n+1+1+1+1)=False:=by simp<;>omega
@[go_sem] theorem up_eq4(n:Nat):(n+1+1+1+1=n)=False:=by simp<;>omega
@[go_sem] theorem up_eq5(n:Nat):(n+1+1+1+1+1=n)=False:=by simp<;>omega
@[go_sem] theorem up_eq6(n:Nat):(n+1+1+1+1+1+1=n)=False:=by simp<;>omega
@[go_sem] theorem up_eq8(n:Nat):(n+1+1+1+1+1+1+1+1=n)=False:=by simp<;>omega
@[go_sem] theorem up_eq9(n:Nat):(n+1+1+1+1+1+1+1+1+1=n)=False:=by simp<;>omega
@[go_sem] theorem up_eq11(n:Nat):(n+1+1+1+1+1+1+1+1+1+1+1=n)=False:=by simp<;>omega
@[go_sem] theorem up_eq24(n:Nat):(n+1+1+1+1+1+1+1+1+1+1+1+1+1+1+1+1+1+1+1+1+1+1+1+1=n)=False:=by simp<;>omega
def runBuild(P:Program)(T:TypeId)(parts:Array (Nat×Value))(w:World):Result Value:=(Instr.build T parts).run P w
def bigBuild(P:Program)(T:TypeId)(n:Nat):Prop:=∃i,P.info? T=some i∧0<n
theorem exec_build{P:Program}{ev:Operand->Value}{d:Option Tmp}{T t:TypeId}{parts:Array (Nat×Operand)}{p:String}{e:Array Edge}{gd:Option (Nat×Bool)}{w:World}(h:bigBuild P T parts.size):
  (execOp ev ⟨d,.build T parts,t,p,e,gd⟩).run P w=(runBuild P T (parts.map fun (i,x)=>(i,ev x)) w).andThen fun v w'=>.ok (.value v) w':=by
 show (do let r <-Instr.build T (parts.map fun (i,x)=>(i,ev x));pure (Next.value r):Sem Next).run P w=_;rw[Sem.run_bind];rfl
attribute [go_sem ↓] exec_build
attribute [go_sem] cell_setRow frozen_setRow
attribute [go_sem] plainPtr_mk blkOf_mk offOf_mk isAggV_mk rowOf_alloc frOf_alloc rowOf_drew rowOf_drewN frOf_drew frOf_drewN rowOf_setCell frOf_setCell rowOf_setRow frOf_setRow setRow_alloc splice_all
attribute [go_sem ↓] exec_load_row exec_store_row
theorem cN(i:Nat)(t:Tmp){ds:List (Option Tmp)}{vs:List Value}{a0:Act}{w0:World}{done:Nat->Bool}{a:Act}{w:World}{W:List Nat}{v:Value}(h:ChSt ds vs a0 w0 done a w)(hw:∀d∈W,done d=true)(hm:i∈W:=by decide)(hd:ds[i]?=some (some t):=by exact rfl)(hv:vs[i]?=some v:=by exact rfl):a.tmps[t]?=some v:=ch_new h (hw i hm) hd hv
theorem cO(t:Tmp)(v:Value){ds:List (Option Tmp)}{vs:List Value}{a0:Act}{w0:World}{done:Nat->Bool}{a:Act}{w:World}(h:ChSt ds vs a0 w0 done a w)(hd:ds.contains (some t)=false:=by exact rfl)(hv:a0.tmps[t]?=some v:=by exact rfl):a.tmps[t]?=some v:=ch_old h hd hv
theorem mN(i:Nat)(t:Tmp){ds:List (Option Tmp)}{ks:List (Option Nat)}{vs:List Value}{a0:Act}{done:Nat->Bool}{cv:Nat->Value}{k:Nat}{a:Act}{W:List Nat}{v:Value}(h:MixSt ds ks vs a0 done cv k a)(hw:∀d∈W,done d=true)(hm:i∈W:=by decide)(hd:ds[i]?=some (some t):=by exact rfl)(hk:ks[i]?=some none:=by exact rfl)(hv:vs[i]?=some v:=by exact rfl):a.tmps[t]?=some v:=mx_new h (hw i hm) hd hk hv
theorem mO(t:Tmp)(v:Value){ds:List (Option Tmp)}{ks:List (Option Nat)}{vs:List Value}{a0:Act}{done:Nat->Bool}{cv:Nat->Value}{k:Nat}{a:Act}(h:MixSt ds ks vs a0 done cv k a)(hd:ds.contains (some t)=false:=by exact rfl)(hv:a0.tmps[t]?=some v:=by exact rfl):a.tmps[t]?=some v:=mx_old h hd hv
theorem fN(i:Nat)(t:Tmp){ds:List (Option Tmp)}{es:List Bool}{vs:List Value}{a0:Act}{done:Nat->Bool}{cv:Nat->Value}{a:Act}{W:List Nat}{v:Value}(h:FreeSt ds es vs a0 done cv a)(hw:∀d∈W,done d=true)(hm:i∈W:=by decide)(hd:ds[i]?=some (some t):=by exact rfl)(hk:es.getD i false=false:=by exact rfl)(hv:vs[i]?=some v:=by exact rfl):a.tmps[t]?=some v:=fr_new h (hw i hm) hd hk hv
theorem fO(t:Tmp)(v:Value){ds:List (Option Tmp)}{es:List Bool}{vs:List Value}{a0:Act}{done:Nat->Bool}{cv:Nat->Value}{a:Act}(h:FreeSt ds es vs a0 done cv a)(hd:ds.contains (some t)=false:=by exact rfl)(hv:a0.tmps[t]?=some v:=by exact rfl):a.tmps[t]?=some v:=fr_old h hd hv
theorem kp{W w':World}(g:Nat)(cs:Array Value)(hb:Below W.heap.size W w')(hr:rowOf W g=cs:=by first|(go_simp;done)|(go_simp;rfl))(h0:0<cs.size:=by go_simp)(hf:frOf W g=(0,0):=by go_simp):
    rowOf w' g=cs∧frOf w' g=(0,0)∧¬g=w'.heap.size∧(∀j,w'.cell? ⟨g,j,none⟩=cs[j]?)∧(∀j,w'.frozen? ⟨g,j,none⟩=false)∧g<w'.heap.size:=keep1 hb hr h0 hf
theorem bR{B:Nat}{a w:World}(h:Below B a w){g:Nat}(cs:Array Value)(hg:B<=g:=by first|omega|(simp<;>omega)):Below B a (w.setRow g cs):=below_row h hg cs
theorem bA{B:Nat}{a w:World}(h:Below B a w)(o:Obj)(hB:B<=w.heap.size:=by first|omega|(simp<;>omega)):Below B a (w.alloc o):=h.alloc hB o
theorem bC{B:Nat}{a w:World}(h:Below B a w){p:Addr}(u:Value)(hp:B<=p.block:=by first|omega|(simp<;>omega)):Below B a (w.setCell p u):=h.setCell hp u
theorem hA{p:Prop}(h:Hid p:=by assumption):p:=h.out
theorem rC{P:Program}{w:World}{g:Nat}{fn:Func}{p u:Tmp}{ty:TypeId}{tmps:Array Value}(cs:Array Value)(h:fn.results=#[.cell p ty,.tmp u]:=by exact rfl)(hp:tmps.getD p undef=.pointer (some ⟨g,0,none⟩):=by exact rfl)(hr:rowOf w g=cs:=by go_simp)(hs:aggSz P ty=cs.size:=by go_simp)(h0:0<cs.size:=by go_simp):(results fn tmps).run P w=.ok (.tuple #[.agg cs,tmps.getD u undef]) w:=results_ct h hp hr hs h0
theorem bT{a b c:World}(H:Hid (Below a.heap.size a b))(h:Below b.heap.size b c):Hid (Below a.heap.size a c):=Lib.hid (H.out.trans (h.mono H.out.size))
theorem kr{V W w':World}{g:Nat}{cs:Array Value}(_:rowOf V g=cs∧frOf V g=(0,0)∧¬g=V.heap.size∧(∀j,V.cell? ⟨g,j,none⟩=cs[j]?)∧(∀j,V.frozen? ⟨g,j,none⟩=false)∧g<V.heap.size)(hb:Below W.heap.size W w')(hr:rowOf W g=cs:=by first|(go_simp;done)|(go_simp;rfl))(h0:0<cs.size:=by go_simp)(hf:frOf W g=(0,0):=by go_simp):
    rowOf w' g=cs∧frOf w' g=(0,0)∧¬g=w'.heap.size∧(∀j,w'.cell? ⟨g,j,none⟩=cs[j]?)∧(∀j,w'.frozen? ⟨g,j,none⟩=false)∧g<w'.heap.size:=keep1 hb hr h0 hf
theorem bU{a b b' c:World}(H:Hid (Below a.heap.size a b))(h:Below b'.heap.size b' c)(k:a.heap.size<=b.heap.size->Below a.heap.size a b->Below a.heap.size a b':=by intro hs hB;repeat (first|exact hB|refine bR ?_ _|refine bC ?_ _|refine bA ?_ _)):Hid (Below a.heap.size a c):=qH ((k H.out.size H.out).trans (h.mono (k H.out.size H.out).size))
theorem bZ{a b b':World}(H:Hid (Below a.heap.size a b))(k:a.heap.size<=b.heap.size->Below a.heap.size a b->Below a.heap.size a b':=by intro hs hB;repeat (first|exact hB|refine bR ?_ _|refine bC ?_ _|refine bA ?_ _)):Below a.heap.size a b':=k H.out.size H.out
theorem kq{W w':World}{g:Nat}{cs:Array Value}(hb:Below W.heap.size W w')(hr:Hid (rowOf W g=cs))(hf:Hid (frOf W g=(0,0)))(h0:0<cs.size:=by go_simp):
    rowOf w' g=cs∧frOf w' g=(0,0)∧¬g=w'.heap.size∧(∀j,w'.cell? ⟨g,j,none⟩=cs[j]?)∧(∀j,w'.frozen? ⟨g,j,none⟩=false)∧g<w'.heap.size:=keep1 hb hr.out h0 hf.out
theorem bW(w:World):Below w.heap.size w w:=Below.refl _ _
theorem bL{w:World}(o:Obj):Below w.heap.size w (w.alloc o):=(Below.refl _ _).alloc (Nat.le_refl _) o
theorem nl{n:Nat}:n<=n:=Nat.le_refl n
theorem eX{α:Sort _}(a:α):∃x,a=x:=⟨a,rfl⟩
theorem nW(b a:Nat){l:List Oper}{done:Nat->Bool}(hcl:ClosedB l done)(n:done a=false){o:Oper}(ho:l[b]?=some o:=by exact rfl)(ha:a∈waitsO o:=by decide):done b=false:=Bool.eq_false_iff.2 (fun e=>by have:=hcl b o ho e a ha;rw[n]at this;cases this)
end Go.Proofs.YtefkfglkpebbmacGreat
