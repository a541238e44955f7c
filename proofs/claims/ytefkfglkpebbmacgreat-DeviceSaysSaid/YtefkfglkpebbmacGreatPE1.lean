/- Walks of functions, and plain words. No conditions. -/
import Derived.Test.YtefkfglkpebbmacGreatP0
import Derived.Maps.AppendAt
import Derived.Deep.AppendLies
import Derived.Deep.OwnRows
import Derived.Deep.Onto
import Derived.Lib.AppendZerosOnto
set_option linter.unusedVariables false
set_option linter.unusedSimpArgs false
set_option maxRecDepth 100000
set_option maxHeartbeats 40000000
namespace Go.Proofs.YtefkfglkpebbmacGreat
open Go.RowKit
variable {Y:Prop}
variable {w w':World} {l:List Stp} {i base g:Nat} {t e T:TypeId} {p:Pat} {size old:Int} {xs:List Value} {a:Act} {Q:Exit->Act->World->Prop} {K:Act->World->Prop} {B:OA} {v:Value} {o:Stp} {P:World->Prop}
section
open Go.RowKit Go.WideShapes Go.ChangeShapes Go.ChangeAt
theorem x3rf(h:Y:=by
 rintro e w1 ⟨rfl,hb1⟩;go_wp2_with fail;go_ret;exact⟨rfl,hb1⟩):Y:=h
theorem x4jq(h:Y:=by
 go_wp2_with fail;go_ret;exact⟨ret_bool HZ.out,HB.out⟩):Y:=h
theorem x6ww(h:Y:=by
 by_cases hxy:x=y
 ·have hd:decide (x=y)=true:=by simp[hxy]
  have HY:=qH (HX.out hxy);clear hxy HX HN;go_wp2_with fail;go_roundw
  case rel=>exact⟨k+1,by omega,by go_num,HY,HB1⟩
  case measure=>simp[intOf]<;>omega
 have hd:decide (x=y)=false:=by simp[hxy]
 have HY:=qH (HN.out hxy);clear hxy HX HN;go_wp2_with fail;go_ret;exact⟨ret_bool (by rw[decide_eq_false HY.out]),HB1.out⟩):Y:=h
theorem x99v(h:Y:=by
 go_wp2_with fail;go_ret;refine⟨ret_bool ?_,HB.out⟩;have h:=HT.out;rw[List.take_of_length_le (by omega),List.take_of_length_le (by omega)]at h;rw[decide_eq_true h]):Y:=h
def I64(n:Int):Prop:= -9223372036854775808<=n∧n<=9223372036854775807
def rOp:CR Stp:=fun w cs o=>∃B c,cs=[iv o.at_,iv o.len,.slice B o.data.length c]∧o.data.length<=c∧o.data.length<=140737488351232∧Bts w B o.data∧I64 o.at_∧I64 o.len
theorem stays_op:Stays rOp:=by
 rintro w w' cs o ⟨B,c,rfl,h1,h2,h3,h4,h5⟩ hb;exact⟨B,c,rfl,h1,h2,h3.stays hb,h4,h5⟩
abbrev Sps (w:World) (A:OA) (l:List Stp):Prop:=Elems 3 rOp w A l
theorem Sps.stays{A:OA}(h:Sps w A l)(hb:Below w.heap.size w w'):Sps w' A l:=Elems.stays stays_op h hb
theorem Sps.nil(w:World)(A:OA):Sps w A []:=fun i hi=>absurd hi (by simp)
theorem Sps.at_{A:OA}(h:Sps w A l)(hi:i<l.length):∃b o B c,A=some ⟨b,o,none⟩∧b<w.heap.size∧
  w.cell? ⟨b,o+i*3,none⟩=some (iv l[i].at_)∧w.cell? ⟨b,o+i*3+1,none⟩=some (iv l[i].len)∧w.cell? ⟨b,o+i*3+2,none⟩=some (.slice B l[i].data.length c)∧
  l[i].data.length<=c∧l[i].data.length<=140737488351232∧Bts w B l[i].data∧I64 l[i].at_∧I64 l[i].len:=by
 obtain⟨b,o,rfl,hlt,cs,hl,hc,B,c,rfl,h1,h2,h3,h4,h5⟩:=h i hi;exact⟨b,o,B,c,rfl,hlt,hc 0 (by simp),hc 1 (by simp),hc 2 (by simp),h1,h2,h3,h4,h5⟩
section
variable {H:Type} {enc:TypeId×Value->H} {P:Program} {w:World} {sp:Nat->Bool} {held:Bool}
theorem bts_rSlice{cs:List Value}{l:LU}(h:rSlice 1 rByte w cs l):∃B c,cs=[.slice B l.length c]∧l.length<=c∧l.length<=140737488351232∧Bts w B l:=by
 obtain⟨A,c,rfl,h1,h2,h3⟩:=h;exact⟨A,c,rfl,h1,h2,h3.bts⟩
theorem readBy_op{f0 f1 f2:Field}(ht:P.underlying t=some (.struct #[f0,f1,f2]))(hs:P.cellsOf t=3)
  (o0:f0.offset=0) (o1:f1.offset=1) (o2:f2.offset=2) (k0:P.cellsOf f0.type=1) (k1:P.cellsOf f1.type=1) (k2:P.cellsOf f2.type=1)
  (t0:P.underlying f0.type=some (.int .i64)) (t1:P.underlying f1.type=some (.int .i64)) (t2:P.underlying f2.type=some (.slice e)) (he:P.underlying e=some (.int .u8)) (hes:P.cellsOf e=1):ReadBy enc P w sp held t rOp:=by
 intro fuel cs d ps h hb;obtain⟨hl,hf⟩:=field_of ht h hb;obtain⟨a,ha⟩:=hf 0 f0 rfl (readBy_int t0);obtain⟨b,hb⟩:=hf 1 f1 rfl (readBy_int t1);obtain⟨c,hc⟩:=hf 2 f2 rfl (readBy_slice t2 hes (by omega) (readBy_byte he));rw[hs]at hl
 match cs,hl with
 |[x,y,z],_=>
  rw[o0,k0]at ha;rw[o1,k1]at hb;rw[o2,k2]at hc;obtain⟨ha,ha'⟩:=ha;obtain⟨hb,hb'⟩:=hb;obtain⟨B,n,hz,h1,h2,h3⟩:=bts_rSlice hc;simp at ha hb hz;subst ha hb hz;exact⟨⟨a,b,c⟩,B,n,rfl,h1,h2,h3,ha',hb'⟩
end
theorem reads_op{H:Type}{enc:TypeId×Value->H}{sp:Nat->Bool}{held:Bool}:ReadBy enc Tryz.prog w sp held 121 rOp:=
 readBy_op Tryz.underlying121 (by kernel_rfl) rfl rfl rfl (by kernel_rfl) (by kernel_rfl) (by kernel_rfl) Tryz.underlying3 Tryz.underlying3 Tryz.underlying22 Tryz.underlying5 (by kernel_rfl)
end
section
open Go.RowKit Go.WideShapes Go.ChangeShapes Go.ChangeAt
theorem x0rc(h:Y:=by
 repeat (first|exact Below.refl _ _|refine bA ?_ _)):Y:=h
abbrev patC (p:Pat) (A:OA) (c:Nat):List Value:=[iv p.from_,iv p.to_,iv p.old,iv p.new_,iv p.size,.slice A p.ops.length c]
structure PatIn(w:World)(p:Pat)(A:OA)(c:Nat):Prop where
 cap:p.ops.length<=c
 len:p.ops.length<=3518437208780
 ops:Sps w A p.ops
 i0:I64 p.from_
 i1:I64 p.to_
 i2:I64 p.old
 i3:I64 p.new_
 i4:I64 p.size
theorem PatIn.stays{A:OA}{c:Nat}(h:PatIn w p A c)(hb:Below w.heap.size w w'):PatIn w' p A c:=
 ⟨h.cap,h.len,h.ops.stays hb,h.i0,h.i1,h.i2,h.i3,h.i4⟩
def rPat:CR Pat:=fun w cs p=>∃A c,cs=patC p A c∧PatIn w p A c
abbrev chkC (x:Chk) (A:OA) (c:Nat):List Value:=[iv x.from_,iv x.to_,iv x.n,iv x.of_,.slice A x.data.length c]
structure ChkIn(w:World)(x:Chk)(A:OA)(c:Nat):Prop where
 cap:x.data.length<=c
 len:x.data.length<=140737488351232
 data:Bts w A x.data
 i0:I64 x.from_
 i1:I64 x.to_
 i2:I64 x.n
 i3:I64 x.of_
theorem ChkIn.stays{x:Chk}{A:OA}{c:Nat}(h:ChkIn w x A c)(hb:Below w.heap.size w w'):ChkIn w' x A c:=
 ⟨h.cap,h.len,h.data.stays hb,h.i0,h.i1,h.i2,h.i3⟩
def rChk:CR Chk:=fun w cs x=>∃A c,cs=chkC x A c∧ChkIn w x A c
theorem stays_chk:Stays rChk:=by
 rintro w w' cs p ⟨A,c,rfl,h⟩ hb;exact⟨A,c,rfl,h.stays hb⟩
abbrev Chs (w:World) (A:OA) (l:List Chk):Prop:=Elems 5 rChk w A l
theorem Chs.stays{A:OA}{l:List Chk}(h:Chs w A l)(hb:Below w.heap.size w w'):Chs w' A l:=Elems.stays stays_chk h hb
theorem Chs.nil(w:World)(A:OA):Chs w A []:=fun i hi=>absurd hi (by simp)
theorem Chs.at_{A:OA}{l:List Chk}(h:Chs w A l)(hi:i<l.length):∃b o B c,A=some ⟨b,o,none⟩∧b<w.heap.size∧
  w.cell? ⟨b,o+i*5,none⟩=some (iv l[i].from_)∧w.cell? ⟨b,o+i*5+1,none⟩=some (iv l[i].to_)∧w.cell? ⟨b,o+i*5+2,none⟩=some (iv l[i].n)∧w.cell? ⟨b,o+i*5+3,none⟩=some (iv l[i].of_)∧
  w.cell? ⟨b,o+i*5+4,none⟩=some (.slice B l[i].data.length c)∧ChkIn w l[i] B c:=by
 obtain⟨b,o,rfl,hlt,cs,hl,hc,B,c,rfl,h1⟩:=h i hi;exact⟨b,o,B,c,rfl,hlt,hc 0 (by simp),hc 1 (by simp),hc 2 (by simp),hc 3 (by simp),hc 4 (by simp),h1⟩
section
variable {H:Type} {enc:TypeId×Value->H} {P:Program} {w:World} {sp:Nat->Bool} {held:Bool}
theorem readBy_pat{f0 f1 f2 f3 f4 f5:Field}(ht:P.underlying t=some (.struct #[f0,f1,f2,f3,f4,f5]))(hs:P.cellsOf t=6)
  (o0:f0.offset=0) (o1:f1.offset=1) (o2:f2.offset=2) (o3:f3.offset=3) (o4:f4.offset=4) (o5:f5.offset=5)
  (k0:P.cellsOf f0.type=1) (k1:P.cellsOf f1.type=1) (k2:P.cellsOf f2.type=1) (k3:P.cellsOf f3.type=1) (k4:P.cellsOf f4.type=1) (k5:P.cellsOf f5.type=1)
  (t0:P.underlying f0.type=some (.int .i64)) (t1:P.underlying f1.type=some (.int .i64)) (t2:P.underlying f2.type=some (.int .i64)) (t3:P.underlying f3.type=some (.int .i64)) (t4:P.underlying f4.type=some (.int .i64))
  (t5:P.underlying f5.type=some (.slice e)) (he:P.cellsOf e=3) (hB:P.bytesOf e=40) (hR:ReadBy enc P w sp held e rOp):ReadBy enc P w sp held t rPat:=by
 intro fuel cs d ps h hb;obtain⟨hl,hf⟩:=field_of ht h hb;obtain⟨a6,h6⟩:=hf 0 f0 rfl (readBy_int t0);obtain⟨a1,h1⟩:=hf 1 f1 rfl (readBy_int t1);obtain⟨a2,h2⟩:=hf 2 f2 rfl (readBy_int t2);obtain⟨a3,h3⟩:=hf 3 f3 rfl (readBy_int t3);obtain⟨a4,h4⟩:=hf 4 f4 rfl (readBy_int t4);obtain⟨a5,h5⟩:=hf 5 f5 rfl (readBy_sliceM (M:=3518437208780) t5 he (by omega) hR (fun n _ h=>by rw[hB]at h;omega));rw[hs]at hl;rw[o0,k0]at h6;rw[o1,k1]at h1;rw[o2,k2]at h2;rw[o3,k3]at h3;rw[o4,k4]at h4;rw[o5,k5]at h5
 match cs,hl with
 |[c0,c1,c2,c3,c4,c5],_=>
  obtain⟨h6,g0⟩:=h6;obtain⟨h1,g1⟩:=h1;obtain⟨h2,g2⟩:=h2;obtain⟨h3,g3⟩:=h3;obtain⟨h4,g4⟩:=h4;obtain⟨A,c,h5,g5,g6,g7⟩:=h5;simp at h6 h1 h2 h3 h4 h5;subst h6 h1 h2 h3 h4 h5;exact⟨⟨a6,a1,a2,a3,a4,a5⟩,A,c,rfl,g5,g6,g7,g0,g1,g2,g3,g4⟩
theorem readBy_chk{f0 f1 f2 f3 f4:Field}(ht:P.underlying t=some (.struct #[f0,f1,f2,f3,f4]))(hs:P.cellsOf t=5)
  (o0:f0.offset=0) (o1:f1.offset=1) (o2:f2.offset=2) (o3:f3.offset=3) (o4:f4.offset=4)
  (k0:P.cellsOf f0.type=1) (k1:P.cellsOf f1.type=1) (k2:P.cellsOf f2.type=1) (k3:P.cellsOf f3.type=1) (k4:P.cellsOf f4.type=1)
  (t0:P.underlying f0.type=some (.int .i64)) (t1:P.underlying f1.type=some (.int .i64)) (t2:P.underlying f2.type=some (.int .i64)) (t3:P.underlying f3.type=some (.int .i64))
  (t4:P.underlying f4.type=some (.slice e)) (te:P.underlying e=some (.int .u8)) (he:P.cellsOf e=1):ReadBy enc P w sp held t rChk:=by
 intro fuel cs d ps h hb;obtain⟨hl,hf⟩:=field_of ht h hb;obtain⟨a5,h5⟩:=hf 0 f0 rfl (readBy_int t0);obtain⟨a1,h1⟩:=hf 1 f1 rfl (readBy_int t1);obtain⟨a2,h2⟩:=hf 2 f2 rfl (readBy_int t2);obtain⟨a3,h3⟩:=hf 3 f3 rfl (readBy_int t3);obtain⟨a4,h4⟩:=hf 4 f4 rfl (readBy_slice t4 he (by omega) (readBy_byte te));rw[hs]at hl;rw[o0,k0]at h5;rw[o1,k1]at h1;rw[o2,k2]at h2;rw[o3,k3]at h3;rw[o4,k4]at h4
 match cs,hl with
 |[c0,c1,c2,c3,c4],_=>
  obtain⟨h5,g0⟩:=h5;obtain⟨h1,g1⟩:=h1;obtain⟨h2,g2⟩:=h2;obtain⟨h3,g3⟩:=h3;obtain⟨A,c,q4,g5,g6,g7⟩:=bts_rSlice h4;simp at h5 h1 h2 h3 q4;subst h5 h1 h2 h3 q4;exact⟨⟨a5,a1,a2,a3,a4⟩,A,c,rfl,g5,g6,g7,g0,g1,g2,g3⟩
end
def ArgChk(W:World)(v:Value)(x:Chk):Prop:=∃A c,v=.agg (chkC x A c).toArray∧ChkIn W x A c
end
theorem x4d9(h:Y:=by
 go_wp2
 go_ret;exact⟨none,0,rfl,Own.nil_ _ _ _ _,Below.refl _ _⟩):Y:=h
theorem x5fs(h:Y:=by
 rcases Nat.eq_zero_or_pos cs.length with h|h
 ·exact h
 obtain⟨b,o,h,_⟩:=hr 0 h
 cases h):Y:=h
theorem x6v2(h:Y:=by
 go_ret;simp only[Nat.zero_add,List.nil_append]at hown;exact⟨_,_,rfl,hown,((Below.refl _ _).alloc (Nat.le_refl _) _).trans hb⟩):Y:=h
theorem x72e(h:Y:=by
 intro i hi;obtain⟨b,o,hA,hs,hc⟩:=h i (by simpa using hi);exact⟨b,o,hA,hs,by simpa using hc⟩):Y:=h
def Src(w:World)(A:OA)(cs:List Value):Prop:=
 ∀i,(h:i<cs.length)->∃b o,A=some ⟨b,o,none⟩∧b<w.heap.size∧w.cell? ⟨b,o+i,none⟩=some cs[i]
theorem Src.nil(w:World)(A:OA):Src w A []:=fun i hi=>absurd hi (by simp)
theorem Src.stays{A:OA}{l:List Value}(h:Src w A l)(hb:Below w.heap.size w w'):Src w' A l:=by
 exact x71y
theorem Bts.src{A:OA}{l:LU}(h:Bts w A l):Src w A (l.map bv):=by
 exact x72e
theorem Src.bts{A:OA}{l:LU}(h:Src w A (l.map bv)):Bts w A l:=by
 exact x72e
def Own(w:World)(base:Nat)(e:TypeId)(size:Nat)(A:OA)(n c:Nat)(xs:List Value):Prop:=w.ownsRow base e size (.slice A n c) n xs
section
variable {w w':World} {base:Nat} {e:TypeId} {size:Nat} {A:OA} {n c:Nat} {xs:List Value}
theorem Own.nil_(w:World)(base:Nat)(e:TypeId)(size:Nat):Own w base e size none 0 0 []:=⟨by simp,Or.inl ⟨rfl,rfl⟩⟩
theorem Own.len(h:Own w base e size A n c xs):xs.length=n*size:=h.1
theorem Own.src(h:Own w base e size A n c xs):Src w A xs:=by
 obtain⟨hl,⟨hv,h1⟩|⟨g,cap,cur,hv,hb,hh,_,_,hsz,ht⟩⟩:=h
 ·subst h1;have:xs=[]:=List.eq_nil_of_length_eq_zero (by simpa using hl);subst this;exact Src.nil _ _
 intro i hi;injection hv with hA _ _;refine⟨g,0,hA,blk_lt hh,?_⟩;rw[Nat.zero_add,cell_of_row _ _ _ _ _ _ hh];subst ht;simp only[List.length_take]at hi;simp only[List.getElem_take,Array.getElem_toList];exact Array.getElem?_eq_getElem (by simp at hi;omega)
theorem Own.le(h:Own w base e size A n c xs):n<=c:=by
 obtain⟨hl,⟨hv,h1⟩|⟨g,cap,cur,hv,hb,hh,hn,_,hsz,ht⟩⟩:=h
 ·omega
 injection hv;omega
theorem Own.block(h:Own w base e size A n c xs):∀k,A.map (·.block)=some k->base<=k∧k<w.heap.size:=by
 intro k hk;refine World.ownsRow.lt h k ?_
 cases A<;>simp_all [Value.ownBlock]
theorem own_block(A:OA)(n c:Nat):(Value.slice A n c).ownBlock=A.map (·.block):=by cases A<;>rfl
theorem Own.kept{row:Option Nat}(h:Own w base e size A n c xs)(hg:w.grownBy w' row)(hne:A.map (·.block)=none∨A.map (·.block)≠row):Own w' base e size A n c xs:=
 World.ownsRow.kept h hg (by rw[own_block];exact hne)
theorem Own.alloc(h:Own w base e size A n c xs)(o:Obj):Own (w.alloc o) base e size A n c xs:=World.ownsRow.alloc h o
theorem Own.drewN(h:Own w base e size A n c xs)(k:Nat):Own (w.drewN k) base e size A n c xs:=h
theorem Own.drew(h:Own w base e size A n c xs):Own w.drew base e size A n c xs:=h
theorem Own.mono{base':Nat}(h:Own w base e size A n c xs)(hb:base'<=base):Own w base' e size A n c xs:=World.ownsRow.mono h hb
theorem Own.below(h:Own w base e size A n c xs)(hb:Below w.heap.size w w'):Own w' base e size A n c xs:=by
 refine Own.kept (row:=none) h ⟨hb.os,hb.tape,hb.output,hb.size,fun k hk _=>hb.block k hk⟩ ?_
 cases A<;>simp
theorem Own.setCell_other(h:Own w base e size A n c xs){p:Addr}(hp:A.map (·.block)≠some p.block)(u:Value):Own (w.setCell p u) base e size A n c xs:=by
 obtain⟨h1,h2⟩:=h;refine⟨h1,?_⟩;rcases h2 with h2|⟨g,cap,cur,hv,hg,hh,r⟩
 ·exact Or.inl h2
 refine Or.inr ⟨g,cap,cur,hv,hg,?_,r⟩;injection hv with hA _ _;rw[Below.heap_setCell _ _ _ _ (by rintro rfl;exact hp (by rw[hA];rfl))];exact hh
end
section
variable {w:World} {base:Nat} {e:TypeId} {size g n c:Nat} {A:OA} {xs:List Value}
theorem Own.form(h:Own w base e size A n c xs)(hn:0<n):∃g,A=some ⟨g,0,none⟩∧base<=g∧g<w.heap.size:=by
 rcases h.2 with ⟨_,h0⟩|⟨g,cap,cur,hv,hb,hh,_⟩
 ·omega
 injection hv with hA _ _;exact⟨g,hA,hb,blk_lt hh⟩
theorem Own.cellAt(h:Own w base e size (some ⟨g,0,none⟩) n c xs)(j:Nat)(hj:j<n*size):w.cell? ⟨g,j,none⟩=xs[j]?:=World.ownsRow.cellAt h j hj
theorem Own.frozenAt(h:Own w base e size (some ⟨g,0,none⟩) n c xs)(j:Nat):w.frozen? ⟨g,j,none⟩=false:=World.ownsRow.frozenAt h j
theorem Own.stored(h:Own w base e size (some ⟨g,0,none⟩) n c xs)(j:Nat)(u:Value):Own (w.setCell ⟨g,j,none⟩ u) base e size (some ⟨g,0,none⟩) n c (xs.set j u):=(World.ownsRow.stored h j u).1
end
theorem own_zero(w:World)(e size:Nat):Own (w.alloc (.cells #[] e)) w.heap.size e size (some ⟨w.heap.size,0,none⟩) 0 0 []:=
 ⟨by simp,Or.inr ⟨_,0,#[],rfl,Nat.le_refl _,blk_top rfl,by omega,by unfold maxLen;omega,by simp,by simp⟩⟩
structure El(P:Program)(t e:TypeId)(size:Nat)(L:Nat:=137438953472):Prop where
 ht:P.underlying t=some (.slice e)
 hi:∃i z,P.info? e=some i∧i.zero=some z∧i.size=size∧(i.bytes*L<=140737488355328∧L<=140737488355328)∧z.cells.size=size
 pos:0<size
section
variable {P:Program} (w:World)
theorem run_app{ty:TypeId}{size L:Nat}(E:El P t e size L){A:OA}{n c:Nat}(hown:Own w base e size A n c xs)
  {B:OA} {m d:Nat} {news:List Value} (hs:Src w B news) (hl:news.length=m*size) (h1:∀u∈news,u.oneCell'=true) (hb:n+m<=L) (hbase:base<=w.heap.size):
  ∃A' c' w',(Builtin.append_ #[t,t] ty #[.slice A n c,.slice B m d]).run P w=.ok (.slice A' (n+m) c') w'∧Own w' base e size A' (n+m) c' (xs++news)∧
   w.grownBy w' (A.map (·.block))∧Below base w w'∧(A'.map (·.block)=A.map (·.block)∨A'.map (·.block)=some w.heap.size):=by
 obtain⟨ht,⟨i,z,hi,hz,hsize,hby,hzs⟩,hsz⟩:=E;have fin:∀v' w',(Builtin.append_ #[t,t] ty #[.slice A n c,.slice B m d]).run P w=.ok v' w'->w'.ownsRow base e size v' (n+m) (xs++news)->w.grownBy w' (A.map (·.block))->
   (v'.ownBlock=A.map (·.block)∨v'.ownBlock=some w.heap.size)->
   ∃A' c' w',(Builtin.append_ #[t,t] ty #[.slice A n c,.slice B m d]).run P w=.ok (.slice A' (n+m) c') w'∧Own w' base e size A' (n+m) c' (xs++news)∧
   w.grownBy w' (A.map (·.block))∧Below base w w'∧(A'.map (·.block)=A.map (·.block)∨A'.map (·.block)=some w.heap.size):=by
  intro v' w' hr ho hg hbl;have hbel:Below base w w':=(Below.refl base w).grown hg hbase (fun k hk=>(hown.block k hk).1);obtain⟨hl',⟨hv,h1⟩|⟨g,cap,cur,hv,hrest⟩⟩:=ho
  ·subst hv;refine⟨none,0,w',by rw[h1];exact hr,⟨hl',Or.inl ⟨by rw[h1],h1⟩⟩,hg,hbel,by simpa[Value.ownBlock]using hbl⟩
  subst hv;exact⟨_,_,w',hr,⟨hl',Or.inr ⟨g,cap,cur,rfl,hrest⟩⟩,hg,hbel,by simpa[Value.ownBlock]using hbl⟩
 by_cases hB:∃ad,B=some ad∧∀j u,news[j]?=some u->w.cell? (ad.add j)=some u
 ·obtain⟨ad,rfl,hc⟩:=hB;have hbytes:(n+m)*i.bytes<=140737488355328:=by
   exact Nat.le_trans (Nat.mul_le_mul_right _ hb) (by rw[Nat.mul_comm];exact hby.1)
  obtain⟨v',w',hrun,h1,h3,_,h4⟩:=run_append_own_at (P:=P) w base t ty e i z size i.bytes ht hi hz hsize rfl hzs hsz (.slice A n c) n xs hown ad m d news hl hc h1 (by have:=hby.2;simp only[maxLen];omega) hbytes hbase;rw[own_block]at h3 h4;exact fin v' w' hrun h1 h3 h4
 have hm:news=[]:=by
  rcases news with _|⟨u,r⟩
  ·rfl
  exfalso;obtain⟨b,o,rfl,_,_⟩:=hs 0 (by simp);refine hB ⟨_,rfl,fun j u hu=>?_⟩;obtain⟨hj,rfl⟩:=List.getElem?_eq_some_iff.1 hu;obtain⟨b',o',he,_,hc⟩:=hs j hj;injection he with he;injection he with h1 h2;subst h1 h2;have:(⟨b,o,none⟩:Addr).add j=⟨b,o+j,none⟩:=by unfold Addr.add;split<;>simp_all
  rw[this];exact hc
 subst hm;have hm1:m=0:=by
  rcases Nat.eq_zero_or_pos m with h|h
  ·exact h
  have:=Nat.mul_pos h hsz;simp at hl;omega
 subst hm1;have hBn:B=none:=by
  rcases B with _|ad
  ·rfl
  exact absurd ⟨ad,rfl,fun j u hu=>by simp at hu⟩ hB
 subst hBn;have hrun:(Builtin.append_ #[t,t] ty #[.slice A n c,.slice none 0 d]).run P w=.ok (.slice A n c) w:=by
  have hle:=hown.le;rcases A with _|ad
  ·rcases hown.2 with ⟨hv,hn⟩|⟨g,cap,cur,hv,_⟩
   ·injection hv with _ h1 h2;subst h1 h2;simp[Builtin.append_,run_underlying ht,sizeOf,typeInfo,hi,Builtin.lenOf,Builtin.firstCells]
   ·cases hv
  simp[Builtin.append_,run_underlying ht,sizeOf,typeInfo,hi,Builtin.lenOf,Builtin.firstCells,hle,storeCells]
 exact fin _ _ hrun (by rw[Nat.add_zero,List.append_nil];exact hown) (World.grownBy.refl w _) (Or.inl (own_block _ _ _))
theorem wpList_app{ops:Array Oper}{rest:List Oper}{o:Oper}(hgd:o.guard=none)(s x:Operand)(t:TypeId)
  (ho:o.op=.call {callee:=.builtin .append,args:=#[s,x],argTypes:=#[t,t]}) {e:TypeId} {size L:Nat} (E:El P t e size L) (base:Nat) (A:OA) (n c:Nat) (xs:List Value) (hs:a.eval s=.slice A n c) (hown:Own w base e size A n c xs)
  (B:OA) (m d:Nat) (news:List Value) (hx:a.eval x=.slice B m d) (hsrc:Src w B news) (hl:news.length=m*size) (h1:∀u∈news,u.oneCell'=true) (hb:n+m<=L) (hbase:base<=w.heap.size)
  (h:∀A' c' w',Own w' base e size A' (n+m) c' (xs++news)->w.grownBy w' (A.map (·.block))->Below base w w'->(A'.map (·.block)=A.map (·.block)∨A'.map (·.block)=some w.heap.size)->wpList P ops Q rest (a.put o.dst (.slice A' (n+m) c')) w'):
  wpList P ops Q (o::rest) a w:=by
 refine wpList_plain hgd fun K hK=>?_;obtain⟨A',c',w',hrun,h1,h3,h4,h5⟩:=run_app (ty:=o.type) w E hown (B:=B) (d:=d) hsrc hl h1 hb hbase;unfold Oper.wp execOp;simp only[ho,resolve,invoke,builtin,Sem.run_bind,Sem.run_pure,Result.andThen_ok,List.map_toArray,List.map_cons,List.map_nil,hs,hx,hrun];exact hK _ _ (h A' c' w' h1 h3 h4 h5)
end
def SlRet(w:World)(e size n:Nat)(cs:List Value):Ending->World->Prop:=fun en w'=>
 ∃A c,en=.returned (.slice A n c)∧Own w' w.heap.size e size A n c cs∧Below w.heap.size w w'
section
variable {P:Program} (w:World)
theorem wp_app{o:Oper}(s x:Operand)(t:TypeId)
  (ho:o.op=.call {callee:=.builtin .append,args:=#[s,x],argTypes:=#[t,t]}) {e:TypeId} {size:Nat} (E:El P t e size) (base:Nat) (A:OA) (n c:Nat) (xs:List Value) (hs:a.eval s=.slice A n c) (hown:Own w base e size A n c xs)
  (B:OA) (m d:Nat) (news:List Value) (hx:a.eval x=.slice B m d) (hsrc:Src w B news) (hl:news.length=m*size) (h1:∀u∈news,u.oneCell'=true) (hb:n+m<=137438953472) (hbase:base<=w.heap.size)
  (h:∀A' c' w',Own w' base e size A' (n+m) c' (xs++news)->w.grownBy w' (A.map (·.block))->Below base w w'->(A'.map (·.block)=A.map (·.block)∨A'.map (·.block)=some w.heap.size)->K (a.put o.dst (.slice A' (n+m) c')) w'):
  Oper.wp P o a w K Q:=by
 obtain⟨A',c',w',hrun,h1,h3,h4,h5⟩:=run_app (ty:=o.type) w E hown (B:=B) (d:=d) hsrc hl h1 hb hbase;unfold Oper.wp execOp;simp only[ho,resolve,invoke,builtin,Sem.run_bind,Sem.run_pure,Result.andThen_ok,List.map_toArray,List.map_cons,List.map_nil,hs,hx,hrun];exact h A' c' w' h1 h3 h4 h5
end
theorem elBytesB:El Tryz.prog 22 5 1 140737488355328:=⟨Tryz.underlying22,by
 obtain⟨i,h⟩:=info_parts (P:=Tryz.prog) (e:=5) (z:=.int .u8 0) (size:=1) (bytes:=1) (by kernel_rfl);exact⟨i,_,h.1,h.2.1,h.2.2.1,by omega,rfl⟩,by omega⟩
theorem elBytes:El Tryz.prog 22 5 1:=⟨Tryz.underlying22,by
 obtain⟨i,h⟩:=info_parts (P:=Tryz.prog) (e:=5) (z:=.int .u8 0) (size:=1) (bytes:=1) (by kernel_rfl);exact⟨i,_,h.1,h.2.1,h.2.2.1,by omega,rfl⟩,by omega⟩
structure SrcOf where
 A:Option Addr
 n:Nat
 c:Nat
 cells:List Value
def SrcOf.val(s:SrcOf):Value:=.slice s.A s.n s.c
def SrcOf.ok(s:SrcOf)(w:World)(size:Nat):Prop:=s.cells.length=s.n*size∧Src w s.A s.cells∧∀u∈s.cells,u.oneCell'=true
theorem SrcOf.ok.stays{s:SrcOf}{size:Nat}(h:s.ok w size)(hb:Below w.heap.size w w'):s.ok w' size:=⟨h.1,h.2.1.stays hb,h.2.2⟩
def sumN(ss:List SrcOf):Nat:=(ss.map SrcOf.n).sum
theorem sumN_take(ss:List SrcOf)(k:Nat)(h:k<ss.length):sumN (ss.take (k+1))=sumN (ss.take k)+ss[k].n:=by
 unfold sumN;rw[List.take_succ_eq_append_getElem h,List.map_append,List.sum_append];rfl
theorem sumN_le(ss:List SrcOf)(k:Nat):sumN (ss.take k)<=sumN ss:=by
 have h:sumN ss=sumN (ss.take k)+sumN (ss.drop k):=by
  unfold sumN;rw[<-List.sum_append,<-List.map_append,List.take_append_drop]
 omega
theorem growBytes_calls(n:Nat)(w:World)(hn:n<=137438953472):
  Calls Tryz.prog 93 #[.slice none 0 0,iv n] w (SlRet w 5 1 0 []):=by
 rcases Nat.eq_zero_or_pos n with rfl|hp
 ·go_enter Tryz.func93,Tryz.ntmps93;exact x4d9
 obtain⟨i,hi,hz,hs,hb⟩:=info_parts (P:=Tryz.prog) (e:=5) (z:=.int .u8 0) (size:=1) (bytes:=1) (by kernel_rfl);have hr:=fun ty=>Lib.run_append_grow_zeros (P:=Tryz.prog) w 22 3 ty 5 i (.int .u8 0) .i64 .i64 Tryz.underlying22 Tryz.underlying3 hi hz none 0 0 [] (run_firstCells_none _ _ _ _ _) n hp (by omega) (by omega) (by omega) (by rw[hb];omega)
  (growslice_fits (by omega) (by rw[hb];omega))
 have hG:=grownCap_ge w (0+n) 0 5;have hG1:=grownCap_le_maxLen w (0+n) 0 5 (by unfold maxLen;omega);have h1:(0:Int)<(n:Int):=by omega
 obtain⟨cap,hcd⟩:∃cap,cap=grownCap w (0+n) 0 5:=⟨_,rfl⟩;rw[<-hcd]at hr hG hG1;clear hcd;have hO:Own (w.drew.alloc (.cells (([]:List Value).toArray++Builtin.zeroCells (Value.cells (.int .u8 0)) n++Builtin.zeroCells (Value.cells (.int .u8 0)) (cap-(0+n))) 5)) w.heap.size 5 1 (some ⟨w.heap.size,0,none⟩) 0 cap []:=
  ⟨by simp,Or.inr ⟨_,_,_,rfl,Nat.le_refl _,blk_top rfl,by omega,hG1,by simp[Builtin.zeroCells,Value.cells];omega,by simp⟩⟩
 have hB:=((Below.refl w.heap.size w).drew).alloc (Nat.le_refl _) (.cells (([]:List Value).toArray++Builtin.zeroCells (Value.cells (.int .u8 0)) n++Builtin.zeroCells (Value.cells (.int .u8 0)) (cap-(0+n))) 5);generalize (Obj.cells (([]:List Value).toArray++Builtin.zeroCells (Value.cells (.int .u8 0)) n++Builtin.zeroCells (Value.cells (.int .u8 0)) (cap-(0+n))) 5)=ob at *
 have hcap:cap<=9223372036854775807:=by simp only[maxLen]at hG1;omega
 clear hi hz hs hb hG1;go_enter Tryz.func93,Tryz.ntmps93;go_wp2_with (at_builtin;refine Lib.wpList_append_run _ rfl _ _ _ _ rfl _ _ rfl rfl _ _ (hr _) ?_);go_ret;exact⟨_,_,rfl,hO,hB⟩
theorem concatBytes_calls(ss:List SrcOf)(ad:OA)(c:Nat)(w:World)(hk:ss.length<=16)(hn:sumN ss<=137438953472)(hr:Src w ad (ss.map SrcOf.val))(hs:∀s∈ss,s.ok w 1):
  Calls Tryz.prog 60 #[.slice ad ss.length c] w (SlRet w 5 1 (sumN ss) (ss.flatMap SrcOf.cells)):=by
 go_enter Tryz.func60,Tryz.ntmps60;go_wp2_with fail
 go_loop [3,5,11] (fun z s i=>∃k:Nat,k<=ss.length∧i=.int .i64 k∧z=.int .i64 (sumN (ss.take k))) (fun _ _ i=>ss.length-(intOf i).toNat)
 case atStart=>exact⟨0,Nat.zero_le _,rfl,rfl⟩
 case round=>
  obtain⟨k,hkl,rfl,rfl⟩:=hrel;by_cases hlt:k<ss.length
  ·obtain⟨b,o,rfl,hbs,hc⟩:=hr k (by simpa using hlt);have hsn:=sumN_take ss k hlt;have hle:=sumN_le ss (k+1);have HS:=qH hsn;have hb1:(sumN (ss.take k):Int)+(ss[k].n:Int)<=137438953472:=by omega
   have hc':w.cell? ⟨b,o+k,none⟩=some (.slice ss[k].A ss[k].n ss[k].c):=by simpa[SrcOf.val]using hc
   clear hsn hle hc;go_wp2_with fail
   go_round
   case rel=>exact⟨k+1,by omega,by go_num,by rw[HS.out];go_num⟩
   case measure=>simp[intOf]<;>omega
  obtain rfl:k=ss.length:=by omega
  rw[List.take_length];go_wp2_with fail;refine(growBytes_calls (sumN ss) w (by omega)).mono ?_;rintro e w1 ⟨A2,c2,rfl,hO,hB⟩;have HR:=qH hr;have HQ:=qH hs;clear hr hs;go_wp2_with fail;go_loopw [6,8,27] (fun z s i wr=>∃(k:Nat) (A1:OA) (c1:Nat),k<=ss.length∧i=.int .i64 k∧z=.slice A1 (sumN (ss.take k)) c1∧Own wr w.heap.size 5 1 A1 (sumN (ss.take k)) c1 ((ss.take k).flatMap SrcOf.cells)∧Below w.heap.size w wr) (fun _ _ i _=>ss.length-(intOf i).toNat)
  case atStart=>exact⟨0,A2,c2,Nat.zero_le _,rfl,rfl,hO,hB⟩
  case round=>
   obtain⟨k,A1,c1,hkl,rfl,rfl,hO1,hB1⟩:=hrel;have hr1:=HR.out.stays hB1;have hs1:∀s∈ss,s.ok wr 1:=fun s h=>(HQ.out s h).stays hB1;by_cases hlt:k<ss.length
   ·obtain⟨b,o,rfl,hbs,hc⟩:=hr1 k (by simpa using hlt);have hsn:=sumN_take ss k hlt;have hle:=sumN_le ss (k+1);have hfl:(ss.take (k+1)).flatMap SrcOf.cells=(ss.take k).flatMap SrcOf.cells++ss[k].cells:=by
     rw[List.take_succ_eq_append_getElem hlt,List.flatMap_append];simp
    have HS:=qH hsn;have HF:=qH hfl;obtain⟨q1,q2,q3⟩:=hs1 ss[k] (List.getElem_mem hlt);have Q1:=qH q1;have hb1:sumN (ss.take k)+ss[k].n<=137438953472:=by omega
    have hb2:w.heap.size<=wr.heap.size:=hB1.size;have hc':wr.cell? ⟨b,o+k,none⟩=some (.slice ss[k].A ss[k].n ss[k].c):=by simpa[SrcOf.val]using hc
    clear hsn hle hc hfl q1 hr1 hs1;go_wp2_with (at_builtin;refine wpList_app _ rfl _ _ 22 rfl elBytes w.heap.size A1 (sumN (ss.take k)) c1 _ rfl hO1 ss[k].A ss[k].n ss[k].c ss[k].cells rfl q2 Q1.out q3 hb1 hb2 ?_;intro A' c' w2 hown hg hb hx);have hfin:Own w2 w.heap.size 5 1 A' (sumN (ss.take (k+1))) c' ((ss.take (k+1)).flatMap SrcOf.cells):=by rw[HS.out,HF.out];exact hown
    have hB1:=hB1.trans hb;clear hown hg hb hx q2 q3 hc' hbs;go_roundw
    case rel=>exact⟨k+1,A',c',by omega,by go_num,by rw[HS.out],hfin,hB1⟩
    case measure=>simp[intOf]<;>omega
   obtain rfl:k=ss.length:=by omega
   rw[List.take_length]at hO1;clear hr1 hs1;go_wp2_with fail;go_ret;exact⟨_,_,by rw[List.take_length];rfl,hO1,hB1⟩
def BtRet(w:World)(l:LU):Ending->World->Prop:=fun en w'=>
 ∃A c,en=.returned (.slice A l.length c)∧Own w' w.heap.size 5 1 A l.length c (l.map bv)∧Below w.heap.size w w'
theorem src_blk{cs:Array Value}{fr:Nat×Nat}(h:w.heap[g]?=some (.cells cs t fr)):Src w (some ⟨g,0,none⟩) cs.toList:=by
 intro i hi;refine⟨_,_,rfl,blk_lt h,?_⟩;rw[cell_of_row _ _ _ _ _ _ h];simp
theorem bv_one(l:LU):∀u∈l.map bv,u.oneCell'=true:=by
 intro u hu;obtain⟨x,_,rfl⟩:=List.mem_map.1 hu;rfl
def srcB(A:OA)(l:LU)(c:Nat):SrcOf:=⟨A,l.length,c,l.map bv⟩
theorem srcB_ok{A:OA}{l:LU}{c:Nat}(h:Bts w A l):(srcB A l c).ok w 1:=⟨by simp[srcB],h.src,bv_one l⟩
theorem concat2_calls{A:OA}{a b:LU}{c d:Nat}{fr:Nat×Nat}(h:w.heap[g]?=some (.cells #[.slice A a.length c,.slice B b.length d] t fr))
  (hl:a.length+b.length<=137438953472) (ha:Bts w A a) (hb:Bts w B b):
  Calls Tryz.prog 60 #[.slice (some ⟨g,0,none⟩) 2 2] w (BtRet w (a++b)):=by
 refine(concatBytes_calls [srcB A a c,srcB B b d] (some ⟨g,0,none⟩) 2 w (by simp) (by simp[sumN,srcB];omega) (src_blk h) (fun s hs=>?_)).mono ?_
 ·simp only[List.mem_cons,List.not_mem_nil,or_false]at hs;rcases hs with rfl|rfl
  ·exact srcB_ok ha
  exact srcB_ok hb
 rintro e w' ⟨A',c',rfl,ho,hbel⟩;have e1:sumN [srcB A a c,srcB B b d]=(a++b).length:=by simp[sumN,srcB]
 have e2:[srcB A a c,srcB B b d].flatMap SrcOf.cells=(a++b).map bv:=by simp[srcB]
 rw[e1,e2]at ho;rw[e1];exact⟨A',c',rfl,ho,hbel⟩
theorem concat3_calls{A C:OA}{a b l:LU}{c d k:Nat}{fr:Nat×Nat}(h:w.heap[g]?=some (.cells #[.slice A a.length c,.slice B b.length d,.slice C l.length k] t fr))
  (hl:a.length+b.length+l.length<=137438953472) (ha:Bts w A a) (hb:Bts w B b) (hc:Bts w C l):
  Calls Tryz.prog 60 #[.slice (some ⟨g,0,none⟩) 3 3] w (BtRet w (a++b++l)):=by
 refine(concatBytes_calls [srcB A a c,srcB B b d,srcB C l k] (some ⟨g,0,none⟩) 3 w (by simp) (by simp[sumN,srcB];omega) (src_blk h) (fun s hs=>?_)).mono ?_
 ·simp only[List.mem_cons,List.not_mem_nil,or_false]at hs;rcases hs with rfl|rfl|rfl
  ·exact srcB_ok ha
  ·exact srcB_ok hb
  exact srcB_ok hc
 rintro e w' ⟨A',c',rfl,ho,hbel⟩;have e1:sumN [srcB A a c,srcB B b d,srcB C l k]=(a++b++l).length:=by simp[sumN,srcB]<;>omega
 have e2:[srcB A a c,srcB B b d,srcB C l k].flatMap SrcOf.cells=(a++b++l).map bv:=by simp[srcB]
 rw[e1,e2]at ho;rw[e1];exact⟨A',c',rfl,ho,hbel⟩
theorem x3je(h:Y:=by
 have e1:a.eval (.tmp x)=.pointer (some ⟨g,j,none⟩):=by simp[Act.eval,hx]
 have e2:a.eval (.tmp y)=.slice B n c:=by simp[Act.eval,hy]
 unfold Oper.wp execOp;simp only[e1,e2];go_simp;exact h):Y:=h
theorem x5lc(h:Y:=by
 refine⟨A',c',by simp,hown,hb1.trans hbel,fun k hk hn=>(hgr.block k (by simp;omega) (fun e=>hn e.symm)).trans ((Below.heap_alloc w0.drew _ k hk)),?_⟩;rcases hor with h|h
 ·exact .inl h
 exact .inr (fun k hk=>by rw[h]at hk;injection hk with hk;simp at hk;omega)):Y:=h
theorem wp_sb1{p:String}{af:Array Edge}{gd:Option (Nat×Bool)}{d s:Tmp}{n:UInt8}(hs:a.tmps[s]?=some (bv n))
  (h:K (a.put (some d) (.slice (some ⟨w.heap.size,0,none⟩) 1 1)) (w.alloc (.cells #[bv n] 5))):
  Oper.wp Tryz.prog ⟨some d,.buildSlice 22 1 #[(0,.tmp s)],t,p,af,gd⟩ a w K Q:=by
 have e:a.eval (.tmp s)=bv n:=by simp[Act.eval,hs]
 unfold Oper.wp execOp;simp only[e,List.map_toArray,List.map_cons,List.map_nil];go_simp;exact h
theorem wp_ssl{p:String}{af:Array Edge}{gd:Option (Nat×Bool)}{x y:Tmp}{j:Nat}{n c:Nat}{u:Value}(hx:a.tmps[x]?=some (.pointer (some ⟨g,j,none⟩)))(hy:a.tmps[y]?=some (.slice B n c))
  (hc:w.cell? ⟨g,j,none⟩=some u) (hf:w.frozen? ⟨g,j,none⟩=false) (h:K a (w.setCell ⟨g,j,none⟩ (.slice B n c))):
  Oper.wp Tryz.prog ⟨none,.store 22 (.tmp x) (.tmp y),t,p,af,gd⟩ a w K Q:=by
 exact x3je
def Box(w:World)(g:Nat)(T:TypeId)(v:Value):Prop:=w.heap[g]?=some (.cells #[v] T (0,0))
theorem Box.cell(h:Box w g T v):w.cell? ⟨g,0,none⟩=some v:=by rw[cell_of_row _ _ _ _ _ _ h];rfl
theorem Box.free(h:Box w g T v):w.frozen? ⟨g,0,none⟩=false:=frozen_of_row w g 0 _ T h
theorem Box.lt(h:Box w g T v):g<w.heap.size:=blk_lt h
theorem Box.set(h:Box w g T v)(u:Value):Box (w.setCell ⟨g,0,none⟩ u) g T u:=by
 unfold Box;rw[setCell_eq_setRow w g 0 #[v] T (0,0) u h];exact setRow_heap w g #[v] _ T (0,0) h
theorem Box.other(h:Box w g T v){p:Addr}(hp:p.block≠g)(u:Value):Box (w.setCell p u) g T v:=by
 unfold Box;rw[Below.heap_setCell _ _ _ _ (fun e=>hp e.symm)];exact h
theorem Box.keep{B:Nat}(h:Box w g T v)(hb:Below B w w')(hg:g<B):Box w' g T v:=(hb.block g hg).trans h
theorem Box.drew(h:Box w g T v):Box w.drew g T v:=h
theorem Box.drewN(h:Box w g T v)(n:Nat):Box (w.drewN n) g T v:=h
theorem Box.alloc(h:Box w g T v)(o:Obj):Box (w.alloc o) g T v:=blk_old h
theorem Box.new(w:World)(T:TypeId)(v:Value):Box (w.alloc (.cells #[v] T)) w.heap.size T v:=blk_top rfl
theorem own_far{e size n c go:Nat}{A:OA}(h:Own w base e size A n c xs)(hg:go<base):A.map (·.block)≠some go:=fun e=>by
 have:=(h.block go e).1;omega
theorem Own.same{e size n c:Nat}{A:OA}(h:Own w base e size A n c xs)(hk:∀k,A.map (·.block)=some k->w'.heap[k]?=w.heap[k]?):Own w' base e size A n c xs:=by
 obtain⟨h1,h2⟩:=h;refine⟨h1,?_⟩;rcases h2 with h2|⟨g,cap,cur,hv,hg,hh,r⟩
 ·exact Or.inl h2
 refine Or.inr ⟨g,cap,cur,hv,hg,?_,r⟩;injection hv with hA _ _;rw[hk g (by rw[hA];rfl)];exact hh
theorem x017(h:Y:=by
 have:=HS.out;unfold ScAt at this;rw[List.drop_length]at this;rw[<-this];rfl):Y:=h
theorem x1ev(h:Y:=by
 clear hm h1;go_enter Tryz.func102,Tryz.ntmps102;go_wp2_with fail;go_ret;exact⟨ret_int HR.out.symm,Below.refl _ _⟩):Y:=h
theorem x1gl(h:Y:=by
 go_wp2_with fail;go_ret;exact⟨ret_int (by rw[HR.out,HE.out]),(HB.out.alloc hsz _)⟩):Y:=h
theorem x5ag(h:Y:=by
 go_wp2_with fail;go_ret;exact⟨ret_int (by rw[HR.out,HF.out]),HB.out⟩):Y:=h
theorem x614(h:Y:=by
 by_cases g:data.length<=64
 ·exact absurd ⟨fun _=>⟨rfl,e1,g⟩,fun h=>absurd rfl h⟩ hf'
 omega):Y:=h
theorem dc_many(h:40<l.length∨old<0∨64<old∨size<0∨64<size):deltaCheck l old size=1:=by unfold deltaCheck;rw[if_pos h]
theorem dc_go(h:¬(40<l.length∨old<0∨64<old∨size<0∨64<size)):deltaCheck l old size=stepsCheck old l size:=by unfold deltaCheck;rw[if_neg h]
theorem sc_form(h:¬o.form):stepsCheck old (o::l) size=3:=by unfold stepsCheck;rw[if_pos h]
theorem sc_range(h:o.form)(g:¬o.in_ old):stepsCheck old (o::l) size=2:=by unfold stepsCheck;rw[if_neg (by simpa using h),if_pos g]
theorem sc_many(h:o.form)(g:o.in_ old)(k:size<o.n):stepsCheck old (o::l) size=1:=by unfold stepsCheck;rw[if_neg (by simpa using h),if_neg (by simpa using g),if_pos k]
theorem sc_on(h:o.form)(g:o.in_ old)(k:¬size<o.n):stepsCheck old (o::l) size=stepsCheck old l (size-o.n):=by
 conv=>lhs;unfold stepsCheck
 rw[if_neg (by simpa using h),if_neg (by simpa using g),if_neg k]
def ScAt(old:Int)(l:List Stp)(size:Int)(k:Nat)(s:Int):Prop:=stepsCheck old (l.drop k) s=stepsCheck old l size
theorem ScAt.here{s:Int}{k:Nat}(h:ScAt old l size k s)(hk:k<l.length):stepsCheck old (l[k]::l.drop (k+1)) s=stepsCheck old l size:=by
 unfold ScAt at h;rwa [List.drop_eq_getElem_cons hk]at h
theorem deltaCheck_calls(A:OA)(c:Nat)(l:List Stp)(old size:Int)(w:World)(hl:l.length<=3518437208780)(hr:Sps w A l):
  Calls Tryz.prog 102 #[.slice A l.length c,iv old,iv size] w (RetB w (iv (deltaCheck l old size))):=by
 by_cases hm:40<l.length∨old<0∨64<old∨size<0∨64<size
 ·have HR:=qH (dc_many hm);by_cases h1:40<l.length
  ·have h1':(40:Int)<(l.length:Int):=by omega
   exact x1ev
  have h1':¬(40:Int)<(l.length:Int):=by omega
  by_cases h2:old<0
  ·exact x1ev
  by_cases h2:64<old
  ·exact x1ev
  by_cases h2:size<0
  ·exact x1ev
  have h2:64<size:=by omega
  exact x1ev
 have HR:=qH (dc_go hm);have h1:¬(40:Int)<(l.length:Int):=by omega
 have h1:¬old<0:=by omega
 have h1:¬64<old:=by omega
 have h1:¬size<0:=by omega
 have h2:¬64<size:=by omega
 have h3:l.length<=40:=by omega
 clear hm;go_enter Tryz.func102,Tryz.ntmps102;go_wp2_with fail;go_loopw [31,2] (fun i s wr=>∃(k:Nat) (z:Int),k<=l.length∧i=.int .i64 k∧s=.int .i64 z∧0<=z∧z<=64∧Hid (ScAt old l size k z)∧Hid (Below w.heap.size w wr)) (fun i _ _=>l.length-(intOf i).toNat)
 case atStart=>exact⟨0,size,Nat.zero_le _,rfl,rfl,by omega,by omega,qH (by unfold ScAt;rw[List.drop_zero]),qH (Below.refl _ _)⟩
 case round=>
  clear h1 h2;obtain⟨k,z,hk,rfl,rfl,hz2,hz1,HS,HB⟩:=hrel;by_cases hlt:k<l.length
  ·obtain⟨b,o,B,cc,rfl,hs,hc3,hc1,hc2,hd1,hd2,-,hi2,hi1⟩:=(hr.stays HB.out).at_ hlt;have HH:=qH (HS.out.here hlt);have hsz:=HB.out.size;clear HS;unfold I64 at hi2 hi1;obtain⟨i1,i01⟩:=hi2;obtain⟨i1,i2⟩:=hi1;generalize hx:l[k]=x at *
   clear hx;obtain⟨at_,len,data⟩:=x;dsimp only at *
   have hdl:0<=(data.length:Int):=by omega
   by_cases hf:(⟨at_,len,data⟩:Stp).form
   ·by_cases hin:(⟨at_,len,data⟩:Stp).in_ old
    ·have hn:(⟨at_,len,data⟩:Stp).n=len+data.length:=rfl;have hin':=hin;unfold Stp.in_ at hin';dsimp only at hin';obtain⟨j1,j2,j3⟩:=hin';have hf':=hf;unfold Stp.form at hf';dsimp only at hf';by_cases hzn:z<len+data.length
     ·have HE:=qH (HH.out.symm.trans (sc_many hf hin (by rw[hn];exact hzn)));clear hf hin hn HH;by_cases e1:len=0
      ·obtain⟨rfl,e2,e3⟩:=hf'.1 e1;subst e1;have e1:1<=data.length:=by rcases data with _|⟨y,d⟩;exact absurd rfl e2;simp
       have q1:((data.length:Int)==0)=false:=by simp;omega
       have q1:¬(64:Int)<(data.length:Int):=by omega
       clear hf' e2;exact x1gl
      have e2:=hf'.2 e1;subst e2;have q1:(len==0)=false:=by simp[e1]
      have q1:(len !=0)=true:=by simp[e1]
      clear hf' e1;simp only[List.length_nil,Int.ofNat_eq_natCast,Int.natCast_zero,Int.add_zero]at *
      exact x1gl
     have HE:=qH ((sc_on hf hin (by rw[hn];exact hzn)).symm.trans HH.out);clear hf hin HH;rw[hn]at HE;clear hn;by_cases e1:len=0
     ·obtain⟨rfl,e2,e3⟩:=hf'.1 e1;subst e1;have e1:1<=data.length:=by rcases data with _|⟨y,d⟩;exact absurd rfl e2;simp
      have q1:((data.length:Int)==0)=false:=by simp;omega
      have q1:¬(64:Int)<(data.length:Int):=by omega
      clear hf' e2;go_wp2_with fail;go_roundw
      case rel=>exact⟨k+1,z-(0+data.length),by omega,by go_num,by simp,by omega,by omega,HE,qH (HB.out.alloc hsz _)⟩
      case measure=>simp[intOf];omega
     have e2:=hf'.2 e1;subst e2;have q1:(len==0)=false:=by simp[e1]
     have q1:(len !=0)=true:=by simp[e1]
     clear hf' e1;have HE1:Hid (ScAt old l size (k+1) (z-len)):=by
      have:=HE.out;refine qH ?_;simpa[ScAt]using this
     clear HE;simp only[List.length_nil,Int.ofNat_eq_natCast,Int.natCast_zero,Int.add_zero]at *
     go_wp2_with fail;go_roundw
     case rel=>exact⟨k+1,z-len,by omega,by go_num,by simp,by omega,by omega,HE1,qH (HB.out.alloc hsz _)⟩
     case measure=>simp[intOf];omega
    ·have HE:=qH (HH.out.symm.trans (sc_range hf hin));have hf':=hf;unfold Stp.form at hf';dsimp only at hf';have hin':=hin;unfold Stp.in_ at hin';dsimp only at hin';clear hf hin HH;have e1:len≠0:=by
      intro e2;obtain⟨e1,_,_⟩:=hf'.1 e2;omega
     have e2:=hf'.2 e1;subst e2;have q1:(len==0)=false:=by simp[e1]
     have q1:(len !=0)=true:=by simp[e1]
     clear hf' e1;simp only[List.length_nil,Int.ofNat_eq_natCast,Int.natCast_zero,Int.add_zero]at *
     have HI:=qH hin';clear hin';by_cases r1:len<0
     ·exact x1gl
     by_cases r1:at_<0
     ·exact x1gl
     by_cases r1:old<len
     ·exact x1gl
     have r1:old-len<at_:=by have:=HI.out;omega
     exact x1gl
   have HE:=qH (HH.out.symm.trans (sc_form hf));have hf':=hf;unfold Stp.form at hf';dsimp only at hf';clear hf HH;by_cases e5:len=0
   ·subst e5;by_cases e1:at_=0
    ·subst e1;by_cases e1:data=[]
     ·subst e1;clear hf';simp only[List.length_nil,Int.ofNat_eq_natCast,Int.natCast_zero,Int.add_zero]at *
      exact x1gl
     have e2:1<=data.length:=by rcases data with _|⟨y,d⟩;exact absurd rfl e1;simp
     have e2:(64:Int)<(data.length:Int):=by
      exact x614
     have q1:((data.length:Int)==0)=false:=by simp;omega
     clear hf' e1;exact x1gl
    have q1:(at_ !=0)=true:=by simp[e1]
    clear hf' e1;exact x1gl
   have e1:data≠[]:=fun e=>hf' ⟨fun h=>absurd h e5,fun _=>e⟩;have e2:1<=data.length:=by rcases data with _|⟨y,d⟩;exact absurd rfl e1;simp
   have q1:(len==0)=false:=by simp[e5]
   have q1:(len !=0)=true:=by simp[e5]
   have q1:(0:Int)<(data.length:Int):=by omega
   clear hf' e5 e1;exact x1gl
  obtain rfl:k=l.length:=by omega
  have HE:Hid (stepsCheck old l size=if z=0 then 0 else 3):=by
   exact x017
  clear HS;by_cases e:z=0
  ·have HF:=qH (HE.out.trans (if_pos e));subst e;exact x5ag
  have HF:=qH (HE.out.trans (if_neg e));have q:(z !=0)=true:=by simp[e]
  clear e;exact x5ag
theorem x3ef(h:Y:=by
 go_wp2_with fail;refine HC.out.mono ?_;rintro e w1 ⟨rfl,hb1⟩;have HB1:=qH (HB.out.trans (hb1.mono HB.out.size));clear hb1;go_wp2_with fail;go_ret;exact⟨ret_int hz.out.symm,HB1.out⟩):Y:=h
theorem x89p(h:Y:=by
 have hz:=qH (patCheck_bad (p:=⟨f,t,o,n,sz,l⟩) (by unfold Pat.range;dsimp only;omega));clear HC;go_enter Tryz.func76,Tryz.ntmps76;go_wp2_with fail;go_ret;exact⟨ret_int hz.out.symm,HB.out⟩):Y:=h
theorem patCheck_bad(h:¬p.range):patCheck p=2:=by unfold patCheck;rw[if_pos h]
theorem patCheck_in(h:p.range):patCheck p=deltaCheck p.ops 64 p.size:=by unfold patCheck;rw[if_neg (by simpa using h)]
theorem patCheckA_calls(A:OA)(c:Nat)(f t o n sz:Int)(l:List Stp)(w:World)(hl:l.length<=3518437208780)(hs:Sps w A l):
  Calls Tryz.prog 76 #[.agg #[iv f,iv t,iv o,iv n,iv sz,.slice A l.length c]] w (RetB w (iv (patCheck ⟨f,t,o,n,sz,l⟩))):=by
 have hb:Below w.heap.size w (w.alloc (.cells #[iv f,iv t,iv o,iv n,iv sz,.slice A l.length c] 35)):=(Below.refl _ _).alloc (Nat.le_refl _) _;have HB:=qH hb;have HC:=qH (deltaCheck_calls A c l 64 sz _ hl (hs.stays hb));clear hb hs;by_cases h8:f<(1:Int)
 ·exact x89p
 by_cases h1:(30:Int)<f
 ·exact x89p
 by_cases h1:t<(1:Int)
 ·exact x89p
 by_cases h1:(30:Int)<t
 ·exact x89p
 by_cases h1:o<(0:Int)
 ·exact x89p
 by_cases h1:(65535:Int)<o
 ·exact x89p
 by_cases h1:n<(0:Int)
 ·exact x89p
 by_cases h1:(65535:Int)<n
 ·exact x89p
 have hz:=qH (patCheck_in (p:=⟨f,t,o,n,sz,l⟩) (by unfold Pat.range;dsimp only;omega));go_enter Tryz.func76,Tryz.ntmps76;exact x3ef
theorem elOpsB:El Tryz.prog 33 121 3 3518437208883:=⟨Tryz.underlying33,by
 obtain⟨i,h⟩:=info_parts (P:=Tryz.prog) (e:=121) (z:=.agg #[.int .i64 0,.int .i64 0,.slice none 0 0]) (size:=3) (bytes:=40) (by kernel_rfl);exact⟨i,_,h.1,h.2.1,h.2.2.1,by omega,rfl⟩,by omega⟩
theorem elOps:El Tryz.prog 33 121 3:=⟨Tryz.underlying33,by
 obtain⟨i,h⟩:=info_parts (P:=Tryz.prog) (e:=121) (z:=.agg #[.int .i64 0,.int .i64 0,.slice none 0 0]) (size:=3) (bytes:=40) (by kernel_rfl);exact⟨i,_,h.1,h.2.1,h.2.2.1,by omega,rfl⟩,by omega⟩
def opCell(o:Stp)(d:Option Addr×Nat):List Value:=[iv o.at_,iv o.len,.slice d.1 o.data.length d.2]
def opCells:List Stp->List (Option Addr×Nat)->List Value
 |o::l,d::ds=>opCell o d++opCells l ds
 |_,_=>[]
theorem opCells_len:∀(l:List Stp) (ds:List (Option Addr×Nat)),ds.length=l.length->(opCells l ds).length=l.length*3
 |[],[],_=>rfl
 |[],_::_,h=>by simp at h
 |_::_,[],h=>by simp at h
 |o::l,d::ds,h=>by
  have:=opCells_len l ds (by simpa using h);simp[opCells,opCell,this];omega
theorem opCells_snoc:∀(l:List Stp) (ds:List (Option Addr×Nat)) (o:Stp) (d:Option Addr×Nat),ds.length=l.length->opCells (l++[o]) (ds++[d])=opCells l ds++opCell o d
 |[],[],o,d,_=>by simp[opCells]
 |[],_::_,_,_,h=>by simp at h
 |_::_,[],_,_,h=>by simp at h
 |x::l,y::ds,o,d,h=>by
  have:=opCells_snoc l ds o d (by simpa using h);simp[opCells,this]
theorem opCells_at:∀(l:List Stp) (ds:List (Option Addr×Nat)),ds.length=l.length->∀(i j:Nat) (o:Stp) (d:Option Addr×Nat),l[i]?=some o->ds[i]?=some d->j<3->(opCells l ds)[i*3+j]?=(opCell o d)[j]?
 |[],[],_,i,j,o,d,h,_,_=>by simp at h
 |[],_::_,h,_,_,_,_,_,_,_=>by simp at h
 |_::_,[],h,_,_,_,_,_,_,_=>by simp at h
 |x::l,y::ds,h,i,j,o,d,hi,hd,hj=>by
  match i with
  |0=>
   have e1:x=o:=by simpa using hi
   have e2:y=d:=by simpa using hd
   subst e1 e2;rw[opCells,Nat.zero_mul,Nat.zero_add,List.getElem?_append_left (by simpa[opCell]using hj)]
  |i+1=>
   have:=opCells_at l ds (by simpa using h) i j o d (by simpa using hi) (by simpa using hd) hj;rw[opCells,List.getElem?_append_right (by simp[opCell];omega),<-this];congr 1;simp[opCell];omega
theorem snoc_at{α:Type}{l:List α}{x y:α}(h:(l++[x])[i]?=some y):l[i]?=some y∨(i=l.length∧y=x):=by
 rcases Nat.lt_trichotomy i l.length with hi|hi|hi
 ·rw[List.getElem?_append_left hi]at h;exact .inl h
 ·subst hi;simp at h;exact .inr ⟨rfl,h.symm⟩
 rw[List.getElem?_eq_none (by simp;omega)]at h;cases h
def Fresh(base:Nat)(w:World)(P:World->Prop):Prop:=∀v:World,(∀k,base<=k->k<w.heap.size->v.heap[k]?=w.heap[k]?)->P v
theorem Fresh.now(h:Fresh base w P):P w:=h w fun _ _ _=>rfl
theorem Fresh.below{B:Nat}(h:Fresh base w P)(hb:Below B w w')(hB:w.heap.size<=B):Fresh base w' P:=
 fun v hv=>h v fun k h1 h2=>(hv k h1 (Nat.lt_of_lt_of_le h2 hb.size)).trans (hb.block k (by omega))
theorem Fresh.mono{base':Nat}(h:Fresh base w P)(hb:base'<=base):Fresh base' w P:=fun v hv=>h v fun k h1 h2=>hv k (by omega) h2
theorem Fresh.imp{Q:World->Prop}(h:Fresh base w P)(hq:∀v,P v->Q v):Fresh base w Q:=fun v hv=>hq v (h v hv)
theorem Fresh.row(h:Fresh base w P)(hg:g<base)(cs:Array Value):Fresh base (w.setRow g cs) P:=
 fun v hv=>h v fun k h1 h2=>(hv k h1 (by simpa[World.setRow]using h2)).trans (setRow_other w g k cs (by omega))
theorem Fresh.cell(h:Fresh base w P){p:Addr}(hg:p.block<base)(u:Value):Fresh base (w.setCell p u) P:=
 fun v hv=>h v fun k h1 h2=>(hv k h1 (by simpa using h2)).trans (Below.heap_setCell _ _ _ _ (by omega))
theorem Fresh.drewN(h:Fresh base w P)(n:Nat):Fresh base (w.drewN n) P:=h
theorem Fresh.alloc(h:Fresh base w P)(o:Obj):Fresh base (w.alloc o) P:=
 h.below ((Below.refl w.heap.size w).alloc (Nat.le_refl _) o) (Nat.le_refl _)
theorem Fresh.const(h:∀v,P v):Fresh base w P:=fun v _=>h v
theorem own_fresh{v:World}{e size n c:Nat}{A:OA}(h:Own w base e size A n c xs)(hv:∀k,base<=k->k<w.heap.size->v.heap[k]?=w.heap[k]?):Own v base e size A n c xs:=by
 obtain⟨h1,h2⟩:=h;refine⟨h1,?_⟩;rcases h2 with h2|⟨g,cap,cur,hv',hg,hh,r⟩
 ·exact Or.inl h2
 exact Or.inr ⟨g,cap,cur,hv',hg,(hv g hg (blk_lt hh)).trans hh,r⟩
theorem Own.fresh{e n c:Nat}{A:OA}{l:LU}(h:Own w base e 1 A n c (l.map bv)):Fresh base w (fun v=>Bts v A l):=fun v hv=>(own_fresh h hv).src.bts
def OpRet3(w:World)(l:List Stp)(n:Int):Ending->World->Prop:=fun en w'=>
 ∃A c,en=.returned (.tuple #[.slice A l.length c,iv n])∧Fresh w.heap.size w' (fun v=>Sps v A l)∧l.length<=c∧Below w.heap.size w w'
end Go.Proofs.YtefkfglkpebbmacGreat
