/- Walks of functions, and plain words. No conditions. -/
import Derived.Test.YtefkfglkpebbmacGreatP4
set_option linter.unusedVariables false
set_option linter.unusedSimpArgs false
set_option maxRecDepth 100000
set_option maxHeartbeats 40000000
namespace Go.Proofs.YtefkfglkpebbmacGreat
open Go.RowKit
variable {Y:Prop}
variable {w:World} {g0 n c:Nat} {ds:List (Option Addr×Nat)} {A:OA}
theorem x1hi(h:Y:=by
 clear h;go_enter Tryz.func92,Tryz.ntmps92;go_wp2_with fail;refine(bad_calls _ _).mono ?_;rintro e w1 ⟨rfl,hb1⟩;have a1:=kp (w.heap.size+1) (patA 0 0 0 0 0 none 0 0) hb1;have HB1:=bT HBA hb1;clear hb1;go_wp2_with fail;refine bodyPost_ret (rC (patA 0 0 0 0 0 none 0 0)) rfl ⟨none,0,rfl,patIn_zero _,below_row HB1.out (by omega) _,fun _ _=>patIn_zero _⟩):Y:=h
theorem x212(h:Y:=by
 have hxl:=x.toNat_lt;have hyl:=y.toNat_lt;have u1:IntKind.i64.wrap (x.toNat:Int)=(x.toNat:Int):=IntWalk.i64_in _ (by omega);have u1:IntKind.i64.wrap (y.toNat:Int)=(y.toNat:Int):=IntWalk.i64_in _ (by omega);have u1:IntKind.i64.wrap ((x.toNat:Int)*256)=(x.toNat:Int)*256:=IntWalk.i64_in _ (by omega);have u1:IntKind.i64.wrap ((x.toNat:Int)*256+(y.toNat:Int))=(x.toNat:Int)*256+(y.toNat:Int):=IntWalk.i64_in _ (by omega);go_enter Tryz.func110,Tryz.ntmps110;go_wp2_with fail;go_quiet (fail)
 go_wp2_with fail;go_ret;exact⟨rfl,_,rfl⟩):Y:=h
theorem x41v(h:Y:=by
 go_wp2_with fail;refine(bad_calls _ _).mono ?_;rintro e wz ⟨rfl,hbz⟩;have hz1:=blk_below HRX.out.z hbz;obtain⟨z1,z2,z3,z4,z5⟩:=blkFacts hz1 (by simp[patA]);have HBZ:=bT HB1 hbz;clear hbz hz1;go_wp2_with fail;refine bodyPost_ret (rC (patA 0 0 0 0 0 none 0 0)) rfl ?_;rw[HZZ.out];exact⟨none,0,rfl,patIn_zero _,below_row HBZ.out (by have:=HGE.out;omega) _,fun _ _=>patIn_zero _⟩):Y:=h
theorem x4da(h:Y:=by
 have e1:=fO 1 (.pointer (some ⟨g0,0,none⟩)) h;have hk:=BXC.out wq hJ.bel;go_simp):Y:=h
theorem x7kh(h:Y:=by
 intro done cv k1 a wq hw h hJ hn;have e1:=mO 7 (iv ((i:Int)+2)) h;exact mx_move (ch_ev e1)):Y:=h
theorem x7nu(h:Y:=by
 clear hbz hz1;go_wp2_with fail;refine bodyPost_ret (rC (patA 0 0 0 0 0 none 0 0)) rfl ?_;rw[HZZ.out];exact⟨none,0,rfl,patIn_zero _,below_row HBZ.out (by have:=HGE.out;omega) _,fun _ _=>patIn_zero _⟩):Y:=h
theorem x7rz(h:Y:=by
 have e1:=fO 5 (.func (Fn.func 110) #[] #[.pointer (some ⟨g0,0,none⟩)]) h;exact mx_move (ch_ev e1)):Y:=h
theorem x888(h:Y:=by
 intro done cv k1 a wq hw h hJ hn;have e1:=mO 6 (.pointer (some ⟨g0+2,0,none⟩)) h;go_simp):Y:=h
theorem bad_calls(e:Int)(w:World):Calls Tryz.prog 109 #[iv e] w (RetB w (.tuple #[.agg (patA 0 0 0 0 0 none 0 0),iv e])):=by
 go_enter Tryz.func109,Tryz.ntmps109;go_wp2_with fail;refine bodyPost_ret (rC (patA 0 0 0 0 0 none 0 0)) rfl ⟨rfl,?_⟩;exact x9w3
theorem num2_calls{ab ao:Nat}{x y:UInt8}(hb:w.cell? ⟨g0,0,none⟩=some (.slice (some ⟨ab,ao,none⟩) n c))(hx:w.cell? ⟨ab,ao+2,none⟩=some (bv x))(hy:w.cell? ⟨ab,ao+3,none⟩=some (bv y))(hn:8<=n):
  Calls Tryz.prog 110 #[iv 2,.pointer (some ⟨g0,0,none⟩)] w (RetN w (iv ((x.toNat:Int)*256+(y.toNat:Int)))):=by
 have h1:¬(n:Int)<=2:=by omega
 have h1:¬(n:Int)<=3:=by omega
 exact x212
theorem num4_calls{ab ao:Nat}{x y:UInt8}(hb:w.cell? ⟨g0,0,none⟩=some (.slice (some ⟨ab,ao,none⟩) n c))(hx:w.cell? ⟨ab,ao+4,none⟩=some (bv x))(hy:w.cell? ⟨ab,ao+5,none⟩=some (bv y))(hn:8<=n):
  Calls Tryz.prog 110 #[iv 4,.pointer (some ⟨g0,0,none⟩)] w (RetN w (iv ((x.toNat:Int)*256+(y.toNat:Int)))):=by
 have h1:¬(n:Int)<=4:=by omega
 have h1:¬(n:Int)<=5:=by omega
 exact x212
def PsRet(w:World)(S:OA)(p:Pat)(n:Int):Ending->World->Prop:=fun en w'=>
 ∃A c,en=.returned (.tuple #[.agg (patA p.from_ p.to_ p.old p.new_ p.size A p.ops.length c),iv n])∧PatIn w' p A c∧Below w.heap.size w w'∧
  ∀v:World,(∀k,w.heap.size<=k∨S.map (·.block)=some k->k<w'.heap.size->v.heap[k]?=w'.heap[k]?)->PatIn v p A c
theorem CRow.freshB{v:World}{base:Nat}{l:List Stp}{bk:Option Nat}(h:CRow w base l ds A c)(hn:∀(i:Nat) (e:Option Addr×Nat),ds[i]?=some e->∀k,e.1.map (·.block)=some k->bk=some k)(hb:∀o∈l,I64 o.at_∧I64 o.len∧o.data.length<=140737488351232)
  (hv:∀k,base<=k∨bk=some k->k<w.heap.size->v.heap[k]?=w.heap[k]?):Sps v A l:=by
 refine CRow.sps (w:=v) (base:=base) (ds:=ds) (c:=c) ⟨h.len,own_fresh h.row (fun k h1=>hv k (.inl h1)),fun i o d h1 h2=>⟨fun j hj=>?_,(h.data i o d h1 h2).2⟩,fun i d h1 k e=>⟨(h.off i d h1 k e).1,?_⟩⟩ hb
 ·obtain⟨b,o1,e1,hlt,hc⟩:=(h.data i o d h1 h2).1 j hj;have e:=hv b (.inr (hn i d h2 b (by rw[e1];rfl))) hlt;exact x17v
 have hlt:=(h.off i d h1 k e).2;have e1:=hv k (.inr (hn i d h1 k e)) hlt;exact x7td
def sliceBlk:Value->Option Nat
 | .slice A _ _=>A.map (·.block)
 |_=>none
def numJ(wo:World)(v9 v11:Int)(cs:Array Value)(done:Nat->Bool)(cv:Nat->Value)(w:World):Prop:=
 Below wo.heap.size wo w∧(done 9=true->cv 9=iv v9)∧(done 11=true->cv 11=iv v11)∧
 (if done 18=true then cv 17=.pointer (some ⟨wo.heap.size,0,none⟩)∧w.heap[wo.heap.size]?=some (.cells cs 35 (0,0))∧w.heap.size=wo.heap.size+1
  else if done 17=true then cv 17=.pointer (some ⟨wo.heap.size,0,none⟩)∧w.heap[wo.heap.size]?=some (.cells (patA 0 0 0 0 0 none 0 0) 35 (0,0))∧w.heap.size=wo.heap.size+1
  else w.heap.size=wo.heap.size)
section
variable {wo w:World} {v9 v11:Int} {cs:Array Value} {done:Nat->Bool} {cv:Nat->Value}
theorem numJ.bel(h:numJ wo v9 v11 cs done cv w):Below wo.heap.size wo w:=h.1
theorem numJ.g9(h:numJ wo v9 v11 cs done cv w)(hd:done 9=true):cv 9=iv v9:=h.2.1 hd
theorem numJ.g11(h:numJ wo v9 v11 cs done cv w)(hd:done 11=true):cv 11=iv v11:=h.2.2.1 hd
theorem numJ.c9(h:numJ wo v9 v11 cs done cv w)(n:Nat):numJ wo v9 v11 cs (fun j=>if j=9 then true else done j) (fun j=>if j=9 then iv v9 else cv j) (w.drewN n):=
 ⟨Below.drewN' h.1 n,fun _=>by simp,fun e=>by simpa using h.2.2.1 (by simpa using e),by simpa using h.2.2.2⟩
theorem numJ.c11(h:numJ wo v9 v11 cs done cv w)(n:Nat):numJ wo v9 v11 cs (fun j=>if j=11 then true else done j) (fun j=>if j=11 then iv v11 else cv j) (w.drewN n):=
 ⟨Below.drewN' h.1 n,fun e=>by simpa using h.2.1 (by simpa using e),fun _=>by simp,by simpa using h.2.2.2⟩
theorem numJ.zero(h:numJ wo v9 v11 cs done cv w)(hd2:¬done 18=true)(hd1:¬done 17=true):w.heap.size=wo.heap.size:=by
 have:=h.2.2.2;rwa [if_neg hd2,if_neg hd1]at this
theorem numJ.one(h:numJ wo v9 v11 cs done cv w)(hd2:¬done 18=true)(hd1:done 17=true):cv 17=.pointer (some ⟨wo.heap.size,0,none⟩)∧w.heap[wo.heap.size]?=some (.cells (patA 0 0 0 0 0 none 0 0) 35 (0,0))∧w.heap.size=wo.heap.size+1:=by
 have:=h.2.2.2;rwa [if_neg hd2,if_pos hd1]at this
theorem numJ.two(h:numJ wo v9 v11 cs done cv w)(hd2:done 18=true):cv 17=.pointer (some ⟨wo.heap.size,0,none⟩)∧w.heap[wo.heap.size]?=some (.cells cs 35 (0,0))∧w.heap.size=wo.heap.size+1:=by
 have:=h.2.2.2;rwa [if_pos hd2]at this
theorem numJ.made(h:numJ wo v9 v11 cs done cv w)(hd2:¬done 18=true)(hs:w.heap.size=wo.heap.size):
  numJ wo v9 v11 cs (fun j=>if j=17 then true else done j) (fun j=>if j=17 then .pointer (some ⟨w.heap.size,0,none⟩)else cv j) (w.alloc (.cells (patA 0 0 0 0 0 none 0 0) 35)):=by
 refine⟨h.1.alloc (by omega) _,fun e=>by simpa using h.2.1 (by simpa using e),fun e=>by simpa using h.2.2.1 (by simpa using e),?_⟩;rw[if_neg (by simpa using hd2),if_pos (by simp)];exact⟨by simp[hs],blk_top hs.symm,by simp;omega⟩
theorem numJ.put(h:numJ wo v9 v11 cs done cv w)(y1:cv 17=.pointer (some ⟨wo.heap.size,0,none⟩))(y2:w.heap[wo.heap.size]?=some (.cells (patA 0 0 0 0 0 none 0 0) 35 (0,0)))(y3:w.heap.size=wo.heap.size+1):
  numJ wo v9 v11 cs (fun j=>if j=18 then true else done j) (fun j=>if j=18 then undef else cv j) (w.setRow wo.heap.size cs):=by
 refine⟨below_row h.1 nl _,fun e=>by simpa using h.2.1 (by simpa using e),fun e=>by simpa using h.2.2.1 (by simpa using e),?_⟩;rw[if_pos (by simp)];exact⟨by simpa using y1,setRow_heap w _ _ _ _ _ y2,by simpa[World.setRow]using y3⟩
end
theorem wp_sbo{a:Act}{K:Act->World->Prop}{Q:Exit->Act->World->Prop}{t:TypeId}{p:String}{af:Array Edge}{gd:Option (Nat×Bool)}{d s:Tmp}{x y:Int}{D:OA}(hs:a.tmps[s]?=some (.agg #[iv x,iv y,.slice D n c]))
  (h:K (a.put (some d) (.slice (some ⟨w.heap.size,0,none⟩) 1 1)) (w.alloc (.cells #[iv x,iv y,.slice D n c] 121))):
  Oper.wp Tryz.prog ⟨some d,.buildSlice 33 1 #[(0,.tmp s)],t,p,af,gd⟩ a w K Q:=by
 have e1:a.eval (.tmp s)=.agg #[iv x,iv y,.slice D n c]:=by simp[Act.eval,hs]
 unfold Oper.wp execOp;simp only[e1,List.map_toArray,List.map_cons,List.map_nil];go_simp;exact h
theorem wp_sso{a:Act}{K:Act->World->Prop}{Q:Exit->Act->World->Prop}{t:TypeId}{p:String}{af:Array Edge}{gd:Option (Nat×Bool)}{x y:Tmp}{g j:Nat}{B:OA}{u:Value}(hx:a.tmps[x]?=some (.pointer (some ⟨g,j,none⟩)))(hy:a.tmps[y]?=some (.slice B n c))
  (hc:w.cell? ⟨g,j,none⟩=some u) (hf:w.frozen? ⟨g,j,none⟩=false) (h:K a (w.setCell ⟨g,j,none⟩ (.slice B n c))):
  Oper.wp Tryz.prog ⟨none,.store 33 (.tmp x) (.tmp y),t,p,af,gd⟩ a w K Q:=by
 exact x3je
structure RrAt(wr:World)(g0:Nat)(bx:Value)(f t o n s:Int)(acc:List Stp)(ds:List (Option Addr×Nat))(A:OA)(c:Nat):Prop where
 b:wr.heap[g0]?=some (.cells #[bx] 22 (0,0))
 z:wr.heap[g0+1]?=some (.cells (patA 0 0 0 0 0 none 0 0) 35 (0,0))
 p:wr.heap[g0+2]?=some (.cells (patA f t o n s A acc.length c) 35 (0,0))
 row:CRow wr (g0+3) acc ds A c
 nd:∀(i:Nat) (e:Option Addr×Nat),ds[i]?=some e->∀k,e.1.map (·.block)=some k->k<g0∧sliceBlk bx=some k
 le:g0+3<=wr.heap.size
 bd:∀q∈acc,I64 q.at_∧I64 q.len∧q.data.length<=140737488351232
theorem RrAt.below{wr w':World}{bx:Value}{f t o n s:Int}{acc:List Stp}(h:RrAt wr g0 bx f t o n s acc ds A c)(hb:Below wr.heap.size wr w'):RrAt w' g0 bx f t o n s acc ds A c:=
 ⟨blk_below h.b hb,blk_below h.z hb,blk_below h.p hb,h.row.below hb,h.nd,Nat.le_trans h.le hb.size,h.bd⟩
theorem RrAt.push{wr w5:World}{bx:Value}{f t o n s:Int}{acc:List Stp}{A':OA}{c':Nat}{x:Stp}{e:Option Addr×Nat}(h:RrAt wr g0 bx f t o n s acc ds A c)
  (hown:Own w5 (g0+3) 121 3 A' (acc.length+1) c' (opCells acc ds++opCell x e)) (hbel:Below (g0+3) wr w5) (hk:∀k,k<wr.heap.size->A.map (·.block)≠some k->w5.heap[k]?=wr.heap[k]?) (hor:A'.map (·.block)=A.map (·.block)∨∀k,A'.map (·.block)=some k->wr.heap.size<=k)
  (hd:Bts wr e.1 x.data) (hd2:x.data.length<=e.2) (he:∀k,e.1.map (·.block)=some k->k<g0∧sliceBlk bx=some k) (hx:I64 x.at_∧I64 x.len∧x.data.length<=140737488351232):
  (∃ds',RrAt (w5.setCell ⟨g0+2,5,none⟩ (.slice A' (acc.length+1) c')) g0 bx f t o n s (acc++[x]) ds' A' c')∧w5.heap[g0+2]?=some (.cells (patA f t o n s A acc.length c) 35 (0,0)):=by
 have hle:=h.le;have hl1:=hbel.size;have hrow:=h.row.push2 hown hbel hk hor hd hd2 (fun k hk=>⟨fun e2=>by have:=(h.row.row.block k e2).1;have:=(he k hk).1;omega,by have:=(he k hk).1;omega⟩);have h1:=(hbel.block g0 (by omega)).trans h.b;have hz:=(hbel.block (g0+1) (by omega)).trans h.z;have hp:=(hbel.block (g0+2) (by omega)).trans h.p;have hnd:∀(i:Nat) (y:Option Addr×Nat),(ds++[e])[i]?=some y->∀k,y.1.map (·.block)=some k->k<g0∧sliceBlk bx=some k:=fun i y hy k hk=>by
  rcases snoc_at hy with hy|⟨rfl,rfl⟩
  ·exact h.nd i y hy k hk
  exact he k hk
 refine⟨⟨ds++[e],set_blk2 h1 (by omega),set_blk2 hz (by omega),?_,hrow.setOther (own_far hrow.row (by omega)) (fun i y hy e2=>by have:=(hnd i y hy _ e2).1;omega) _,hnd,by simp;omega,?_⟩,hp⟩
 ·exact x3a2
 exact x2bs
theorem refPatRead_short(A:OA)(c:Nat)(b:LU)(w:World)(h:400<b.length∨b.length<8):
  Calls Tryz.prog 92 #[.slice A b.length c] w (PsRet w A (patRead b).1 (patRead b).2):=by
 have HBA:=qH (((bW w).alloc nl (.cells #[.slice A b.length c] 22)).alloc (by simp) (.cells (patA 0 0 0 0 0 none 0 0) 35));by_cases h1:400<b.length
 ·rw[patRead_many h1];have q:(400:Int)<(b.length:Int):=by omega
  exact x1hi
 have h1:b.length<8:=by omega
 rw[patRead_few h1];have q:¬(400:Int)<(b.length:Int):=by omega
 have q1:(b.length:Int)<8:=by omega
 exact x1hi
theorem refPatRead_long(A:OA)(c:Nat)(b:LU)(w:World)(hc:b.length<=c)(h1:b.length<=400)(h2:8<=b.length)(hB:Bts w A b):
  Calls Tryz.prog 92 #[.slice A b.length c] w (PsRet w A (patRead b).1 (patRead b).2):=by
 have hB1:=hB;obtain⟨ab,ao,rfl,hab,_⟩:=hB 0 (by omega);have hx:∀k,k<8->∃x,b.getD k 0=x∧∀w1,Below w.heap.size w w1->w1.cell? ⟨ab,ao+k,none⟩=some (bv x):=fun k hk=>by
  exact x0rd
 obtain⟨x8,e0x,X8⟩:=hx 0 (by decide);have X0w:=qH X8;have hu8:=x8.toNat_lt;have U8:Hid (IntKind.i64.wrap (x8.toNat:Int)=(x8.toNat:Int)):=qH (IntWalk.i64_in _ (by omega));have N8:Hid (¬b=[]):=qH (fun e=>by rw[e]at h2;simp at h2);obtain⟨x1,e1x,X9⟩:=hx 1 (by decide);have X1w:=qH X9;have hu1:=x1.toNat_lt;have U1:Hid (IntKind.i64.wrap (x1.toNat:Int)=(x1.toNat:Int)):=qH (IntWalk.i64_in _ (by omega));have N1:Hid (¬(b.length:Int)<=1):=qH (by omega);obtain⟨x2,e2x,X10⟩:=hx 2 (by decide);have X2w:=qH X10;have hu2:=x2.toNat_lt;have U2:Hid (IntKind.i64.wrap (x2.toNat:Int)=(x2.toNat:Int)):=qH (IntWalk.i64_in _ (by omega));have N2:Hid (¬(b.length:Int)<=2):=qH (by omega);obtain⟨x3,e3x,X11⟩:=hx 3 (by decide);have X3w:=qH X11;have hu3:=x3.toNat_lt;have U3:Hid (IntKind.i64.wrap (x3.toNat:Int)=(x3.toNat:Int)):=qH (IntWalk.i64_in _ (by omega));have N3:Hid (¬(b.length:Int)<=3):=qH (by omega);obtain⟨x4,e4x,X12⟩:=hx 4 (by decide);have X4w:=qH X12;have hu4:=x4.toNat_lt;have U4:Hid (IntKind.i64.wrap (x4.toNat:Int)=(x4.toNat:Int)):=qH (IntWalk.i64_in _ (by omega));have N4:Hid (¬(b.length:Int)<=4):=qH (by omega);obtain⟨x5,e5x,X13⟩:=hx 5 (by decide);have X5w:=qH X13;have hu5:=x5.toNat_lt;have U5:Hid (IntKind.i64.wrap (x5.toNat:Int)=(x5.toNat:Int)):=qH (IntWalk.i64_in _ (by omega));have N5:Hid (¬(b.length:Int)<=5):=qH (by omega);obtain⟨x6,e6x,X14⟩:=hx 6 (by decide);have X6w:=qH X14;have hu6:=x6.toNat_lt;have U6:Hid (IntKind.i64.wrap (x6.toNat:Int)=(x6.toNat:Int)):=qH (IntWalk.i64_in _ (by omega));have N6:Hid (¬(b.length:Int)<=6):=qH (by omega);obtain⟨x7,e7x,X15⟩:=hx 7 (by decide);have X7w:=qH X15;have hu7:=x7.toNat_lt;have U7:Hid (IntKind.i64.wrap (x7.toNat:Int)=(x7.toNat:Int)):=qH (IntWalk.i64_in _ (by omega));have N7:Hid (¬(b.length:Int)<=7):=qH (by omega);have HX:=qH hx;have HZ:Hid (¬patA 0 0 0 0 0 none 0 0=#[]):=qH (by simp[patA]);have HB1:=qH hB1;have HAB:=qH hab;clear hx hB hB1 hab X8 X9 X10 X11 X12 X13 X14 X15;have q1:¬(400:Int)<(b.length:Int):=by omega
 have q2:¬(b.length:Int)<8:=by omega
 go_enter Tryz.func92,Tryz.ntmps92;go_wp2_with fail;have HBA:=qH (((bW w).alloc nl (.cells #[.slice (some ⟨ab,ao,none⟩) b.length c] 22)).alloc (by simp) (.cells (patA 0 0 0 0 0 none 0 0) 35));obtain⟨wo,hwo⟩:=eX ((w.alloc (.cells #[.slice (some ⟨ab,ao,none⟩) b.length c] 22)).alloc (.cells (patA 0 0 0 0 0 none 0 0) 35));rw[hwo];have hwz:wo.heap.size=w.heap.size+2:=by rw[<-hwo];simp
 have HBo:Hid (Below w.heap.size w wo):=qH (hwo▸HBA.out);have HG2:Hid (wo.heap[w.heap.size]?=some (.cells #[.slice (some ⟨ab,ao,none⟩) b.length c] 22 (0,0))):=qH (hwo▸blk_old (blk_top rfl));have HG1:Hid (wo.heap[w.heap.size+1]?=some (.cells (patA 0 0 0 0 0 none 0 0) 35 (0,0))):=qH (hwo▸blk_top (by simp));have X8:Hid (∀w1,Below wo.heap.size wo w1->w1.cell? ⟨ab,ao,none⟩=some (bv x8)):=qH (fun w1 h=>X0w.out w1 (HBo.out.trans (h.mono (by omega))));have X1:Hid (∀w1,Below wo.heap.size wo w1->w1.cell? ⟨ab,ao+1,none⟩=some (bv x1)):=qH (fun w1 h=>X1w.out w1 (HBo.out.trans (h.mono (by omega))));have X2:Hid (∀w1,Below wo.heap.size wo w1->w1.cell? ⟨ab,ao+2,none⟩=some (bv x2)):=qH (fun w1 h=>X2w.out w1 (HBo.out.trans (h.mono (by omega))));have X3:Hid (∀w1,Below wo.heap.size wo w1->w1.cell? ⟨ab,ao+3,none⟩=some (bv x3)):=qH (fun w1 h=>X3w.out w1 (HBo.out.trans (h.mono (by omega))));have X4:Hid (∀w1,Below wo.heap.size wo w1->w1.cell? ⟨ab,ao+4,none⟩=some (bv x4)):=qH (fun w1 h=>X4w.out w1 (HBo.out.trans (h.mono (by omega))));have X5:Hid (∀w1,Below wo.heap.size wo w1->w1.cell? ⟨ab,ao+5,none⟩=some (bv x5)):=qH (fun w1 h=>X5w.out w1 (HBo.out.trans (h.mono (by omega))));have X6:Hid (∀w1,Below wo.heap.size wo w1->w1.cell? ⟨ab,ao+6,none⟩=some (bv x6)):=qH (fun w1 h=>X6w.out w1 (HBo.out.trans (h.mono (by omega))));have X7:Hid (∀w1,Below wo.heap.size wo w1->w1.cell? ⟨ab,ao+7,none⟩=some (bv x7)):=qH (fun w1 h=>X7w.out w1 (HBo.out.trans (h.mono (by omega))));clear hwo HBA;generalize hg0:w.heap.size=g0 at *
 have HGE:=qH hg0;have hab:=HAB.out;clear hg0;have BXC:Hid (∀w1,Below wo.heap.size wo w1->w1.cell? ⟨g0,0,none⟩=some (.slice (some ⟨ab,ao,none⟩) b.length c)):=qH (fun w1 h=>by rw[cell_of_row _ _ _ _ _ _ (blk_below HG2.out h)];rfl);have NUM1:Hid (∀w1,Below wo.heap.size wo w1->Calls Tryz.prog 110 #[iv 2,.pointer (some ⟨g0,0,none⟩)] w1 (RetN w1 (iv ((x2.toNat:Int)*256+(x3.toNat:Int))))):=qH (fun w1 h=>num2_calls (BXC.out w1 h) (X2.out w1 h) (X3.out w1 h) h2);have NUM2:Hid (∀w1,Below wo.heap.size wo w1->Calls Tryz.prog 110 #[iv 4,.pointer (some ⟨g0,0,none⟩)] w1 (RetN w1 (iv ((x4.toNat:Int)*256+(x5.toNat:Int))))):=qH (fun w1 h=>num4_calls (BXC.out w1 h) (X4.out w1 h) (X5.out w1 h) h2);refine wp_region_free (by kernel_rfl) (some 27::some 28::some 29::some 30::some 31::some 32::some 33::some 34::some 35::some 36::some 37::some 38::some 39::some 40::some 41::some 42::some 43::some 6::none::[]) (false::false::false::false::false::false::false::false::false::true::false::true::false::false::false::false::false::true::true::[]) (.slice (some ⟨ab,ao,none⟩) b.length c::.pointer (some ⟨ab,ao,none⟩)::bv x8::iv (x8.toNat:Int)::.slice (some ⟨ab,ao,none⟩) b.length c::.pointer (some ⟨ab,ao+1,none⟩)::bv x1::iv (x1.toNat:Int)::.func (Fn.func 110) #[] #[.pointer (some ⟨g0,0,none⟩)]::undef::.func (Fn.func 110) #[] #[.pointer (some ⟨g0,0,none⟩)]::undef::.slice (some ⟨ab,ao,none⟩) b.length c::.pointer (some ⟨ab,ao+6,none⟩)::bv x6::iv (x6.toNat:Int)::.agg (patA (x8.toNat:Int) (x1.toNat:Int) ((x2.toNat:Int)*256+(x3.toNat:Int)) ((x4.toNat:Int)*256+(x5.toNat:Int)) (x6.toNat:Int) none 0 0)::undef::undef::[]) (numJ wo ((x2.toNat:Int)*256+(x3.toNat:Int)) ((x4.toNat:Int)*256+(x5.toNat:Int)) (patA (x8.toNat:Int) (x1.toNat:Int) ((x2.toNat:Int)*256+(x3.toNat:Int)) ((x4.toNat:Int)*256+(x5.toNat:Int)) (x6.toNat:Int) none 0 0)) 140 rfl rfl (by decide+kernel) (by decide+kernel) (by decide+kernel) rfl rfl (⟨(Below.refl _ _).drew,fun h=>by simp at h,fun h=>by simp at h,by simp⟩) ?_ ?_
 ·refine⟨?_,?_,?_,?_,?_,?_,?_,?_,?_,?_,?_,?_,?_,?_,?_,?_,?_,?_,?_,trivial⟩;all_goals intro done cv a wq hn hw hcl h hJ
  ·exact x4da
  ·have e1:=fN 0 27 h hw;have hnk:=N8.out;go_simp
  ·have e1:=fN 1 28 h hw;have hx:=(X8.out wq hJ.bel);go_simp
  ·have e1:=fN 2 29 h hw;have hu:=U8.out;go_simp
  ·exact x4da
  ·have e1:=fN 4 31 h hw;have hnk:=N1.out;go_simp
  ·have e1:=fN 5 32 h hw;have hx:=(X1.out wq hJ.bel);go_simp
  ·have e1:=fN 6 33 h hw;have hu:=U1.out;go_simp
  ·exact x7rz
  ·have e1:=fN 8 35 h hw;refine wp_callv (vals:=#[iv 2,.pointer (some ⟨g0,0,none⟩)]) e1 (by simp[Act.eval]) (enters_of Tryz.func110 (by kernel_rfl) rfl _ _) (NUM1.out wq hJ.bel) ?_;rintro e w' ⟨rfl,n,rfl⟩;exact⟨_,rfl,_,rfl,hJ.c9 n⟩
  ·exact x7rz
  ·have e1:=fN 10 37 h hw;refine wp_callv (vals:=#[iv 4,.pointer (some ⟨g0,0,none⟩)]) e1 (by simp[Act.eval]) (enters_of Tryz.func110 (by kernel_rfl) rfl _ _) (NUM2.out wq hJ.bel) ?_;rintro e w' ⟨rfl,n,rfl⟩;exact⟨_,rfl,_,rfl,hJ.c11 n⟩
  ·exact x4da
  ·have e1:=fN 12 39 h hw;have hnk:=N6.out;go_simp
  ·have e1:=fN 13 40 h hw;have hx:=(X6.out wq hJ.bel);go_simp
  ·have e1:=fN 14 41 h hw;have hu:=U6.out;go_simp
  ·have e1:=fN 3 30 h hw;have e34:=fN 7 34 h hw;have e36:=fr_cv (i:=9) (t:=36) h (hw 9 (by decide)) rfl rfl;have e38:=fr_cv (i:=11) (t:=38) h (hw 11 (by decide)) rfl rfl;have e42:=fN 15 42 h hw;have hz:=HZ.out;have h1:=hJ.g9 (by unfold maskB;rw[hw 9 (by decide)];rfl);have h2:=hJ.g11 (by unfold maskB;rw[hw 11 (by decide)];rfl);rw[h1]at e36;rw[h2]at e38;go_simp
  ·have hd2:¬maskB [false,false,false,false,false,false,false,false,false,true,false,true,false,false,false,false,false,true,true] done 18=true:=by unfold maskB;rw[show done 18=false from Bool.eq_false_iff.2 (fun e=>by have:=hcl 18 _ rfl e 17 (by decide);rw[hn]at this;cases this)];simp
   have hd1:¬maskB [false,false,false,false,false,false,false,false,false,true,false,true,false,false,false,false,false,true,true] done 17=true:=by unfold maskB;rw[hn];simp
   have k1:=hJ.zero hd2 hd1;refine wp_alloc6 ⟨_,rfl,?_⟩;exact hJ.made hd2 k1
  ·have e1:=fr_cv (i:=17) (t:=6) h (hw 17 (by decide)) rfl rfl;have e43:=fN 16 43 h hw;have hd2:¬maskB [false,false,false,false,false,false,false,false,false,true,false,true,false,false,false,false,false,true,true] done 18=true:=by unfold maskB;rw[hn];simp
   have hd1:maskB [false,false,false,false,false,false,false,false,false,true,false,true,false,false,false,false,false,true,true] done 17=true:=by unfold maskB;rw[hw 17 (by decide)];rfl
   obtain⟨y1,y2,y3⟩:=hJ.one hd2 hd1;rw[y1]at e1;obtain⟨q1,q2,q3,q4,q5⟩:=blkFacts y2 (by simp[patA]);refine wp_st6 e1 e43 q1 q2 ⟨by simp[patA],by simp[patA],patA_one _ _ _ _ _ _ _ _⟩ ⟨undef,rfl,?_⟩;exact hJ.put y1 y2 y3
 intro dn cv wL hall hJ;obtain⟨y1,y2,y3⟩:=hJ.two (hall 18 rfl (by decide));have hbl:=hJ.bel;simp only[freeAll,putAll_some,putAll_none,putAll_nil,List.getD_cons_zero,List.getD_cons_succ,Bool.false_eq_true,if_true,if_false,reduceIte,Nat.zero_add,Nat.reduceAdd,List.setIfInBounds_toArray,List.set_cons_zero,List.set_cons_succ];rw[y1,hwz];rw[hwz]at y2;have hRR:RrAt wL g0 (.slice (some ⟨ab,ao,none⟩) b.length c) (x8.toNat:Int) (x1.toNat:Int) ((x2.toNat:Int)*256+(x3.toNat:Int)) ((x4.toNat:Int)*256+(x5.toNat:Int)) (x6.toNat:Int) [] [] none 0:=
  ⟨blk_below HG2.out hbl,blk_below HG1.out hbl,y2,CRow.nil _ _,fun i e h=>by simp at h,by omega,fun q h=>by cases h⟩
 have HRX:=qH hRR;have HB:Hid (Below w.heap.size w wL):=qH ((HGE.out.symm▸HBo.out).trans (hbl.mono (by have:=HGE.out;omega)));have u1:=U7.out;have n1:=N7.out;obtain⟨N,hN⟩:=eX (x7.toNat);have HX1:Hid (∀w1,Below wo.heap.size wo w1->w1.cell? ⟨ab,ao+7,none⟩=some (.int .u8 (N:Int))):=qH (fun w1 h=>by have:=X7.out w1 h;rw[<-hN];exact this);rw[hN]at u1 hu7;obtain⟨R,hRR⟩:=eX (readOps N (b.drop 8) []);have HPR:Hid (patRead b=readDone b R):=qH (by unfold patRead;rw[if_neg (by omega),if_neg (by omega),e7x,hN,hRR]);have HRR:=qH hRR;have HHEAD:Hid (∀ops,headPat b ops=⟨(x8.toNat:Int),(x1.toNat:Int),((x2.toNat:Int)*256+(x3.toNat:Int)),((x4.toNat:Int)*256+(x5.toNat:Int)),(x6.toNat:Int),ops⟩):=qH (fun ops=>by unfold headPat;rw[e0x,e1x,e2x,e3x,e4x,e5x,e6x]);have HFB:Hid (0<=(x8.toNat:Int)∧(x8.toNat:Int)<=255∧0<=(x1.toNat:Int)∧(x1.toNat:Int)<=255∧0<=((x2.toNat:Int)*256+(x3.toNat:Int))∧((x2.toNat:Int)*256+(x3.toNat:Int))<=65535∧0<=((x4.toNat:Int)*256+(x5.toNat:Int))∧((x4.toNat:Int)*256+(x5.toNat:Int))<=65535∧0<=(x6.toNat:Int)∧(x6.toNat:Int)<=255):=qH (by omega);have HBT:Hid (∀w1,Below wo.heap.size wo w1->Bts w1 (some ⟨ab,ao,none⟩) b):=qH (fun w1 h=>HB1.out.stays (HGE.out▸(HBo.out.trans (h.mono (by omega)))));have HWL:Hid (Below wo.heap.size wo wL):=qH hbl;generalize patRead b=pr at *
 clear hall y1 y2 y3 hRR hbl e0x e1x e2x e3x e4x e5x e6x e7x hu8 hu1 hu2 hu3 hu4 hu5 hu6 X8 X1 X2 X3 X4 X5 X6 X7 X0w X1w X2w X3w X4w X5w X6w X7w U8 U1 U2 U3 U4 U5 U6 U7 N8 N1 N2 N3 N4 N5 N6 N7 HX HZ NUM1 NUM2 HB1 BXC;generalize ((x2.toNat:Int)*256+(x3.toNat:Int))=p2 at *
 generalize ((x4.toNat:Int)*256+(x5.toNat:Int))=p3 at *
 generalize (x8.toNat:Int)=p0 at *
 generalize (x1.toNat:Int)=p1 at *
 generalize (x6.toNat:Int)=p4 at *
 go_wp2_with fail;go_loopw [7,8] (fun iv_ kv wr=>∃(k i:Nat) (acc:List Stp) (ds:List (Option Addr×Nat)) (A:OA) (c0:Nat),iv_=iv (i:Int)∧kv=iv (k:Int)∧k<=N∧8<=i∧i<=b.length∧acc.length<=k∧Hid (readOps (N-k) (b.drop i) acc=R)∧Hid (RrAt wr g0 (.slice (some ⟨ab,ao,none⟩) b.length c) p0 p1 p2 p3 p4 acc ds A c0)∧Hid (Below w.heap.size w wr)∧Hid (Below wo.heap.size wo wr)) (fun _ kv _=>N-(intOf kv).toNat)
 case atStart=>exact⟨0,8,[],[],none,0,rfl,rfl,Nat.zero_le _,nl,h2,nl,HRR,HRX,HB,HWL⟩
 case round=>
  clear HRX HB HWL HRR;rename World=>wr;obtain⟨k,i,acc,ds,A,c0,rfl,rfl,hk,hi1,hib,hacc,HE,HRX,HB,HW⟩:=hrel;have hgz:=HRX.out.le;have hx2:=HX1.out wr HW.out;obtain⟨v1,v2,v3,v4,v5⟩:=blkFacts HRX.out.b (by simp);have hwi2:IntKind.i64.wrap ((i:Int)+2)=(i:Int)+2:=IntWalk.i64_in _ (by omega);by_cases hkN:k<N
  ·have dl:decide ((k:Int)<(N:Int))=true:=decide_eq_true (by omega);obtain⟨m,hm⟩:∃m,N-k=m+1:=⟨N-k-1,by omega⟩;by_cases hr1:b.length<i+2
   ·have d1:decide ((b.length:Int)<(i:Int)+2)=true:=decide_eq_true (by omega);have hz:pr=(Pat.zero,7):=by
     rw[HPR.out,<-HE.out,hm,readOps_short (by rw[List.length_drop];omega)];unfold readDone;rw[if_pos (by decide)]
    have HZZ:=qH hz;clear hz;go_wp2_with fail;refine(bad_calls _ _).mono ?_;rintro e wz ⟨rfl,hbz⟩;have hz1:=blk_below HRX.out.z hbz;obtain⟨z1,z2,z3,z4,z5⟩:=blkFacts hz1 (by simp[patA]);have HBZ:=bT HB hbz;exact x7nu
   have d1:decide ((b.length:Int)<(i:Int)+2)=false:=decide_eq_false (by omega);have hbt:=HBT.out wr HW.out;obtain⟨x,hxe⟩:=eX (b[i]);obtain⟨y,hye⟩:=eX (b[i+1]);have hdr:b.drop i=x::y::b.drop (i+2):=by rw[List.drop_eq_getElem_cons (by omega:i<b.length),hxe,List.drop_eq_getElem_cons (by omega:i+1<b.length),hye]
   have hx1:wr.cell? ⟨ab,ao+i,none⟩=some (bv x):=by
    obtain⟨b',o',e,hlt,hcc⟩:=hbt i (by omega);injection e with e;injection e with e1 e2;subst e1 e2;rw[hxe]at hcc;exact hcc
   have hy1:wr.cell? ⟨ab,ao+(i+1),none⟩=some (bv y):=by
    obtain⟨b',o',e,hlt,hcc⟩:=hbt (i+1) (by omega);injection e with e;injection e with e1 e2;subst e1 e2;rw[hye]at hcc;exact hcc
   have hxl:=x.toNat_lt;have hyl:=y.toNat_lt;have ux:IntKind.i64.wrap (x.toNat:Int)=(x.toNat:Int):=IntWalk.i64_in _ (by omega);have uy:IntKind.i64.wrap (y.toNat:Int)=(y.toNat:Int):=IntWalk.i64_in _ (by omega);have hwi1:IntKind.i64.wrap ((i:Int)+1)=(i:Int)+1:=IntWalk.i64_in _ (by omega);have nb2:¬(b.length:Int)<=(i:Int):=by omega
   have nb1:¬(b.length:Int)<=(i:Int)+1:=by omega
   have HDR:=qH hdr;clear hbt hxe hye hdr;go_wp2_with fail;go_quiet (fail)
   have hqb:=below_drewN wr nq;have HR1:=qH (HRX.out.below hqb);have HB1:Hid (Below w.heap.size w (wr.drewN nq)):=qH (Below.drewN' HB.out nq);have HW1:Hid (Below wo.heap.size wo (wr.drewN nq)):=qH (Below.drewN' HW.out nq);clear hqb hx1 hy1 hx2 v1 v2 v3 v4 v5 hgz;generalize wr.drewN nq=w2 at *
   have hgz:=HR1.out.le;obtain⟨v1,v2,v3,v4,v5⟩:=blkFacts HR1.out.b (by simp);by_cases hx:x=255
   ·have hxn:x.toNat=255:=by rw[hx];rfl
    have d1:((x.toNat:Int)==255)=true:=by simp[hxn]
    have hrd:=HE.out;rw[hm,HDR.out,hx,readOps_data]at hrd;have HM1:=qH hm;have hwy:IntKind.i64.wrap ((i:Int)+2+(y.toNat:Int))=(i:Int)+2+(y.toNat:Int):=IntWalk.i64_in _ (by omega);clear hm hxn;by_cases hy:b.length<i+2+y.toNat
    ·have d1:decide ((b.length:Int)<(i:Int)+2+(y.toNat:Int))=true:=decide_eq_true (by omega);have hz:pr=(Pat.zero,7):=by
      rw[HPR.out,<-hrd,if_pos (by rw[List.length_drop];omega)];unfold readDone;rw[if_pos (by decide)]
     have HZZ:=qH hz;have HRX:=HR1;clear hz hrd;exact x41v
    have d1:decide ((b.length:Int)<(i:Int)+2+(y.toNat:Int))=false:=decide_eq_false (by omega);rw[if_neg (by rw[List.length_drop];omega)]at hrd;have HNX:Hid (readOps (N-(k+1)) (b.drop (i+2+y.toNat)) (acc++[⟨0,0,(b.drop (i+2)).take y.toNat⟩])=R):=qH (by rw[show N-(k+1)=m by have:=HM1.out;omega,<-List.drop_drop];exact hrd);obtain⟨o1,c1,hc1,hB1,hsl1⟩:=mid_slice (z1:=(i:Int)+2) (z2:=(i:Int)+2+(y.toNat:Int)) (i+2) y.toNat (by simp) (by simp) hc (by omega) (HBT.out w2 HW1.out);have HB2:=qH hB1;have HSL1:=qH hsl1;have HWY:=qH hwy;have HTL:Hid (((b.drop (i+2)).take y.toNat).length=y.toNat):=qH (by simp;omega);clear hrd hB1 hsl1;go_wp2_with fail;refine wp_region_mix (by kernel_rfl) (some 100::some 101::some 102::some 103::some 104::some 105::some 106::some 107::some 108::some 109::some 110::some 111::none::[]) (none::none::none::none::none::none::none::none::none::some 0::some 1::none::some 2::[]) (.pointer (some ⟨g0+2,5,none⟩)::.slice A acc.length c0::.slice (some ⟨ab,ao,none⟩) b.length c::iv ((i:Int)+2)::iv ((i:Int)+2)::iv (y.toNat:Int)::iv ((i:Int)+2+(y.toNat:Int))::.slice (some ⟨ab,o1,none⟩) y.toNat c1::.agg #[iv 0,iv 0,.slice (some ⟨ab,o1,none⟩) y.toNat c1]::undef::undef::.pointer (some ⟨g0+2,5,none⟩)::undef::[]) 3 (apJ w2 (g0+3) 121 3 A acc.length c0 (opCells acc ds) [iv 0,iv 0,.slice (some ⟨ab,o1,none⟩) y.toNat c1] 1 9 10 (apF w2 (g0+3) 121 3 A acc.length c0 (opCells acc ds) [iv 0,iv 0,.slice (some ⟨ab,o1,none⟩) y.toNat c1] 1 (g0+2) 5)) 140 rfl rfl (by decide+kernel) (by decide+kernel) (by decide+kernel) (by decide+kernel) rfl rfl (by decide+kernel) (by decide+kernel) (rfl) ?_ ?_
    ·refine⟨?_,?_,?_,?_,?_,?_,?_,?_,?_,?_,?_,?_,?_,trivial⟩
     ·exact x888
     ·intro done cv k1 a wq hw h hJ hn;have e1:=mN 0 100 h hw;have hk:=hn 10 _ 1 rfl rfl (by decide);have hc:wq.cell? ⟨g0+2,5,none⟩=some (.slice A acc.length c0):=by rw[cell_of_row _ _ _ _ _ _ (apJ_blk hk hJ HR1.out.p)];rfl
      go_simp
     ·intro done cv k1 a wq hw h hJ hn;have e1:=mO 1 (.pointer (some ⟨g0,0,none⟩)) h;have hc:wq.cell? ⟨g0,0,none⟩=some (.slice (some ⟨ab,ao,none⟩) b.length c):=by rw[cell_of_row _ _ _ _ _ _ (apJ_any hJ HR1.out.b (own_far HR1.out.row.row (by omega)) (by omega))];rfl
      go_simp
     ·exact x7kh
     ·exact x7kh
     ·intro done cv k1 a wq hw h hJ hn;have e1:=mO 10 (iv (y.toNat:Int)) h;exact mx_move (ch_ev e1)
     ·intro done cv k1 a wq hw h hJ hn;have e1:=mN 4 104 h hw;have e105:=mN 5 105 h hw;have hw1:=HWY.out;go_simp
     ·intro done cv k1 a wq hw h hJ hn;have e1:=mN 2 102 h hw;have e103:=mN 3 103 h hw;have e106:=mN 6 106 h hw;have hsl:=HSL1.out;go_simp
     ·intro done cv k1 a wq hw h hJ hn;have e1:=mN 7 107 h hw;go_simp
     ·intro done cv a wq hw h hJ;have e1:=mN 8 108 h hw;obtain rfl:wq=w2.drew:=hJ;exact wp_sbo e1 ⟨_,rfl,rfl,by simp⟩
     ·intro done cv a wq hw h hJ;have e1:=mN 1 101 h hw;have e109:=mx_cv (i:=9) (t:=109) h (hw 9 (by decide)) rfl rfl;obtain⟨rfl,y1⟩:=hJ;rw[y1]at e109;refine wp_app _ (.tmp 101) (.tmp 109) 33 rfl elOps (g0+3) A acc.length c0 (opCells acc ds) (ch_ev e1) (HR1.out.row.row.drew.alloc _) (some ⟨w2.heap.size,0,none⟩) 1 1 [iv 0,iv 0,.slice (some ⟨ab,o1,none⟩) y.toNat c1] (ch_ev e109) (src_blk (blk_top (by simp))) rfl (by simp[Value.oneCell']) (by omega) (by have:=HR1.out.le;simp;omega) ?_;intro A' c' w' hown hgr hbel hor;exact⟨_,rfl,apJ_app hown hgr hbel hor HR1.out.le⟩
     ·exact x888
     ·intro done cv a wq hw h hJ;have e1:=mN 11 111 h hw;have e110:=mx_cv (i:=10) (t:=110) h (hw 10 (by decide)) rfl rfl;obtain⟨A1,c1,y1,k3,k1,k2,k4⟩:=hJ;rw[y1]at e110;have hp:=(k2 (g0+2) (by have:=HR1.out.le;omega) (own_far HR1.out.row.row (by omega))).trans HR1.out.p;obtain⟨q1,q2,q3,q4,q5⟩:=blkFacts hp (by simp[patA]);exact wp_sso e1 e110 ((q3 5).trans rfl) (q4 5) ⟨undef,rfl,A1,c1,wq,rfl,k3,k1,k2,k4⟩
    rintro cv w1 ⟨A1,c2,wq,rfl,hown,hbel,hk1,hor⟩;simp only[mixAll,putAll_some,putAll_none,putAll_nil,List.getElem?_cons_zero,List.getElem?_cons_succ,Nat.zero_add,Nat.reduceAdd,List.setIfInBounds_toArray,List.set_cons_zero,List.set_cons_succ];obtain⟨⟨ds',hrd⟩,hp1⟩:=HR1.out.push (x:=⟨0,0,(b.drop (i+2)).take y.toNat⟩) (e:=(some ⟨ab,o1,none⟩,c1)) (by unfold opCell;dsimp only;rw[HTL.out];exact hown) hbel hk1 hor HB2.out (by dsimp only;rw[HTL.out];exact hc1) (fun q e=>by injection e with e;have e3:ab=q:=e;exact⟨by omega,by rw[<-e3];rfl⟩) ⟨⟨by dsimp only;omega,by dsimp only;omega⟩,⟨by dsimp only;omega,by dsimp only;omega⟩,by dsimp only;rw[HTL.out];omega⟩;have HRD1:=qH hrd;have HB1:Hid (Below w.heap.size w (wq.setCell ⟨g0+2,5,none⟩ (.slice A1 (acc.length+1) c2))):=qH ((HB1.out.trans (hbel.mono (by have:=HGE.out;omega))).setCell (p:=⟨g0+2,5,none⟩) (by have:=HGE.out;show w.heap.size<=g0+2;omega) _);have HW1:Hid (Below wo.heap.size wo (wq.setCell ⟨g0+2,5,none⟩ (.slice A1 (acc.length+1) c2))):=qH ((HW1.out.trans (hbel.mono (by omega))).setCell (p:=⟨g0+2,5,none⟩) (by show wo.heap.size<=g0+2;omega) _);clear hown hbel hk1 hor hrd hp1 v1 v2 v3 v4 v5;go_wp2_with fail;go_roundw
    case rel=>exact⟨k+1,i+2+y.toNat,acc++[⟨0,0,(b.drop (i+2)).take y.toNat⟩],ds',A1,c2,by go_num,by go_num,by omega,by omega,by omega,by simp;omega,HNX,HRD1,HB1,HW1⟩
    case measure=>simp[intOf];omega
   have d1:((x.toNat:Int)==255)=false:=by
    exact x41l
   have hrd:=HE.out;rw[hm,HDR.out]at hrd;have HM1:=qH hm;clear hm;by_cases hy:y=0
   ·subst hy;have d1:(((0:UInt8).toNat:Int)==0)=true:=by decide
    rw[readOps_zero hx]at hrd;have hz:pr=(Pat.zero,3):=by
     rw[HPR.out,<-hrd];unfold readDone;rw[if_pos (by decide)]
    have HZZ:=qH hz;have HRX:=HR1;clear hz hrd;exact x41v
   have hyn:y.toNat≠0:=fun e=>hy (UInt8.toNat_inj.1 (by rw[e];rfl));have d1:((y.toNat:Int)==0)=false:=by simp;omega
   rw[readOps_copy hx hy]at hrd;have HNX:Hid (readOps (N-(k+1)) (b.drop (i+2)) (acc++[⟨(x.toNat:Int),(y.toNat:Int),[]⟩])=R):=qH (by rw[show N-(k+1)=m by have:=HM1.out;omega];exact hrd);clear hrd hyn;obtain⟨q1,q2,q3,q4,q5⟩:=blkFacts HR1.out.p (by simp[patA]);have hoa:=HR1.out.row.row.alloc (.cells #[iv (x.toNat:Int),iv (y.toNat:Int),.slice none 0 0] 121);have hs1:Src (w2.alloc (.cells #[iv (x.toNat:Int),iv (y.toNat:Int),.slice none 0 0] 121)) (some ⟨w2.heap.size,0,none⟩) [iv (x.toNat:Int),iv (y.toNat:Int),.slice none 0 0]:=src_blk (blk_top rfl);have hob:acc.length+1<=137438953472:=by omega
   have hle:g0+3<=(w2.alloc (.cells #[iv (x.toNat:Int),iv (y.toNat:Int),.slice none 0 0] 121)).heap.size:=by simp;omega
   go_wp2_with (at_builtin;go_must (refine wpList_app (w2.alloc (.cells #[iv (x.toNat:Int),iv (y.toNat:Int),.slice none 0 0] 121)) rfl _ _ 33 rfl elOps (g0+3) A acc.length c0 (opCells acc ds) rfl hoa (some ⟨w2.heap.size,0,none⟩) 1 1 [iv (x.toNat:Int),iv (y.toNat:Int),.slice none 0 0] rfl hs1 rfl (by simp[Value.oneCell']) hob hle ?_));intro A' c' w5 hown hgr hbel hor;have hb1:Below (g0+3) w2 w5:=((Below.refl _ _).alloc (by omega) _).trans hbel;have hk1:∀q,q<w2.heap.size->A.map (·.block)≠some q->w5.heap[q]?=w2.heap[q]?:=fun q h1 h2=>(hgr.block q (by simp;omega) (fun e=>h2 e.symm)).trans (Below.heap_alloc w2 _ q h1);have hor1:A'.map (·.block)=A.map (·.block)∨∀q,A'.map (·.block)=some q->w2.heap.size<=q:=by
    rcases hor with h|h
    ·exact .inl h
    exact .inr (fun q e=>by obtain⟨ad,e1,e2⟩:=h;rw[e1]at e;simp at e;omega)
   obtain⟨⟨ds',hrd⟩,hp1⟩:=HR1.out.push (x:=⟨(x.toNat:Int),(y.toNat:Int),[]⟩) (e:=(none,0)) hown hb1 hk1 hor1 (Bts.nil _ _) nl (fun q e=>by cases e) ⟨⟨by dsimp only;omega,by dsimp only;omega⟩,⟨by dsimp only;omega,by dsimp only;omega⟩,by simp⟩;obtain⟨p1,p2',p3',p4',p2⟩:=blkFacts hp1 (by simp[patA]);have HRD1:=qH hrd;have HB1:Hid (Below w.heap.size w (w5.setCell ⟨g0+2,5,none⟩ (.slice A' (acc.length+1) c'))):=qH ((HB1.out.trans (hb1.mono (by have:=HGE.out;omega))).setCell (p:=⟨g0+2,5,none⟩) (by have:=HGE.out;show w.heap.size<=g0+2;omega) _);have HW1:Hid (Below wo.heap.size wo (w5.setCell ⟨g0+2,5,none⟩ (.slice A' (acc.length+1) c'))):=qH ((HW1.out.trans (hb1.mono (by omega))).setCell (p:=⟨g0+2,5,none⟩) (by show wo.heap.size<=g0+2;omega) _);clear hown hgr hbel hor hoa hs1 hob hle hrd hp1 hb1 hk1 hor1 v1 v2 v3 v4 v5 q1 q2 q3 q4 q5;go_wp2_with fail;go_roundw
   case rel=>exact⟨k+1,i+2,acc++[⟨(x.toNat:Int),(y.toNat:Int),[]⟩],ds',A',c',by go_num,by go_num,by omega,by omega,by omega,by simp;omega,HNX,HRD1,HB1,HW1⟩
   case measure=>simp[intOf];omega
  obtain rfl:k=N:=by omega
  have dl:decide ((k:Int)<(k:Int))=false:=by simp
  have hR1:R=(0,acc,b.drop i):=by rw[<-HE.out,Nat.sub_self,readOps_nil]
  rw[hR1]at HPR;clear hR1 HE;by_cases hre:i<b.length
  ·have d1:decide ((i:Int)<(b.length:Int))=true:=decide_eq_true (by omega);have hz:pr=(Pat.zero,7):=by
    rw[HPR.out];unfold readDone;rw[if_neg (by simp),if_pos (by intro e;have:=congrArg List.length e;rw[List.length_drop]at this;simp at this;omega)]
   have HZZ:=qH hz;clear hz;go_wp2_with fail;refine(bad_calls _ _).mono ?_;rintro e wz ⟨rfl,hbz⟩;have hz1:=blk_below HRX.out.z hbz;obtain⟨z1,z2,z3,z4,z5⟩:=blkFacts hz1 (by simp[patA]);have HBZ:=bT HB hbz;exact x7nu
  have d1:decide ((i:Int)<(b.length:Int))=false:=decide_eq_false (by omega);have hdn:b.drop i=[]:=List.drop_eq_nil_of_le (by omega);have hdone:pr=if patCheck ⟨p0,p1,p2,p3,p4,acc⟩≠0 then (Pat.zero,patCheck ⟨p0,p1,p2,p3,p4,acc⟩)else (⟨p0,p1,p2,p3,p4,acc⟩,0):=by
   rw[HPR.out,hdn];unfold readDone;rw[if_neg (by simp),if_neg (by simp),HHEAD.out]
  have HDN:=qH hdone;obtain⟨q1,q2,q3,q4,q5⟩:=blkFacts HRX.out.p (by simp[patA]);have HCK:=qH (refPatCheckR_calls A c0 p0 p1 p2 p3 p4 acc wr (by omega) (HRX.out.row.sps HRX.out.bd));clear hdone hdn HHEAD HPR;by_cases hck:patCheck ⟨p0,p1,p2,p3,p4,acc⟩=0
  ·have hz:pr=(⟨p0,p1,p2,p3,p4,acc⟩,0):=by rw[HDN.out,if_neg (by simpa using hck)]
   rw[hck]at HCK;have HZZ:=qH hz;clear hz hck HDN;go_wp2_with fail;refine HCK.out.mono ?_;rintro e w1 ⟨rfl,hb1⟩;have HRD1:=qH (HRX.out.below hb1);have HB1:=bT HB hb1;clear hb1 v1 v2 v3 v4 v5 q1 q2 q3 q4 q5;obtain⟨z1,z2,z3,z4,z5⟩:=blkFacts HRD1.out.z (by simp[patA]);obtain⟨q1,q2,q3,q4,q5⟩:=blkFacts HRD1.out.p (by simp[patA]);have ng:¬g0+2=g0+1:=by omega
   go_wp2_with fail;refine bodyPost_ret (rC (patA p0 p1 p2 p3 p4 A acc.length c0)) rfl ?_;rw[HZZ.out];have hpin:∀v:World,(∀k,g0+3<=k∨sliceBlk (.slice (some ⟨ab,ao,none⟩) b.length c)=some k->k<w1.heap.size->v.heap[k]?=w1.heap[k]?)->PatIn v ⟨p0,p1,p2,p3,p4,acc⟩ A c0:=fun v hv=>by
    refine⟨HRD1.out.row.row.le,by dsimp only;omega,HRD1.out.row.freshB (fun i e h k hk=>(HRD1.out.nd i e h k hk).2) HRD1.out.bd hv,?_,?_,?_,?_,?_⟩;all_goals (obtain⟨f1,f2,f3,f4,f5,f6,f7,f8,f9,f10⟩:=HFB.out;exact⟨by dsimp only;omega,by dsimp only;omega⟩)
   have hab1:=HAB.out;have hge1:=HGE.out;refine⟨A,c0,rfl,hpin _ (fun k hk _=>setRow_other _ _ _ _ (fun e=>?_)),below_row HB1.out (by have:=HGE.out;omega) _,fun v hv=>hpin v (fun k hk hlt=>(hv k ?_ (by simpa[World.setRow]using hlt)).trans (setRow_other _ _ _ _ (fun e=>?_)))⟩
   ·rcases hk with h|h
    ·omega
    ·have h1:ab=k:=by injection h
     omega
   ·rcases hk with h|h
    ·exact .inl (by omega)
    ·exact .inr h
   rcases hk with h|h
   ·omega
   have h1:ab=k:=by injection h
   omega
  have hz:pr=(Pat.zero,patCheck ⟨p0,p1,p2,p3,p4,acc⟩):=by rw[HDN.out,if_pos hck]
  have d1:(patCheck ⟨p0,p1,p2,p3,p4,acc⟩ !=0)=true:=by simp[hck]
  have HZZ:=qH hz;clear hz hck HDN;generalize patCheck ⟨p0,p1,p2,p3,p4,acc⟩=ck at *
  go_wp2_with fail;refine HCK.out.mono ?_;rintro e w1 ⟨rfl,hb1⟩;have HRX:=qH (HRX.out.below hb1);have HB1:=bT HB hb1;clear hb1 v1 v2 v3 v4 v5 q1 q2 q3 q4 q5;exact x41v
theorem refPatReadS_calls(A:OA)(c:Nat)(b:LU)(w:World)(hc:b.length<=c)(hB:Bts w A b):
  Calls Tryz.prog 92 #[.slice A b.length c] w (PsRet w A (patRead b).1 (patRead b).2):=by
 by_cases h:400<b.length∨b.length<8
 ·exact refPatRead_short A c b w h
 exact refPatRead_long A c b w hc (by omega) (by omega) hB
end Go.Proofs.YtefkfglkpebbmacGreat
