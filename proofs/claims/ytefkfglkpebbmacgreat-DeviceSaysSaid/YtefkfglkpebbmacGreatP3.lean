/- Walks of functions, and plain words. No conditions. -/
import Derived.Test.YtefkfglkpebbmacGreatPE3
import Derived.Test.YtefkfglkpebbmacGreatP1
set_option linter.unusedVariables false
set_option linter.unusedSimpArgs false
set_option maxRecDepth 100000
set_option maxHeartbeats 40000000
namespace Go.Proofs.YtefkfglkpebbmacGreat
open Go.RowKit
variable {Y:Prop}
variable {cs:Array Value} {T t:TypeId} {w:World} {a:Act} {K:Act->World->Prop} {Q:Exit->Act->World->Prop} {af:Array Edge} {gd:Option (Nat×Bool)} {g c:Nat} {v:Value}
theorem x0rd(h:Y:=by
 refine⟨b[k],by rw[List.getD_eq_getElem?_getD,List.getElem?_eq_getElem (by omega)];rfl,fun w1 hb=>?_⟩;obtain⟨b',o',e,hlt,hcc⟩:=(hB.stays hb) k (by omega);injection e with e;injection e with e1 e2;subst e1 e2;exact hcc):Y:=h
theorem x0s6(h:Y:=by
 have e1:=fO 6 (.pointer (some ⟨g6,0,none⟩)) h;go_simp):Y:=h
theorem x11j(h:Y:=by
 rw[allJ,if_pos (by simp)];exact⟨by simpa using y1,by rw[setRow_alloc,if_pos (by simp)]⟩):Y:=h
theorem x2bs(h:Y:=by
 intro q hq;rcases List.mem_append.1 hq with hq|hq
 ·exact h.bd q hq
 rw[List.mem_singleton.1 hq];exact hx):Y:=h
theorem x3a2(h:Y:=by
 have:=set_blk (j:=5) (v:=.slice A' (acc.length+1) c') hp;rw[patA_set5]at this;rw[List.length_append];exact this):Y:=h
theorem x3rg(h:Y:=by
 have e1:=fO 0 (.slice (some ⟨ab,o1,none⟩) (r.length+1+1) c1) h;exact mx_move (ch_ev e1)):Y:=h
theorem x41l(h:Y:=by
 have:x.toNat≠255:=fun e=>hx (UInt8.toNat_inj.1 (by rw[e];rfl));simp;omega):Y:=h
theorem x43n(h:Y:=by
 rw[hr,splice_all _ _ (by omega)]at hst;unfold Oper.wp;simp only[execOp,e1,e2,Sem.run_bind,hst,Result.andThen_ok];exact h):Y:=h
theorem x4qz(h:Y:=by
 go_wp2_with fail;refine bodyPost_ret (rC (patA 0 0 0 0 0 none 0 0)) rfl ?_;rw[HZZ.out];exact⟨none,0,rfl,.const fun v=>patIn_zero v,HBE.out.symm▸below_row HB.out nl _⟩):Y:=h
theorem x763(h:Y:=by
 have HZZ:=qH hz;clear hz hrd;go_wp2_with fail;refine bodyPost_ret (rC (patA 0 0 0 0 0 none 0 0)) rfl ?_;rw[HZZ.out];exact⟨none,0,rfl,.const fun v=>patIn_zero v,HBE.out.symm▸below_row HBB1.out nl _⟩):Y:=h
theorem x7bl(h:Y:=by
 have e1:=fO 0 (.slice (some ⟨ab,ao,none⟩) b.length c) h;exact mx_move (ch_ev e1)):Y:=h
theorem x7e9(h:Y:=by
 rw[allJ,if_neg (by simp;simpa using hd2),if_pos (by simp)];exact⟨by simp,rfl⟩):Y:=h
def allJ(wo:World)(z cs:Array Value)(T:TypeId)(ia ist:Nat)(done:Nat->Bool)(cv:Nat->Value)(w:World):Prop:=
 if done ist=true then cv ia=.pointer (some ⟨wo.heap.size,0,none⟩)∧w=wo.drew.alloc (.cells cs T)
 else if done ia=true then cv ia=.pointer (some ⟨wo.heap.size,0,none⟩)∧w=wo.drew.alloc (.cells z T)
 else w=wo.drew
theorem allJ.bel{wo:World}{z:Array Value}{ia ist:Nat}{done:Nat->Bool}{cv:Nat->Value}(h:allJ wo z cs T ia ist done cv w):Below wo.heap.size wo w:=by
 unfold allJ at h;split at h
 ·obtain⟨_,rfl⟩:=h;exact(Below.refl _ _).drew.alloc nl _
 split at h
 ·obtain⟨_,rfl⟩:=h;exact(Below.refl _ _).drew.alloc nl _
 subst h;exact(Below.refl _ _).drew
theorem wp_alloc6{d:Option Tmp}{p:String}
  (h:K (a.put d (.pointer (some ⟨w.heap.size,0,none⟩))) (w.alloc (.cells (patA 0 0 0 0 0 none 0 0) 35))):Oper.wp Tryz.prog ⟨d,.alloc 35,t,p,af,gd⟩ a w K Q:=by
 unfold Oper.wp execOp;go_simp;exact h
theorem wp_st6{p:String}{x y:Tmp}{new:Array Value}(hx:a.tmps[x]?=some (.pointer (some ⟨g,0,none⟩)))(hy:a.tmps[y]?=some (.agg new))
  (hr:rowOf w g=cs) (hf:frOf w g=(0,0)) (hs:cs.size=6∧new.size=6∧allOne new=true) (h:K a (w.setRow g new)):Oper.wp Tryz.prog ⟨none,.store 35 (.tmp x) (.tmp y),t,p,af,gd⟩ a w K Q:=by
 have e1:a.eval (.tmp x)=.pointer (some ⟨g,0,none⟩):=by simp[Act.eval,hx]
 have e2:a.eval (.tmp y)=.agg new:=by simp[Act.eval,hy]
 have hst:=storeAt_row (P:=Tryz.prog) (w:=w) (g:=g) (o:=0) (ty:=35) (cs:=new) (by rw[aggSzPat,hs.2.1]) (by omega) (by rw[hr];omega) hf hs.2.2;exact x43n
theorem blkFacts(h:w.heap[g]?=some (.cells cs T (0,0)))(h0:0<cs.size):rowOf w g=cs∧frOf w g=(0,0)∧(∀j,w.cell? ⟨g,j,none⟩=cs[j]?)∧(∀j,w.frozen? ⟨g,j,none⟩=false)∧g<w.heap.size:=
 ⟨row_of_blk h,fr_of_blk h,fun j=>cell_of_row w g j _ T _ h,fun j=>frozen_of_row w g j _ T h,blk_lt h⟩
theorem set_blk{j:Nat}(h:w.heap[g]?=some (.cells cs T (0,0))):(w.setCell ⟨g,j,none⟩ v).heap[g]?=some (.cells (cs.setIfInBounds j v) T (0,0)):=by
 rw[setCell_eq_setRow w g j cs T (0,0) v h];exact setRow_heap w g cs _ T (0,0) h
theorem set_blk2{g' j:Nat}{o:Obj}(h:w.heap[g]?=some o)(hn:g'≠g):(w.setCell ⟨g',j,none⟩ v).heap[g]?=some o:=by
 rw[Below.heap_setCell _ _ _ _ (fun e=>hn e.symm)];exact h
structure RdAt(wr:World)(g0:Nat)(f t o n s:Int)(acc:List Stp)(ds:List (Option Addr×Nat))(A:OA)(c:Nat):Prop where
 z:wr.heap[g0]?=some (.cells (patA 0 0 0 0 0 none 0 0) 35 (0,0))
 p:wr.heap[g0+1]?=some (.cells (patA f t o n s A acc.length c) 35 (0,0))
 row:CRow wr (g0+2) acc ds A c
 nd:∀(i:Nat) (e:Option Addr×Nat),ds[i]?=some e->∀k,e.1.map (·.block)=some k->g0+2<=k
 le:g0+2<=wr.heap.size
 bd:∀q∈acc,I64 q.at_∧I64 q.len∧q.data.length<=140737488351232
theorem RdAt.below{wr w':World}{g0:Nat}{f t o n s:Int}{acc:List Stp}{ds:List (Option Addr×Nat)}{A:OA}(h:RdAt wr g0 f t o n s acc ds A c)(hb:Below wr.heap.size wr w'):RdAt w' g0 f t o n s acc ds A c:=
 ⟨blk_below h.z hb,blk_below h.p hb,h.row.below hb,h.nd,Nat.le_trans h.le hb.size,h.bd⟩
theorem RdAt.push{wr W1 w5:World}{g0:Nat}{f t o n s:Int}{acc:List Stp}{ds:List (Option Addr×Nat)}{A A':OA}{c':Nat}{x:Stp}{e:Option Addr×Nat}(h:RdAt wr g0 f t o n s acc ds A c)(hb:Below wr.heap.size wr W1)
  (hown:Own w5 (g0+2) 121 3 A' (acc.length+1) c' (opCells acc ds++opCell x e)) (hgr:W1.grownBy w5 (A.map (·.block))) (hbel:Below (g0+2) W1 w5) (hor:A'.map (·.block)=A.map (·.block)∨A'.map (·.block)=some W1.heap.size)
  (hd:Bts W1 e.1 x.data) (hd2:x.data.length<=e.2) (he:∀k,e.1.map (·.block)=some k->wr.heap.size<=k∧k<W1.heap.size) (hx:I64 x.at_∧I64 x.len∧x.data.length<=140737488351232):
  (∃ds',RdAt (w5.setCell ⟨g0+1,5,none⟩ (.slice A' (acc.length+1) c')) g0 f t o n s (acc++[x]) ds' A' c')∧w5.heap[g0+1]?=some (.cells (patA f t o n s A acc.length c) 35 (0,0)):=by
 have hrow:=(h.row.below hb).push hown hgr hor hd hd2 (fun k hk=>⟨fun e2=>by have:=(h.row.row.block k e2).2;have:=(he k hk).1;omega,(he k hk).2⟩);have hz:=(hbel.block g0 (by omega)).trans (blk_below h.z hb);have hp:=(hbel.block (g0+1) (by omega)).trans (blk_below h.p hb);have hle:=h.le;have hl1:=hb.size;have hl1:=hbel.size;have hnd:∀(i:Nat) (y:Option Addr×Nat),(ds++[e])[i]?=some y->∀k,y.1.map (·.block)=some k->g0+2<=k:=fun i y hy k hk=>by
  rcases snoc_at hy with hy|⟨rfl,rfl⟩
  ·exact h.nd i y hy k hk
  have:=(he k hk).1;omega
 refine⟨⟨ds++[e],set_blk2 hz (by omega),?_,hrow.setOther (own_far hrow.row (by omega)) (fun i y hy e2=>by have:=hnd i y hy _ e2;omega) _,hnd,by simp;omega,?_⟩,hp⟩
 ·exact x3a2
 exact x2bs
theorem aggSzOp:aggSz Tryz.prog 121=3:=by kernel_rfl
theorem wp_alloc3{d:Option Tmp}{p:String}
  (h:K (a.put d (.pointer (some ⟨w.heap.size,0,none⟩))) (w.alloc (.cells #[iv 0,iv 0,.slice none 0 0] 121))):Oper.wp Tryz.prog ⟨d,.alloc 121,t,p,af,gd⟩ a w K Q:=by
 unfold Oper.wp execOp;go_simp;exact h
theorem wp_st3{p:String}{x y:Tmp}{new:Array Value}(hx:a.tmps[x]?=some (.pointer (some ⟨g,0,none⟩)))(hy:a.tmps[y]?=some (.agg new))
  (hr:rowOf w g=cs) (hf:frOf w g=(0,0)) (hs:cs.size=3∧new.size=3∧allOne new=true) (h:K a (w.setRow g new)):Oper.wp Tryz.prog ⟨none,.store 121 (.tmp x) (.tmp y),t,p,af,gd⟩ a w K Q:=by
 have e1:a.eval (.tmp x)=.pointer (some ⟨g,0,none⟩):=by simp[Act.eval,hx]
 have e2:a.eval (.tmp y)=.agg new:=by simp[Act.eval,hy]
 have hst:=storeAt_row (P:=Tryz.prog) (w:=w) (g:=g) (o:=0) (ty:=121) (cs:=new) (by rw[aggSzOp,hs.2.1]) (by omega) (by rw[hr];omega) hf hs.2.2;exact x43n
theorem rest_slice{ab ao:Nat}{l:LU}{n m:Nat}{z:Int}(k:Nat)(hz:z=(k:Int))(hn:n=l.length)(hm:m=l.length-k)(hc:l.length<=c)(hk:k<=l.length)(hB:Bts w (some ⟨ab,ao,none⟩) l):∃o' c',m<=c'∧Bts w (some ⟨ab,o',none⟩) (l.drop k)∧
  ∀W,(Instr.slice 22 (.slice (some ⟨ab,ao,none⟩) n c) (some (iv z)) none none).run Tryz.prog W=.ok (.slice (some ⟨ab,o',none⟩) m c') W:=by
 subst hz hn hm;have h1:¬(l.length:Int)<(k:Int):=by omega
 have h1:(k:Int)<=(l.length:Int):=by omega
 have h1:(l.length:Int)<=(c:Int):=by omega
 have hd:=mid_drop hB c k hc;by_cases e:c=k
 ·refine⟨ao,c-k,by omega,?_,fun W=>?_⟩
  ·rw[if_pos e]at hd;exact hd
  ·go_simp
 refine⟨ao+k,c-k,by omega,mid_at hB k,fun W=>?_⟩;go_simp
def cdJ(w2:World)(g6 n:Nat)(cs:List Value)(ic ist:Nat)(done:Nat->Bool)(cv:Nat->Value)(w:World):Prop:=
 if done ist=true then ∃A5 c5 wq,w=wq.setCell ⟨g6,2,none⟩ (.slice A5 n c5)∧Own wq w2.heap.size 5 1 A5 n c5 cs∧Below w2.heap.size w2 wq
 else if done ic=true then ∃A5 c5,cv ic=.slice A5 n c5∧Own w w2.heap.size 5 1 A5 n c5 cs∧Below w2.heap.size w2 w
 else w=w2.drew
theorem cdJ.cell1{w2:World}{g6 n:Nat}{cs:List Value}{ic ist:Nat}{done:Nat->Bool}{cv:Nat->Value}(h:cdJ w2 g6 n cs ic ist done cv w)(hc:g6<w2.heap.size∧w2.cell? ⟨g6,1,none⟩=some v):w.cell? ⟨g6,1,none⟩=some v∧g6<w.heap.size:=by
 unfold cdJ at h;split at h
 ·obtain⟨A1,c1,wq,rfl,_,hb⟩:=h;refine⟨?_,by simpa using Nat.lt_of_lt_of_le hc.1 hb.size⟩;rw[World.cell?_setCell_other _ _ _ _ (by simp)];exact(hb.cell (p:=⟨g6,1,none⟩) hc.1).trans hc.2
 split at h
 ·obtain⟨A1,c1,_,_,hb⟩:=h;exact⟨(hb.cell (p:=⟨g6,1,none⟩) hc.1).trans hc.2,Nat.lt_of_lt_of_le hc.1 hb.size⟩
 subst h;exact⟨hc.2,hc.1⟩
theorem shl8(x:UInt8):IntKind.i64.wrap ((x.toNat:Int)*256)=(x.toNat:Int)*256:=IntWalk.i64_in _ (by have:=x.toNat_lt;omega)
theorem patRead_many{b:LU}(h:400<b.length):patRead b=(Pat.zero,1):=by unfold patRead;rw[if_pos h]
theorem patRead_few{b:LU}(h:b.length<8):patRead b=(Pat.zero,7):=by unfold patRead;rw[if_neg (by omega),if_pos h]
theorem patRead_short(A:OA)(c:Nat)(b:LU)(w:World)(h:400<b.length∨b.length<8):
  Calls Tryz.prog 86 #[.slice A b.length c] w (PaRet w (patRead b).1 (patRead b).2):=by
 by_cases h1:400<b.length
 ·rw[patRead_many h1];have q:(400:Int)<(b.length:Int):=by omega
  clear h;go_enter Tryz.func86,Tryz.ntmps86;go_wp2_with fail;refine bodyPost_ret (rC (patA 0 0 0 0 0 none 0 0)) rfl ⟨none,0,rfl,.const fun v=>patIn_zero v,?_⟩;exact x9w3
 have h1:b.length<8:=by omega
 rw[patRead_few h1];have q:¬(400:Int)<(b.length:Int):=by omega
 have q1:(b.length:Int)<8:=by omega
 clear h;go_enter Tryz.func86,Tryz.ntmps86;go_wp2_with fail;refine bodyPost_ret (rC (patA 0 0 0 0 0 none 0 0)) rfl ⟨none,0,rfl,.const fun v=>patIn_zero v,?_⟩;exact x9w3
theorem patRead_long(A:OA)(c:Nat)(b:LU)(w:World)(hc:b.length<=c)(h1:b.length<=400)(h2:8<=b.length)(hB:Bts w A b):
  Calls Tryz.prog 86 #[.slice A b.length c] w (PaRet w (patRead b).1 (patRead b).2):=by
 have hB1:=hB;obtain⟨ab,ao,rfl,hab,_⟩:=hB 0 (by omega);have hx:∀k,k<8->∃x,b.getD k 0=x∧∀w1,Below w.heap.size w w1->w1.cell? ⟨ab,ao+k,none⟩=some (bv x):=fun k hk=>by
  exact x0rd
 obtain⟨x8,e0x,X8⟩:=hx 0 (by decide);have X0w:=qH X8;have hu8:=x8.toNat_lt;obtain⟨x1,e1x,X9⟩:=hx 1 (by decide);have X1w:=qH X9;have hu1:=x1.toNat_lt;obtain⟨x2,e2x,X10⟩:=hx 2 (by decide);have X2w:=qH X10;have hu2:=x2.toNat_lt;obtain⟨x3,e3x,X11⟩:=hx 3 (by decide);have X3w:=qH X11;have hu3:=x3.toNat_lt;obtain⟨x4,e4x,X12⟩:=hx 4 (by decide);have X4w:=qH X12;have hu4:=x4.toNat_lt;obtain⟨x5,e5x,X13⟩:=hx 5 (by decide);have X5w:=qH X13;have hu5:=x5.toNat_lt;obtain⟨x6,e6x,X14⟩:=hx 6 (by decide);have X6w:=qH X14;have hu6:=x6.toNat_lt;obtain⟨x7,e7x,X15⟩:=hx 7 (by decide);have X7w:=qH X15;have hu7:=x7.toNat_lt;have U8:Hid (IntKind.i64.wrap (x8.toNat:Int)=(x8.toNat:Int)):=qH (IntWalk.i64_in _ (by omega));have U1:Hid (IntKind.i64.wrap (x1.toNat:Int)=(x1.toNat:Int)):=qH (IntWalk.i64_in _ (by omega));have U2:Hid (IntKind.i64.wrap (x2.toNat:Int)=(x2.toNat:Int)):=qH (IntWalk.i64_in _ (by omega));have U3:Hid (IntKind.i64.wrap (x3.toNat:Int)=(x3.toNat:Int)):=qH (IntWalk.i64_in _ (by omega));have U4:Hid (IntKind.i64.wrap (x4.toNat:Int)=(x4.toNat:Int)):=qH (IntWalk.i64_in _ (by omega));have U5:Hid (IntKind.i64.wrap (x5.toNat:Int)=(x5.toNat:Int)):=qH (IntWalk.i64_in _ (by omega));have U6:Hid (IntKind.i64.wrap (x6.toNat:Int)=(x6.toNat:Int)):=qH (IntWalk.i64_in _ (by omega));have U7:Hid (IntKind.i64.wrap (x7.toNat:Int)=(x7.toNat:Int)):=qH (IntWalk.i64_in _ (by omega));have N8:Hid (¬b=[]):=qH (fun e=>by rw[e]at h2;simp at h2);have N1:Hid (¬(b.length:Int)<=1):=qH (by omega);have N2:Hid (¬(b.length:Int)<=2):=qH (by omega);have N3:Hid (¬(b.length:Int)<=3):=qH (by omega);have N4:Hid (¬(b.length:Int)<=4):=qH (by omega);have N5:Hid (¬(b.length:Int)<=5):=qH (by omega);have N6:Hid (¬(b.length:Int)<=6):=qH (by omega);have N7:Hid (¬(b.length:Int)<=7):=qH (by omega);have S1:Hid (IntKind.i64.wrap ((x2.toNat:Int)*256)=(x2.toNat:Int)*256):=qH (shl8 x2);have O1:Hid (bits .or .i64 ((x2.toNat:Int)*256) (x3.toNat:Int)=(x2.toNat:Int)*256+(x3.toNat:Int)):=qH (or8 x2 x3);have S2:Hid (IntKind.i64.wrap ((x4.toNat:Int)*256)=(x4.toNat:Int)*256):=qH (shl8 x4);have O2:Hid (bits .or .i64 ((x4.toNat:Int)*256) (x5.toNat:Int)=(x4.toNat:Int)*256+(x5.toNat:Int)):=qH (or8 x4 x5);have HX:=qH hx;have HZ:Hid (¬patA 0 0 0 0 0 none 0 0=#[]):=qH (by simp[patA]);have HB1:=qH hB1;clear hx hB hB1 X8 X9 X10 X11 X12 X13 X14 X15;have q1:¬(400:Int)<(b.length:Int):=by omega
 have q2:¬(b.length:Int)<8:=by omega
 have HBA:=qH ((bW w).alloc nl (.cells (patA 0 0 0 0 0 none 0 0) 35));go_enter Tryz.func86,Tryz.ntmps86;go_wp2_with fail;obtain⟨wo,hwo⟩:=eX (w.alloc (.cells (patA 0 0 0 0 0 none 0 0) 35));rw[hwo];have hwz:wo.heap.size=w.heap.size+1:=by rw[<-hwo];simp
 have HBo:Hid (Below w.heap.size w wo):=qH (hwo▸HBA.out);have HG1:Hid (wo.heap[w.heap.size]?=some (.cells (patA 0 0 0 0 0 none 0 0) 35 (0,0))):=qH (hwo▸blk_top rfl);have X8:Hid (∀w1,Below wo.heap.size wo w1->w1.cell? ⟨ab,ao,none⟩=some (bv x8)):=qH (fun w1 h=>X0w.out w1 (HBo.out.trans (h.mono (by omega))));have X1:Hid (∀w1,Below wo.heap.size wo w1->w1.cell? ⟨ab,ao+1,none⟩=some (bv x1)):=qH (fun w1 h=>X1w.out w1 (HBo.out.trans (h.mono (by omega))));have X2:Hid (∀w1,Below wo.heap.size wo w1->w1.cell? ⟨ab,ao+2,none⟩=some (bv x2)):=qH (fun w1 h=>X2w.out w1 (HBo.out.trans (h.mono (by omega))));have X3:Hid (∀w1,Below wo.heap.size wo w1->w1.cell? ⟨ab,ao+3,none⟩=some (bv x3)):=qH (fun w1 h=>X3w.out w1 (HBo.out.trans (h.mono (by omega))));have X4:Hid (∀w1,Below wo.heap.size wo w1->w1.cell? ⟨ab,ao+4,none⟩=some (bv x4)):=qH (fun w1 h=>X4w.out w1 (HBo.out.trans (h.mono (by omega))));have X5:Hid (∀w1,Below wo.heap.size wo w1->w1.cell? ⟨ab,ao+5,none⟩=some (bv x5)):=qH (fun w1 h=>X5w.out w1 (HBo.out.trans (h.mono (by omega))));have X6:Hid (∀w1,Below wo.heap.size wo w1->w1.cell? ⟨ab,ao+6,none⟩=some (bv x6)):=qH (fun w1 h=>X6w.out w1 (HBo.out.trans (h.mono (by omega))));have X7:Hid (∀w1,Below wo.heap.size wo w1->w1.cell? ⟨ab,ao+7,none⟩=some (bv x7)):=qH (fun w1 h=>X7w.out w1 (HBo.out.trans (h.mono (by omega))));clear hwo HBA;generalize hg0:w.heap.size=g0 at *
 have HBE:=qH hg0;clear hg0;refine wp_region_free (by kernel_rfl) (some 16::some 17::some 18::some 19::some 20::some 21::some 22::some 23::some 24::some 25::some 26::some 27::some 28::some 29::some 30::some 31::some 32::some 33::some 34::some 35::some 36::some 37::some 38::some 39::some 40::some 41::some 42::some 43::some 44::some 45::some 46::some 47::some 48::some 4::none::[]) (false::false::false::false::false::false::false::false::false::false::false::false::false::false::false::false::false::false::false::false::false::false::false::false::false::false::false::false::false::false::false::false::false::true::true::[]) (.slice (some ⟨ab,ao,none⟩) b.length c::.pointer (some ⟨ab,ao,none⟩)::bv x8::iv (x8.toNat:Int)::.slice (some ⟨ab,ao,none⟩) b.length c::.pointer (some ⟨ab,ao+1,none⟩)::bv x1::iv (x1.toNat:Int)::.slice (some ⟨ab,ao,none⟩) b.length c::.pointer (some ⟨ab,ao+2,none⟩)::bv x2::iv (x2.toNat:Int)::iv ((x2.toNat:Int)*256)::.slice (some ⟨ab,ao,none⟩) b.length c::.pointer (some ⟨ab,ao+3,none⟩)::bv x3::iv (x3.toNat:Int)::iv ((x2.toNat:Int)*256+(x3.toNat:Int))::.slice (some ⟨ab,ao,none⟩) b.length c::.pointer (some ⟨ab,ao+4,none⟩)::bv x4::iv (x4.toNat:Int)::iv ((x4.toNat:Int)*256)::.slice (some ⟨ab,ao,none⟩) b.length c::.pointer (some ⟨ab,ao+5,none⟩)::bv x5::iv (x5.toNat:Int)::iv ((x4.toNat:Int)*256+(x5.toNat:Int))::.slice (some ⟨ab,ao,none⟩) b.length c::.pointer (some ⟨ab,ao+6,none⟩)::bv x6::iv (x6.toNat:Int)::.agg (patA (x8.toNat:Int) (x1.toNat:Int) ((x2.toNat:Int)*256+(x3.toNat:Int)) ((x4.toNat:Int)*256+(x5.toNat:Int)) (x6.toNat:Int) none 0 0)::undef::undef::[]) (allJ wo (patA 0 0 0 0 0 none 0 0) (patA (x8.toNat:Int) (x1.toNat:Int) ((x2.toNat:Int)*256+(x3.toNat:Int)) ((x4.toNat:Int)*256+(x5.toNat:Int)) (x6.toNat:Int) none 0 0) 35 33 34) 116 rfl rfl (by decide+kernel) (by decide+kernel) (by decide+kernel) rfl rfl (by rw[allJ,if_neg (by simp),if_neg (by simp)]) ?_ ?_
 ·refine⟨?_,?_,?_,?_,?_,?_,?_,?_,?_,?_,?_,?_,?_,?_,?_,?_,?_,?_,?_,?_,?_,?_,?_,?_,?_,?_,?_,?_,?_,?_,?_,?_,?_,?_,?_,trivial⟩;all_goals intro done cv a wq hn hw hcl h hJ
  ·exact x7bl
  ·have e1:=fN 0 16 h hw;have hnk:=N8.out;go_simp
  ·have e1:=fN 1 17 h hw;have hx:=(X8.out wq hJ.bel);go_simp
  ·have e1:=fN 2 18 h hw;have hu:=U8.out;go_simp
  ·exact x7bl
  ·have e1:=fN 4 20 h hw;have hnk:=N1.out;go_simp
  ·have e1:=fN 5 21 h hw;have hx:=(X1.out wq hJ.bel);go_simp
  ·have e1:=fN 6 22 h hw;have hu:=U1.out;go_simp
  ·exact x7bl
  ·have e1:=fN 8 24 h hw;have hnk:=N2.out;go_simp
  ·have e1:=fN 9 25 h hw;have hx:=(X2.out wq hJ.bel);go_simp
  ·have e1:=fN 10 26 h hw;have hu:=U2.out;go_simp
  ·have e1:=fN 11 27 h hw;have hs:=S1.out;go_simp
  ·exact x7bl
  ·have e1:=fN 13 29 h hw;have hnk:=N3.out;go_simp
  ·have e1:=fN 14 30 h hw;have hx:=(X3.out wq hJ.bel);go_simp
  ·have e1:=fN 15 31 h hw;have hu:=U3.out;go_simp
  ·have e1:=fN 12 28 h hw;have e32:=fN 16 32 h hw;have hs:=O1.out;go_simp
  ·exact x7bl
  ·have e1:=fN 18 34 h hw;have hnk:=N4.out;go_simp
  ·have e1:=fN 19 35 h hw;have hx:=(X4.out wq hJ.bel);go_simp
  ·have e1:=fN 20 36 h hw;have hu:=U4.out;go_simp
  ·have e1:=fN 21 37 h hw;have hs:=S2.out;go_simp
  ·exact x7bl
  ·have e1:=fN 23 39 h hw;have hnk:=N5.out;go_simp
  ·have e1:=fN 24 40 h hw;have hx:=(X5.out wq hJ.bel);go_simp
  ·have e1:=fN 25 41 h hw;have hu:=U5.out;go_simp
  ·have e1:=fN 22 38 h hw;have e42:=fN 26 42 h hw;have hs:=O2.out;go_simp
  ·exact x7bl
  ·have e1:=fN 28 44 h hw;have hnk:=N6.out;go_simp
  ·have e1:=fN 29 45 h hw;have hx:=(X6.out wq hJ.bel);go_simp
  ·have e1:=fN 30 46 h hw;have hu:=U6.out;go_simp
  ·have e1:=fN 3 19 h hw;have e23:=fN 7 23 h hw;have e33:=fN 17 33 h hw;have e43:=fN 27 43 h hw;have e47:=fN 31 47 h hw;have hz:=HZ.out;go_simp
  ·have hd2:¬maskB [false,false,false,false,false,false,false,false,false,false,false,false,false,false,false,false,false,false,false,false,false,false,false,false,false,false,false,false,false,false,false,false,false,true,true] done 34=true:=by unfold maskB;rw[show done 34=false from Bool.eq_false_iff.2 (fun e=>by have:=hcl 34 _ rfl e 33 (by decide);rw[hn]at this;cases this)];simp
   have hd1:¬maskB [false,false,false,false,false,false,false,false,false,false,false,false,false,false,false,false,false,false,false,false,false,false,false,false,false,false,false,false,false,false,false,false,false,true,true] done 33=true:=by unfold maskB;rw[hn];simp
   have hJ1:=hJ;rw[allJ,if_neg hd2,if_neg hd1]at hJ1;obtain rfl:wq=wo.drew:=hJ1;refine wp_alloc6 ⟨_,rfl,?_⟩;exact x7e9
  ·have e1:=fr_cv (i:=33) (t:=4) h (hw 33 (by decide)) rfl rfl;have e48:=fN 32 48 h hw;have hd2:¬maskB [false,false,false,false,false,false,false,false,false,false,false,false,false,false,false,false,false,false,false,false,false,false,false,false,false,false,false,false,false,false,false,false,false,true,true] done 34=true:=by unfold maskB;rw[hn];simp
   have hd1:maskB [false,false,false,false,false,false,false,false,false,false,false,false,false,false,false,false,false,false,false,false,false,false,false,false,false,false,false,false,false,false,false,false,false,true,true] done 33=true:=by unfold maskB;rw[hw 33 (by decide)];rfl
   have hJ1:=hJ;rw[allJ,if_neg hd2,if_pos hd1]at hJ1;obtain⟨y1,rfl⟩:=hJ1;rw[y1]at e1;refine wp_st6 (g:=wo.heap.size) (cs:=patA 0 0 0 0 0 none 0 0) e1 e48 (by rw[row_of_blk (blk_top (by simp))]) (by rw[fr_of_blk (blk_top (by simp))]) ⟨by simp[patA],by simp[patA],patA_one _ _ _ _ _ _ _ _⟩ ⟨undef,rfl,?_⟩;exact x11j
 intro dn cv w3 hall hJ;rw[allJ,if_pos (hall 34 rfl (by decide))]at hJ;obtain⟨y1,rfl⟩:=hJ;simp only[freeAll,putAll_some,putAll_none,putAll_nil,List.getD_cons_zero,List.getD_cons_succ,Bool.false_eq_true,if_true,if_false,reduceIte,Nat.zero_add,Nat.reduceAdd,List.setIfInBounds_toArray,List.set_cons_zero,List.set_cons_succ];rw[y1,hwz];have hRD:RdAt (wo.drew.alloc (.cells (patA (x8.toNat:Int) (x1.toNat:Int) ((x2.toNat:Int)*256+(x3.toNat:Int)) ((x4.toNat:Int)*256+(x5.toNat:Int)) (x6.toNat:Int) none 0 0) 35)) g0 (x8.toNat:Int) (x1.toNat:Int) ((x2.toNat:Int)*256+(x3.toNat:Int)) ((x4.toNat:Int)*256+(x5.toNat:Int)) (x6.toNat:Int) [] [] none 0:=
  ⟨blk_old (w:=wo.drew) HG1.out,blk_top (by simp;omega),CRow.nil _ _,fun i e h=>by simp at h,by simp;omega,fun q h=>by cases h⟩
 have HRD:=qH hRD;have HBL:Hid (Below g0 w (wo.drew.alloc (.cells (patA (x8.toNat:Int) (x1.toNat:Int) ((x2.toNat:Int)*256+(x3.toNat:Int)) ((x4.toNat:Int)*256+(x5.toNat:Int)) (x6.toNat:Int) none 0 0) 35))):=qH (HBo.out.drew.alloc (by simp;omega) _);have hx1:=X7.out (wo.drew.alloc (.cells (patA (x8.toNat:Int) (x1.toNat:Int) ((x2.toNat:Int)*256+(x3.toNat:Int)) ((x4.toNat:Int)*256+(x5.toNat:Int)) (x6.toNat:Int) none 0 0) 35)) ((Below.refl _ _).drew.alloc nl _);have n1:=N7.out;have u1:=U7.out;clear hRD;generalize wo.drew.alloc (.cells (patA (x8.toNat:Int) (x1.toNat:Int) ((x2.toNat:Int)*256+(x3.toNat:Int)) ((x4.toNat:Int)*256+(x5.toNat:Int)) (x6.toNat:Int) none 0 0) 35)=wL at *
 obtain⟨o4,c4,hc1,hB1,hsl1⟩:=rest_slice (z:=8) 8 rfl rfl rfl hc h2 HB1.out;have HB1:=qH hB1;obtain⟨N,hN⟩:=eX (x7.toNat);rw[hN]at u1 hu7;obtain⟨R,hRR⟩:=eX (readOps N (b.drop 8) []);have HRR:=qH hRR;have HPR:Hid (patRead b=readDone b R):=qH (by unfold patRead;rw[if_neg (by omega),if_neg (by omega),e7x,hN,hRR]);have HHEAD:Hid (∀ops,headPat b ops=⟨(x8.toNat:Int),(x1.toNat:Int),(x2.toNat:Int)*256+(x3.toNat:Int),(x4.toNat:Int)*256+(x5.toNat:Int),(x6.toNat:Int),ops⟩):=qH (fun ops=>by unfold headPat;rw[e0x,e1x,e2x,e3x,e4x,e5x,e6x]);have HFB:Hid (0<=(x8.toNat:Int)∧(x8.toNat:Int)<=255∧0<=(x1.toNat:Int)∧(x1.toNat:Int)<=255∧0<=(x2.toNat:Int)*256+(x3.toNat:Int)∧(x2.toNat:Int)*256+(x3.toNat:Int)<=65535∧0<=(x4.toNat:Int)*256+(x5.toNat:Int)∧(x4.toNat:Int)*256+(x5.toNat:Int)<=65535∧0<=(x6.toNat:Int)∧(x6.toNat:Int)<=255):=qH (by omega);generalize patRead b=pr at *
 clear hRR hB1 hall y1 e0x e1x e2x e3x e4x e5x e6x e7x hu8 hu1 hu2 hu3 hu4 hu5 hu6 X8 X1 X2 X3 X4 X5 X6 X7 X0w X1w X2w X3w X4w X5w X6w X7w U8 U1 U2 U3 U4 U5 U6 U7 N8 N1 N2 N3 N4 N5 N6 N7 S1 S2 O1 O2 HX HZ;generalize (x2.toNat:Int)*256+(x3.toNat:Int)=p2 at *
 generalize (x4.toNat:Int)*256+(x5.toNat:Int)=p3 at *
 generalize (x8.toNat:Int)=p0 at *
 generalize (x1.toNat:Int)=p1 at *
 generalize (x6.toNat:Int)=p4 at *
 go_wp2_with fail;go_loopw [0,56] (fun v i wr=>∃(k:Nat) (rest:LU) (acc:List Stp) (ds:List (Option Addr×Nat)) (o1 c1:Nat) (A:OA) (c0:Nat),v=.slice (some ⟨ab,o1,none⟩) rest.length c1∧i=iv (k:Int)∧k<=N∧rest.length<=c1∧rest.length<=400∧acc.length<=255∧Hid (acc.length=k)∧Hid (readOps (N-k) rest acc=R)∧Hid (Bts w (some ⟨ab,o1,none⟩) rest)∧Hid (RdAt wr g0 p0 p1 p2 p3 p4 acc ds A c0)∧Hid (Below g0 w wr)) (fun _ i _=>N-(intOf i).toNat)
 case atStart=>exact⟨0,b.drop 8,[],[],o4,c4,none,0,by rw[List.length_drop],rfl,Nat.zero_le _,by rw[List.length_drop];exact hc1,by rw[List.length_drop];omega,by simp,qH rfl,HRR,HB1,HRD,HBL⟩
 case round=>
  clear HRD HBL HB1 hx1 HRR hsl1 hc1;rename World=>wr;obtain⟨k,rest,acc,ds,o1,c1,A,c4,rfl,rfl,hk,hrc,hr1,hacc,HAL,HE,HBT,HRDX,HB⟩:=hrel;have hgz:=HRDX.out.le;by_cases hkN:k<N
  ·have dl:decide ((k:Int)<(N:Int))=true:=decide_eq_true (by omega);by_cases hr1:rest.length<2
   ·obtain⟨z1,z2,z3,z4,z5⟩:=blkFacts HRDX.out.z (by simp[patA]);have d1:decide ((rest.length:Int)<2)=true:=decide_eq_true (by omega);have hz:pr=(Pat.zero,7):=by
     obtain⟨m,hm⟩:∃m,N-k=m+1:=⟨N-k-1,by omega⟩;rw[HPR.out,<-HE.out,hm,readOps_short hr1];unfold readDone;rw[if_pos (by decide)]
    have HZZ:=qH hz;clear hz;exact x4qz
   obtain⟨x,y,r,rfl⟩:∃x y r,rest=x::y::r:=by
    rcases rest with _|⟨x,_|⟨y,r⟩⟩
    ·simp at hr1
    ·simp at hr1
    exact⟨x,y,r,rfl⟩
   simp only[List.length_cons]at *
   have d1:decide (((r.length+1+1:Nat):Int)<2)=false:=decide_eq_false (by omega);have hbw:Below w.heap.size w wr:=HBE.out▸HB.out;have XA:Hid (∀w1,Below wr.heap.size wr w1->w1.cell? ⟨ab,o1,none⟩=some (bv x)):=qH (fun w1 h=>by
    obtain⟨b',o',e,hlt,hcc⟩:=((HBT.out.stays hbw).stays h) 0 (by simp);injection e with e;injection e with e1 e2;subst e1 e2;simpa using hcc)
   have YA:Hid (∀w1,Below wr.heap.size wr w1->w1.cell? ⟨ab,o1+1,none⟩=some (bv y)):=qH (fun w1 h=>by
    obtain⟨b',o',e,hlt,hcc⟩:=((HBT.out.stays hbw).stays h) 1 (by simp);injection e with e;injection e with e1 e2;subst e1 e2;simpa using hcc)
   have hxl:=x.toNat_lt;have hyl:=y.toNat_lt;have UX:Hid (IntKind.i64.wrap (x.toNat:Int)=(x.toNat:Int)):=qH (IntWalk.i64_in _ (by omega));have UY:Hid (IntKind.i64.wrap (y.toNat:Int)=(y.toNat:Int)):=qH (IntWalk.i64_in _ (by omega));have NB2:Hid (¬(r.length:Int)+1+1<=0):=qH (by omega);have NB1:Hid (¬(r.length:Int)+1+1<=1):=qH (by omega);clear hbw;go_wp2_with fail;refine wp_region_free (by kernel_rfl) (some 62::some 63::some 64::some 65::some 66::some 67::some 68::some 69::some 70::some 6::none::[]) (false::false::false::false::false::false::false::false::false::true::true::[]) (.slice (some ⟨ab,o1,none⟩) (r.length+1+1) c1::.pointer (some ⟨ab,o1,none⟩)::bv x::iv (x.toNat:Int)::.slice (some ⟨ab,o1,none⟩) (r.length+1+1) c1::.pointer (some ⟨ab,o1+1,none⟩)::bv y::iv (y.toNat:Int)::.agg #[iv (x.toNat:Int),iv (y.toNat:Int),.slice none 0 0]::undef::undef::[]) (allJ wr #[iv 0,iv 0,.slice none 0 0] #[iv (x.toNat:Int),iv (y.toNat:Int),.slice none 0 0] 121 9 10) 116 rfl rfl (by decide+kernel) (by decide+kernel) (by decide+kernel) rfl rfl (by rw[allJ,if_neg (by simp),if_neg (by simp)]) ?_ ?_
   ·refine⟨?_,?_,?_,?_,?_,?_,?_,?_,?_,?_,?_,trivial⟩;all_goals intro done cv a wq hn hw hcl h hJ
    ·exact x3rg
    ·have e1:=fN 0 62 h hw;have nb:=NB2.out;go_simp
    ·have e1:=fN 1 63 h hw;have hx:=XA.out wq hJ.bel;go_simp
    ·have e1:=fN 2 64 h hw;have hu:=UX.out;go_simp
    ·exact x3rg
    ·have e1:=fN 4 66 h hw;have nb:=NB1.out;go_simp
    ·have e1:=fN 5 67 h hw;have hx:=YA.out wq hJ.bel;go_simp
    ·have e1:=fN 6 68 h hw;have hu:=UY.out;go_simp
    ·have e1:=fN 3 65 h hw;have e69:=fN 7 69 h hw;go_simp
    ·have hd2:¬maskB [false,false,false,false,false,false,false,false,false,true,true] done 10=true:=by unfold maskB;rw[show done 10=false from Bool.eq_false_iff.2 (fun e=>by have:=hcl 10 _ rfl e 9 (by decide);rw[hn]at this;cases this)];simp
     have hd1:¬maskB [false,false,false,false,false,false,false,false,false,true,true] done 9=true:=by unfold maskB;rw[hn];simp
     have hJ1:=hJ;rw[allJ,if_neg hd2,if_neg hd1]at hJ1;obtain rfl:wq=wr.drew:=hJ1;refine wp_alloc3 ⟨_,rfl,?_⟩;exact x7e9
    ·have e1:=fr_cv (i:=9) (t:=6) h (hw 9 (by decide)) rfl rfl;have e70:=fN 8 70 h hw;have hd2:¬maskB [false,false,false,false,false,false,false,false,false,true,true] done 10=true:=by unfold maskB;rw[hn];simp
     have hd1:maskB [false,false,false,false,false,false,false,false,false,true,true] done 9=true:=by unfold maskB;rw[hw 9 (by decide)];rfl
     have hJ1:=hJ;rw[allJ,if_neg hd2,if_pos hd1]at hJ1;obtain⟨y1,rfl⟩:=hJ1;rw[y1]at e1;refine wp_st3 (g:=wr.heap.size) (cs:=#[iv 0,iv 0,.slice none 0 0]) e1 e70 (by rw[row_of_blk (blk_top (by simp))]) (by rw[fr_of_blk (blk_top (by simp))]) ⟨by simp,by simp,by simp[allOne,Value.oneCell']⟩ ⟨undef,rfl,?_⟩;exact x11j
   intro dn cv w1 hall hJ;rw[allJ,if_pos (hall 10 rfl (by decide))]at hJ;obtain⟨y1,rfl⟩:=hJ;simp only[freeAll,putAll_some,putAll_none,putAll_nil,List.getD_cons_zero,List.getD_cons_succ,Bool.false_eq_true,if_true,if_false,reduceIte,Nat.zero_add,Nat.reduceAdd,List.setIfInBounds_toArray,List.set_cons_zero,List.set_cons_succ];rw[y1];have HBX:Hid (Below wr.heap.size wr (wr.drew.alloc (.cells #[iv (x.toNat:Int),iv (y.toNat:Int),.slice none 0 0] 121))):=qH ((Below.refl _ _).drew.alloc nl _);have HG1:Hid ((wr.drew.alloc (.cells #[iv (x.toNat:Int),iv (y.toNat:Int),.slice none 0 0] 121)).heap[wr.heap.size]?=some (.cells #[iv (x.toNat:Int),iv (y.toNat:Int),.slice none 0 0] 121 (0,0))):=qH (blk_top (by simp));have HS1:Hid ((wr.drew.alloc (.cells #[iv (x.toNat:Int),iv (y.toNat:Int),.slice none 0 0] 121)).heap.size=wr.heap.size+1):=qH (by simp);clear hall y1 XA YA UX UY;generalize wr.drew.alloc (.cells #[iv (x.toNat:Int),iv (y.toNat:Int),.slice none 0 0] 121)=w2 at *
   have HRD1:=qH (HRDX.out.below HBX.out);have HBW1:=HBX;generalize hg6:wr.heap.size=g6 at *
   have HG6E:=qH hg6;obtain⟨z1,z2,z3,z4,z5⟩:=blkFacts HRD1.out.z (by simp[patA]);obtain⟨q1,q2,q3,q4,q5⟩:=blkFacts HRD1.out.p (by simp[patA]);obtain⟨s1,s2,s3,s4,s5⟩:=blkFacts HG1.out (by simp);obtain⟨o1,c1,hc1,hB1,hsl1⟩:=rest_slice (w:=w) (n:=r.length+1+1) (m:=r.length) (z:=2) 2 rfl (by simp) (by simp) hrc (by simp) HBT.out;rw[List.drop_succ_cons,List.drop_succ_cons,List.drop_zero]at hB1;have HBT1:=qH hB1;have ng1:¬g6=g0:=by omega
   have ng1:¬g6=g0+1:=by omega
   have HBB1:Hid (Below g0 w w2):=qH (HB.out.trans (HBX.out.mono (by omega)));clear hg6 hB1;obtain⟨m,hm⟩:∃m,N-k=m+1:=⟨N-k-1,by omega⟩;by_cases hx:x=255
   ·have hxn:x.toNat=255:=by rw[hx];rfl
    have d1:((x.toNat:Int)==255)=true:=by simp[hxn]
    have hrd:=HE.out;rw[hm,hx,readOps_data]at hrd;have HM1:=qH hm;clear hm hxn;by_cases hy:r.length<y.toNat
    ·have d1:decide ((r.length:Int)<(y.toNat:Int))=true:=decide_eq_true (by omega);have hz:pr=(Pat.zero,7):=by
      rw[HPR.out,<-hrd,if_pos hy];unfold readDone;rw[if_pos (by decide)]
     exact x763
    have d1:decide ((r.length:Int)<(y.toNat:Int))=false:=decide_eq_false (by omega);rw[if_neg hy]at hrd;have HNX:Hid (readOps (N-k-1) (r.drop y.toNat) (acc++[⟨0,0,r.take y.toNat⟩])=R):=qH (by rw[HM1.out];exact hrd);obtain⟨o2,c2,hc2,hB1,hsl1⟩:=rest_slice (w:=w) (n:=r.length) (m:=r.length-y.toNat) (z:=(y.toNat:Int)) y.toNat rfl rfl rfl hc1 (by omega) HBT1.out;have HBT2:=qH hB1;have HSL1:=qH hsl1;have HC1:Hid (g6<w2.heap.size∧w2.cell? ⟨g6,1,none⟩=some (iv (y.toNat:Int))):=qH ⟨s5,by rw[s3];rfl⟩;have HY1:Hid ((y.toNat:Int)<=(c1:Int)):=qH (by omega);have HY2:Hid ((0:Int)<=(y.toNat:Int)):=qH (by omega);have HCL:Hid (∀wq,Below w2.heap.size w2 wq->Calls Tryz.prog 83 #[.slice (some ⟨ab,o1,none⟩) y.toNat c1] wq (SlRet wq 5 1 y.toNat ((r.take y.toNat).map bv))):=qH (fun wq hb=>cloneBytes_calls _ _ _ _ wq (by simp;omega) (by omega) (mid_take ((HBT1.out.stays (HBE.out▸HBB1.out)).stays hb) y.toNat).src (bv_one _));have HTL:Hid ((r.take y.toNat).length=y.toNat):=qH (by simp;omega);clear hrd hB1 hsl1;go_wp2_with fail;refine wp_region_free (by kernel_rfl) (some 82::some 83::some 84::some 85::some 86::some 87::some 88::some 89::some 90::some 91::none::some 0::[]) (false::false::false::false::true::false::false::false::false::false::true::false::[]) (.slice (some ⟨ab,o1,none⟩) r.length c1::.pointer (some ⟨g6,1,none⟩)::iv (y.toNat:Int)::.slice (some ⟨ab,o1,none⟩) y.toNat c1::undef::.slice (some ⟨ab,o1,none⟩) r.length c1::.pointer (some ⟨g6,1,none⟩)::iv (y.toNat:Int)::.slice (some ⟨ab,o2,none⟩) (r.length-y.toNat) c2::.pointer (some ⟨g6,2,none⟩)::undef::.slice (some ⟨ab,o2,none⟩) (r.length-y.toNat) c2::[]) (cdJ w2 g6 y.toNat ((r.take y.toNat).map bv) 4 10) 116 rfl rfl (by decide+kernel) (by decide+kernel) (by decide+kernel) rfl rfl (by rw[cdJ,if_neg (by simp),if_neg (by simp)]) ?_ ?_
    ·refine⟨?_,?_,?_,?_,?_,?_,?_,?_,?_,?_,?_,?_,trivial⟩;all_goals intro done cv a wq hn hw hcl h hJ
     ·have e1:=fr_un (t:=0) (i:=0) (i0:=11) (v:=.slice (some ⟨ab,o1,none⟩) r.length c1) h hcl hn rfl (by decide) (by decide) rfl;exact mx_move (ch_ev e1)
     ·exact x0s6
     ·have e1:=fN 1 83 h hw;obtain⟨l1,l2⟩:=hJ.cell1 HC1.out;go_simp
     ·have e1:=fN 0 82 h hw;have e84:=fN 2 84 h hw;have k1:=HY1.out;have k1:=HY2.out;go_simp
     ·have e1:=fN 3 85 h hw;have hd2:¬maskB [false,false,false,false,true,false,false,false,false,false,true,false] done 10=true:=by unfold maskB;rw[show done 10=false from Bool.eq_false_iff.2 (fun e=>by have:=hcl 10 _ rfl e 4 (by decide);rw[hn]at this;cases this)];simp
      have hd1:¬maskB [false,false,false,false,true,false,false,false,false,false,true,false] done 4=true:=by unfold maskB;rw[hn];simp
      rw[cdJ,if_neg hd2,if_neg hd1]at hJ;obtain rfl:wq=w2.drew:=hJ;refine wp_call (vals:=#[.slice (some ⟨ab,o1,none⟩) y.toNat c1]) (by rw[List.map_toArray,List.map_cons,List.map_nil,ch_ev e1]) (enters_of Tryz.func83 (by kernel_rfl) rfl _ _) (HCL.out _ ((Below.refl _ _).drew)) ?_;rintro e w' ⟨A1,c1,rfl,hown,hbel⟩;refine⟨_,rfl,_,rfl,?_⟩;rw[cdJ,if_neg (by simp;simpa using hd2),if_pos (by simp)];exact⟨A1,c1,by simp,hown,(Below.refl _ _).drew.trans hbel⟩
     ·have e1:=fr_un (t:=0) (i:=5) (i0:=11) (v:=.slice (some ⟨ab,o1,none⟩) r.length c1) h hcl hn rfl (by decide) (by decide) rfl;exact mx_move (ch_ev e1)
     ·exact x0s6
     ·have e1:=fN 6 88 h hw;obtain⟨l1,l2⟩:=hJ.cell1 HC1.out;go_simp
     ·have e1:=fN 5 87 h hw;have e89:=fN 7 89 h hw;have k1:=HSL1.out;go_simp
     ·exact x0s6
     ·have e1:=fN 9 91 h hw;have e86:=fr_cv (i:=4) (t:=86) h (hw 4 (by decide)) rfl rfl;have hd2:¬maskB [false,false,false,false,true,false,false,false,false,false,true,false] done 10=true:=by unfold maskB;rw[hn];simp
      have hd1:maskB [false,false,false,false,true,false,false,false,false,false,true,false] done 4=true:=by unfold maskB;rw[hw 4 (by decide)];rfl
      rw[cdJ,if_neg hd2,if_pos hd1]at hJ;obtain⟨A1,c1,y1,hown,hbel⟩:=hJ;rw[y1]at e86;have hc1:wq.cell? ⟨g6,2,none⟩=some (.slice none 0 0):=(hbel.cell (p:=⟨g6,2,none⟩) (blk_lt HG1.out)).trans (by rw[cell_of_row _ _ _ _ _ _ HG1.out];rfl);have hf1:wq.frozen? ⟨g6,2,none⟩=false:=(hbel.frozen (p:=⟨g6,2,none⟩) (blk_lt HG1.out)).trans (frozen_of_row _ _ _ _ _ HG1.out);refine wp_ssl e1 e86 hc1 hf1 ⟨undef,rfl,?_⟩;rw[cdJ,if_pos (by simp)];exact⟨A1,c1,wq,rfl,hown,hbel⟩
     ·have e1:=fN 8 90 h hw;exact mx_assign (ch_ev e1)
    intro dn cv w1 hall hJ;rw[cdJ,if_pos (hall 10 rfl (by decide))]at hJ;obtain⟨A1,c1,wq,rfl,hown,hbel⟩:=hJ;simp only[freeAll,putAll_some,putAll_none,putAll_nil,List.getD_cons_zero,List.getD_cons_succ,Bool.false_eq_true,if_true,if_false,reduceIte,Nat.zero_add,Nat.reduceAdd,List.setIfInBounds_toArray,List.set_cons_zero,List.set_cons_succ];have hg1:=set_blk (j:=2) (v:=.slice A1 y.toNat c1) (blk_below HG1.out hbel);have hd1:Bts (wq.setCell ⟨g6,2,none⟩ (.slice A1 y.toNat c1)) A1 (r.take y.toNat):=(hown.setCell_other (p:=⟨g6,2,none⟩) (fun e=>by have:=(hown.block g6 e).1;have:=HS1.out;omega) _).src.bts;have hA1:∀q,A1.map (·.block)=some q->g6+1<=q∧q<(wq.setCell ⟨g6,2,none⟩ (.slice A1 y.toNat c1)).heap.size:=fun q e=>by have:=hown.block q e;have:=HS1.out;simp;omega
    have hb1:Below g6 wr (wq.setCell ⟨g6,2,none⟩ (.slice A1 y.toNat c1)):=(HBX.out.trans (hbel.mono (by have:=HS1.out;omega))).setCell (p:=⟨g6,2,none⟩) nl _;have hc1:=hown.le;have HG1:=qH hg1;have HD5:=qH hd1;have HA1:=qH hA1;have HB1:=qH hb1;clear hg1 hd1 hA1 hb1 hown hbel hall z1 z2 z3 z4 z5 q1 q2 q3 q4 q5 s1 s2 s3 s4 s5 HC1 HCL HSL1 HY1 HY2;generalize wq.setCell ⟨g6,2,none⟩ (.slice A1 y.toNat c1)=w4 at *
    have HRD1:=qH (HRDX.out.below (HB1.out.mono (Nat.le_of_eq HG6E.out)));obtain⟨z1,z2,z3,z4,z5⟩:=blkFacts HRD1.out.z (by simp[patA]);obtain⟨q1,q2,q3,q4,q5⟩:=blkFacts HRD1.out.p (by simp[patA]);obtain⟨s1,s2,s3,s4,s5⟩:=blkFacts HG1.out (by simp);have HBW:Hid (Below g6 wr ((w4.setCell ⟨g6,0,none⟩ (iv 0)).setCell ⟨g6,1,none⟩ (iv 0))):=qH ((HB1.out.setCell (p:=⟨g6,0,none⟩) nl _).setCell (p:=⟨g6,1,none⟩) nl _);have HLN:Hid (r.length-y.toNat=(r.drop y.toNat).length):=qH (by simp);have HD1:Hid (Bts (((w4.setCell ⟨g6,0,none⟩ (iv 0)).setCell ⟨g6,1,none⟩ (iv 0)).alloc (.cells #[iv 0,iv 0,.slice A1 y.toNat c1] 121)) A1 (r.take y.toNat)):=qH ((bts_set (bts_set HD5.out (fun q e e2=>by have:=(HA1.out q e).1;have e3:g6=q:=e2;omega)) (fun q e e2=>by have:=(HA1.out q e).1;have e3:g6=q:=e2;omega)).stays (bL _));have HD2:Hid ((r.take y.toNat).length<=c1):=qH (by rw[HTL.out];exact hc1);have HD3:Hid (∀q,A1.map (·.block)=some q->g6<=q∧q<(((w4.setCell ⟨g6,0,none⟩ (iv 0)).setCell ⟨g6,1,none⟩ (iv 0)).alloc (.cells #[iv 0,iv 0,.slice A1 y.toNat c1] 121)).heap.size):=qH (fun q e=>by have:=HA1.out q e;simp;omega);have HD4:Hid (I64 0∧I64 0∧(r.take y.toNat).length<=140737488351232):=qH ⟨⟨by decide,by decide⟩,⟨by decide,by decide⟩,by rw[HTL.out];omega⟩;have HCE:Hid (opCell ⟨0,0,r.take y.toNat⟩ (A1,c1)=[iv 0,iv 0,.slice A1 y.toNat c1]):=qH (by unfold opCell;dsimp only;rw[HTL.out]);have HRDW:=qH (HRDX.out.below (HBW.out.mono (Nat.le_of_eq HG6E.out)));have hoa:=HRDW.out.row.row.alloc (.cells #[iv 0,iv 0,.slice A1 y.toNat c1] 121);have hs1:Src (((w4.setCell ⟨g6,0,none⟩ (iv 0)).setCell ⟨g6,1,none⟩ (iv 0)).alloc (.cells #[iv 0,iv 0,.slice A1 y.toNat c1] 121)) (some ⟨w4.heap.size,0,none⟩) [iv 0,iv 0,.slice A1 y.toNat c1]:=src_blk (blk_top (by simp));have hob:acc.length+1<=137438953472:=by omega
    have hle:g0+2<=(((w4.setCell ⟨g6,0,none⟩ (iv 0)).setCell ⟨g6,1,none⟩ (iv 0)).alloc (.cells #[iv 0,iv 0,.slice A1 y.toNat c1] 121)).heap.size:=by have:=HRDW.out.le;simp at this⊢;omega
    go_wp2_with (at_builtin;go_must (refine wpList_app (((w4.setCell ⟨g6,0,none⟩ (iv 0)).setCell ⟨g6,1,none⟩ (iv 0)).alloc (.cells #[iv 0,iv 0,.slice A1 y.toNat c1] 121)) rfl _ _ 33 rfl elOps (g0+2) A acc.length c4 (opCells acc ds) rfl hoa (some ⟨w4.heap.size,0,none⟩) 1 1 [iv 0,iv 0,.slice A1 y.toNat c1] rfl hs1 rfl (by simp[Value.oneCell']) hob hle ?_;intro A' c' w5 hown hgr hbel hor);(obtain⟨⟨ds',hrd⟩,hp5⟩:=HRDX.out.push (x:=⟨0,0,r.take y.toNat⟩) (e:=(A1,c1)) ((HBW.out.alloc (by have:=HBW.out.size;have:=HG6E.out;omega) _).mono (Nat.le_of_eq HG6E.out)) (HCE.out.symm▸hown) hgr hbel hor HD1.out HD2.out (fun q e=>⟨by have:=(HD3.out q e).1;have:=HG6E.out;omega,(HD3.out q e).2⟩) HD4.out);(obtain⟨p1,p2,p3,p4,p5⟩:=blkFacts hp5 (by simp[patA]));(have HRD5:=qH hrd);(have HB5:Hid (Below g0 w w5):=qH (((HB.out.trans (HBW.out.mono (by omega))).alloc (by have:=HRDW.out.le;omega) _).trans (hbel.mono (by omega))));(clear hown hgr hbel hor hoa hs1 hob hle hrd hp5));go_roundw
    case rel=>exact⟨k+1,r.drop y.toNat,acc++[⟨0,0,r.take y.toNat⟩],ds',o2,c2,A',c',by rw[HLN.out],by go_num,by omega,by rw[<-HLN.out];exact hc2,by rw[<-HLN.out];omega,by have:=HAL.out;simp;omega,qH (by have:=HAL.out;simp;omega),qH (by rw[show N-(k+1)=N-k-1 by omega];exact HNX.out),HBT2,HRD5,qH (HB5.out.setCell (p:=⟨g0+1,5,none⟩) (by show g0<=g0+1;omega) _)⟩
    case measure=>simp[intOf];omega
   have d1:((x.toNat:Int)==255)=false:=by
    exact x41l
   have hrd:=HE.out;rw[hm]at hrd;have HM1:=qH hm;clear hm;by_cases hy:y=0
   ·subst hy;have d1:(((0:UInt8).toNat:Int)==0)=true:=by decide
    rw[readOps_zero hx]at hrd;have hz:pr=(Pat.zero,3):=by
     rw[HPR.out,<-hrd];unfold readDone;rw[if_pos (by decide)]
    exact x763
   have hyn:y.toNat≠0:=fun e=>hy (UInt8.toNat_inj.1 (by rw[e];rfl));have d1:((y.toNat:Int)==0)=false:=by simp;omega
   rw[readOps_copy hx hy]at hrd;have HNX:Hid (readOps (N-k-1) r (acc++[⟨(x.toNat:Int),(y.toNat:Int),[]⟩])=R):=qH (by rw[HM1.out];exact hrd);have HBW:Hid (Below g6 wr w2):=HBX;have HD1:Hid (Bts (w2.alloc (.cells #[iv (x.toNat:Int),iv (y.toNat:Int),.slice none 0 0] 121)) none []):=qH (Bts.nil _ _);have HD2:Hid (([]:List UInt8).length<=0):=qH nl;have HD3:Hid (∀q,(none:OA).map (·.block)=some q->g6<=q∧q<(w2.alloc (.cells #[iv (x.toNat:Int),iv (y.toNat:Int),.slice none 0 0] 121)).heap.size):=qH (fun q e=>by cases e);have HD4:Hid (I64 (x.toNat:Int)∧I64 (y.toNat:Int)∧([]:List UInt8).length<=140737488351232):=qH ⟨⟨by omega,by omega⟩,⟨by omega,by omega⟩,by simp⟩;have HCE:Hid (opCell ⟨(x.toNat:Int),(y.toNat:Int),[]⟩ (none,0)=[iv (x.toNat:Int),iv (y.toNat:Int),.slice none 0 0]):=qH rfl;clear hrd hyn;have HRDW:=qH (HRDX.out.below (HBW.out.mono (Nat.le_of_eq HG6E.out)));have hoa:=HRDW.out.row.row.alloc (.cells #[iv (x.toNat:Int),iv (y.toNat:Int),.slice none 0 0] 121);have hs1:Src (w2.alloc (.cells #[iv (x.toNat:Int),iv (y.toNat:Int),.slice none 0 0] 121)) (some ⟨w2.heap.size,0,none⟩) [iv (x.toNat:Int),iv (y.toNat:Int),.slice none 0 0]:=src_blk (blk_top (by simp));have hob:acc.length+1<=137438953472:=by omega
   have hle:g0+2<=(w2.alloc (.cells #[iv (x.toNat:Int),iv (y.toNat:Int),.slice none 0 0] 121)).heap.size:=by have:=HRDW.out.le;simp at this⊢;omega
   go_wp2_with (at_builtin;go_must (refine wpList_app (w2.alloc (.cells #[iv (x.toNat:Int),iv (y.toNat:Int),.slice none 0 0] 121)) rfl _ _ 33 rfl elOps (g0+2) A acc.length c4 (opCells acc ds) rfl hoa (some ⟨w2.heap.size,0,none⟩) 1 1 [iv (x.toNat:Int),iv (y.toNat:Int),.slice none 0 0] rfl hs1 rfl (by simp[Value.oneCell']) hob hle ?_;intro A' c' w5 hown hgr hbel hor);(obtain⟨⟨ds',hrd⟩,hp5⟩:=HRDX.out.push (x:=⟨(x.toNat:Int),(y.toNat:Int),[]⟩) (e:=(none,0)) ((HBW.out.alloc (by have:=HBW.out.size;have:=HG6E.out;omega) _).mono (Nat.le_of_eq HG6E.out)) (HCE.out.symm▸hown) hgr hbel hor HD1.out HD2.out (fun q e=>⟨by have:=(HD3.out q e).1;have:=HG6E.out;omega,(HD3.out q e).2⟩) HD4.out);(obtain⟨p1,p2,p3,p4,p5⟩:=blkFacts hp5 (by simp[patA]));(have HRD5:=qH hrd);(have HB5:Hid (Below g0 w w5):=qH (((HB.out.trans (HBW.out.mono (by omega))).alloc (by have:=HRDW.out.le;omega) _).trans (hbel.mono (by omega))));(clear hown hgr hbel hor hoa hs1 hob hle hrd hp5));go_roundw
   case rel=>exact⟨k+1,r,acc++[⟨(x.toNat:Int),(y.toNat:Int),[]⟩],ds',o1,c1,A',c',rfl,by go_num,by omega,hc1,by omega,by have:=HAL.out;simp;omega,qH (by have:=HAL.out;simp;omega),qH (by rw[show N-(k+1)=N-k-1 by omega];exact HNX.out),HBT1,HRD5,qH (HB5.out.setCell (p:=⟨g0+1,5,none⟩) (by show g0<=g0+1;omega) _)⟩
   case measure=>simp[intOf];omega
  obtain rfl:k=N:=by omega
  have dl:decide ((k:Int)<(k:Int))=false:=by simp
  have hR1:R=(0,acc,rest):=by rw[<-HE.out,Nat.sub_self,readOps_nil]
  rw[hR1]at HPR;obtain⟨z1,z2,z3,z4,z5⟩:=blkFacts HRDX.out.z (by simp[patA]);obtain⟨q1,q2,q3,q4,q5⟩:=blkFacts HRDX.out.p (by simp[patA]);clear hR1 HE;by_cases hre:rest≠[]
  ·have hrp:0<rest.length:=List.length_pos_iff.2 hre;have hz:pr=(Pat.zero,7):=by rw[HPR.out];unfold readDone;rw[if_neg (by simp),if_pos hre]
   have HZZ:=qH hz;clear hz hre;exact x4qz
  have hre:=Decidable.not_not.1 hre;subst hre;have hdone:pr=if patCheck ⟨p0,p1,p2,p3,p4,acc⟩≠0 then (Pat.zero,patCheck ⟨p0,p1,p2,p3,p4,acc⟩)else (⟨p0,p1,p2,p3,p4,acc⟩,0):=by
   rw[HPR.out];unfold readDone;rw[if_neg (by simp),if_neg (by simp),HHEAD.out]
  have HDN:=qH hdone;have HCK:=qH (patCheck_calls A c4 p0 p1 p2 p3 p4 acc wr (by omega) (HRDX.out.row.sps HRDX.out.bd));clear hdone HHEAD HPR;simp only[List.length_nil,Int.ofNat_eq_natCast,Int.natCast_zero]at *
  by_cases hck:patCheck ⟨p0,p1,p2,p3,p4,acc⟩=0
  ·have hz:pr=(⟨p0,p1,p2,p3,p4,acc⟩,0):=by rw[HDN.out,if_neg (by simpa using hck)]
   rw[hck]at HCK;have HZZ:=qH hz;clear hz hck HDN;go_wp2_with fail;refine HCK.out.mono ?_;rintro e w1 ⟨rfl,hb1⟩;have HRD1:=qH (HRDX.out.below hb1);have HB1:Hid (Below g0 w w1):=qH (HB.out.trans (hb1.mono (by omega)));clear hb1 z1 z2 z3 z4 z5 q1 q2 q3 q4 q5;obtain⟨z1,z2,z3,z4,z5⟩:=blkFacts HRD1.out.z (by simp[patA]);obtain⟨q1,q2,q3,q4,q5⟩:=blkFacts HRD1.out.p (by simp[patA]);have ng:¬g0+1=g0:=by omega
   go_wp2_with fail;refine bodyPost_ret (rC (patA p0 p1 p2 p3 p4 A acc.length c4)) rfl ?_;rw[HZZ.out];have hfr:=(HRD1.out.row.fresh HRD1.out.nd HRD1.out.bd);refine⟨A,c4,rfl,?_,HBE.out.symm▸below_row HB1.out nl _⟩;refine((hfr.imp (Q:=fun v=>PatIn v ⟨p0,p1,p2,p3,p4,acc⟩ A c4) fun v hv=>⟨HRD1.out.row.row.le,by dsimp only;omega,hv,?_,?_,?_,?_,?_⟩).row (by omega) _).mono (by rw[HBE.out];omega);all_goals (obtain⟨f1,f2,f3,f4,f5,f6,f7,f8,f9,f10⟩:=HFB.out;exact⟨by dsimp only;omega,by dsimp only;omega⟩)
  have hz:pr=(Pat.zero,patCheck ⟨p0,p1,p2,p3,p4,acc⟩):=by rw[HDN.out,if_pos hck]
  have d1:(patCheck ⟨p0,p1,p2,p3,p4,acc⟩ !=0)=true:=by simp[hck]
  have HZZ:=qH hz;clear hz hck HDN;generalize patCheck ⟨p0,p1,p2,p3,p4,acc⟩=ck at *
  go_wp2_with fail;refine HCK.out.mono ?_;rintro e w1 ⟨rfl,hb1⟩;have HRD1:=qH (HRDX.out.below hb1);have HB1:Hid (Below g0 w w1):=qH (HB.out.trans (hb1.mono (by omega)));clear hb1 z1 z2 z3 z4 z5 q1 q2 q3 q4 q5;obtain⟨z1,z2,z3,z4,z5⟩:=blkFacts HRD1.out.z (by simp[patA]);go_wp2_with fail;refine bodyPost_ret (rC (patA 0 0 0 0 0 none 0 0)) rfl ?_;rw[HZZ.out];exact⟨none,0,rfl,.const fun v=>patIn_zero v,HBE.out.symm▸below_row HB1.out nl _⟩
end Go.Proofs.YtefkfglkpebbmacGreat
