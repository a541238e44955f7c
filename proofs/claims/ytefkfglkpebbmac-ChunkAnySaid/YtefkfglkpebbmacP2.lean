/- Walks of functions, and plain words. No conditions. -/
import Derived.Test.YtefkfglkpebbmacP1
set_option linter.unusedVariables false
set_option linter.unusedSimpArgs false
set_option maxRecDepth 100000
set_option maxHeartbeats 40000000
namespace Go.Proofs.Ytefkfglkpebbmac
open Go.RowKit
variable {Y:Prop}
variable {cs:Array Value} {T t:TypeId} {done:Nat->Bool} {cv:Nat->Value} {w:World} {a:Act} {K:Act->World->Prop} {Q:Exit->Act->World->Prop} {af:Array Edge} {gd:Option (Nat×Bool)} {g c n:Nat} {v:Value} {A:OA}
theorem x0rc(h:Y:=by
 refine⟨b[k],by rw[List.getD_eq_getElem?_getD,List.getElem?_eq_getElem (by omega)];rfl,fun w1 hb=>?_⟩;obtain⟨b',o',e,hlt,hcc⟩:=(hB.stays hb) k (by omega);injection e with e;injection e with e1 e2;subst e1 e2;exact hcc):Y:=h
theorem x0s6(h:Y:=by
 have e1:=fO 6 (.pointer (some ⟨g6,0,none⟩)) h;go_simp):Y:=h
theorem x11j(h:Y:=by
 rw[allJ,if_pos (by simp)];exact⟨by simpa using y1,by rw[setRow_alloc,if_pos (by simp)]⟩):Y:=h
theorem x1wj(h:Y:=by
 clear h;go_enter Try.func98,Try.ntmps98;go_wp2_with fail;refine bodyPost_ret (rC (patA 0 0 0 0 0 none 0 0)) rfl ⟨none,0,rfl,.const fun v=>patIn_zero v,?_⟩;repeat (first|exact Below.refl _ _|refine bR ?_ _|refine bA ?_ _)):Y:=h
theorem x2bs(h:Y:=by
 intro q hq;rcases List.mem_append.1 hq with hq|hq
 ·exact h.bd q hq
 rw[List.mem_singleton.1 hq];exact hx):Y:=h
theorem x3a2(h:Y:=by
 have:=set_blk (j:=5) (v:=.slice A' (acc.length+1) c') hp;rw[patA_set5]at this;rw[List.length_append];exact this):Y:=h
theorem x3rg(h:Y:=by
 have e1:=fO 0 (.slice (some ⟨ab,o1,none⟩) (r.length+1+1) c1) h;exact mx_move (ch_ev e1)):Y:=h
theorem x41l(h:Y:=by
 have:x.toNat≠255:=fun e=>hx (UInt8.toNat_inj.1 (by rw[e];rfl));simp;omega):Y:=h
theorem x43n(h:Y:=by
 rw[hr,splice_all _ _ (by omega)]at hst;unfold Oper.wp;simp only[execOp,e1,e2,Sem.run_bind,hst,Result.andThen_ok];exact h):Y:=h
theorem x4qz(h:Y:=by
 go_wp2_with fail;refine bodyPost_ret (rC (patA 0 0 0 0 0 none 0 0)) rfl ?_;rw[HZZ.out];exact⟨none,0,rfl,.const fun v=>patIn_zero v,HBE.out.symm▸below_row HB.out nl _⟩):Y:=h
theorem x763(h:Y:=by
 have HZZ:=qH hz;clear hz hrd;go_wp2_with fail;refine bodyPost_ret (rC (patA 0 0 0 0 0 none 0 0)) rfl ?_;rw[HZZ.out];exact⟨none,0,rfl,.const fun v=>patIn_zero v,HBE.out.symm▸below_row HBB1.out nl _⟩):Y:=h
theorem x7bl(h:Y:=by
 have e1:=fO 0 (.slice (some ⟨ab,ao,none⟩) b.length c) h;exact mx_move (ch_ev e1)):Y:=h
theorem x7e9(h:Y:=by
 rw[allJ,if_neg (by simp;simpa using hd2),if_pos (by simp)];exact⟨by simp,rfl⟩):Y:=h
def allJ(wo:World)(z cs:Array Value)(T:TypeId)(ia ist:Nat)(done:Nat->Bool)(cv:Nat->Value)(w:World):Prop:=
 if done ist=true then cv ia=.pointer (some ⟨wo.heap.size,0,none⟩)∧w=wo.drew.alloc (.cells cs T)
 else if done ia=true then cv ia=.pointer (some ⟨wo.heap.size,0,none⟩)∧w=wo.drew.alloc (.cells z T)
 else w=wo.drew
theorem allJ.bel{wo:World}{z:Array Value}{ia ist:Nat}(h:allJ wo z cs T ia ist done cv w):Below wo.heap.size wo w:=by
 unfold allJ at h;split at h
 ·obtain⟨_,rfl⟩:=h;exact(Below.refl _ _).drew.alloc nl _
 split at h
 ·obtain⟨_,rfl⟩:=h;exact(Below.refl _ _).drew.alloc nl _
 subst h;exact(Below.refl _ _).drew
theorem wp_alloc6{d:Option Tmp}{p:String}
  (h:K (a.put d (.pointer (some ⟨w.heap.size,0,none⟩))) (w.alloc (.cells (patA 0 0 0 0 0 none 0 0) 35))):Oper.wp Try.prog ⟨d,.alloc 35,t,p,af,gd⟩ a w K Q:=by
 unfold Oper.wp execOp;go_simp;exact h
theorem wp_st6{p:String}{x y:Tmp}{new:Array Value}(hx:a.tmps[x]?=some (.pointer (some ⟨g,0,none⟩)))(hy:a.tmps[y]?=some (.agg new))
  (hr:rowOf w g=cs) (hf:frOf w g=(0,0)) (hs:cs.size=6∧new.size=6∧allOne new=true) (h:K a (w.setRow g new)):Oper.wp Try.prog ⟨none,.store 35 (.tmp x) (.tmp y),t,p,af,gd⟩ a w K Q:=by
 have e1:a.eval (.tmp x)=.pointer (some ⟨g,0,none⟩):=by simp[Act.eval,hx]
 have e2:a.eval (.tmp y)=.agg new:=by simp[Act.eval,hy]
 have hst:=storeAt_row (P:=Try.prog) (w:=w) (g:=g) (o:=0) (ty:=35) (cs:=new) (by rw[aggSzPat,hs.2.1]) (by omega) (by rw[hr];omega) hf hs.2.2;exact x43n
theorem blkFacts(h:w.heap[g]?=some (.cells cs T (0,0)))(h0:0<cs.size):rowOf w g=cs∧frOf w g=(0,0)∧(∀j,w.cell? ⟨g,j,none⟩=cs[j]?)∧(∀j,w.frozen? ⟨g,j,none⟩=false)∧g<w.heap.size:=
 ⟨row_of_blk h,fr_of_blk h,fun j=>cell_of_row w g j _ T _ h,fun j=>frozen_of_row w g j _ T h,blk_lt h⟩
theorem set_blk{j:Nat}(h:w.heap[g]?=some (.cells cs T (0,0))):(w.setCell ⟨g,j,none⟩ v).heap[g]?=some (.cells (cs.setIfInBounds j v) T (0,0)):=by
 rw[setCell_eq_setRow w g j cs T (0,0) v h];exact setRow_heap w g cs _ T (0,0) h
theorem set_blk2{g' j:Nat}{o:Obj}(h:w.heap[g]?=some o)(hn:g'≠g):(w.setCell ⟨g',j,none⟩ v).heap[g]?=some o:=by
 rw[Below.heap_setCell _ _ _ _ (fun e=>hn e.symm)];exact h
structure RdAt(wr:World)(g0:Nat)(f t o n s:Int)(acc:List Stp)(ds:List (Option Addr×Nat))(A:OA)(c:Nat):Prop where
 z:wr.heap[g0]?=some (.cells (patA 0 0 0 0 0 none 0 0) 35 (0,0))
 p:wr.heap[g0+1]?=some (.cells (patA f t o n s A acc.length c) 35 (0,0))
 row:CRow wr (g0+2) acc ds A c
 nd:∀(i:Nat) (e:Option Addr×Nat),ds[i]?=some e->∀k,e.1.map (·.block)=some k->g0+2<=k
 le:g0+2<=wr.heap.size
 bd:∀q∈acc,I64 q.at_∧I64 q.len∧q.data.length<=140737488351232
theorem RdAt.below{wr w':World}{g0:Nat}{f t o n s:Int}{acc:List Stp}{ds:List (Option Addr×Nat)}(h:RdAt wr g0 f t o n s acc ds A c)(hb:Below wr.heap.size wr w'):RdAt w' g0 f t o n s acc ds A c:=
 ⟨blk_below h.z hb,blk_below h.p hb,h.row.below hb,h.nd,Nat.le_trans h.le hb.size,h.bd⟩
theorem RdAt.push{wr W1 w5:World}{g0:Nat}{f t o n s:Int}{acc:List Stp}{ds:List (Option Addr×Nat)}{A':OA}{c':Nat}{x:Stp}{e:Option Addr×Nat}(h:RdAt wr g0 f t o n s acc ds A c)(hb:Below wr.heap.size wr W1)
  (hown:Own w5 (g0+2) 117 3 A' (acc.length+1) c' (opCells acc ds++opCell x e)) (hgr:W1.grownBy w5 (A.map (·.block))) (hbel:Below (g0+2) W1 w5) (hor:A'.map (·.block)=A.map (·.block)∨A'.map (·.block)=some W1.heap.size)
  (hd:Bts W1 e.1 x.data) (hd2:x.data.length<=e.2) (he:∀k,e.1.map (·.block)=some k->wr.heap.size<=k∧k<W1.heap.size) (hx:I64 x.at_∧I64 x.len∧x.data.length<=140737488351232):
  (∃ds',RdAt (w5.setCell ⟨g0+1,5,none⟩ (.slice A' (acc.length+1) c')) g0 f t o n s (acc++[x]) ds' A' c')∧w5.heap[g0+1]?=some (.cells (patA f t o n s A acc.length c) 35 (0,0)):=by
 have hrow:=(h.row.below hb).push hown hgr hor hd hd2 (fun k hk=>⟨fun e2=>by have:=(h.row.row.block k e2).2;have:=(he k hk).1;omega,(he k hk).2⟩);have hz:=(hbel.block g0 (by omega)).trans (blk_below h.z hb);have hp:=(hbel.block (g0+1) (by omega)).trans (blk_below h.p hb);have hle:=h.le;have hl1:=hb.size;have hl1:=hbel.size;have hnd:∀(i:Nat) (y:Option Addr×Nat),(ds++[e])[i]?=some y->∀k,y.1.map (·.block)=some k->g0+2<=k:=fun i y hy k hk=>by
  rcases snoc_at hy with hy|⟨rfl,rfl⟩
  ·exact h.nd i y hy k hk
  have:=(he k hk).1;omega
 refine⟨⟨ds++[e],set_blk2 hz (by omega),?_,hrow.setOther (own_far hrow.row (by omega)) (fun i y hy e2=>by have:=hnd i y hy _ e2;omega) _,hnd,by simp;omega,?_⟩,hp⟩
 ·exact x3a2
 exact x2bs
theorem aggSzOp:aggSz Try.prog 117=3:=by kernel_rfl
theorem wp_alloc3{d:Option Tmp}{p:String}
  (h:K (a.put d (.pointer (some ⟨w.heap.size,0,none⟩))) (w.alloc (.cells #[iv 0,iv 0,.slice none 0 0] 117))):Oper.wp Try.prog ⟨d,.alloc 117,t,p,af,gd⟩ a w K Q:=by
 unfold Oper.wp execOp;go_simp;exact h
theorem wp_st3{p:String}{x y:Tmp}{new:Array Value}(hx:a.tmps[x]?=some (.pointer (some ⟨g,0,none⟩)))(hy:a.tmps[y]?=some (.agg new))
  (hr:rowOf w g=cs) (hf:frOf w g=(0,0)) (hs:cs.size=3∧new.size=3∧allOne new=true) (h:K a (w.setRow g new)):Oper.wp Try.prog ⟨none,.store 117 (.tmp x) (.tmp y),t,p,af,gd⟩ a w K Q:=by
 have e1:a.eval (.tmp x)=.pointer (some ⟨g,0,none⟩):=by simp[Act.eval,hx]
 have e2:a.eval (.tmp y)=.agg new:=by simp[Act.eval,hy]
 have hst:=storeAt_row (P:=Try.prog) (w:=w) (g:=g) (o:=0) (ty:=117) (cs:=new) (by rw[aggSzOp,hs.2.1]) (by omega) (by rw[hr];omega) hf hs.2.2;exact x43n
theorem rest_slice{ab ao:Nat}{l:LU}{m:Nat}{z:Int}(k:Nat)(hz:z=(k:Int))(hn:n=l.length)(hm:m=l.length-k)(hc:l.length<=c)(hk:k<=l.length)(hB:Bts w (some ⟨ab,ao,none⟩) l):∃o' c',m<=c'∧Bts w (some ⟨ab,o',none⟩) (l.drop k)∧
  ∀W,(Instr.slice 22 (.slice (some ⟨ab,ao,none⟩) n c) (some (iv z)) none none).run Try.prog W=.ok (.slice (some ⟨ab,o',none⟩) m c') W:=by
 subst hz hn hm;have h1:¬(l.length:Int)<(k:Int):=by omega
 have h1:(k:Int)<=(l.length:Int):=by omega
 have h1:(l.length:Int)<=(c:Int):=by omega
 have hd:=mid_drop hB c k hc;by_cases e:c=k
 ·refine⟨ao,c-k,by omega,?_,fun W=>?_⟩
  ·rw[if_pos e]at hd;exact hd
  ·go_simp
 refine⟨ao+k,c-k,by omega,mid_at hB k,fun W=>?_⟩;go_simp
def cdJ(w2:World)(g6 n:Nat)(cs:List Value)(ic ist:Nat)(done:Nat->Bool)(cv:Nat->Value)(w:World):Prop:=
 if done ist=true then ∃A5 c5 wq,w=wq.setCell ⟨g6,2,none⟩ (.slice A5 n c5)∧Own wq w2.heap.size 5 1 A5 n c5 cs∧Below w2.heap.size w2 wq
 else if done ic=true then ∃A5 c5,cv ic=.slice A5 n c5∧Own w w2.heap.size 5 1 A5 n c5 cs∧Below w2.heap.size w2 w
 else w=w2.drew
theorem cdJ.cell1{w2:World}{g6:Nat}{cs:List Value}{ic ist:Nat}(h:cdJ w2 g6 n cs ic ist done cv w)(hc:g6<w2.heap.size∧w2.cell? ⟨g6,1,none⟩=some v):w.cell? ⟨g6,1,none⟩=some v∧g6<w.heap.size:=by
 unfold cdJ at h;split at h
 ·obtain⟨A1,c1,wq,rfl,_,hb⟩:=h;refine⟨?_,by simpa using Nat.lt_of_lt_of_le hc.1 hb.size⟩;rw[World.cell?_setCell_other _ _ _ _ (by simp)];exact(hb.cell (p:=⟨g6,1,none⟩) hc.1).trans hc.2
 split at h
 ·obtain⟨A1,c1,_,_,hb⟩:=h;exact⟨(hb.cell (p:=⟨g6,1,none⟩) hc.1).trans hc.2,Nat.lt_of_lt_of_le hc.1 hb.size⟩
 subst h;exact⟨hc.2,hc.1⟩
theorem shl8(x:UInt8):IntKind.i64.wrap ((x.toNat:Int)*256)=(x.toNat:Int)*256:=IntWalk.i64_in _ (by have:=x.toNat_lt;omega)
theorem patRead_many{b:LU}(h:400<b.length):patRead b=(Pat.zero,1):=by unfold patRead;rw[if_pos h]
theorem patRead_few{b:LU}(h:b.length<8):patRead b=(Pat.zero,7):=by unfold patRead;rw[if_neg (by omega),if_pos h]
theorem patRead_short(A:OA)(c:Nat)(b:LU)(w:World)(h:400<b.length∨b.length<8):
  Calls Try.prog 98 #[.slice A b.length c] w (PaRet w (patRead b).1 (patRead b).2):=by
 by_cases h1:400<b.length
 ·rw[patRead_many h1];have q:(400:Int)<(b.length:Int):=by omega
  exact x1wj
 have h1:b.length<8:=by omega
 rw[patRead_few h1];have q:¬(400:Int)<(b.length:Int):=by omega
 have q1:(b.length:Int)<8:=by omega
 exact x1wj
theorem patRead_long(A:OA)(c:Nat)(b:LU)(w:World)(hc:b.length<=c)(h1:b.length<=400)(h2:8<=b.length)(hB:Bts w A b):
  Calls Try.prog 98 #[.slice A b.length c] w (PaRet w (patRead b).1 (patRead b).2):=by
 have hB1:=hB;obtain⟨ab,ao,rfl,hab,_⟩:=hB 0 (by omega);have hx:∀k,k<8->∃x,b.getD k 0=x∧∀w1,Below w.heap.size w w1->w1.cell? ⟨ab,ao+k,none⟩=some (bv x):=fun k hk=>by
  exact x0rc
 obtain⟨x8,e0x,X8⟩:=hx 0 (by decide);have X0w:=qH X8;have hu8:=x8.toNat_lt;obtain⟨x1,e1x,X9⟩:=hx 1 (by decide);have X1w:=qH X9;have hu1:=x1.toNat_lt;obtain⟨x2,e2x,X10⟩:=hx 2 (by decide);have X2w:=qH X10;have hu2:=x2.toNat_lt;obtain⟨x3,e3x,X11⟩:=hx 3 (by decide);have X3w:=qH X11;have hu3:=x3.toNat_lt;obtain⟨x4,e4x,X12⟩:=hx 4 (by decide);have X4w:=qH X12;have hu4:=x4.toNat_lt;obtain⟨x5,e5x,X13⟩:=hx 5 (by decide);have X5w:=qH X13;have hu5:=x5.toNat_lt;obtain⟨x6,e6x,X14⟩:=hx 6 (by decide);have X6w:=qH X14;have hu6:=x6.toNat_lt;obtain⟨x7,e7x,X15⟩:=hx 7 (by decide);have X7w:=qH X15;have hu7:=x7.toNat_lt;have U8:Hid (IntKind.i64.wrap (x8.toNat:Int)=(x8.toNat:Int)):=qH (IntWalk.i64_in _ (by omega));have U1:Hid (IntKind.i64.wrap (x1.toNat:Int)=(x1.toNat:Int)):=qH (IntWalk.i64_in _ (by omega));have U2:Hid (IntKind.i64.wrap (x2.toNat:Int)=(x2.toNat:Int)):=qH (IntWalk.i64_in _ (by omega));have U3:Hid (IntKind.i64.wrap (x3.toNat:Int)=(x3.toNat:Int)):=qH (IntWalk.i64_in _ (by omega));have U4:Hid (IntKind.i64.wrap (x4.toNat:Int)=(x4.toNat:Int)):=qH (IntWalk.i64_in _ (by omega));have U5:Hid (IntKind.i64.wrap (x5.toNat:Int)=(x5.toNat:Int)):=qH (IntWalk.i64_in _ (by omega));have U6:Hid (IntKind.i64.wrap (x6.toNat:Int)=(x6.toNat:Int)):=qH (IntWalk.i64_in _ (by omega));have U7:Hid (IntKind.i64.wrap (x7.toNat:Int)=(x7.toNat:Int)):=qH (IntWalk.i64_in _ (by omega));have N8:Hid (¬b=[]):=qH (fun e=>by rw[e]at h2;simp at h2);have N1:Hid (¬(b.length:Int)<=1):=qH (by omega);have N2:Hid (¬(b.length:Int)<=2):=qH (by omega);have N3:Hid (¬(b.length:Int)<=3):=qH (by omega);have N4:Hid (¬(b.length:Int)<=4):=qH (by omega);have N5:Hid (¬(b.length:Int)<=5):=qH (by omega);have N6:Hid (¬(b.length:Int)<=6):=qH (by omega);have N7:Hid (¬(b.length:Int)<=7):=qH (by omega);have S1:Hid (IntKind.i64.wrap ((x2.toNat:Int)*256)=(x2.toNat:Int)*256):=qH (shl8 x2);have O1:Hid (bits .or .i64 ((x2.toNat:Int)*256) (x3.toNat:Int)=(x2.toNat:Int)*256+(x3.toNat:Int)):=qH (or8 x2 x3);have S2:Hid (IntKind.i64.wrap ((x4.toNat:Int)*256)=(x4.toNat:Int)*256):=qH (shl8 x4);have O2:Hid (bits .or .i64 ((x4.toNat:Int)*256) (x5.toNat:Int)=(x4.toNat:Int)*256+(x5.toNat:Int)):=qH (or8 x4 x5);have HX:=qH hx;have HZ:Hid (¬patA 0 0 0 0 0 none 0 0=#[]):=qH (by simp[patA]);have HB1:=qH hB1;clear hx hB hB1 X8 X9 X10 X11 X12 X13 X14 X15;have q1:¬(400:Int)<(b.length:Int):=by omega
 have q2:¬(b.length:Int)<8:=by omega
 have HBA:=qH ((bW w).alloc nl (.cells (patA 0 0 0 0 0 none 0 0) 35));go_enter Try.func98,Try.ntmps98;go_wp2_with fail;obtain⟨wo,hwo⟩:=eX (w.alloc (.cells (patA 0 0 0 0 0 none 0 0) 35));rw[hwo];have hwz:wo.heap.size=w.heap.size+1:=by rw[<-hwo];simp
 have HBo:Hid (Below w.heap.size w wo):=qH (hwo▸HBA.out);have HG1:Hid (wo.heap[w.heap.size]?=some (.cells (patA 0 0 0 0 0 none 0 0) 35 (0,0))):=qH (hwo▸blk_top rfl);have X8:Hid (∀w1,Below wo.heap.size wo w1->w1.cell? ⟨ab,ao,none⟩=some (bv x8)):=qH (fun w1 h=>X0w.out w1 (HBo.out.trans (h.mono (by omega))));have X1:Hid (∀w1,Below wo.heap.size wo w1->w1.cell? ⟨ab,ao+1,none⟩=some (bv x1)):=qH (fun w1 h=>X1w.out w1 (HBo.out.trans (h.mono (by omega))));have X2:Hid (∀w1,Below wo.heap.size wo w1->w1.cell? ⟨ab,ao+2,none⟩=some (bv x2)):=qH (fun w1 h=>X2w.out w1 (HBo.out.trans (h.mono (by omega))));have X3:Hid (∀w1,Below wo.heap.size wo w1->w1.cell? ⟨ab,ao+3,none⟩=some (bv x3)):=qH (fun w1 h=>X3w.out w1 (HBo.out.trans (h.mono (by omega))));have X4:Hid (∀w1,Below wo.heap.size wo w1->w1.cell? ⟨ab,ao+4,none⟩=some (bv x4)):=qH (fun w1 h=>X4w.out w1 (HBo.out.trans (h.mono (by omega))));have X5:Hid (∀w1,Below wo.heap.size wo w1->w1.cell? ⟨ab,ao+5,none⟩=some (bv x5)):=qH (fun w1 h=>X5w.out w1 (HBo.out.trans (h.mono (by omega))));have X6:Hid (∀w1,Below wo.heap.size wo w1->w1.cell? ⟨ab,ao+6,none⟩=some (bv x6)):=qH (fun w1 h=>X6w.out w1 (HBo.out.trans (h.mono (by omega))));have X7:Hid (∀w1,Below wo.heap.size wo w1->w1.cell? ⟨ab,ao+7,none⟩=some (bv x7)):=qH (fun w1 h=>X7w.out w1 (HBo.out.trans (h.mono (by omega))));clear hwo HBA;generalize hg0:w.heap.size=g0 at *
 have HBE:=qH hg0;clear hg0;refine wp_region_free (by kernel_rfl) (some 16::some 17::some 18::some 19::some 20::some 21::some 22::some 23::some 24::some 25::some 26::some 27::some 28::some 29::some 30::some 31::some 32::some 33::some 34::some 35::some 36::some 37::some 38::some 39::some 40::some 41::some 42::some 43::some 44::some 45::some 46::some 47::some 48::some 4::none::[]) (false::false::false::false::false::false::false::false::false::false::false::false::false::false::false::false::false::false::false::false::false::false::false::false::false::false::false::false::false::false::false::false::false::true::true::[]) (.slice (some ⟨ab,ao,none⟩) b.length c::.pointer (some ⟨ab,ao,none⟩)::bv x8::iv (x8.toNat:Int)::.slice (some ⟨ab,ao,none⟩) b.length c::.pointer (some ⟨ab,ao+1,none⟩)::bv x1::iv (x1.toNat:Int)::.slice (some ⟨ab,ao,none⟩) b.length c::.pointer (some ⟨ab,ao+2,none⟩)::bv x2::iv (x2.toNat:Int)::iv ((x2.toNat:Int)*256)::.slice (some ⟨ab,ao,none⟩) b.length c::.pointer (some ⟨ab,ao+3,none⟩)::bv x3::iv (x3.toNat:Int)::iv ((x2.toNat:Int)*256+(x3.toNat:Int))::.slice (some ⟨ab,ao,none⟩) b.length c::.pointer (some ⟨ab,ao+4,none⟩)::bv x4::iv (x4.toNat:Int)::iv ((x4.toNat:Int)*256)::.slice (some ⟨ab,ao,none⟩) b.length c::.pointer (some ⟨ab,ao+5,none⟩)::bv x5::iv (x5.toNat:Int)::iv ((x4.toNat:Int)*256+(x5.toNat:Int))::.slice (some ⟨ab,ao,none⟩) b.length c::.pointer (some ⟨ab,ao+6,none⟩)::bv x6::iv (x6.toNat:Int)::.agg (patA (x8.toNat:Int) (x1.toNat:Int) ((x2.toNat:Int)*256+(x3.toNat:Int)) ((x4.toNat:Int)*256+(x5.toNat:Int)) (x6.toNat:Int) none 0 0)::undef::undef::[]) (allJ wo (patA 0 0 0 0 0 none 0 0) (patA (x8.toNat:Int) (x1.toNat:Int) ((x2.toNat:Int)*256+(x3.toNat:Int)) ((x4.toNat:Int)*256+(x5.toNat:Int)) (x6.toNat:Int) none 0 0) 35 33 34) 116 rfl rfl (by decide+kernel) (by decide+kernel) (by decide+kernel) rfl rfl (by rw[allJ,if_neg (by simp),if_neg (by simp)]) ?_ ?_
 ·refine⟨?_,?_,?_,?_,?_,?_,?_,?_,?_,?_,?_,?_,?_,?_,?_,?_,?_,?_,?_,?_,?_,?_,?_,?_,?_,?_,?_,?_,?_,?_,?_,?_,?_,?_,?_,trivial⟩;all_goals intro done cv a wq hn hw hcl h hJ
  ·exact x7bl
  ·have e1:=fN 0 16 h hw;have hnk:=N8.out;go_simp
  ·have e1:=fN 1 17 h hw;have hx:=(X8.out wq hJ.bel);go_simp
  ·have e1:=fN 2 18 h hw;have hu:=U8.out;go_simp
  ·exact x7bl
  ·have e1:=fN 4 20 h hw;have hnk:=N1.out;go_simp
  ·have e1:=fN 5 21 h hw;have hx:=(X1.out wq hJ.bel);go_simp
  ·have e1:=fN 6 22 h hw;have hu:=U1.out;go_simp
  ·exact x7bl
  ·have e1:=fN 8 24 h hw;have hnk:=N2.out;go_simp
  ·have e1:=fN 9 25 h hw;have hx:=(X2.out wq hJ.bel);go_simp
  ·have e1:=fN 10 26 h hw;have hu:=U2.out;go_simp
  ·have e1:=fN 11 27 h hw;have hs:=S1.out;go_simp
  ·exact x7bl
  ·have e1:=fN 13 29 h hw;have hnk:=N3.out;go_simp
  ·have e1:=fN 14 30 h hw;have hx:=(X3.out wq hJ.bel);go_simp
  ·have e1:=fN 15 31 h hw;have hu:=U3.out;go_simp
  ·have e1:=fN 12 28 h hw;have e32:=fN 16 32 h hw;have hs:=O1.out;go_simp
  ·exact x7bl
  ·have e1:=fN 18 34 h hw;have hnk:=N4.out;go_simp
  ·have e1:=fN 19 35 h hw;have hx:=(X4.out wq hJ.bel);go_simp
  ·have e1:=fN 20 36 h hw;have hu:=U4.out;go_simp
  ·have e1:=fN 21 37 h hw;have hs:=S2.out;go_simp
  ·exact x7bl
  ·have e1:=fN 23 39 h hw;have hnk:=N5.out;go_simp
  ·have e1:=fN 24 40 h hw;have hx:=(X5.out wq hJ.bel);go_simp
  ·have e1:=fN 25 41 h hw;have hu:=U5.out;go_simp
  ·have e1:=fN 22 38 h hw;have e42:=fN 26 42 h hw;have hs:=O2.out;go_simp
  ·exact x7bl
  ·have e1:=fN 28 44 h hw;have hnk:=N6.out;go_simp
  ·have e1:=fN 29 45 h hw;have hx:=(X6.out wq hJ.bel);go_simp
  ·have e1:=fN 30 46 h hw;have hu:=U6.out;go_simp
  ·have e1:=fN 3 19 h hw;have e23:=fN 7 23 h hw;have e33:=fN 17 33 h hw;have e43:=fN 27 43 h hw;have e47:=fN 31 47 h hw;have hz:=HZ.out;go_simp
  ·have hd2:¬maskB [false,false,false,false,false,false,false,false,false,false,false,false,false,false,false,false,false,false,false,false,false,false,false,false,false,false,false,false,false,false,false,false,false,true,true] done 34=true:=by unfold maskB;rw[show done 34=false from Bool.eq_false_iff.2 (fun e=>by have:=hcl 34 _ rfl e 33 (by decide);rw[hn]at this;cases this)];simp
   have hd1:¬maskB [false,false,false,false,false,false,false,false,false,false,false,false,false,false,false,false,false,false,false,false,false,false,false,false,false,false,false,false,false,false,false,false,false,true,true] done 33=true:=by unfold maskB;rw[hn];simp
   have hJ1:=hJ;rw[allJ,if_neg hd2,if_neg hd1]at hJ1;obtain rfl:wq=wo.drew:=hJ1;refine wp_alloc6 ⟨_,rfl,?_⟩;exact x7e9
  ·have e1:=fr_cv (i:=33) (t:=4) h (hw 33 (by decide)) rfl rfl;have e48:=fN 32 48 h hw;have hd2:¬maskB [false,false,false,false,false,false,false,false,false,false,false,false,false,false,false,false,false,false,false,false,false,false,false,false,false,false,false,false,false,false,false,false,false,true,true] done 34=true:=by unfold maskB;rw[hn];simp
   have hd1:maskB [false,false,false,false,false,false,false,false,false,false,false,false,false,false,false,false,false,false,false,false,false,false,false,false,false,false,false,false,false,false,false,false,false,true,true] done 33=true:=by unfold maskB;rw[hw 33 (by decide)];rfl
   have hJ1:=hJ;rw[allJ,if_neg hd2,if_pos hd1]at hJ1;obtain⟨y1,rfl⟩:=hJ1;rw[y1]at e1;refine wp_st6 (g:=wo.heap.size) (cs:=patA 0 0 0 0 0 none 0 0) e1 e48 (by rw[row_of_blk (blk_top (by simp))]) (by rw[fr_of_blk (blk_top (by simp))]) ⟨by simp[patA],by simp[patA],patA_one _ _ _ _ _ _ _ _⟩ ⟨undef,rfl,?_⟩;exact x11j
 intro dn cv w3 hall hJ;rw[allJ,if_pos (hall 34 rfl (by decide))]at hJ;obtain⟨y1,rfl⟩:=hJ;simp only[freeAll,putAll_some,putAll_none,putAll_nil,List.getD_cons_zero,List.getD_cons_succ,Bool.false_eq_true,if_true,if_false,reduceIte,Nat.zero_add,Nat.reduceAdd,List.setIfInBounds_toArray,List.set_cons_zero,List.set_cons_succ];rw[y1,hwz];have hRD:RdAt (wo.drew.alloc (.cells (patA (x8.toNat:Int) (x1.toNat:Int) ((x2.toNat:Int)*256+(x3.toNat:Int)) ((x4.toNat:Int)*256+(x5.toNat:Int)) (x6.toNat:Int) none 0 0) 35)) g0 (x8.toNat:Int) (x1.toNat:Int) ((x2.toNat:Int)*256+(x3.toNat:Int)) ((x4.toNat:Int)*256+(x5.toNat:Int)) (x6.toNat:Int) [] [] none 0:=
  ⟨blk_old (w:=wo.drew) HG1.out,blk_top (by simp;omega),CRow.nil _ _,fun i e h=>by simp at h,by simp;omega,fun q h=>by cases h⟩
 have HRD:=qH hRD;have HBL:Hid (Below g0 w (wo.drew.alloc (.cells (patA (x8.toNat:Int) (x1.toNat:Int) ((x2.toNat:Int)*256+(x3.toNat:Int)) ((x4.toNat:Int)*256+(x5.toNat:Int)) (x6.toNat:Int) none 0 0) 35))):=qH (HBo.out.drew.alloc (by simp;omega) _);have hx1:=X7.out (wo.drew.alloc (.cells (patA (x8.toNat:Int) (x1.toNat:Int) ((x2.toNat:Int)*256+(x3.toNat:Int)) ((x4.toNat:Int)*256+(x5.toNat:Int)) (x6.toNat:Int) none 0 0) 35)) ((Below.refl _ _).drew.alloc nl _);have n1:=N7.out;have u1:=U7.out;clear hRD;generalize wo.drew.alloc (.cells (patA (x8.toNat:Int) (x1.toNat:Int) ((x2.toNat:Int)*256+(x3.toNat:Int)) ((x4.toNat:Int)*256+(x5.toNat:Int)) (x6.toNat:Int) none 0 0) 35)=wL at *
 obtain⟨o4,c4,hc1,hB1,hsl1⟩:=rest_slice (z:=8) 8 rfl rfl rfl hc h2 HB1.out;have HB1:=qH hB1;obtain⟨N,hN⟩:=eX (x7.toNat);rw[hN]at u1 hu7;obtain⟨R,hRR⟩:=eX (readOps N (b.drop 8) []);have HRR:=qH hRR;have HPR:Hid (patRead b=readDone b R):=qH (by unfold patRead;rw[if_neg (by omega),if_neg (by omega),e7x,hN,hRR]);have HHEAD:Hid (∀ops,headPat b ops=⟨(x8.toNat:Int),(x1.toNat:Int),(x2.toNat:Int)*256+(x3.toNat:Int),(x4.toNat:Int)*256+(x5.toNat:Int),(x6.toNat:Int),ops⟩):=qH (fun ops=>by unfold headPat;rw[e0x,e1x,e2x,e3x,e4x,e5x,e6x]);have HFB:Hid (0<=(x8.toNat:Int)∧(x8.toNat:Int)<=255∧0<=(x1.toNat:Int)∧(x1.toNat:Int)<=255∧0<=(x2.toNat:Int)*256+(x3.toNat:Int)∧(x2.toNat:Int)*256+(x3.toNat:Int)<=65535∧0<=(x4.toNat:Int)*256+(x5.toNat:Int)∧(x4.toNat:Int)*256+(x5.toNat:Int)<=65535∧0<=(x6.toNat:Int)∧(x6.toNat:Int)<=255):=qH (by omega);generalize patRead b=pr at *
 clear hRR hB1 hall y1 e0x e1x e2x e3x e4x e5x e6x e7x hu8 hu1 hu2 hu3 hu4 hu5 hu6 X8 X1 X2 X3 X4 X5 X6 X7 X0w X1w X2w X3w X4w X5w X6w X7w U8 U1 U2 U3 U4 U5 U6 U7 N8 N1 N2 N3 N4 N5 N6 N7 S1 S2 O1 O2 HX HZ;generalize (x2.toNat:Int)*256+(x3.toNat:Int)=p2 at *
 generalize (x4.toNat:Int)*256+(x5.toNat:Int)=p3 at *
 generalize (x8.toNat:Int)=p0 at *
 generalize (x1.toNat:Int)=p1 at *
 generalize (x6.toNat:Int)=p4 at *
 go_wp2_with fail;go_loopw [0,56] (fun v i wr=>∃(k:Nat) (rest:LU) (acc:List Stp) (ds:List (Option Addr×Nat)) (o1 c1:Nat) (A:OA) (c0:Nat),v=.slice (some ⟨ab,o1,none⟩) rest.length c1∧i=iv (k:Int)∧k<=N∧rest.length<=c1∧rest.length<=400∧acc.length<=255∧Hid (acc.length=k)∧Hid (readOps (N-k) rest acc=R)∧Hid (Bts w (some ⟨ab,o1,none⟩) rest)∧Hid (RdAt wr g0 p0 p1 p2 p3 p4 acc ds A c0)∧Hid (Below g0 w wr)) (fun _ i _=>N-(intOf i).toNat)
 case atStart=>exact⟨0,b.drop 8,[],[],o4,c4,none,0,by rw[List.length_drop],rfl,Nat.zero_le _,by rw[List.length_drop];exact hc1,by rw[List.length_drop];omega,by simp,qH rfl,HRR,HB1,HRD,HBL⟩
 case round=>
  clear HRD HBL HB1 hx1 HRR hsl1 hc1;rename World=>wr;obtain⟨k,rest,acc,ds,o1,c1,A,c4,rfl,rfl,hk,hrc,hr1,hacc,HAL,HE,HBT,HRDX,HB⟩:=hrel;have hgz:=HRDX.out.le;by_cases hkN:k<N
  ·have dl:decide ((k:Int)<(N:Int))=true:=decide_eq_true (by omega);by_cases hr1:rest.length<2
   ·obtain⟨z1,z2,z3,z4,z5⟩:=blkFacts HRDX.out.z (by simp[patA]);have d1:decide ((rest.length:Int)<2)=true:=decide_eq_true (by omega);have hz:pr=(Pat.zero,7):=by
     obtain⟨m,hm⟩:∃m,N-k=m+1:=⟨N-k-1,by omega⟩;rw[HPR.out,<-HE.out,hm,readOps_short hr1];unfold readDone;rw[if_pos (by decide)]
    have HZZ:=qH hz;clear hz;exact x4qz
   obtain⟨x,y,r,rfl⟩:∃x y r,rest=x::y::r:=by
    rcases rest with _|⟨x,_|⟨y,r⟩⟩
    ·simp at hr1
    ·simp at hr1
    exact⟨x,y,r,rfl⟩
   simp only[List.length_cons]at *
   have d1:decide (((r.length+1+1:Nat):Int)<2)=false:=decide_eq_false (by omega);have hbw:Below w.heap.size w wr:=HBE.out▸HB.out;have XA:Hid (∀w1,Below wr.heap.size wr w1->w1.cell? ⟨ab,o1,none⟩=some (bv x)):=qH (fun w1 h=>by
    obtain⟨b',o',e,hlt,hcc⟩:=((HBT.out.stays hbw).stays h) 0 (by simp);injection e with e;injection e with e1 e2;subst e1 e2;simpa using hcc)
   have YA:Hid (∀w1,Below wr.heap.size wr w1->w1.cell? ⟨ab,o1+1,none⟩=some (bv y)):=qH (fun w1 h=>by
    obtain⟨b',o',e,hlt,hcc⟩:=((HBT.out.stays hbw).stays h) 1 (by simp);injection e with e;injection e with e1 e2;subst e1 e2;simpa using hcc)
   have hxl:=x.toNat_lt;have hyl:=y.toNat_lt;have UX:Hid (IntKind.i64.wrap (x.toNat:Int)=(x.toNat:Int)):=qH (IntWalk.i64_in _ (by omega));have UY:Hid (IntKind.i64.wrap (y.toNat:Int)=(y.toNat:Int)):=qH (IntWalk.i64_in _ (by omega));have NB2:Hid (¬(r.length:Int)+1+1<=0):=qH (by omega);have NB1:Hid (¬(r.length:Int)+1+1<=1):=qH (by omega);clear hbw;go_wp2_with fail;refine wp_region_free (by kernel_rfl) (some 62::some 63::some 64::some 65::some 66::some 67::some 68::some 69::some 70::some 6::none::[]) (false::false::false::false::false::false::false::false::false::true::true::[]) (.slice (some ⟨ab,o1,none⟩) (r.length+1+1) c1::.pointer (some ⟨ab,o1,none⟩)::bv x::iv (x.toNat:Int)::.slice (some ⟨ab,o1,none⟩) (r.length+1+1) c1::.pointer (some ⟨ab,o1+1,none⟩)::bv y::iv (y.toNat:Int)::.agg #[iv (x.toNat:Int),iv (y.toNat:Int),.slice none 0 0]::undef::undef::[]) (allJ wr #[iv 0,iv 0,.slice none 0 0] #[iv (x.toNat:Int),iv (y.toNat:Int),.slice none 0 0] 117 9 10) 116 rfl rfl (by decide+kernel) (by decide+kernel) (by decide+kernel) rfl rfl (by rw[allJ,if_neg (by simp),if_neg (by simp)]) ?_ ?_
   ·refine⟨?_,?_,?_,?_,?_,?_,?_,?_,?_,?_,?_,trivial⟩;all_goals intro done cv a wq hn hw hcl h hJ
    ·exact x3rg
    ·have e1:=fN 0 62 h hw;have nb:=NB2.out;go_simp
    ·have e1:=fN 1 63 h hw;have hx:=XA.out wq hJ.bel;go_simp
    ·have e1:=fN 2 64 h hw;have hu:=UX.out;go_simp
    ·exact x3rg
    ·have e1:=fN 4 66 h hw;have nb:=NB1.out;go_simp
    ·have e1:=fN 5 67 h hw;have hx:=YA.out wq hJ.bel;go_simp
    ·have e1:=fN 6 68 h hw;have hu:=UY.out;go_simp
    ·have e1:=fN 3 65 h hw;have e69:=fN 7 69 h hw;go_simp
    ·have hd2:¬maskB [false,false,false,false,false,false,false,false,false,true,true] done 10=true:=by unfold maskB;rw[show done 10=false from Bool.eq_false_iff.2 (fun e=>by have:=hcl 10 _ rfl e 9 (by decide);rw[hn]at this;cases this)];simp
     have hd1:¬maskB [false,false,false,false,false,false,false,false,false,true,true] done 9=true:=by unfold maskB;rw[hn];simp
     have hJ1:=hJ;rw[allJ,if_neg hd2,if_neg hd1]at hJ1;obtain rfl:wq=wr.drew:=hJ1;refine wp_alloc3 ⟨_,rfl,?_⟩;exact x7e9
    ·have e1:=fr_cv (i:=9) (t:=6) h (hw 9 (by decide)) rfl rfl;have e70:=fN 8 70 h hw;have hd2:¬maskB [false,false,false,false,false,false,false,false,false,true,true] done 10=true:=by unfold maskB;rw[hn];simp
     have hd1:maskB [false,false,false,false,false,false,false,false,false,true,true] done 9=true:=by unfold maskB;rw[hw 9 (by decide)];rfl
     have hJ1:=hJ;rw[allJ,if_neg hd2,if_pos hd1]at hJ1;obtain⟨y1,rfl⟩:=hJ1;rw[y1]at e1;refine wp_st3 (g:=wr.heap.size) (cs:=#[iv 0,iv 0,.slice none 0 0]) e1 e70 (by rw[row_of_blk (blk_top (by simp))]) (by rw[fr_of_blk (blk_top (by simp))]) ⟨by simp,by simp,by simp[allOne,Value.oneCell']⟩ ⟨undef,rfl,?_⟩;exact x11j
   intro dn cv w1 hall hJ;rw[allJ,if_pos (hall 10 rfl (by decide))]at hJ;obtain⟨y1,rfl⟩:=hJ;simp only[freeAll,putAll_some,putAll_none,putAll_nil,List.getD_cons_zero,List.getD_cons_succ,Bool.false_eq_true,if_true,if_false,reduceIte,Nat.zero_add,Nat.reduceAdd,List.setIfInBounds_toArray,List.set_cons_zero,List.set_cons_succ];rw[y1];have HBX:Hid (Below wr.heap.size wr (wr.drew.alloc (.cells #[iv (x.toNat:Int),iv (y.toNat:Int),.slice none 0 0] 117))):=qH ((Below.refl _ _).drew.alloc nl _);have HG1:Hid ((wr.drew.alloc (.cells #[iv (x.toNat:Int),iv (y.toNat:Int),.slice none 0 0] 117)).heap[wr.heap.size]?=some (.cells #[iv (x.toNat:Int),iv (y.toNat:Int),.slice none 0 0] 117 (0,0))):=qH (blk_top (by simp));have HS1:Hid ((wr.drew.alloc (.cells #[iv (x.toNat:Int),iv (y.toNat:Int),.slice none 0 0] 117)).heap.size=wr.heap.size+1):=qH (by simp);clear hall y1 XA YA UX UY;generalize wr.drew.alloc (.cells #[iv (x.toNat:Int),iv (y.toNat:Int),.slice none 0 0] 117)=w2 at *
   have HRD1:=qH (HRDX.out.below HBX.out);have HBW1:=HBX;generalize hg6:wr.heap.size=g6 at *
   have HG6E:=qH hg6;obtain⟨z1,z2,z3,z4,z5⟩:=blkFacts HRD1.out.z (by simp[patA]);obtain⟨q1,q2,q3,q4,q5⟩:=blkFacts HRD1.out.p (by simp[patA]);obtain⟨s1,s2,s3,s4,s5⟩:=blkFacts HG1.out (by simp);obtain⟨o1,c1,hc1,hB1,hsl1⟩:=rest_slice (w:=w) (n:=r.length+1+1) (m:=r.length) (z:=2) 2 rfl (by simp) (by simp) hrc (by simp) HBT.out;rw[List.drop_succ_cons,List.drop_succ_cons,List.drop_zero]at hB1;have HBT1:=qH hB1;have ng1:¬g6=g0:=by omega
   have ng1:¬g6=g0+1:=by omega
   have HBB1:Hid (Below g0 w w2):=qH (HB.out.trans (HBX.out.mono (by omega)));clear hg6 hB1;obtain⟨m,hm⟩:∃m,N-k=m+1:=⟨N-k-1,by omega⟩;by_cases hx:x=255
   ·have hxn:x.toNat=255:=by rw[hx];rfl
    have d1:((x.toNat:Int)==255)=true:=by simp[hxn]
    have hrd:=HE.out;rw[hm,hx,readOps_data]at hrd;have HM1:=qH hm;clear hm hxn;by_cases hy:r.length<y.toNat
    ·have d1:decide ((r.length:Int)<(y.toNat:Int))=true:=decide_eq_true (by omega);have hz:pr=(Pat.zero,7):=by
      rw[HPR.out,<-hrd,if_pos hy];unfold readDone;rw[if_pos (by decide)]
     exact x763
    have d1:decide ((r.length:Int)<(y.toNat:Int))=false:=decide_eq_false (by omega);rw[if_neg hy]at hrd;have HNX:Hid (readOps (N-k-1) (r.drop y.toNat) (acc++[⟨0,0,r.take y.toNat⟩])=R):=qH (by rw[HM1.out];exact hrd);obtain⟨o2,c2,hc2,hB1,hsl1⟩:=rest_slice (w:=w) (n:=r.length) (m:=r.length-y.toNat) (z:=(y.toNat:Int)) y.toNat rfl rfl rfl hc1 (by omega) HBT1.out;have HBT2:=qH hB1;have HSL1:=qH hsl1;have HC1:Hid (g6<w2.heap.size∧w2.cell? ⟨g6,1,none⟩=some (iv (y.toNat:Int))):=qH ⟨s5,by rw[s3];rfl⟩;have HY1:Hid ((y.toNat:Int)<=(c1:Int)):=qH (by omega);have HY2:Hid ((0:Int)<=(y.toNat:Int)):=qH (by omega);have HCL:Hid (∀wq,Below w2.heap.size w2 wq->Calls Try.prog 100 #[.slice (some ⟨ab,o1,none⟩) y.toNat c1] wq (SlRet wq 5 1 y.toNat ((r.take y.toNat).map bv))):=qH (fun wq hb=>cloneBytes_calls _ _ _ _ wq (by simp;omega) (by omega) (mid_take ((HBT1.out.stays (HBE.out▸HBB1.out)).stays hb) y.toNat).src (bv_one _));have HTL:Hid ((r.take y.toNat).length=y.toNat):=qH (by simp;omega);clear hrd hB1 hsl1;go_wp2_with fail;refine wp_region_free (by kernel_rfl) (some 82::some 83::some 84::some 85::some 86::some 87::some 88::some 89::some 90::some 91::none::some 0::[]) (false::false::false::false::true::false::false::false::false::false::true::false::[]) (.slice (some ⟨ab,o1,none⟩) r.length c1::.pointer (some ⟨g6,1,none⟩)::iv (y.toNat:Int)::.slice (some ⟨ab,o1,none⟩) y.toNat c1::undef::.slice (some ⟨ab,o1,none⟩) r.length c1::.pointer (some ⟨g6,1,none⟩)::iv (y.toNat:Int)::.slice (some ⟨ab,o2,none⟩) (r.length-y.toNat) c2::.pointer (some ⟨g6,2,none⟩)::undef::.slice (some ⟨ab,o2,none⟩) (r.length-y.toNat) c2::[]) (cdJ w2 g6 y.toNat ((r.take y.toNat).map bv) 4 10) 116 rfl rfl (by decide+kernel) (by decide+kernel) (by decide+kernel) rfl rfl (by rw[cdJ,if_neg (by simp),if_neg (by simp)]) ?_ ?_
    ·refine⟨?_,?_,?_,?_,?_,?_,?_,?_,?_,?_,?_,?_,trivial⟩;all_goals intro done cv a wq hn hw hcl h hJ
     ·have e1:=fr_un (t:=0) (i:=0) (i0:=11) (v:=.slice (some ⟨ab,o1,none⟩) r.length c1) h hcl hn rfl (by decide) (by decide) rfl;exact mx_move (ch_ev e1)
     ·exact x0s6
     ·have e1:=fN 1 83 h hw;obtain⟨l1,l2⟩:=hJ.cell1 HC1.out;go_simp
     ·have e1:=fN 0 82 h hw;have e84:=fN 2 84 h hw;have k1:=HY1.out;have k1:=HY2.out;go_simp
     ·have e1:=fN 3 85 h hw;have hd2:¬maskB [false,false,false,false,true,false,false,false,false,false,true,false] done 10=true:=by unfold maskB;rw[show done 10=false from Bool.eq_false_iff.2 (fun e=>by have:=hcl 10 _ rfl e 4 (by decide);rw[hn]at this;cases this)];simp
      have hd1:¬maskB [false,false,false,false,true,false,false,false,false,false,true,false] done 4=true:=by unfold maskB;rw[hn];simp
      rw[cdJ,if_neg hd2,if_neg hd1]at hJ;obtain rfl:wq=w2.drew:=hJ;refine wp_call (vals:=#[.slice (some ⟨ab,o1,none⟩) y.toNat c1]) (by rw[List.map_toArray,List.map_cons,List.map_nil,ch_ev e1]) (enters_of Try.func100 (by kernel_rfl) rfl _ _) (HCL.out _ ((Below.refl _ _).drew)) ?_;rintro e w' ⟨A1,c1,rfl,hown,hbel⟩;refine⟨_,rfl,_,rfl,?_⟩;rw[cdJ,if_neg (by simp;simpa using hd2),if_pos (by simp)];exact⟨A1,c1,by simp,hown,(Below.refl _ _).drew.trans hbel⟩
     ·have e1:=fr_un (t:=0) (i:=5) (i0:=11) (v:=.slice (some ⟨ab,o1,none⟩) r.length c1) h hcl hn rfl (by decide) (by decide) rfl;exact mx_move (ch_ev e1)
     ·exact x0s6
     ·have e1:=fN 6 88 h hw;obtain⟨l1,l2⟩:=hJ.cell1 HC1.out;go_simp
     ·have e1:=fN 5 87 h hw;have e89:=fN 7 89 h hw;have k1:=HSL1.out;go_simp
     ·exact x0s6
     ·have e1:=fN 9 91 h hw;have e86:=fr_cv (i:=4) (t:=86) h (hw 4 (by decide)) rfl rfl;have hd2:¬maskB [false,false,false,false,true,false,false,false,false,false,true,false] done 10=true:=by unfold maskB;rw[hn];simp
      have hd1:maskB [false,false,false,false,true,false,false,false,false,false,true,false] done 4=true:=by unfold maskB;rw[hw 4 (by decide)];rfl
      rw[cdJ,if_neg hd2,if_pos hd1]at hJ;obtain⟨A1,c1,y1,hown,hbel⟩:=hJ;rw[y1]at e86;have hc1:wq.cell? ⟨g6,2,none⟩=some (.slice none 0 0):=(hbel.cell (p:=⟨g6,2,none⟩) (blk_lt HG1.out)).trans (by rw[cell_of_row _ _ _ _ _ _ HG1.out];rfl);have hf1:wq.frozen? ⟨g6,2,none⟩=false:=(hbel.frozen (p:=⟨g6,2,none⟩) (blk_lt HG1.out)).trans (frozen_of_row _ _ _ _ _ HG1.out);refine wp_ssl e1 e86 hc1 hf1 ⟨undef,rfl,?_⟩;rw[cdJ,if_pos (by simp)];exact⟨A1,c1,wq,rfl,hown,hbel⟩
     ·have e1:=fN 8 90 h hw;exact mx_assign (ch_ev e1)
    intro dn cv w1 hall hJ;rw[cdJ,if_pos (hall 10 rfl (by decide))]at hJ;obtain⟨A1,c1,wq,rfl,hown,hbel⟩:=hJ;simp only[freeAll,putAll_some,putAll_none,putAll_nil,List.getD_cons_zero,List.getD_cons_succ,Bool.false_eq_true,if_true,if_false,reduceIte,Nat.zero_add,Nat.reduceAdd,List.setIfInBounds_toArray,List.set_cons_zero,List.set_cons_succ];have hg1:=set_blk (j:=2) (v:=.slice A1 y.toNat c1) (blk_below HG1.out hbel);have hd1:Bts (wq.setCell ⟨g6,2,none⟩ (.slice A1 y.toNat c1)) A1 (r.take y.toNat):=(hown.setCell_other (p:=⟨g6,2,none⟩) (fun e=>by have:=(hown.block g6 e).1;have:=HS1.out;omega) _).src.bts;have hA1:∀q,A1.map (·.block)=some q->g6+1<=q∧q<(wq.setCell ⟨g6,2,none⟩ (.slice A1 y.toNat c1)).heap.size:=fun q e=>by have:=hown.block q e;have:=HS1.out;simp;omega
    have hb1:Below g6 wr (wq.setCell ⟨g6,2,none⟩ (.slice A1 y.toNat c1)):=(HBX.out.trans (hbel.mono (by have:=HS1.out;omega))).setCell (p:=⟨g6,2,none⟩) nl _;have hc1:=hown.le;have HG1:=qH hg1;have HD5:=qH hd1;have HA1:=qH hA1;have HB1:=qH hb1;clear hg1 hd1 hA1 hb1 hown hbel hall z1 z2 z3 z4 z5 q1 q2 q3 q4 q5 s1 s2 s3 s4 s5 HC1 HCL HSL1 HY1 HY2;generalize wq.setCell ⟨g6,2,none⟩ (.slice A1 y.toNat c1)=w4 at *
    have HRD1:=qH (HRDX.out.below (HB1.out.mono (Nat.le_of_eq HG6E.out)));obtain⟨z1,z2,z3,z4,z5⟩:=blkFacts HRD1.out.z (by simp[patA]);obtain⟨q1,q2,q3,q4,q5⟩:=blkFacts HRD1.out.p (by simp[patA]);obtain⟨s1,s2,s3,s4,s5⟩:=blkFacts HG1.out (by simp);have HBW:Hid (Below g6 wr ((w4.setCell ⟨g6,0,none⟩ (iv 0)).setCell ⟨g6,1,none⟩ (iv 0))):=qH ((HB1.out.setCell (p:=⟨g6,0,none⟩) nl _).setCell (p:=⟨g6,1,none⟩) nl _);have HLN:Hid (r.length-y.toNat=(r.drop y.toNat).length):=qH (by simp);have HD1:Hid (Bts (((w4.setCell ⟨g6,0,none⟩ (iv 0)).setCell ⟨g6,1,none⟩ (iv 0)).alloc (.cells #[iv 0,iv 0,.slice A1 y.toNat c1] 117)) A1 (r.take y.toNat)):=qH ((bts_set (bts_set HD5.out (fun q e e2=>by have:=(HA1.out q e).1;have e3:g6=q:=e2;omega)) (fun q e e2=>by have:=(HA1.out q e).1;have e3:g6=q:=e2;omega)).stays (bL _));have HD2:Hid ((r.take y.toNat).length<=c1):=qH (by rw[HTL.out];exact hc1);have HD3:Hid (∀q,A1.map (·.block)=some q->g6<=q∧q<(((w4.setCell ⟨g6,0,none⟩ (iv 0)).setCell ⟨g6,1,none⟩ (iv 0)).alloc (.cells #[iv 0,iv 0,.slice A1 y.toNat c1] 117)).heap.size):=qH (fun q e=>by have:=HA1.out q e;simp;omega);have HD4:Hid (I64 0∧I64 0∧(r.take y.toNat).length<=140737488351232):=qH ⟨⟨by decide,by decide⟩,⟨by decide,by decide⟩,by rw[HTL.out];omega⟩;have HCE:Hid (opCell ⟨0,0,r.take y.toNat⟩ (A1,c1)=[iv 0,iv 0,.slice A1 y.toNat c1]):=qH (by unfold opCell;dsimp only;rw[HTL.out]);have HRDW:=qH (HRDX.out.below (HBW.out.mono (Nat.le_of_eq HG6E.out)));have hoa:=HRDW.out.row.row.alloc (.cells #[iv 0,iv 0,.slice A1 y.toNat c1] 117);have hs1:Src (((w4.setCell ⟨g6,0,none⟩ (iv 0)).setCell ⟨g6,1,none⟩ (iv 0)).alloc (.cells #[iv 0,iv 0,.slice A1 y.toNat c1] 117)) (some ⟨w4.heap.size,0,none⟩) [iv 0,iv 0,.slice A1 y.toNat c1]:=src_blk (blk_top (by simp));have hob:acc.length+1<=137438953472:=by omega
    have hle:g0+2<=(((w4.setCell ⟨g6,0,none⟩ (iv 0)).setCell ⟨g6,1,none⟩ (iv 0)).alloc (.cells #[iv 0,iv 0,.slice A1 y.toNat c1] 117)).heap.size:=by have:=HRDW.out.le;simp at this⊢;omega
    go_wp2_with (at_builtin;go_must (refine wpList_app (((w4.setCell ⟨g6,0,none⟩ (iv 0)).setCell ⟨g6,1,none⟩ (iv 0)).alloc (.cells #[iv 0,iv 0,.slice A1 y.toNat c1] 117)) rfl _ _ 23 rfl elOps (g0+2) A acc.length c4 (opCells acc ds) rfl hoa (some ⟨w4.heap.size,0,none⟩) 1 1 [iv 0,iv 0,.slice A1 y.toNat c1] rfl hs1 rfl (by simp[Value.oneCell']) hob hle ?_;intro A' c' w5 hown hgr hbel hor);(obtain⟨⟨ds',hrd⟩,hp5⟩:=HRDX.out.push (x:=⟨0,0,r.take y.toNat⟩) (e:=(A1,c1)) ((HBW.out.alloc (by have:=HBW.out.size;have:=HG6E.out;omega) _).mono (Nat.le_of_eq HG6E.out)) (HCE.out.symm▸hown) hgr hbel hor HD1.out HD2.out (fun q e=>⟨by have:=(HD3.out q e).1;have:=HG6E.out;omega,(HD3.out q e).2⟩) HD4.out);(obtain⟨p1,p2,p3,p4,p5⟩:=blkFacts hp5 (by simp[patA]));(have HRD5:=qH hrd);(have HB5:Hid (Below g0 w w5):=qH (((HB.out.trans (HBW.out.mono (by omega))).alloc (by have:=HRDW.out.le;omega) _).trans (hbel.mono (by omega))));(clear hown hgr hbel hor hoa hs1 hob hle hrd hp5));go_roundw
    case rel=>exact⟨k+1,r.drop y.toNat,acc++[⟨0,0,r.take y.toNat⟩],ds',o2,c2,A',c',by rw[HLN.out],by go_num,by omega,by rw[<-HLN.out];exact hc2,by rw[<-HLN.out];omega,by have:=HAL.out;simp;omega,qH (by have:=HAL.out;simp;omega),qH (by rw[show N-(k+1)=N-k-1 by omega];exact HNX.out),HBT2,HRD5,qH (HB5.out.setCell (p:=⟨g0+1,5,none⟩) (by show g0<=g0+1;omega) _)⟩
    case measure=>simp[intOf];omega
   have d1:((x.toNat:Int)==255)=false:=by
    exact x41l
   have hrd:=HE.out;rw[hm]at hrd;have HM1:=qH hm;clear hm;by_cases hy:y=0
   ·subst hy;have d1:(((0:UInt8).toNat:Int)==0)=true:=by decide
    rw[readOps_zero hx]at hrd;have hz:pr=(Pat.zero,3):=by
     rw[HPR.out,<-hrd];unfold readDone;rw[if_pos (by decide)]
    exact x763
   have hyn:y.toNat≠0:=fun e=>hy (UInt8.toNat_inj.1 (by rw[e];rfl));have d1:((y.toNat:Int)==0)=false:=by simp;omega
   rw[readOps_copy hx hy]at hrd;have HNX:Hid (readOps (N-k-1) r (acc++[⟨(x.toNat:Int),(y.toNat:Int),[]⟩])=R):=qH (by rw[HM1.out];exact hrd);have HBW:Hid (Below g6 wr w2):=HBX;have HD1:Hid (Bts (w2.alloc (.cells #[iv (x.toNat:Int),iv (y.toNat:Int),.slice none 0 0] 117)) none []):=qH (Bts.nil _ _);have HD2:Hid (([]:List UInt8).length<=0):=qH nl;have HD3:Hid (∀q,(none:OA).map (·.block)=some q->g6<=q∧q<(w2.alloc (.cells #[iv (x.toNat:Int),iv (y.toNat:Int),.slice none 0 0] 117)).heap.size):=qH (fun q e=>by cases e);have HD4:Hid (I64 (x.toNat:Int)∧I64 (y.toNat:Int)∧([]:List UInt8).length<=140737488351232):=qH ⟨⟨by omega,by omega⟩,⟨by omega,by omega⟩,by simp⟩;have HCE:Hid (opCell ⟨(x.toNat:Int),(y.toNat:Int),[]⟩ (none,0)=[iv (x.toNat:Int),iv (y.toNat:Int),.slice none 0 0]):=qH rfl;clear hrd hyn;have HRDW:=qH (HRDX.out.below (HBW.out.mono (Nat.le_of_eq HG6E.out)));have hoa:=HRDW.out.row.row.alloc (.cells #[iv (x.toNat:Int),iv (y.toNat:Int),.slice none 0 0] 117);have hs1:Src (w2.alloc (.cells #[iv (x.toNat:Int),iv (y.toNat:Int),.slice none 0 0] 117)) (some ⟨w2.heap.size,0,none⟩) [iv (x.toNat:Int),iv (y.toNat:Int),.slice none 0 0]:=src_blk (blk_top (by simp));have hob:acc.length+1<=137438953472:=by omega
   have hle:g0+2<=(w2.alloc (.cells #[iv (x.toNat:Int),iv (y.toNat:Int),.slice none 0 0] 117)).heap.size:=by have:=HRDW.out.le;simp at this⊢;omega
   go_wp2_with (at_builtin;go_must (refine wpList_app (w2.alloc (.cells #[iv (x.toNat:Int),iv (y.toNat:Int),.slice none 0 0] 117)) rfl _ _ 23 rfl elOps (g0+2) A acc.length c4 (opCells acc ds) rfl hoa (some ⟨w2.heap.size,0,none⟩) 1 1 [iv (x.toNat:Int),iv (y.toNat:Int),.slice none 0 0] rfl hs1 rfl (by simp[Value.oneCell']) hob hle ?_;intro A' c' w5 hown hgr hbel hor);(obtain⟨⟨ds',hrd⟩,hp5⟩:=HRDX.out.push (x:=⟨(x.toNat:Int),(y.toNat:Int),[]⟩) (e:=(none,0)) ((HBW.out.alloc (by have:=HBW.out.size;have:=HG6E.out;omega) _).mono (Nat.le_of_eq HG6E.out)) (HCE.out.symm▸hown) hgr hbel hor HD1.out HD2.out (fun q e=>⟨by have:=(HD3.out q e).1;have:=HG6E.out;omega,(HD3.out q e).2⟩) HD4.out);(obtain⟨p1,p2,p3,p4,p5⟩:=blkFacts hp5 (by simp[patA]));(have HRD5:=qH hrd);(have HB5:Hid (Below g0 w w5):=qH (((HB.out.trans (HBW.out.mono (by omega))).alloc (by have:=HRDW.out.le;omega) _).trans (hbel.mono (by omega))));(clear hown hgr hbel hor hoa hs1 hob hle hrd hp5));go_roundw
   case rel=>exact⟨k+1,r,acc++[⟨(x.toNat:Int),(y.toNat:Int),[]⟩],ds',o1,c1,A',c',rfl,by go_num,by omega,hc1,by omega,by have:=HAL.out;simp;omega,qH (by have:=HAL.out;simp;omega),qH (by rw[show N-(k+1)=N-k-1 by omega];exact HNX.out),HBT1,HRD5,qH (HB5.out.setCell (p:=⟨g0+1,5,none⟩) (by show g0<=g0+1;omega) _)⟩
   case measure=>simp[intOf];omega
  obtain rfl:k=N:=by omega
  have dl:decide ((k:Int)<(k:Int))=false:=by simp
  have hR1:R=(0,acc,rest):=by rw[<-HE.out,Nat.sub_self,readOps_nil]
  rw[hR1]at HPR;obtain⟨z1,z2,z3,z4,z5⟩:=blkFacts HRDX.out.z (by simp[patA]);obtain⟨q1,q2,q3,q4,q5⟩:=blkFacts HRDX.out.p (by simp[patA]);clear hR1 HE;by_cases hre:rest≠[]
  ·have hrp:0<rest.length:=List.length_pos_iff.2 hre;have hz:pr=(Pat.zero,7):=by rw[HPR.out];unfold readDone;rw[if_neg (by simp),if_pos hre]
   have HZZ:=qH hz;clear hz hre;exact x4qz
  have hre:=Decidable.not_not.1 hre;subst hre;have hdone:pr=if patCheck ⟨p0,p1,p2,p3,p4,acc⟩≠0 then (Pat.zero,patCheck ⟨p0,p1,p2,p3,p4,acc⟩)else (⟨p0,p1,p2,p3,p4,acc⟩,0):=by
   rw[HPR.out];unfold readDone;rw[if_neg (by simp),if_neg (by simp),HHEAD.out]
  have HDN:=qH hdone;have HCK:=qH (patCheck_calls A c4 p0 p1 p2 p3 p4 acc wr (by omega) (HRDX.out.row.sps HRDX.out.bd));clear hdone HHEAD HPR;simp only[List.length_nil,Int.ofNat_eq_natCast,Int.natCast_zero]at *
  by_cases hck:patCheck ⟨p0,p1,p2,p3,p4,acc⟩=0
  ·have hz:pr=(⟨p0,p1,p2,p3,p4,acc⟩,0):=by rw[HDN.out,if_neg (by simpa using hck)]
   rw[hck]at HCK;have HZZ:=qH hz;clear hz hck HDN;go_wp2_with fail;refine HCK.out.mono ?_;rintro e w1 ⟨rfl,hb1⟩;have HRD1:=qH (HRDX.out.below hb1);have HB1:Hid (Below g0 w w1):=qH (HB.out.trans (hb1.mono (by omega)));clear hb1 z1 z2 z3 z4 z5 q1 q2 q3 q4 q5;obtain⟨z1,z2,z3,z4,z5⟩:=blkFacts HRD1.out.z (by simp[patA]);obtain⟨q1,q2,q3,q4,q5⟩:=blkFacts HRD1.out.p (by simp[patA]);have ng:¬g0+1=g0:=by omega
   go_wp2_with fail;refine bodyPost_ret (rC (patA p0 p1 p2 p3 p4 A acc.length c4)) rfl ?_;rw[HZZ.out];have hfr:=(HRD1.out.row.fresh HRD1.out.nd HRD1.out.bd);refine⟨A,c4,rfl,?_,HBE.out.symm▸below_row HB1.out nl _⟩;refine((hfr.imp (Q:=fun v=>PatIn v ⟨p0,p1,p2,p3,p4,acc⟩ A c4) fun v hv=>⟨HRD1.out.row.row.le,by dsimp only;omega,hv,?_,?_,?_,?_,?_⟩).row (by omega) _).mono (by rw[HBE.out];omega);all_goals (obtain⟨f1,f2,f3,f4,f5,f6,f7,f8,f9,f10⟩:=HFB.out;exact⟨by dsimp only;omega,by dsimp only;omega⟩)
  have hz:pr=(Pat.zero,patCheck ⟨p0,p1,p2,p3,p4,acc⟩):=by rw[HDN.out,if_pos hck]
  have d1:(patCheck ⟨p0,p1,p2,p3,p4,acc⟩ !=0)=true:=by simp[hck]
  have HZZ:=qH hz;clear hz hck HDN;generalize patCheck ⟨p0,p1,p2,p3,p4,acc⟩=ck at *
  go_wp2_with fail;refine HCK.out.mono ?_;rintro e w1 ⟨rfl,hb1⟩;have HRD1:=qH (HRDX.out.below hb1);have HB1:Hid (Below g0 w w1):=qH (HB.out.trans (hb1.mono (by omega)));clear hb1 z1 z2 z3 z4 z5 q1 q2 q3 q4 q5;obtain⟨z1,z2,z3,z4,z5⟩:=blkFacts HRD1.out.z (by simp[patA]);go_wp2_with fail;refine bodyPost_ret (rC (patA 0 0 0 0 0 none 0 0)) rfl ?_;rw[HZZ.out];exact⟨none,0,rfl,.const fun v=>patIn_zero v,HBE.out.symm▸below_row HB1.out nl _⟩
section
open Go.RowKit
end
theorem x9b4(h:Y:=by
 have fr:=ptJ_frame hJ;have hg1:=(fr.2 g hglt hgC).trans HG.out;have hc:wq.cell? ⟨g,2,none⟩=some (.slice D data.length dc):=by rw[cell_of_row _ _ _ _ _ _ hg1];rfl
 go_simp):Y:=h
def ptJ(w0:World)(base:Nat)(A:OA)(n c:Nat)(xs ns ps:List Value)(i5 i6 i9 i10:Nat)(done:Nat->Bool)(cv:Nat->Value)(w:World):Prop:=
 if done i9=true then (Below base w0 w∧∀k,k<w0.heap.size->A.map (·.block)≠some k->w.heap[k]?=w0.heap[k]?)∧∃A2 c2,cv i9=.slice A2 (n+2+ps.length) c2∧Own w base 5 1 A2 (n+2+ps.length) c2 (xs++ns++ps)∧(done i10=true->cv i10=.slice A2 (n+2+ps.length) c2)
 else if done i6=true then (Below base w0 w∧∀k,k<w0.heap.size->A.map (·.block)≠some k->w.heap[k]?=w0.heap[k]?)∧∃A1 c1,cv i6=.slice A1 (n+2) c1∧Own w base 5 1 A1 (n+2) c1 (xs++ns)∧(A1.map (·.block)=A.map (·.block)∨∀k,A1.map (·.block)=some k->w0.heap.size<=k)
 else if done i5=true then (Below base w0 w∧∀k,k<w0.heap.size->A.map (·.block)≠some k->w.heap[k]?=w0.heap[k]?)∧Own w base 5 1 A n c xs∧∃bb,cv i5=.slice (some ⟨bb,0,none⟩) 2 2∧w.heap[bb]?=some (.cells ns.toArray 5 (0,0))∧w0.heap.size<=bb
 else w=w0.drew
theorem ptJ_frame{w0:World}{base i5 i6 i9 i10:Nat}{xs ns ps:List Value}(h:ptJ w0 base A n c xs ns ps i5 i6 i9 i10 done cv w):Below base w0 w∧∀k,k<w0.heap.size->A.map (·.block)≠some k->w.heap[k]?=w0.heap[k]?:=by
 unfold ptJ at h;split at h
 ·exact h.1
 split at h
 ·exact h.1
 split at h
 ·exact h.1
 subst h;exact⟨(Below.refl _ _).drew,fun _ _ _=>rfl⟩
theorem wp_sb2i{p:String}{d r:Tmp}{m:Int}(hr:a.tmps[r]?=some (.int .u8 m))
  (h:K (a.put (some d) (.slice (some ⟨w.heap.size,0,none⟩) 2 2)) (w.alloc (.cells #[.int .u8 255,.int .u8 m] 5))):
  Oper.wp Try.prog ⟨some d,.buildSlice 22 2 #[(0,.const (.int .u8 255)),(1,.tmp r)],t,p,af,gd⟩ a w K Q:=by
 have e1:a.eval (.const (.int .u8 255))=.int .u8 255:=rfl;have e2:a.eval (.tmp r)=.int .u8 m:=by simp[Act.eval,hr]
 exact x9nx
theorem bts_same{w':World}{l:LU}(h:Bts w A l)(hk:∀k,A.map (·.block)=some k->k<w.heap.size->w'.heap[k]?=w.heap[k]?):Bts w' A l:=by
 intro i hi;obtain⟨b,o,rfl,hlt,hc⟩:=h i hi;have e:=hk b rfl hlt;refine⟨b,o,rfl,?_,(World.cell?_of_block e).trans hc⟩;rcases Nat.lt_or_ge b w'.heap.size with h|h
 ·exact h
 rw[Array.getElem?_eq_none h,Array.getElem?_eq_getElem hlt]at e;cases e
theorem own_blk{base e:Nat}{cs:List Value}(h:w.heap[g]?=some (.cells cs.toArray e (0,0)))(hb:base<=g)(hl:cs.length=n)(hn:n<=140737488351232):Own w base e 1 (some ⟨g,0,none⟩) n n cs:=
 ⟨by omega,Or.inr ⟨g,n,_,rfl,hb,h,nl,by unfold maxLen;omega,by simp;omega,by simp[<-hl]⟩⟩
theorem patPut_bad(B:OA)(d:Nat)(p:Pat)(w:World)(hp:PatIn w p B d)(h:patCheck p≠0):
  Calls Try.prog 97 #[.agg (patA p.from_ p.to_ p.old p.new_ p.size B p.ops.length d)] w (RetB w (.tuple #[.slice none 0 0,iv (patCheck p)])):=by
 obtain⟨f,t,o,n,sz,l⟩:=p;obtain⟨hcap,hlen,hops,-,-,-,-,-⟩:=hp;dsimp only at *
 have hba:=(bW w).alloc nl (.cells (patA f t o n sz B l.length d) 35);have K1:=qH (patCheck_calls B d f t o n sz l _ hlen (hops.stays hba));generalize patCheck ⟨f,t,o,n,sz,l⟩=ck at *
 have q:(ck !=0)=true:=by simp[h]
 clear hops h;go_enter Try.func97,Try.ntmps97;exact x7gj
theorem patPut_ok(B:OA)(d:Nat)(p:Pat)(w:World)(hp:PatIn w p B d)(h:patCheck p=0):
  Calls Try.prog 97 #[.agg (patA p.from_ p.to_ p.old p.new_ p.size B p.ops.length d)] w (UnRet w (patBytes p,0)):=by
 have hl1:=patBytes_len h;obtain⟨hr,hd⟩:=patCheck_ok.1 h;have HPB:Hid (patBytes p=patHead p++opsBytes p.ops):=qH rfl;obtain⟨f,t,o,n,sz,l⟩:=p;obtain⟨hcap,hlen,hops,-,-,-,-,-⟩:=hp;unfold Pat.range at hr;dsimp only at *
 obtain⟨r1,r2,r3,r4,r5,r6,r7,r8⟩:=hr;have r1:=hd.s0;have r1:=hd.s1;have r1:=hd.many;have hba:=(bW w).alloc nl (.cells (patA f t o n sz B l.length d) 35);have K1:=qH (patCheck_calls B d f t o n sz l _ hlen (hops.stays hba));rw[h]at K1;have HD:=qH hd;have HS:=qH hops;have HBA:=qH hba;clear hops hd h hba;go_enter Try.func97,Try.ntmps97;go_wp2_with fail;refine K1.out.mono ?_;rintro e w1 ⟨rfl,hb1⟩;have a1:=kp (w.heap.size) (patA f t o n sz B l.length d) hb1;have HB1:=bT HBA hb1;clear hb1 K1;go_wp2_with fail;generalize hbase:w.heap.size=base at *
 have HBE:=qH hbase;have hsw1:=HB1.out.size;have hlw1:base<=w1.heap.size:=by omega
 have hhd:((patHead ⟨f,t,o,n,sz,l⟩).map bv)=[.int .u8 f,.int .u8 t,.int .u8 (o / 256),.int .u8 (o%256),.int .u8 (n / 256),.int .u8 (n%256),.int .u8 sz,.int .u8 (l.length:Int)]:=by
  unfold patHead;simp only[List.map_cons,List.map_nil];rw[bv_by f (by omega),bv_by t (by omega),bv_by (o / 256) (by omega),bv_by2 o,bv_by (n / 256) (by omega),bv_by2 n,bv_by sz (by omega),bv_by (l.length:Int) (by omega)]
 have hot:=own_blk (w:=w1.alloc (.cells #[.int .u8 f,.int .u8 t,.int .u8 (o / 256),.int .u8 (o%256),.int .u8 (n / 256),.int .u8 (n%256),.int .u8 sz,.int .u8 (l.length:Int)] 5)) (base:=base) (g:=w1.heap.size) (n:=8) (cs:=[.int .u8 f,.int .u8 t,.int .u8 (o / 256),.int .u8 (o%256),.int .u8 (n / 256),.int .u8 (n%256),.int .u8 sz,.int .u8 (l.length:Int)]) (blk_top rfl) hlw1 rfl (by decide);have hot1:=hot;have HOT:Hid (Own (w1.alloc (.cells #[.int .u8 f,.int .u8 t,.int .u8 (o / 256),.int .u8 (o%256),.int .u8 (n / 256),.int .u8 (n%256),.int .u8 sz,.int .u8 (l.length:Int)] 5)) base 5 1 (some ⟨w1.heap.size,0,none⟩) 8 8 ((patHead ⟨f,t,o,n,sz,l⟩).map bv)):=qH (by rw[hhd];exact hot1);have HB2:Hid (Below base w (w1.alloc (.cells #[.int .u8 f,.int .u8 t,.int .u8 (o / 256),.int .u8 (o%256),.int .u8 (n / 256),.int .u8 (n%256),.int .u8 sz,.int .u8 (l.length:Int)] 5))):=qH (HB1.out.alloc hlw1 _);clear hhd hot hot1 a1;have hph1:(patHead ⟨f,t,o,n,sz,l⟩).length=8:=rfl;have HP1:=qH hph1;clear hph1;generalize patHead ⟨f,t,o,n,sz,l⟩=hd at *
 generalize patBytes ⟨f,t,o,n,sz,l⟩=pb at *
 go_loopw [5,44] (fun v i wr=>∃(k:Nat) (C:OA) (cc:Nat) (pre:LU),k<=l.length∧i=iv k∧v=.slice C pre.length cc∧Hid (pre=hd++opsBytes (l.take k))∧Hid (Own wr base 5 1 C pre.length cc (pre.map bv))∧Hid (Below base w wr)) (fun _ i _=>l.length-(intOf i).toNat)
 case atStart=>exact⟨0,_,8,hd,Nat.zero_le _,rfl,by rw[HP1.out],qH (by simp[opsBytes]),by rw[HP1.out];exact HOT,HB2⟩
 case round=>
  clear HOT HB2 HB1 HBA;rename World=>wz;obtain⟨k,C,cc,pre,hk,rfl,rfl,HPRE,HO1,HB1⟩:=hrel;have hbz:base<=wz.heap.size:=Nat.le_trans (Nat.le_of_eq HBE.out.symm) HB1.out.size;have hpl:pre.length+(opsBytes (l.drop k)).length=pb.length:=by
   exact x2h2
  by_cases hlt:k<l.length
  ·have hxo:=HD.out.each l[k] (List.getElem_mem hlt);have hbw:Below w.heap.size w wz:=HBE.out▸HB1.out;obtain⟨sb,so,D,dc,rfl,hsb,q3,q1,q2,p3,p4,p5,-,-⟩:=HS.out.at_ hlt;have p6:=(hbw.cell (p:=⟨sb,so+k*3,none⟩) hsb).trans q3;have p1:=(hbw.cell (p:=⟨sb,so+k*3+1,none⟩) hsb).trans q1;have p2:=(hbw.cell (p:=⟨sb,so+k*3+2,none⟩) hsb).trans q2;clear q3 q1 q2;have hpre1:hd++opsBytes (l.take (k+1))=pre++stpBytes l[k]:=by rw[List.take_succ_eq_append_getElem hlt,opsBytes_append,opsBytes_one,<-List.append_assoc,<-HPRE.out]
   have hdrop:l.drop k=l[k]::l.drop (k+1):=List.drop_eq_getElem_cons hlt;rw[hdrop,opsBytes_cons,List.length_append]at hpl;obtain⟨x,hx⟩:=eX (l[k]);rw[hx]at hxo hpre1 hpl p6 p1 p2 p3 p4 p5;clear hx hdrop;obtain⟨at_,len,data⟩:=x;obtain⟨hform,hin⟩:=hxo;unfold Stp.in_ at hin;dsimp only at *
   obtain⟨j1,j2,j3⟩:=hin;have HDT1:=qH (p5.stays hbw);have HDW:=qH p5;clear hbw;have HPRE1:=qH hpre1;have dl:decide ((k:Int)<(l.length:Int))=true:=decide_eq_true (by omega);have hwk:IntKind.i64.wrap ((k:Int)+1)=(k:Int)+1:=IntWalk.i64_in _ (by omega);clear p5 hpre1;by_cases hl1:0<len
   ·have hst:stpBytes ⟨at_,len,data⟩=[by_ at_,by_ len]:=by unfold stpBytes;rw[if_pos hl1]
    rw[hst]at HPRE1 hpl;have hj1:at_<=64:=by omega
    have hj1:len<=64:=by omega
    have HBV:Hid (([by_ at_,by_ len]:List UInt8).map bv=[.int .u8 at_,.int .u8 len]):=qH (by simp only[List.map_cons,List.map_nil];rw[bv_by at_ (by omega),bv_by len (by omega)]);have hoa:=(HO1.out.alloc (.cells #[iv at_,iv len,.slice D data.length dc] 117)).alloc (.cells #[.int .u8 at_,.int .u8 len] 5);have hs1:Src ((wz.alloc (.cells #[iv at_,iv len,.slice D data.length dc] 117)).alloc (.cells #[.int .u8 at_,.int .u8 len] 5)) (some ⟨wz.heap.size+1,0,none⟩) [.int .u8 at_,.int .u8 len]:=src_blk (blk_top (by simp));have hob:pre.length+2<=137438953472:=by omega
    have hle:base<=((wz.alloc (.cells #[iv at_,iv len,.slice D data.length dc] 117)).alloc (.cells #[.int .u8 at_,.int .u8 len] 5)).heap.size:=by simp;omega
    clear hst hform hpl;go_wp2_with (at_builtin;go_must (refine wpList_app ((wz.alloc (.cells #[iv at_,iv len,.slice D data.length dc] 117)).alloc (.cells #[.int .u8 at_,.int .u8 len] 5)) rfl _ _ 22 rfl elBytes base C pre.length cc (pre.map bv) rfl hoa (some ⟨wz.heap.size+1,0,none⟩) 2 2 [.int .u8 at_,.int .u8 len] rfl hs1 rfl (by simp[Value.oneCell']) hob hle ?_;intro C1 c1 w2 hown hgr hbel hor));have HB1:Hid (Below base w w2):=qH (((HB1.out.alloc hbz _).alloc (by simp;omega) _).trans hbel);have HL:Hid (pre.length+2=(pre++[by_ at_,by_ len]).length):=qH (by simp);have HO1:Hid (Own w2 base 5 1 C1 (pre++[by_ at_,by_ len]).length c1 ((pre++[by_ at_,by_ len]).map bv)):=qH (by rw[List.map_append,HBV.out,<-HL.out];exact hown);clear hown hgr hbel hor hoa hs1 hob hle;go_roundw
    case rel=>exact⟨k+1,C1,c1,pre++[by_ at_,by_ len],by omega,by go_num,by rw[HL.out],qH HPRE1.out.symm,HO1,HB1⟩
    case measure=>simp[intOf];omega
   obtain rfl:len=0:=by omega
   obtain⟨rfl,hd1,hd2⟩:=hform.1 rfl;have hst:stpBytes ⟨0,0,data⟩=255::by_ data.length::data:=by unfold stpBytes;rw[if_neg (by simp)]
   rw[hst]at HPRE1 hpl;simp only[List.length_cons]at hpl;have hdl:data.length<=64:=hd2;have HU1:Hid (IntKind.u8.wrap (data.length:Int)=(data.length:Int)):=qH (by unfold IntKind.wrap;simp[IntKind.signed,IntKind.bits];omega);have HBV:Hid ((255::by_ data.length::data:LU).map bv=[.int .u8 255,.int .u8 (data.length:Int)]++data.map bv):=qH (by simp only[List.map_cons];rw[bv_by (data.length:Int) (by omega)];rfl);have HG:Hid ((wz.alloc (.cells #[iv 0,iv 0,.slice D data.length dc] 117)).heap[wz.heap.size]?=some (.cells #[iv 0,iv 0,.slice D data.length dc] 117 (0,0))):=qH (blk_top rfl);have HO:Hid (Own (wz.alloc (.cells #[iv 0,iv 0,.slice D data.length dc] 117)) base 5 1 C pre.length cc (pre.map bv)):=qH (HO1.out.alloc _);have HBo:Hid (Below base w (wz.alloc (.cells #[iv 0,iv 0,.slice D data.length dc] 117))):=qH (HB1.out.alloc hbz _);have HDT:Hid (Bts (wz.alloc (.cells #[iv 0,iv 0,.slice D data.length dc] 117)) D data):=qH (HDT1.out.stays (bL _));have hgC:C.map (·.block)≠some wz.heap.size:=fun e=>by have:=(HO1.out.block _ e).2;omega
   have hglt:wz.heap.size<(wz.alloc (.cells #[iv 0,iv 0,.slice D data.length dc] 117)).heap.size:=by simp
   have hbo:base<=(wz.alloc (.cells #[iv 0,iv 0,.slice D data.length dc] 117)).heap.size:=by simp;omega
   have HDC:Hid (∀k,D.map (·.block)=some k->C.map (·.block)≠some k):=qH (by
    intro q hq e;have h1:=(HO1.out.block q e).1;obtain⟨b',o',e1,h1,_⟩:=HDW.out 0 (List.length_pos_iff.2 hd1);rw[e1]at hq;have hq:b'=q:=by simpa using hq
    have:=HBE.out;omega)
   clear hst hform hd1;go_wp2_with fail;clear p6 p1 p2 dl;generalize hwo:wz.alloc (.cells #[iv 0,iv 0,.slice D data.length dc] 117)=wo at *
   generalize wz.heap.size=g at *
   refine wp_region_free (by kernel_rfl) (some 60::some 61::some 62::some 63::some 64::some 65::some 66::some 67::some 68::some 69::some 5::[]) (false::false::false::false::false::true::true::false::false::true::true::[]) (.slice C pre.length cc::.pointer (some ⟨g,2,none⟩)::.slice D data.length dc::iv (data.length:Int)::.int .u8 (data.length:Int)::undef::undef::.pointer (some ⟨g,2,none⟩)::.slice D data.length dc::undef::undef::[]) (ptJ wo base C pre.length cc (pre.map bv) [.int .u8 255,.int .u8 (data.length:Int)] (data.map bv) 5 6 9 10) 75 rfl rfl (by decide+kernel) (by decide+kernel) (by decide+kernel) rfl rfl (by rw[ptJ,if_neg (by simp),if_neg (by simp),if_neg (by simp)]) ?_ ?_
   ·refine⟨?_,?_,?_,?_,?_,?_,?_,?_,?_,?_,?_,trivial⟩;all_goals intro done cv a wq hn hw hcl h hJ
    ·have e1:=fr_un (t:=5) (i:=0) (i0:=10) (v:=.slice C pre.length cc) h hcl hn rfl (by decide) (by decide) rfl;exact mx_move (ch_ev e1)
    ·have e1:=fO 7 (.pointer (some ⟨g,0,none⟩)) h;go_simp
    ·have e1:=fN 1 61 h hw;exact x9b4
    ·have e1:=fN 2 62 h hw;go_simp
    ·have e1:=fN 3 63 h hw;have hu:=HU1.out;go_simp
    ·have e1:=fN 4 64 h hw;have hd1:¬maskB [false,false,false,false,false,true,true,false,false,true,true] done 6=true:=by unfold maskB;rw[show done 6=false from Bool.eq_false_iff.2 (fun e=>by have:=hcl 6 _ rfl e 5 (by decide);rw[hn]at this;cases this)];simp
     have hd2:¬maskB [false,false,false,false,false,true,true,false,false,true,true] done 9=true:=by unfold maskB;rw[show done 9=false from Bool.eq_false_iff.2 (fun e=>hd1 (by unfold maskB;rw[hcl 9 _ rfl e 6 (by decide)];rfl))];simp
     have hd3:¬maskB [false,false,false,false,false,true,true,false,false,true,true] done 5=true:=by unfold maskB;rw[hn];simp
     rw[ptJ,if_neg hd2,if_neg hd1,if_neg hd3]at hJ;obtain rfl:wq=wo.drew:=hJ;refine wp_sb2i e1 ⟨_,rfl,?_⟩;rw[ptJ,if_neg (by simp;simpa using hd2),if_neg (by simp;simpa using hd1),if_pos (by simp)];exact⟨⟨(Below.refl _ _).drew.alloc (by simpa using hbo) _,fun k hk hne=>Below.heap_alloc wo.drew _ k hk⟩,HO.out.drew.alloc _,wo.heap.size,by simp,blk_top (by simp),nl⟩
    ·have e1:=fN 0 60 h hw;have e65:=fr_cv (i:=5) (t:=65) h (hw 5 (by decide)) rfl rfl;have hd1:¬maskB [false,false,false,false,false,true,true,false,false,true,true] done 9=true:=by unfold maskB;rw[show done 9=false from Bool.eq_false_iff.2 (fun e=>by have:=hcl 9 _ rfl e 6 (by decide);rw[hn]at this;cases this)];simp
     have hd2:¬maskB [false,false,false,false,false,true,true,false,false,true,true] done 6=true:=by unfold maskB;rw[hn];simp
     have hd3:maskB [false,false,false,false,false,true,true,false,false,true,true] done 5=true:=by unfold maskB;rw[hw 5 (by decide)];rfl
     rw[ptJ,if_neg hd1,if_neg hd2,if_pos hd3]at hJ;obtain⟨⟨f1,f2⟩,ho,bb,y1,y2,y3⟩:=hJ;rw[y1]at e65;refine wp_app wq (.tmp 60) (.tmp 65) 22 rfl elBytes base C pre.length cc (pre.map bv) (ch_ev e1) ho (some ⟨bb,0,none⟩) 2 2 [.int .u8 255,.int .u8 (data.length:Int)] (ch_ev e65) (src_blk y2) rfl (by simp[Value.oneCell']) (by omega) (Nat.le_trans hbo f1.size) ?_;intro A' c' w' hown hgr hbel hor;refine⟨_,rfl,?_⟩;rw[ptJ,if_neg (by simp;simpa using hd1),if_pos (by simp)];refine⟨⟨f1.trans hbel,fun k hk hne=>(hgr.block k (Nat.lt_of_lt_of_le hk f1.size) (fun e=>hne e.symm)).trans (f2 k hk hne)⟩,A',c',by simp,hown,?_⟩;rcases hor with h|h
     ·exact .inl h
     exact .inr (fun k hk=>by rw[h]at hk;injection hk with hk;have:=f1.size;omega)
    ·have e1:=fO 7 (.pointer (some ⟨g,0,none⟩)) h;go_simp
    ·have e1:=fN 7 67 h hw;exact x9b4
    ·have e1:=fr_cv (i:=6) (t:=66) h (hw 6 (by decide)) rfl rfl;have e68:=fN 8 68 h hw;have hd1:maskB [false,false,false,false,false,true,true,false,false,true,true] done 6=true:=by unfold maskB;rw[hw 6 (by decide)];rfl
     have hd2:¬maskB [false,false,false,false,false,true,true,false,false,true,true] done 9=true:=by unfold maskB;rw[hn];simp
     rw[ptJ,if_neg hd2,if_pos hd1]at hJ;obtain⟨⟨f1,f2⟩,A1,c1,y1,ho,hor1⟩:=hJ;rw[y1]at e1;have hsrc:Src wq D (data.map bv):=(bts_same HDT.out (fun k hk hlt=>f2 k hlt (fun e=>HDC.out k hk e))).src;refine wp_app wq (.tmp 66) (.tmp 68) 22 rfl elBytes base A1 (pre.length+2) c1 (pre.map bv++[.int .u8 255,.int .u8 (data.length:Int)]) (ch_ev e1) ho D data.length dc (data.map bv) (ch_ev e68) hsrc (by simp) (bv_one _) (by omega) (Nat.le_trans hbo f1.size) ?_;intro A' c' w' hown hgr hbel hor;refine⟨_,rfl,?_⟩;rw[ptJ,if_pos (by simp)];refine⟨⟨f1.trans hbel,fun k hk hne=>(hgr.block k (Nat.lt_of_lt_of_le hk f1.size) (fun e=>?_)).trans (f2 k hk hne)⟩,A',c',by simp,by rw[List.length_map];exact hown,fun e=>?_⟩
     ·rcases hor1 with h|h
      ·exact hne (h.symm.trans e.symm)
      ·have:=h k e.symm;omega
     exfalso;have e1:done 10=true:=by simpa[maskB]using e
     have:=hcl 10 _ rfl e1 9 (by decide);rw[hn]at this;cases this
    ·have e1:=fr_cv (i:=9) (t:=69) h (hw 9 (by decide)) rfl rfl;have hd1:maskB [false,false,false,false,false,true,true,false,false,true,true] done 9=true:=by unfold maskB;rw[hw 9 (by decide)];rfl
     rw[ptJ,if_pos hd1]at hJ;obtain⟨fr,A1,c1,y1,ho,_⟩:=hJ;rw[y1]at e1;refine wp_asg (ch_ev e1) ⟨_,rfl,?_⟩;rw[ptJ,if_pos (by simp;simpa using hd1)];exact⟨fr,A1,c1,by simpa using y1,ho,fun _=>by simp⟩
   intro d cv w1 hall hJ;rw[ptJ,if_pos (hall 9 rfl (by decide))]at hJ;obtain⟨⟨f1,f2⟩,A1,c1,y1,ho,y2⟩:=hJ;have y3:=y2 (hall 10 rfl (by decide));have HB1:Hid (Below base w w1):=qH (HBo.out.trans f1);have HL:Hid (pre.length+2+(data.map bv).length=(pre++(255::by_ data.length::data)).length):=qH (by simp;omega);have HO1:Hid (Own w1 base 5 1 A1 (pre++(255::by_ data.length::data)).length c1 ((pre++(255::by_ data.length::data)).map bv)):=qH (by rw[List.map_append,HBV.out,<-HL.out,<-List.append_assoc];exact ho);clear f1 f2 ho y2;simp only[freeAll,putAll_some,putAll_none,putAll_nil,List.getD_cons_zero,List.getD_cons_succ,Bool.false_eq_true,if_true,if_false,reduceIte,Nat.zero_add,Nat.reduceAdd,List.setIfInBounds_toArray,List.set_cons_zero,List.set_cons_succ];rw[y3,HL.out];clear y1 y3;go_wp2_with fail;go_roundw
   case rel=>exact⟨k+1,A1,c1,pre++(255::by_ data.length::data),by omega,by go_num,rfl,qH HPRE1.out.symm,HO1,HB1⟩
   case measure=>simp[intOf];omega
  obtain rfl:k=l.length:=by omega
  have dl:decide ((l.length:Int)<(l.length:Int))=false:=by simp
  have hpre:pre=pb:=by rw[HPB.out,HPRE.out,List.take_length]
  subst hpre;have d1:decide ((400:Int)<(pre.length:Int))=false:=decide_eq_false (by omega);clear hpl;go_wp2_with fail;go_ret2;exact⟨C,cc,rfl,HBE.out▸HO1.out,HBE.out▸HB1.out⟩
section
open Go.RowKit
end
def ptOld:List UInt8:=[97,98,99,100,101,102,103,104]
def ptNew:List UInt8:=[120,101,102,103,104,97,98,99,100]
def ptP:Pat:=⟨1,2,sumOn 1 ptOld,sumOn 1 ptNew,9,diffed ptOld ptNew⟩
theorem sum_in(l:LU):0<=sumOn 1 l∧sumOn 1 l<=65535:=by have:=sumOn_bd 1 l (by omega);omega
theorem pt_make:patMake (sumOn 1) 1 2 ptOld ptNew=(ptP,0)∧patCheck ptP=0∧patDo (sumOn 1) ptP ptOld=(ptNew,0):=patMake_ok sum_in (by omega) (by omega) (by decide) (by decide)
theorem patSame_calls(A B:OA)(c d:Nat)(p q:Pat)(w:World)(hp:PatIn w p A c)(hq:PatIn w q B d):
  Calls Try.prog 31 #[.agg (patA p.from_ p.to_ p.old p.new_ p.size A p.ops.length c),.agg (patA q.from_ q.to_ q.old q.new_ q.size B q.ops.length d)] w (RetB w (.bool (decide (p=q)))):=
 patSameA_calls A B c d p.from_ p.to_ p.old p.new_ p.size q.from_ q.to_ q.old q.new_ q.size p.ops q.ops w hp.len hq.len hp.ops hq.ops
theorem refPatCheck_calls(A:OA)(c:Nat)(f t o n sz:Int)(l:List Stp)(w:World)(hl:l.length<=3518437208780)(hs:Sps w A l):
  Calls Try.prog 30 #[.agg (patA f t o n sz A l.length c)] w (RetB w (iv (patCheck ⟨f,t,o,n,sz,l⟩))):=refPatCheckA_calls A c f t o n sz l w hl hs
end Go.Proofs.Ytefkfglkpebbmac
