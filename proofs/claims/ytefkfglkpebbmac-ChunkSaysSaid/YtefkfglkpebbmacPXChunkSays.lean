/- The walk of the law ChunkSays. Printed by gen_chunksays.py. Condition: the library's own variable holds some number. -/
import Derived.Test.YtefkfglkpebbmacP5
import Derived.Test.YtefkfglkpebbmacPMChkArgs
import Derived.Test.YtefkfglkpebbmacPMPatArgs
import Derived.Test.YtefkfglkpebbmacPXRefAdded
import Derived.Test.YtefkfglkpebbmacPXRefJoined
import Derived.Test.YtefkfglkpebbmacPXRefChunks
import Derived.Test.YtefkfglkpebbmacPXRefChkSame
import Derived.Test.YtefkfglkpebbmacPXRefPatSame
set_option linter.unusedVariables false
set_option linter.unusedSimpArgs false
set_option maxRecDepth 100000
set_option maxHeartbeats 40000000
namespace Go.Proofs.Ytefkfglkpebbmac
open Go.RowKit
variable {Y:Prop}
theorem x59y(h:Y:=by
 have e3:=cO 5 (.pointer (some ⟨W.heap.size,0,none⟩)) h;have y_:=keep1 h.bel R1 (by go_simp) F1;refine ch_pure ?_;go_simp):Y:=h
theorem x90j(h:Y:=by
 have e2:=cO 0 (.slice A l.length cl) h;exact ch_move (ch_ev e2)):Y:=h
theorem right_bound{l:List Chk}(h:∀x∈l,chkCheck x=0):∀x∈l,ChkB x:=fun y hy=>by
 obtain⟨⟨h1,h2,h3,h4,h5,h6,h7,h8⟩,_,h9,_⟩:=chkCheck_ok.1 (h y hy);exact x0ek
theorem added_right(l:List Chk)(x:Chk):∀y∈(chkAdd l x).1,chkCheck y=0:=fun y hy=>by
 by_cases h1:chkList l=0
 ·by_cases h2:chkCheck x=0
  ·exact(chkList_ok.1 (add_again h1 h2).1).1 y hy
  ·rw[chkAdd_err2 h1 h2]at hy;simp at hy
 rw[chkAdd_err1 h1]at hy;simp at hy
theorem cut_right(p:Pat):∀y∈(chkCut p).1,chkCheck y=0:=fun y hy=>by
 unfold chkCut at hy;by_cases h1:patCheck p=0
 ·rw[if_neg (by simpa using h1)]at hy;by_cases h2:52<((packed (patBytes p)).length+15) / 16
  ·rw[if_pos h2]at hy;simp at hy
  rw[if_neg h2]at hy;unfold chunksOf at hy;obtain⟨k,hk,rfl⟩:=List.mem_map.1 hy;exact chunkAt_ok (patCheck_ok.1 h1).1 (by unfold nOf;omega) (by unfold nOf;simpa using hk)
 rw[if_pos h1]at hy;simp at hy
theorem refPatSameC_calls(A B:OA)(c d:Nat)(p q:Pat)(w:World)(hp:PatIn w p A c)(hq:PatIn w q B d):
  Calls Try.prog 32 #[.agg (patA p.from_ p.to_ p.old p.new_ p.size A p.ops.length c),.agg (patA q.from_ q.to_ q.old q.new_ q.size B q.ops.length d)] w (RetB w (.bool (decide (p=q)))):=
 refPatSameA_calls A B c d p.from_ p.to_ p.old p.new_ p.size q.from_ q.to_ q.old q.new_ q.size p.ops q.ops w hp.len hq.len hp.ops hq.ops
theorem chunks_few(l:List Chk)(x:Chk):(chkAdd l x).1.length<=100:=by
 by_cases h1:chkList l=0
 ·by_cases h2:chkCheck x=0
  ·have:=chkList_len (add_again h1 h2).1;omega
  ·rw[chkAdd_err2 h1 h2];simp
 rw[chkAdd_err1 h1];simp
theorem cut_few(p:Pat):(chkCut p).1.length<=100:=by
 unfold chkCut;split
 ·simp
 split
 ·simp
 rename_i h;unfold chunksOf;simp;omega
theorem ChunkSays_walk(W:World)(v0 v1 v2 v3:Value)(l:List Chk)(c:Chk)(p:Pat)(m:List Chk)(g0:ArgChks W v0 l)(g1:ArgChk W v1 c)(g2:ArgPat W v2 p)(g3:ArgChks W v3 m)(hml:ML W):
  Calls Try.prog 7 #[v0,v1,v2,v3] W (RetB W (.bool true)):=by
 obtain⟨A,cl,rfl,hcl,hll,hl⟩:=g0;obtain⟨B,cd,rfl,hc⟩:=g1;obtain⟨P,cp,rfl,hp⟩:=g2;obtain⟨M,cm,rfl,hcm,hlm,hm⟩:=g3;rw[patC_eq];have HL:=qH hl;have HC:=qH hc;have HP:=qH hp;have HM:=qH hm;have HML:=qH hml;have K1:=qH (fun w h=>chkCut_calls P cp p w h);have K2:=qH (fun w h1 h2=>chkAdd_calls A B cl cd l c w hll h1 h2);have K3:=qH (fun w h=>chkJoin_calls A cl l w hll h);have K4:=qH (fun w h=>refChunks_calls P cp p w h);have K5:=qH (fun w (hw:Below W.heap.size W w)=>refAdded_calls A B cl cd l c (fun k=>k<W.heap.size) w hll ((On.of fun v h=>hl.stays h).below hw) ((On.of fun v h=>hc.stays h).below hw));have K6:=qH (fun w h=>refJoined_calls A cl l w hll h);have K7:=qH (fun w=>chkCheckX_calls B cd c w ⟨hc.i2,hc.i3⟩);have K8:=qH (fun w=>refChkCheckX_calls B cd c w ⟨hc.i2,hc.i3⟩);have K9:=qH (fun w h=>chkList_calls A cl l w hll h);have K10:=qH (fun w h=>refChkList_calls A cl l w hll h);have K11:=qH (fun w h1 h2=>chkSame_calls A M cl cm l m w hll hlm h1 h2);have K12:=qH (fun w h1 h2=>refChkSame_calls A M cl cm l m w hll hlm h1 h2);have HXB:=qH (right_bound (cut_right p));have HYB:=qH (right_bound (added_right l c));have hxl:=cut_few p;have hyl:=chunks_few l c;clear hl hc hp hm hml;obtain⟨x,e1,hx⟩:∃x e1,chkCut p=(x,e1):=⟨_,_,rfl⟩;obtain⟨y,f1,hy⟩:∃y f1,chkAdd l c=(y,f1):=⟨_,_,rfl⟩;obtain⟨z,n1,hz⟩:∃z n1,chkJoin l=(z,n1):=⟨_,_,rfl⟩;rw[hx]at K1 K4 HXB hxl;rw[hy]at K2 K5 HYB hyl;rw[hz]at K3 K6;dsimp only at K1 K2 K3 K4 K5 K6 HXB HYB hxl hyl;generalize chkCheck c=ck at *
 generalize chkList l=cl1 at *
 generalize decide (l=m)=sm at *
 have z1:(sm==sm)=true:=by simp
 clear hx hy hz
 change Calls Try.prog 7 #[.slice A l.length cl,.agg (chkA c.from_ c.to_ c.n c.of_ B c.data.length cd),.agg (patA p.from_ p.to_ p.old p.new_ p.size P p.ops.length cp),.slice M m.length cm] W _
 go_enter Try.func7,Try.ntmps7;go_wp2_with fail;refine(K1.out _ (HP.out.stays (by repeat (first|exact Below.refl _ _|refine bA ?_ _)))).mono ?_;rintro e w1 ⟨A1,c1,ds1,rfl,hg,he,hb⟩;have a3:=kp (W.heap.size) (chkA c.from_ c.to_ c.n c.of_ B c.data.length cd) hb;have a1:=kp (W.heap.size+1) (patA p.from_ p.to_ p.old p.new_ p.size P p.ops.length cp) hb;have hbx:Below W.heap.size W w1:=Below.trans (by repeat (first|exact Below.refl _ _|refine bA ?_ _)) (hb.mono (by first|omega|(simp<;>omega)));have HB1:Hid (Below W.heap.size W w1):=qH (hbx);have hx1:Hid (Chs w1 A1 x):=qH (hg.src.chs HXB.out);clear hg he;clear hb hbx;go_wp2_with fail;refine(K2.out _ (HL.out.stays (by have hs:=HB1.out.size;repeat (first|exact HB1.out|refine bA ?_ _))) (HC.out.stays (by have hs:=HB1.out.size;repeat (first|exact HB1.out|refine bA ?_ _)))).mono ?_;rintro e w2 ⟨A2,c2,ds2,rfl,hg,he,hb⟩;have a3:=kr a3 hb;have a1:=kr a1 hb;have hbx:Below w1.heap.size w1 w2:=Below.trans (by repeat (first|exact Below.refl _ _|refine bA ?_ _)) (hb.mono (by first|omega|(simp<;>omega)));have HB2:=bT HB1 hbx;have HX1:=qH (hx1.out.stays hbx);have hy1:Hid (Chs w2 A2 y):=qH (hg.src.chs HYB.out);clear hg he;clear hb hbx;go_wp2_with fail;refine(K3.out _ (HL.out.stays (by have hs:=HB2.out.size;repeat (first|exact HB2.out|refine bA ?_ _)))).mono ?_;rintro e w3 ⟨A3,c3,rfl,hf,hb⟩;have a3:=kr a3 hb;have a1:=kr a1 hb;have hbx:Below w2.heap.size w2 w3:=Below.trans (by repeat (first|exact Below.refl _ _|refine bA ?_ _)) (hb.mono (by first|omega|(simp<;>omega)));have HB3:=bT HB2 hbx;have HX2:=qH (HX1.out.stays hbx);have HY1:=qH (hy1.out.stays hbx);have hz1:=qH hf.now;clear hf;clear hb hbx;go_wp2_with fail;refine(K4.out _ (HP.out.stays (by have hs:=HB3.out.size;repeat (first|exact HB3.out|refine bA ?_ _)))).mono ?_;rintro e w4 ⟨A4,c4,ds3,rfl,hg,he,hb⟩;have a3:=kr a3 hb;have a1:=kr a1 hb;have a2:=kp (w3.heap.size) (patA z.from_ z.to_ z.old z.new_ z.size A3 z.ops.length c3) hb;have hbx:Below w3.heap.size w3 w4:=Below.trans (by repeat (first|exact Below.refl _ _|refine bA ?_ _)) (hb.mono (by first|omega|(simp<;>omega)));have HB4:=bT HB3 hbx;have HX3:=qH (HX2.out.stays hbx);have HY2:=qH (HY1.out.stays hbx);have HZ1:=qH (hz1.out.stays hbx);have hu1:Hid (Chs w4 A4 x):=qH (hg.src.chs HXB.out);clear hg he;clear hb hbx;go_wp2_with fail;refine(K5.out _ (by have hs:=HB4.out.size;repeat (first|exact HB4.out|refine bA ?_ _))).mono ?_;rintro e w5 ⟨A5,c5,rfl,hc1,hb,hf⟩;have a3:=kr a3 hb;have a1:=kr a1 hb;have a2:=kr a2 hb;have hbx:Below w4.heap.size w4 w5:=Below.trans (by repeat (first|exact Below.refl _ _|refine bA ?_ _)) (hb.mono (by first|omega|(simp<;>omega)));have HB5:=bT HB4 hbx;have HX4:=qH (HX3.out.stays hbx);have HY3:=qH (HY2.out.stays hbx);have HZ2:=qH (HZ1.out.stays hbx);have HU1:=qH (hu1.out.stays hbx);have hv1:Hid (Chs w5 A5 y):=qH hf.now;clear hf;clear hb hbx;go_wp2_with fail;refine(K6.out _ (HL.out.stays (by have hs:=HB5.out.size;repeat (first|exact HB5.out|refine bA ?_ _)))).mono ?_;rintro e w6 ⟨A6,c6,rfl,hf,hb⟩;have a3:=kr a3 hb;have a1:=kr a1 hb;have a2:=kr a2 hb;have hbx:Below w5.heap.size w5 w6:=Below.trans (by repeat (first|exact Below.refl _ _|refine bA ?_ _)) (hb.mono (by first|omega|(simp<;>omega)));have HB6:=bT HB5 hbx;have HX5:=qH (HX4.out.stays hbx);have HY4:=qH (HY3.out.stays hbx);have HZ3:=qH (HZ2.out.stays hbx);have HU2:=qH (HU1.out.stays hbx);have HV1:=qH (hv1.out.stays hbx);have hr1:=qH hf.now;clear hf;clear hb hbx;go_wp2_with fail;have HBL:Hid (Below w6.heap.size w6 (w6.alloc (.cells (patA z.from_ z.to_ z.old z.new_ z.size A6 z.ops.length c6) 35))):=qH (bL _);have R1:rowOf (w6.alloc (.cells (patA z.from_ z.to_ z.old z.new_ z.size A6 z.ops.length c6) 35)) (W.heap.size)=chkA c.from_ c.to_ c.n c.of_ B c.data.length cd:=by first|(go_simp;done)|(go_simp;intro he;exfalso;omega)
 have F1:frOf (w6.alloc (.cells (patA z.from_ z.to_ z.old z.new_ z.size A6 z.ops.length c6) 35)) (W.heap.size)=(0,0):=by first|(go_simp;done)|(go_simp;intro he;exfalso;omega)
 have R2:rowOf (w6.alloc (.cells (patA z.from_ z.to_ z.old z.new_ z.size A6 z.ops.length c6) 35)) (W.heap.size+1)=patA p.from_ p.to_ p.old p.new_ p.size P p.ops.length cp:=by first|(go_simp;done)|(go_simp;intro he;exfalso;omega)
 have F2:frOf (w6.alloc (.cells (patA z.from_ z.to_ z.old z.new_ z.size A6 z.ops.length c6) 35)) (W.heap.size+1)=(0,0):=by first|(go_simp;done)|(go_simp;intro he;exfalso;omega)
 have R3:rowOf (w6.alloc (.cells (patA z.from_ z.to_ z.old z.new_ z.size A6 z.ops.length c6) 35)) (w3.heap.size)=patA z.from_ z.to_ z.old z.new_ z.size A3 z.ops.length c3:=by first|(go_simp;done)|(go_simp;intro he;exfalso;omega)
 have F3:frOf (w6.alloc (.cells (patA z.from_ z.to_ z.old z.new_ z.size A6 z.ops.length c6) 35)) (w3.heap.size)=(0,0):=by first|(go_simp;done)|(go_simp;intro he;exfalso;omega)
 have R4:rowOf (w6.alloc (.cells (patA z.from_ z.to_ z.old z.new_ z.size A6 z.ops.length c6) 35)) (w6.heap.size)=patA z.from_ z.to_ z.old z.new_ z.size A6 z.ops.length c6:=by first|(go_simp;done)|(go_simp;intro he;exfalso;omega)
 have F4:frOf (w6.alloc (.cells (patA z.from_ z.to_ z.old z.new_ z.size A6 z.ops.length c6) 35)) (w6.heap.size)=(0,0):=by first|(go_simp;done)|(go_simp;intro he;exfalso;omega)
 obtain⟨w7,hw1⟩:=eX (w6.alloc (.cells (patA z.from_ z.to_ z.old z.new_ z.size A6 z.ops.length c6) 35));rw[hw1]at R1 R2 R3 R4 F1 F2 F3 F4 HBL⊢;clear hw1;have hd1:∀wq,Below w7.drew.heap.size w7.drew wq->Below w6.heap.size w6 wq:=fun wq h=>HBL.out.trans (((bW w7).drew.trans h).mono HBL.out.size);have HD1:=qH hd1;clear hd1;refine wp_region_chain (by kernel_rfl) (some 53::some 54::some 55::some 56::some 57::some 58::some 59::some 60::some 61::some 62::some 63::some 64::some 65::some 66::some 67::some 68::some 69::some 70::some 71::some 72::some 73::some 74::some 75::some 76::some 77::some 78::some 79::some 80::some 81::some 82::some 83::some 84::some 85::some 86::some 87::some 88::some 89::some 90::some 91::some 92::some 93::some 94::some 95::some 96::some 97::some 98::some 99::some 100::some 101::some 102::some 103::some 104::some 105::some 106::some 8::[]) (.bool true::.bool true::.agg (chkA c.from_ c.to_ c.n c.of_ B c.data.length cd)::iv ck::.agg (chkA c.from_ c.to_ c.n c.of_ B c.data.length cd)::iv ck::.bool true::.bool true::.bool true::.slice A l.length cl::iv cl1::.slice A l.length cl::iv cl1::.bool true::.bool true::.bool true::.slice A l.length cl::.slice M m.length cm::.bool sm::.slice A l.length cl::.slice M m.length cm::.bool sm::.bool true::.bool true::.bool true::iv e1::iv e1::.bool true::.bool true::.bool true::.slice A1 x.length c1::.slice A4 x.length c4::.bool true::.bool true::.bool true::iv f1::iv f1::.bool true::.bool true::.bool true::.slice A2 y.length c2::.slice A5 y.length c5::.bool true::.bool true::.bool true::iv n1::iv n1::.bool true::.bool true::.bool true::.agg (patA z.from_ z.to_ z.old z.new_ z.size A3 z.ops.length c3)::.agg (patA z.from_ z.to_ z.old z.new_ z.size A6 z.ops.length c6)::.bool true::.bool true::.bool true::[]) 107 rfl rfl (by decide+kernel) (by decide+kernel) (by decide+kernel) rfl ?_ ?_
 ·refine⟨.inl ⟨rfl,?_⟩,.inl ⟨rfl,?_⟩,.inl ⟨rfl,?_⟩,.inl ⟨rfl,?_⟩,.inl ⟨rfl,?_⟩,.inl ⟨rfl,?_⟩,.inl ⟨rfl,?_⟩,.inl ⟨rfl,?_⟩,.inl ⟨rfl,?_⟩,.inl ⟨rfl,?_⟩,.inl ⟨rfl,?_⟩,.inl ⟨rfl,?_⟩,.inl ⟨rfl,?_⟩,.inl ⟨rfl,?_⟩,.inl ⟨rfl,?_⟩,.inl ⟨rfl,?_⟩,.inl ⟨rfl,?_⟩,.inl ⟨rfl,?_⟩,.inl ⟨rfl,?_⟩,.inl ⟨rfl,?_⟩,.inl ⟨rfl,?_⟩,.inl ⟨rfl,?_⟩,.inl ⟨rfl,?_⟩,.inl ⟨rfl,?_⟩,.inl ⟨rfl,?_⟩,.inl ⟨rfl,?_⟩,.inl ⟨rfl,?_⟩,.inl ⟨rfl,?_⟩,.inl ⟨rfl,?_⟩,.inl ⟨rfl,?_⟩,.inl ⟨rfl,?_⟩,.inl ⟨rfl,?_⟩,.inl ⟨rfl,?_⟩,.inl ⟨rfl,?_⟩,.inl ⟨rfl,?_⟩,.inl ⟨rfl,?_⟩,.inl ⟨rfl,?_⟩,.inl ⟨rfl,?_⟩,.inl ⟨rfl,?_⟩,.inl ⟨rfl,?_⟩,.inl ⟨rfl,?_⟩,.inl ⟨rfl,?_⟩,.inl ⟨rfl,?_⟩,.inl ⟨rfl,?_⟩,.inl ⟨rfl,?_⟩,.inl ⟨rfl,?_⟩,.inl ⟨rfl,?_⟩,.inl ⟨rfl,?_⟩,.inl ⟨rfl,?_⟩,.inl ⟨rfl,?_⟩,.inl ⟨rfl,?_⟩,.inl ⟨rfl,?_⟩,.inl ⟨rfl,?_⟩,.inl ⟨rfl,?_⟩,.inl ⟨rfl,?_⟩,trivial⟩;all_goals intro done a wq hw h
  ·exact ch_call (by go_simp) (by go_simp) (cut_calls _ ((HML.out.stays HB6.out).stays (HD1.out _ h.bel)))
  ·have e2:=cN 0 53 h hw;exact ch_move (ch_ev e2)
  ·exact x59y
  ·have e2:=cN 2 55 h hw;exact ch_call (by go_simp) (by go_simp) (K7.out _)
  ·exact x59y
  ·have e2:=cN 4 57 h hw;exact ch_call (by go_simp) (by go_simp) (K8.out _)
  ·have e3:=cN 3 56 h hw;have e58:=cN 5 58 h hw;exact ch_eql_int (by kernel_rfl) (ch_ev e3) (ch_ev e58) (by simp)
  ·have e2:=cN 1 54 h hw;have e59:=cN 6 59 h hw;exact ch_pick_t e2 (ch_ev e59)
  ·have e3:=cN 7 60 h hw;exact ch_move (ch_ev e3)
  ·exact x90j
  ·have e3:=cN 9 62 h hw;exact ch_call (by go_simp) (by go_simp) (K9.out _ ((HL.out.stays HB6.out).stays (HD1.out _ h.bel)))
  ·exact x90j
  ·have e3:=cN 11 64 h hw;exact ch_call (by go_simp) (by go_simp) (K10.out _ ((HL.out.stays HB6.out).stays (HD1.out _ h.bel)))
  ·have e2:=cN 10 63 h hw;have e65:=cN 12 65 h hw;exact ch_eql_int (by kernel_rfl) (ch_ev e2) (ch_ev e65) (by simp)
  ·have e3:=cN 8 61 h hw;have e66:=cN 13 66 h hw;exact ch_pick_t e3 (ch_ev e66)
  ·have e2:=cN 14 67 h hw;exact ch_move (ch_ev e2)
  ·have e3:=cO 0 (.slice A l.length cl) h;exact ch_move (ch_ev e3)
  ·have e2:=cO 3 (.slice M m.length cm) h;exact ch_move (ch_ev e2)
  ·have e3:=cN 16 69 h hw;have e70:=cN 17 70 h hw;exact ch_call (by go_simp) (by go_simp) (K11.out _ ((HL.out.stays HB6.out).stays (HD1.out _ h.bel)) ((HM.out.stays HB6.out).stays (HD1.out _ h.bel)))
  ·exact x90j
  ·have e3:=cO 3 (.slice M m.length cm) h;exact ch_move (ch_ev e3)
  ·have e2:=cN 19 72 h hw;have e73:=cN 20 73 h hw;exact ch_call (by go_simp) (by go_simp) (K12.out _ ((HL.out.stays HB6.out).stays (HD1.out _ h.bel)) ((HM.out.stays HB6.out).stays (HD1.out _ h.bel)))
  ·have e3:=cN 18 71 h hw;have e74:=cN 21 74 h hw;refine ch_pure ?_;go_simp
  ·have e2:=cN 15 68 h hw;have e75:=cN 22 75 h hw;exact ch_pick_t e2 (ch_ev e75)
  ·have e3:=cN 23 76 h hw;exact ch_move (ch_ev e3)
  ·have e2:=cO 10 (iv e1) h;exact ch_move (ch_ev e2)
  ·have e3:=cO 16 (iv e1) h;exact ch_move (ch_ev e3)
  ·have e2:=cN 25 78 h hw;have e79:=cN 26 79 h hw;exact ch_eql_int (by kernel_rfl) (ch_ev e2) (ch_ev e79) (by simp)
  ·have e3:=cN 24 77 h hw;have e80:=cN 27 80 h hw;exact ch_pick_t e3 (ch_ev e80)
  ·have e2:=cN 28 81 h hw;exact ch_move (ch_ev e2)
  ·have e3:=cO 9 (.slice A1 x.length c1) h;exact ch_move (ch_ev e3)
  ·have e2:=cO 15 (.slice A4 x.length c4) h;exact ch_move (ch_ev e2)
  ·have e3:=cN 30 83 h hw;have e84:=cN 31 84 h hw;exact ch_call (by go_simp) (by go_simp) ((refChkSame_calls A1 A4 c1 c4 x x _ (by omega) (by omega) (HX5.out.stays (HD1.out _ h.bel)) (HU2.out.stays (HD1.out _ h.bel))).mono fun _ _ hh=>by simpa using hh)
  ·have e2:=cN 29 82 h hw;have e85:=cN 32 85 h hw;exact ch_pick_t e2 (ch_ev e85)
  ·have e3:=cN 33 86 h hw;exact ch_move (ch_ev e3)
  ·have e2:=cO 12 (iv f1) h;exact ch_move (ch_ev e2)
  ·have e3:=cO 18 (iv f1) h;exact ch_move (ch_ev e3)
  ·have e2:=cN 35 88 h hw;have e89:=cN 36 89 h hw;exact ch_eql_int (by kernel_rfl) (ch_ev e2) (ch_ev e89) (by simp)
  ·have e3:=cN 34 87 h hw;have e90:=cN 37 90 h hw;exact ch_pick_t e3 (ch_ev e90)
  ·have e2:=cN 38 91 h hw;exact ch_move (ch_ev e2)
  ·have e3:=cO 11 (.slice A2 y.length c2) h;exact ch_move (ch_ev e3)
  ·have e2:=cO 17 (.slice A5 y.length c5) h;exact ch_move (ch_ev e2)
  ·have e3:=cN 40 93 h hw;have e94:=cN 41 94 h hw;exact ch_call (by go_simp) (by go_simp) ((refChkSame_calls A2 A5 c2 c5 y y _ (by omega) (by omega) (HY4.out.stays (HD1.out _ h.bel)) (HV1.out.stays (HD1.out _ h.bel))).mono fun _ _ hh=>by simpa using hh)
  ·have e2:=cN 39 92 h hw;have e95:=cN 42 95 h hw;exact ch_pick_t e2 (ch_ev e95)
  ·have e3:=cN 43 96 h hw;exact ch_move (ch_ev e3)
  ·have e2:=cO 14 (iv n1) h;exact ch_move (ch_ev e2)
  ·have e3:=cO 20 (iv n1) h;exact ch_move (ch_ev e3)
  ·have e2:=cN 45 98 h hw;have e99:=cN 46 99 h hw;exact ch_eql_int (by kernel_rfl) (ch_ev e2) (ch_ev e99) (by simp)
  ·have e3:=cN 44 97 h hw;have e100:=cN 47 100 h hw;exact ch_pick_t e3 (ch_ev e100)
  ·have e2:=cN 48 101 h hw;exact ch_move (ch_ev e2)
  ·have e3:=cO 13 (.pointer (some ⟨w3.heap.size,0,none⟩)) h;have y_:=keep1 h.bel R3 (by go_simp) F3;refine ch_pure ?_;go_simp
  ·have e2:=cO 19 (.pointer (some ⟨w6.heap.size,0,none⟩)) h;have y_:=keep1 h.bel R4 (by go_simp) F4;refine ch_pure ?_;go_simp
  ·have e3:=cN 50 103 h hw;have e104:=cN 51 104 h hw;exact ch_call (by go_simp) (by go_simp) ((refPatSameC_calls A3 A6 c3 c6 z z _ (HZ3.out.stays (HD1.out _ h.bel)) (hr1.out.stays (HD1.out _ h.bel))).mono fun _ _ hh=>by simpa using hh)
  ·have e2:=cN 49 102 h hw;have e105:=cN 52 105 h hw;exact ch_pick_t e2 (ch_ev e105)
  ·have e3:=cN 53 106 h hw;exact ch_assign (ch_ev e3)
 intro w8 hb;simp only[putAll_some,putAll_none,putAll_nil,List.setIfInBounds_toArray,List.set_cons_zero,List.set_cons_succ];have HB7:Hid (Below W.heap.size W w8):=qH (HB6.out.trans ((HBL.out.trans (hb.mono HBL.out.size)).mono HB6.out.size));go_wp2_with fail;go_ret;exact⟨rfl,HB7.out⟩
end Go.Proofs.Ytefkfglkpebbmac
