/- Walks of functions, and plain words. No conditions. -/
import Derived.Test.YtefkfglkpebbmaaGreatP1
import Derived.ChangeKeysEq
import Derived.BigRegion
set_option linter.unusedVariables false
set_option linter.unusedSimpArgs false
set_option maxRecDepth 100000
set_option maxHeartbeats 40000000
namespace Go.Proofs.YtefkfglkpebbmaaGreat
open Go.RowKit
variable {Y:Prop}
theorem eqIn_inf(d:Nat)(x y z x' y' z':Int)(w:World):(Op.equalIn (d+2) 26 (.agg #[iv x,iv y,iv z]) (.agg #[iv x',iv y',iv z'])).run Tryz.prog w=.ok (decide (x=x'∧y=y'∧z=z')) w:=by
 go_simp;split
 ·split
  ·split<;>simp_all
  ·simp_all
 simp_all
theorem cellsOfInf:Tryz.prog.cellsOf 26=3:=by kernel_rfl
theorem cellsOfCop:Tryz.prog.cellsOf 31=12:=by kernel_rfl
theorem run_eqItems2{P:Program}{d n:Nat}{e:TypeId}{xs ys:Array Value}{w:World}{a b a' b':Value}{r r':Bool}
  (p1:(part e xs 0).run P w=.ok a w) (p2:(part e ys 0).run P w=.ok a' w) (p3:(part e xs n).run P w=.ok b w) (p4:(part e ys n).run P w=.ok b' w)
  (h1:(Op.equalIn d e a a').run P w=.ok r w) (h2:(Op.equalIn d e b b').run P w=.ok r' w):(Op.eqItems d e n xs ys (List.range 2)).run P w=.ok (r&&r') w:=by
 rw[show List.range 2=[0,1] from rfl];simp only[Op.eqItems,Sem.run_bind,Nat.zero_mul,Nat.one_mul,p1,p2,Result.andThen_ok,h1]
 cases r
 ·simp
 simp only[Bool.not_true,Bool.false_eq_true,if_false,Sem.run_bind,p3,p4,h2,Result.andThen_ok,Bool.true_and]
 cases r'<;>simp
theorem eqIn_infs(d:Nat)(x y z x' y' z' u v t u' v' t':Int)(w:World):(Op.equalIn (d+3) 27 (.agg #[iv x,iv y,iv z,iv u,iv v,iv t]) (.agg #[iv x',iv y',iv z',iv u',iv v',iv t'])).run Tryz.prog w=
  .ok (decide (x=x'∧y=y'∧z=z')&&decide (u=u'∧v=v'∧t=t')) w:=by
 obtain⟨i,hi,hz,hs,hb⟩:=info_parts (P:=Tryz.prog) (e:=26) (z:=.agg #[iv 0,iv 0,iv 0]) (size:=3) (bytes:=24) (by kernel_rfl);rw[run_equalIn_array (P:=Tryz.prog) (w:=w) (d+2) _ _ Tryz.underlying27 hi,cellsOfInf];exact run_eqItems2 (by kernel_rfl) (by kernel_rfl) (by kernel_rfl) (by kernel_rfl) (eqIn_inf d x y z x' y' z' w) (eqIn_inf d u v t u' v' t' w)
theorem rec_dec(r s:Rec):decide (r=s)=(decide (r.gen=s.gen)&&(decide (r.active=s.active)&&(decide (r.trying=s.trying)&&(decide (r.tries=s.tries)&&(decide (r.floor=s.floor)&&(decide (r.a.ver=s.a.ver∧r.a.size=s.a.size∧r.a.sum=s.a.sum)&&decide (r.b.ver=s.b.ver∧r.b.size=s.b.size∧r.b.sum=s.b.sum))))))):=by
 obtain⟨g,a,t,n,f,⟨x,y,z⟩,⟨u,v,w⟩⟩:=r;obtain⟨g',a',t',n',f',⟨x',y',z'⟩,⟨u',v',w'⟩⟩:=s;rw[Bool.eq_iff_iff];simp
theorem eqIn_rec(d:Nat)(r s:Rec)(w:World):(Op.equalIn (d+4) 29 (.agg (recA r)) (.agg (recA s))).run Tryz.prog w=.ok (decide (r=s)) w:=by
 have e:=fun w=>eqIn_infs d r.a.ver r.a.size r.a.sum s.a.ver s.a.size s.a.sum r.b.ver r.b.size r.b.sum s.b.ver s.b.size s.b.sum w;rw[rec_dec];generalize decide (r.a.ver=s.a.ver∧r.a.size=s.a.size∧r.a.sum=s.a.sum)=B1 at e⊢;generalize decide (r.b.ver=s.b.ver∧r.b.size=s.b.size∧r.b.sum=s.b.sum)=B2 at e⊢;unfold recA;go_simp;by_cases h1:r.gen=s.gen
 ·by_cases h2:r.active=s.active
  ·by_cases h3:r.trying=s.trying
   ·by_cases h4:r.tries=s.tries
    ·by_cases h5:r.floor=s.floor
     ·cases B1<;>cases B2<;>simp[h1,h2,h3,h4,h5]
     ·simp[h1,h2,h3,h4,h5]
    ·simp[h1,h2,h3,h4]
   ·simp[h1,h2,h3]
  ·simp[h1,h2]
 simp[h1]
theorem guard_rec:Tryz.prog.eqGuardType Tryz.prog.depth 29=false:=by kernel_rfl
theorem eql_rec(r s:Rec)(w:World):(binOp .eql 29 (.agg (recA r)) (.agg (recA s))).run Tryz.prog w=.ok (.bool (decide (r=s))) w:=by
 rw[run_eql_struct,eqIn_rec 9996];rfl
theorem neq_rec(r s:Rec)(w:World):(binOp .neq 29 (.agg (recA r)) (.agg (recA s))).run Tryz.prog w=.ok (.bool (!decide (r=s))) w:=by
 rw[run_neq_struct,eqIn_rec 9996];rfl
theorem neq_rec0(r:Rec)(w:World):(binOp .neq 29 (.agg (recA r)) (.agg #[iv 0,iv 0,.bool false,iv 0,iv 0,iv 0,iv 0,iv 0,iv 0,iv 0,iv 0])).run Tryz.prog w=.ok (.bool (!decide (r=Rec.zero))) w:=neq_rec r Rec.zero w
theorem eql_rec0(r:Rec)(w:World):(binOp .eql 29 (.agg (recA r)) (.agg #[iv 0,iv 0,.bool false,iv 0,iv 0,iv 0,iv 0,iv 0,iv 0,iv 0,iv 0])).run Tryz.prog w=.ok (.bool (decide (r=Rec.zero))) w:=eql_rec r Rec.zero w
theorem cop_dec(c d:Cop):decide (c=d)=(decide (c.ok=d.ok)&&decide (c.r=d.r)):=by
 obtain⟨o,r⟩:=c;obtain⟨o',r'⟩:=d;rw[Bool.eq_iff_iff];simp
theorem eqIn_cop(d:Nat)(a b:Cop)(w:World):(Op.equalIn (d+5) 31 (.agg (copA a)) (.agg (copA b))).run Tryz.prog w=.ok (decide (a=b)) w:=by
 have e:∀w,(Op.equalIn (d+4) 29 (.agg #[iv a.r.gen,iv a.r.active,.bool a.r.trying,iv a.r.tries,iv a.r.floor,iv a.r.a.ver,iv a.r.a.size,iv a.r.a.sum,iv a.r.b.ver,iv a.r.b.size,iv a.r.b.sum])
  (.agg #[iv b.r.gen,iv b.r.active,.bool b.r.trying,iv b.r.tries,iv b.r.floor,iv b.r.a.ver,iv b.r.a.size,iv b.r.a.sum,iv b.r.b.ver,iv b.r.b.size,iv b.r.b.sum])).run Tryz.prog w=.ok (decide (a.r=b.r)) w:=fun w=>eqIn_rec d a.r b.r w
 rw[cop_dec];generalize decide (a.r=b.r)=B1 at e⊢;unfold copA;go_simp;by_cases h1:a.ok=b.ok<;>cases B1<;>simp[h1]
theorem eql_cop(r s:Cop)(w:World):(binOp .eql 31 (.agg (copA r)) (.agg (copA s))).run Tryz.prog w=.ok (.bool (decide (r=s))) w:=by
 rw[run_eql_struct,eqIn_cop 9995];rfl
theorem eqIn_cops(d:Nat)(a b x y:Cop)(w:World):(Op.equalIn (d+6) 32 (.agg (copsA a b)) (.agg (copsA x y))).run Tryz.prog w=.ok (decide (a=x)&&decide (b=y)) w:=by
 obtain⟨i,hi,hz,hs,hb⟩:=info_parts (P:=Tryz.prog) (e:=31) (z:=.agg (copA Cop.zero)) (size:=12) (bytes:=96) (by kernel_rfl);rw[run_equalIn_array (P:=Tryz.prog) (w:=w) (d+5) _ _ Tryz.underlying32 hi,cellsOfCop];exact run_eqItems2 (by kernel_rfl) (by kernel_rfl) (by kernel_rfl) (by kernel_rfl) (eqIn_cop d a x w) (eqIn_cop d b y w)
theorem eql_cops(a b x y:Cop)(w:World):(binOp .eql 32 (.agg (copsA a b)) (.agg (copsA x y))).run Tryz.prog w=.ok (.bool (decide (a=x)&&decide (b=y))) w:=by
 rw[run_eql_struct,eqIn_cops 9994];rfl
theorem neq_cops(a b x y:Cop)(w:World):(binOp .neq 32 (.agg (copsA a b)) (.agg (copsA x y))).run Tryz.prog w=.ok (.bool (!(decide (a=x)&&decide (b=y)))) w:=by
 rw[run_neq_struct,eqIn_cops 9994];rfl
theorem guard_cop:Tryz.prog.eqGuardType Tryz.prog.depth 31=false:=by kernel_rfl
theorem guard_cops:Tryz.prog.eqGuardType Tryz.prog.depth 32=false:=by kernel_rfl
theorem big_cop:bigBuild Tryz.prog 31 2:=by
 obtain⟨i,hi,_⟩:=info_parts (P:=Tryz.prog) (e:=31) (z:=.agg (copA Cop.zero)) (size:=12) (bytes:=96) (by kernel_rfl);exact⟨i,hi,by omega⟩
theorem big_inf:bigBuild Tryz.prog 26 3:=by
 obtain⟨i,hi,_⟩:=info_parts (P:=Tryz.prog) (e:=26) (z:=.agg (infA Inf.zero)) (size:=3) (bytes:=24) (by kernel_rfl);exact⟨i,hi,by omega⟩
theorem build_cop(b:Bool)(r:Rec)(w:World):runBuild Tryz.prog 31 #[(0,.bool b),(1,.agg (recA r))] w=.ok (.agg (copA ⟨b,r⟩)) w:=by kernel_rfl
theorem build_inf(a b c:Int)(w:World):runBuild Tryz.prog 26 #[(0,iv a),(1,iv b),(2,iv c)] w=.ok (.agg (infA ⟨a,b,c⟩)) w:=by kernel_rfl
attribute [go_sem] build_cop build_inf big_cop big_inf
attribute [go_sem] guard_rec guard_cop guard_cops
attribute [go_sem ↓] eql_cops neq_cops eql_rec neq_rec neq_rec0 eql_rec0 eql_cop
theorem x27r(h:Y:=by
 clear hz;go_wp2_with fail;go_ret;exact⟨ret_int HO.out.symm,hB.alloc hB.size _⟩):Y:=h
theorem x6lz(h:Y:=by
 go_wp2_with fail;go_ret;exact⟨ret_int HE.out.symm,hB⟩):Y:=h
theorem x7h7(h:Y:=by
 clear hz hrow1 hb1;go_wp2_with fail;go_ret;exact⟨ret_int HO.out.symm,hB1⟩):Y:=h
theorem recCheckA_calls(r:Rec)(w:World):Calls Tryz.prog 128 #[.agg (recA r)] w (RetB w (iv (recCheck r))):=
 recCheck_calls r.gen r.active r.trying r.tries r.floor r.a.ver r.a.size r.a.sum r.b.ver r.b.size r.b.sum w
theorem copies_calls(c d:Cop)(w:World):Calls Tryz.prog 115 #[.agg (copsA c d)] w (RetB w (iv (copCheck c d))):=by
 have i2:∀w,(Instr.index 32 (.agg (copsA c d)) (iv 0)).run Tryz.prog w=.ok (.agg (copA c)) w:=fun _=>by kernel_rfl
 have i1:∀w,(Instr.index 32 (.agg (copsA c d)) (iv 1)).run Tryz.prog w=.ok (.agg (copA d)) w:=fun _=>by kernel_rfl
 go_enter Tryz.func115,Tryz.ntmps115;go_wp2_with fail;go_loopw [7] (fun i wr=>∃k:Nat,k<=2∧i=iv k∧Below w.heap.size w wr∧rowOf wr w.heap.size=copsA c d∧(0<k->copOne c=0)∧(1<k->copOne d=0)) (fun i _=>(2-intOf i).toNat)
 case atStart=>exact⟨0,by omega,rfl,bL _,by rw[rowOf_alloc,if_pos rfl],by omega,by omega⟩
 case round=>
  obtain⟨k,hk,rfl,hB,hrow,ha,hb⟩:=hrel;have HR:=qH hrow;clear hrow;by_cases hlt:k<2
  ·rcases (show k=0∨k=1 by omega)with rfl|rfl
   ·clear ha hb
    cases hok:c.ok
    ·by_cases hz:c.r=Rec.zero
     ·have HO:=qH (copOne_lost0 hok hz);have hd:decide (c.r=Rec.zero)=true:=decide_eq_true hz;have HK:=qH hok;have hok':(c.ok==true)=false:=by simp[hok]
      clear hz;go_wp2_with fail;go_roundw
      case rel=>exact⟨1,by omega,rfl,hB.alloc hB.size _,by rw[rowOf_alloc,if_neg (by have:=row_lt (w:=wr) (g:=w.heap.size) (by rw[HR.out];simp[copsA]);omega),HR.out],fun _=>HO.out,by omega⟩
      case measure=>simp[intOf]<;>omega
     ·have HO:=qH (copCheck_1 (d:=d) (copOne_lost3 hok hz) (by omega));have hd:decide (c.r=Rec.zero)=false:=decide_eq_false hz;exact x27r
    have HO1:=qH (copOne_ok hok);go_wp2_with fail;refine(recCheckA_calls c.r _).mono ?_;rintro e w1 ⟨rfl,hb1⟩;have hB1:=(hB.alloc hB.size (.cells (copA c) 31)).trans (hb1.mono (by simp;exact Nat.le_succ_of_le hB.size));have hrow1:rowOf w1 w.heap.size=copsA c d:=by rw[rowOf_below (by simp;have:=row_lt (w:=wr) (g:=w.heap.size) (by rw[HR.out];simp[copsA]);omega) hb1,rowOf_alloc,if_neg (by have:=row_lt (w:=wr) (g:=w.heap.size) (by rw[HR.out];simp[copsA]);omega),HR.out]
    by_cases hz:recCheck c.r=0
    ·have HO:=qH (HO1.out.trans hz);have hz':(recCheck c.r !=0)=false:=by simp[hz]
     have HW:=qH hrow1;clear hz hrow1 hb1;go_wp2_with fail;go_roundw
     case rel=>exact⟨1,by omega,rfl,hB1,HW.out,fun _=>HO.out,by omega⟩
     case measure=>simp[intOf]<;>omega
    have HO:=qH (copCheck_1 (d:=d) HO1.out hz);have hz':(recCheck c.r !=0)=true:=by simp[hz]
    exact x7h7
   ·have HA:=qH (ha (by omega));clear ha hb
    cases hok:d.ok
    ·by_cases hz:d.r=Rec.zero
     ·have HO:=qH (copOne_lost0 hok hz);have hd:decide (d.r=Rec.zero)=true:=decide_eq_true hz;have HK:=qH hok;have hok':(d.ok==true)=false:=by simp[hok]
      clear hz;go_wp2_with fail;go_roundw
      case rel=>exact⟨2,by omega,rfl,hB.alloc hB.size _,by rw[rowOf_alloc,if_neg (by have:=row_lt (w:=wr) (g:=w.heap.size) (by rw[HR.out];simp[copsA]);omega),HR.out],fun _=>HA.out,fun _=>HO.out⟩
      case measure=>simp[intOf]<;>omega
     ·have HO:=qH (copCheck_2 HA.out (copOne_lost3 hok hz) (by omega));have hd:decide (d.r=Rec.zero)=false:=decide_eq_false hz;exact x27r
    have HO1:=qH (copOne_ok hok);go_wp2_with fail;refine(recCheckA_calls d.r _).mono ?_;rintro e w1 ⟨rfl,hb1⟩;have hB1:=(hB.alloc hB.size (.cells (copA d) 31)).trans (hb1.mono (by simp;exact Nat.le_succ_of_le hB.size));have hrow1:rowOf w1 w.heap.size=copsA c d:=by rw[rowOf_below (by simp;have:=row_lt (w:=wr) (g:=w.heap.size) (by rw[HR.out];simp[copsA]);omega) hb1,rowOf_alloc,if_neg (by have:=row_lt (w:=wr) (g:=w.heap.size) (by rw[HR.out];simp[copsA]);omega),HR.out]
    by_cases hz:recCheck d.r=0
    ·have HO:=qH (HO1.out.trans hz);have hz':(recCheck d.r !=0)=false:=by simp[hz]
     have HW:=qH hrow1;clear hz hrow1 hb1;go_wp2_with fail;go_roundw
     case rel=>exact⟨2,by omega,rfl,hB1,HW.out,fun _=>HA.out,fun _=>HO.out⟩
     case measure=>simp[intOf]<;>omega
    have HO:=qH (copCheck_2 HA.out HO1.out hz);have hz':(recCheck d.r !=0)=true:=by simp[hz]
    exact x7h7
  obtain rfl:k=2:=by omega
  have hp:0<(rowOf wr w.heap.size).size:=by rw[HR.out];simp[copsA]
  have c1:=cell_row hp 0;have c2:=cell_row hp 12;rw[HR.out]at c1 c2;rw[copsA_get0]at c1;rw[copsA_get12]at c2;have HF:=qH (copCheck_3 (ha (by omega)) (hb (by omega)));clear ha hb hp
  cases hc:c.ok
  ·cases hd:d.ok
   ·have HE:Hid (copCheck c d=7):=by rw[hc,hd]at HF;exact HF
    exact x6lz
   ·have HE:Hid (copCheck c d=0):=by rw[hc,hd]at HF;exact HF
    exact x6lz
  have HE:Hid (copCheck c d=0):=by rw[hc]at HF;exact HF
  exact x6lz
theorem x08y(h:Y:=by
 have HE:=qH hE;clear hE;go_wp2_with fail;refine bodyPost_ret (results_ctt rfl rfl (cs:=recA d.r) (by go_simp) (by go_simp) (by go_simp)) rfl ⟨by rw[HE.out];rfl,?_⟩;exact below_row HB.out (Nat.le_succ _) _):Y:=h
theorem x0ap(h:Y:=by
 repeat (first|exact hA|refine bR ?_ _|refine bC ?_ _|refine bA ?_ _)):Y:=h
theorem x1qb(h:Y:=by
 have HE:=qH hE;clear hE;go_wp2_with fail;refine bodyPost_ret (results_ctt rfl rfl (cs:=recA c.r) (by go_simp) (by go_simp) (by go_simp)) rfl ⟨by rw[HE.out];rfl,?_⟩;exact below_row HB.out (Nat.le_succ _) _):Y:=h
theorem read_bad(c d:Cop)(w:World)(h:copCheck c d≠0):Calls Tryz.prog 78 #[.agg (copsA c d)] w (RetB w (.tuple #[.agg (recA Rec.zero),iv 0,iv (copCheck c d)])):=by
 have hb:(copCheck c d !=0)=true:=by simp[h]
 clear h;go_enter Tryz.func78,Tryz.ntmps78;go_wp2_with fail;refine(copies_calls c d _).mono ?_;rintro e w1 ⟨rfl,hb1⟩;obtain⟨kr,kf,kn,kc,kz⟩:=keepB hb1 (n:=w.heap.size+1+1) (by simp);have HB:=qH (((bL _).alloc (by simp) _).trans (hb1.mono (B':=w.heap.size) (by simp;omega)));clear hb1;go_wp2_with fail;refine bodyPost_ret (results_ctt rfl rfl (cs:=recA Rec.zero) (by go_simp) (by go_simp) (by go_simp)) rfl ⟨rfl,below_row HB.out (by omega) _⟩
theorem read_ok(c d:Cop)(w:World)(h:copCheck c d=0):Calls Tryz.prog 78 #[.agg (copsA c d)] w (RetB w (.tuple #[.agg (recA (recRead c d).1),iv (recRead c d).2,iv 0])):=by
 have hb:(copCheck c d !=0)=false:=by simp[h]
 clear h;go_enter Tryz.func78,Tryz.ntmps78;go_wp2_with fail;refine(copies_calls c d _).mono ?_;rintro e w1 ⟨rfl,hb1⟩;obtain⟨kr,kf,kn,kc,kz⟩:=keepB hb1 (n:=w.heap.size+1+1) (by simp);have HB:=qH (((bL _).alloc (by simp) _).trans (hb1.mono (B':=w.heap.size) (by simp;omega)));clear hb1
 cases hc:c.ok
 ·have hE:recRead c d=(d.r,1):=by unfold recRead newer;rw[hc];rfl
  exact x08y
 cases hd:d.ok
 ·have hE:recRead c d=(c.r,0):=by unfold recRead newer;rw[hc,hd];rfl
  exact x1qb
 by_cases hg:c.r.gen<d.r.gen
 ·have hE:recRead c d=(d.r,1):=by unfold recRead newer;rw[hc,hd,decide_eq_true hg];rfl
  exact x08y
 have hE:recRead c d=(c.r,0):=by unfold recRead newer;rw[hc,hd,decide_eq_false hg];rfl
 exact x1qb
attribute [go_sem] setRow_setRow
theorem write_bad(c d:Cop)(r:Rec)(torn:Bool)(w:World)(h:copCheck c d≠0):Calls Tryz.prog 95 #[.agg (copsA c d),.agg (recA r),.bool torn] w (RetB w (.tuple #[.agg (copsA Cop.zero Cop.zero),iv (copCheck c d)])):=by
 have hb:(copCheck c d !=0)=true:=by simp[h]
 go_enter Tryz.func95,Tryz.ntmps95;go_wp2_with fail;refine(read_bad c d _ h).mono ?_;rintro e w1 ⟨rfl,hb1⟩;have r4:=keep1 (g:=w.heap.size) (cs:=copsA c d) hb1 (by go_simp) (by go_simp) (by go_simp);have r1:=keep1 (g:=w.heap.size+1) (cs:=recA r) hb1 (by go_simp) (by go_simp) (by go_simp);have r1:=keep1 (g:=w.heap.size+1+1) (cs:=copsA Cop.zero Cop.zero) hb1 (by go_simp) (by go_simp) (by go_simp);have r1:=keep1 (g:=w.heap.size+1+1+1) (cs:=copsA Cop.zero Cop.zero) hb1 (by go_simp) (by go_simp) (by go_simp);have HB:=qH (((((bL _).alloc (by simp) _).alloc (by simp;omega) _).alloc (by simp;omega) _).trans (hb1.mono (B':=w.heap.size) (by simp;omega)));clear hb1 h;go_wp2_with fail;refine bodyPost_ret (rC (copsA Cop.zero Cop.zero)) rfl ⟨rfl,bZ HB⟩
theorem write_ok(c d:Cop)(r:Rec)(torn:Bool)(w:World)(h:copCheck c d=0):Calls Tryz.prog 95 #[.agg (copsA c d),.agg (recA r),.bool torn] w
  (RetB w (.tuple #[.agg (copsA (recWrite c d r torn).1.1 (recWrite c d r torn).1.2),iv (recWrite c d r torn).2])):=by
 have hrg:=recCheck_range0 (recRead_ok h);have hk:(recRead c d).2=0∨(recRead c d).2=1:=by unfold recRead;split<;>simp
 have hw:recWrite c d r torn=if recCheck {r with gen:=(recRead c d).1.gen+1}=0 then (recPut c d r torn,0)else ((Cop.zero,Cop.zero),recCheck {r with gen:=(recRead c d).1.gen+1}):=by unfold recWrite;rw[if_pos h]
 have hp:recPut c d r torn=if (recRead c d).2=0 then (c,if torn=true then Cop.zero else ⟨true,{r with gen:=(recRead c d).1.gen+1}⟩)else (if torn=true then Cop.zero else ⟨true,{r with gen:=(recRead c d).1.gen+1}⟩,d):=rfl
 have hread:=read_ok c d;have hread:=fun w=>hread w h;generalize recRead c d=q at *
 obtain⟨was,k⟩:=q;simp only at hk hw hp hread hrg;have HW:=qH hw;have HP:=qH hp;have HRd:=qH hread;have hg1:=hrg.1;have hg1:=hrg.2.1;clear hw hp hread hrg h;go_enter Tryz.func95,Tryz.ntmps95;go_wp2_with fail;refine(HRd.out _).mono ?_;rintro e w1 ⟨rfl,hb1⟩;have r4:=keep1 (g:=w.heap.size) (cs:=copsA c d) hb1 (by go_simp) (by go_simp) (by go_simp);have r1:=keep1 (g:=w.heap.size+1) (cs:=recA r) hb1 (by go_simp) (by go_simp) (by go_simp);have r2:=keep1 (g:=w.heap.size+1+1) (cs:=copsA Cop.zero Cop.zero) hb1 (by go_simp) (by go_simp) (by go_simp);have r3:=keep1 (g:=w.heap.size+1+1+1) (cs:=copsA Cop.zero Cop.zero) hb1 (by go_simp) (by go_simp) (by go_simp);have HB:=qH (((((bL _).alloc (by simp) _).alloc (by simp;omega) _).alloc (by simp;omega) _).trans (hb1.mono (B':=w.heap.size) (by simp;omega)));clear hb1;go_wp2_with fail;refine(recCheckA_calls {r with gen:=was.gen+1} _).mono ?_;rintro e w1 ⟨rfl,hb1⟩;have r5:=keep1 (g:=w.heap.size) (cs:=copsA c d) hb1 (by go_simp) (by go_simp) (by go_simp);have r5:=keep1 (g:=w.heap.size+1) (cs:=recA {r with gen:=was.gen+1}) hb1 (by go_simp) (by go_simp) (by go_simp);have r5:=keep1 (g:=w.heap.size+1+1) (cs:=copsA Cop.zero Cop.zero) hb1 (by go_simp) (by go_simp) (by go_simp);have r5:=keep1 (g:=w.heap.size+1+1+1) (cs:=copsA Cop.zero Cop.zero) hb1 (by go_simp) (by go_simp) (by go_simp);have hs:=HB.out.size;have HB1:Hid (Below w.heap.size w w1):=((HB.out.setCell (p:=⟨w.heap.size+1,0,none⟩) (by simp) (iv (was.gen+1))).alloc (by simp;omega) (.cells (recA was) 29)).trans (hb1.mono (by simp;omega));have hs1:=HB1.out.size;clear hb1 r4 r1 r2 r3 hs;by_cases hz:recCheck {r with gen:=was.gen+1}=0
 ·have hz':(recCheck {r with gen:=was.gen+1} !=0)=false:=by simp[hz]
  have HE:=qH (HW.out.trans (if_pos hz));clear hz HW;rcases hk with rfl|rfl
  ·have HP1:=qH (HP.out.trans (if_pos rfl))
   cases torn
   ·go_wp2_with fail;refine bodyPost_ret (results_ct rfl rfl (cs:=copsA c ⟨true,{r with gen:=was.gen+1}⟩) (by go_simp) (by go_simp) (by first|(go_simp;done)|(go_simp;kernel_rfl))) rfl ⟨by rw[HE.out,HP1.out];rfl,?_⟩;exact x0ap
   go_wp2_with fail;refine bodyPost_ret (results_ct rfl rfl (cs:=copsA c Cop.zero) (by go_simp) (by go_simp) (by first|(go_simp;done)|(go_simp;kernel_rfl))) rfl ⟨by rw[HE.out,HP1.out];rfl,?_⟩;exact x0ap
  have HP1:=qH (HP.out.trans (if_neg (by decide)))
  cases torn
  ·go_wp2_with fail;refine bodyPost_ret (results_ct rfl rfl (cs:=copsA ⟨true,{r with gen:=was.gen+1}⟩ d) (by go_simp) (by go_simp) (by first|(go_simp;done)|(go_simp;kernel_rfl))) rfl ⟨by rw[HE.out,HP1.out];rfl,?_⟩;exact x0ap
  go_wp2_with fail;refine bodyPost_ret (results_ct rfl rfl (cs:=copsA Cop.zero d) (by go_simp) (by go_simp) (by first|(go_simp;done)|(go_simp;kernel_rfl))) rfl ⟨by rw[HE.out,HP1.out];rfl,?_⟩;exact x0ap
 have hz':(recCheck {r with gen:=was.gen+1} !=0)=true:=by simp[hz]
 have HE:=qH (HW.out.trans (if_neg hz));clear hz HW HP hk;go_wp2_with fail;refine bodyPost_ret (results_ct rfl rfl (cs:=copsA Cop.zero Cop.zero) (by go_simp) (by go_simp) (by first|(go_simp;done)|(go_simp;kernel_rfl))) rfl ⟨by rw[HE.out];rfl,?_⟩;exact x0ap
theorem write_calls(c d:Cop)(r:Rec)(torn:Bool)(w:World):Calls Tryz.prog 95 #[.agg (copsA c d),.agg (recA r),.bool torn] w
  (RetB w (.tuple #[.agg (copsA (recWrite c d r torn).1.1 (recWrite c d r torn).1.2),iv (recWrite c d r torn).2])):=by
 by_cases h:copCheck c d=0
 ·exact write_ok c d r torn w h
 have e:recWrite c d r torn=((Cop.zero,Cop.zero),copCheck c d):=by unfold recWrite;rw[if_neg h]
 rw[e];exact write_bad c d r torn w h
theorem x4b3(h:Y:=by
 repeat (first|exact hA|refine bR ?_ _|refine bC ?_ _|refine bA ?_ _|refine Below.drew ?_)):Y:=h
theorem start_calls(r:Rec)(w:World):Calls Tryz.prog 98 #[.agg (recA r)] w (RetB w (.tuple #[iv (recStart r).1,.agg (recA (recStart r).2.1),iv (recStart r).2.2])):=by
 go_enter Tryz.func98,Tryz.ntmps98;go_wp2_with fail;refine(recCheckA_calls r _).mono ?_;rintro e w1 ⟨rfl,hb1⟩;have r2:=keep1 (g:=w.heap.size) (cs:=recA r) hb1 (by go_simp) (by go_simp) (by go_simp);have r1:=keep1 (g:=w.heap.size+1) (cs:=recA Rec.zero) hb1 (by go_simp) (by go_simp) (by go_simp);have HB:=qH (((bL _).alloc (by simp) _).trans (hb1.mono (B':=w.heap.size) (by simp;omega)));have hs:=HB.out.size;clear hb1;by_cases hz:recCheck r=0
 ·have hz':(recCheck r !=0)=false:=by simp[hz]
  have hrg:=recCheck_range0 hz;have hg1:=hrg.2.2.1;have hg1:=hrg.2.2.2.1;have hg1:=hrg.2.2.2.2.1;have hg1:=hrg.2.2.2.2.2.1
  cases ht:r.trying
  ·have hE:recStart r=(r.active,r,0):=by unfold recStart;rw[if_pos hz,if_neg (by simp[ht])]
   have HE:=qH hE;clear hE hrg hz;go_wp2_with fail;go_region
   all_goals (
    go_wp2_with fail;refine bodyPost_ret (results_tct rfl rfl (cs:=recA r) (by go_simp) (by go_simp) (by go_simp)) rfl ⟨by rw[HE.out];rfl,?_⟩;exact x4b3)
  by_cases h1:r.tries=0
  ·have hE:recStart r=(r.active,{r with trying:=false},0):=by unfold recStart;rw[if_pos hz,if_pos ht,if_pos h1]
   have h0':(r.tries==0)=true:=by simp[h1]
   have HE:=qH hE;clear hE hrg hz h1;go_wp2_with fail;go_region
   all_goals (
    go_wp2_with fail;refine bodyPost_ret (results_tct rfl rfl (cs:=recA {r with trying:=false}) (by go_simp) (by go_simp) (by go_simp)) rfl ⟨by rw[HE.out];rfl,?_⟩;exact x4b3)
  have hE:recStart r=(1-r.active,{r with tries:=r.tries-1},0):=by unfold recStart;rw[if_pos hz,if_pos ht,if_neg h1]
  have h0':(r.tries==0)=false:=by simp[h1]
  have HE:=qH hE;clear hE hrg hz h1;go_wp2_with fail;go_region
  all_goals (
   go_wp2_with fail;refine bodyPost_ret (results_tct rfl rfl (cs:=recA {r with tries:=r.tries-1}) (by go_simp) (by go_simp) (by go_simp)) rfl ⟨by rw[HE.out];rfl,?_⟩;exact x4b3)
 have hz':(recCheck r !=0)=true:=by simp[hz]
 have hE:recStart r=(0,Rec.zero,recCheck r):=by unfold recStart;rw[if_neg hz]
 have HE:=qH hE;clear hE hz;go_wp2_with fail;all_goals (
  go_wp2_with fail;refine bodyPost_ret (results_tct rfl rfl (cs:=recA Rec.zero) (by go_simp) (by go_simp) (by go_simp)) rfl ⟨by rw[HE.out];rfl,?_⟩;exact x4b3)
theorem x2hk(h:Y:=by
 obtain⟨i,hi,_⟩:=info_parts (P:=Tryz.prog) (e:=29) (z:=.agg (recA Rec.zero)) (size:=11) (bytes:=88) (by kernel_rfl);exact⟨i,hi,h⟩):Y:=h
theorem confirm_calls(r:Rec)(w:World):Calls Tryz.prog 97 #[.agg (recA r)] w (RetB w (.tuple #[.agg (recA (recConfirm r).1),iv (recConfirm r).2])):=by
 go_enter Tryz.func97,Tryz.ntmps97;go_wp2_with fail;refine(recCheckA_calls r _).mono ?_;rintro e w1 ⟨rfl,hb1⟩;have r2:=keep1 (g:=w.heap.size) (cs:=recA r) hb1 (by go_simp) (by go_simp) (by go_simp);have r1:=keep1 (g:=w.heap.size+1) (cs:=recA Rec.zero) hb1 (by go_simp) (by go_simp) (by go_simp);have HB:=qH (((bL _).alloc (by simp) _).trans (hb1.mono (B':=w.heap.size) (by simp;omega)));have hs:=HB.out.size;clear hb1;by_cases hz:recCheck r=0
 ·have hz':(recCheck r !=0)=false:=by simp[hz]
  have hrg:=recCheck_range0 hz;have hg1:=hrg.2.2.1;have hg1:=hrg.2.2.2.1;have hg1:=hrg.2.2.2.2.1;have hg1:=hrg.2.2.2.2.2.1;have hg1:=hrg.2.2.2.2.2.2.1;have hg1:=hrg.2.2.2.2.2.2.2
  cases ht:r.trying
  ·have hE:recConfirm r=(Rec.zero,5):=by unfold recConfirm;rw[if_pos hz,if_neg (by simp[ht])]
   have HE:=qH hE;clear hE hrg hz;go_wp2_with fail;refine bodyPost_ret (rC (recA Rec.zero)) rfl ⟨by rw[HE.out];rfl,?_⟩;exact x4b3
  have hE:recConfirm r=(recDone r,0):=by unfold recConfirm;rw[if_pos hz,if_pos ht]
  have hk:r.active=0∨r.active=1:=by omega
  clear hrg hz;rcases hk with hk|hk
  ·have HE:=qH (hE.trans (show _=((⟨r.gen,1,false,0,max r.floor r.b.ver,r.a,r.b⟩:Rec),(0:Int)) by unfold recDone Rec.at_;simp[hk]));clear hE;go_wp2_with fail;go_region
   all_goals go_wp2_with fail
   all_goals (
    refine bodyPost_ret (results_ct rfl rfl (cs:=recA ⟨r.gen,1,false,0,max r.floor r.b.ver,r.a,r.b⟩) (by first|(go_simp;done)|(go_simp;refine congrArg (fun z=>recA ⟨_,_,_,_,z,_,_⟩) ?_<;>omega)) (by go_simp) (by go_simp)) rfl ⟨by rw[HE.out];rfl,?_⟩;exact x4b3)
  have HE:=qH (hE.trans (show _=((⟨r.gen,0,false,0,max r.floor r.a.ver,r.a,r.b⟩:Rec),(0:Int)) by unfold recDone Rec.at_;simp[hk]));clear hE;go_wp2_with fail;go_region
  all_goals go_wp2_with fail
  all_goals (
   refine bodyPost_ret (results_ct rfl rfl (cs:=recA ⟨r.gen,0,false,0,max r.floor r.a.ver,r.a,r.b⟩) (by first|(go_simp;done)|(go_simp;refine congrArg (fun z=>recA ⟨_,_,_,_,z,_,_⟩) ?_<;>omega)) (by go_simp) (by go_simp)) rfl ⟨by rw[HE.out];rfl,?_⟩;exact x4b3)
 have hz':(recCheck r !=0)=true:=by simp[hz]
 have hE:recConfirm r=(Rec.zero,recCheck r):=by unfold recConfirm;rw[if_neg hz]
 have HE:=qH hE;clear hE hz;go_wp2_with fail;refine bodyPost_ret (rC (recA Rec.zero)) rfl ⟨by rw[HE.out];rfl,?_⟩;exact x4b3
theorem x2vi(h:Y:=by
 go_wp2_with fail;go_ret;exact⟨ret_int HE.out.symm,HB.out.alloc HB.out.size _⟩):Y:=h
theorem x558(h:Y:=by
 clear hb;go_wp2_with fail;go_ret;exact⟨ret_int HE.out.symm,bL _⟩):Y:=h
theorem x59h(h:Y:=by
 have _u:=hy;have HC:=qH (HE.out.trans (if_pos (by rw[H1.out];simp[ht]<;>omega)));clear H1 HE;go_wp2_with fail;go_ret;exact⟨ret_int HC.out.symm,Below.drewN' HB.out _⟩):Y:=h
theorem x6wi(h:Y:=by
 clear H1 HE;go_wp2_with fail;go_ret;exact⟨ret_int HC.out.symm,Below.drewN' HB.out _⟩):Y:=h
theorem x76h(h:Y:=by
 clear hv;go_wp2_with fail;go_roundw
 case rel=>exact⟨1,by omega,rfl,HB.out.alloc HB.out.size _,by rw[rowOf_alloc,if_neg (by omega),HW.out],fun _=>HO.out,by omega⟩
 case measure=>simp[intOf]<;>omega):Y:=h
theorem x9v4(h:Y:=by
 clear hv;go_wp2_with fail;go_roundw
 case rel=>exact⟨2,by omega,rfl,HB.out.alloc HB.out.size _,by rw[rowOf_alloc,if_neg (by omega),HW.out],fun _=>HA.out,fun _=>HO.out⟩
 case measure=>simp[intOf]<;>omega):Y:=h
def within(n a b:Int):Bool:=decide (a<=n)&&decide (n<=b)
theorem in_calls(n a b:Int)(w:World):Calls Tryz.prog 29 #[iv n,iv a,iv b] w (Ret w (.bool (within n a b))):=by
 go_enter Tryz.func29,Tryz.ntmps29;by_cases h:a<=n
 ·go_wp2_with fail;go_ret;exact⟨ret_bool (by unfold within;rw[decide_eq_true h];rfl),rfl⟩
 go_wp2_with fail;go_ret;exact⟨ret_bool (by unfold within;rw[decide_eq_false (by omega)];rfl),rfl⟩
def infsA(x y:Inf):Array Value:=#[iv x.ver,iv x.size,iv x.sum,iv y.ver,iv y.size,iv y.sum]
@[go_sem] theorem recA_ex5_11(r:Rec):(recA r).extract 5 11=infsA r.a r.b:=by simp[recA,infsA]
def rangeB(r:Rec):Bool:=within r.gen 1 1000000&&within r.active 0 1&&within r.tries 0 3&&within r.floor 1 30
def infB(x:Inf):Bool:=within x.ver 0 30&&within x.size 0 64&&within x.sum 0 65535
theorem rangeB_iff(r:Rec):rangeB r=true↔RangeOk r:=by
 unfold rangeB within RangeOk;simp[and_assoc]
theorem infB_iff(x:Inf):infB x=true↔InfRange x:=by
 unfold infB within InfRange;simp[and_assoc]
theorem recCheck_sum{r:Rec}(h:RangeOk r)(ha:infCheck r.a=0)(hb:infCheck r.b=0):recCheck r=if FormOk r then 0 else 3:=by
 unfold recCheck;rw[if_pos h,if_pos ha,if_pos hb]
theorem refRecCheck_bad(r:Rec)(w:World)(h:¬RangeOk r):Calls Tryz.prog 100 #[.agg (recA r)] w (RetB w (iv (recCheck r))):=by
 have hE:recCheck r=2:=recCheck_bad h;have hb:rangeB r=false:=by rw[<-Bool.not_eq_true,rangeB_iff];exact h
 have HE:=qH hE;clear h hE;unfold rangeB at hb;go_enter Tryz.func100,Tryz.ntmps100;go_wp2_with fail;refine(in_calls _ _ _ _).mono ?_;rintro e w4 ⟨rfl,rfl⟩
 cases h0:within r.gen 1 1000000
 ·exact x558
 have _u:=hb;clear _u;go_wp2_with fail;refine(in_calls _ _ _ _).mono ?_;rintro e w1 ⟨rfl,rfl⟩
 cases h1:within r.active 0 1
 ·exact x558
 have _u:=hb;clear _u;go_wp2_with fail;refine(in_calls _ _ _ _).mono ?_;rintro e w1 ⟨rfl,rfl⟩
 cases h2:within r.tries 0 3
 ·exact x558
 have _u:=hb;clear _u;go_wp2_with fail;refine(in_calls _ _ _ _).mono ?_;rintro e w1 ⟨rfl,rfl⟩
 cases h3:within r.floor 1 30
 ·exact x558
 simp[h0,h1,h2,h3]at hb
theorem refRecCheck_ok(r:Rec)(w:World)(h:RangeOk r):Calls Tryz.prog 100 #[.agg (recA r)] w (RetB w (iv (recCheck r))):=by
 have i2:∀w,(Instr.index 27 (.agg (infsA r.a r.b)) (iv 0)).run Tryz.prog w=.ok (.agg (infA r.a)) w:=fun _=>by kernel_rfl
 have i1:∀w,(Instr.index 27 (.agg (infsA r.a r.b)) (iv 1)).run Tryz.prog w=.ok (.agg (infA r.b)) w:=fun _=>by kernel_rfl
 have HR:=qH h;have hb:rangeB r=true:=(rangeB_iff r).2 h;unfold rangeB at hb;simp only[Bool.and_eq_true]at hb;obtain⟨⟨⟨h4,h1⟩,h2⟩,h3⟩:=hb;clear h;go_enter Tryz.func100,Tryz.ntmps100;go_wp2_with fail;refine(in_calls _ _ _ _).mono ?_;rintro e w4 ⟨rfl,rfl⟩;go_wp2_with fail;refine(in_calls _ _ _ _).mono ?_;rintro e w1 ⟨rfl,rfl⟩;go_wp2_with fail;refine(in_calls _ _ _ _).mono ?_;rintro e w1 ⟨rfl,rfl⟩;go_wp2_with fail;refine(in_calls _ _ _ _).mono ?_;rintro e w1 ⟨rfl,rfl⟩;go_wp2_with fail;clear h4 h1 h2 h3;go_loopw [31] (fun i wr=>∃k:Nat,k<=2∧i=iv k∧Below w.heap.size w wr∧rowOf wr w.heap.size=recA r∧(0<k->infCheck r.a=0)∧(1<k->infCheck r.b=0)) (fun i _=>(2-intOf i).toNat)
 case atStart=>exact⟨0,by omega,rfl,bL _,by rw[rowOf_alloc,if_pos rfl],by omega,by omega⟩
 case round=>
  obtain⟨k,hk,rfl,hB,hrow,ha,hb⟩:=hrel;have HB:=qH hB;have HW:=qH hrow;have hp:0<(rowOf wr w.heap.size).size:=by rw[hrow,recA_size];decide
  have hlw:=row_lt hp;have hs:=hB.size;clear hrow hB;by_cases hlt:k<2
  ·rcases (show k=0∨k=1 by omega)with rfl|rfl
   ·have _u:=ha;clear _u ha hb;clear hp;by_cases hi:InfRange r.a
    ·have HI:=qH hi;have hb:=(infB_iff r.a).2 hi;unfold infB at hb;simp only[Bool.and_eq_true]at hb;obtain⟨⟨g3,g1⟩,g2⟩:=hb;have hi1:=hi.2.2.1;have hi1:=hi.2.2.2.2.1;clear hi;go_wp2_with fail;refine(in_calls _ _ _ _).mono ?_;rintro e v3 ⟨rfl,rfl⟩;go_wp2_with fail;refine(in_calls _ _ _ _).mono ?_;rintro e v1 ⟨rfl,rfl⟩;go_wp2_with fail;refine(in_calls _ _ _ _).mono ?_;rintro e v1 ⟨rfl,rfl⟩;by_cases hv:r.a.ver=0
     ·have hv':(r.a.ver==0)=true:=by simp[hv]
      by_cases hz:0<r.a.size
      ·have HE:=qH (recCheck_a HR.out (infCheck_form HI.out hv (by omega)) (by omega));clear hv;exact x2vi
      by_cases hy:0<r.a.sum
      ·have HE:=qH (recCheck_a HR.out (infCheck_form HI.out hv (by omega)) (by omega));clear hv;exact x2vi
      have HO:=qH (infCheck_ok HI.out (fun _=>(by omega:r.a.size=0∧r.a.sum=0)));exact x76h
     have hv':(r.a.ver==0)=false:=by simp[hv]
     have HO:=qH (infCheck_ok HI.out (fun q=>absurd q hv));exact x76h
    have HE:=qH (recCheck_a HR.out (infCheck_bad hi) (by omega));have hb:infB r.a=false:=by rw[<-Bool.not_eq_true,infB_iff];exact hi
    unfold infB at hb;clear hi;go_wp2_with fail;refine(in_calls _ _ _ _).mono ?_;rintro e v3 ⟨rfl,rfl⟩
    cases g0:within r.a.ver 0 30
    ·clear hb;exact x2vi
    have _u:=hb;clear _u;go_wp2_with fail;refine(in_calls _ _ _ _).mono ?_;rintro e v1 ⟨rfl,rfl⟩
    cases g1:within r.a.size 0 64
    ·clear hb;exact x2vi
    have _u:=hb;clear _u;go_wp2_with fail;refine(in_calls _ _ _ _).mono ?_;rintro e v1 ⟨rfl,rfl⟩
    cases g2:within r.a.sum 0 65535
    ·clear hb;exact x2vi
    simp[g0,g1,g2]at hb
   ·have HA:=qH (ha (by omega));clear ha hb;clear hp;by_cases hi:InfRange r.b
    ·have HI:=qH hi;have hb:=(infB_iff r.b).2 hi;unfold infB at hb;simp only[Bool.and_eq_true]at hb;obtain⟨⟨g3,g1⟩,g2⟩:=hb;have hi1:=hi.2.2.1;have hi1:=hi.2.2.2.2.1;clear hi;go_wp2_with fail;refine(in_calls _ _ _ _).mono ?_;rintro e v3 ⟨rfl,rfl⟩;go_wp2_with fail;refine(in_calls _ _ _ _).mono ?_;rintro e v1 ⟨rfl,rfl⟩;go_wp2_with fail;refine(in_calls _ _ _ _).mono ?_;rintro e v1 ⟨rfl,rfl⟩;by_cases hv:r.b.ver=0
     ·have hv':(r.b.ver==0)=true:=by simp[hv]
      by_cases hz:0<r.b.size
      ·have HE:=qH (recCheck_b HR.out HA.out (infCheck_form HI.out hv (by omega)) (by omega));clear hv;exact x2vi
      by_cases hy:0<r.b.sum
      ·have HE:=qH (recCheck_b HR.out HA.out (infCheck_form HI.out hv (by omega)) (by omega));clear hv;exact x2vi
      have HO:=qH (infCheck_ok HI.out (fun _=>(by omega:r.b.size=0∧r.b.sum=0)));exact x9v4
     have hv':(r.b.ver==0)=false:=by simp[hv]
     have HO:=qH (infCheck_ok HI.out (fun q=>absurd q hv));exact x9v4
    have HE:=qH (recCheck_b HR.out HA.out (infCheck_bad hi) (by omega));have hb:infB r.b=false:=by rw[<-Bool.not_eq_true,infB_iff];exact hi
    unfold infB at hb;clear hi;go_wp2_with fail;refine(in_calls _ _ _ _).mono ?_;rintro e v3 ⟨rfl,rfl⟩
    cases g0:within r.b.ver 0 30
    ·clear hb;exact x2vi
    have _u:=hb;clear _u;go_wp2_with fail;refine(in_calls _ _ _ _).mono ?_;rintro e v1 ⟨rfl,rfl⟩
    cases g1:within r.b.size 0 64
    ·clear hb;exact x2vi
    have _u:=hb;clear _u;go_wp2_with fail;refine(in_calls _ _ _ _).mono ?_;rintro e v1 ⟨rfl,rfl⟩
    cases g2:within r.b.sum 0 65535
    ·clear hb;exact x2vi
    simp[g0,g1,g2]at hb
  obtain rfl:k=2:=by omega
  have HE:=qH (recCheck_sum HR.out (ha (by omega)) (hb (by omega)));have hr:=HR.out;obtain⟨c1,f1⟩:(∀j,wr.cell? ⟨w.heap.size,j,none⟩=(recA r)[j]?)∧rowOf wr w.heap.size=recA r:=⟨fun j=>by rw[cell_row hp,HW.out],HW.out⟩;have hfl:=hr.2.2.2.2.2.2.1;have hfm:=hr.2.2.2.2.2.2.2;have htr:=hr.2.2.2.2.1;have hts:=hr.2.2.2.2.2.1;have hk1:r.active=0∨r.active=1:=by have:=hr.2.2.1;have:=hr.2.2.2.1;omega
  clear ha hb hp hr;have hF:FormOk r=((r.at_ r.active).ver≠0∧(r.trying=true->(r.at_ (1-r.active)).ver≠0∧r.floor<=(r.at_ (1-r.active)).ver)∧(r.trying=false->r.tries=0)∧r.floor<=(r.at_ r.active).ver):=rfl;have HF:=qH hF;clear hF;rcases hk1 with hk1|hk1
  ·have H1:Hid (FormOk r=(r.a.ver≠0∧(r.trying=true->r.b.ver≠0∧r.floor<=r.b.ver)∧(r.trying=false->r.tries=0)∧r.floor<=r.a.ver)):=qH (HF.out.trans (by simp[Rec.at_,hk1]));clear HF;go_wp2_with fail;go_quiet (fail)
   by_cases hn:r.a.ver<r.floor
   ·cases ht:r.trying;all_goals (
     have HC:=qH (HE.out.trans (if_neg (by rw[H1.out];simp[ht]<;>omega)));exact x6wi)
   cases ht:r.trying
   ·by_cases hy:0<r.tries
    ·have _u:=hy;have HC:=qH (HE.out.trans (if_neg (by rw[H1.out];simp[ht]<;>omega)));exact x6wi
    ·exact x59h
   by_cases hm:r.b.ver<r.floor
   ·have _u:=hm;have HC:=qH (HE.out.trans (if_neg (by rw[H1.out];simp[ht]<;>omega)));exact x6wi
   by_cases hy:0<r.tries
   ·exact x59h
   exact x59h
  have H1:Hid (FormOk r=(r.b.ver≠0∧(r.trying=true->r.a.ver≠0∧r.floor<=r.a.ver)∧(r.trying=false->r.tries=0)∧r.floor<=r.b.ver)):=qH (HF.out.trans (by simp[Rec.at_,hk1]));clear HF;go_wp2_with fail;go_quiet (fail)
  by_cases hn:r.b.ver<r.floor
  ·cases ht:r.trying;all_goals (
    have HC:=qH (HE.out.trans (if_neg (by rw[H1.out];simp[ht]<;>omega)));exact x6wi)
  cases ht:r.trying
  ·by_cases hy:0<r.tries
   ·have _u:=hy;have HC:=qH (HE.out.trans (if_neg (by rw[H1.out];simp[ht]<;>omega)));exact x6wi
   ·exact x59h
  by_cases hm:r.a.ver<r.floor
  ·have _u:=hm;have HC:=qH (HE.out.trans (if_neg (by rw[H1.out];simp[ht]<;>omega)));exact x6wi
  by_cases hy:0<r.tries
  ·exact x59h
  exact x59h
theorem refRecCheck_calls(r:Rec)(w:World):Calls Tryz.prog 100 #[.agg (recA r)] w (RetB w (iv (recCheck r))):=by
 by_cases h:RangeOk r
 ·exact refRecCheck_ok r w h
 exact refRecCheck_bad r w h
theorem x6wa(h:Y:=by
 clear hz;go_wp2_with fail;go_ret;exact⟨ret_int HE.out.symm,HB1.out⟩):Y:=h
theorem x8wo(h:Y:=by
 clear h1;go_wp2_with fail;go_ret;exact⟨ret_int HE.out.symm,HB.out⟩):Y:=h
def wholes(c d:Cop)(k:Nat):Int:=(if 0<k∧c.ok=true then 1 else 0)+(if 1<k∧d.ok=true then 1 else 0)
theorem wholes_bound(c d:Cop)(k:Nat):0<=wholes c d k∧wholes c d k<=2:=by unfold wholes;split<;>split<;>omega
theorem wholes_0(c d:Cop):wholes c d 0=0:=by simp[wholes]
theorem wholes_1t(c d:Cop)(h:c.ok=true):wholes c d 1=wholes c d 0+1:=by simp[wholes,h]
theorem wholes_1f(c d:Cop)(h:c.ok=false):wholes c d 1=wholes c d 0:=by simp[wholes,h]
theorem wholes_2t(c d:Cop)(h:d.ok=true):wholes c d 2=wholes c d 1+1:=by simp[wholes,h]
theorem wholes_2f(c d:Cop)(h:d.ok=false):wholes c d 2=wholes c d 1:=by simp[wholes,h]
theorem wholes_z(c d:Cop):wholes c d 2=0↔(c.ok=false∧d.ok=false):=by cases hc:c.ok<;>cases hd:d.ok<;>simp[wholes,hc,hd]
theorem refCopies_calls(c d:Cop)(w:World):Calls Tryz.prog 50 #[.agg (copsA c d)] w (RetB w (iv (copCheck c d))):=by
 have i2:∀w,(Instr.index 32 (.agg (copsA c d)) (iv 0)).run Tryz.prog w=.ok (.agg (copA c)) w:=fun _=>by kernel_rfl
 have i1:∀w,(Instr.index 32 (.agg (copsA c d)) (iv 1)).run Tryz.prog w=.ok (.agg (copA d)) w:=fun _=>by kernel_rfl
 go_enter Tryz.func50,Tryz.ntmps50;go_wp2_with fail;go_loopw [8,3] (fun i n wr=>∃k:Nat,k<=2∧i=iv k∧n=iv (wholes c d k)∧Below w.heap.size w wr∧rowOf wr w.heap.size=copsA c d∧(0<k->copOne c=0)∧(1<k->copOne d=0)) (fun i _ _=>(2-intOf i).toNat)
 case atStart=>exact⟨0,by omega,rfl,by rw[wholes_0],bL _,by rw[rowOf_alloc,if_pos rfl],by omega,by omega⟩
 case round=>
  obtain⟨k,hk,rfl,rfl,hB,hrow,ha,hb⟩:=hrel;have HB:=qH hB;have HR:=qH hrow;have hp:0<(rowOf wr w.heap.size).size:=by rw[hrow,copsA_size];decide
  have hlw:=row_lt hp;have hs:=hB.size;have hfr:True:=trivial;clear hrow hB;obtain⟨m,hm⟩:=eX (wholes c d k);have hm1:0<=m:=by rw[<-hm];exact(wholes_bound c d k).1
  have hm1:m<=2:=by rw[<-hm];exact(wholes_bound c d k).2
  have HM:=qH hm;rw[hm];clear hm;by_cases hlt:k<2
  ·rcases (show k=0∨k=1 by omega)with rfl|rfl
   ·have _u:=ha;clear _u ha hb hp;go_wp2_with fail;refine(refRecCheck_calls c.r _).mono ?_;rintro e w1 ⟨rfl,hb1⟩;have hB1:=(HB.out.alloc HB.out.size (.cells (copA c) 31)).trans (hb1.mono (by simp;omega));have hrow1:rowOf w1 w.heap.size=copsA c d:=by rw[rowOf_below (by simp;omega) hb1,rowOf_alloc,if_neg (by omega),HR.out]
    have r1:=keep1 (g:=wr.heap.size) (cs:=copA c) hb1 (by go_simp) (by go_simp) (by go_simp);have HB1:=qH hB1;have HR1:=qH hrow1;clear hb1 hB1 hrow1
    cases hok:c.ok
    ·by_cases hz:c.r=Rec.zero
     ·have HO:=qH (copOne_lost0 hok hz);have hd:decide (c.r=Rec.zero)=true:=decide_eq_true hz;clear hz;go_wp2_with fail;go_roundw
      case rel=>exact⟨1,by omega,rfl,by rw[wholes_1f c d hok,HM.out],HB1.out,HR1.out,fun _=>HO.out,by omega⟩
      case measure=>simp[intOf]<;>omega
     ·have HE:=qH (copCheck_1 (d:=d) (copOne_lost3 hok hz) (by omega));have hd:decide (c.r=Rec.zero)=false:=decide_eq_false hz;exact x6wa
    have HO1:=qH (copOne_ok hok);by_cases hz:recCheck c.r=0
    ·have HO:=qH (HO1.out.trans hz);have hz':(recCheck c.r !=0)=false:=by simp[hz]
     clear hz;go_wp2_with fail;go_roundw
     case rel=>exact⟨1,by omega,rfl,by rw[wholes_1t c d hok,HM.out],HB1.out,HR1.out,fun _=>HO.out,by omega⟩
     case measure=>simp[intOf]<;>omega
    have HE:=qH (copCheck_1 (d:=d) HO1.out hz);have hz':(recCheck c.r !=0)=true:=by simp[hz]
    exact x6wa
   ·have HA:=qH (ha (by omega));clear ha hb hp;go_wp2_with fail;refine(refRecCheck_calls d.r _).mono ?_;rintro e w1 ⟨rfl,hb1⟩;have hB1:=(HB.out.alloc HB.out.size (.cells (copA d) 31)).trans (hb1.mono (by simp;omega));have hrow1:rowOf w1 w.heap.size=copsA c d:=by rw[rowOf_below (by simp;omega) hb1,rowOf_alloc,if_neg (by omega),HR.out]
    have r1:=keep1 (g:=wr.heap.size) (cs:=copA d) hb1 (by go_simp) (by go_simp) (by go_simp);have HB1:=qH hB1;have HR1:=qH hrow1;clear hb1 hB1 hrow1
    cases hok:d.ok
    ·by_cases hz:d.r=Rec.zero
     ·have HO:=qH (copOne_lost0 hok hz);have hd:decide (d.r=Rec.zero)=true:=decide_eq_true hz;clear hz;go_wp2_with fail;go_roundw
      case rel=>exact⟨2,by omega,rfl,by rw[wholes_2f c d hok,HM.out],HB1.out,HR1.out,fun _=>HA.out,fun _=>HO.out⟩
      case measure=>simp[intOf]<;>omega
     ·have HE:=qH (copCheck_2 HA.out (copOne_lost3 hok hz) (by omega));have hd:decide (d.r=Rec.zero)=false:=decide_eq_false hz;exact x6wa
    have HO1:=qH (copOne_ok hok);by_cases hz:recCheck d.r=0
    ·have HO:=qH (HO1.out.trans hz);have hz':(recCheck d.r !=0)=false:=by simp[hz]
     clear hz;go_wp2_with fail;go_roundw
     case rel=>exact⟨2,by omega,rfl,by rw[wholes_2t c d hok,HM.out],HB1.out,HR1.out,fun _=>HA.out,fun _=>HO.out⟩
     case measure=>simp[intOf]<;>omega
    have HE:=qH (copCheck_2 HA.out HO1.out hz);have hz':(recCheck d.r !=0)=true:=by simp[hz]
    exact x6wa
  obtain rfl:k=2:=by omega
  have HF:=qH (copCheck_3 (ha (by omega)) (hb (by omega)));clear ha hb hp;by_cases h1:m=0
  ·have HE:=qH (HF.out.trans (if_pos ((wholes_z c d).1 (HM.out.trans h1))));have h0':(m==0)=true:=by simp[h1]
   exact x8wo
  have HE:=qH (HF.out.trans (if_neg (fun q=>h1 (HM.out.symm.trans ((wholes_z c d).2 q)))));have h0':(m==0)=false:=by simp[h1]
  exact x8wo
end Go.Proofs.YtefkfglkpebbmaaGreat
