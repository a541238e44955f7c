/- Walks of functions, and plain words. No conditions. -/
import Derived.Test.YtefkfglkpebbmacGreatP6
set_option linter.unusedVariables false
set_option linter.unusedSimpArgs false
set_option maxRecDepth 100000
set_option maxHeartbeats 40000000
namespace Go.Proofs.YtefkfglkpebbmacGreat
open Go.RowKit
variable {Y:Prop}
variable {k:Nat}
theorem x2vi(h:Y:=by
 go_wp2_with fail;go_ret;exact⟨ret_int HE.out.symm,HB.out.alloc HB.out.size _⟩):Y:=h
theorem x558(h:Y:=by
 clear hb;go_wp2_with fail;go_ret;exact⟨ret_int HE.out.symm,bL _⟩):Y:=h
theorem x59h(h:Y:=by
 have _u:=hy;have HC:=qH (HE.out.trans (if_pos (by rw[H1.out];simp[ht]<;>omega)));clear H1 HE;go_wp2_with fail;go_ret;exact⟨ret_int HC.out.symm,Below.drewN' HB.out _⟩):Y:=h
theorem x6wi(h:Y:=by
 clear H1 HE;go_wp2_with fail;go_ret;exact⟨ret_int HC.out.symm,Below.drewN' HB.out _⟩):Y:=h
theorem x76h(h:Y:=by
 clear hv;go_wp2_with fail;go_roundw
 case rel=>exact⟨1,by omega,rfl,HB.out.alloc HB.out.size _,by rw[rowOf_alloc,if_neg (by omega),HW.out],fun _=>HO.out,by omega⟩
 case measure=>simp[intOf]<;>omega):Y:=h
theorem x9v4(h:Y:=by
 clear hv;go_wp2_with fail;go_roundw
 case rel=>exact⟨2,by omega,rfl,HB.out.alloc HB.out.size _,by rw[rowOf_alloc,if_neg (by omega),HW.out],fun _=>HA.out,fun _=>HO.out⟩
 case measure=>simp[intOf]<;>omega):Y:=h
def within(n a b:Int):Bool:=decide (a<=n)&&decide (n<=b)
theorem in_calls(n a b:Int)(w:World):Calls Tryz.prog 25 #[iv n,iv a,iv b] w (Ret w (.bool (within n a b))):=by
 go_enter Tryz.func25,Tryz.ntmps25;by_cases h:a<=n
 ·go_wp2_with fail;go_ret;exact⟨ret_bool (by unfold within;rw[decide_eq_true h];rfl),rfl⟩
 go_wp2_with fail;go_ret;exact⟨ret_bool (by unfold within;rw[decide_eq_false (by omega)];rfl),rfl⟩
def infsA(x y:Inf):Array Value:=#[iv x.ver,iv x.size,iv x.sum,iv y.ver,iv y.size,iv y.sum]
@[go_sem] theorem recA_ex5_11(r:Rec):(recA r).extract 5 11=infsA r.a r.b:=by simp[recA,infsA]
def rangeB(r:Rec):Bool:=within r.gen 1 1000000&&within r.active 0 1&&within r.tries 0 3&&within r.floor 1 30
def infB(x:Inf):Bool:=within x.ver 0 30&&within x.size 0 64&&within x.sum 0 65535
theorem rangeB_iff(r:Rec):rangeB r=true↔RangeOk r:=by
 unfold rangeB within RangeOk;simp[and_assoc]
theorem infB_iff(x:Inf):infB x=true↔InfRange x:=by
 unfold infB within InfRange;simp[and_assoc]
theorem recCheck_sum{r:Rec}(h:RangeOk r)(ha:infCheck r.a=0)(hb:infCheck r.b=0):recCheck r=if FormOk r then 0 else 3:=by
 unfold recCheck;rw[if_pos h,if_pos ha,if_pos hb]
theorem refRecCheck_bad(r:Rec)(w:World)(h:¬RangeOk r):Calls Tryz.prog 61 #[.agg (recA r)] w (RetB w (iv (recCheck r))):=by
 have hE:recCheck r=2:=recCheck_bad h;have hb:rangeB r=false:=by rw[<-Bool.not_eq_true,rangeB_iff];exact h
 have HE:=qH hE;clear h hE;unfold rangeB at hb;go_enter Tryz.func61,Tryz.ntmps61;go_wp2_with fail;refine(in_calls _ _ _ _).mono ?_;rintro e w4 ⟨rfl,rfl⟩
 cases h0:within r.gen 1 1000000
 ·exact x558
 have _u:=hb;clear _u;go_wp2_with fail;refine(in_calls _ _ _ _).mono ?_;rintro e w1 ⟨rfl,rfl⟩
 cases h1:within r.active 0 1
 ·exact x558
 have _u:=hb;clear _u;go_wp2_with fail;refine(in_calls _ _ _ _).mono ?_;rintro e w1 ⟨rfl,rfl⟩
 cases h2:within r.tries 0 3
 ·exact x558
 have _u:=hb;clear _u;go_wp2_with fail;refine(in_calls _ _ _ _).mono ?_;rintro e w1 ⟨rfl,rfl⟩
 cases h3:within r.floor 1 30
 ·exact x558
 simp[h0,h1,h2,h3]at hb
theorem refRecCheck_ok(r:Rec)(w:World)(h:RangeOk r):Calls Tryz.prog 61 #[.agg (recA r)] w (RetB w (iv (recCheck r))):=by
 have i2:∀w,(Instr.index 26 (.agg (infsA r.a r.b)) (iv 0)).run Tryz.prog w=.ok (.agg (infA r.a)) w:=fun _=>by kernel_rfl
 have i1:∀w,(Instr.index 26 (.agg (infsA r.a r.b)) (iv 1)).run Tryz.prog w=.ok (.agg (infA r.b)) w:=fun _=>by kernel_rfl
 have HR:=qH h;have hb:rangeB r=true:=(rangeB_iff r).2 h;unfold rangeB at hb;simp only[Bool.and_eq_true]at hb;obtain⟨⟨⟨h4,h1⟩,h2⟩,h3⟩:=hb;clear h;go_enter Tryz.func61,Tryz.ntmps61;go_wp2_with fail;refine(in_calls _ _ _ _).mono ?_;rintro e w4 ⟨rfl,rfl⟩;go_wp2_with fail;refine(in_calls _ _ _ _).mono ?_;rintro e w1 ⟨rfl,rfl⟩;go_wp2_with fail;refine(in_calls _ _ _ _).mono ?_;rintro e w1 ⟨rfl,rfl⟩;go_wp2_with fail;refine(in_calls _ _ _ _).mono ?_;rintro e w1 ⟨rfl,rfl⟩;go_wp2_with fail;clear h4 h1 h2 h3;go_loopw [31] (fun i wr=>∃k:Nat,k<=2∧i=iv k∧Below w.heap.size w wr∧rowOf wr w.heap.size=recA r∧(0<k->infCheck r.a=0)∧(1<k->infCheck r.b=0)) (fun i _=>(2-intOf i).toNat)
 case atStart=>exact⟨0,by omega,rfl,bL _,by rw[rowOf_alloc,if_pos rfl],by omega,by omega⟩
 case round=>
  obtain⟨k,hk,rfl,hB,hrow,ha,hb⟩:=hrel;have HB:=qH hB;have HW:=qH hrow;have hp:0<(rowOf wr w.heap.size).size:=by rw[hrow,recA_size];decide
  have hlw:=row_lt hp;have hs:=hB.size;clear hrow hB;by_cases hlt:k<2
  ·rcases (show k=0∨k=1 by omega)with rfl|rfl
   ·have _u:=ha;clear _u ha hb;clear hp;by_cases hi:InfRange r.a
    ·have HI:=qH hi;have hb:=(infB_iff r.a).2 hi;unfold infB at hb;simp only[Bool.and_eq_true]at hb;obtain⟨⟨g3,g1⟩,g2⟩:=hb;have hi1:=hi.2.2.1;have hi1:=hi.2.2.2.2.1;clear hi;go_wp2_with fail;refine(in_calls _ _ _ _).mono ?_;rintro e v3 ⟨rfl,rfl⟩;go_wp2_with fail;refine(in_calls _ _ _ _).mono ?_;rintro e v1 ⟨rfl,rfl⟩;go_wp2_with fail;refine(in_calls _ _ _ _).mono ?_;rintro e v1 ⟨rfl,rfl⟩;by_cases hv:r.a.ver=0
     ·have hv':(r.a.ver==0)=true:=by simp[hv]
      by_cases hz:0<r.a.size
      ·have HE:=qH (recCheck_a HR.out (infCheck_form HI.out hv (by omega)) (by omega));clear hv;exact x2vi
      by_cases hy:0<r.a.sum
      ·have HE:=qH (recCheck_a HR.out (infCheck_form HI.out hv (by omega)) (by omega));clear hv;exact x2vi
      have HO:=qH (infCheck_ok HI.out (fun _=>(by omega:r.a.size=0∧r.a.sum=0)));exact x76h
     have hv':(r.a.ver==0)=false:=by simp[hv]
     have HO:=qH (infCheck_ok HI.out (fun q=>absurd q hv));exact x76h
    have HE:=qH (recCheck_a HR.out (infCheck_bad hi) (by omega));have hb:infB r.a=false:=by rw[<-Bool.not_eq_true,infB_iff];exact hi
    unfold infB at hb;clear hi;go_wp2_with fail;refine(in_calls _ _ _ _).mono ?_;rintro e v3 ⟨rfl,rfl⟩
    cases g0:within r.a.ver 0 30
    ·clear hb;exact x2vi
    have _u:=hb;clear _u;go_wp2_with fail;refine(in_calls _ _ _ _).mono ?_;rintro e v1 ⟨rfl,rfl⟩
    cases g1:within r.a.size 0 64
    ·clear hb;exact x2vi
    have _u:=hb;clear _u;go_wp2_with fail;refine(in_calls _ _ _ _).mono ?_;rintro e v1 ⟨rfl,rfl⟩
    cases g2:within r.a.sum 0 65535
    ·clear hb;exact x2vi
    simp[g0,g1,g2]at hb
   ·have HA:=qH (ha (by omega));clear ha hb;clear hp;by_cases hi:InfRange r.b
    ·have HI:=qH hi;have hb:=(infB_iff r.b).2 hi;unfold infB at hb;simp only[Bool.and_eq_true]at hb;obtain⟨⟨g3,g1⟩,g2⟩:=hb;have hi1:=hi.2.2.1;have hi1:=hi.2.2.2.2.1;clear hi;go_wp2_with fail;refine(in_calls _ _ _ _).mono ?_;rintro e v3 ⟨rfl,rfl⟩;go_wp2_with fail;refine(in_calls _ _ _ _).mono ?_;rintro e v1 ⟨rfl,rfl⟩;go_wp2_with fail;refine(in_calls _ _ _ _).mono ?_;rintro e v1 ⟨rfl,rfl⟩;by_cases hv:r.b.ver=0
     ·have hv':(r.b.ver==0)=true:=by simp[hv]
      by_cases hz:0<r.b.size
      ·have HE:=qH (recCheck_b HR.out HA.out (infCheck_form HI.out hv (by omega)) (by omega));clear hv;exact x2vi
      by_cases hy:0<r.b.sum
      ·have HE:=qH (recCheck_b HR.out HA.out (infCheck_form HI.out hv (by omega)) (by omega));clear hv;exact x2vi
      have HO:=qH (infCheck_ok HI.out (fun _=>(by omega:r.b.size=0∧r.b.sum=0)));exact x9v4
     have hv':(r.b.ver==0)=false:=by simp[hv]
     have HO:=qH (infCheck_ok HI.out (fun q=>absurd q hv));exact x9v4
    have HE:=qH (recCheck_b HR.out HA.out (infCheck_bad hi) (by omega));have hb:infB r.b=false:=by rw[<-Bool.not_eq_true,infB_iff];exact hi
    unfold infB at hb;clear hi;go_wp2_with fail;refine(in_calls _ _ _ _).mono ?_;rintro e v3 ⟨rfl,rfl⟩
    cases g0:within r.b.ver 0 30
    ·clear hb;exact x2vi
    have _u:=hb;clear _u;go_wp2_with fail;refine(in_calls _ _ _ _).mono ?_;rintro e v1 ⟨rfl,rfl⟩
    cases g1:within r.b.size 0 64
    ·clear hb;exact x2vi
    have _u:=hb;clear _u;go_wp2_with fail;refine(in_calls _ _ _ _).mono ?_;rintro e v1 ⟨rfl,rfl⟩
    cases g2:within r.b.sum 0 65535
    ·clear hb;exact x2vi
    simp[g0,g1,g2]at hb
  obtain rfl:k=2:=by omega
  have HE:=qH (recCheck_sum HR.out (ha (by omega)) (hb (by omega)));have hr:=HR.out;obtain⟨c1,f1⟩:(∀j,wr.cell? ⟨w.heap.size,j,none⟩=(recA r)[j]?)∧rowOf wr w.heap.size=recA r:=⟨fun j=>by rw[cell_row hp,HW.out],HW.out⟩;have hfl:=hr.2.2.2.2.2.2.1;have hfm:=hr.2.2.2.2.2.2.2;have htr:=hr.2.2.2.2.1;have hts:=hr.2.2.2.2.2.1;have hk1:r.active=0∨r.active=1:=by have:=hr.2.2.1;have:=hr.2.2.2.1;omega
  clear ha hb hp hr;have hF:FormOk r=((r.at_ r.active).ver≠0∧(r.trying=true->(r.at_ (1-r.active)).ver≠0∧r.floor<=(r.at_ (1-r.active)).ver)∧(r.trying=false->r.tries=0)∧r.floor<=(r.at_ r.active).ver):=rfl;have HF:=qH hF;clear hF;rcases hk1 with hk1|hk1
  ·have H1:Hid (FormOk r=(r.a.ver≠0∧(r.trying=true->r.b.ver≠0∧r.floor<=r.b.ver)∧(r.trying=false->r.tries=0)∧r.floor<=r.a.ver)):=qH (HF.out.trans (by simp[Rec.at_,hk1]));clear HF;go_wp2_with fail;go_quiet (fail)
   by_cases hn:r.a.ver<r.floor
   ·cases ht:r.trying;all_goals (
     have HC:=qH (HE.out.trans (if_neg (by rw[H1.out];simp[ht]<;>omega)));exact x6wi)
   cases ht:r.trying
   ·by_cases hy:0<r.tries
    ·have _u:=hy;have HC:=qH (HE.out.trans (if_neg (by rw[H1.out];simp[ht]<;>omega)));exact x6wi
    ·exact x59h
   by_cases hm:r.b.ver<r.floor
   ·have _u:=hm;have HC:=qH (HE.out.trans (if_neg (by rw[H1.out];simp[ht]<;>omega)));exact x6wi
   by_cases hy:0<r.tries
   ·exact x59h
   exact x59h
  have H1:Hid (FormOk r=(r.b.ver≠0∧(r.trying=true->r.a.ver≠0∧r.floor<=r.a.ver)∧(r.trying=false->r.tries=0)∧r.floor<=r.b.ver)):=qH (HF.out.trans (by simp[Rec.at_,hk1]));clear HF;go_wp2_with fail;go_quiet (fail)
  by_cases hn:r.b.ver<r.floor
  ·cases ht:r.trying;all_goals (
    have HC:=qH (HE.out.trans (if_neg (by rw[H1.out];simp[ht]<;>omega)));exact x6wi)
  cases ht:r.trying
  ·by_cases hy:0<r.tries
   ·have _u:=hy;have HC:=qH (HE.out.trans (if_neg (by rw[H1.out];simp[ht]<;>omega)));exact x6wi
   ·exact x59h
  by_cases hm:r.a.ver<r.floor
  ·have _u:=hm;have HC:=qH (HE.out.trans (if_neg (by rw[H1.out];simp[ht]<;>omega)));exact x6wi
  by_cases hy:0<r.tries
  ·exact x59h
  exact x59h
theorem refRecCheck_calls(r:Rec)(w:World):Calls Tryz.prog 61 #[.agg (recA r)] w (RetB w (iv (recCheck r))):=by
 by_cases h:RangeOk r
 ·exact refRecCheck_ok r w h
 exact refRecCheck_bad r w h
theorem x6wa(h:Y:=by
 clear hz;go_wp2_with fail;go_ret;exact⟨ret_int HE.out.symm,HB1.out⟩):Y:=h
theorem x8wo(h:Y:=by
 clear h1;go_wp2_with fail;go_ret;exact⟨ret_int HE.out.symm,HB.out⟩):Y:=h
def wholes(c d:Cop)(k:Nat):Int:=(if 0<k∧c.ok=true then 1 else 0)+(if 1<k∧d.ok=true then 1 else 0)
theorem wholes_bound(c d:Cop)(k:Nat):0<=wholes c d k∧wholes c d k<=2:=by unfold wholes;split<;>split<;>omega
theorem wholes_0(c d:Cop):wholes c d 0=0:=by simp[wholes]
theorem wholes_1t(c d:Cop)(h:c.ok=true):wholes c d 1=wholes c d 0+1:=by simp[wholes,h]
theorem wholes_1f(c d:Cop)(h:c.ok=false):wholes c d 1=wholes c d 0:=by simp[wholes,h]
theorem wholes_2t(c d:Cop)(h:d.ok=true):wholes c d 2=wholes c d 1+1:=by simp[wholes,h]
theorem wholes_2f(c d:Cop)(h:d.ok=false):wholes c d 2=wholes c d 1:=by simp[wholes,h]
theorem wholes_z(c d:Cop):wholes c d 2=0↔(c.ok=false∧d.ok=false):=by cases hc:c.ok<;>cases hd:d.ok<;>simp[wholes,hc,hd]
theorem refCopies_calls(c d:Cop)(w:World):Calls Tryz.prog 22 #[.agg (copsA c d)] w (RetB w (iv (copCheck c d))):=by
 have i2:∀w,(Instr.index 31 (.agg (copsA c d)) (iv 0)).run Tryz.prog w=.ok (.agg (copA c)) w:=fun _=>by kernel_rfl
 have i1:∀w,(Instr.index 31 (.agg (copsA c d)) (iv 1)).run Tryz.prog w=.ok (.agg (copA d)) w:=fun _=>by kernel_rfl
 go_enter Tryz.func22,Tryz.ntmps22;go_wp2_with fail;go_loopw [8,3] (fun i n wr=>∃k:Nat,k<=2∧i=iv k∧n=iv (wholes c d k)∧Below w.heap.size w wr∧rowOf wr w.heap.size=copsA c d∧(0<k->copOne c=0)∧(1<k->copOne d=0)) (fun i _ _=>(2-intOf i).toNat)
 case atStart=>exact⟨0,by omega,rfl,by rw[wholes_0],bL _,by rw[rowOf_alloc,if_pos rfl],by omega,by omega⟩
 case round=>
  obtain⟨k,hk,rfl,rfl,hB,hrow,ha,hb⟩:=hrel;have HB:=qH hB;have HR:=qH hrow;have hp:0<(rowOf wr w.heap.size).size:=by rw[hrow,copsA_size];decide
  have hlw:=row_lt hp;have hs:=hB.size;have hfr:True:=trivial;clear hrow hB;obtain⟨m,hm⟩:=eX (wholes c d k);have hm1:0<=m:=by rw[<-hm];exact(wholes_bound c d k).1
  have hm1:m<=2:=by rw[<-hm];exact(wholes_bound c d k).2
  have HM:=qH hm;rw[hm];clear hm;by_cases hlt:k<2
  ·rcases (show k=0∨k=1 by omega)with rfl|rfl
   ·have _u:=ha;clear _u ha hb hp;go_wp2_with fail;refine(refRecCheck_calls c.r _).mono ?_;rintro e w1 ⟨rfl,hb1⟩;have hB1:=(HB.out.alloc HB.out.size (.cells (copA c) 30)).trans (hb1.mono (by simp;omega));have hrow1:rowOf w1 w.heap.size=copsA c d:=by rw[rowOf_below (by simp;omega) hb1,rowOf_alloc,if_neg (by omega),HR.out]
    have r1:=keep1 (g:=wr.heap.size) (cs:=copA c) hb1 (by go_simp) (by go_simp) (by go_simp);have HB1:=qH hB1;have HR1:=qH hrow1;clear hb1 hB1 hrow1
    cases hok:c.ok
    ·by_cases hz:c.r=Rec.zero
     ·have HO:=qH (copOne_lost0 hok hz);have hd:decide (c.r=Rec.zero)=true:=decide_eq_true hz;clear hz;go_wp2_with fail;go_roundw
      case rel=>exact⟨1,by omega,rfl,by rw[wholes_1f c d hok,HM.out],HB1.out,HR1.out,fun _=>HO.out,by omega⟩
      case measure=>simp[intOf]<;>omega
     ·have HE:=qH (copCheck_1 (d:=d) (copOne_lost3 hok hz) (by omega));have hd:decide (c.r=Rec.zero)=false:=decide_eq_false hz;exact x6wa
    have HO1:=qH (copOne_ok hok);by_cases hz:recCheck c.r=0
    ·have HO:=qH (HO1.out.trans hz);have hz':(recCheck c.r !=0)=false:=by simp[hz]
     clear hz;go_wp2_with fail;go_roundw
     case rel=>exact⟨1,by omega,rfl,by rw[wholes_1t c d hok,HM.out],HB1.out,HR1.out,fun _=>HO.out,by omega⟩
     case measure=>simp[intOf]<;>omega
    have HE:=qH (copCheck_1 (d:=d) HO1.out hz);have hz':(recCheck c.r !=0)=true:=by simp[hz]
    exact x6wa
   ·have HA:=qH (ha (by omega));clear ha hb hp;go_wp2_with fail;refine(refRecCheck_calls d.r _).mono ?_;rintro e w1 ⟨rfl,hb1⟩;have hB1:=(HB.out.alloc HB.out.size (.cells (copA d) 30)).trans (hb1.mono (by simp;omega));have hrow1:rowOf w1 w.heap.size=copsA c d:=by rw[rowOf_below (by simp;omega) hb1,rowOf_alloc,if_neg (by omega),HR.out]
    have r1:=keep1 (g:=wr.heap.size) (cs:=copA d) hb1 (by go_simp) (by go_simp) (by go_simp);have HB1:=qH hB1;have HR1:=qH hrow1;clear hb1 hB1 hrow1
    cases hok:d.ok
    ·by_cases hz:d.r=Rec.zero
     ·have HO:=qH (copOne_lost0 hok hz);have hd:decide (d.r=Rec.zero)=true:=decide_eq_true hz;clear hz;go_wp2_with fail;go_roundw
      case rel=>exact⟨2,by omega,rfl,by rw[wholes_2f c d hok,HM.out],HB1.out,HR1.out,fun _=>HA.out,fun _=>HO.out⟩
      case measure=>simp[intOf]<;>omega
     ·have HE:=qH (copCheck_2 HA.out (copOne_lost3 hok hz) (by omega));have hd:decide (d.r=Rec.zero)=false:=decide_eq_false hz;exact x6wa
    have HO1:=qH (copOne_ok hok);by_cases hz:recCheck d.r=0
    ·have HO:=qH (HO1.out.trans hz);have hz':(recCheck d.r !=0)=false:=by simp[hz]
     clear hz;go_wp2_with fail;go_roundw
     case rel=>exact⟨2,by omega,rfl,by rw[wholes_2t c d hok,HM.out],HB1.out,HR1.out,fun _=>HA.out,fun _=>HO.out⟩
     case measure=>simp[intOf]<;>omega
    have HE:=qH (copCheck_2 HA.out HO1.out hz);have hz':(recCheck d.r !=0)=true:=by simp[hz]
    exact x6wa
  obtain rfl:k=2:=by omega
  have HF:=qH (copCheck_3 (ha (by omega)) (hb (by omega)));clear ha hb hp;by_cases h1:m=0
  ·have HE:=qH (HF.out.trans (if_pos ((wholes_z c d).1 (HM.out.trans h1))));have h0':(m==0)=true:=by simp[h1]
   exact x8wo
  have HE:=qH (HF.out.trans (if_neg (fun q=>h1 (HM.out.symm.trans ((wholes_z c d).2 q)))));have h0':(m==0)=false:=by simp[h1]
  exact x8wo
theorem x8od(h:Y:=by
 repeat (first|exact Below.refl _ _|refine bR ?_ _|refine bC ?_ _|refine bA ?_ _|refine Below.drew ?_)):Y:=h
theorem x9n9(h:Y:=by
 go_wp2_with fail;go_ret;exact⟨ret_int HE.out.symm,rfl⟩):Y:=h
def genOf(c:Cop):Int:=if c.ok=true then c.r.gen else 0
def refNewest(c d:Cop):Rec×Int:=if genOf c<genOf d then (d.r,1)else (c.r,0)
theorem refNewest_ok{c d:Cop}(h:copCheck c d=0):refNewest c d=recRead c d:=by
 obtain⟨h1,h2,h3⟩:=copCheck_ok h;unfold refNewest recRead newer genOf
 cases hc:c.ok
 ·cases hd:d.ok
  ·exact absurd ⟨hc,hd⟩ h3
  ·rw[copOne_ok hd]at h2;have:=(recCheck_range0 h2).1;simp;omega
 cases hd:d.ok
 ·rw[copOne_ok hc]at h1;have:=(recCheck_range0 h1).1;simp;omega
 simp
theorem gen0_calls(c d:Cop)(g:Nat)(w:World)(hr:rowOf w g=copsA c d):Calls Tryz.prog 63 #[iv 0,.pointer (some ⟨g,0,none⟩)] w (Ret w (iv (genOf c))):=by
 have hp:0<(rowOf w g).size:=by rw[hr,copsA_size];decide
 have hc:∀j,w.cell? ⟨g,j,none⟩=(copsA c d)[j]?:=fun j=>by rw[cell_row hp,hr]
 have hl:=row_lt hp;clear hp;go_enter Tryz.func63,Tryz.ntmps63
 cases hok:c.ok
 ·have HE:Hid (genOf c=0):=qH (by unfold genOf;rw[hok];rfl);exact x9n9
 have HE:Hid (genOf c=c.r.gen):=qH (by unfold genOf;rw[hok];rfl);exact x9n9
theorem gen1_calls(c d:Cop)(g:Nat)(w:World)(hr:rowOf w g=copsA c d):Calls Tryz.prog 63 #[iv 1,.pointer (some ⟨g,0,none⟩)] w (Ret w (iv (genOf d))):=by
 have hp:0<(rowOf w g).size:=by rw[hr,copsA_size];decide
 have hc:∀j,w.cell? ⟨g,j,none⟩=(copsA c d)[j]?:=fun j=>by rw[cell_row hp,hr]
 have hl:=row_lt hp;clear hp;go_enter Tryz.func63,Tryz.ntmps63
 cases hok:d.ok
 ·have HE:Hid (genOf d=0):=qH (by unfold genOf;rw[hok];rfl);exact x9n9
 have HE:Hid (genOf d=d.r.gen):=qH (by unfold genOf;rw[hok];rfl);exact x9n9
theorem newest_calls(c d:Cop)(w:World):Calls Tryz.prog 24 #[.agg (copsA c d)] w (RetB w (.tuple #[.agg (recA (refNewest c d).1),iv (refNewest c d).2])):=by
 go_enter Tryz.func24,Tryz.ntmps24;go_wp2_with fail;refine(gen1_calls c d _ _ (by go_simp)).mono ?_;rintro e w1 ⟨rfl,rfl⟩;go_wp2_with fail;refine(gen0_calls c d _ _ (by go_simp)).mono ?_;rintro e w1 ⟨rfl,rfl⟩;by_cases h:genOf c<genOf d
 ·have HE:Hid (refNewest c d=(d.r,1)):=qH (if_pos h);have hB:=((bW w).alloc nl (.cells (copsA c d) 31)).alloc (by simp) (.cells (recA d.r) 28);have HB:=qH hB;clear hB;go_wp2_with fail;refine bodyPost_ret (rC (recA d.r)) rfl ⟨by rw[HE.out];rfl,HB.out⟩
 have HE:Hid (refNewest c d=(c.r,0)):=qH (if_neg h);have hB:=((bW w).alloc nl (.cells (copsA c d) 31)).alloc (by simp) (.cells (recA c.r) 28);have HB:=qH hB;clear hB;go_wp2_with fail;refine bodyPost_ret (rC (recA c.r)) rfl ⟨by rw[HE.out];rfl,HB.out⟩
def refStart(r:Rec):Int×Rec:=
 if r.trying=true∧0<r.tries then (1-r.active,{r with tries:=r.tries-1})else (r.active,{r with trying:=false})
theorem refStart_ok{r:Rec}(h:recCheck r=0):recStart r=((refStart r).1,(refStart r).2,0):=by
 have hr:=(recCheck_range0 h).2.2.2.2.1;unfold recStart refStart;rw[if_pos h]
 cases ht:r.trying
 ·simp
  cases r;simp_all
 by_cases h1:r.tries=0
 ·simp[h1]
 simp[h1,show 0<r.tries by omega]
theorem started_calls(r:Rec)(w:World)(ha:0<=r.active∧r.active<=1)(ht:0<=r.tries∧r.tries<=3):Calls Tryz.prog 59 #[.agg (recA r)] w (RetB w (.tuple #[iv (refStart r).1,.agg (recA (refStart r).2)])):=by
 obtain⟨ha1,ha2⟩:=ha;obtain⟨ht1,ht2⟩:=ht;go_enter Tryz.func59,Tryz.ntmps59;have HB:=qH (((bW w).alloc nl (.cells (recA r) 28)).alloc (by simp) (.cells (recA Rec.zero) 28))
 cases hy:r.trying
 ·have HE:Hid (refStart r=(r.active,{r with trying:=false})):=qH (by unfold refStart;rw[if_neg (by simp[hy])]);go_wp2_with fail;go_region
  all_goals go_wp2_with fail
  all_goals (
   refine bodyPost_ret (results_tc rfl rfl (cs:=recA {r with trying:=false}) (by go_simp) (by go_simp) (by go_simp)) rfl ⟨by rw[HE.out];rfl,?_⟩;exact x8od)
 by_cases h1:0<r.tries
 ·have HE:Hid (refStart r=(1-r.active,{r with tries:=r.tries-1})):=qH (by unfold refStart;rw[if_pos ⟨hy,h1⟩]);go_wp2_with fail;go_region
  all_goals go_wp2_with fail
  all_goals (
   refine bodyPost_ret (results_tc rfl rfl (cs:=recA {r with tries:=r.tries-1}) (by go_simp) (by go_simp) (by go_simp)) rfl ⟨by rw[HE.out];rfl,?_⟩;exact x8od)
 have HE:Hid (refStart r=(r.active,{r with trying:=false})):=qH (by unfold refStart;rw[if_neg (by simp[h1])]);go_wp2_with fail;go_region
 all_goals go_wp2_with fail
 all_goals (
  refine bodyPost_ret (results_tc rfl rfl (cs:=recA {r with trying:=false}) (by go_simp) (by go_simp) (by go_simp)) rfl ⟨by rw[HE.out];rfl,?_⟩;exact x8od)
theorem imageOf_calls(d:Dev)(L:DLoc)(w:World)(h:DevIn w d L)(h0:d.s0.length=64)(h1:d.s1.length=64)(hc:copCheck d.c0 d.c1=0):
  Calls Tryz.prog 28 #[.agg (devA d L)] w (ImRet w (d.image d.rec_.active d.rec_)):=by
 have hok:=recRead_ok hc;have hn:=refNewest_ok hc;have hact:=rec_active hok;have KN:=qH (fun w=>newest_calls d.c0 d.c1 w);rw[hn]at KN;have hrec:(recRead d.c0 d.c1).1=d.rec_:=rfl;rw[hrec]at KN hok hact;obtain⟨rk,hrk⟩:=eX ((recRead d.c0 d.c1).2);rw[hrk]at KN;generalize d.rec_=r at *
 obtain⟨a,ha,ha1⟩:∃a:Nat,r.active=(a:Int)∧a<=1:=⟨r.active.toNat,by omega,by omega⟩;obtain⟨z1,z2,_⟩:=at_sizes hok r.active;rw[ha]at z1 z2⊢;obtain⟨y,hy⟩:∃y:Nat,(r.at_ (a:Int)).size=(y:Int):=⟨(r.at_ (a:Int)).size.toNat,by omega⟩;have hsl:=slot_len h0 h1 (a:Int);have himg:d.image (a:Int) r=(d.slot (a:Int)).take y:=by unfold Dev.image;rw[hy];rfl
 have hlen:((d.slot (a:Int)).take y).length=y:=by rw[List.length_take];omega
 rw[himg];obtain⟨A,c,p1,p2,p3⟩:=devSlotA h ha1;rw[hsl]at p1 p2;obtain⟨b,o,hA,-⟩:=p3 0 (by omega);have HSL:=qH (pre_slice (A:=A) (n:=64) (c:=c) y rfl p2 (by omega) (by decide) ⟨b,o,hA⟩);have HB:=qH (mid_take p3 y);have HLEN:=qH hlen;have hyc:y<=c:=by omega
 have pv:=recA_size_ r ha1;rw[hy]at pv;have hba:Below w.heap.size w (w.alloc (.cells (devA d L) 37)):=bL _;have HBA:=qH hba;have HP1:=qH p1;have HPV:=qH pv;have HA:=qH ha;clear h hok hn hact hrec hrk z1 z2 hy hsl himg hlen p1 p3 hA pv hba ha h0 h1 hc;go_enter Tryz.func28,Tryz.ntmps28;go_wp2_with fail;refine(KN.out _).mono ?_;rintro e w1 ⟨rfl,hb1⟩;have a1:=kp (w.heap.size) (devA d L) hb1;have HB1:=bT HBA hb1;clear hb1;go_wp2_with fail;obtain⟨w2,hw1⟩:=eX (w1.alloc (.cells (recA r) 28));have hb1:Below w1.heap.size w1 w2:=by rw[<-hw1];exact bL _
 have hrr:rowOf w2 w1.heap.size=recA r∧frOf w2 w1.heap.size=(0,0):=by rw[<-hw1];exact⟨by rw[rowOf_alloc,if_pos rfl],by rw[frOf_alloc,if_pos rfl]⟩
 have a1:=keep1 (g:=w.heap.size) (cs:=devA d L) hb1 a1.1 (by go_simp) a1.2.1;have r1:=keep1 (bW w2) hrr.1 (by simp[recA]) hrr.2;have HB1:=bT HB1 hb1;rw[hw1];clear hw1 hb1 hrr;have ha:=HA.out;have p1:=HP1.out;have pv:=HPV.out;have k1:(0:Int)<=(a:Int):=by omega
 have k1:(a:Int)<2:=by omega
 have k1:¬(2:Int)<=(a:Int):=by omega
 have hsl:=HSL.out;go_quiet (fail)
 go_wp2_with fail;go_ret;have HBE:Hid (Below w.heap.size w (w2.drewN nq)):=qH (Below.drewN' HB1.out nq);exact x7za
def filB(b:LU)(k:Nat):List Value:=(b.take k).map bv++List.replicate (64-k) (.int .u8 0)
theorem filB_len(b:LU)(h:k<=b.length)(hb:b.length<=64):(filB b k).length=64:=by unfold filB;simp;omega
theorem filB_zero(b:LU):filB b 0=List.replicate 64 (.int .u8 0):=by unfold filB;simp
theorem filB_set(b:LU)(h:k<b.length)(hb:b.length<=64):(filB b k).set k (bv b[k])=filB b (k+1):=by
 unfold filB;obtain⟨m,hm⟩:∃m,64-k=m+1:=⟨63-k,by omega⟩;have hl:((b.take k).map bv).length=k:=by simp;omega
 rw[List.set_append_right _ _ (by omega),hl,Nat.sub_self,hm,List.replicate_succ,List.set_cons_zero,List.take_succ_eq_append_getElem h,List.map_append,List.append_assoc,show 64-(k+1)=m by omega];rfl
theorem filB_at(b:LU)(h:k<=b.length)(hk:k<64):(filB b k)[k]?=some (.int .u8 0):=by
 unfold filB;have hl:((b.take k).map bv).length=k:=by simp;omega
 rw[List.getElem?_append_right (by omega),hl,Nat.sub_self,List.getElem?_replicate,if_pos (by omega)]
theorem filB_all(b:LU)(hb:b.length<=64):filB b b.length=(room b).map bv:=by
 unfold filB room;rw[List.take_length,List.map_append,List.map_replicate];rfl
theorem filled_calls(A:OA)(c:Nat)(b:LU)(w:World)(hb:b.length<=64)(hB:Bts w A b):
  Calls Tryz.prog 30 #[.slice A b.length c] w (BtRet w (room b)):=by
 have HB1:=qH hB;have hmk:∀w:World,(Instr.makeSlice 22 (iv 64) (iv 64)).run Tryz.prog w=.ok (.slice (some ⟨w.heap.size,0,none⟩) 64 64) (w.alloc (.cells (filB b 0).toArray 5)):=fun w=>by
  have:=run_make_row' (P:=Tryz.prog) 22 5 (.int .u8 0) 1 Tryz.underlying22 (by kernel_rfl) rfl .i64 .i64 64 (by omega) (by omega) w;rw[made_zeros]at this;rw[filB_zero,List.toArray_replicate];exact this
 clear hB;go_enter Tryz.func30,Tryz.ntmps30;go_wp2_with fail;have HF1:Hid ((w.alloc (.cells (filB b 0).toArray 5)).heap[w.heap.size]?=some (.cells (filB b 0).toArray 5 (0,0))):=qH (blk_top rfl);have HBA:Hid (Below w.heap.size w (w.alloc (.cells (filB b 0).toArray 5))):=qH (bL _);clear hmk;generalize w.alloc (.cells (filB b 0).toArray 5)=w1 at *
 obtain⟨g,hg⟩:=eX (w.heap.size);have HG:=qH hg;rw[hg]at HF1 HBA⊢;clear hg;go_loopw [9] (fun i wr=>∃k:Nat,k<=b.length∧i=iv k∧Hid (wr.heap[g]?=some (.cells (filB b k).toArray 5 (0,0)))∧Hid (Below g w wr)) (fun i _=>b.length-(intOf i).toNat)
 case atStart=>exact⟨0,Nat.zero_le _,rfl,HF1,HBA⟩
 case round=>
  clear HF1 HBA;rename World=>wr;obtain⟨k,hk,rfl,HF,HB⟩:=hrel;by_cases hlt:k<b.length
  ·obtain⟨b',o',rfl,hlt',hcc⟩:=(HB1.out.stays (HG.out.symm▸HB.out)) k hlt;obtain⟨q1,q2,q3,q4,q5⟩:=blkFacts HF.out (by rw[List.size_toArray,filB_len b hk hb];decide);have dl:decide ((k:Int)<(b.length:Int))=true:=decide_eq_true (by omega);have nb:¬(64:Int)<=(k:Int):=by omega
   have hck:=filB_at b hk (by omega);have nb1:¬(b.length:Int)<=(k:Int):=by omega
   have HS:Hid (filB b (k+1)=(filB b k).set k (bv b[k])):=qH (filB_set b hlt hb).symm;generalize b[k]=x at *
   have hw1:IntKind.i64.wrap ((k:Int)+1)=(k:Int)+1:=IntWalk.i64_in _ (by omega);go_wp2_with fail;go_roundw
   case rel=>exact⟨k+1,by omega,by go_num,qH (by rw[HS.out];have:=set_blk (j:=k) (v:=bv x) HF.out;simpa using this),qH (HB.out.setCell (p:=⟨g,k,none⟩) nl _)⟩
   case measure=>simp[intOf];omega
  obtain rfl:k=b.length:=by omega
  have dl:decide ((b.length:Int)<(b.length:Int))=false:=by simp
  go_wp2_with fail;go_ret;have hf:=HF.out;rw[filB_all b hb]at hf;have hl:=room_len hb;have hgo:=HG.out;refine⟨some ⟨g,0,none⟩,64,by rw[hl];rfl,?_,hgo.symm▸HB.out⟩;rw[hl,hgo];exact⟨by simp[hl],Or.inr ⟨g,64,_,rfl,nl,hf,nl,by unfold maxLen;omega,by simp[hl],by simp[List.take_of_length_le,hl]⟩⟩
theorem refDone_calls(B A:OA)(d c:Nat)(p:Pat)(old:LU)(w:World)(hc:old.length<=c)(ho:old.length<=140737488351232)(hA:Bts w A old)(hp:PatIn w p B d):
  Calls Tryz.prog 27 #[.agg (patA p.from_ p.to_ p.old p.new_ p.size B p.ops.length d),.slice A old.length c] w (ByRet2 w (patDo (sumOn 1) p old).1 (patDo (sumOn 1) p old).2):=by
 obtain⟨f,t,o,n,sz,l⟩:=p;obtain⟨hcap,hlen,hops,-,-,-,-,-⟩:=hp;dsimp only at *
 have hba:=(bW w).alloc nl (.cells (patA f t o n sz B l.length d) 35);have K1:=qH (fun w h=>refPatCheck_calls B d f t o n sz l w hlen h);have K2:=qH (fun w h=>refSumOf_calls A c old w (by omega) h);have HA:=qH hA;have HO:=qH hops;have HBA:=qH hba;clear hA hops hba;obtain⟨r,hr⟩:=eX (patDo (sumOn 1) ⟨f,t,o,n,sz,l⟩ old);rw[hr];have HR:=qH hr;clear hr;obtain⟨ck,hck⟩:=eX (patCheck ⟨f,t,o,n,sz,l⟩);rw[hck]at K1;have HCK:=qH hck;clear hck;go_enter Tryz.func27,Tryz.ntmps27;go_wp2_with fail;refine(K1.out _ (HO.out.stays HBA.out)).mono ?_;rintro e w1 ⟨rfl,hb1⟩;have a1:=kp (w.heap.size) (patA f t o n sz B l.length d) hb1;have HB1:=bT HBA hb1;clear hb1;by_cases h5:ck≠0
 ·exact x7ua
 have h5:=Decidable.not_not.1 h5;subst h5;by_cases h1:64<old.length
 ·exact x39d
 have q1:¬(64:Int)<(old.length:Int):=by omega
 obtain⟨s,hs⟩:=eX (sumOn 1 old);rw[hs]at K2;have HS:=qH hs;clear hs;have HK1:=qH (fun n=>K2.out (w1.drewN n) ((HA.out.stays HB1.out).drewN n));by_cases h2:s≠o
 ·have hz:r=([],6):=by rw[<-HR.out];unfold patDo;rw[HCK.out,if_neg (by simp),if_neg h1,HS.out,if_pos h2]
  subst hz;have q:(s !=o)=true:=by simp[h2]
  clear h2;go_wp2_with fail;go_quiet ((go_at_call 42;with_reducible exact quietRet (HK1.out _)))
  exact x7k2
 have h2:=Decidable.not_not.1 h2;subst h2;have q2:(s !=s)=false:=by simp
 obtain⟨y,e1,hy⟩:∃y e0,axOf old l sz=(y,e0):=⟨_,_,rfl⟩;have K3:=qH (fun w h1 h2=>refApplyAny_calls A c old B d l sz w hc ho h1 hlen h2);rw[hy]at K3;dsimp only at K3;have HY:=qH hy;clear hy;have HK2:=qH (fun n=>K3.out (w1.drewN n) ((HA.out.stays HB1.out).drewN n) ((HO.out.stays HB1.out).stays (below_drewN _ _)));have hyl:y.length<=140737488351232:=by
  exact x2fq
 go_wp2_with fail;go_quiet ((go_at_call 42;with_reducible exact quietRet (HK1.out _)))
 go_wp2_with fail;refine(HK2.out nq).mono ?_;rintro e w2 ⟨A1,c1,rfl,hy1,hc1,hb1⟩;have b1:=kp (w.heap.size) (patA f t s n sz B l.length d) hb1;have HB2:Hid (Below w.heap.size w w2):=qH ((Below.drewN' HB1.out nq).trans (hb1.mono (by have:=HB1.out.size;simp;omega)));have HY1:=qH hy1;clear hb1 hy1;by_cases h3:e1≠0
 ·have hz:r=([],e1):=by
   exact x3m9
  subst hz;have q:(e1 !=0)=true:=by simp[h3]
  have q3:(e1==0)=false:=by simp[h3]
  clear h3 HY;go_wp2_with fail;go_quiet (fail)
  exact x3yb
 have h3:=Decidable.not_not.1 h3;subst h3;have hyy:deltaCheck l old.length sz=0∧y=applied old l:=by
  exact x9b4
 have K4:=qH (fun m=>refSumOf_calls A1 c1 y (w2.drewN m) (by omega) (HY1.out.drewN m));have hrr:r=if sumOn 1 y≠n then ([],6)else (y,0):=by
  exact x93b
 obtain⟨s1,hs1⟩:=eX (sumOn 1 y);rw[hs1]at K4 hrr;have HRR:=qH hrr;clear hrr hs1 hyy HY;by_cases h4:s1≠n
 ·have hz:r=([],6):=by rw[HRR.out,if_pos h4]
  subst hz;have q:(s1 !=n)=true:=by simp[h4]
  clear h4;go_wp2_with fail;go_quiet ((go_at_call 42;with_reducible exact quietRet (K4.out _)))
  exact x3yb
 have h4:=Decidable.not_not.1 h4;subst h4;have hz:r=(y,0):=by rw[HRR.out,if_neg (by simp)]
 subst hz;have q:(s1 !=s1)=false:=by simp
 go_wp2_with fail;go_quiet ((go_at_call 42;with_reducible exact quietRet (K4.out _)))
 exact x6jp
theorem x0k5(h:Y:=by
 clear g1 g2;go_enter Tryz.func64,Tryz.ntmps64;go_wp2_with fail;refine(refIn_t (n:=f) (a:=1) (b:=30) (by omega) _).mono ?_;rintro e u ⟨rfl,rfl⟩;go_wp2_with fail;refine(refIn_t (n:=t) (a:=1) (b:=30) (by omega) _).mono ?_;rintro e u ⟨rfl,rfl⟩;go_wp2_with fail;refine(refIn_t (n:=o) (a:=1) (b:=52) (by omega) _).mono ?_;rintro e u ⟨rfl,rfl⟩;go_wp2_with fail;refine(I.out _).mono ?_;rintro e u ⟨rfl,rfl⟩;go_wp2_with fail;go_ret;exact⟨ret_int hz.out.symm,hA⟩):Y:=h
theorem refChkCheck_calls(A:OA)(c:Nat)(f t n o:Int)(l:LU)(w:World)(hn:I64 n)(ho:I64 o):
  Calls Tryz.prog 64 #[.agg (chkA f t n o A l.length c)] w (RetB w (iv (chkCheck ⟨f,t,n,o,l⟩))):=by
 obtain⟨hn1,hn2⟩:=hn;obtain⟨ho1,ho2⟩:=ho;have hb:Below w.heap.size w (w.alloc (.cells (chkA f t n o A l.length c) 39)):=bL _;have HB:=qH hb;clear hb;by_cases h5:f<(1:Int)∨(30:Int)<f
 ·have hz:=qH (chkCheck_bad (x:=⟨f,t,n,o,l⟩) (by unfold Chk.range;dsimp only;omega));go_enter Tryz.func64,Tryz.ntmps64;go_wp2_with fail;refine(refIn_f (n:=f) (a:=1) (b:=30) (by omega) _).mono ?_;rintro e u ⟨rfl,rfl⟩;exact x73o
 by_cases h1:t<(1:Int)∨(30:Int)<t
 ·have hz:=qH (chkCheck_bad (x:=⟨f,t,n,o,l⟩) (by unfold Chk.range;dsimp only;omega));go_enter Tryz.func64,Tryz.ntmps64;go_wp2_with fail;refine(refIn_t (n:=f) (a:=1) (b:=30) (by omega) _).mono ?_;rintro e u ⟨rfl,rfl⟩;go_wp2_with fail;refine(refIn_f (n:=t) (a:=1) (b:=30) (by omega) _).mono ?_;rintro e u ⟨rfl,rfl⟩;exact x73o
 by_cases h1:o<(1:Int)∨(52:Int)<o
 ·have hz:=qH (chkCheck_bad (x:=⟨f,t,n,o,l⟩) (by unfold Chk.range;dsimp only;omega));go_enter Tryz.func64,Tryz.ntmps64;go_wp2_with fail;refine(refIn_t (n:=f) (a:=1) (b:=30) (by omega) _).mono ?_;rintro e u ⟨rfl,rfl⟩;go_wp2_with fail;refine(refIn_t (n:=t) (a:=1) (b:=30) (by omega) _).mono ?_;rintro e u ⟨rfl,rfl⟩;go_wp2_with fail;refine(refIn_f (n:=o) (a:=1) (b:=52) (by omega) _).mono ?_;rintro e u ⟨rfl,rfl⟩;exact x73o
 by_cases h1:n<(0:Int)
 ·have hz:=qH (chkCheck_bad (x:=⟨f,t,n,o,l⟩) (by unfold Chk.range;dsimp only;omega));go_enter Tryz.func64,Tryz.ntmps64;go_wp2_with fail;refine(refIn_t (n:=f) (a:=1) (b:=30) (by omega) _).mono ?_;rintro e u ⟨rfl,rfl⟩;go_wp2_with fail;refine(refIn_t (n:=t) (a:=1) (b:=30) (by omega) _).mono ?_;rintro e u ⟨rfl,rfl⟩;go_wp2_with fail;refine(refIn_t (n:=o) (a:=1) (b:=52) (by omega) _).mono ?_;rintro e u ⟨rfl,rfl⟩;exact x73o
 by_cases h1:o<=n
 ·have hz:=qH (chkCheck_bad (x:=⟨f,t,n,o,l⟩) (by unfold Chk.range;dsimp only;omega));go_enter Tryz.func64,Tryz.ntmps64;go_wp2_with fail;refine(refIn_t (n:=f) (a:=1) (b:=30) (by omega) _).mono ?_;rintro e u ⟨rfl,rfl⟩;go_wp2_with fail;refine(refIn_t (n:=t) (a:=1) (b:=30) (by omega) _).mono ?_;rintro e u ⟨rfl,rfl⟩;go_wp2_with fail;refine(refIn_t (n:=o) (a:=1) (b:=52) (by omega) _).mono ?_;rintro e u ⟨rfl,rfl⟩;exact x73o
 have hr:Chk.range ⟨f,t,n,o,l⟩:=by unfold Chk.range;dsimp only;omega
 have HR:=qH hr;clear hr;have hw:IntKind.i64.wrap (o-1)=o-1:=IntWalk.i64_in _ (by omega);by_cases g1:n=o-1
 ·have q1:(n==o-1)=true:=by simp[g1]
  by_cases g2:l.length=0∨16<l.length
  ·have hz:=qH (chkCheck_form HR.out (fun e=>by have:=full_len.1 e;omega));have I:=qH (fun w=>refIn_f (n:=(l.length:Int)) (a:=1) (b:=16) (by omega) w);exact x0k5
  have hz:=qH (chkCheck_fine HR.out (full_len.2 ⟨by omega,by omega,fun h=>by omega⟩));have I:=qH (fun w=>refIn_t (n:=(l.length:Int)) (a:=1) (b:=16) (by omega) w);exact x0k5
 have q1:(n==o-1)=false:=beq_eq_false_iff_ne.2 g1;by_cases g2:l.length=16
 ·have hz:=qH (chkCheck_fine HR.out (full_len.2 ⟨by omega,by omega,fun h=>g2⟩));have I:=qH (fun w=>refIn_t (n:=(l.length:Int)) (a:=16) (b:=16) (by omega) w);exact x0k5
 have hz:=qH (chkCheck_form HR.out (fun e=>by have:=(full_len.1 e).2.2 (by omega);omega));have I:=qH (fun w=>refIn_f (n:=(l.length:Int)) (a:=16) (b:=16) (by omega) w);exact x0k5
theorem refChkCheckX_calls(A:OA)(c:Nat)(x:Chk)(w:World)(h:I64 x.n∧I64 x.of_):
  Calls Tryz.prog 64 #[.agg (chkA x.from_ x.to_ x.n x.of_ A x.data.length c)] w (RetB w (iv (chkCheck x))):=refChkCheck_calls A c x.from_ x.to_ x.n x.of_ x.data w h.1 h.2
theorem refChkList_calls(A:OA)(c:Nat)(l:List Chk)(w:World)(hl:l.length<=2513169434843)(hs:Chs w A l):
  Calls Tryz.prog 26 #[.slice A l.length c] w (RetB w (iv (chkList l))):=by
 have HS:=qH hs;clear hs;obtain⟨r,hr⟩:=eX (chkList l);rw[hr];have HR:Hid (listGo none l=r):=qH hr;clear hr;go_enter Tryz.func26,Tryz.ntmps26;go_wp2_with fail;go_loopw [9,3] (fun i z wr=>∃(k:Nat) (m:Int),k<=l.length∧i=iv k∧z=iv m∧Hid (listGo ((l.take k).getLast?) (l.drop k)=r)∧Hid (k=0->m= -1)∧Hid (∀q,(l.take k).getLast?=some q->q.n=m∧∀x0,l[0]?=some x0->kin x0 q)∧Hid (Below w.heap.size w wr)) (fun i _ _=>l.length-(intOf i).toNat)
 case atStart=>exact⟨0,-1,Nat.zero_le _,rfl,rfl,qH HR.out,qH (fun _=>rfl),qH (fun q e=>by simp at e),qH (Below.refl _ _)⟩
 case round=>
  rename World=>wr;obtain⟨k,m,hk,rfl,rfl,HE,HM1,HQ,HB⟩:=hrel;have hsz:=HB.out.size;by_cases hlt:k<l.length
  ·obtain⟨b,o,B,cx,rfl,hb,hat,hin⟩:=HS.out.chk hlt;have hdr:l.drop k=l[k]::l.drop (k+1):=List.drop_eq_getElem_cons hlt;have hlast:(l.take (k+1)).getLast?=some l[k]:=by rw[List.take_succ_eq_append_getElem hlt,List.getLast?_concat]
   obtain⟨x0,hx1⟩:∃x0,l[0]?=some x0:=⟨_,List.getElem?_eq_getElem (by omega)⟩;have hat1:∃D d,ChkAt w b o x0 D d:=by
    obtain⟨b',o',D,d,e,_,h1,_⟩:=HS.out.chk (i:=0) (by omega);injection e with e;injection e with e1 e2;subst e1 e2;rw[List.getElem?_eq_getElem (by omega)]at hx1;injection hx1 with hx1;rw[hx1]at h1;exact⟨D,d,by simpa using h1⟩
   obtain⟨D1,d1,hat1⟩:=hat1;have h3:k=0->l[k]=x0:=fun e=>by
    subst e;rw[List.getElem?_eq_getElem (by omega)]at hx1;injection hx1
   obtain⟨x,hx⟩:=eX (l[k]);rw[hx]at hdr hlast hat hin h3;rw[hdr]at HE;obtain⟨p,hp⟩:=eX ((l.take k).getLast?);rw[hp]at HE HQ;have HX1:=qH hx1;have HFOL:Hid (chkCheck x=0->(follows p x↔kin x0 x∧m<x.n)):=qH (fun hck=>by
    by_cases hk1:k=0
    ·have e1:p=none:=by rw[<-hp,hk1];simp
     have e2:=HM1.out hk1;have e3:=h3 hk1;obtain⟨⟨_,_,_,_,_,_,h1,_⟩,_⟩:=chkCheck_ok.1 hck;subst e1 e2 e3;exact⟨fun _=>⟨kin_refl _,by omega⟩,fun _ q e=>by cases e⟩
    obtain⟨q,hq⟩:∃q,p=some q:=by
     rw[<-hp,List.getLast?_take,if_neg hk1,List.getElem?_eq_getElem (by omega)];exact⟨_,rfl⟩
    obtain⟨g1,g2⟩:=HQ.out q hq;have g2:=g2 x0 hx1;subst hq g1;constructor
    ·intro h;obtain⟨h1,h2⟩:=h q rfl;exact⟨kin_trans g2 h1,h2⟩
    rintro⟨h1,h2⟩ z e;injection e with e;subst e;exact⟨kin_trans (kin_symm g2) h1,h2⟩)
   have HLAST:=qH hlast;have hat2:=hat.stays hb HB.out;have hat3:=hat1.stays hb HB.out;obtain⟨c5,c1,c2,c3,c4⟩:=hat2;obtain⟨y5,y1,y2,y3,y4⟩:=hat3;have HK:=qH (fun w=>refChkCheckX_calls B cx x w ⟨hin.i2,hin.i3⟩);have hblt:b<wr.heap.size:=by omega
   have dl:decide ((k:Int)<(l.length:Int))=true:=decide_eq_true (by omega);have hwk:IntKind.i64.wrap ((k:Int)+1)=(k:Int)+1:=IntWalk.i64_in _ (by omega);have hl1:¬(l.length:Int)<=0:=by omega
   have hne:¬l=[]:=fun e=>by rw[e]at hlt;simp at hlt
   clear hdr hlast hx hp hat hin hat1 h3 hx1 HM1 HQ;by_cases hck:chkCheck x≠0
   ·have hz:r=chkCheck x:=by rw[<-HE.out,listGo_bad hck]
    have q:(chkCheck x !=0)=true:=by simp[hck]
    have HZ:=qH hz;clear hck hz;go_wp2_with fail;refine(HK.out _).mono ?_;rintro e w1 ⟨rfl,hb1⟩;have HB1:Hid (Below w.heap.size w w1):=by
     exact x7ta
    clear hb1;exact x09a
   have hck:=Decidable.not_not.1 hck;have HCK:=qH hck;have HFO:=qH (HFOL.out hck);rw[hck]at HK;clear hck HFOL;go_wp2_with fail;refine(HK.out _).mono ?_;rintro e w1 ⟨rfl,hb1⟩;have a1:=kp (wr.heap.size) (chkA x.from_ x.to_ x.n x.of_ B x.data.length cx) hb1;have hbb:Below wr.heap.size wr w1:=by
    refine Below.trans ?_ (hb1.mono (by first|omega|(simp<;>omega)));exact x0rc
   have HB1:Hid (Below w.heap.size w w1):=qH (HB.out.trans (hbb.mono hsz));have y5:=(hbb.cell (p:=⟨b,o,none⟩) hblt).trans y5;have y1:=(hbb.cell (p:=⟨b,o+1,none⟩) hblt).trans y1;have y3:=(hbb.cell (p:=⟨b,o+3,none⟩) hblt).trans y3;have hs1:=HB1.out.size;have hs2:=hbb.size;have hbl1:b<w1.heap.size:=by omega
   clear hb1 hbb c5 c1 c2 c3 c4 y2 y4;go_upto_region 8 with fail
   obtain⟨v4,hv4⟩:∃v,(x.from_ !=x0.from_)=v:=⟨_,rfl⟩;obtain⟨v1,hv1⟩:∃v,(x.to_ !=x0.to_)=v:=⟨_,rfl⟩;obtain⟨v2,hv2⟩:∃v,(x.of_ !=x0.of_)=v:=⟨_,rfl⟩;obtain⟨v3,hv3⟩:∃v,decide (x.n<=m)=v:=⟨_,rfl⟩;have HV:Hid ((v4 || v1 || v2 || v3)=true↔¬(kin x0 x∧m<x.n)):=qH (by
    have hki:kin x0 x↔x0.from_=x.from_∧x0.to_=x.to_∧x0.of_=x.of_:=Iff.rfl;rw[hki,<-hv4,<-hv1,<-hv2,<-hv3];simp only[Bool.or_eq_true,bne_iff_ne,ne_eq,decide_eq_true_eq];omega)
   go_cut [48] (fun v wx=>v=.bool (v4 || v1 || v2 || v3)∧Hid (Below w1.heap.size w1 wx))
   case first=>
    clear hs1 hs2 hsz hbl1 HFO HV HE
    cases v4<;>cases v1<;>cases v2<;>cases v3<;>(
     go_quiet (fail)
     go_wp2_with fail;go_meet
     case rel=>exact⟨rfl,qH (below_drewN _ _)⟩)
   case rest=>
   obtain⟨rfl,hcb⟩:=hcut;have HB1:=bT HB1 hcb.out;have a1:=keep1 (g:=wr.heap.size) (cs:=chkA x.from_ x.to_ x.n x.of_ B x.data.length cx) hcb.out a1.1 (by go_simp) a1.2.1;clear hv4 hv1 hv2 hv3 hcb y5 y1 y3;by_cases hf:kin x0 x∧m<x.n
   ·have hv:(v4 || v1 || v2 || v3)=false:=Bool.eq_false_iff.2 fun e=>HV.out.1 e hf;have HKI:=qH hf.1;have HZ:Hid (listGo (some x) (l.drop (k+1))=r):=qH (by rw[<-HE.out,listGo_next HCK.out (HFO.out.2 hf)]);rw[hv];clear hf hv HV;go_wp2_with fail;go_roundw
    case rel=>exact⟨k+1,x.n,by omega,by go_num,rfl,qH (by rw[HLAST.out];exact HZ.out),qH (fun e=>by omega),qH (fun q e=>by rw[HLAST.out]at e;injection e with e;subst e;exact⟨rfl,fun z hz=>by rw[HX1.out]at hz;injection hz with hz;subst hz;exact HKI.out⟩),HB1⟩
    case measure=>simp[intOf];omega
   have hv:(v4 || v1 || v2 || v3)=true:=HV.out.2 hf;have HZ:Hid (r=3):=qH (by rw[<-HE.out,listGo_form HCK.out (by rw[HFO.out];exact hf)]);rw[hv];clear hf hv HV;exact x09a
  have hz:r=0:=by rw[<-HE.out,List.drop_of_length_le (by omega)];rfl
  exact x8vr
end Go.Proofs.YtefkfglkpebbmacGreat
