/- Walks of functions, and plain words. No conditions. -/
import Derived.Test.YtefkfglkpebbmadGreatP1
import Derived.Deep.DeepCutAuto
import Derived.Laws.EntriesVeiled
set_option linter.unusedVariables false
set_option linter.unusedSimpArgs false
set_option maxRecDepth 100000
set_option maxHeartbeats 40000000
namespace Go.Proofs.YtefkfglkpebbmadGreat
open Go.RowKit
variable {Y:Prop}
variable {x:Chk} {w:World}
theorem x2vi(h:Y:=by
 go_wp2_with fail;go_ret;exact⟨ret_int HE.out.symm,HB.out.alloc HB.out.size _⟩):Y:=h
theorem x558(h:Y:=by
 clear hb;go_wp2_with fail;go_ret;exact⟨ret_int HE.out.symm,bL _⟩):Y:=h
theorem x59h(h:Y:=by
 have _u:=hy;have HC:=qH (HE.out.trans (if_pos (by rw[H1.out];simp[ht]<;>omega)));clear H1 HE;go_wp2_with fail;go_ret;exact⟨ret_int HC.out.symm,Below.drewN' HB.out _⟩):Y:=h
theorem x6wi(h:Y:=by
 clear H1 HE;go_wp2_with fail;go_ret;exact⟨ret_int HC.out.symm,Below.drewN' HB.out _⟩):Y:=h
theorem x76h(h:Y:=by
 clear hv;go_wp2_with fail;go_roundw
 case rel=>exact⟨1,by omega,rfl,HB.out.alloc HB.out.size _,by rw[rowOf_alloc,if_neg (by omega),HW.out],fun _=>HO.out,by omega⟩
 case measure=>simp[intOf]<;>omega):Y:=h
theorem x9v4(h:Y:=by
 clear hv;go_wp2_with fail;go_roundw
 case rel=>exact⟨2,by omega,rfl,HB.out.alloc HB.out.size _,by rw[rowOf_alloc,if_neg (by omega),HW.out],fun _=>HA.out,fun _=>HO.out⟩
 case measure=>simp[intOf]<;>omega):Y:=h
def within(n a b:Int):Bool:=decide (a<=n)&&decide (n<=b)
theorem in_calls(n a b:Int)(w:World):Calls Tryz.prog 44 #[iv n,iv a,iv b] w (Ret w (.bool (within n a b))):=by
 go_enter Tryz.func44,Tryz.ntmps44;by_cases h:a<=n
 ·go_wp2_with fail;go_ret;exact⟨ret_bool (by unfold within;rw[decide_eq_true h];rfl),rfl⟩
 go_wp2_with fail;go_ret;exact⟨ret_bool (by unfold within;rw[decide_eq_false (by omega)];rfl),rfl⟩
def infsA(x y:Inf):Array Value:=#[iv x.ver,iv x.size,iv x.sum,iv y.ver,iv y.size,iv y.sum]
@[go_sem] theorem recA_ex5_11(r:Rec):(recA r).extract 5 11=infsA r.a r.b:=by simp[recA,infsA]
def rangeB(r:Rec):Bool:=within r.gen 1 1000000&&within r.active 0 1&&within r.tries 0 3&&within r.floor 1 30
def infB(x:Inf):Bool:=within x.ver 0 30&&within x.size 0 64&&within x.sum 0 65535
theorem rangeB_iff(r:Rec):rangeB r=true↔RangeOk r:=by
 unfold rangeB within RangeOk;simp[and_assoc]
theorem infB_iff(x:Inf):infB x=true↔InfRange x:=by
 unfold infB within InfRange;simp[and_assoc]
theorem recCheck_sum{r:Rec}(h:RangeOk r)(ha:infCheck r.a=0)(hb:infCheck r.b=0):recCheck r=if FormOk r then 0 else 3:=by
 unfold recCheck;rw[if_pos h,if_pos ha,if_pos hb]
theorem refRecCheck_bad(r:Rec)(w:World)(h:¬RangeOk r):Calls Tryz.prog 54 #[.agg (recA r)] w (RetB w (iv (recCheck r))):=by
 have hE:recCheck r=2:=recCheck_bad h;have hb:rangeB r=false:=by rw[<-Bool.not_eq_true,rangeB_iff];exact h
 have HE:=qH hE;clear h hE;unfold rangeB at hb;go_enter Tryz.func54,Tryz.ntmps54;go_wp2_with fail;refine(in_calls _ _ _ _).mono ?_;rintro e w4 ⟨rfl,rfl⟩
 cases h0:within r.gen 1 1000000
 ·exact x558
 have _u:=hb;clear _u;go_wp2_with fail;refine(in_calls _ _ _ _).mono ?_;rintro e w1 ⟨rfl,rfl⟩
 cases h1:within r.active 0 1
 ·exact x558
 have _u:=hb;clear _u;go_wp2_with fail;refine(in_calls _ _ _ _).mono ?_;rintro e w1 ⟨rfl,rfl⟩
 cases h2:within r.tries 0 3
 ·exact x558
 have _u:=hb;clear _u;go_wp2_with fail;refine(in_calls _ _ _ _).mono ?_;rintro e w1 ⟨rfl,rfl⟩
 cases h3:within r.floor 1 30
 ·exact x558
 simp[h0,h1,h2,h3]at hb
theorem refRecCheck_ok(r:Rec)(w:World)(h:RangeOk r):Calls Tryz.prog 54 #[.agg (recA r)] w (RetB w (iv (recCheck r))):=by
 have i2:∀w,(Instr.index 27 (.agg (infsA r.a r.b)) (iv 0)).run Tryz.prog w=.ok (.agg (infA r.a)) w:=fun _=>by kernel_rfl
 have i1:∀w,(Instr.index 27 (.agg (infsA r.a r.b)) (iv 1)).run Tryz.prog w=.ok (.agg (infA r.b)) w:=fun _=>by kernel_rfl
 have HR:=qH h;have hb:rangeB r=true:=(rangeB_iff r).2 h;unfold rangeB at hb;simp only[Bool.and_eq_true]at hb;obtain⟨⟨⟨h4,h1⟩,h2⟩,h3⟩:=hb;clear h;go_enter Tryz.func54,Tryz.ntmps54;go_wp2_with fail;refine(in_calls _ _ _ _).mono ?_;rintro e w4 ⟨rfl,rfl⟩;go_wp2_with fail;refine(in_calls _ _ _ _).mono ?_;rintro e w1 ⟨rfl,rfl⟩;go_wp2_with fail;refine(in_calls _ _ _ _).mono ?_;rintro e w1 ⟨rfl,rfl⟩;go_wp2_with fail;refine(in_calls _ _ _ _).mono ?_;rintro e w1 ⟨rfl,rfl⟩;go_wp2_with fail;clear h4 h1 h2 h3;go_loopw [31] (fun i wr=>∃k:Nat,k<=2∧i=iv k∧Below w.heap.size w wr∧rowOf wr w.heap.size=recA r∧(0<k->infCheck r.a=0)∧(1<k->infCheck r.b=0)) (fun i _=>(2-intOf i).toNat)
 case atStart=>exact⟨0,by omega,rfl,bL _,by rw[rowOf_alloc,if_pos rfl],by omega,by omega⟩
 case round=>
  obtain⟨k,hk,rfl,hB,hrow,ha,hb⟩:=hrel;have HB:=qH hB;have HW:=qH hrow;have hp:0<(rowOf wr w.heap.size).size:=by rw[hrow,recA_size];decide
  have hlw:=row_lt hp;have hs:=hB.size;clear hrow hB;by_cases hlt:k<2
  ·rcases (show k=0∨k=1 by omega)with rfl|rfl
   ·have _u:=ha;clear _u ha hb;clear hp;by_cases hi:InfRange r.a
    ·have HI:=qH hi;have hb:=(infB_iff r.a).2 hi;unfold infB at hb;simp only[Bool.and_eq_true]at hb;obtain⟨⟨g3,g1⟩,g2⟩:=hb;have hi1:=hi.2.2.1;have hi1:=hi.2.2.2.2.1;clear hi;go_wp2_with fail;refine(in_calls _ _ _ _).mono ?_;rintro e v3 ⟨rfl,rfl⟩;go_wp2_with fail;refine(in_calls _ _ _ _).mono ?_;rintro e v1 ⟨rfl,rfl⟩;go_wp2_with fail;refine(in_calls _ _ _ _).mono ?_;rintro e v1 ⟨rfl,rfl⟩;by_cases hv:r.a.ver=0
     ·have hv':(r.a.ver==0)=true:=by simp[hv]
      by_cases hz:0<r.a.size
      ·have HE:=qH (recCheck_a HR.out (infCheck_form HI.out hv (by omega)) (by omega));clear hv;exact x2vi
      by_cases hy:0<r.a.sum
      ·have HE:=qH (recCheck_a HR.out (infCheck_form HI.out hv (by omega)) (by omega));clear hv;exact x2vi
      have HO:=qH (infCheck_ok HI.out (fun _=>(by omega:r.a.size=0∧r.a.sum=0)));exact x76h
     have hv':(r.a.ver==0)=false:=by simp[hv]
     have HO:=qH (infCheck_ok HI.out (fun q=>absurd q hv));exact x76h
    have HE:=qH (recCheck_a HR.out (infCheck_bad hi) (by omega));have hb:infB r.a=false:=by rw[<-Bool.not_eq_true,infB_iff];exact hi
    unfold infB at hb;clear hi;go_wp2_with fail;refine(in_calls _ _ _ _).mono ?_;rintro e v3 ⟨rfl,rfl⟩
    cases g0:within r.a.ver 0 30
    ·clear hb;exact x2vi
    have _u:=hb;clear _u;go_wp2_with fail;refine(in_calls _ _ _ _).mono ?_;rintro e v1 ⟨rfl,rfl⟩
    cases g1:within r.a.size 0 64
    ·clear hb;exact x2vi
    have _u:=hb;clear _u;go_wp2_with fail;refine(in_calls _ _ _ _).mono ?_;rintro e v1 ⟨rfl,rfl⟩
    cases g2:within r.a.sum 0 65535
    ·clear hb;exact x2vi
    simp[g0,g1,g2]at hb
   ·have HA:=qH (ha (by omega));clear ha hb;clear hp;by_cases hi:InfRange r.b
    ·have HI:=qH hi;have hb:=(infB_iff r.b).2 hi;unfold infB at hb;simp only[Bool.and_eq_true]at hb;obtain⟨⟨g3,g1⟩,g2⟩:=hb;have hi1:=hi.2.2.1;have hi1:=hi.2.2.2.2.1;clear hi;go_wp2_with fail;refine(in_calls _ _ _ _).mono ?_;rintro e v3 ⟨rfl,rfl⟩;go_wp2_with fail;refine(in_calls _ _ _ _).mono ?_;rintro e v1 ⟨rfl,rfl⟩;go_wp2_with fail;refine(in_calls _ _ _ _).mono ?_;rintro e v1 ⟨rfl,rfl⟩;by_cases hv:r.b.ver=0
     ·have hv':(r.b.ver==0)=true:=by simp[hv]
      by_cases hz:0<r.b.size
      ·have HE:=qH (recCheck_b HR.out HA.out (infCheck_form HI.out hv (by omega)) (by omega));clear hv;exact x2vi
      by_cases hy:0<r.b.sum
      ·have HE:=qH (recCheck_b HR.out HA.out (infCheck_form HI.out hv (by omega)) (by omega));clear hv;exact x2vi
      have HO:=qH (infCheck_ok HI.out (fun _=>(by omega:r.b.size=0∧r.b.sum=0)));exact x9v4
     have hv':(r.b.ver==0)=false:=by simp[hv]
     have HO:=qH (infCheck_ok HI.out (fun q=>absurd q hv));exact x9v4
    have HE:=qH (recCheck_b HR.out HA.out (infCheck_bad hi) (by omega));have hb:infB r.b=false:=by rw[<-Bool.not_eq_true,infB_iff];exact hi
    unfold infB at hb;clear hi;go_wp2_with fail;refine(in_calls _ _ _ _).mono ?_;rintro e v3 ⟨rfl,rfl⟩
    cases g0:within r.b.ver 0 30
    ·clear hb;exact x2vi
    have _u:=hb;clear _u;go_wp2_with fail;refine(in_calls _ _ _ _).mono ?_;rintro e v1 ⟨rfl,rfl⟩
    cases g1:within r.b.size 0 64
    ·clear hb;exact x2vi
    have _u:=hb;clear _u;go_wp2_with fail;refine(in_calls _ _ _ _).mono ?_;rintro e v1 ⟨rfl,rfl⟩
    cases g2:within r.b.sum 0 65535
    ·clear hb;exact x2vi
    simp[g0,g1,g2]at hb
  obtain rfl:k=2:=by omega
  have HE:=qH (recCheck_sum HR.out (ha (by omega)) (hb (by omega)));have hr:=HR.out;obtain⟨c1,f1⟩:(∀j,wr.cell? ⟨w.heap.size,j,none⟩=(recA r)[j]?)∧rowOf wr w.heap.size=recA r:=⟨fun j=>by rw[cell_row hp,HW.out],HW.out⟩;have hfl:=hr.2.2.2.2.2.2.1;have hfm:=hr.2.2.2.2.2.2.2;have htr:=hr.2.2.2.2.1;have hts:=hr.2.2.2.2.2.1;have hk1:r.active=0∨r.active=1:=by have:=hr.2.2.1;have:=hr.2.2.2.1;omega
  clear ha hb hp hr;have hF:FormOk r=((r.at_ r.active).ver≠0∧(r.trying=true->(r.at_ (1-r.active)).ver≠0∧r.floor<=(r.at_ (1-r.active)).ver)∧(r.trying=false->r.tries=0)∧r.floor<=(r.at_ r.active).ver):=rfl;have HF:=qH hF;clear hF;rcases hk1 with hk1|hk1
  ·have H1:Hid (FormOk r=(r.a.ver≠0∧(r.trying=true->r.b.ver≠0∧r.floor<=r.b.ver)∧(r.trying=false->r.tries=0)∧r.floor<=r.a.ver)):=qH (HF.out.trans (by simp[Rec.at_,hk1]));clear HF;go_wp2_with fail;go_quiet (fail)
   by_cases hn:r.a.ver<r.floor
   ·cases ht:r.trying;all_goals (
     have HC:=qH (HE.out.trans (if_neg (by rw[H1.out];simp[ht]<;>omega)));exact x6wi)
   cases ht:r.trying
   ·by_cases hy:0<r.tries
    ·have _u:=hy;have HC:=qH (HE.out.trans (if_neg (by rw[H1.out];simp[ht]<;>omega)));exact x6wi
    ·exact x59h
   by_cases hm:r.b.ver<r.floor
   ·have _u:=hm;have HC:=qH (HE.out.trans (if_neg (by rw[H1.out];simp[ht]<;>omega)));exact x6wi
   by_cases hy:0<r.tries
   ·exact x59h
   exact x59h
  have H1:Hid (FormOk r=(r.b.ver≠0∧(r.trying=true->r.a.ver≠0∧r.floor<=r.a.ver)∧(r.trying=false->r.tries=0)∧r.floor<=r.b.ver)):=qH (HF.out.trans (by simp[Rec.at_,hk1]));clear HF;go_wp2_with fail;go_quiet (fail)
  by_cases hn:r.b.ver<r.floor
  ·cases ht:r.trying;all_goals (
    have HC:=qH (HE.out.trans (if_neg (by rw[H1.out];simp[ht]<;>omega)));exact x6wi)
  cases ht:r.trying
  ·by_cases hy:0<r.tries
   ·have _u:=hy;have HC:=qH (HE.out.trans (if_neg (by rw[H1.out];simp[ht]<;>omega)));exact x6wi
   ·exact x59h
  by_cases hm:r.a.ver<r.floor
  ·have _u:=hm;have HC:=qH (HE.out.trans (if_neg (by rw[H1.out];simp[ht]<;>omega)));exact x6wi
  by_cases hy:0<r.tries
  ·exact x59h
  exact x59h
theorem refRecCheck_calls(r:Rec)(w:World):Calls Tryz.prog 54 #[.agg (recA r)] w (RetB w (iv (recCheck r))):=by
 by_cases h:RangeOk r
 ·exact refRecCheck_ok r w h
 exact refRecCheck_bad r w h
theorem x6wa(h:Y:=by
 clear hz;go_wp2_with fail;go_ret;exact⟨ret_int HE.out.symm,HB1.out⟩):Y:=h
theorem x8wo(h:Y:=by
 clear h1;go_wp2_with fail;go_ret;exact⟨ret_int HE.out.symm,HB.out⟩):Y:=h
def wholes(c d:Cop)(k:Nat):Int:=(if 0<k∧c.ok=true then 1 else 0)+(if 1<k∧d.ok=true then 1 else 0)
theorem wholes_bound(c d:Cop)(k:Nat):0<=wholes c d k∧wholes c d k<=2:=by unfold wholes;split<;>split<;>omega
theorem wholes_0(c d:Cop):wholes c d 0=0:=by simp[wholes]
theorem wholes_1t(c d:Cop)(h:c.ok=true):wholes c d 1=wholes c d 0+1:=by simp[wholes,h]
theorem wholes_1f(c d:Cop)(h:c.ok=false):wholes c d 1=wholes c d 0:=by simp[wholes,h]
theorem wholes_2t(c d:Cop)(h:d.ok=true):wholes c d 2=wholes c d 1+1:=by simp[wholes,h]
theorem wholes_2f(c d:Cop)(h:d.ok=false):wholes c d 2=wholes c d 1:=by simp[wholes,h]
theorem wholes_z(c d:Cop):wholes c d 2=0↔(c.ok=false∧d.ok=false):=by cases hc:c.ok<;>cases hd:d.ok<;>simp[wholes,hc,hd]
theorem refCopies_calls(c d:Cop)(w:World):Calls Tryz.prog 47 #[.agg (copsA c d)] w (RetB w (iv (copCheck c d))):=by
 have i2:∀w,(Instr.index 32 (.agg (copsA c d)) (iv 0)).run Tryz.prog w=.ok (.agg (copA c)) w:=fun _=>by kernel_rfl
 have i1:∀w,(Instr.index 32 (.agg (copsA c d)) (iv 1)).run Tryz.prog w=.ok (.agg (copA d)) w:=fun _=>by kernel_rfl
 go_enter Tryz.func47,Tryz.ntmps47;go_wp2_with fail;go_loopw [8,3] (fun i n wr=>∃k:Nat,k<=2∧i=iv k∧n=iv (wholes c d k)∧Below w.heap.size w wr∧rowOf wr w.heap.size=copsA c d∧(0<k->copOne c=0)∧(1<k->copOne d=0)) (fun i _ _=>(2-intOf i).toNat)
 case atStart=>exact⟨0,by omega,rfl,by rw[wholes_0],bL _,by rw[rowOf_alloc,if_pos rfl],by omega,by omega⟩
 case round=>
  obtain⟨k,hk,rfl,rfl,hB,hrow,ha,hb⟩:=hrel;have HB:=qH hB;have HR:=qH hrow;have hp:0<(rowOf wr w.heap.size).size:=by rw[hrow,copsA_size];decide
  have hlw:=row_lt hp;have hs:=hB.size;have hfr:True:=trivial;clear hrow hB;obtain⟨m,hm⟩:=eX (wholes c d k);have hm1:0<=m:=by rw[<-hm];exact(wholes_bound c d k).1
  have hm1:m<=2:=by rw[<-hm];exact(wholes_bound c d k).2
  have HM:=qH hm;rw[hm];clear hm;by_cases hlt:k<2
  ·rcases (show k=0∨k=1 by omega)with rfl|rfl
   ·have _u:=ha;clear _u ha hb hp;go_wp2_with fail;refine(refRecCheck_calls c.r _).mono ?_;rintro e w1 ⟨rfl,hb1⟩;have hB1:=(HB.out.alloc HB.out.size (.cells (copA c) 31)).trans (hb1.mono (by simp;omega));have hrow1:rowOf w1 w.heap.size=copsA c d:=by rw[rowOf_below (by simp;omega) hb1,rowOf_alloc,if_neg (by omega),HR.out]
    have r1:=keep1 (g:=wr.heap.size) (cs:=copA c) hb1 (by go_simp) (by go_simp) (by go_simp);have HB1:=qH hB1;have HR1:=qH hrow1;clear hb1 hB1 hrow1
    cases hok:c.ok
    ·by_cases hz:c.r=Rec.zero
     ·have HO:=qH (copOne_lost0 hok hz);have hd:decide (c.r=Rec.zero)=true:=decide_eq_true hz;clear hz;go_wp2_with fail;go_roundw
      case rel=>exact⟨1,by omega,rfl,by rw[wholes_1f c d hok,HM.out],HB1.out,HR1.out,fun _=>HO.out,by omega⟩
      case measure=>simp[intOf]<;>omega
     ·have HE:=qH (copCheck_1 (d:=d) (copOne_lost3 hok hz) (by omega));have hd:decide (c.r=Rec.zero)=false:=decide_eq_false hz;exact x6wa
    have HO1:=qH (copOne_ok hok);by_cases hz:recCheck c.r=0
    ·have HO:=qH (HO1.out.trans hz);have hz':(recCheck c.r !=0)=false:=by simp[hz]
     clear hz;go_wp2_with fail;go_roundw
     case rel=>exact⟨1,by omega,rfl,by rw[wholes_1t c d hok,HM.out],HB1.out,HR1.out,fun _=>HO.out,by omega⟩
     case measure=>simp[intOf]<;>omega
    have HE:=qH (copCheck_1 (d:=d) HO1.out hz);have hz':(recCheck c.r !=0)=true:=by simp[hz]
    exact x6wa
   ·have HA:=qH (ha (by omega));clear ha hb hp;go_wp2_with fail;refine(refRecCheck_calls d.r _).mono ?_;rintro e w1 ⟨rfl,hb1⟩;have hB1:=(HB.out.alloc HB.out.size (.cells (copA d) 31)).trans (hb1.mono (by simp;omega));have hrow1:rowOf w1 w.heap.size=copsA c d:=by rw[rowOf_below (by simp;omega) hb1,rowOf_alloc,if_neg (by omega),HR.out]
    have r1:=keep1 (g:=wr.heap.size) (cs:=copA d) hb1 (by go_simp) (by go_simp) (by go_simp);have HB1:=qH hB1;have HR1:=qH hrow1;clear hb1 hB1 hrow1
    cases hok:d.ok
    ·by_cases hz:d.r=Rec.zero
     ·have HO:=qH (copOne_lost0 hok hz);have hd:decide (d.r=Rec.zero)=true:=decide_eq_true hz;clear hz;go_wp2_with fail;go_roundw
      case rel=>exact⟨2,by omega,rfl,by rw[wholes_2f c d hok,HM.out],HB1.out,HR1.out,fun _=>HA.out,fun _=>HO.out⟩
      case measure=>simp[intOf]<;>omega
     ·have HE:=qH (copCheck_2 HA.out (copOne_lost3 hok hz) (by omega));have hd:decide (d.r=Rec.zero)=false:=decide_eq_false hz;exact x6wa
    have HO1:=qH (copOne_ok hok);by_cases hz:recCheck d.r=0
    ·have HO:=qH (HO1.out.trans hz);have hz':(recCheck d.r !=0)=false:=by simp[hz]
     clear hz;go_wp2_with fail;go_roundw
     case rel=>exact⟨2,by omega,rfl,by rw[wholes_2t c d hok,HM.out],HB1.out,HR1.out,fun _=>HA.out,fun _=>HO.out⟩
     case measure=>simp[intOf]<;>omega
    have HE:=qH (copCheck_2 HA.out HO1.out hz);have hz':(recCheck d.r !=0)=true:=by simp[hz]
    exact x6wa
  obtain rfl:k=2:=by omega
  have HF:=qH (copCheck_3 (ha (by omega)) (hb (by omega)));clear ha hb hp;by_cases h1:m=0
  ·have HE:=qH (HF.out.trans (if_pos ((wholes_z c d).1 (HM.out.trans h1))));have h0':(m==0)=true:=by simp[h1]
   exact x8wo
  have HE:=qH (HF.out.trans (if_neg (fun q=>h1 (HM.out.symm.trans ((wholes_z c d).2 q)))));have h0':(m==0)=false:=by simp[h1]
  exact x8wo
theorem x8gx(h:Y:=by
 go_wp2_with fail;go_region
 all_goals go_wp2_with fail
 all_goals (
  refine bodyPost_ret (results_tc rfl rfl (cs:=recA {r with trying:=false}) (by go_simp) (by go_simp) (by go_simp)) rfl ⟨by rw[HE.out];rfl,?_⟩;repeat (first|exact Below.refl _ _|refine bR ?_ _|refine bC ?_ _|refine bA ?_ _|refine Below.drew ?_))):Y:=h
theorem x9n9(h:Y:=by
 go_wp2_with fail;go_ret;exact⟨ret_int HE.out.symm,rfl⟩):Y:=h
def genOf(c:Cop):Int:=if c.ok=true then c.r.gen else 0
def refNewest(c d:Cop):Rec×Int:=if genOf c<genOf d then (d.r,1)else (c.r,0)
theorem refNewest_ok{c d:Cop}(h:copCheck c d=0):refNewest c d=recRead c d:=by
 obtain⟨h1,h2,h3⟩:=copCheck_ok h;unfold refNewest recRead newer genOf
 cases hc:c.ok
 ·cases hd:d.ok
  ·exact absurd ⟨hc,hd⟩ h3
  ·rw[copOne_ok hd]at h2;have:=(recCheck_range0 h2).1;simp;omega
 cases hd:d.ok
 ·rw[copOne_ok hc]at h1;have:=(recCheck_range0 h1).1;simp;omega
 simp
theorem gen0_calls(c d:Cop)(g:Nat)(w:World)(hr:rowOf w g=copsA c d):Calls Tryz.prog 22 #[iv 0,.pointer (some ⟨g,0,none⟩)] w (Ret w (iv (genOf c))):=by
 have hp:0<(rowOf w g).size:=by rw[hr,copsA_size];decide
 have hc:∀j,w.cell? ⟨g,j,none⟩=(copsA c d)[j]?:=fun j=>by rw[cell_row hp,hr]
 have hl:=row_lt hp;clear hp;go_enter Tryz.func22,Tryz.ntmps22
 cases hok:c.ok
 ·have HE:Hid (genOf c=0):=qH (by unfold genOf;rw[hok];rfl);exact x9n9
 have HE:Hid (genOf c=c.r.gen):=qH (by unfold genOf;rw[hok];rfl);exact x9n9
theorem gen1_calls(c d:Cop)(g:Nat)(w:World)(hr:rowOf w g=copsA c d):Calls Tryz.prog 22 #[iv 1,.pointer (some ⟨g,0,none⟩)] w (Ret w (iv (genOf d))):=by
 have hp:0<(rowOf w g).size:=by rw[hr,copsA_size];decide
 have hc:∀j,w.cell? ⟨g,j,none⟩=(copsA c d)[j]?:=fun j=>by rw[cell_row hp,hr]
 have hl:=row_lt hp;clear hp;go_enter Tryz.func22,Tryz.ntmps22
 cases hok:d.ok
 ·have HE:Hid (genOf d=0):=qH (by unfold genOf;rw[hok];rfl);exact x9n9
 have HE:Hid (genOf d=d.r.gen):=qH (by unfold genOf;rw[hok];rfl);exact x9n9
theorem newest_calls(c d:Cop)(w:World):Calls Tryz.prog 8 #[.agg (copsA c d)] w (RetB w (.tuple #[.agg (recA (refNewest c d).1),iv (refNewest c d).2])):=by
 go_enter Tryz.func8,Tryz.ntmps8;go_wp2_with fail;refine(gen1_calls c d _ _ (by go_simp)).mono ?_;rintro e w1 ⟨rfl,rfl⟩;go_wp2_with fail;refine(gen0_calls c d _ _ (by go_simp)).mono ?_;rintro e w1 ⟨rfl,rfl⟩;by_cases h:genOf c<genOf d
 ·have HE:Hid (refNewest c d=(d.r,1)):=qH (if_pos h);have hB:=((bW w).alloc nl (.cells (copsA c d) 32)).alloc (by simp) (.cells (recA d.r) 29);have HB:=qH hB;clear hB;go_wp2_with fail;refine bodyPost_ret (rC (recA d.r)) rfl ⟨by rw[HE.out];rfl,HB.out⟩
 have HE:Hid (refNewest c d=(c.r,0)):=qH (if_neg h);have hB:=((bW w).alloc nl (.cells (copsA c d) 32)).alloc (by simp) (.cells (recA c.r) 29);have HB:=qH hB;clear hB;go_wp2_with fail;refine bodyPost_ret (rC (recA c.r)) rfl ⟨by rw[HE.out];rfl,HB.out⟩
def refStart(r:Rec):Int×Rec:=
 if r.trying=true∧0<r.tries then (1-r.active,{r with tries:=r.tries-1})else (r.active,{r with trying:=false})
theorem refStart_ok{r:Rec}(h:recCheck r=0):recStart r=((refStart r).1,(refStart r).2,0):=by
 have hr:=(recCheck_range0 h).2.2.2.2.1;unfold recStart refStart;rw[if_pos h]
 cases ht:r.trying
 ·simp
  cases r;simp_all
 by_cases h1:r.tries=0
 ·simp[h1]
 simp[h1,show 0<r.tries by omega]
theorem started_calls(r:Rec)(w:World)(ha:0<=r.active∧r.active<=1)(ht:0<=r.tries∧r.tries<=3):Calls Tryz.prog 34 #[.agg (recA r)] w (RetB w (.tuple #[iv (refStart r).1,.agg (recA (refStart r).2)])):=by
 obtain⟨ha1,ha2⟩:=ha;obtain⟨ht1,ht2⟩:=ht;go_enter Tryz.func34,Tryz.ntmps34;have HB:=qH (((bW w).alloc nl (.cells (recA r) 29)).alloc (by simp) (.cells (recA Rec.zero) 29))
 cases hy:r.trying
 ·have HE:Hid (refStart r=(r.active,{r with trying:=false})):=qH (by unfold refStart;rw[if_neg (by simp[hy])]);exact x8gx
 by_cases h1:0<r.tries
 ·have HE:Hid (refStart r=(1-r.active,{r with tries:=r.tries-1})):=qH (by unfold refStart;rw[if_pos ⟨hy,h1⟩]);go_wp2_with fail;go_region
  all_goals go_wp2_with fail
  all_goals (
   refine bodyPost_ret (results_tc rfl rfl (cs:=recA {r with tries:=r.tries-1}) (by go_simp) (by go_simp) (by go_simp)) rfl ⟨by rw[HE.out];rfl,?_⟩;repeat (first|exact Below.refl _ _|refine bR ?_ _|refine bC ?_ _|refine bA ?_ _|refine Below.drew ?_))
 have HE:Hid (refStart r=(r.active,{r with trying:=false})):=qH (by unfold refStart;rw[if_neg (by simp[h1])]);exact x8gx
theorem big_cops'(n:Nat)(h:0<n):bigBuild Tryz.prog 32 n:=by
 obtain⟨i,hi,_⟩:=info_parts (P:=Tryz.prog) (e:=32) (z:=.agg (copsA Cop.zero Cop.zero)) (size:=24) (bytes:=192) (by kernel_rfl);exact⟨i,hi,h⟩
@[go_sem] theorem big_cops2:bigBuild Tryz.prog 32 2:=big_cops' 2 (by decide)
@[go_sem] theorem build_inf1(a:Int)(w:World):runBuild Tryz.prog 26 #[(0,iv a)] w=.ok (.agg (infA ⟨a,0,0⟩)) w:=by kernel_rfl
@[go_sem] theorem build_infs1(x:Inf)(w:World):runBuild Tryz.prog 27 #[(0,.agg (infA x))] w=.ok (.agg (infsA x Inf.zero)) w:=by kernel_rfl
@[go_sem] theorem build_infs2(x y:Inf)(w:World):runBuild Tryz.prog 27 #[(0,.agg (infA x)),(1,.agg (infA y))] w=.ok (.agg (infsA x y)) w:=by kernel_rfl
@[go_sem] theorem build_rec3(g f:Int)(x y:Inf)(w:World):runBuild Tryz.prog 29 #[(0,iv g),(4,iv f),(5,.agg (infsA x y))] w=.ok (.agg (recA ⟨g,0,false,0,f,x,y⟩)) w:=by kernel_rfl
@[go_sem] theorem build_rec4(g k f:Int)(x y:Inf)(w:World):runBuild Tryz.prog 29 #[(0,iv g),(1,iv k),(4,iv f),(5,.agg (infsA x y))] w=.ok (.agg (recA ⟨g,k,false,0,f,x,y⟩)) w:=by kernel_rfl
@[go_sem] theorem build_cops1(c:Cop)(w:World):runBuild Tryz.prog 32 #[(0,.agg (copA c))] w=.ok (.agg (copsA c Cop.zero)) w:=by kernel_rfl
@[go_sem] theorem build_cops2(c d:Cop)(w:World):runBuild Tryz.prog 32 #[(0,.agg (copA c)),(1,.agg (copA d))] w=.ok (.agg (copsA c d)) w:=by kernel_rfl
theorem written_calls(c d:Cop)(r:Rec)(torn:Bool)(w:World)(h:copCheck c d=0):Calls Tryz.prog 25 #[.agg (copsA c d),.agg (recA r),.bool torn] w
  (RetB w (.tuple #[.agg (copsA (recWrite c d r torn).1.1 (recWrite c d r torn).1.2),iv (recWrite c d r torn).2])):=by
 have hrg:=recCheck_range0 (recRead_ok h);have hk:(recRead c d).2=0∨(recRead c d).2=1:=by unfold recRead;split<;>simp
 have hw:recWrite c d r torn=if recCheck {r with gen:=(recRead c d).1.gen+1}=0 then (recPut c d r torn,0)else ((Cop.zero,Cop.zero),recCheck {r with gen:=(recRead c d).1.gen+1}):=by unfold recWrite;rw[if_pos h]
 have hp:recPut c d r torn=if (recRead c d).2=0 then (c,if torn=true then Cop.zero else ⟨true,{r with gen:=(recRead c d).1.gen+1}⟩)else (if torn=true then Cop.zero else ⟨true,{r with gen:=(recRead c d).1.gen+1}⟩,d):=rfl
 have hread:=newest_calls c d;rw[refNewest_ok h]at hread;generalize recRead c d=q at *
 obtain⟨was,k⟩:=q;simp only at hk hw hp hread hrg;have HW:=qH hw;have HP:=qH hp;have HRd:=qH hread;have hg1:=hrg.1;have hg1:=hrg.2.1;clear hw hp hread hrg h;go_enter Tryz.func25,Tryz.ntmps25;go_wp2_with fail;refine(HRd.out _).mono ?_;rintro e w1 ⟨rfl,hb1⟩;have r3:=keep1 (g:=w.heap.size) (cs:=copsA c d) hb1 (by go_simp) (by go_simp) (by go_simp);have r1:=keep1 (g:=w.heap.size+1) (cs:=recA r) hb1 (by go_simp) (by go_simp) (by go_simp);have r2:=keep1 (g:=w.heap.size+1+1) (cs:=copsA Cop.zero Cop.zero) hb1 (by go_simp) (by go_simp) (by go_simp);have HB:=qH ((((bL _).alloc (by simp) _).alloc (by simp;omega) _).trans (hb1.mono (B':=w.heap.size) (by simp;omega)));clear hb1;go_wp2_with fail;refine(refRecCheck_calls {r with gen:=was.gen+1} _).mono ?_;rintro e w1 ⟨rfl,hb1⟩;have r4:=keep1 (g:=w.heap.size) (cs:=copsA c d) hb1 (by go_simp) (by go_simp) (by go_simp);have r4:=keep1 (g:=w.heap.size+1) (cs:=recA {r with gen:=was.gen+1}) hb1 (by go_simp) (by go_simp) (by go_simp);have r4:=keep1 (g:=w.heap.size+1+1) (cs:=copsA Cop.zero Cop.zero) hb1 (by go_simp) (by go_simp) (by go_simp);have hs:=HB.out.size;have HB1:Hid (Below w.heap.size w w1):=((HB.out.setCell (p:=⟨w.heap.size+1,0,none⟩) (by simp) (iv (was.gen+1))).alloc (by simp;omega) (.cells (recA was) 29)).trans (hb1.mono (by simp;omega));have hs1:=HB1.out.size;clear hb1 r3 r1 r2 hs;by_cases hz:recCheck {r with gen:=was.gen+1}=0
 ·have hz':(recCheck {r with gen:=was.gen+1} !=0)=false:=by simp[hz]
  have HE:=qH (HW.out.trans (if_pos hz));clear hz HW;rcases hk with rfl|rfl
  ·have HP1:=qH (HP.out.trans (if_pos rfl))
   cases torn
   ·go_wp2_with fail;refine bodyPost_ret (rC (copsA c ⟨true,{r with gen:=was.gen+1}⟩)) rfl ⟨by rw[HE.out,HP1.out];rfl,?_⟩;exact x0ap
   go_wp2_with fail;refine bodyPost_ret (rC (copsA c Cop.zero)) rfl ⟨by rw[HE.out,HP1.out];rfl,?_⟩;exact x0ap
  have HP1:=qH (HP.out.trans (if_neg (by decide)))
  cases torn
  ·go_wp2_with fail;refine bodyPost_ret (rC (copsA ⟨true,{r with gen:=was.gen+1}⟩ d)) rfl ⟨by rw[HE.out,HP1.out];rfl,?_⟩;exact x0ap
  go_wp2_with fail;refine bodyPost_ret (rC (copsA Cop.zero d)) rfl ⟨by rw[HE.out,HP1.out];rfl,?_⟩;exact x0ap
 have hz':(recCheck {r with gen:=was.gen+1} !=0)=true:=by simp[hz]
 have HE:=qH (HW.out.trans (if_neg hz));clear hz HW HP hk;go_wp2_with fail;refine bodyPost_ret (rC (copsA Cop.zero Cop.zero)) rfl ⟨by rw[HE.out];rfl,?_⟩;exact x0ap
def chkA(f t n o:Int)(A:OA)(k c:Nat):Array Value:=#[iv f,iv t,iv n,iv o,.slice A k c]
@[go_sem] theorem chkA_size(f t n o:Int)(A:OA)(k c:Nat):(chkA f t n o A k c).size=5:=by simp[chkA]
@[go_sem] theorem chkA_one(f t n o:Int)(A:OA)(k c:Nat):allOne (chkA f t n o A k c)=true:=by simp[chkA,allOne,Value.oneCell']
@[go_sem] theorem chkA_at0(f t n o:Int)(A:OA)(k c:Nat)(h:0<(chkA f t n o A k c).size):(chkA f t n o A k c)[0]'h=iv f:=by simp[chkA]
@[go_sem] theorem chkA_at1(f t n o:Int)(A:OA)(k c:Nat)(h:1<(chkA f t n o A k c).size):(chkA f t n o A k c)[1]'h=iv t:=by simp[chkA]
@[go_sem] theorem chkA_at2(f t n o:Int)(A:OA)(k c:Nat)(h:2<(chkA f t n o A k c).size):(chkA f t n o A k c)[2]'h=iv n:=by simp[chkA]
@[go_sem] theorem chkA_at3(f t n o:Int)(A:OA)(k c:Nat)(h:3<(chkA f t n o A k c).size):(chkA f t n o A k c)[3]'h=iv o:=by simp[chkA]
@[go_sem] theorem chkA_at4(f t n o:Int)(A:OA)(k c:Nat)(h:4<(chkA f t n o A k c).size):(chkA f t n o A k c)[4]'h=.slice A k c:=by simp[chkA]
@[go_sem] theorem chkA_all(f t n o:Int)(A:OA)(k c:Nat):(chkA f t n o A k c).extract 0 5=chkA f t n o A k c:=by simp[chkA]
@[go_sem] theorem chk_lit(f t n o:Int)(A:OA)(k c:Nat):Value.agg #[iv f,iv t,iv n,iv o,.slice A k c]=Value.agg (chkA f t n o A k c):=by simp[chkA]
@[go_sem] theorem aggSzChk:aggSz Tryz.prog 56=5:=by kernel_rfl
theorem x5ln(h:Y:=by
 go_enter Tryz.func87,Tryz.ntmps87;go_wp2_with fail;go_ret;exact⟨ret_bool HZ.out.symm,HB.out⟩):Y:=h
theorem x73o(h:Y:=by
 go_wp2_with fail;go_ret;exact⟨ret_int hz.out.symm,hA⟩):Y:=h
theorem chkCheck_bad(h:¬x.range):chkCheck x=2:=by unfold chkCheck;rw[if_pos h]
theorem chkCheck_form(h:x.range)(g:¬x.full):chkCheck x=3:=by unfold chkCheck;rw[if_neg (by simpa using h),if_pos g]
theorem chkCheck_fine(h:x.range)(g:x.full):chkCheck x=0:=chkCheck_ok.2 ⟨h,g⟩
theorem full_len{f t n o:Int}{l:LU}:Chk.full ⟨f,t,n,o,l⟩↔l.length≠0∧l.length<=16∧(n<o-1->l.length=16):=by
 unfold Chk.full;dsimp only;rw[<-List.length_pos_iff];constructor<;>(intro h;refine⟨by omega,h.2.1,h.2.2⟩)
theorem chkCheck_calls(A:OA)(c:Nat)(f t n o:Int)(l:LU)(w:World)(hn:I64 n)(ho:I64 o):
  Calls Tryz.prog 37 #[.agg (chkA f t n o A l.length c)] w (RetB w (iv (chkCheck ⟨f,t,n,o,l⟩))):=by
 obtain⟨hn1,hn2⟩:=hn;obtain⟨ho1,ho2⟩:=ho;have hb:Below w.heap.size w (w.alloc (.cells (chkA f t n o A l.length c) 56)):=bL _;have HB:=qH hb;clear hb;by_cases h8:f<(1:Int)
 ·have hz:=qH (chkCheck_bad (x:=⟨f,t,n,o,l⟩) (by unfold Chk.range;dsimp only;omega));go_enter Tryz.func37,Tryz.ntmps37;exact x73o
 by_cases h1:(30:Int)<f
 ·have hz:=qH (chkCheck_bad (x:=⟨f,t,n,o,l⟩) (by unfold Chk.range;dsimp only;omega));go_enter Tryz.func37,Tryz.ntmps37;exact x73o
 by_cases h1:t<(1:Int)
 ·have hz:=qH (chkCheck_bad (x:=⟨f,t,n,o,l⟩) (by unfold Chk.range;dsimp only;omega));go_enter Tryz.func37,Tryz.ntmps37;exact x73o
 by_cases h1:(30:Int)<t
 ·have hz:=qH (chkCheck_bad (x:=⟨f,t,n,o,l⟩) (by unfold Chk.range;dsimp only;omega));go_enter Tryz.func37,Tryz.ntmps37;exact x73o
 by_cases h1:o<(1:Int)
 ·have hz:=qH (chkCheck_bad (x:=⟨f,t,n,o,l⟩) (by unfold Chk.range;dsimp only;omega));go_enter Tryz.func37,Tryz.ntmps37;exact x73o
 by_cases h1:(52:Int)<o
 ·have hz:=qH (chkCheck_bad (x:=⟨f,t,n,o,l⟩) (by unfold Chk.range;dsimp only;omega));go_enter Tryz.func37,Tryz.ntmps37;exact x73o
 by_cases h1:n<(0:Int)
 ·have hz:=qH (chkCheck_bad (x:=⟨f,t,n,o,l⟩) (by unfold Chk.range;dsimp only;omega));go_enter Tryz.func37,Tryz.ntmps37;exact x73o
 by_cases h1:o<=n
 ·have hz:=qH (chkCheck_bad (x:=⟨f,t,n,o,l⟩) (by unfold Chk.range;dsimp only;omega));go_enter Tryz.func37,Tryz.ntmps37;exact x73o
 have hr:Chk.range ⟨f,t,n,o,l⟩:=by unfold Chk.range;dsimp only;omega
 have HR:=qH hr;clear hr;have hw:IntKind.i64.wrap (o-1)=o-1:=IntWalk.i64_in _ (by omega);by_cases g4:l.length=0
 ·have hz:=qH (chkCheck_form HR.out (fun e=>(full_len.1 e).1 g4));have q:((l.length:Int)==0)=true:=by simp[g4]
  clear g4;go_enter Tryz.func37,Tryz.ntmps37;exact x73o
 have q2:((l.length:Int)==0)=false:=beq_eq_false_iff_ne.2 (by omega);by_cases g1:(16:Int)<(l.length:Int)
 ·have hz:=qH (chkCheck_form HR.out (fun e=>by have:=(full_len.1 e).2.1;omega));clear g4;go_enter Tryz.func37,Tryz.ntmps37;exact x73o
 by_cases g1:n<o-1
 ·by_cases g2:l.length=16
  ·have q1:((l.length:Int) !=16)=false:=by simp[g2]
   have hz:=qH (chkCheck_fine HR.out (full_len.2 ⟨by omega,by omega,fun _=>g2⟩));clear g4 g2;go_enter Tryz.func37,Tryz.ntmps37;exact x73o
  ·have q1:((l.length:Int) !=16)=true:=bne_iff_ne.2 (by omega);have hz:=qH (chkCheck_form HR.out (fun e=>g2 ((full_len.1 e).2.2 g1)));clear g4 g2;go_enter Tryz.func37,Tryz.ntmps37;exact x73o
 have hz:=qH (chkCheck_fine HR.out (full_len.2 ⟨by omega,by omega,fun h=>absurd h g1⟩));clear g4;go_enter Tryz.func37,Tryz.ntmps37;exact x73o
theorem kin_calls(A B:OA)(c d k m:Nat)(f t n o f2 t2 n2 o2:Int)(l r:LU)(w:World):
  Calls Tryz.prog 87 #[.agg (chkA f t n o A k c),.agg (chkA f2 t2 n2 o2 B m d)] w (RetB w (.bool (decide (kin ⟨f,t,n,o,l⟩ ⟨f2,t2,n2,o2,r⟩)))):=by
 have hb:Below w.heap.size w ((w.alloc (.cells (chkA f t n o A k c) 56)).alloc (.cells (chkA f2 t2 n2 o2 B m d) 56)):=(bL _).alloc (by simp) _;have HB:=qH hb;clear hb;by_cases h3:¬f=f2
 ·have hz:decide (kin ⟨f,t,n,o,l⟩ ⟨f2,t2,n2,o2,r⟩)=false:=decide_eq_false (by unfold kin;dsimp only;omega);have HZ:=qH hz;have q:(f==f2)=false:=by simp[h3]
  clear hz h3;exact x5ln
 have h3:=Decidable.not_not.1 h3;subst h3;have q3:(f==f)=true:=by simp
 by_cases h1:¬t=t2
 ·have hz:decide (kin ⟨f,t,n,o,l⟩ ⟨f,t2,n2,o2,r⟩)=false:=decide_eq_false (by unfold kin;dsimp only;omega);have HZ:=qH hz;have q:(t==t2)=false:=by simp[h1]
  clear hz h1;exact x5ln
 have h1:=Decidable.not_not.1 h1;subst h1;have q1:(t==t)=true:=by simp
 by_cases h1:¬o=o2
 ·have hz:decide (kin ⟨f,t,n,o,l⟩ ⟨f,t,n2,o2,r⟩)=false:=decide_eq_false (by unfold kin;dsimp only;omega);have HZ:=qH hz;have q:(o==o2)=false:=by simp[h1]
  clear hz h1;exact x5ln
 have h1:=Decidable.not_not.1 h1;subst h1;have q1:(o==o)=true:=by simp
 have hz:decide (kin ⟨f,t,n,o,l⟩ ⟨f,t,n2,o,r⟩)=true:=decide_eq_true ⟨rfl,rfl,rfl⟩;have HZ:=qH hz;clear hz;exact x5ln
theorem x1oc(h:Y:=by
 have e1:=cO 3 (iv (k:Int)) h;exact ch_move (ch_ev e1)):Y:=h
theorem x1vz(h:Y:=by
 have hz:r=chkCheck x:=by rw[<-HE.out,listGo_bad hck]
 have q:(chkCheck x !=0)=true:=by simp[hck]
 have HZ:=qH hz;clear hck hz;go_wp2_with fail;refine(HK.out _).mono ?_;rintro e w1 ⟨rfl,hb1⟩;have HB1:Hid (Below w.heap.size w w1):=by
  refine qH (HB.out.trans (Below.trans ?_ (hb1.mono (by first|omega|(simp<;>omega)))));repeat (first|exact Below.refl _ _|refine bA ?_ _)
 clear hb1;go_wp2_with fail;go_ret;exact⟨ret_int HZ.out.symm,HB1.out⟩):Y:=h
theorem x8vr(h:Y:=by
 have HZ:=qH hz;clear hz;go_wp2_with fail;go_ret;exact⟨ret_int HZ.out.symm,HB.out⟩):Y:=h
theorem listGo_bad{p:Option Chk}{l:List Chk}(h:chkCheck x≠0):listGo p (x::l)=chkCheck x:=by unfold listGo;rw[if_pos h]
theorem listGo_form{p:Option Chk}{l:List Chk}(h:chkCheck x=0)(g:¬follows p x):listGo p (x::l)=3:=by unfold listGo;rw[if_neg (by simpa using h),if_pos g]
theorem listGo_next{p:Option Chk}{l:List Chk}(h:chkCheck x=0)(g:follows p x):listGo p (x::l)=listGo (some x) l:=by
 conv=>lhs;unfold listGo
 rw[if_neg (by simpa using h),if_neg (by simpa using g)]
theorem chkCheckX_calls(A:OA)(c:Nat)(x:Chk)(w:World)(h:I64 x.n∧I64 x.of_):
  Calls Tryz.prog 37 #[.agg (chkA x.from_ x.to_ x.n x.of_ A x.data.length c)] w (RetB w (iv (chkCheck x))):=chkCheck_calls A c x.from_ x.to_ x.n x.of_ x.data w h.1 h.2
theorem kinY_calls(A B:OA)(c d:Nat)(x y:Chk)(w:World):
  Calls Tryz.prog 87 #[.agg (chkA x.from_ x.to_ x.n x.of_ A x.data.length c),.agg (chkA y.from_ y.to_ y.n y.of_ B y.data.length d)] w (RetB w (.bool (decide (kin x y)))):=
 kin_calls A B c d x.data.length y.data.length x.from_ x.to_ x.n x.of_ y.from_ y.to_ y.n y.of_ x.data y.data w
def ChkAt(w:World)(b o:Nat)(x:Chk)(B:OA)(c:Nat):Prop:=
 w.cell? ⟨b,o,none⟩=some (iv x.from_)∧w.cell? ⟨b,o+1,none⟩=some (iv x.to_)∧w.cell? ⟨b,o+2,none⟩=some (iv x.n)∧w.cell? ⟨b,o+3,none⟩=some (iv x.of_)∧w.cell? ⟨b,o+4,none⟩=some (.slice B x.data.length c)
theorem ChkAt.stays{w':World}{b o:Nat}{B:OA}{c:Nat}(h:ChkAt w b o x B c)(hlt:b<w.heap.size)(hb:Below w.heap.size w w'):ChkAt w' b o x B c:=
 ⟨(hb.cell (p:=⟨b,o,none⟩) hlt).trans h.1,(hb.cell (p:=⟨b,o+1,none⟩) hlt).trans h.2.1,(hb.cell (p:=⟨b,o+2,none⟩) hlt).trans h.2.2.1,(hb.cell (p:=⟨b,o+3,none⟩) hlt).trans h.2.2.2.1,(hb.cell (p:=⟨b,o+4,none⟩) hlt).trans h.2.2.2.2⟩
theorem Chs.chk{A:OA}{l:List Chk}(h:Chs w A l){i:Nat}(hi:i<l.length):∃b o B c,A=some ⟨b,o,none⟩∧b<w.heap.size∧ChkAt w b (o+i*5) l[i] B c∧ChkIn w l[i] B c:=by
 obtain⟨b,o,B,c,h1,h2,h3,h4,h5,h6,h7,h8⟩:=h.at_ hi;exact⟨b,o,B,c,h1,h2,⟨h3,h4,h5,h6,h7⟩,h8⟩
theorem chkList_calls(A:OA)(c:Nat)(l:List Chk)(w:World)(hl:l.length<=2513169434843)(hs:Chs w A l):
  Calls Tryz.prog 63 #[.slice A l.length c] w (RetB w (iv (chkList l))):=by
 have HS:=qH hs;clear hs;obtain⟨r,hr⟩:=eX (chkList l);rw[hr];have HR:Hid (listGo none l=r):=qH hr;clear hr;go_enter Tryz.func63,Tryz.ntmps63;go_wp2_with fail;go_loopw [8] (fun i wr=>∃k:Nat,k<=l.length∧i=iv k∧Hid (listGo ((l.take k).getLast?) (l.drop k)=r)∧Hid (Below w.heap.size w wr)) (fun i _=>l.length-(intOf i).toNat)
 case atStart=>exact⟨0,Nat.zero_le _,rfl,qH HR.out,qH (Below.refl _ _)⟩
 case round=>
  rename World=>wr;obtain⟨k,hk,rfl,HE,HB⟩:=hrel;have hsz:=HB.out.size;by_cases hlt:k<l.length
  ·obtain⟨b,o,B,cx,rfl,hb,hat,hin⟩:=HS.out.chk hlt;have hdr:l.drop k=l[k]::l.drop (k+1):=List.drop_eq_getElem_cons hlt;have hlast:(l.take (k+1)).getLast?=some l[k]:=by rw[List.take_succ_eq_append_getElem hlt,List.getLast?_concat]
   have hpre:∀(h0:0<k),∃q D d,(l.take k).getLast?=some q∧ChkAt w b (o+(k-1)*5) q D d:=fun h0=>by
    obtain⟨b',o',D,d,e,_,h1,_⟩:=HS.out.chk (i:=k-1) (by omega);injection e with e;injection e with e1 e2;subst e1 e2;refine⟨l[k-1],D,d,?_,h1⟩;rw[List.getLast?_take,if_neg (by omega),List.getElem?_eq_getElem (by omega)];rfl
   obtain⟨x,hx⟩:=eX (l[k]);rw[hx]at hdr hlast hat hin;rw[hdr]at HE;obtain⟨p,hp⟩:=eX ((l.take k).getLast?);rw[hp]at HE hpre;have HLAST:=qH hlast;have hat1:=hat.stays hb HB.out;obtain⟨c5,c1,c2,c3,c4⟩:=hat1;have HAT:=qH hat;have HP1:Hid (k=0->p=none):=qH (fun e=>by rw[<-hp,e];simp);have HPR:=qH hpre;have HK:=qH (fun w=>chkCheckX_calls B cx x w ⟨hin.i2,hin.i3⟩);have hblt:b<wr.heap.size:=by omega
   have dl:decide ((k:Int)<(l.length:Int))=true:=decide_eq_true (by omega);have hwk:IntKind.i64.wrap ((k:Int)+1)=(k:Int)+1:=IntWalk.i64_in _ (by omega);clear hdr hlast hx hp hpre hat hin;by_cases hck:chkCheck x≠0
   ·exact x1vz
   have hck:=Decidable.not_not.1 hck;have HCK:=qH hck;rw[hck]at HK;clear hck;go_wp2_with fail;refine(HK.out _).mono ?_;rintro e w1 ⟨rfl,hb1⟩;have a1:=kp (wr.heap.size) (chkA x.from_ x.to_ x.n x.of_ B x.data.length cx) hb1;have HB1:Hid (Below w.heap.size w w1):=by
    refine qH (HB.out.trans (Below.trans ?_ (hb1.mono (by first|omega|(simp<;>omega)))));exact x9q7
   have hs1:=HB1.out.size;clear hb1 c5 c1 c2 c3 c4;have HD:Hid (∀wq,Below w1.drew.heap.size w1.drew wq->Below w1.heap.size w1 wq):=qH (fun wq h=>(bW w1).drew.trans h);have R1:rowOf w1.drew wr.heap.size=chkA x.from_ x.to_ x.n x.of_ B x.data.length cx:=by go_simp
   have F1:frOf w1.drew wr.heap.size=(0,0):=by go_simp
   go_wp2_with fail;by_cases hk1:k=0
   ·have hz:listGo (some x) (l.drop (k+1))=r:=by rw[<-HE.out,listGo_next HCK.out (by rw[HP1.out hk1];intro q e;cases e)]
    have HZ:=qH hz;have HKP:=qH hk1;clear hz hk1;refine wp_region_chain (by kernel_rfl) (some 18::some 19::some 20::some 21::some 22::some 23::some 24::some 25::some 26::some 27::some 28::some 29::some 30::some 31::some 32::some 33::some 34::some 35::some 36::some 37::some 38::some 39::some 40::[]) (iv (k:Int)::.bool false::.bool false::undef::undef::undef::undef::undef::undef::undef::undef::undef::undef::undef::undef::undef::undef::undef::undef::undef::undef::undef::.bool false::[]) 42 rfl rfl (by decide+kernel) (by decide+kernel) (by decide+kernel) rfl ?_ ?_
    ·refine⟨.inl ⟨rfl,?_⟩,.inl ⟨rfl,?_⟩,.inl ⟨rfl,?_⟩,.inr ⟨rfl,rfl⟩,.inr ⟨rfl,rfl⟩,.inr ⟨rfl,rfl⟩,.inr ⟨rfl,rfl⟩,.inr ⟨rfl,rfl⟩,.inr ⟨rfl,rfl⟩,.inr ⟨rfl,rfl⟩,.inr ⟨rfl,rfl⟩,.inr ⟨rfl,rfl⟩,.inr ⟨rfl,rfl⟩,.inr ⟨rfl,rfl⟩,.inr ⟨rfl,rfl⟩,.inr ⟨rfl,rfl⟩,.inr ⟨rfl,rfl⟩,.inr ⟨rfl,rfl⟩,.inr ⟨rfl,rfl⟩,.inr ⟨rfl,rfl⟩,.inr ⟨rfl,rfl⟩,.inr ⟨rfl,rfl⟩,.inl ⟨rfl,?_⟩,trivial⟩;all_goals intro done a wq hw h
     ·exact x1oc
     ·have e1:=cN 0 18 h hw;have hp:=HKP.out;refine ch_pure ?_;go_simp
     ·have e1:=cN 1 19 h hw;exact ch_move (ch_ev e1)
     ·have e1:=cN 2 20 h hw;exact ch_pick_f e1 rfl
    intro w1 hb1;simp only[putAll_some,putAll_none,putAll_nil,List.setIfInBounds_toArray,List.set_cons_zero,List.set_cons_succ];have HB1:=bT HB1 hb1;clear hb1 R1 F1 a1;go_wp2_with fail;go_roundw
    case rel=>exact⟨k+1,by omega,by go_num,qH (by rw[HLAST.out];exact HZ.out),HB1⟩
    case measure=>simp[intOf];omega
   obtain⟨q,D,dq,hpq,hq⟩:=HPR.out (by omega);have HQ:Hid (∀wq,Below w1.heap.size w1 wq->ChkAt wq b (o+(k-1)*5) q D dq):=qH (fun wq h=>hq.stays hb (HB1.out.trans (h.mono hs1)));have HKP:Hid (0<k):=qH (by omega);have HI4:Hid (¬(k:Int)<1):=qH (by omega);have hkp:0<k:=by omega
   clear hk1;have HW:Hid (IntKind.i64.wrap ((k:Int)-1)=(k:Int)-1):=qH (IntWalk.i64_in _ (by omega));have HI1:Hid (((k:Int)-1).toNat=k-1):=qH (by omega);have HI2:Hid (¬(k:Int)-1<0):=qH (by omega);have HI3:Hid (¬(l.length:Int)<=(k:Int)-1):=qH (by omega);have HF:Hid (follows p x↔kin q x∧q.n<x.n):=qH (by rw[hpq];exact⟨fun h=>h q rfl,fun h z e=>by injection e with e;subst e;exact h⟩);clear hpq hq;by_cases hkn:kin q x
   ·have HKN:Hid (decide (kin q x)=true):=qH (decide_eq_true hkn);by_cases hge:x.n<=q.n
    first|case' inl=>have T10:Hid True:=qH trivial|case' pos=>have T10:Hid True:=qH trivial|case' refine_1=>have T10:Hid True:=qH trivial
    iterate 2
     ·first
       |
        revert T10;intro T10;have hz:r=3:=by rw[<-HE.out,listGo_form HCK.out (by rw[HF.out];omega)]
       |have hz:listGo (some x) (l.drop (k+1))=r:=by rw[<-HE.out,listGo_next HCK.out (by rw[HF.out];exact⟨hkn,by omega⟩)]
      have HZ:=qH hz
      first
       |
        revert T10;intro T10;have HGE:Hid (decide (x.n<=q.n)=true):=qH (decide_eq_true hge)
       |have HGE:Hid (decide (x.n<=q.n)=false):=qH (decide_eq_false hge)
      clear hz hkn hge
      first
       |
        revert T10;intro T10;refine wp_region_chain (by kernel_rfl) (some 18::some 19::some 20::some 21::some 22::some 23::some 24::some 25::some 26::some 27::some 28::some 29::some 30::some 31::some 32::some 33::some 34::some 35::some 36::some 37::some 38::some 39::some 40::[]) (iv (k:Int)::.bool true::.bool true::.slice (some ⟨b,o,none⟩) l.length c::iv (k:Int)::iv ((k:Int)-1)::.pointer (some ⟨b,o+(k-1)*5,none⟩)::.agg (chkA q.from_ q.to_ q.n q.of_ D q.data.length dq)::.agg (chkA x.from_ x.to_ x.n x.of_ B x.data.length cx)::.bool true::.bool false::.bool false::.slice (some ⟨b,o,none⟩) l.length c::iv (k:Int)::iv ((k:Int)-1)::.pointer (some ⟨b,o+(k-1)*5,none⟩)::.pointer (some ⟨b,o+(k-1)*5+2,none⟩)::iv q.n::.pointer (some ⟨wr.heap.size,2,none⟩)::iv x.n::.bool true::.bool true::.bool true::[]) 42 rfl rfl (by decide+kernel) (by decide+kernel) (by decide+kernel) rfl ?_ ?_
       |refine wp_region_chain (by kernel_rfl) (some 18::some 19::some 20::some 21::some 22::some 23::some 24::some 25::some 26::some 27::some 28::some 29::some 30::some 31::some 32::some 33::some 34::some 35::some 36::some 37::some 38::some 39::some 40::[]) (iv (k:Int)::.bool true::.bool true::.slice (some ⟨b,o,none⟩) l.length c::iv (k:Int)::iv ((k:Int)-1)::.pointer (some ⟨b,o+(k-1)*5,none⟩)::.agg (chkA q.from_ q.to_ q.n q.of_ D q.data.length dq)::.agg (chkA x.from_ x.to_ x.n x.of_ B x.data.length cx)::.bool true::.bool false::.bool false::.slice (some ⟨b,o,none⟩) l.length c::iv (k:Int)::iv ((k:Int)-1)::.pointer (some ⟨b,o+(k-1)*5,none⟩)::.pointer (some ⟨b,o+(k-1)*5+2,none⟩)::iv q.n::.pointer (some ⟨wr.heap.size,2,none⟩)::iv x.n::.bool false::.bool false::.bool false::[]) 42 rfl rfl (by decide+kernel) (by decide+kernel) (by decide+kernel) rfl ?_ ?_
      ·refine⟨.inl ⟨rfl,?_⟩,.inl ⟨rfl,?_⟩,.inl ⟨rfl,?_⟩,.inl ⟨rfl,?_⟩,.inl ⟨rfl,?_⟩,.inl ⟨rfl,?_⟩,.inl ⟨rfl,?_⟩,.inl ⟨rfl,?_⟩,.inl ⟨rfl,?_⟩,.inl ⟨rfl,?_⟩,.inl ⟨rfl,?_⟩,.inl ⟨rfl,?_⟩,.inl ⟨rfl,?_⟩,.inl ⟨rfl,?_⟩,.inl ⟨rfl,?_⟩,.inl ⟨rfl,?_⟩,.inl ⟨rfl,?_⟩,.inl ⟨rfl,?_⟩,.inl ⟨rfl,?_⟩,.inl ⟨rfl,?_⟩,.inl ⟨rfl,?_⟩,.inl ⟨rfl,?_⟩,.inl ⟨rfl,?_⟩,trivial⟩;all_goals intro done a wq hw h
       ·have e3:=cO 3 (iv (k:Int)) h;exact ch_move (ch_ev e3)
       ·have e18:=cN 0 18 h hw;have hp:=HKP.out;refine ch_pure ?_;go_simp
       ·have e19:=cN 1 19 h hw;exact ch_move (ch_ev e19)
       ·have e0:=cO 0 (.slice (some ⟨b,o,none⟩) l.length c) h;exact ch_move (ch_ev e0)
       ·have e3:=cO 3 (iv (k:Int)) h;exact ch_move (ch_ev e3)
       ·have e22:=cN 4 22 h hw;have hw:=HW.out;refine ch_pure ?_;go_simp
       ·have e21:=cN 3 21 h hw;have e23:=cN 5 23 h hw;have h1:=HI1.out;have h2:=HI2.out;have h3:=HI3.out;have h4:=HI4.out;refine ch_pure ?_;go_simp
       ·have e24:=cN 6 24 h hw;obtain⟨c5,c1,c2,c3,c4⟩:=HQ.out wq (HD.out wq h.bel);refine ch_pure ?_;go_simp
       ·have e4:=cO 4 (.pointer (some ⟨wr.heap.size,0,none⟩)) h;have y_:=keep1 h.bel R1 (by go_simp) F1;refine ch_pure ?_;go_simp
       ·have e25:=cN 7 25 h hw;have e26:=cN 8 26 h hw;exact ch_call (vals:=#[.agg (chkA q.from_ q.to_ q.n q.of_ D q.data.length dq),.agg (chkA x.from_ x.to_ x.n x.of_ B x.data.length cx)]) (by go_simp) (by go_simp) (by have:=kinY_calls D B dq cx q x wq;rwa [HKN.out]at this)
       ·have e27:=cN 9 27 h hw;refine ch_pure ?_;go_simp
       ·have e28:=cN 10 28 h hw;exact ch_move (ch_ev e28)
       ·have e0:=cO 0 (.slice (some ⟨b,o,none⟩) l.length c) h;exact ch_move (ch_ev e0)
       ·have e3:=cO 3 (iv (k:Int)) h;exact ch_move (ch_ev e3)
       ·have e31:=cN 13 31 h hw;have hw:=HW.out;refine ch_pure ?_;go_simp
       ·have e30:=cN 12 30 h hw;have e32:=cN 14 32 h hw;have h1:=HI1.out;have h2:=HI2.out;have h3:=HI3.out;have h4:=HI4.out;refine ch_pure ?_;go_simp
       ·have e33:=cN 15 33 h hw;refine ch_pure ?_;go_simp
       ·have e34:=cN 16 34 h hw;obtain⟨c5,c1,c2,c3,c4⟩:=HQ.out wq (HD.out wq h.bel);refine ch_pure ?_;go_simp
       ·have e4:=cO 4 (.pointer (some ⟨wr.heap.size,0,none⟩)) h;refine ch_pure ?_;go_simp
       ·have e36:=cN 18 36 h hw;have y_:=keep1 h.bel R1 (by go_simp) F1;refine ch_pure ?_;go_simp
       ·have e35:=cN 17 35 h hw;have e37:=cN 19 37 h hw;have hg:=HGE.out;refine ch_pure ?_;go_simp
       ·have e29:=cN 11 29 h hw;have e38:=cN 20 38 h hw;exact ch_pick_f e29 (ch_ev e38)
       ·have e20:=cN 2 20 h hw;have e39:=cN 21 39 h hw;exact ch_pick_t e20 (ch_ev e39)
      intro w2 hb2;simp only[putAll_some,putAll_none,putAll_nil,List.setIfInBounds_toArray,List.set_cons_zero,List.set_cons_succ];have HB2:=bT HB1 hb2;clear hb2 R1 F1 a1;go_wp2_with fail
      first
       |
        revert T10;intro T10;go_ret;exact⟨ret_int HZ.out.symm,HB2.out⟩
       |
        go_roundw
        case rel=>exact⟨k+1,by omega,by go_num,qH (by rw[HLAST.out];exact HZ.out),HB2⟩
        case measure=>simp[intOf];omega
   have HKN:Hid (decide (kin q x)=false):=qH (decide_eq_false hkn);have hz:r=3:=by rw[<-HE.out,listGo_form HCK.out (by rw[HF.out];exact fun h=>hkn h.1)]
   have HZ:=qH hz;clear hz hkn;refine wp_region_chain (by kernel_rfl) (some 18::some 19::some 20::some 21::some 22::some 23::some 24::some 25::some 26::some 27::some 28::some 29::some 30::some 31::some 32::some 33::some 34::some 35::some 36::some 37::some 38::some 39::some 40::[]) (iv (k:Int)::.bool true::.bool true::.slice (some ⟨b,o,none⟩) l.length c::iv (k:Int)::iv ((k:Int)-1)::.pointer (some ⟨b,o+(k-1)*5,none⟩)::.agg (chkA q.from_ q.to_ q.n q.of_ D q.data.length dq)::.agg (chkA x.from_ x.to_ x.n x.of_ B x.data.length cx)::.bool false::.bool true::.bool true::undef::undef::undef::undef::undef::undef::undef::undef::undef::.bool true::.bool true::[]) 42 rfl rfl (by decide+kernel) (by decide+kernel) (by decide+kernel) rfl ?_ ?_
   ·refine⟨.inl ⟨rfl,?_⟩,.inl ⟨rfl,?_⟩,.inl ⟨rfl,?_⟩,.inl ⟨rfl,?_⟩,.inl ⟨rfl,?_⟩,.inl ⟨rfl,?_⟩,.inl ⟨rfl,?_⟩,.inl ⟨rfl,?_⟩,.inl ⟨rfl,?_⟩,.inl ⟨rfl,?_⟩,.inl ⟨rfl,?_⟩,.inl ⟨rfl,?_⟩,.inr ⟨rfl,rfl⟩,.inr ⟨rfl,rfl⟩,.inr ⟨rfl,rfl⟩,.inr ⟨rfl,rfl⟩,.inr ⟨rfl,rfl⟩,.inr ⟨rfl,rfl⟩,.inr ⟨rfl,rfl⟩,.inr ⟨rfl,rfl⟩,.inr ⟨rfl,rfl⟩,.inl ⟨rfl,?_⟩,.inl ⟨rfl,?_⟩,trivial⟩;all_goals intro done a wq hw h
    ·exact x1oc
    ·have e1:=cN 0 18 h hw;have hp:=HKP.out;refine ch_pure ?_;go_simp
    ·have e1:=cN 1 19 h hw;exact ch_move (ch_ev e1)
    ·have e1:=cO 0 (.slice (some ⟨b,o,none⟩) l.length c) h;exact ch_move (ch_ev e1)
    ·exact x1oc
    ·have e1:=cN 4 22 h hw;have hw:=HW.out;refine ch_pure ?_;go_simp
    ·have e1:=cN 3 21 h hw;have e23:=cN 5 23 h hw;have h1:=HI1.out;have h2:=HI2.out;have h3:=HI3.out;have h4:=HI4.out;refine ch_pure ?_;go_simp
    ·have e1:=cN 6 24 h hw;obtain⟨c5,c1,c2,c3,c4⟩:=HQ.out wq (HD.out wq h.bel);refine ch_pure ?_;go_simp
    ·have e1:=cO 4 (.pointer (some ⟨wr.heap.size,0,none⟩)) h;have y_:=keep1 h.bel R1 (by go_simp) F1;refine ch_pure ?_;go_simp
    ·have e1:=cN 7 25 h hw;have e26:=cN 8 26 h hw;exact ch_call (vals:=#[.agg (chkA q.from_ q.to_ q.n q.of_ D q.data.length dq),.agg (chkA x.from_ x.to_ x.n x.of_ B x.data.length cx)]) (by go_simp) (by go_simp) (by have:=kinY_calls D B dq cx q x wq;rwa [HKN.out]at this)
    ·have e1:=cN 9 27 h hw;refine ch_pure ?_;go_simp
    ·have e1:=cN 10 28 h hw;exact ch_move (ch_ev e1)
    ·have e1:=cN 11 29 h hw;exact ch_pick_t e1 rfl
    ·have e1:=cN 2 20 h hw;have e39:=cN 21 39 h hw;exact ch_pick_t e1 (ch_ev e39)
   intro w1 hb1;simp only[putAll_some,putAll_none,putAll_nil,List.setIfInBounds_toArray,List.set_cons_zero,List.set_cons_succ];have HB1:=bT HB1 hb1;clear hb1 R1 F1 a1;go_wp2_with fail;go_ret;exact⟨ret_int HZ.out.symm,HB1.out⟩
  obtain rfl:k=l.length:=by omega
  have dl:decide ((l.length:Int)<(l.length:Int))=false:=by simp
  have hz:r=0:=by rw[<-HE.out,List.drop_length];unfold listGo;rfl
  exact x8vr
section
variable {S T:Nat->Prop} {w w':World} {P Q:World->Prop}
end
theorem actsBad_calls(n:Int)(w:World):Calls Tryz.prog 23 #[iv n] w (RetB w (.tuple #[.agg (devA Dev.zero DLoc.zero),iv n])):=by
 go_enter Tryz.func23,Tryz.ntmps23;go_wp2_with fail;refine bodyPost_ret (rC (devA Dev.zero DLoc.zero)) rfl ⟨rfl,?_⟩;repeat (first|exact Below.refl _ _|refine bR ?_ _|refine bA ?_ _)
theorem actsDone_ok(d:Dev)(L:DLoc)(gb gd:Nat)(w:World)(hr:rowOf w gd=devA d L)(hf:frOf w gd=(0,0)):Calls Tryz.prog 26 #[iv 0,.pointer (some ⟨gb,0,none⟩),.pointer (some ⟨gd,0,none⟩)] w (RetB w (.tuple #[.agg (devA d L),iv 0])):=by
 have a1:=keep1 (bW w) hr (by go_simp) hf;go_enter Tryz.func26,Tryz.ntmps26;go_wp2_with fail;refine bodyPost_ret (rC (devA d L)) rfl ⟨rfl,?_⟩;repeat (first|exact Below.refl _ _|refine bR ?_ _|refine bA ?_ _)
theorem actsDone_bad(n:Int)(gb gd:Nat)(w:World)(hn:n≠0)(hr:rowOf w gb=#[.func (Fn.func 23) #[] #[]])(hf:frOf w gb=(0,0)):Calls Tryz.prog 26 #[iv n,.pointer (some ⟨gb,0,none⟩),.pointer (some ⟨gd,0,none⟩)] w (RetB w (.tuple #[.agg (devA Dev.zero DLoc.zero),iv n])):=by
 have a1:=keep1 (bW w) hr (by go_simp) hf;have q:(n !=0)=true:=by simp[hn]
 clear hn;go_enter Tryz.func26,Tryz.ntmps26;go_wp2_with fail;refine(actsBad_calls n _).mono ?_;rintro e w1 ⟨rfl,hb⟩;have b1:=kp (w.heap.size) (devA Dev.zero DLoc.zero) hb;have HB1:Hid (Below w.heap.size w w1):=qH ((bL _).trans (hb.mono (by simp)));clear hb;go_wp2_with fail;refine bodyPost_ret (rC (devA Dev.zero DLoc.zero)) rfl ⟨rfl,?_⟩;repeat (first|exact hA|refine bR ?_ _)
def WtRet(w:World)(gd:Nat)(d:Dev)(L:DLoc)(n:Int):Ending->World->Prop:=fun en w'=>
 ∃w1 w2,en=.returned (iv n)∧Below w.heap.size w w1∧w2=(if n=0 then w1.setRow gd (devA d L)else w1)∧Below w2.heap.size w2 w'
theorem actsWrite_calls(d:Dev)(L:DLoc)(r:Rec)(torn:Bool)(gd:Nat)(w:World)(hc:copCheck d.c0 d.c1=0)(hr:rowOf w gd=devA d L)(hf:frOf w gd=(0,0)):Calls Tryz.prog 24 #[.agg (recA r),.bool torn,.pointer (some ⟨gd,0,none⟩)] w (WtRet w gd (d.write r torn) L (recWrite d.c0 d.c1 r torn).2):=by
 have K:=qH (fun w=>written_calls d.c0 d.c1 r torn w hc);have a1:=keep1 (bW w) hr (by go_simp) hf;have hp:0<(rowOf w gd).size:=by rw[hr,devA_size];decide
 have hlt:=row_lt hp;have HD:Hid (d.write r torn={d with c0:=(recWrite d.c0 d.c1 r torn).1.1,c1:=(recWrite d.c0 d.c1 r torn).1.2}):=qH rfl;generalize d.write r torn=d2 at *
 obtain⟨⟨⟨p1,p2⟩,e1⟩,hw⟩:∃x,recWrite d.c0 d.c1 r torn=x:=⟨_,rfl⟩;rw[hw]at K HD⊢;dsimp only at HD⊢;clear hw hr hf hp hc;go_enter Tryz.func24,Tryz.ntmps24;go_wp2_with fail;refine(K.out _).mono ?_;rintro e w1 ⟨rfl,hb⟩;have b2:=kp gd (devA d L) hb;have b1:=kp (w.heap.size) (recA r) hb;have HB1:Hid (Below w.heap.size w w1):=qH ((bL _).trans (hb.mono (by simp)));clear hb;by_cases c2:e1=0
 ·subst c2;go_wp2_with fail;go_ret;refine⟨w1,_,rfl,HB1.out,rfl,?_⟩;rw[if_pos rfl,show devA d2 L=devA {d with c0:=p1,c1:=p2} L from by rw[HD.out]];exact(Below.refl _ _).alloc (by simp) _
 have q:(e1==0)=false:=by simp[c2]
 go_wp2_with fail;go_ret;refine⟨w1,_,rfl,HB1.out,rfl,?_⟩;rw[if_neg c2];exact(Below.refl _ _).alloc (by simp) _
theorem acts_crash(d:Dev)(L:DLoc)(n f t m o:Int)(B:OA)(bl bc:Nat)(w:World)(hu:d.up=true):Calls Tryz.prog 10 #[.agg (devA d L),.agg #[iv 9,iv n],.agg (chkA f t m o B bl bc)] w (RetB w (.tuple #[.agg (devA d.down L.down),iv 0])):=by
 have K1:=qH (fun w=>newest_calls d.c0 d.c1 w);generalize refNewest d.c0 d.c1=q at *
 obtain⟨r,k⟩:=q;have K2:=qH (fun w=>without_calls d L w);go_enter Tryz.func10,Tryz.ntmps10;go_wp2_with fail;refine(K1.out _).mono ?_;rintro e w1 ⟨rfl,hb⟩;have a2:=kp (w.heap.size) (devA d L) hb;have a1:=kp (w.heap.size+1) (#[iv 9,iv n]) hb;have a1:=kp (w.heap.size+1+1+1) (devA Dev.zero DLoc.zero) hb;have HBA:Hid (Below w.heap.size w w1):=qH (((((((bW w).alloc nl (.cells (devA d L) 38)).alloc (by simp) (.cells #[iv 9,iv n] 54)).alloc (by simp;omega) (.cells (chkA f t m o B bl bc) 56)).alloc (by simp;omega) (.cells (devA Dev.zero DLoc.zero) 38)).alloc (by simp;omega) _).trans (hb.mono (by simp;omega)));clear hb;go_wp2_with fail;refine(K2.out _).mono ?_;rintro e w1 ⟨rfl,hb⟩;have a2:=kr a2 hb;have a1:=kr a1 hb;have HB1:Hid (Below w.heap.size w w1):=qH ((HBA.out.alloc HBA.out.size _).trans (hb.mono (by have:=HBA.out.size;simp;omega)));clear hb;go_wp2_with fail;refine bodyPost_ret (rC (devA d.down L.down)) rfl ⟨rfl,bZ HB1⟩
def ActRet(w:World)(d:Dev)(L:DLoc)(d2:Dev)(n:Int):Ending->World->Prop:=fun en w'=>
 ∃L2,en=.returned (.tuple #[.agg (devA d2 L2),iv n])∧(∀v,DevIn v d L->DevIn v d2 L2)∧Below w.heap.size w w'
theorem DevIn.starts{d:Dev}{L:DLoc}(h:DevIn w d L)(p q:Cop)(k:Int)(hk:k=0∨k=1):DevIn w {d with c0:=p,c1:=q,up:=true,running:=k} L:=⟨h.k0,h.l0,h.b0,h.k1,h.l1,h.b1,h.kg,h.lg,h.got,h.job,⟨by show -9223372036854775808<=k;omega,by show k<=9223372036854775807;omega⟩,h.id⟩
theorem acts_boot(d:Dev)(L:DLoc)(n f t m o:Int)(B:OA)(bl bc:Nat)(w:World)(hok:DevOk d)(hu:d.up=false):Calls Tryz.prog 10 #[.agg (devA d L),.agg #[iv 10,iv n],.agg (chkA f t m o B bl bc)] w (ActRet w d L (devBoot d).1 (devBoot d).2):=by
 have hrec:=rec_ok hok;have hdef:devBoot d=if (recStart d.rec_).2.1≠d.rec_ then
    (if (recWrite d.c0 d.c1 (recStart d.rec_).2.1 false).2≠0 then (Dev.zero,(recWrite d.c0 d.c1 (recStart d.rec_).2.1 false).2)
    else ({d.write (recStart d.rec_).2.1 false with up:=true,running:=(recStart d.rec_).1},0))
   else ({d with up:=true,running:=(recStart d.rec_).1},0):=by unfold devBoot;rw[if_neg (by simpa using devCheck_ok.2 hok),if_neg (by rw[hu];decide),if_neg (by rw[refStart_ok hrec];simp)]
 have hsl:(recStart d.rec_).1=0∨(recStart d.rec_).1=1:=by
  rw[start_of hrec];exact(slot_floor hrec 0).1
 have K1:=qH (fun w=>newest_calls d.c0 d.c1 w);rw[refNewest_ok hok.cops]at K1;have hre:(recRead d.c0 d.c1).1=d.rec_:=rfl;have hrg:=(recCheck_parts hrec).1;unfold RangeOk at hrg;have K2:=qH (fun w=>started_calls d.rec_ w (by omega) (by omega));rw[hre]at K1;rw[refStart_ok hrec]at hdef hsl;obtain⟨⟨k,nx⟩,hq⟩:∃x,refStart d.rec_=x:=⟨_,rfl⟩;rw[hq]at hdef hsl K2;dsimp only at hdef hsl K2;have K3:=qH (fun gd w h1 h2=>actsWrite_calls d L nx false gd w hok.cops h1 h2);have HW:Hid (d.write nx false={d with c0:=(recWrite d.c0 d.c1 nx false).1.1,c1:=(recWrite d.c0 d.c1 nx false).1.2}):=qH rfl;obtain⟨⟨⟨p1,p2⟩,e1⟩,hw⟩:∃x,recWrite d.c0 d.c1 nx false=x:=⟨_,rfl⟩;rw[hw]at hdef K3 HW;dsimp only at hdef K3 HW;rw[HW.out]at hdef K3;have HD:=qH hdef;have HSL:=qH hsl;obtain⟨rk,hrk⟩:=eX ((recRead d.c0 d.c1).2);rw[hrk]at K1;generalize devBoot d=res at *
 generalize d.rec_=r at *
 clear hdef hrec hsl hok hq hw HW hre hrg hrk;go_enter Tryz.func10,Tryz.ntmps10;go_wp2_with fail;refine(K1.out _).mono ?_;rintro e w1 ⟨rfl,hb⟩;have a2:=kp (w.heap.size) (devA d L) hb;have a1:=kp (w.heap.size+1) (#[iv 10,iv n]) hb;have a1:=kp (w.heap.size+1+1+1) (devA Dev.zero DLoc.zero) hb;have a3:=kp (w.heap.size+1+1+1+1) (#[.func (Fn.func 23) #[] #[]]) hb;have HB1:Hid (Below w.heap.size w w1):=qH (((((((bW w).alloc nl (.cells (devA d L) 38)).alloc (by simp) (.cells #[iv 10,iv n] 54)).alloc (by simp;omega) (.cells (chkA f t m o B bl bc) 56)).alloc (by simp;omega) (.cells (devA Dev.zero DLoc.zero) 38)).alloc (by simp;omega) _).trans (hb.mono (by simp;omega)));clear hb;go_wp2_with fail;refine(K2.out _).mono ?_;rintro e w2 ⟨rfl,hb⟩;have a2:=kr a2 hb;have a1:=kr a1 hb;have a3:=kr a3 hb;have a4:=kp (w1.heap.size) (recA r) hb;have HB1:Hid (Below w.heap.size w w2):=qH ((HB1.out.alloc HB1.out.size _).trans (hb.mono (by have:=HB1.out.size;simp;omega)));clear hb;by_cases c2:nx≠r
 ·have HD1:=qH (HD.out.trans (if_pos c2));have q1:decide (nx=r)=false:=decide_eq_false c2;clear c2 HD;go_wp2_with fail;refine(K3.out _ _ (by go_simp) (by go_simp)).mono ?_;rintro e w1 ⟨wa,wb,rfl,hba,hwb,hbb⟩;have a1:=kr a1 hba;have a1:=kr a3 hba;have a1:=kr a2 hba;have HBa:=bU HB1 hba;clear hba;by_cases c2:e1≠0
  ·rw[if_neg c2]at hwb;subst hwb;have b1:=kp (w.heap.size+1+1+1) (devA Dev.zero DLoc.zero) hbb;have b1:=kp (w.heap.size+1+1+1+1) (#[.func (Fn.func 23) #[] #[]]) hbb;have b1:=kp (w.heap.size) (devA d L) hbb;have HB1:=bT HBa hbb;have hz:res=(Dev.zero,e1):=HD1.out.trans (if_pos c2);subst hz;have KD:=qH (fun gb gd w h1 h2=>actsDone_bad e1 gb gd w c2 h1 h2);clear hbb c2;go_wp2_with fail;refine(KD.out _ _ _ (by go_simp) (by go_simp)).mono ?_;rintro e w1 ⟨rfl,hb⟩;have c1:=kp (w.heap.size+1+1+1) (devA Dev.zero DLoc.zero) hb;have HB1:=bU HB1 hb;clear hb;go_wp2_with fail;refine bodyPost_ret (rC (devA Dev.zero DLoc.zero)) rfl ⟨DLoc.zero,rfl,fun v _=>DevIn.zero v,bZ HB1⟩
  have c2:=Decidable.not_not.1 c2;subst c2;rw[if_pos rfl]at hwb;subst hwb;have b1:=kp (w.heap.size+1+1+1) (devA Dev.zero DLoc.zero) hbb;have b1:=kp (w.heap.size) (devA {d with c0:=p1,c1:=p2} L) hbb;have HB1:Hid (Below w.heap.size w w1):=qH ((below_row HBa.out (by omega) _).trans (hbb.mono (by have:=HBa.out.size;simp;omega)));clear hbb;have hz:res=({d with c0:=p1,c1:=p2,up:=true,running:=k},0):=HD1.out.trans (if_neg (by decide));clear hu;go_wp2_with fail;refine(actsDone_ok {d with c0:=p1,c1:=p2,up:=true,running:=k} L _ _ _ (by go_simp) (by go_simp)).mono ?_;rintro e w1 ⟨rfl,hb⟩;have c2:=kp (w.heap.size+1+1+1) (devA Dev.zero DLoc.zero) hb;have HB1:=bU HB1 hb;clear hb;go_wp2_with fail;rw[hz];refine bodyPost_ret (rC (devA {d with c0:=p1,c1:=p2,up:=true,running:=k} L)) rfl ⟨L,rfl,fun v h=>h.starts p1 p2 k HSL.out,bZ HB1⟩
 have HD1:=qH (HD.out.trans (if_neg c2));have q1:decide (nx=r)=true:=decide_eq_true (Decidable.not_not.1 c2);clear c2 HD hu;go_wp2_with fail;refine(actsDone_ok {d with up:=true,running:=k} L _ _ _ (by go_simp) (by go_simp)).mono ?_;rintro e w1 ⟨rfl,hb⟩;have a1:=kr a1 hb;have HB1:=bU HB1 hb;clear hb;go_wp2_with fail;rw[HD1.out];refine bodyPost_ret (rC (devA {d with up:=true,running:=k} L)) rfl ⟨L,rfl,fun v h=>h.starts d.c0 d.c1 k HSL.out,bZ HB1⟩
structure WLoc where
 ar:Option Addr
 cr:Nat
 l:DLoc
 an:Option Addr
 cn:Nat
def WLoc.zero:WLoc:=⟨none,0,DLoc.zero,none,0⟩
def worA(x:Wor)(L:WLoc):Array Value:=#[.slice L.ar x.rel.length L.cr,.slice L.l.a0 x.d.s0.length L.l.c0,.slice L.l.a1 x.d.s1.length L.l.c1,.bool x.d.c0.ok,iv x.d.c0.r.gen,iv x.d.c0.r.active,.bool x.d.c0.r.trying,iv x.d.c0.r.tries,iv x.d.c0.r.floor,iv x.d.c0.r.a.ver,iv x.d.c0.r.a.size,iv x.d.c0.r.a.sum,iv x.d.c0.r.b.ver,iv x.d.c0.r.b.size,iv x.d.c0.r.b.sum,.bool x.d.c1.ok,iv x.d.c1.r.gen,iv x.d.c1.r.active,.bool x.d.c1.r.trying,iv x.d.c1.r.tries,iv x.d.c1.r.floor,iv x.d.c1.r.a.ver,iv x.d.c1.r.a.size,iv x.d.c1.r.a.sum,iv x.d.c1.r.b.ver,iv x.d.c1.r.b.size,iv x.d.c1.r.b.sum,.bool x.d.up,iv x.d.running,.slice L.l.ag x.d.got.length L.l.cg,.bool x.d.busy,iv x.d.job.from_,iv x.d.job.to_,iv x.d.job.old,iv x.d.job.new_,iv x.d.job.size,.slice L.l.aj x.d.job.ops.length L.l.cj,iv x.d.done,.slice L.an x.net.length L.cn]
@[go_sem] theorem worA_size(x:Wor)(L:WLoc):(worA x L).size=39:=by simp[worA]
@[go_sem] theorem worA_one(x:Wor)(L:WLoc):allOne (worA x L)=true:=by simp[worA,allOne,Value.oneCell']
@[go_sem] theorem worA_at0(x:Wor)(L:WLoc)(h:0<(worA x L).size):(worA x L)[0]'h=.slice L.ar x.rel.length L.cr:=by simp[worA]
@[go_sem] theorem worA_at1(x:Wor)(L:WLoc)(h:1<(worA x L).size):(worA x L)[1]'h=.slice L.l.a0 x.d.s0.length L.l.c0:=by simp[worA]
@[go_sem] theorem worA_at2(x:Wor)(L:WLoc)(h:2<(worA x L).size):(worA x L)[2]'h=.slice L.l.a1 x.d.s1.length L.l.c1:=by simp[worA]
@[go_sem] theorem worA_at27(x:Wor)(L:WLoc)(h:27<(worA x L).size):(worA x L)[27]'h=.bool x.d.up:=by simp[worA]
@[go_sem] theorem worA_at28(x:Wor)(L:WLoc)(h:28<(worA x L).size):(worA x L)[28]'h=iv x.d.running:=by simp[worA]
@[go_sem] theorem worA_at38(x:Wor)(L:WLoc)(h:38<(worA x L).size):(worA x L)[38]'h=.slice L.an x.net.length L.cn:=by simp[worA]
@[go_sem] theorem worA_all(x:Wor)(L:WLoc):(worA x L).extract 0 39=worA x L:=by simp[worA]
@[go_sem] theorem worA_ex1_38(x:Wor)(L:WLoc):(worA x L).extract 1 38=devA x.d L.l:=by simp[worA,devA]
@[go_sem] theorem worA_ex3_27(x:Wor)(L:WLoc):(worA x L).extract 3 27=copsA x.d.c0 x.d.c1:=by simp[worA,copsA]
@[go_sem] theorem worA_splice_dev(x:Wor)(L:WLoc)(d:Dev)(K:DLoc):splice (worA x L) 1 (devA d K)=worA {x with d:=d} {L with l:=K}:=by simp[splice,worA,devA]
@[go_sem] theorem aggSzWor:aggSz Tryz.prog 40=39:=by kernel_rfl
@[go_sem] theorem zero_wor:Value.agg #[.slice none 0 0,.slice none 0 0,.slice none 0 0,.bool false,iv 0,iv 0,.bool false,iv 0,iv 0,iv 0,iv 0,iv 0,iv 0,iv 0,iv 0,.bool false,iv 0,iv 0,.bool false,iv 0,iv 0,iv 0,iv 0,iv 0,iv 0,iv 0,iv 0,.bool false,iv 0,.slice none 0 0,.bool false,iv 0,iv 0,iv 0,iv 0,iv 0,.slice none 0 0,iv 0,.slice none 0 0]=Value.agg (worA Wor.zero WLoc.zero):=by simp[worA,Wor.zero,WLoc.zero,Dev.zero,DLoc.zero,Cop.zero,Rec.zero,Inf.zero,Pat.zero]
structure WorIn(w:World)(x:Wor)(L:WLoc):Prop where
 kr:x.rel.length<=L.cr
 lr:x.rel.length<=5864062014634
 rel:Ims w L.ar x.rel
 dev:DevIn w x.d L.l
 kn:x.net.length<=L.cn
 ln:x.net.length<=2513169434843
 net:Chs w L.an x.net
theorem WorIn.stays{w':World}{x:Wor}{L:WLoc}(h:WorIn w x L)(hb:Below w.heap.size w w'):WorIn w' x L:=
 ⟨h.kr,h.lr,h.rel.stays hb,h.dev.stays hb,h.kn,h.ln,h.net.stays hb⟩
theorem WorIn.zero(w:World):WorIn w Wor.zero WLoc.zero:=
 ⟨nl,by simp[Wor.zero],fun i hi=>absurd hi (by simp[Wor.zero]),DevIn.zero w,nl,by simp[Wor.zero],Chs.nil _ _⟩
def FrIn(base m:Nat)(w:World)(P:World->Prop):Prop:=∀v:World,(∀k,base<=k->k<m->v.heap[k]?=w.heap[k]?)->P v
section
variable {base m:Nat} {w v:World} {P Q:World->Prop}
theorem Fresh.frIn(h:Fresh base w P):FrIn base w.heap.size w P:=fun v hv=>h v hv
theorem FrIn.of(h:FrIn base m w P)(hv:∀k,base<=k->k<m->v.heap[k]?=w.heap[k]?):FrIn base m v P:=fun u hu=>h u fun k h1 h2=>(hu k h1 h2).trans (hv k h1 h2)
theorem FrIn.wider{b2 m2:Nat}(h:FrIn base m w P)(hb:b2<=base)(hm:m<=m2):FrIn b2 m2 w P:=fun v hv=>h v fun k h1 h2=>hv k (by omega) (by omega)
theorem FrIn.now(h:FrIn base m w P):P w:=h w fun _ _ _=>rfl
end
structure WorAt(w:World)(base m top:Nat)(ds:List (Option Addr×Nat))(x:Wor)(L:WLoc):Prop where
 h1:base<=m
 h2:m<=top
 h3:top<=w.heap.size
 rel:FrIn base m w (fun v=>Ims v L.ar x.rel)
 dev:FrIn base m w (fun v=>DevIn v x.d L.l)
 net:GRow kChk w m x.net ds L.an L.cn
 each:Each kChk x.net ds (fun k=>m<=k∧k<top)
 blk:∀k,L.an.map (·.block)=some k->k<top
 bd:∀y∈x.net,ChkB y
 kr:x.rel.length<=L.cr
 lr:x.rel.length<=5864062014634
 ln:x.net.length<=2513169434843
theorem GRow.ex{α:Type}{K:Kd α}{v:World}{base c:Nat}{l:List α}{ds:List (Option Addr×Nat)}{A:OA}(h:GRow K w base l ds A c)(hA:∀k,A.map (·.block)=some k->v.heap[k]?=w.heap[k]?)(hd:Each K l ds (fun k=>v.heap[k]?=w.heap[k]?)):GRow K v base l ds A c:=by
 refine⟨h.len,h.row.same hA,fun i o d h1 h2=>⟨fun j hj=>?_,(h.data i o d h1 h2).2⟩,h.off⟩;obtain⟨b,o1,e1,hl1,hc⟩:=(h.data i o d h1 h2).1 j hj;have hx:K.dat o≠[]:=fun e=>by rw[e]at hj;simp at hj
 have hb:v.heap[b]?=w.heap[b]?:=hd i o d h1 h2 hx b (by rw[e1];rfl);have hlt:b<v.heap.size:=by
  rcases Nat.lt_or_ge b v.heap.size with h|h
  ·exact h
  rw[Array.getElem?_eq_none h,Array.getElem?_eq_getElem hl1]at hb;cases hb
 exact⟨b,o1,e1,hlt,(World.cell?_of_block hb).trans hc⟩
section
variable {w v:World} {base m top:Nat} {ds:List (Option Addr×Nat)} {x:Wor} {L:WLoc}
theorem WorAt.netEx(h:WorAt w base m top ds x L)(hv:∀k,base<=k->k<top->v.heap[k]?=w.heap[k]?):GRow kChk v m x.net ds L.an L.cn:=by
 have h1:=h.h1;exact h.net.ex (fun k e=>hv k (by have:=(h.net.row.block k e).1;omega) (h.blk k e)) (h.each.imp fun k hk=>hv k (by omega) hk.2)
theorem WorAt.same(h:WorAt w base m top ds x L)(hv:∀k,base<=k->k<top->v.heap[k]?=w.heap[k]?)(hm:top<=v.heap.size):WorAt v base m top ds x L:=by
 have h2:=h.h2;exact⟨h.h1,h.h2,hm,h.rel.of fun k a b=>hv k a (by omega),h.dev.of fun k a b=>hv k a (by omega),h.netEx hv,h.each,h.blk,h.bd,h.kr,h.lr,h.ln⟩
theorem WorAt.wex(h:WorAt w base m top ds x L)(hv:∀k,base<=k->k<top->v.heap[k]?=w.heap[k]?):WorIn v x L:=by
 have h1:=h.h2;exact⟨h.kr,h.lr,h.rel v (fun k a b=>hv k a (by omega)),h.dev v (fun k a b=>hv k a (by omega)),h.net.row.le,h.ln,(h.netEx hv).src.chs h.bd⟩
end
def WcRet(w:World)(x:Wor):Ending->World->Prop:=fun en w'=>
 ∃L m ds,en=.returned (.agg (worA x L))∧WorAt w' (w.heap.size+2) m w'.heap.size ds x L∧Below w.heap.size w w'
def WvRet(w:World)(x:Wor)(n:Int):Ending->World->Prop:=fun en w'=>
 ∃L,en=.returned (.tuple #[.agg (worA x L),iv n])∧Fresh w.heap.size w' (fun v=>WorIn v x L)∧Below w.heap.size w w'
theorem big_wor'(n:Nat)(h:0<n):bigBuild Tryz.prog 40 n:=by
 obtain⟨i,hi,_⟩:=info_parts (P:=Tryz.prog) (e:=40) (z:=.agg (worA Wor.zero WLoc.zero)) (size:=39) (bytes:=408) (by kernel_rfl);exact⟨i,hi,h⟩
@[go_sem] theorem big_wor2:bigBuild Tryz.prog 40 2:=big_wor' 2 (by decide)
@[go_sem] theorem big_wor3:bigBuild Tryz.prog 40 3:=big_wor' 3 (by decide)
@[go_sem] theorem build_wor2(a:OA)(c:Nat)(l:List (List UInt8))(d:Dev)(K:DLoc)(w:World):runBuild Tryz.prog 40 #[(0,.slice a l.length c),(1,.agg (devA d K))] w=.ok (.agg (worA ⟨l,d,[]⟩ ⟨a,c,K,none,0⟩)) w:=by kernel_rfl
@[go_sem] theorem build_wor3(a:OA)(c:Nat)(l:List (List UInt8))(d:Dev)(K:DLoc)(b:OA)(e:Nat)(t:List Chk)(w:World):runBuild Tryz.prog 40 #[(0,.slice a l.length c),(1,.agg (devA d K)),(2,.slice b t.length e)] w=.ok (.agg (worA ⟨l,d,t⟩ ⟨a,c,K,b,e⟩)) w:=by kernel_rfl
end Go.Proofs.YtefkfglkpebbmadGreat
