/- Walks of functions, and plain words. No conditions. -/
import Derived.Test.YtefkfglkpebbmacGreatPE3
import Derived.Laws.StructEq
import Derived.Deep.LoopGhost
import Derived.Laws.CopyRow
import Derived.Lib.Overlaps
import Derived.Deep.DeepCutAuto
set_option linter.unusedVariables false
set_option linter.unusedSimpArgs false
set_option maxRecDepth 100000
set_option maxHeartbeats 40000000
namespace Go.Proofs.YtefkfglkpebbmacGreat
open Go.RowKit
variable {Y:Prop}
variable {w:World}
theorem patSameA_calls(A B:OA)(c d:Nat)(f t o n sz f2 t2 o2 n2 sz2:Int)(l m:List Stp)(w:World)(hl:l.length<=3518437208780)(hm:m.length<=3518437208780)(hs:Sps w A l)(hr:Sps w B m):
  Calls Tryz.prog 35 #[.agg #[iv f,iv t,iv o,iv n,iv sz,.slice A l.length c],.agg #[iv f2,iv t2,iv o2,iv n2,iv sz2,.slice B m.length d]] w (RetB w (.bool (decide ((⟨f,t,o,n,sz,l⟩:Pat)=⟨f2,t2,o2,n2,sz2,m⟩)))):=by
 have hb:Below w.heap.size w ((w.alloc (.cells #[iv f,iv t,iv o,iv n,iv sz,.slice A l.length c] 35)).alloc (.cells #[iv f2,iv t2,iv o2,iv n2,iv sz2,.slice B m.length d] 35)):=((Below.refl _ _).alloc (Nat.le_refl _) _).alloc (by simp) _;obtain⟨r,hR⟩:∃r,decide ((⟨f,t,o,n,sz,l⟩:Pat)=⟨f2,t2,o2,n2,sz2,m⟩)=r:=⟨_,rfl⟩;rw[hR];have HR:=qH hR;clear hR;have HB:=qH hb;have HC:=qH (equalOps_calls A B c d l m _ hl hm (hs.stays hb) (hr.stays hb));clear hb hs hr;by_cases h5:¬f=f2
 ·have hz:false=r:=(decide_eq_false (fun e=>by injection e;contradiction)).symm.trans HR.out;have HZ:=qH hz;have q:(f==f2)=false:=by simp[h5]
  clear HC hz h5;go_enter Tryz.func35,Tryz.ntmps35;exact x4jq
 have h5:=Decidable.not_not.1 h5;subst h5;have q5:(f==f)=true:=by simp
 by_cases h1:¬t=t2
 ·have hz:false=r:=(decide_eq_false (fun e=>by injection e;contradiction)).symm.trans HR.out;have HZ:=qH hz;have q:(t==t2)=false:=by simp[h1]
  clear HC hz h1;go_enter Tryz.func35,Tryz.ntmps35;exact x4jq
 have h1:=Decidable.not_not.1 h1;subst h1;have q1:(t==t)=true:=by simp
 by_cases h1:¬o=o2
 ·have hz:false=r:=(decide_eq_false (fun e=>by injection e;contradiction)).symm.trans HR.out;have HZ:=qH hz;have q:(o==o2)=false:=by simp[h1]
  clear HC hz h1;go_enter Tryz.func35,Tryz.ntmps35;exact x4jq
 have h1:=Decidable.not_not.1 h1;subst h1;have q1:(o==o)=true:=by simp
 by_cases h1:¬n=n2
 ·have hz:false=r:=(decide_eq_false (fun e=>by injection e;contradiction)).symm.trans HR.out;have HZ:=qH hz;have q:(n==n2)=false:=by simp[h1]
  clear HC hz h1;go_enter Tryz.func35,Tryz.ntmps35;exact x4jq
 have h1:=Decidable.not_not.1 h1;subst h1;have q1:(n==n)=true:=by simp
 by_cases h1:¬sz=sz2
 ·have hz:false=r:=(decide_eq_false (fun e=>by injection e;contradiction)).symm.trans HR.out;have HZ:=qH hz;have q:(sz==sz2)=false:=by simp[h1]
  clear HC hz h1;go_enter Tryz.func35,Tryz.ntmps35;exact x4jq
 have h1:=Decidable.not_not.1 h1;subst h1;have q1:(sz==sz)=true:=by simp
 have hz:decide (l=m)=r:=by
  exact x0f0
 have HZ:=qH hz;clear hz;go_enter Tryz.func35,Tryz.ntmps35;exact x483
theorem x0oq(h:Y:=by
 exact absurd ⟨by simpa[Rec.at_]using n1,by simp,fun _=>n2,by simpa[Rec.at_]using h⟩ hn):Y:=h
theorem x2tz(h:Y:=by
 have HI:=qH hI;clear hI;go_wp2_with fail;all_goals first|(go_ret;exact⟨ret_int HF.out.symm,hB.alloc hB.size _⟩)|(exfalso;have h:=HI.out;unfold InfRange at h;simp only at h;omega)):Y:=h
theorem x3eu(h:Y:=by
 exact absurd ⟨by simpa[Rec.at_]using n1,fun _=>⟨by simpa[Rec.at_]using n2,by simpa[Rec.at_]using e1⟩,by simp,by simpa[Rec.at_]using h⟩ hn):Y:=h
theorem x4hb(h:Y:=by
 go_wp2_with fail;go_quiet (fail)
 go_wp2_with fail;go_ret;exact⟨ret_int HF.out.symm,Below.drewN' hB _⟩):Y:=h
theorem x61u(h:Y:=by
 have HZ:=qH hz;clear hz;go_wp2_with fail;all_goals first|(go_ret;exact⟨ret_int HF.out.symm,hB.alloc hB.size _⟩)|(exfalso;have h:=HZ.out;omega)):Y:=h
theorem x88h(h:Y:=by
 go_wp2_with fail;go_roundw
 case rel=>exact⟨2,by omega,rfl,hB.alloc hB.size _,blk_old HK.out,fun _=>HA.out,fun _=>HI.out⟩
 case measure=>simp[intOf]<;>omega):Y:=h
theorem x8bj(h:Y:=by
 go_wp2_with fail;go_roundw
 case rel=>exact⟨1,by omega,rfl,hB.alloc hB.size _,blk_old HK.out,fun _=>HI.out,by omega⟩
 case measure=>simp[intOf]<;>omega):Y:=h
theorem recCheck_range(g ac:Int)(tr:Bool)(ts fl va sa ca vb sb cb:Int)(w:World)(h:¬(1<=g∧g<=1000000∧0<=ac∧ac<=1∧0<=ts∧ts<=3∧1<=fl∧fl<=30)):
  Calls Tryz.prog 87 #[.agg #[iv g,iv ac,.bool tr,iv ts,iv fl,iv va,iv sa,iv ca,iv vb,iv sb,iv cb]] w (RetB w (iv 2)):=by
 have H:=qH h;clear h;go_enter Tryz.func87,Tryz.ntmps87;go_wp2_with fail;all_goals first|(go_ret;exact⟨rfl,(Below.refl _ _).alloc (Nat.le_refl _) _⟩)|(exfalso;have h:=H.out;omega)
theorem recCheck_rest(g ac:Int)(tr:Bool)(ts fl va sa ca vb sb cb:Int)(w:World)(h1:1<=g)(h2:g<=1000000)(h3:0<=ac)(h4:ac<=1)(h5:0<=ts)(h6:ts<=3)(h7:1<=fl)(h8:fl<=30):
  Calls Tryz.prog 87 #[.agg #[iv g,iv ac,.bool tr,iv ts,iv fl,iv va,iv sa,iv ca,iv vb,iv sb,iv cb]] w (RetB w (iv (recCheck ⟨g,ac,tr,ts,fl,⟨va,sa,ca⟩,⟨vb,sb,cb⟩⟩))):=by
 have i2:∀w,(Instr.index 26 (.agg #[iv va,iv sa,iv ca,iv vb,iv sb,iv cb]) (.int .i64 0)).run Tryz.prog w=.ok (.agg #[iv va,iv sa,iv ca]) w:=fun _=>by kernel_rfl
 have i1:∀w,(Instr.index 26 (.agg #[iv va,iv sa,iv ca,iv vb,iv sb,iv cb]) (.int .i64 1)).run Tryz.prog w=.ok (.agg #[iv vb,iv sb,iv cb]) w:=fun _=>by kernel_rfl
 go_enter Tryz.func87,Tryz.ntmps87;go_wp2_with fail;go_loopw [45] (fun i wr=>∃k:Nat,k<=2∧i=.int .i64 k∧Below w.heap.size w wr∧(wr.heap[w.heap.size]?=some (.cells #[iv g,iv ac,.bool tr,iv ts,iv fl,iv va,iv sa,iv ca,iv vb,iv sb,iv cb] 28))∧(0<k->infCheck ⟨va,sa,ca⟩=0)∧(1<k->infCheck ⟨vb,sb,cb⟩=0)) (fun i _=>(2-intOf i).toNat)
 case atStart=>exact⟨0,by omega,rfl,(Below.refl _ _).alloc (Nat.le_refl _) _,blk_top rfl,by omega,by omega⟩
 case round=>
  obtain⟨k,hk,rfl,hB,hblk,ha,hb⟩:=hrel;have hrg:RangeOk ⟨g,ac,tr,ts,fl,⟨va,sa,ca⟩,⟨vb,sb,cb⟩⟩:=⟨h1,h2,h3,h4,h5,h6,h7,h8⟩;have HR:=qH hrg;clear hrg;by_cases hlt:k<2
  ·rcases (show k=0∨k=1 by omega)with rfl|rfl
   ·have HK:=qH hblk;clear hblk ha hb;by_cases hI:InfRange ⟨va,sa,ca⟩
    ·obtain⟨j1,j2,j3,j4,j5,j6⟩:=hI;simp only at j1 j2 j3 j4 j5 j6;by_cases hv:va=0
     ·subst hv;by_cases hz:sa=0∧ca=0
      ·obtain⟨rfl,rfl⟩:=hz;have HI:Hid (infCheck ⟨0,0,0⟩=0):=infCheck_ok ⟨j1,j2,j3,j4,j5,j6⟩ (fun _=>⟨rfl,rfl⟩);clear j1 j2 j3 j4 j5 j6;exact x8bj
      have HF:=qH (recCheck_a HR.out (infCheck_form ⟨j1,j2,j3,j4,j5,j6⟩ rfl hz) (by omega));exact x61u
     have HI:Hid (infCheck ⟨va,sa,ca⟩=0):=infCheck_ok ⟨j1,j2,j3,j4,j5,j6⟩ (fun h=>absurd h hv);have hv1:(va==0)=false:=by rw[beq_eq_false_iff_ne];exact hv
     clear hv;exact x8bj
    have HF:=qH (recCheck_a HR.out (infCheck_bad hI) (by omega));exact x2tz
   ·have HK:=qH hblk;have HA:=qH (ha (by omega));clear hblk ha hb;by_cases hI:InfRange ⟨vb,sb,cb⟩
    ·obtain⟨j1,j2,j3,j4,j5,j6⟩:=hI;simp only at j1 j2 j3 j4 j5 j6;by_cases hv:vb=0
     ·subst hv;by_cases hz:sb=0∧cb=0
      ·obtain⟨rfl,rfl⟩:=hz;have HI:Hid (infCheck ⟨0,0,0⟩=0):=infCheck_ok ⟨j1,j2,j3,j4,j5,j6⟩ (fun _=>⟨rfl,rfl⟩);clear j1 j2 j3 j4 j5 j6;exact x88h
      have HF:=qH (recCheck_b HR.out HA.out (infCheck_form ⟨j1,j2,j3,j4,j5,j6⟩ rfl hz) (by omega));exact x61u
     have HI:Hid (infCheck ⟨vb,sb,cb⟩=0):=infCheck_ok ⟨j1,j2,j3,j4,j5,j6⟩ (fun h=>absurd h hv);have hv1:(vb==0)=false:=by rw[beq_eq_false_iff_ne];exact hv
     clear hv;exact x88h
    have HF:=qH (recCheck_b HR.out HA.out (infCheck_bad hI) (by omega));exact x2tz
  obtain rfl:k=2:=by omega
  have HA:=qH (ha (by omega));have HB1:=qH (hb (by omega));clear ha hb;have c1:∀j,wr.cell? ⟨w.heap.size,j,none⟩=(#[iv g,iv ac,.bool tr,iv ts,iv fl,iv va,iv sa,iv ca,iv vb,iv sb,iv cb]:Array Value)[j]?:=fun j=>cell_of_row _ _ _ _ _ _ hblk;have k1:=c1 1;have k2:=c1 2;have k3:=c1 3;have k4:=c1 4;have k5:=c1 5;have k6:=c1 8;simp at k1 k2 k3 k4 k5 k6;clear c1 hblk;by_cases hF:FormOk ⟨g,ac,tr,ts,fl,⟨va,sa,ca⟩,⟨vb,sb,cb⟩⟩
  ·have HF:=qH (recCheck_ok HR.out HA.out HB1.out hF);obtain⟨f1,f2,f3,f4⟩:=hF;rcases (show ac=0∨ac=1 by omega)with rfl|rfl
   ·simp[Rec.at_]at f1 f2 f3 f4
    cases tr
    ·have e1:(va==0)=false:=by rw[beq_eq_false_iff_ne];simpa using f1
     have e1:(ts !=0)=false:=by have:=f3 rfl;simp[this]
     have e1:fl<=va:=by simpa using f4
     clear f1 f2 f3 f4;exact x4hb
    have e1:(va==0)=false:=by rw[beq_eq_false_iff_ne];simpa using f1
    have e1:(vb==0)=false:=by rw[beq_eq_false_iff_ne];simpa using (f2 rfl).1
    have e1:fl<=vb:=by simpa using (f2 rfl).2
    have d1:decide (vb<fl)=false:=by simpa using e1
    have e1:fl<=va:=by simpa using f4
    clear f1 f2 f3 f4;exact x4hb
   simp[Rec.at_]at f1 f2 f3 f4
   cases tr
   ·have e1:(vb==0)=false:=by rw[beq_eq_false_iff_ne];simpa using f1
    have e1:(ts !=0)=false:=by have:=f3 rfl;simp[this]
    have e1:fl<=vb:=by simpa using f4
    clear f1 f2 f3 f4;exact x4hb
   have e1:(vb==0)=false:=by rw[beq_eq_false_iff_ne];simpa using f1
   have e1:(va==0)=false:=by rw[beq_eq_false_iff_ne];simpa using (f2 rfl).1
   have e1:fl<=va:=by simpa using (f2 rfl).2
   have d1:decide (va<fl)=false:=by simpa using e1
   have e1:fl<=vb:=by simpa using f4
   clear f1 f2 f3 f4;exact x4hb
  have HF:=qH (recCheck_form HR.out HA.out HB1.out hF);rcases (show ac=0∨ac=1 by omega)with rfl|rfl
  ·cases tr
   ·have hn:=hF;clear hF;by_cases n1:va=0
    ·have e1:(va==0)=true:=by rw[beq_iff_eq];exact n1
     clear n1;clear hn;exact x4hb
    have e1:(va==0)=false:=by rw[beq_eq_false_iff_ne];exact n1
    by_cases n2:ts=0
    ·have e1:(ts !=0)=false:=by simp[n2]
     have e1:va<fl:=by
      rcases Int.lt_or_le va fl with h|h
      ·exact h
      exact x0oq
     clear n1 n2;clear hn;exact x4hb
    have e1:(ts !=0)=true:=by simp[n2]
    clear n1 n2;clear hn;exact x4hb
   ·have hn:=hF;clear hF;by_cases n1:va=0
    ·have e1:(va==0)=true:=by rw[beq_iff_eq];exact n1
     clear n1;clear hn;exact x4hb
    have e1:(va==0)=false:=by rw[beq_eq_false_iff_ne];exact n1
    by_cases n2:vb=0
    ·have e1:(vb==0)=true:=by rw[beq_iff_eq];exact n2
     clear n1 n2;clear hn;exact x4hb
    have e1:(vb==0)=false:=by rw[beq_eq_false_iff_ne];exact n2
    by_cases n3:vb<fl
    ·clear n1 n2;clear hn;exact x4hb
    have e1:fl<=vb:=by omega
    have d1:decide (vb<fl)=false:=by simpa using e1
    have e1:va<fl:=by
     rcases Int.lt_or_le va fl with h|h
     ·exact h
     exact x3eu
    clear n1 n2 n3;clear hn;exact x4hb
  cases tr
  ·have hn:=hF;clear hF;by_cases n1:vb=0
   ·have e1:(vb==0)=true:=by rw[beq_iff_eq];exact n1
    clear n1;clear hn;exact x4hb
   have e1:(vb==0)=false:=by rw[beq_eq_false_iff_ne];exact n1
   by_cases n2:ts=0
   ·have e1:(ts !=0)=false:=by simp[n2]
    have e1:vb<fl:=by
     rcases Int.lt_or_le vb fl with h|h
     ·exact h
     exact x0oq
    clear n1 n2;clear hn;exact x4hb
   have e1:(ts !=0)=true:=by simp[n2]
   clear n1 n2;clear hn;exact x4hb
  have hn:=hF;clear hF;by_cases n1:vb=0
  ·have e1:(vb==0)=true:=by rw[beq_iff_eq];exact n1
   clear n1;clear hn;exact x4hb
  have e1:(vb==0)=false:=by rw[beq_eq_false_iff_ne];exact n1
  by_cases n2:va=0
  ·have e1:(va==0)=true:=by rw[beq_iff_eq];exact n2
   clear n1 n2;clear hn;exact x4hb
  have e1:(va==0)=false:=by rw[beq_eq_false_iff_ne];exact n2
  by_cases n3:va<fl
  ·clear n1 n2;clear hn;exact x4hb
  have e1:fl<=va:=by omega
  have d1:decide (va<fl)=false:=by simpa using e1
  have e1:vb<fl:=by
   rcases Int.lt_or_le vb fl with h|h
   ·exact h
   exact x3eu
  clear n1 n2 n3;clear hn;exact x4hb
theorem recCheck_calls(g ac:Int)(tr:Bool)(ts fl va sa ca vb sb cb:Int)(w:World):
  Calls Tryz.prog 87 #[.agg #[iv g,iv ac,.bool tr,iv ts,iv fl,iv va,iv sa,iv ca,iv vb,iv sb,iv cb]] w (RetB w (iv (recCheck ⟨g,ac,tr,ts,fl,⟨va,sa,ca⟩,⟨vb,sb,cb⟩⟩))):=by
 by_cases h:RangeOk ⟨g,ac,tr,ts,fl,⟨va,sa,ca⟩,⟨vb,sb,cb⟩⟩
 ·obtain⟨h1,h2,h3,h4,h5,h6,h7,h8⟩:=h;exact recCheck_rest g ac tr ts fl va sa ca vb sb cb w h1 h2 h3 h4 h5 h6 h7 h8
 rw[recCheck_bad h];exact recCheck_range g ac tr ts fl va sa ca vb sb cb w h
theorem cloneOps_calls(A:OA)(n c:Nat)(cs:List Value)(w:World)(hl:cs.length=n*3)(hn0:n<=3518437208883)(hr:Src w A cs)(h1:∀u∈cs,u.oneCell'=true):
  Calls Tryz.prog 114 #[.slice A n c] w (SlRet w 121 3 n cs):=by
 rcases A with _|ad
 ·have h1:cs.length=0:=by
   exact x5fs
  obtain rfl:n=0:=by omega
  obtain rfl:cs=[]:=List.eq_nil_of_length_eq_zero h1;have hn:=fun (wx:World) (a:OA) (n c n' c':Nat)=>Lib.run_eql_slice_nil (P:=Tryz.prog) wx 33 121 a n c n' c' Tryz.underlying33;clear h1 hl;go_enter Tryz.func114,Tryz.ntmps114;exact x4d9
 have hn:=fun (wx:World) (a:OA) (n c n' c':Nat)=>Lib.run_eql_slice_nil (P:=Tryz.prog) wx 33 121 a n c n' c' Tryz.underlying33;have ho:Own (w.alloc (.cells #[] 121)) w.heap.size 121 3 (some ⟨w.heap.size,0,none⟩) 0 0 []:=own_zero w _ _;have hs:=hr.stays ((Below.refl w.heap.size w).alloc (Nat.le_refl _) (.cells #[] 121));have hb1:0+n<=3518437208883:=by omega
 have hb2:w.heap.size<=(w.alloc (.cells #[] 121)).heap.size:=by simp
 have HL:=qH hl;clear hl;go_enter Tryz.func114,Tryz.ntmps114;go_wp2_with (at_builtin;refine wpList_app _ rfl _ _ 33 rfl elOpsB w.heap.size (some ⟨w.heap.size,0,none⟩) 0 0 [] rfl ho (some ad) n c cs rfl hs HL.out h1 hb1 hb2 ?_;intro A' c' w1 hown hg hb hx);exact x6v2
theorem cloneChunks_calls(A:OA)(n c:Nat)(cs:List Value)(w:World)(hl:cs.length=n*5)(hn0:n<=2513169434916)(hr:Src w A cs)(h1:∀u∈cs,u.oneCell'=true):
  Calls Tryz.prog 103 #[.slice A n c] w (SlRet w 39 5 n cs):=by
 rcases A with _|ad
 ·have h1:cs.length=0:=by
   exact x5fs
  obtain rfl:n=0:=by omega
  obtain rfl:cs=[]:=List.eq_nil_of_length_eq_zero h1;have hn:=fun (wx:World) (a:OA) (n c n' c':Nat)=>Lib.run_eql_slice_nil (P:=Tryz.prog) wx 32 39 a n c n' c' Tryz.underlying32;clear h1 hl;go_enter Tryz.func103,Tryz.ntmps103;exact x4d9
 have hn:=fun (wx:World) (a:OA) (n c n' c':Nat)=>Lib.run_eql_slice_nil (P:=Tryz.prog) wx 32 39 a n c n' c' Tryz.underlying32;have ho:Own (w.alloc (.cells #[] 39)) w.heap.size 39 5 (some ⟨w.heap.size,0,none⟩) 0 0 []:=own_zero w _ _;have hs:=hr.stays ((Below.refl w.heap.size w).alloc (Nat.le_refl _) (.cells #[] 39));have hb1:0+n<=2513169434916:=by omega
 have hb2:w.heap.size<=(w.alloc (.cells #[] 39)).heap.size:=by simp
 have HL:=qH hl;clear hl;go_enter Tryz.func103,Tryz.ntmps103;go_wp2_with (at_builtin;refine wpList_app _ rfl _ _ 32 rfl elChunksB w.heap.size (some ⟨w.heap.size,0,none⟩) 0 0 [] rfl ho (some ad) n c cs rfl hs HL.out h1 hb1 hb2 ?_;intro A' c' w1 hown hg hb hx);exact x6v2
def over(L:List Value)(o:Nat)(cs:List Value):List Value:=L.take o++cs++L.drop (o+cs.length)
theorem over_len(L:List Value)(o:Nat)(cs:List Value)(h:o+cs.length<=L.length):(over L o cs).length=L.length:=by simp[over];omega
theorem over_at(L:List Value)(o:Nat)(cs:List Value)(h:o+cs.length<=L.length)(j:Nat):(over L o cs)[j]?=if o<=j∧j<o+cs.length then cs[j-o]? else L[j]?:=by
 have hl:(L.take o).length=o:=by simp;omega
 unfold over;by_cases h1:j<o
 ·rw[List.append_assoc,List.getElem?_append_left (by omega),List.getElem?_take,if_pos h1,if_neg (by omega)]
 by_cases h1:j<o+cs.length
 ·rw[List.append_assoc,List.getElem?_append_right (by omega),List.getElem?_append_left (by omega),hl,if_pos ⟨by omega,h1⟩]
 rw[List.getElem?_append_right (by simp;omega),List.getElem?_drop,if_neg (by omega)];congr 1;simp;omega
theorem run_copy_rowN{P:Program}(w:World)(dT sT ty elem:TypeId)(g o dLen dCap:Nat)(a:Addr)(sLen sCap:Nat)(cur:List Value)(t:TypeId)(cs:List Value)(size:Nat)
  (hu:P.underlying dT=some (.slice elem)) (hs:(P.info? elem).map (·.size)=some size)
  (hg:w.heap[g]?=some (.cells cur.toArray t (0,0))) (hn:cs.length=Nat.min sLen dLen*size)
  (hsrc:∀j v,cs[j]?=some v->w.cell? (a.add j)=some v) (hfit:o+cs.length<=cur.length) (h1:∀v∈cs,v.oneCell'=true):
  (Builtin.copy_ #[dT,sT] ty #[.slice (some ⟨g,o,none⟩) dLen dCap,.slice (some a) sLen sCap]).run P w=
   .ok (goInt (Nat.min sLen dLen)) (w.setRow g (over cur o cs).toArray):=by
 have hl:=run_loadCells_list (P:=P) w a cs hsrc;have hst:=run_storeCells_at P g o t cs 0 cur.toArray w hg (by simpa using hfit) h1
 cases hq:P.info? elem with
 |none=>simp[hq]at hs
 |some i=>
  have hi:i.size=size:=by simpa[hq]using hs
  rw[hn]at hl;simp[Builtin.copy_,run_underlying hu,Builtin.lenOf,Builtin.firstCells,sizeOf,typeInfo,hq,hi,hl,hst,over]
theorem wp_copyN{P:Program}{o:Oper}{a:Act}{K:Act->World->Prop}{Q:Exit->Act->World->Prop}(d s:Operand)(t t':TypeId)
  (ho:o.op=.call {callee:=.builtin .copy,args:=#[d,s],argTypes:=#[t,t']}) (v u:Value) (hd:a.eval d=v) (hs:a.eval s=u) {v':Value} {w':World}
  (hr:(Builtin.copy_ #[t,t'] o.type #[v,u]).run P w=.ok v' w') (h:K (a.put o.dst v') w'):o.wp P a w K Q:=by
 unfold Oper.wp execOp;simp only[ho,resolve,invoke,builtin,Sem.run_bind,Sem.run_pure,Result.andThen_ok,List.map_toArray,List.map_cons,List.map_nil,hd,hs,hr];exact h
theorem ins_room(L ns:List Value)(k N:Nat)(hk:k<=N)(hL:N+ns.length<=L.length):
  (over (over L (k+ns.length) ((L.take N).drop k)) k ns).take (N+ns.length)=(L.take N).take k++ns++(L.take N).drop k:=by
 have h1:((L.take N).drop k).length=N-k:=by simp;omega
 have h1:=over_len L (k+ns.length) ((L.take N).drop k) (by omega)
 apply List.ext_getElem?
 intro j;rw[List.getElem?_take];by_cases hj:j<N+ns.length
 ·rw[if_pos hj,over_at _ _ _ (by omega)];by_cases a1:j<k
  ·rw[if_neg (by omega),over_at _ _ _ (by omega),if_neg (by omega),List.append_assoc,List.getElem?_append_left (by simp;omega),List.getElem?_take,if_pos a1,List.getElem?_take,if_pos (by omega)]
  by_cases a1:j<k+ns.length
  ·rw[if_pos ⟨by omega,a1⟩,List.append_assoc,List.getElem?_append_right (by simp;omega),List.getElem?_append_left (by simp;omega)];congr 1;simp;omega
  rw[if_neg (by omega),over_at _ _ _ (by omega),if_pos ⟨by omega,by omega⟩,List.getElem?_append_right (by simp;omega)];congr 1;simp;omega
 rw[if_neg hj]
 symm
 apply List.getElem?_eq_none
 simp;omega
theorem ins_grown(X Z ns:List Value)(k N m:Nat)(hk:k<=N)(hX:X.length=N)(hm:ns.length=m)(hZ:N+m<=k+Z.length):
  (over (over (X.take k++Z) k ns) (k+m) (X.drop k)).take (N+m)=X.take k++ns++X.drop k:=by
 have h3:(X.take k++Z).length=k+Z.length:=by simp;omega
 have h1:(X.drop k).length=N-k:=by simp;omega
 have h1:=over_len (X.take k++Z) k ns (by omega)
 apply List.ext_getElem?
 intro j;rw[List.getElem?_take];by_cases hj:j<N+m
 ·rw[if_pos hj,over_at _ _ _ (by omega)];by_cases a1:j<k
  ·rw[if_neg (by omega),over_at _ _ _ (by omega),if_neg (by omega),List.getElem?_append_left (by simp;omega),List.append_assoc,List.getElem?_append_left (by simp;omega)]
  by_cases a1:j<k+m
  ·rw[if_neg (by omega),over_at _ _ _ (by omega),if_pos ⟨by omega,by omega⟩,List.append_assoc,List.getElem?_append_right (by simp;omega),List.getElem?_append_left (by simp;omega)];congr 1;simp;omega
  rw[if_pos ⟨by omega,by omega⟩,List.getElem?_append_right (by simp;omega)];congr 1;simp;omega
 rw[if_neg hj]
 symm
 apply List.getElem?_eq_none
 simp;omega
theorem refSame_calls(A B:OA)(c d:Nat)(l m:List Stp)(w:World)(hl:l.length<=3518437208780)(hm:m.length<=3518437208780)(ha:Sps w A l)(hb:Sps w B m):
  Calls Tryz.prog 62 #[.slice A l.length c,.slice B m.length d] w (RetB w (.bool (decide (l=m)))):=by
 by_cases hne:l.length=m.length
 ·have hdl:((l.length:Int) !=(m.length:Int))=false:=by simp[hne]
  have HE:=qH hne;have hm1:l.length<=m.length:=by omega
  have hm1:m.length<=l.length:=by omega
  clear hne;have HA:=qH ha;have HB2:=qH hb;clear ha hb;go_enter Tryz.func62,Tryz.ntmps62;go_wp2_with fail;go_loopw [14] (fun i wr=>∃k:Nat,k<=l.length∧i=.int .i64 k∧Hid (l.take k=m.take k)∧Hid (Below w.heap.size w wr)) (fun i _=>l.length-(intOf i).toNat)
  case atStart=>exact⟨0,Nat.zero_le _,rfl,qH rfl,qH (Below.refl _ _)⟩
  case round=>
   obtain⟨k,hk,rfl,HT,HB⟩:=hrel;by_cases hlt:k<l.length
   ·obtain⟨b1,o1,B1,c1,rfl,hs1,p6,p1,p2,p3,p4,p5,-,-⟩:=(HA.out.stays HB.out).at_ hlt;have hsz:=HB.out.size;have hbx:Below wr.heap.size wr (wr.alloc (.cells #[iv l[k].at_,iv l[k].len,.slice B1 l[k].data.length c1] 121)):=(Below.refl _ _).alloc (Nat.le_refl _) _;obtain⟨b1,o1,B2,c2,rfl,hs2,r6,r1,r2,r3,r4,r5,-,-⟩:=((HB2.out.stays HB.out).stays hbx).at_ (i:=k) (by omega);obtain⟨b2,o1,B3,c3,e1,hs3,-⟩:=(HB2.out.stays HB.out).at_ (i:=k) (by omega);injection e1 with e1;injection e1 with e4 e5;subst e4 e5;have HBX:=qH (HB.out.trans (hbx.mono hsz));have HX:Hid (l[k]=m[k]'(by omega)->l.take (k+1)=m.take (k+1)):=qH fun e=>take_eq_succ HT.out hlt (by omega) e;have HN:Hid (l[k]≠m[k]'(by omega)->l≠m):=qH fun e=>ne_of_at hlt (by omega) e;have p5x:=p5.stays hbx;generalize l[k]=x at *
    generalize m[k]'(by omega)=y at *
    obtain⟨xa,xl,xd⟩:=x;obtain⟨ya,yl,yd⟩:=y;dsimp only at *
    clear p5 hbx HA HB2;have hkm:k<m.length:=by omega
    have hsx:wr.heap.size<=(wr.alloc (.cells #[iv xa,iv xl,.slice B1 xd.length c1] 121)).heap.size:=by simp
    obtain⟨v1,hv1⟩:∃v,(xa !=ya)=v:=⟨_,rfl⟩;obtain⟨v2,hv2⟩:∃v,(xl !=yl)=v:=⟨_,rfl⟩;obtain⟨v3,hv3⟩:∃v,decide (xd=yd)=v:=⟨_,rfl⟩;have HV:Hid ((v1 || v2 || !v3)=decide ((⟨xa,xl,xd⟩:Stp)≠⟨ya,yl,yd⟩)):=qH (by
     rw[<-hv1,<-hv2,<-hv3];by_cases h1:xa=ya<;>by_cases h2:xl=yl<;>by_cases h3:xd=yd<;>simp[h1,h2,h3])
    go_upto_region 6 with fail
    have q3:(wr.alloc (.cells #[iv xa,iv xl,.slice B1 xd.length c1] 121)).cell? ⟨wr.heap.size,0,none⟩=some (iv xa):=by go_simp
    have q1:(wr.alloc (.cells #[iv xa,iv xl,.slice B1 xd.length c1] 121)).cell? ⟨wr.heap.size,1,none⟩=some (iv xl):=by go_simp
    have q2:(wr.alloc (.cells #[iv xa,iv xl,.slice B1 xd.length c1] 121)).cell? ⟨wr.heap.size,2,none⟩=some (.slice B1 xd.length c1):=by go_simp
    have hs3:wr.heap.size<(wr.alloc (.cells #[iv xa,iv xl,.slice B1 xd.length c1] 121)).heap.size:=by simp
    have hb1:b1<(wr.alloc (.cells #[iv xa,iv xl,.slice B1 xd.length c1] 121)).heap.size:=by simp;omega
    obtain⟨W1,hw1⟩:∃W1,(wr.alloc (.cells #[iv xa,iv xl,.slice B1 xd.length c1] 121))=W1:=⟨_,rfl⟩;rw[hw1]at HBX p5x r5 r6 r1 r2 q3 q1 q2 hs3 hb1⊢;clear hw1 hs2 hs1 p6 p1 p2;go_cut [47] (fun v wx=>v=.bool (v1 || v2 || !v3)∧Hid (Below W1.heap.size W1 wx))
    case first=>
     have HQ:=qH (fun n=>bytesEqual_calls B1 B2 c1 c2 xd yd (W1.drewN n) p3 r3 (p5x.drewN n) (r5.drewN n));rw[hv3]at HQ;have hk1:(k:Int)<(m.length:Int):=by omega
     clear hs3 hb1 HX HN HV p5x r5 hv3 p3 p4 r3 r4
     cases v1<;>cases v2<;>cases v3<;>(
      go_quiet ((go_at_call 29;exact Calls.quiet_of_same ((HQ.out _).mono fun _ _ h=>⟨h.1,h.2.symm⟩)))
      go_wp2_with fail;go_meet
      case rel=>exact⟨rfl,qH (below_drewN _ _)⟩)
    case rest=>
    obtain⟨rfl,hcb⟩:=hcut;have HB1:=qH (HBX.out.trans (hcb.out.mono HBX.out.size));clear q3 q1 q2 r6 r1 r2 HBX hcb hs3 hb1 hv1 hv2 hv3 p5x r5;by_cases hx:(⟨xa,xl,xd⟩:Stp)=⟨ya,yl,yd⟩
    ·have hv:(v1 || v2 || !v3)=false:=HV.out.trans (decide_eq_false (fun h=>h hx));have HX1:=qH (HX.out hx);rw[hv];clear hx HV HN HX;go_wp2_with fail;go_roundw
     case rel=>exact⟨k+1,by omega,by go_num,HX1,HB1⟩
     case measure=>simp[intOf];omega
    have hv:(v1 || v2 || !v3)=true:=HV.out.trans (decide_eq_true hx);have HN1:=qH (HN.out hx);rw[hv];clear hx HV HN HX;go_wp2_with fail;go_ret;exact⟨ret_bool (decide_eq_false HN1.out).symm,HB1.out⟩
   obtain rfl:k=l.length:=by omega
   have HL:Hid (l=m):=qH (by
    have:=HT.out;rwa [List.take_length,HE.out,List.take_length]at this)
   go_wp2_with fail;go_ret;exact⟨ret_bool (decide_eq_true HL.out).symm,HB.out⟩
 have hdl:((l.length:Int) !=(m.length:Int))=true:=by simp;omega
 have HE:Hid (l≠m):=qH fun e=>hne (by rw[e]);clear hne ha hb;go_enter Tryz.func62,Tryz.ntmps62;go_wp2_with fail;go_ret;exact⟨ret_bool (decide_eq_false HE.out).symm,Below.refl _ _⟩
theorem refPatSameA_calls(A B:OA)(c d:Nat)(f t o n sz f2 t2 o2 n2 sz2:Int)(l m:List Stp)(w:World)(hl:l.length<=3518437208780)(hm:m.length<=3518437208780)(hs:Sps w A l)(hr:Sps w B m):
  Calls Tryz.prog 23 #[.agg #[iv f,iv t,iv o,iv n,iv sz,.slice A l.length c],.agg #[iv f2,iv t2,iv o2,iv n2,iv sz2,.slice B m.length d]] w (RetB w (.bool (decide ((⟨f,t,o,n,sz,l⟩:Pat)=⟨f2,t2,o2,n2,sz2,m⟩)))):=by
 have hb:Below w.heap.size w ((w.alloc (.cells #[iv f,iv t,iv o,iv n,iv sz,.slice A l.length c] 35)).alloc (.cells #[iv f2,iv t2,iv o2,iv n2,iv sz2,.slice B m.length d] 35)):=((Below.refl _ _).alloc (Nat.le_refl _) _).alloc (by simp) _;obtain⟨r,hR⟩:∃r,decide ((⟨f,t,o,n,sz,l⟩:Pat)=⟨f2,t2,o2,n2,sz2,m⟩)=r:=⟨_,rfl⟩;rw[hR];have HR:=qH hR;clear hR;have HB:=qH hb;have HC:=qH (refSame_calls A B c d l m _ hl hm (hs.stays hb) (hr.stays hb));clear hb hs hr;by_cases h5:¬f=f2
 ·have hz:false=r:=(decide_eq_false (fun e=>by injection e;contradiction)).symm.trans HR.out;have HZ:=qH hz;have q:(f==f2)=false:=by simp[h5]
  clear HC hz h5;go_enter Tryz.func23,Tryz.ntmps23;exact x4jq
 have h5:=Decidable.not_not.1 h5;subst h5;have q5:(f==f)=true:=by simp
 by_cases h1:¬t=t2
 ·have hz:false=r:=(decide_eq_false (fun e=>by injection e;contradiction)).symm.trans HR.out;have HZ:=qH hz;have q:(t==t2)=false:=by simp[h1]
  clear HC hz h1;go_enter Tryz.func23,Tryz.ntmps23;exact x4jq
 have h1:=Decidable.not_not.1 h1;subst h1;have q1:(t==t)=true:=by simp
 by_cases h1:¬o=o2
 ·have hz:false=r:=(decide_eq_false (fun e=>by injection e;contradiction)).symm.trans HR.out;have HZ:=qH hz;have q:(o==o2)=false:=by simp[h1]
  clear HC hz h1;go_enter Tryz.func23,Tryz.ntmps23;exact x4jq
 have h1:=Decidable.not_not.1 h1;subst h1;have q1:(o==o)=true:=by simp
 by_cases h1:¬n=n2
 ·have hz:false=r:=(decide_eq_false (fun e=>by injection e;contradiction)).symm.trans HR.out;have HZ:=qH hz;have q:(n==n2)=false:=by simp[h1]
  clear HC hz h1;go_enter Tryz.func23,Tryz.ntmps23;exact x4jq
 have h1:=Decidable.not_not.1 h1;subst h1;have q1:(n==n)=true:=by simp
 by_cases h1:¬sz=sz2
 ·have hz:false=r:=(decide_eq_false (fun e=>by injection e;contradiction)).symm.trans HR.out;have HZ:=qH hz;have q:(sz==sz2)=false:=by simp[h1]
  clear HC hz h1;go_enter Tryz.func23,Tryz.ntmps23;exact x4jq
 have h1:=Decidable.not_not.1 h1;subst h1;have q1:(sz==sz)=true:=by simp
 have hz:decide (l=m)=r:=by
  exact x0f0
 have HZ:=qH hz;clear hz;go_enter Tryz.func23,Tryz.ntmps23;exact x483
theorem refApplied_bad(A:OA)(c:Nat)(old:LU)(B:OA)(d:Nat)(l:List Stp)(size:Int)(w:World)(ho:old.length<=140737488351232)(hl:l.length<=3518437208780)(hr:Sps w B l)(h:deltaCheck l old.length size≠0):
  Calls Tryz.prog 66 #[.slice A old.length c,.slice B l.length d,iv size] w (RetB w (.tuple #[.slice none 0 0,iv (deltaCheck l old.length size)])):=by
 have hb:(deltaCheck l old.length size !=0)=true:=by simp[h]
 clear h;go_enter Tryz.func66,Tryz.ntmps66;go_wp2_with fail;refine(refCheck_calls B d l old.length size w hl hr).mono ?_;rintro e w1 ⟨rfl,hb1⟩;go_wp2_with fail;go_ret2;exact⟨rfl,hb1⟩
theorem refApplied_ok(A:OA)(c:Nat)(old:LU)(B:OA)(d:Nat)(l:List Stp)(size:Int)(w:World)(hc:old.length<=c)(hA:Bts w A old)(hl:l.length<=3518437208780)(hr:Sps w B l)(h:deltaCheck l old.length size=0):
  Calls Tryz.prog 66 #[.slice A old.length c,.slice B l.length d,iv size] w (ByRet2 w (applied old l) 0):=by
 have hd:=deltaCheck_ok.1 h;have hcc:=refCheck_calls B d l old.length size w hl hr;rw[h]at hcc;have HC:=qH hcc;have HD:=qH hd;have HOLD:=qH hA;have HSP:=qH hr;have ho1:=hd.o1;have hm:=hd.many;clear hcc h hd hA hr;go_enter Tryz.func66,Tryz.ntmps66;go_wp2_with fail;refine HC.out.mono ?_;rintro e w1 ⟨rfl,hb1⟩;have HB1:=qH hb1;have HO1:Hid (Own w1 w.heap.size 5 1 none 0 0 (([]:List UInt8).map bv)):=qH (Own.nil_ _ _ _ _);clear hb1 HC;go_wp2_with fail;generalize hbase:w.heap.size=base at *
 have HBE:=qH hbase;clear hbase;go_loopw [9,23] (fun v i wr=>∃(k:Nat) (C:OA) (cc:Nat) (pre:LU),k<=l.length∧i=.int .i64 k∧v=.slice C pre.length cc∧Hid (pre=applied old (l.take k))∧Hid (Own wr base 5 1 C pre.length cc (pre.map bv))∧Hid (Below base w wr)) (fun _ i _=>l.length-(intOf i).toNat)
 case atStart=>exact⟨0,none,0,[],Nat.zero_le _,rfl,rfl,qH rfl,HO1,HB1⟩
 case round=>
  clear HO1 HB1;rename World=>wo;obtain⟨k,C,cc,pre,hk,rfl,rfl,HPRE,HO,HB⟩:=hrel;by_cases hlt:k<l.length
  ·have hxo:=HD.out.each l[k] (List.getElem_mem hlt);have hsum:(applied old (l.take (k+1))).length<=64:=by
    have h1:=(HD.out.take (k+1)).2.2.2;have h2:=applied_len (old:=old) (l:=l.take (k+1)) (fun o ho=>(HD.out.each o (List.mem_of_mem_take ho)).2);have h3:=HD.out.s1;omega
   obtain⟨sb,so,D,dc,rfl,hsb,p6,p1,p2,p3,p4,p5,-,-⟩:=(HSP.out.stays (HBE.out▸HB.out)).at_ hlt;have hnext:applied old (l.take (k+1))=pre++l[k].piece old:=by rw[List.take_succ_eq_append_getElem hlt,applied_append,applied_one,<-HPRE.out]
   rw[hnext]at hsum;obtain⟨x,hx⟩:∃x,l[k]=x:=⟨_,rfl⟩;rw[hx]at hxo hnext hsum p6 p1 p2 p3 p4 p5;clear hx;obtain⟨at_,len,data⟩:=x;obtain⟨hform,hin⟩:=hxo;unfold Stp.in_ at hin;dsimp only at *
   obtain⟨j1,j2,j3⟩:=hin;obtain⟨a,rfl⟩:=Int.eq_ofNat_of_zero_le j2;obtain⟨n,rfl⟩:=Int.eq_ofNat_of_zero_le j1;have hpiece:(⟨(a:Int),(n:Int),data⟩:Stp).piece old=(old.drop a).take n++data:=rfl;rw[hpiece]at hnext hsum;have hone:pre++data++(old.drop a).take n=pre++((old.drop a).take n++data):=by
    by_cases e:n=0
    ·subst e;simp
    have:=hform.2 (by simp;omega);simp at this;rw[this];simp
   rw[<-hone]at hnext hsum;have hnl:((old.drop a).take n).length=n:=by simp;omega
   have hsum1:pre.length+data.length+n<=64:=by rw[List.length_append,List.length_append,hnl]at hsum;exact hsum
   have HNX:=qH hnext;clear hnext hsum hform hone hpiece;have dl:decide ((k:Int)<(l.length:Int))=true:=decide_eq_true (by omega);have hsw:base<=wo.heap.size:=Nat.le_trans (Nat.le_of_eq HBE.out.symm) HB.out.size;have hba:Below wo.heap.size wo (wo.alloc (.cells #[iv (a:Int),iv (n:Int),.slice D data.length dc] 121)):=(Below.refl _ _).alloc (Nat.le_refl _) _;have hoa:=HO.out.alloc (.cells #[iv (a:Int),iv (n:Int),.slice D data.length dc] 121);have hs1:=(p5.stays hba).src;have hl1:(data.map bv).length=data.length*1:=by simp
   have hob:pre.length+data.length<=137438953472:=by omega
   have hle:base<=(wo.alloc (.cells #[iv (a:Int),iv (n:Int),.slice D data.length dc] 121)).heap.size:=by simp;omega
   have hgC:∀q,C.map (·.block)=some q->q<wo.heap.size:=fun q e=>(HO.out.block q e).2;have hg1:(wo.alloc (.cells #[iv (a:Int),iv (n:Int),.slice D data.length dc] 121)).heap[wo.heap.size]?=some (.cells #[iv (a:Int),iv (n:Int),.slice D data.length dc] 121 (0,0)):=blk_top rfl;go_wp2_with (at_builtin;go_must (refine wpList_app (wo.alloc (.cells #[iv (a:Int),iv (n:Int),.slice D data.length dc] 121)) rfl _ _ 22 rfl elBytes base C pre.length cc (pre.map bv) rfl hoa D data.length dc (data.map bv) rfl hs1 hl1 (bv_one _) hob hle ?_;intro C1 c1 w2 hown hgr hbel hor);(have hg2:=(hgr.block wo.heap.size (by simp) (fun e=>by have:=hgC _ e.symm;omega)).trans hg1);(have q1:w2.cell? ⟨wo.heap.size,1,none⟩=some (iv (n:Int)):=by rw[cell_of_row _ _ _ _ _ _ hg2];rfl));have HG1:=qH hg2;have HB1:Hid (Below base w w2):=qH ((HB.out.trans (hba.mono hsw)).trans hbel);have HO2:Hid (Own w2 base 5 1 C1 (pre++data).length c1 ((pre++data).map bv)):=qH (by simpa using hown);have HC1:Hid (∀q,C1.map (·.block)=some q->q≠wo.heap.size):=qH (fun q e=>by
    rcases hor with h|h
    ·rw[h]at e;have:=hgC q e;omega
    rw[h]at e;injection e with e;simp at e;omega)
   clear hown hgr hbel hor hs1 hl1 hob hle hgC hg1 hg2 hoa hba p6 p1 p2 p3 p4 p5;generalize hg:wo.heap.size=g at *
   have HGO:Hid (wo.heap.size=g):=qH hg;clear hg;have e1:(pre++data).length=pre.length+data.length:=by simp
   go_loopw [9,33] (fun v i wr=>∃(j:Nat) (C:OA) (cc:Nat) (o1:LU),j<=n∧i=.int .i64 (j:Int)∧v=.slice C o1.length cc∧Hid (o1=pre++data++(old.drop a).take j)∧Hid (o1.length=pre.length+data.length+j)∧Hid (Own wr base 5 1 C o1.length cc (o1.map bv))∧Hid (∀q,C.map (·.block)=some q->q≠g)∧Hid (wr.heap[g]?=some (.cells #[iv (a:Int),iv (n:Int),.slice D data.length dc] 121 (0,0)))∧Hid (Below base w wr)) (fun _ i _=>n-(intOf i).toNat)
   case atStart=>exact⟨0,C1,c1,pre++data,Nat.zero_le _,rfl,by rw[e1],qH (by simp),qH (by simp),HO2,HC1,HG1,HB1⟩
   case round=>
    clear HO2 HC1 HG1 HB1 q1;rename World=>wi;obtain⟨j,C2,c2,o1,hj,rfl,rfl,HO1,HO1L,HOW,HCG,HG,HB1⟩:=hrel;have ho1l:o1.length<=64:=by have:=HO1L.out;omega
    by_cases hjn:j<n
    ·have haj:a+j<old.length:=by omega
     obtain⟨ab,ao,rfl,hab,hxc⟩:=(HOLD.out.stays (HBE.out▸HB1.out)) (a+j) haj;have HO1':Hid (o1++[old[a+j]]=pre++data++(old.drop a).take (j+1)):=qH (by
      have hjl:j<(old.drop a).length:=by simp;omega
      rw[List.take_succ_eq_append_getElem hjl,HO1.out];simp)
     have q1:wi.cell? ⟨g,0,none⟩=some (iv (a:Int)):=by rw[cell_of_row _ _ _ _ _ _ HG.out];rfl
     have dl:decide ((j:Int)<(n:Int))=true:=decide_eq_true (by omega);have hw1:IntKind.i64.wrap ((a:Int)+(j:Int))=(a:Int)+(j:Int):=IntWalk.i64_in _ (by omega);have hw2:IntKind.i64.wrap ((j:Int)+1)=(j:Int)+1:=IntWalk.i64_in _ (by omega);have hsi:base<=wi.heap.size:=Nat.le_trans (Nat.le_of_eq HBE.out.symm) HB1.out.size;have hoa:=HOW.out.alloc (.cells #[bv old[a+j]] 5);have hs1:Src (wi.alloc (.cells #[bv old[a+j]] 5)) (some ⟨wi.heap.size,0,none⟩) [bv old[a+j]]:=src_blk (blk_top rfl);have hob:o1.length+1<=137438953472:=by omega
     have hle:base<=(wi.alloc (.cells #[bv old[a+j]] 5)).heap.size:=by simp;omega
     go_wp2_with (at_builtin;go_must (refine wpList_app (wi.alloc (.cells #[bv old[a+j]] 5)) rfl _ _ 22 rfl elBytes base C2 o1.length c2 (o1.map bv) rfl hoa (some ⟨wi.heap.size,0,none⟩) 1 1 [bv old[a+j]] rfl hs1 rfl (by simp[Value.oneCell']) hob hle ?_;intro C3 c3 w3 hown hgr hbel hor));have hgl:g<wi.heap.size:=blk_lt HG.out;have HG1:Hid (w3.heap[g]?=some (.cells #[iv (a:Int),iv (n:Int),.slice D data.length dc] 121 (0,0))):=qH ((hgr.block g (by simp;omega) (fun e=>HCG.out g e.symm rfl)).trans ((Below.heap_alloc wi _ g hgl).trans HG.out));have HB2:Hid (Below base w w3):=qH ((HB1.out.alloc hsi _).trans hbel);have HO2:Hid (Own w3 base 5 1 C3 (o1++[old[a+j]]).length c3 ((o1++[old[a+j]]).map bv)):=qH (by simpa using hown);have HC1:Hid (∀q,C3.map (·.block)=some q->q≠g):=qH (fun q e=>by
      rcases hor with h|h
      ·rw[h]at e;exact HCG.out q e
      rw[h]at e;injection e with e;simp at e;omega)
     have HL1:Hid (o1.length+1=(o1++[old[a+j]]).length):=qH (by simp);clear hown hgr hbel hor hs1 hob hle hoa q1 hxc;go_roundw
     case rel=>exact⟨j+1,C3,c3,o1++[old[a+j]],by omega,by go_num,by rw[HL1.out],HO1',qH (by rw[<-HL1.out,HO1L.out];omega),HO2,HC1,HG1,HB2⟩
     case measure=>simp[intOf];omega
    obtain rfl:j=n:=by omega
    have dl:decide ((j:Int)<(j:Int))=false:=by simp
    have hwk:IntKind.i64.wrap ((k:Int)+1)=(k:Int)+1:=IntWalk.i64_in _ (by omega);go_wp2_with fail;go_roundw
    case rel=>exact⟨k+1,C2,c2,o1,by omega,by go_num,rfl,qH (by rw[HNX.out,HO1.out]),HOW,HB1⟩
    case measure=>simp[intOf];omega
  obtain rfl:k=l.length:=by omega
  have dl:decide ((l.length:Int)<(l.length:Int))=false:=by simp
  have hpre:pre=applied old l:=by rw[HPRE.out,List.take_length]
  have HP:=qH hpre;clear hpre HPRE;go_wp2_with fail;go_ret2;exact⟨C,cc,by rw[<-HP.out];rfl,by rw[<-HP.out];exact HO.out.src.bts,by rw[<-HP.out];exact HO.out.le,HBE.out▸HB.out⟩
theorem refApplyAny_calls(A:OA)(c:Nat)(old:LU)(B:OA)(d:Nat)(l:List Stp)(size:Int)(w:World)(hc:old.length<=c)(ho:old.length<=140737488351232)(hA:Bts w A old)(hl:l.length<=3518437208780)(hr:Sps w B l):
  Calls Tryz.prog 66 #[.slice A old.length c,.slice B l.length d,iv size] w (ByRet2 w (axOf old l size).1 (axOf old l size).2):=by
 unfold axOf;by_cases h:deltaCheck l old.length size=0
 ·rw[if_neg (by simpa using h)];exact refApplied_ok A c old B d l size w hc hA hl hr h
 rw[if_pos h];exact(refApplied_bad A c old B d l size w ho hl hr h).mono fun _ _=>byRet2_nil
section
open Go.RowKit Go.WideShapes Go.ChangeShapes Go.ChangeAt
theorem reads_chk{H:Type}{enc:TypeId×Value->H}{sp:Nat->Bool}{held:Bool}:ReadBy enc Tryz.prog w sp held 39 rChk:=
 readBy_chk Tryz.underlying39 (by kernel_rfl) rfl rfl rfl rfl rfl (by kernel_rfl) (by kernel_rfl) (by kernel_rfl) (by kernel_rfl) (by kernel_rfl)
  Tryz.underlying3 Tryz.underlying3 Tryz.underlying3 Tryz.underlying3 Tryz.underlying22 Tryz.underlying5 (by kernel_rfl)
theorem argChunk_of{H:Type}{enc:TypeId×Value->H}{base:Nat}{v:Value}{d:DataW H}{p:List MemPlace}
  (ho:Value.okWide Tryz.prog w .any base 39 v) (h:DataW.Trod enc Tryz.prog w 0 (fun _=>true) true 39 v d p) (hb:Wt Tryz.prog 39 d):∃x,ArgChk w v x:=by
 obtain⟨x,cs,hv,A,c,rfl,hp⟩:=argAgg_of (.inl ⟨_,Tryz.underlying39⟩) reads_chk ho h hb;exact⟨x,A,c,hv,hp⟩
end
section
open Go.RowKit Go.WideShapes Go.ChangeShapes Go.ChangeAt
end
theorem x3he(h:Y:=by
 go_enter Tryz.func11,Tryz.ntmps11
 go_wp2
 go_ret;exact⟨ret_int HT.out,rfl⟩):Y:=h
theorem at2_calls(k n:Int)(w:World)(hk1:-9223372036854775808<=k)(hk2:k<=9223372036854775807)(hn:1<=n)(hn2:n<=4503599627370496):
  Calls Tryz.prog 11 #[iv k,iv n] w (Ret w (iv (k%n))):=by
 have hb:=Int.emod_nonneg k (show n≠0 by omega);have hb1:=Int.emod_lt_of_pos k (show 0<n by omega);have ht:k.tmod n=k%n∨(k.tmod n<0∧k.tmod n+n=k%n):=by
  rw[Int.tmod_eq_emod];split<;>omega
 have hz:(n==0)=false:=by simp;omega
 by_cases h3:0<=k
 ·go_enter Tryz.func11,Tryz.ntmps11;clear ht;have h1:¬(k%n<0):=by omega
  go_wp2
  go_ret;exact⟨rfl,rfl⟩
 have hlo:-n<k.tmod n∧k.tmod n<=0:=by
  rw[Int.tmod_eq_emod]at ht⊢;split<;>omega
 rcases ht with ht|⟨ht,ht2⟩
 ·have h1:¬k.tmod n<0:=by omega
  have HT:=qH ht;clear ht;exact x3he
 have HT:=qH ht2;clear ht2;have h1:=hlo.1;exact x3he
end Go.Proofs.YtefkfglkpebbmacGreat
