/- Walks of functions, and plain words. No conditions. -/
import Derived.Test.YtefkfglkpebbmacPE2
import Derived.Laws.StructEq
import Derived.Deep.LoopGhost
import Derived.Laws.CopyRow
import Derived.Lib.Overlaps
set_option linter.unusedVariables false
set_option linter.unusedSimpArgs false
set_option maxRecDepth 100000
set_option maxHeartbeats 40000000
namespace Go.Proofs.Ytefkfglkpebbmac
open Go.RowKit
variable {Y:Prop}
variable {w:World} {a:Act} {K:Act->World->Prop} {Q:Exit->Act->World->Prop} {c g:Nat}
theorem x5ta(h:Y:=by
 go_enter Try.func31,Try.ntmps31;go_wp2_with fail;go_ret;exact⟨ret_bool HZ.out,HB.out⟩):Y:=h
theorem patSameA_calls(A B:OA)(c d:Nat)(f t o n sz f2 t2 o2 n2 sz2:Int)(l m:List Stp)(w:World)(hl:l.length<=3518437208780)(hm:m.length<=3518437208780)(hs:Sps w A l)(hr:Sps w B m):
  Calls Try.prog 31 #[.agg #[iv f,iv t,iv o,iv n,iv sz,.slice A l.length c],.agg #[iv f2,iv t2,iv o2,iv n2,iv sz2,.slice B m.length d]] w (RetB w (.bool (decide ((⟨f,t,o,n,sz,l⟩:Pat)=⟨f2,t2,o2,n2,sz2,m⟩)))):=by
 have hb:Below w.heap.size w ((w.alloc (.cells #[iv f,iv t,iv o,iv n,iv sz,.slice A l.length c] 35)).alloc (.cells #[iv f2,iv t2,iv o2,iv n2,iv sz2,.slice B m.length d] 35)):=((Below.refl _ _).alloc (Nat.le_refl _) _).alloc (by simp) _;obtain⟨r,hR⟩:∃r,decide ((⟨f,t,o,n,sz,l⟩:Pat)=⟨f2,t2,o2,n2,sz2,m⟩)=r:=⟨_,rfl⟩;rw[hR];have HR:=qH hR;clear hR;have HB:=qH hb;have HC:=qH (equalOps_calls A B c d l m _ hl hm (hs.stays hb) (hr.stays hb));clear hb hs hr;by_cases h5:¬f=f2
 ·have hz:false=r:=(decide_eq_false (fun e=>by injection e;contradiction)).symm.trans HR.out;have HZ:=qH hz;have q:(f==f2)=false:=by simp[h5]
  clear HC hz h5;exact x5ta
 have h5:=Decidable.not_not.1 h5;subst h5;have q5:(f==f)=true:=by simp
 by_cases h1:¬t=t2
 ·have hz:false=r:=(decide_eq_false (fun e=>by injection e;contradiction)).symm.trans HR.out;have HZ:=qH hz;have q:(t==t2)=false:=by simp[h1]
  clear HC hz h1;exact x5ta
 have h1:=Decidable.not_not.1 h1;subst h1;have q1:(t==t)=true:=by simp
 by_cases h1:¬o=o2
 ·have hz:false=r:=(decide_eq_false (fun e=>by injection e;contradiction)).symm.trans HR.out;have HZ:=qH hz;have q:(o==o2)=false:=by simp[h1]
  clear HC hz h1;exact x5ta
 have h1:=Decidable.not_not.1 h1;subst h1;have q1:(o==o)=true:=by simp
 by_cases h1:¬n=n2
 ·have hz:false=r:=(decide_eq_false (fun e=>by injection e;contradiction)).symm.trans HR.out;have HZ:=qH hz;have q:(n==n2)=false:=by simp[h1]
  clear HC hz h1;exact x5ta
 have h1:=Decidable.not_not.1 h1;subst h1;have q1:(n==n)=true:=by simp
 by_cases h1:¬sz=sz2
 ·have hz:false=r:=(decide_eq_false (fun e=>by injection e;contradiction)).symm.trans HR.out;have HZ:=qH hz;have q:(sz==sz2)=false:=by simp[h1]
  clear HC hz h1;exact x5ta
 have h1:=Decidable.not_not.1 h1;subst h1;have q1:(sz==sz)=true:=by simp
 have hz:decide (l=m)=r:=by
  rw[<-HR.out];by_cases e:l=m
  ·subst e;simp
  rw[decide_eq_false e,decide_eq_false (fun h=>e (by injection h))]
 have HZ:=qH hz;clear hz;go_enter Try.func31,Try.ntmps31;go_wp2_with fail;refine HC.out.mono ?_;rintro e w1 ⟨rfl,hb1⟩;have HB1:=qH (HB.out.trans (hb1.mono HB.out.size));clear hb1;exact x61t
theorem x0oq(h:Y:=by
 exact absurd ⟨by simpa[Rec.at_]using n1,by simp,fun _=>n2,by simpa[Rec.at_]using h⟩ hn):Y:=h
theorem x2tz(h:Y:=by
 have HI:=qH hI;clear hI;go_wp2_with fail;all_goals first|(go_ret;exact⟨ret_int HF.out.symm,hB.alloc hB.size _⟩)|(exfalso;have h:=HI.out;unfold InfRange at h;simp only at h;omega)):Y:=h
theorem x3eu(h:Y:=by
 exact absurd ⟨by simpa[Rec.at_]using n1,fun _=>⟨by simpa[Rec.at_]using n2,by simpa[Rec.at_]using e1⟩,by simp,by simpa[Rec.at_]using h⟩ hn):Y:=h
theorem x4hb(h:Y:=by
 go_wp2_with fail;go_quiet (fail)
 go_wp2_with fail;go_ret;exact⟨ret_int HF.out.symm,Below.drewN' hB _⟩):Y:=h
theorem x61u(h:Y:=by
 have HZ:=qH hz;clear hz;go_wp2_with fail;all_goals first|(go_ret;exact⟨ret_int HF.out.symm,hB.alloc hB.size _⟩)|(exfalso;have h:=HZ.out;omega)):Y:=h
theorem x88h(h:Y:=by
 go_wp2_with fail;go_roundw
 case rel=>exact⟨2,by omega,rfl,hB.alloc hB.size _,blk_old HK.out,fun _=>HA.out,fun _=>HI.out⟩
 case measure=>simp[intOf]<;>omega):Y:=h
theorem x8bj(h:Y:=by
 go_wp2_with fail;go_roundw
 case rel=>exact⟨1,by omega,rfl,hB.alloc hB.size _,blk_old HK.out,fun _=>HI.out,by omega⟩
 case measure=>simp[intOf]<;>omega):Y:=h
theorem recCheck_range(g ac:Int)(tr:Bool)(ts fl va sa ca vb sb cb:Int)(w:World)(h:¬(1<=g∧g<=1000000∧0<=ac∧ac<=1∧0<=ts∧ts<=3∧1<=fl∧fl<=30)):
  Calls Try.prog 151 #[.agg #[iv g,iv ac,.bool tr,iv ts,iv fl,iv va,iv sa,iv ca,iv vb,iv sb,iv cb]] w (RetB w (iv 2)):=by
 have H:=qH h;clear h;go_enter Try.func151,Try.ntmps151;go_wp2_with fail;all_goals first|(go_ret;exact⟨rfl,(Below.refl _ _).alloc (Nat.le_refl _) _⟩)|(exfalso;have h:=H.out;omega)
theorem recCheck_rest(g ac:Int)(tr:Bool)(ts fl va sa ca vb sb cb:Int)(w:World)(h1:1<=g)(h2:g<=1000000)(h3:0<=ac)(h4:ac<=1)(h5:0<=ts)(h6:ts<=3)(h7:1<=fl)(h8:fl<=30):
  Calls Try.prog 151 #[.agg #[iv g,iv ac,.bool tr,iv ts,iv fl,iv va,iv sa,iv ca,iv vb,iv sb,iv cb]] w (RetB w (iv (recCheck ⟨g,ac,tr,ts,fl,⟨va,sa,ca⟩,⟨vb,sb,cb⟩⟩))):=by
 have i2:∀w,(Instr.index 64 (.agg #[iv va,iv sa,iv ca,iv vb,iv sb,iv cb]) (.int .i64 0)).run Try.prog w=.ok (.agg #[iv va,iv sa,iv ca]) w:=fun _=>by kernel_rfl
 have i1:∀w,(Instr.index 64 (.agg #[iv va,iv sa,iv ca,iv vb,iv sb,iv cb]) (.int .i64 1)).run Try.prog w=.ok (.agg #[iv vb,iv sb,iv cb]) w:=fun _=>by kernel_rfl
 go_enter Try.func151,Try.ntmps151;go_wp2_with fail;go_loopw [45] (fun i wr=>∃k:Nat,k<=2∧i=.int .i64 k∧Below w.heap.size w wr∧(wr.heap[w.heap.size]?=some (.cells #[iv g,iv ac,.bool tr,iv ts,iv fl,iv va,iv sa,iv ca,iv vb,iv sb,iv cb] 66))∧(0<k->infCheck ⟨va,sa,ca⟩=0)∧(1<k->infCheck ⟨vb,sb,cb⟩=0)) (fun i _=>(2-intOf i).toNat)
 case atStart=>exact⟨0,by omega,rfl,(Below.refl _ _).alloc (Nat.le_refl _) _,blk_top rfl,by omega,by omega⟩
 case round=>
  obtain⟨k,hk,rfl,hB,hblk,ha,hb⟩:=hrel;have hrg:RangeOk ⟨g,ac,tr,ts,fl,⟨va,sa,ca⟩,⟨vb,sb,cb⟩⟩:=⟨h1,h2,h3,h4,h5,h6,h7,h8⟩;have HR:=qH hrg;clear hrg;by_cases hlt:k<2
  ·rcases (show k=0∨k=1 by omega)with rfl|rfl
   ·have HK:=qH hblk;clear hblk ha hb;by_cases hI:InfRange ⟨va,sa,ca⟩
    ·obtain⟨j1,j2,j3,j4,j5,j6⟩:=hI;simp only at j1 j2 j3 j4 j5 j6;by_cases hv:va=0
     ·subst hv;by_cases hz:sa=0∧ca=0
      ·obtain⟨rfl,rfl⟩:=hz;have HI:Hid (infCheck ⟨0,0,0⟩=0):=infCheck_ok ⟨j1,j2,j3,j4,j5,j6⟩ (fun _=>⟨rfl,rfl⟩);clear j1 j2 j3 j4 j5 j6;exact x8bj
      have HF:=qH (recCheck_a HR.out (infCheck_form ⟨j1,j2,j3,j4,j5,j6⟩ rfl hz) (by omega));exact x61u
     have HI:Hid (infCheck ⟨va,sa,ca⟩=0):=infCheck_ok ⟨j1,j2,j3,j4,j5,j6⟩ (fun h=>absurd h hv);have hv1:(va==0)=false:=by rw[beq_eq_false_iff_ne];exact hv
     clear hv;exact x8bj
    have HF:=qH (recCheck_a HR.out (infCheck_bad hI) (by omega));exact x2tz
   ·have HK:=qH hblk;have HA:=qH (ha (by omega));clear hblk ha hb;by_cases hI:InfRange ⟨vb,sb,cb⟩
    ·obtain⟨j1,j2,j3,j4,j5,j6⟩:=hI;simp only at j1 j2 j3 j4 j5 j6;by_cases hv:vb=0
     ·subst hv;by_cases hz:sb=0∧cb=0
      ·obtain⟨rfl,rfl⟩:=hz;have HI:Hid (infCheck ⟨0,0,0⟩=0):=infCheck_ok ⟨j1,j2,j3,j4,j5,j6⟩ (fun _=>⟨rfl,rfl⟩);clear j1 j2 j3 j4 j5 j6;exact x88h
      have HF:=qH (recCheck_b HR.out HA.out (infCheck_form ⟨j1,j2,j3,j4,j5,j6⟩ rfl hz) (by omega));exact x61u
     have HI:Hid (infCheck ⟨vb,sb,cb⟩=0):=infCheck_ok ⟨j1,j2,j3,j4,j5,j6⟩ (fun h=>absurd h hv);have hv1:(vb==0)=false:=by rw[beq_eq_false_iff_ne];exact hv
     clear hv;exact x88h
    have HF:=qH (recCheck_b HR.out HA.out (infCheck_bad hI) (by omega));exact x2tz
  obtain rfl:k=2:=by omega
  have HA:=qH (ha (by omega));have HB1:=qH (hb (by omega));clear ha hb;have c1:∀j,wr.cell? ⟨w.heap.size,j,none⟩=(#[iv g,iv ac,.bool tr,iv ts,iv fl,iv va,iv sa,iv ca,iv vb,iv sb,iv cb]:Array Value)[j]?:=fun j=>cell_of_row _ _ _ _ _ _ hblk;have k1:=c1 1;have k2:=c1 2;have k3:=c1 3;have k4:=c1 4;have k5:=c1 5;have k6:=c1 8;simp at k1 k2 k3 k4 k5 k6;clear c1 hblk;by_cases hF:FormOk ⟨g,ac,tr,ts,fl,⟨va,sa,ca⟩,⟨vb,sb,cb⟩⟩
  ·have HF:=qH (recCheck_ok HR.out HA.out HB1.out hF);obtain⟨f1,f2,f3,f4⟩:=hF;rcases (show ac=0∨ac=1 by omega)with rfl|rfl
   ·simp[Rec.at_]at f1 f2 f3 f4
    cases tr
    ·have e1:(va==0)=false:=by rw[beq_eq_false_iff_ne];simpa using f1
     have e1:(ts !=0)=false:=by have:=f3 rfl;simp[this]
     have e1:fl<=va:=by simpa using f4
     clear f1 f2 f3 f4;exact x4hb
    have e1:(va==0)=false:=by rw[beq_eq_false_iff_ne];simpa using f1
    have e1:(vb==0)=false:=by rw[beq_eq_false_iff_ne];simpa using (f2 rfl).1
    have e1:fl<=vb:=by simpa using (f2 rfl).2
    have d1:decide (vb<fl)=false:=by simpa using e1
    have e1:fl<=va:=by simpa using f4
    clear f1 f2 f3 f4;exact x4hb
   simp[Rec.at_]at f1 f2 f3 f4
   cases tr
   ·have e1:(vb==0)=false:=by rw[beq_eq_false_iff_ne];simpa using f1
    have e1:(ts !=0)=false:=by have:=f3 rfl;simp[this]
    have e1:fl<=vb:=by simpa using f4
    clear f1 f2 f3 f4;exact x4hb
   have e1:(vb==0)=false:=by rw[beq_eq_false_iff_ne];simpa using f1
   have e1:(va==0)=false:=by rw[beq_eq_false_iff_ne];simpa using (f2 rfl).1
   have e1:fl<=va:=by simpa using (f2 rfl).2
   have d1:decide (va<fl)=false:=by simpa using e1
   have e1:fl<=vb:=by simpa using f4
   clear f1 f2 f3 f4;exact x4hb
  have HF:=qH (recCheck_form HR.out HA.out HB1.out hF);rcases (show ac=0∨ac=1 by omega)with rfl|rfl
  ·cases tr
   ·have hn:=hF;clear hF;by_cases n1:va=0
    ·have e1:(va==0)=true:=by rw[beq_iff_eq];exact n1
     clear n1;clear hn;exact x4hb
    have e1:(va==0)=false:=by rw[beq_eq_false_iff_ne];exact n1
    by_cases n2:ts=0
    ·have e1:(ts !=0)=false:=by simp[n2]
     have e1:va<fl:=by
      rcases Int.lt_or_le va fl with h|h
      ·exact h
      exact x0oq
     clear n1 n2;clear hn;exact x4hb
    have e1:(ts !=0)=true:=by simp[n2]
    clear n1 n2;clear hn;exact x4hb
   ·have hn:=hF;clear hF;by_cases n1:va=0
    ·have e1:(va==0)=true:=by rw[beq_iff_eq];exact n1
     clear n1;clear hn;exact x4hb
    have e1:(va==0)=false:=by rw[beq_eq_false_iff_ne];exact n1
    by_cases n2:vb=0
    ·have e1:(vb==0)=true:=by rw[beq_iff_eq];exact n2
     clear n1 n2;clear hn;exact x4hb
    have e1:(vb==0)=false:=by rw[beq_eq_false_iff_ne];exact n2
    by_cases n3:vb<fl
    ·clear n1 n2;clear hn;exact x4hb
    have e1:fl<=vb:=by omega
    have d1:decide (vb<fl)=false:=by simpa using e1
    have e1:va<fl:=by
     rcases Int.lt_or_le va fl with h|h
     ·exact h
     exact x3eu
    clear n1 n2 n3;clear hn;exact x4hb
  cases tr
  ·have hn:=hF;clear hF;by_cases n1:vb=0
   ·have e1:(vb==0)=true:=by rw[beq_iff_eq];exact n1
    clear n1;clear hn;exact x4hb
   have e1:(vb==0)=false:=by rw[beq_eq_false_iff_ne];exact n1
   by_cases n2:ts=0
   ·have e1:(ts !=0)=false:=by simp[n2]
    have e1:vb<fl:=by
     rcases Int.lt_or_le vb fl with h|h
     ·exact h
     exact x0oq
    clear n1 n2;clear hn;exact x4hb
   have e1:(ts !=0)=true:=by simp[n2]
   clear n1 n2;clear hn;exact x4hb
  have hn:=hF;clear hF;by_cases n1:vb=0
  ·have e1:(vb==0)=true:=by rw[beq_iff_eq];exact n1
   clear n1;clear hn;exact x4hb
  have e1:(vb==0)=false:=by rw[beq_eq_false_iff_ne];exact n1
  by_cases n2:va=0
  ·have e1:(va==0)=true:=by rw[beq_iff_eq];exact n2
   clear n1 n2;clear hn;exact x4hb
  have e1:(va==0)=false:=by rw[beq_eq_false_iff_ne];exact n2
  by_cases n3:va<fl
  ·clear n1 n2;clear hn;exact x4hb
  have e1:fl<=va:=by omega
  have d1:decide (va<fl)=false:=by simpa using e1
  have e1:vb<fl:=by
   rcases Int.lt_or_le vb fl with h|h
   ·exact h
   exact x3eu
  clear n1 n2 n3;clear hn;exact x4hb
theorem recCheck_calls(g ac:Int)(tr:Bool)(ts fl va sa ca vb sb cb:Int)(w:World):
  Calls Try.prog 151 #[.agg #[iv g,iv ac,.bool tr,iv ts,iv fl,iv va,iv sa,iv ca,iv vb,iv sb,iv cb]] w (RetB w (iv (recCheck ⟨g,ac,tr,ts,fl,⟨va,sa,ca⟩,⟨vb,sb,cb⟩⟩))):=by
 by_cases h:RangeOk ⟨g,ac,tr,ts,fl,⟨va,sa,ca⟩,⟨vb,sb,cb⟩⟩
 ·obtain⟨h1,h2,h3,h4,h5,h6,h7,h8⟩:=h;exact recCheck_rest g ac tr ts fl va sa ca vb sb cb w h1 h2 h3 h4 h5 h6 h7 h8
 rw[recCheck_bad h];exact recCheck_range g ac tr ts fl va sa ca vb sb cb w h
theorem cloneOps_calls(A:OA)(n c:Nat)(cs:List Value)(w:World)(hl:cs.length=n*3)(hn0:n<=3518437208883)(hr:Src w A cs)(h1:∀u∈cs,u.oneCell'=true):
  Calls Try.prog 171 #[.slice A n c] w (SlRet w 117 3 n cs):=by
 rcases A with _|ad
 ·have h1:cs.length=0:=by
   exact x5fs
  obtain rfl:n=0:=by omega
  obtain rfl:cs=[]:=List.eq_nil_of_length_eq_zero h1;have hn:=fun (wx:World) (a:OA) (n c n' c':Nat)=>Lib.run_eql_slice_nil (P:=Try.prog) wx 23 117 a n c n' c' Try.underlying23;clear h1 hl;go_enter Try.func171,Try.ntmps171;exact x4d9
 have hn:=fun (wx:World) (a:OA) (n c n' c':Nat)=>Lib.run_eql_slice_nil (P:=Try.prog) wx 23 117 a n c n' c' Try.underlying23;have ho:Own (w.alloc (.cells #[] 117)) w.heap.size 117 3 (some ⟨w.heap.size,0,none⟩) 0 0 []:=own_zero w _ _;have hs:=hr.stays ((Below.refl w.heap.size w).alloc (Nat.le_refl _) (.cells #[] 117));have hb1:0+n<=3518437208883:=by omega
 have hb2:w.heap.size<=(w.alloc (.cells #[] 117)).heap.size:=by simp
 have HL:=qH hl;clear hl;go_enter Try.func171,Try.ntmps171;go_wp2_with (at_builtin;refine wpList_app _ rfl _ _ 23 rfl elOpsB w.heap.size (some ⟨w.heap.size,0,none⟩) 0 0 [] rfl ho (some ad) n c cs rfl hs HL.out h1 hb1 hb2 ?_;intro A' c' w1 hown hg hb hx);exact x6v2
theorem cloneChunks_calls(A:OA)(n c:Nat)(cs:List Value)(w:World)(hl:cs.length=n*5)(hn0:n<=2513169434916)(hr:Src w A cs)(h1:∀u∈cs,u.oneCell'=true):
  Calls Try.prog 82 #[.slice A n c] w (SlRet w 49 5 n cs):=by
 rcases A with _|ad
 ·have h1:cs.length=0:=by
   exact x5fs
  obtain rfl:n=0:=by omega
  obtain rfl:cs=[]:=List.eq_nil_of_length_eq_zero h1;have hn:=fun (wx:World) (a:OA) (n c n' c':Nat)=>Lib.run_eql_slice_nil (P:=Try.prog) wx 43 49 a n c n' c' Try.underlying43;clear h1 hl;go_enter Try.func82,Try.ntmps82;exact x4d9
 have hn:=fun (wx:World) (a:OA) (n c n' c':Nat)=>Lib.run_eql_slice_nil (P:=Try.prog) wx 43 49 a n c n' c' Try.underlying43;have ho:Own (w.alloc (.cells #[] 49)) w.heap.size 49 5 (some ⟨w.heap.size,0,none⟩) 0 0 []:=own_zero w _ _;have hs:=hr.stays ((Below.refl w.heap.size w).alloc (Nat.le_refl _) (.cells #[] 49));have hb1:0+n<=2513169434916:=by omega
 have hb2:w.heap.size<=(w.alloc (.cells #[] 49)).heap.size:=by simp
 have HL:=qH hl;clear hl;go_enter Try.func82,Try.ntmps82;go_wp2_with (at_builtin;refine wpList_app _ rfl _ _ 43 rfl elChunksB w.heap.size (some ⟨w.heap.size,0,none⟩) 0 0 [] rfl ho (some ad) n c cs rfl hs HL.out h1 hb1 hb2 ?_;intro A' c' w1 hown hg hb hx);exact x6v2
def over(L:List Value)(o:Nat)(cs:List Value):List Value:=L.take o++cs++L.drop (o+cs.length)
theorem over_len(L:List Value)(o:Nat)(cs:List Value)(h:o+cs.length<=L.length):(over L o cs).length=L.length:=by simp[over];omega
theorem over_at(L:List Value)(o:Nat)(cs:List Value)(h:o+cs.length<=L.length)(j:Nat):(over L o cs)[j]?=if o<=j∧j<o+cs.length then cs[j-o]? else L[j]?:=by
 have hl:(L.take o).length=o:=by simp;omega
 unfold over;by_cases h1:j<o
 ·rw[List.append_assoc,List.getElem?_append_left (by omega),List.getElem?_take,if_pos h1,if_neg (by omega)]
 by_cases h1:j<o+cs.length
 ·rw[List.append_assoc,List.getElem?_append_right (by omega),List.getElem?_append_left (by omega),hl,if_pos ⟨by omega,h1⟩]
 rw[List.getElem?_append_right (by simp;omega),List.getElem?_drop,if_neg (by omega)];congr 1;simp;omega
theorem run_copy_rowN{P:Program}(w:World)(dT sT ty elem:TypeId)(g o dLen dCap:Nat)(a:Addr)(sLen sCap:Nat)(cur:List Value)(t:TypeId)(cs:List Value)(size:Nat)
  (hu:P.underlying dT=some (.slice elem)) (hs:(P.info? elem).map (·.size)=some size)
  (hg:w.heap[g]?=some (.cells cur.toArray t (0,0))) (hn:cs.length=Nat.min sLen dLen*size)
  (hsrc:∀j v,cs[j]?=some v->w.cell? (a.add j)=some v) (hfit:o+cs.length<=cur.length) (h1:∀v∈cs,v.oneCell'=true):
  (Builtin.copy_ #[dT,sT] ty #[.slice (some ⟨g,o,none⟩) dLen dCap,.slice (some a) sLen sCap]).run P w=
   .ok (goInt (Nat.min sLen dLen)) (w.setRow g (over cur o cs).toArray):=by
 have hl:=run_loadCells_list (P:=P) w a cs hsrc;have hst:=run_storeCells_at P g o t cs 0 cur.toArray w hg (by simpa using hfit) h1
 cases hq:P.info? elem with
 |none=>simp[hq]at hs
 |some i=>
  have hi:i.size=size:=by simpa[hq]using hs
  rw[hn]at hl;simp[Builtin.copy_,run_underlying hu,Builtin.lenOf,Builtin.firstCells,sizeOf,typeInfo,hq,hi,hl,hst,over]
theorem wp_copyN{P:Program}{o:Oper}(d s:Operand)(t t':TypeId)
  (ho:o.op=.call {callee:=.builtin .copy,args:=#[d,s],argTypes:=#[t,t']}) (v u:Value) (hd:a.eval d=v) (hs:a.eval s=u) {v':Value} {w':World}
  (hr:(Builtin.copy_ #[t,t'] o.type #[v,u]).run P w=.ok v' w') (h:K (a.put o.dst v') w'):o.wp P a w K Q:=by
 unfold Oper.wp execOp;simp only[ho,resolve,invoke,builtin,Sem.run_bind,Sem.run_pure,Result.andThen_ok,List.map_toArray,List.map_cons,List.map_nil,hd,hs,hr];exact h
theorem ins_room(L ns:List Value)(k N:Nat)(hk:k<=N)(hL:N+ns.length<=L.length):
  (over (over L (k+ns.length) ((L.take N).drop k)) k ns).take (N+ns.length)=(L.take N).take k++ns++(L.take N).drop k:=by
 have h1:((L.take N).drop k).length=N-k:=by simp;omega
 have h1:=over_len L (k+ns.length) ((L.take N).drop k) (by omega)
 apply List.ext_getElem?
 intro j;rw[List.getElem?_take];by_cases hj:j<N+ns.length
 ·rw[if_pos hj,over_at _ _ _ (by omega)];by_cases a1:j<k
  ·rw[if_neg (by omega),over_at _ _ _ (by omega),if_neg (by omega),List.append_assoc,List.getElem?_append_left (by simp;omega),List.getElem?_take,if_pos a1,List.getElem?_take,if_pos (by omega)]
  by_cases a1:j<k+ns.length
  ·rw[if_pos ⟨by omega,a1⟩,List.append_assoc,List.getElem?_append_right (by simp;omega),List.getElem?_append_left (by simp;omega)];congr 1;simp;omega
  rw[if_neg (by omega),over_at _ _ _ (by omega),if_pos ⟨by omega,by omega⟩,List.getElem?_append_right (by simp;omega)];congr 1;simp;omega
 rw[if_neg hj]
 symm
 apply List.getElem?_eq_none
 simp;omega
theorem ins_grown(X Z ns:List Value)(k N m:Nat)(hk:k<=N)(hX:X.length=N)(hm:ns.length=m)(hZ:N+m<=k+Z.length):
  (over (over (X.take k++Z) k ns) (k+m) (X.drop k)).take (N+m)=X.take k++ns++X.drop k:=by
 have h3:(X.take k++Z).length=k+Z.length:=by simp;omega
 have h1:(X.drop k).length=N-k:=by simp;omega
 have h1:=over_len (X.take k++Z) k ns (by omega)
 apply List.ext_getElem?
 intro j;rw[List.getElem?_take];by_cases hj:j<N+m
 ·rw[if_pos hj,over_at _ _ _ (by omega)];by_cases a1:j<k
  ·rw[if_neg (by omega),over_at _ _ _ (by omega),if_neg (by omega),List.getElem?_append_left (by simp;omega),List.append_assoc,List.getElem?_append_left (by simp;omega)]
  by_cases a1:j<k+m
  ·rw[if_neg (by omega),over_at _ _ _ (by omega),if_pos ⟨by omega,by omega⟩,List.append_assoc,List.getElem?_append_right (by simp;omega),List.getElem?_append_left (by simp;omega)];congr 1;simp;omega
  rw[if_pos ⟨by omega,by omega⟩,List.getElem?_append_right (by simp;omega)];congr 1;simp;omega
 rw[if_neg hj]
 symm
 apply List.getElem?_eq_none
 simp;omega
section
variable (A B:OA) (c d:Nat) (old b:LU) (w:World)
theorem longest_calls(k:Nat)(hl:old.length<=64)(hm:b.length<=64)(hk:k<=b.length)(ha:Bts w A old)(hb:Bts w B b):
  Calls Try.prog 86 #[.slice A old.length c,.slice B b.length d,iv k] w (RetN w (.tuple #[iv (longest old b k).1,iv (longest old b k).2,iv 0])):=by
 have h1:¬(64:Int)<(old.length:Int):=by omega
 have h1:¬(64:Int)<(b.length:Int):=by omega
 have h1:¬(k:Int)<0:=by omega
 have h1:¬(b.length:Int)<(k:Int):=by omega
 go_enter Try.func86,Try.ntmps86
 go_wp2
 go_loopw [9,10,11,12,31] (fun p q x y i wr=>∃j n:Nat,j<=old.length∧i=.int .i64 j∧p=iv (longTo old b k j).1∧q=iv (longTo old b k j).2∧w.drewN n=wr) (fun _ _ _ _ i _=>old.length-(intOf i).toNat)
 case atStart=>exact⟨0,0,Nat.zero_le _,rfl,rfl,rfl,rfl⟩
 case round=>
  obtain⟨j,n,hj,rfl,rfl,rfl,rfl⟩:=hrel;have hb1:=longTo_le old b k j hj;by_cases hlt:j<old.length
  ·have HP:=qH (preAt_le old b j k);go_wp2_with fail;go_loopw [12] (fun y wr=>∃t n:Nat,t<=preAt old b j k∧y=.int .i64 t∧w.drewN n=wr) (fun y _=>preAt old b j k-(intOf y).toNat)
   case atStart=>exact⟨0,n,Nat.zero_le _,rfl,rfl⟩
   case round=>
    obtain⟨t,n1,ht,rfl,rfl⟩:=hrel;have hP:=HP.out;by_cases hin:t<preAt old b j k
    ·obtain⟨i1,i2,he⟩:=preAt_lt old b j k t hin;obtain⟨b1,o1,rfl,hs1,hc1⟩:=ha (j+t) i1;obtain⟨b1,o1,rfl,hs1,hc1⟩:=hb (k+t) i2;have d1:decide ((j:Int)+(t:Int)<(old.length:Int))=true:=by simp;omega
     have d1:decide ((k:Int)+(t:Int)<(b.length:Int))=true:=by simp;omega
     have d1:((old[j+t].toNat:Int)==(b[k+t].toNat:Int))=true:=by simp[he]
     have HE:=qH he;clear he;go_wp2_with fail;go_quiet (fail)
     go_wp2_with fail;go_roundw
     case rel=>exact⟨t+1,_,by omega,by go_num,rfl⟩
     case measure=>simp[intOf]<;>omega
    obtain rfl:t=preAt old b j k:=by omega
    have hst:=preAt_stop old b j k;clear ht hin;by_cases hbest:(longTo old b k j).2<preAt old b j k
    first|case' inl=>have T10:Hid True:=qH trivial|case' pos=>have T10:Hid True:=qH trivial|case' refine_1=>have T10:Hid True:=qH trivial
    iterate 2
     ·first
       |
        revert T10;intro T10;have HT:Hid (longTo old b k (j+1)=(j,preAt old b j k)):=longTo_yes hbest
       |have HT:Hid (longTo old b k (j+1)=longTo old b k j):=longTo_no hbest
      first
       |
        revert T10;intro T10;have hbest':((longTo old b k j).2:Int)<(preAt old b j k:Int):=by omega
       |have hbest':¬((longTo old b k j).2:Int)<(preAt old b j k:Int):=by omega
      by_cases c1:j+preAt old b j k<old.length
      ·have d1:decide ((j:Int)+(preAt old b j k:Int)<(old.length:Int))=true:=by simp;omega
       by_cases c2:k+preAt old b j k<b.length
       ·have d2:decide ((k:Int)+(preAt old b j k:Int)<(b.length:Int))=true:=by simp;omega
        have hne:=hst c1 c2;have d3:((old[j+preAt old b j k].toNat:Int)==(b[k+preAt old b j k].toNat:Int))=false:=by
         simp;exact fun e=>hne (UInt8.toNat_inj.1 (by omega))
        obtain⟨b1,o1,rfl,hs1,hc1⟩:=ha (j+preAt old b j k) c1;obtain⟨b2,o2,rfl,hs2,hc2⟩:=hb (k+preAt old b j k) c2;clear hne hst;go_wp2_with fail;go_quiet (fail)
        go_wp2_with fail;go_roundw
        case rel=>exact⟨j+1,_,by omega,by go_num,by rw[HT.out],by rw[HT.out],rfl⟩
        case measure=>simp[intOf]<;>omega
       have d2:decide ((k:Int)+(preAt old b j k:Int)<(b.length:Int))=false:=by simp;omega
       clear hst;go_wp2_with fail;go_quiet (fail)
       go_wp2_with fail;go_roundw
       case rel=>exact⟨j+1,_,by omega,by go_num,by rw[HT.out],by rw[HT.out],rfl⟩
       case measure=>simp[intOf]<;>omega
      have d1:decide ((j:Int)+(preAt old b j k:Int)<(old.length:Int))=false:=by simp;omega
      clear hst;go_wp2_with fail;go_quiet (fail)
      go_wp2_with fail;go_roundw
      case rel=>exact⟨j+1,_,by omega,by go_num,by rw[HT.out],by rw[HT.out],rfl⟩
      case measure=>simp[intOf]<;>omega
  go_wp2_with fail
  go_ret3
  refine⟨?_,_,rfl⟩;obtain rfl:j=old.length:=by omega
  rfl
end
theorem x0p8(h:Y:=by
 intro done cv k a wq hw h hJ hn;have e1:=mx_new (i:=0) (t:=64) h (hw 0 (by decide)) rfl rfl rfl;have e65:=mx_new (i:=1) (t:=65) h (hw 1 (by decide)) rfl rfl rfl;go_simp):Y:=h
theorem x0s2(h:Y:=by
 intro done cv k a wq hw h hJ hn;have e1:=mx_new (i:=4) (t:=68) h (hw 4 (by decide)) rfl rfl rfl;go_simp):Y:=h
theorem x1by(h:Y:=by
 intro done cv k a wq hw h hJ hn;have e1:=mx_new (i:=5) (t:=69) h (hw 5 (by decide)) rfl rfl rfl;have hk:=hn 12 _ 1 rfl rfl (by decide);have hc:=diffJ_cell2 hk hJ kc2 kg2;go_simp):Y:=h
theorem x1jt(h:Y:=by
 intro done cv k a wq hw h hJ hn;have e1:=mx_old (t:=7) (v:=.int .i64 (i:Int)) h rfl rfl;exact mx_move (ch_ev e1)):Y:=h
theorem x22o(h:Y:=by
 intro done cv k a wq hw h hJ hn;have e1:=mx_new (i:=13) (t:=77) h (hw 13 (by decide)) rfl rfl rfl;go_simp):Y:=h
theorem x2v0(h:Y:=by
 have kf1:wq.frozen? ⟨g2,l.length*3+2,none⟩=false:=by
  have:=KFZ.out (l.length*3+2);unfold World.frozen? at this⊢;rw[hkk];exact this
 have HD1:=HDc.out.below (((Below.refl w1.heap.size w1).drew).alloc (Nat.le_refl _) (.cells #[bv b[i]] 5));have HDn:=HD1.add hown hgr hor;have HBn:Below w.heap.size w wq:=(HBc.out.drew.alloc hsz1 _).trans hbel;exact wp_stb e1 e76 kc1 kf1 ⟨undef,rfl,B',c',HDn,HBn.setCell kg1 _⟩):Y:=h
theorem x2wx(h:Y:=by
 intro done cv k a wq hw h hJ hn;have e1:=mx_new (i:=7) (t:=71) h (hw 7 (by decide)) rfl rfl rfl;have e72:=mx_new (i:=8) (t:=72) h (hw 8 (by decide)) rfl rfl rfl;go_simp):Y:=h
theorem x49r(h:Y:=by
 intro done cv k a wq hw h hJ hn;have e1:=mx_old (t:=6) (v:=.slice (some ⟨g2,0,none⟩) (l.length+1) cc1) h rfl rfl;exact mx_move (ch_ev e1)):Y:=h
theorem x4cb(h:Y:=by
 intro done cv k a wq hw h hJ hn;have e1:=mx_new (i:=9) (t:=73) h (hw 9 (by decide)) rfl rfl rfl;have hk:=hn 11 _ 0 rfl rfl (by decide);obtain rfl:k=0:=by omega
 obtain rfl:wq=w1.drew:=hJ;go_simp):Y:=h
theorem x4pg(h:Y:=by
 rw[((Below.refl (wr.drewN nd).heap.size (wr.drewN nd)).alloc (Nat.le_refl _) (.cells #[iv 0,iv 0,.slice none 0 0] 117)).cell (p:=⟨bb,bo+i,none⟩) hbs];exact hbx'):Y:=h
theorem x5i6(h:Y:=by
 intro B' c' w1 hown hgr hbel hor;exact⟨_,rfl,B',c',by simp,hown,hgr,hbel,hor⟩):Y:=h
theorem x5qp(h:Y:=by
 intro done cv k a wq hw h hJ hn;have e1:=mx_old (t:=6) (v:=.slice (some ⟨g,0,none⟩) (l1.length+1) cc) h rfl rfl;exact mx_move (ch_ev e1)):Y:=h
theorem x5y2(h:Y:=by
 have hl:=blk_far HD1.out.row hgr (bb:=bb) hbw (by have:=HB1.out.size;omega);exact(World.cell?_of_block hl).trans HBB.out):Y:=h
theorem x6w3(h:Y:=by
 rintro cv w1 ⟨B',c',HDn',HBn'⟩;have HDn:=qH HDn';have HBn:=qH HBn';clear HDn' HBn' kc2 kg1 kg2 hbx';simp only[mixAll,putAll_some,putAll_none,putAll_nil,List.getElem?_cons_zero,List.getElem?_cons_succ,Nat.zero_add,Nat.reduceAdd,List.setIfInBounds_toArray,List.set_cons_zero,List.set_cons_succ];go_wp2_with fail;go_roundw
 case rel=>
  have hget:b.getD i 0=b[i]:=by rw[List.getD_eq_getElem?_getD,List.getElem?_eq_getElem hlt];rfl
  refine⟨q+1,some ⟨g2,0,none⟩,cc1,ds++[(B',c')],by rw[HQ.out];go_num,by rw[HQ.out];simp,?_,HBn⟩;rw[HQ.out,hget];exact HDn.out
 case measure=>simp[intOf];omega):Y:=h
theorem x75y(h:Y:=by
 intro done cv a wq hw h hJ;have e1:=mx_new (i:=10) (t:=74) h (hw 10 (by decide)) rfl rfl rfl;obtain rfl:wq=w1.drew:=hJ;exact wp_slb e1 ⟨_,rfl,rfl,by simp⟩):Y:=h
theorem x7ji(h:Y:=by
 intro done cv k a wq hw h hJ hn;have e1:=mx_old (t:=12) (v:=.int .i64 (l.length:Int)) h rfl rfl;exact mx_move (ch_ev e1)):Y:=h
theorem x97z(h:Y:=by
 intro done cv k a wq hw h hJ hn;have e1:=mx_new (i:=2) (t:=66) h (hw 2 (by decide)) rfl rfl rfl;have e67:=mx_new (i:=3) (t:=67) h (hw 3 (by decide)) rfl rfl rfl;go_simp):Y:=h
theorem x98c(h:Y:=by
 intro done cv k a wq hw h hJ hn;have e1:=mx_old (t:=1) (v:=.slice (some ⟨bb,bo,none⟩) b.length d) h rfl rfl;exact mx_move (ch_ev e1)):Y:=h
theorem x9y2(h:Y:=by
 intro done cv k a wq hw h hJ hn;have e1:=mx_old (t:=12) (v:=.int .i64 (l1.length:Int)) h rfl rfl;exact mx_move (ch_ev e1)):Y:=h
theorem blk_far{w':World}{base e size n:Nat}{A:OA}{xs:List Value}(h:Own w base e size A n c xs)(hg:w.grownBy w' (A.map (·.block))){bb:Nat}(hb:bb<base)(hw:base<=w.heap.size):w'.heap[bb]?=w.heap[bb]?:=by
 refine hg.block bb (by omega) ?_;intro e;have:=(h.block bb e.symm).1;omega
def diffJ(w0 w2:World)(l0:List Stp)(o:Stp)(ds0:List (Option Addr×Nat))(d0:Option Addr×Nat)(g cc:Nat)(x:UInt8):Nat->(Nat->Value)->World->Prop
 |0,_,w=>w=w2.drew
 |1,cv,w=>w=w2.drew.alloc (.cells #[bv x] 5)∧cv 11=.slice (some ⟨w2.heap.size,0,none⟩) 1 1
 |2,cv,w=>∃B' c',cv 12=.slice B' (o.data.length+1) c'∧Own w w0.heap.size 5 1 B' (o.data.length+1) c' (o.data.map bv++[bv x])∧(w2.drew.alloc (.cells #[bv x] 5)).grownBy w (d0.1.map (·.block))∧Below w0.heap.size (w2.drew.alloc (.cells #[bv x] 5)) w∧
  (B'.map (·.block)=d0.1.map (·.block)∨B'.map (·.block)=some (w2.drew.alloc (.cells #[bv x] 5)).heap.size)
 |_,_,w=>∃B' c',DRow w w0.heap.size (l0++[⟨o.at_,o.len,o.data++[x]⟩]) (ds0++[(B',c')]) (some ⟨g,0,none⟩) cc∧Below w0.heap.size w0 w
theorem diffJ_cell2{w0 w2:World}{l0:List Stp}{o:Stp}{ds0:List (Option Addr×Nat)}{d0:Option Addr×Nat}{cc:Nat}{x:UInt8}{k:Nat}{cv:Nat->Value}(hk:k<=1)(h:diffJ w0 w2 l0 o ds0 d0 g cc x k cv w){j:Nat}{v:Value}(hc:w2.cell? ⟨g,j,none⟩=some v)(hg:g<w2.heap.size):w.cell? ⟨g,j,none⟩=some v:=by
 match k,hk,h with
 |0,_,h=>obtain rfl:w=w2.drew:=h;exact hc
 |1,_,⟨h,_⟩=>rw[h,(((Below.refl w2.heap.size w2).drew).alloc (Nat.le_refl _) _).cell (p:=⟨g,j,none⟩) hg];exact hc
theorem wp_slb{t:TypeId}{p:String}{af:Array Edge}{gd:Option (Nat×Bool)}{d s:Tmp}{n:UInt8}(hs:a.tmps[s]?=some (bv n))
  (h:K (a.put (some d) (.slice (some ⟨w.heap.size,0,none⟩) 1 1)) (w.alloc (.cells #[bv n] 5))):
  Oper.wp Try.prog ⟨some d,.buildSlice 22 1 #[(0,.tmp s)],t,p,af,gd⟩ a w K Q:=by
 exact x9jn
theorem wp_stb{t:TypeId}{p:String}{af:Array Edge}{gd:Option (Nat×Bool)}{x y:Tmp}{j:Nat}{B:OA}{n:Nat}{u:Value}(hx:a.tmps[x]?=some (.pointer (some ⟨g,j,none⟩)))(hy:a.tmps[y]?=some (.slice B n c))
  (hc:w.cell? ⟨g,j,none⟩=some u) (hf:w.frozen? ⟨g,j,none⟩=false) (h:K a (w.setCell ⟨g,j,none⟩ (.slice B n c))):
  Oper.wp Try.prog ⟨none,.store 22 (.tmp x) (.tmp y),t,p,af,gd⟩ a w K Q:=by
 exact x7jp
theorem addByte_last(l:List Stp)(o:Stp)(x:UInt8)(h:¬0<o.len):addByte (l++[o]) x=l++[⟨o.at_,o.len,o.data++[x]⟩]:=by rw[addByte_snoc,if_neg h]
theorem addByte_new(l:List Stp)(o:Stp)(x:UInt8)(h:0<o.len):addByte (l++[o]) x=(l++[o])++[⟨0,0,[]++[x]⟩]:=by rw[addByte_snoc,if_pos h];simp
theorem drow_cell{base:Nat}{l:List Stp}{o:Stp}{ds:List (Option Addr×Nat)}(h:DRow w base (l++[o]) ds (some ⟨g,0,none⟩) c):∃ds0 d,ds=ds0++[d]∧ds0.length=l.length∧
  w.cell? ⟨g,l.length*3,none⟩=some (iv o.at_)∧w.cell? ⟨g,l.length*3+1,none⟩=some (iv o.len)∧w.cell? ⟨g,l.length*3+2,none⟩=some (.slice d.1 o.data.length d.2)∧(∀j,w.frozen? ⟨g,j,none⟩=false)∧Own w base 5 1 d.1 o.data.length d.2 (o.data.map bv):=by
 have hne:ds≠[]:=by intro e;have:=h.len;rw[e]at this;simp at this
 obtain⟨ds1,d,rfl⟩:=snoc_of ds hne;have hl:ds1.length=l.length:=by have:=h.len;simpa using this
 have hd:(ds1++[d])[l.length]?=some d:=by rw[<-hl];simp
 have hc:∀j,j<3->w.cell? ⟨g,l.length*3+j,none⟩=(opCell o d)[j]?:=fun j hj=>by
  rw[h.row.cellAt _ (by simp;omega)];exact opCells_at _ _ h.len l.length j o d (by simp) hd hj
 exact⟨ds1,d,rfl,hl,hc 0 (by omega),hc 1 (by omega),hc 2 (by omega),fun j=>h.row.frozenAt j,h.data l.length o d (by simp) hd⟩
theorem diff3_calls(A B:OA)(c d:Nat)(old b:LU)(w:World)(ho:old.length<=64)(hb:b.length<=64)(hA:Bts w A old)(hB:Bts w B b):
  Calls Try.prog 14 #[.slice A old.length c,.slice B b.length d] w (OpRet3 w (diffed old b) 0):=by
 have h1:¬(64:Int)<(old.length:Int):=by omega
 have h2:¬(64:Int)<(b.length:Int):=by omega
 go_enter Try.func14,Try.ntmps14;go_wp2_with fail;go_loopw [6,7] (fun v i wr=>∃(q:Nat) (C:OA) (cc:Nat) (ds:List (Option Addr×Nat)),i=.int .i64 ((diffN old b q).1:Int)∧v=.slice C (diffN old b q).2.length cc∧DRow wr w.heap.size (diffN old b q).2 ds C cc∧Hid (Below w.heap.size w wr)) (fun _ i _=>b.length-(intOf i).toNat)
 case atStart=>exact⟨0,none,0,[],rfl,rfl,DRow.nil _ _,qH (Below.refl _ _)⟩
 case round=>
  obtain⟨q,C,cc,ds,rfl,rfl,hD,HB⟩:=hrel;have hinv:=diffN_inv old b q;have hle:=hinv.le;have hsz:=HB.out.size;by_cases hlt:(diffN old b q).1<b.length
  ·have hlen:(diffN old b q).2.length<=64:=by
    have:=diffN_len old b q;have:=diffN_mono old b q hlt;omega
   have hlong:=fun h4=>diffStep_long (old:=old) (b:=b) hlt h4;have hbyte:=fun h4=>diffStep_byte (old:=old) (b:=b) hlt h4;have hM:∀o∈(diffN old b q).2,o.data.length<=64:=fun o ho=>by
    have h1:=data_le old _ o ho;rw[hinv.gives]at h1;simp at h1;omega
   have HM:=qH hM;clear hM;have hst:diffN old b (q+1)=diffStep old b (diffN old b q):=rfl;have hin:=longest_in old b (diffN old b q).1;have hcl:=fun wq h1 h2=>longest_calls A B c d old b wq (diffN old b q).1 ho hb hle h1 h2;rw[<-hst]at hlong hbyte;clear hst hinv;generalize diffN old b q=p at *
   obtain⟨i,l⟩:=p;dsimp only at *
   generalize longest old b i=lg at *
   obtain⟨wh,m⟩:=lg;dsimp only at *
   have HL:=qH hlong;have HY:=qH hbyte;have HK:=qH hcl;have HD:=qH hD;have hA':=hA.stays HB.out;have hB':=hB.stays HB.out;obtain⟨hi1,hi2⟩:=hin;clear hlong hbyte hcl hD;obtain⟨bb,bo,rfl,hbw,hbx1⟩:=hB i hlt;have hbx:wr.cell? ⟨bb,bo+i,none⟩=some (bv b[i]):=(HB.out.cell (p:=⟨bb,bo+i,none⟩) hbw).trans hbx1;have hbs:bb<wr.heap.size:=Nat.lt_of_lt_of_le hbw hsz;go_wp2_with fail;refine(HK.out _ hA' hB').mono ?_;rintro e w1 ⟨rfl,nd,rfl⟩;clear hA' hB';by_cases h1:4<=m
   ·have h4':(4:Int)<=(m:Int):=by omega
    have HP:=qH (HL.out h1);have hb1:Below w.heap.size w (((wr.drewN nd)).alloc (.cells #[iv wh,iv m,.slice none 0 0] 117)):=(Below.drewN' HB.out nd).alloc hsz _;have hD1:=(HD.out.drewN nd).below ((Below.refl (wr.drewN nd).heap.size (wr.drewN nd)).alloc (Nat.le_refl _) (.cells #[iv wh,iv m,.slice none 0 0] 117));have HB2:=qH hb1;have HD2:=qH hD1;clear hb1 hD1;go_wp2_with (at_builtin;go_must (refine wpList_app _ rfl (.tmp 35) (.tmp 39) 23 rfl elOps w.heap.size C l.length cc (opCells l ds) rfl HD2.out.row (some ⟨wr.heap.size,0,none⟩) 1 1 [iv wh,iv m,.slice none 0 0] rfl (src_blk (blk_top (by simp))) rfl (by simp[Value.oneCell']) (by omega) (by simp;omega) ?_));intro C' cc' w' hown hgr hbel hor;have HD1:=qH (HD2.out.push hown hgr (by simpa using hor));have HB1:Hid (Below w.heap.size w w'):=qH (HB2.out.trans hbel);clear hown hgr hbel hor;go_wp2_with fail;go_roundw
    case rel=>exact⟨q+1,C',cc',_,by rw[HP.out];go_num,by rw[HP.out];simp,by rw[HP.out];exact HD1.out,HB1⟩
    case measure=>simp[intOf];omega
   have h4':¬(4:Int)<=(m:Int):=by omega
   have HP:=qH (HY.out h1);clear HL HY;have hbx':(wr.drewN nd).cell? ⟨bb,bo+i,none⟩=some (bv b[i]):=hbx;by_cases hl2:l=[]
   ·obtain⟨o,ho1⟩:∃o:Stp,o=⟨0,0,[]⟩:=⟨_,rfl⟩;have HQ:Hid (diffN old b (q+1)=(i+1,l++[⟨o.at_,o.len,o.data++[b.getD i 0]⟩])):=by
     rw[ho1];rw[hl2]at HP⊢;exact HP.out
    have hl1:(l.length:Int)-1<0:=by rw[hl2];simp
    have hod:o.data.length<=64:=by rw[ho1];simp
    clear HP hl2;have hb1:Below w.heap.size w (((wr.drewN nd)).alloc (.cells #[iv 0,iv 0,.slice none 0 0] 117)):=(Below.drewN' HB.out nd).alloc hsz _;have hD1:=(HD.out.drewN nd).below ((Below.refl (wr.drewN nd).heap.size (wr.drewN nd)).alloc (Nat.le_refl _) (.cells #[iv 0,iv 0,.slice none 0 0] 117));have HB1:=qH hb1;have HD1:=qH hD1;have hbb:((wr.drewN nd).alloc (.cells #[iv 0,iv 0,.slice none 0 0] 117)).cell? ⟨bb,bo+i,none⟩=some (bv b[i]):=by
     exact x4pg
    have HBB:=qH hbb;clear hb1 hD1 hbb;go_wp2_with (at_builtin;go_must (refine wpList_app _ rfl (.tmp 57) (.tmp 59) 23 rfl elOps w.heap.size C l.length cc (opCells l ds) rfl HD1.out.row (some ⟨wr.heap.size,0,none⟩) 1 1 [iv 0,iv 0,.slice none 0 0] rfl (src_blk (blk_top (by simp))) rfl (by simp[Value.oneCell']) (by omega) (by simp;omega) ?_));intro C' cc1 w1 hown hgr hbel hor;obtain⟨g2,rfl,hg1,hg2⟩:=hown.form (by omega);have HDc:=qH (HD1.out.push hown hgr (by simpa using hor));have HBc:Hid (Below w.heap.size w w1):=qH (HB1.out.trans hbel);have hbx1:w1.cell? ⟨bb,bo+i,none⟩=some (bv b[i]):=by
     exact x5y2
    clear hown hgr hbel hor HBB hbx hbx' HD HD1 HB1 hl1;have hbx':=hbx1;clear hbx1;rw[<-ho1]at HDc;clear ho1;obtain⟨d2,hd2⟩:∃d0:Option Addr×Nat,(none,0)=d0:=⟨_,rfl⟩;rw[hd2]at HDc;clear hd2;obtain⟨ds1,d1,hds,hdl1,kc4,kc1,kc2,kfz,kdo⟩:=drow_cell HDc.out;obtain⟨rfl,hd1⟩:=List.append_inj' hds rfl;obtain rfl:d2=d1:=by simpa using hd1
    have kg:=(HDc.out.row.block g2 rfl);obtain⟨kg1,kg2⟩:=kg;have kne:d2.1.map (·.block)≠some g2:=fun e=>HDc.out.off l.length d2 (by rw[<-hdl1];simp) g2 e rfl;have KNE:=qH kne;have KDO:=qH kdo;have KFZ:=qH kfz;have hsz1:=HBc.out.size;clear hds hd1 kc4 kc1 kdo kne kfz hdl1;have hix:¬(l.length:Int)+1<=(l.length:Int):=by omega
    go_wp2_with fail;refine wp_region_mix (by kernel_rfl) (some 64::some 65::some 66::some 67::some 68::some 69::some 70::some 71::some 72::some 73::some 74::some 75::some 76::some 77::some 78::none::[]) (none::none::none::none::none::none::none::none::none::none::none::some 0::some 1::none::none::some 2::[]) (.slice (some ⟨g2,0,none⟩) (l.length+1) cc1::.int .i64 (l.length:Int)::.slice (some ⟨g2,0,none⟩) (l.length+1) cc1::.int .i64 (l.length:Int)::.pointer (some ⟨g2,l.length*3,none⟩)::.pointer (some ⟨g2,l.length*3+2,none⟩)::.slice d2.1 o.data.length d2.2::.slice (some ⟨bb,bo,none⟩) b.length d::.int .i64 (i:Int)::.pointer (some ⟨bb,bo+i,none⟩)::bv b[i]::undef::undef::.pointer (some ⟨g2,l.length*3,none⟩)::.pointer (some ⟨g2,l.length*3+2,none⟩)::undef::[]) 3 (diffJ w w1 l o ds d2 g2 cc1 b[i]) 82 rfl rfl (by decide+kernel) (by decide+kernel) (by decide+kernel) (by decide+kernel) rfl rfl (by decide+kernel) (by decide+kernel) (rfl) ?_ ?_
    ·refine⟨?_,?_,?_,?_,?_,?_,?_,?_,?_,?_,?_,?_,?_,?_,?_,?_,trivial⟩
     ·exact x49r
     ·exact x7ji
     ·exact x49r
     ·exact x7ji
     ·exact x97z
     ·exact x0s2
     ·exact x1by
     ·exact x98c
     ·exact x1jt
     ·exact x2wx
     ·exact x4cb
     ·exact x75y
     ·intro done cv a wq hw h hJ;have e1:=mx_new (i:=6) (t:=70) h (hw 6 (by decide)) rfl rfl rfl;have e75:=mx_cv (i:=11) (t:=75) h (hw 11 (by decide)) rfl rfl;obtain⟨rfl,hv⟩:=hJ;rw[hv]at e75;refine wp_app _ (.tmp 70) (.tmp 75) 22 rfl elBytes w.heap.size d2.1 o.data.length d2.2 (o.data.map bv) (ch_ev e1) (KDO.out.drew.alloc _) (some ⟨w1.heap.size,0,none⟩) 1 1 [bv b[i]] (ch_ev e75) (src_blk (blk_top (by simp))) rfl (by simp[Value.oneCell']) (by omega) (by simp;omega) ?_;exact x5i6
     ·exact x0p8
     ·exact x22o
     ·intro done cv a wq hw h hJ;have e1:=mx_new (i:=14) (t:=78) h (hw 14 (by decide)) rfl rfl rfl;have e76:=mx_cv (i:=12) (t:=76) h (hw 12 (by decide)) rfl rfl;obtain⟨B',c',hv,hown,hgr,hbel,hor⟩:=hJ;rw[hv]at e76;have hk1:wq.heap[g2]?=(w1.drew.alloc (.cells #[bv b[i]] 5)).heap[g2]?:=hgr.block g2 (by simp;omega) (fun e=>KNE.out e.symm);have hk2:(w1.drew.alloc (.cells #[bv b[i]] 5)).heap[g2]?=w1.heap[g2]?:=Below.heap_alloc w1.drew _ g2 kg2;have hkk:wq.heap[g2]?=w1.heap[g2]?:=hk1.trans hk2;have kc1:wq.cell? ⟨g2,l.length*3+2,none⟩=some (.slice d2.1 o.data.length d2.2):=(World.cell?_of_block hkk).trans kc2;exact x2v0
    exact x6w3
   have hlp:1<=l.length:=by
    rcases l with _|⟨x,l⟩
    ·exact absurd rfl hl2
    simp
   obtain⟨l1,o,hlo⟩:=snoc_of l hl2;have hD1:=HD.out;obtain⟨g,rfl,hg1,hg2⟩:=hD1.row.form hlp;have hD2:=hD1.drewN nd;rw[hlo]at hD2;obtain⟨ds2,d2,hdse,hdl,hc3,hc1,hc2,hfz,hdo⟩:=drow_cell hD2;have hll:l1.length=l.length-1:=by rw[hlo];simp
   rw[hll]at hc1;by_cases hol:0<o.len
   ·obtain⟨o1,ho1⟩:∃o:Stp,o=⟨0,0,[]⟩:=⟨_,rfl⟩;have HQ:Hid (diffN old b (q+1)=(i+1,l++[⟨o1.at_,o1.len,o1.data++[b.getD i 0]⟩])):=qH (HP.out.trans (by rw[ho1,hlo,addByte_new _ _ _ hol]));have hod:o1.data.length<=64:=by rw[ho1];simp
    have hl1:¬(l.length:Int)-1<0:=by omega
    clear HP hl2 hD1 hD2 hlo hdse hdl hc3 hc2 hfz hdo hll;have hb1:Below w.heap.size w (((wr.drewN nd)).alloc (.cells #[iv 0,iv 0,.slice none 0 0] 117)):=(Below.drewN' HB.out nd).alloc hsz _;have hD1:=(HD.out.drewN nd).below ((Below.refl (wr.drewN nd).heap.size (wr.drewN nd)).alloc (Nat.le_refl _) (.cells #[iv 0,iv 0,.slice none 0 0] 117));have HB1:=qH hb1;have HD1:=qH hD1;have hbb:((wr.drewN nd).alloc (.cells #[iv 0,iv 0,.slice none 0 0] 117)).cell? ⟨bb,bo+i,none⟩=some (bv b[i]):=by
     exact x4pg
    have HBB:=qH hbb;clear hb1 hD1 hbb;go_wp2_with (at_builtin;go_must (refine wpList_app _ rfl (.tmp 57) (.tmp 59) 23 rfl elOps w.heap.size _ l.length cc (opCells l ds) rfl HD1.out.row (some ⟨wr.heap.size,0,none⟩) 1 1 [iv 0,iv 0,.slice none 0 0] rfl (src_blk (blk_top (by simp))) rfl (by simp[Value.oneCell']) (by omega) (by simp;omega) ?_));intro C' cc1 w1 hown hgr hbel hor;obtain⟨g2,rfl,hg1,hg2⟩:=hown.form (by omega);have HDc:=qH (HD1.out.push hown hgr (by simpa using hor));have HBc:Hid (Below w.heap.size w w1):=qH (HB1.out.trans hbel);have hbx1:w1.cell? ⟨bb,bo+i,none⟩=some (bv b[i]):=by
     exact x5y2
    clear hown hgr hbel hor HBB hbx hbx' HD HD1 HB1 hl1 hol hlp;have hbx':=hbx1;clear hbx1;rw[<-ho1]at HDc;clear ho1;obtain⟨d2,hd2⟩:∃d9:Option Addr×Nat,(none,0)=d9:=⟨_,rfl⟩;rw[hd2]at HDc;clear hd2;obtain⟨ds1,d1,hds,hdl1,kc4,kc1,kc2,kfz,kdo⟩:=drow_cell HDc.out;obtain⟨rfl,hd1⟩:=List.append_inj' hds rfl;obtain rfl:d2=d1:=by simpa using hd1
    have kg:=(HDc.out.row.block g2 rfl);obtain⟨kg1,kg2⟩:=kg;have kne:d2.1.map (·.block)≠some g2:=fun e=>HDc.out.off l.length d2 (by rw[<-hdl1];simp) g2 e rfl;have KNE:=qH kne;have KDO:=qH kdo;have KFZ:=qH kfz;have hsz1:=HBc.out.size;clear hds hd1 kc4 kc1 kdo kne kfz hdl1;have hix:¬(l.length:Int)+1<=(l.length:Int):=by omega
    go_wp2_with fail;refine wp_region_mix (by kernel_rfl) (some 64::some 65::some 66::some 67::some 68::some 69::some 70::some 71::some 72::some 73::some 74::some 75::some 76::some 77::some 78::none::[]) (none::none::none::none::none::none::none::none::none::none::none::some 0::some 1::none::none::some 2::[]) (.slice (some ⟨g2,0,none⟩) (l.length+1) cc1::.int .i64 (l.length:Int)::.slice (some ⟨g2,0,none⟩) (l.length+1) cc1::.int .i64 (l.length:Int)::.pointer (some ⟨g2,l.length*3,none⟩)::.pointer (some ⟨g2,l.length*3+2,none⟩)::.slice d2.1 o1.data.length d2.2::.slice (some ⟨bb,bo,none⟩) b.length d::.int .i64 (i:Int)::.pointer (some ⟨bb,bo+i,none⟩)::bv b[i]::undef::undef::.pointer (some ⟨g2,l.length*3,none⟩)::.pointer (some ⟨g2,l.length*3+2,none⟩)::undef::[]) 3 (diffJ w w1 l o1 ds d2 g2 cc1 b[i]) 82 rfl rfl (by decide+kernel) (by decide+kernel) (by decide+kernel) (by decide+kernel) rfl rfl (by decide+kernel) (by decide+kernel) (rfl) ?_ ?_
    ·refine⟨?_,?_,?_,?_,?_,?_,?_,?_,?_,?_,?_,?_,?_,?_,?_,?_,trivial⟩
     ·exact x49r
     ·exact x7ji
     ·exact x49r
     ·exact x7ji
     ·exact x97z
     ·exact x0s2
     ·exact x1by
     ·exact x98c
     ·exact x1jt
     ·exact x2wx
     ·exact x4cb
     ·exact x75y
     ·intro done cv a wq hw h hJ;have e1:=mx_new (i:=6) (t:=70) h (hw 6 (by decide)) rfl rfl rfl;have e75:=mx_cv (i:=11) (t:=75) h (hw 11 (by decide)) rfl rfl;obtain⟨rfl,hv⟩:=hJ;rw[hv]at e75;refine wp_app _ (.tmp 70) (.tmp 75) 22 rfl elBytes w.heap.size d2.1 o1.data.length d2.2 (o1.data.map bv) (ch_ev e1) (KDO.out.drew.alloc _) (some ⟨w1.heap.size,0,none⟩) 1 1 [bv b[i]] (ch_ev e75) (src_blk (blk_top (by simp))) rfl (by simp[Value.oneCell']) (by omega) (by simp;omega) ?_;exact x5i6
     ·exact x0p8
     ·exact x22o
     ·intro done cv a wq hw h hJ;have e1:=mx_new (i:=14) (t:=78) h (hw 14 (by decide)) rfl rfl rfl;have e76:=mx_cv (i:=12) (t:=76) h (hw 12 (by decide)) rfl rfl;obtain⟨B',c',hv,hown,hgr,hbel,hor⟩:=hJ;rw[hv]at e76;have hk1:wq.heap[g2]?=(w1.drew.alloc (.cells #[bv b[i]] 5)).heap[g2]?:=hgr.block g2 (by simp;omega) (fun e=>KNE.out e.symm);have hk2:(w1.drew.alloc (.cells #[bv b[i]] 5)).heap[g2]?=w1.heap[g2]?:=Below.heap_alloc w1.drew _ g2 kg2;have hkk:wq.heap[g2]?=w1.heap[g2]?:=hk1.trans hk2;have kc1:wq.cell? ⟨g2,l.length*3+2,none⟩=some (.slice d2.1 o1.data.length d2.2):=(World.cell?_of_block hkk).trans kc2;exact x2v0
    exact x6w3
   subst hlo;have hD3:=HD.out;rw[hdse]at hD3;clear HD;have HD:=qH hD3;have HQ:=qH (HP.out.trans (by rw[addByte_last _ _ _ hol]));have hod:=HM.out o (by simp);simp only[List.length_append,List.length_cons,List.length_nil]at hlen;clear HP hl2 hfz hc3 hc2 hdo hdl hD1 hD2 hD3 hll hlp;have hc1':(wr.drewN nd).cell? ⟨g,l1.length*3+1,none⟩=some (iv o.len):=by simpa using hc1
   clear hc1;have HDc:=qH (HD.out.drewN nd);have HBc:Hid (Below w.heap.size w (wr.drewN nd)):=qH (Below.drewN' HB.out nd);clear hbx HD;subst hdse;generalize wr.drewN nd=w2 at *
   obtain⟨ds1,d1,hds,hdl1,kc4,kc1,kc2,kfz,kdo⟩:=drow_cell HDc.out;obtain⟨rfl,hd1⟩:=List.append_inj' hds rfl;obtain rfl:d2=d1:=by simpa using hd1
   have kg:=(HDc.out.row.block g rfl);obtain⟨kg1,kg2⟩:=kg;have kne:d2.1.map (·.block)≠some g:=fun e=>HDc.out.off l1.length d2 (by rw[<-hdl1];simp) g e rfl;have KNE:=qH kne;have KDO:=qH kdo;have KFZ:=qH kfz;have hsz1:=HBc.out.size;clear hds hd1 kc4 kc1 kdo kne kfz hdl1;have hix:¬(l1.length:Int)+1<=(l1.length:Int):=by omega
   go_wp2_with fail;refine wp_region_mix (by kernel_rfl) (some 64::some 65::some 66::some 67::some 68::some 69::some 70::some 71::some 72::some 73::some 74::some 75::some 76::some 77::some 78::none::[]) (none::none::none::none::none::none::none::none::none::none::none::some 0::some 1::none::none::some 2::[]) (.slice (some ⟨g,0,none⟩) (l1.length+1) cc::.int .i64 (l1.length:Int)::.slice (some ⟨g,0,none⟩) (l1.length+1) cc::.int .i64 (l1.length:Int)::.pointer (some ⟨g,l1.length*3,none⟩)::.pointer (some ⟨g,l1.length*3+2,none⟩)::.slice d2.1 o.data.length d2.2::.slice (some ⟨bb,bo,none⟩) b.length d::.int .i64 (i:Int)::.pointer (some ⟨bb,bo+i,none⟩)::bv b[i]::undef::undef::.pointer (some ⟨g,l1.length*3,none⟩)::.pointer (some ⟨g,l1.length*3+2,none⟩)::undef::[]) 3 (diffJ w w2 l1 o ds2 d2 g cc b[i]) 82 rfl rfl (by decide+kernel) (by decide+kernel) (by decide+kernel) (by decide+kernel) rfl rfl (by decide+kernel) (by decide+kernel) (rfl) ?_ ?_
   ·refine⟨?_,?_,?_,?_,?_,?_,?_,?_,?_,?_,?_,?_,?_,?_,?_,?_,trivial⟩
    ·exact x5qp
    ·exact x9y2
    ·exact x5qp
    ·exact x9y2
    ·exact x97z
    ·exact x0s2
    ·exact x1by
    ·exact x98c
    ·exact x1jt
    ·exact x2wx
    ·intro done cv k a wq hw h hJ hn;have e1:=mx_new (i:=9) (t:=73) h (hw 9 (by decide)) rfl rfl rfl;have hk:=hn 11 _ 0 rfl rfl (by decide);obtain rfl:k=0:=by omega
     obtain rfl:wq=w2.drew:=hJ;go_simp
    ·intro done cv a wq hw h hJ;have e1:=mx_new (i:=10) (t:=74) h (hw 10 (by decide)) rfl rfl rfl;obtain rfl:wq=w2.drew:=hJ;exact wp_slb e1 ⟨_,rfl,rfl,by simp⟩
    ·intro done cv a wq hw h hJ;have e1:=mx_new (i:=6) (t:=70) h (hw 6 (by decide)) rfl rfl rfl;have e75:=mx_cv (i:=11) (t:=75) h (hw 11 (by decide)) rfl rfl;obtain⟨rfl,hv⟩:=hJ;rw[hv]at e75;refine wp_app _ (.tmp 70) (.tmp 75) 22 rfl elBytes w.heap.size d2.1 o.data.length d2.2 (o.data.map bv) (ch_ev e1) (KDO.out.drew.alloc _) (some ⟨w2.heap.size,0,none⟩) 1 1 [bv b[i]] (ch_ev e75) (src_blk (blk_top (by simp))) rfl (by simp[Value.oneCell']) (by omega) (by simp;omega) ?_;exact x5i6
    ·exact x0p8
    ·exact x22o
    ·intro done cv a wq hw h hJ;have e1:=mx_new (i:=14) (t:=78) h (hw 14 (by decide)) rfl rfl rfl;have e76:=mx_cv (i:=12) (t:=76) h (hw 12 (by decide)) rfl rfl;obtain⟨B',c',hv,hown,hgr,hbel,hor⟩:=hJ;rw[hv]at e76;have hk1:wq.heap[g]?=(w2.drew.alloc (.cells #[bv b[i]] 5)).heap[g]?:=hgr.block g (by simp;omega) (fun e=>KNE.out e.symm);have hk2:(w2.drew.alloc (.cells #[bv b[i]] 5)).heap[g]?=w2.heap[g]?:=Below.heap_alloc w2.drew _ g kg2;have hkk:wq.heap[g]?=w2.heap[g]?:=hk1.trans hk2;have kc1:wq.cell? ⟨g,l1.length*3+2,none⟩=some (.slice d2.1 o.data.length d2.2):=(World.cell?_of_block hkk).trans kc2;have kf1:wq.frozen? ⟨g,l1.length*3+2,none⟩=false:=by
      have:=KFZ.out (l1.length*3+2);unfold World.frozen? at this⊢;rw[hkk];exact this
     have HD1:=HDc.out.below (((Below.refl w2.heap.size w2).drew).alloc (Nat.le_refl _) (.cells #[bv b[i]] 5));have HDn:=HD1.add hown hgr hor;have HBn:Below w.heap.size w wq:=(HBc.out.drew.alloc hsz1 _).trans hbel;exact wp_stb e1 e76 kc1 kf1 ⟨undef,rfl,B',c',HDn,HBn.setCell kg1 _⟩
   rintro cv w1 ⟨B',c',HDn',HBn'⟩;have HDn:=qH HDn';have HBn:=qH HBn';clear HDn' HBn' kc2 kg1 kg2 hbx';simp only[mixAll,putAll_some,putAll_none,putAll_nil,List.getElem?_cons_zero,List.getElem?_cons_succ,Nat.zero_add,Nat.reduceAdd,List.setIfInBounds_toArray,List.set_cons_zero,List.set_cons_succ];go_wp2_with fail;go_roundw
   case rel=>
    have hget:b.getD i 0=b[i]:=by rw[List.getD_eq_getElem?_getD,List.getElem?_eq_getElem hlt];rfl
    refine⟨q+1,some ⟨g,0,none⟩,cc,ds2++[(B',c')],by rw[HQ.out];go_num,by rw[HQ.out];simp,?_,HBn⟩;rw[HQ.out,hget];exact HDn.out
   case measure=>simp[intOf];omega
  have hend:=diffN_end old b q hlt;have hsps:Fresh w.heap.size wr (fun v=>Sps v C (diffN old b q).2):=hD.fresh (fun o ho=>by
   have h1:=hinv.each o ho;have h2:=data_le old _ o ho;rw[hinv.gives]at h2;simp at h2;unfold I64;rcases h1 with ⟨e1,e2,_⟩|⟨e1,e2,e3,_⟩
   ·rw[e1,e2];exact⟨by omega,by omega,by omega⟩
   exact⟨by omega,by omega,by omega⟩)
  have HS:=qH hsps;have HE:=qH hend;have HO:=qH hD.row.le;have hlt':¬((diffN old b q).1:Int)<(b.length:Int):=by omega
  clear hsps hend hD hinv hle;go_wp2_with fail;refine bodyPost_ret (results_tmp2 rfl _ _ _) rfl ⟨C,cc,?_,?_,?_,HB.out⟩
  ·rw[<-HE.out];rfl
  ·rw[<-HE.out];exact HS.out
  rw[<-HE.out];exact HO.out
end Go.Proofs.Ytefkfglkpebbmac
