/- Walks of functions, and plain words. No conditions. -/
import Derived.Test.YtefkfglkpebbmacPE1
import Derived.Laws.StructEq
import Derived.Deep.LoopGhost
import Derived.StillTailTactics
import Derived.Laws.CopyRow
import Derived.Lib.Overlaps
set_option linter.unusedVariables false
set_option linter.unusedSimpArgs false
set_option maxRecDepth 100000
set_option maxHeartbeats 40000000
namespace Go.Proofs.Ytefkfglkpebbmac
open Go.RowKit
variable {Y:Prop}
variable {x y:Stp} {w:World}
theorem x0oq(h:Y:=by
 exact absurd ⟨by simpa[Rec.at_]using n1,by simp,fun _=>n2,by simpa[Rec.at_]using h⟩ hn):Y:=h
theorem x2tz(h:Y:=by
 have HI:=qH hI;clear hI;go_wp2_with fail;all_goals first|(go_ret;exact⟨ret_int HF.out.symm,hB.alloc hB.size _⟩)|(exfalso;have h:=HI.out;unfold InfRange at h;simp only at h;omega)):Y:=h
theorem x3eu(h:Y:=by
 exact absurd ⟨by simpa[Rec.at_]using n1,fun _=>⟨by simpa[Rec.at_]using n2,by simpa[Rec.at_]using e1⟩,by simp,by simpa[Rec.at_]using h⟩ hn):Y:=h
theorem x4hb(h:Y:=by
 go_wp2_with fail;go_quiet (fail)
 go_wp2_with fail;go_ret;exact⟨ret_int HF.out.symm,Below.drewN' hB _⟩):Y:=h
theorem x61u(h:Y:=by
 have HZ:=qH hz;clear hz;go_wp2_with fail;all_goals first|(go_ret;exact⟨ret_int HF.out.symm,hB.alloc hB.size _⟩)|(exfalso;have h:=HZ.out;omega)):Y:=h
theorem x88h(h:Y:=by
 go_wp2_with fail;go_roundw
 case rel=>exact⟨2,by omega,rfl,hB.alloc hB.size _,blk_old HK.out,fun _=>HA.out,fun _=>HI.out⟩
 case measure=>simp[intOf]<;>omega):Y:=h
theorem x8bj(h:Y:=by
 go_wp2_with fail;go_roundw
 case rel=>exact⟨1,by omega,rfl,hB.alloc hB.size _,blk_old HK.out,fun _=>HI.out,by omega⟩
 case measure=>simp[intOf]<;>omega):Y:=h
theorem recCheck_range(g ac:Int)(tr:Bool)(ts fl va sa ca vb sb cb:Int)(w:World)(h:¬(1<=g∧g<=1000000∧0<=ac∧ac<=1∧0<=ts∧ts<=3∧1<=fl∧fl<=30)):
  Calls Try.prog 151 #[.agg #[iv g,iv ac,.bool tr,iv ts,iv fl,iv va,iv sa,iv ca,iv vb,iv sb,iv cb]] w (RetB w (iv 2)):=by
 have H:=qH h;clear h;go_enter Try.func151,Try.ntmps151;go_wp2_with fail;all_goals first|(go_ret;exact⟨rfl,(Below.refl _ _).alloc (Nat.le_refl _) _⟩)|(exfalso;have h:=H.out;omega)
theorem recCheck_rest(g ac:Int)(tr:Bool)(ts fl va sa ca vb sb cb:Int)(w:World)(h1:1<=g)(h2:g<=1000000)(h3:0<=ac)(h4:ac<=1)(h5:0<=ts)(h6:ts<=3)(h7:1<=fl)(h8:fl<=30):
  Calls Try.prog 151 #[.agg #[iv g,iv ac,.bool tr,iv ts,iv fl,iv va,iv sa,iv ca,iv vb,iv sb,iv cb]] w (RetB w (iv (recCheck ⟨g,ac,tr,ts,fl,⟨va,sa,ca⟩,⟨vb,sb,cb⟩⟩))):=by
 have i2:∀w,(Instr.index 64 (.agg #[iv va,iv sa,iv ca,iv vb,iv sb,iv cb]) (.int .i64 0)).run Try.prog w=.ok (.agg #[iv va,iv sa,iv ca]) w:=fun _=>by kernel_rfl
 have i1:∀w,(Instr.index 64 (.agg #[iv va,iv sa,iv ca,iv vb,iv sb,iv cb]) (.int .i64 1)).run Try.prog w=.ok (.agg #[iv vb,iv sb,iv cb]) w:=fun _=>by kernel_rfl
 go_enter Try.func151,Try.ntmps151;go_wp2_with fail;go_loopw [45] (fun i wr=>∃k:Nat,k<=2∧i=.int .i64 k∧Below w.heap.size w wr∧(wr.heap[w.heap.size]?=some (.cells #[iv g,iv ac,.bool tr,iv ts,iv fl,iv va,iv sa,iv ca,iv vb,iv sb,iv cb] 66))∧(0<k->infCheck ⟨va,sa,ca⟩=0)∧(1<k->infCheck ⟨vb,sb,cb⟩=0)) (fun i _=>(2-intOf i).toNat)
 case atStart=>exact⟨0,by omega,rfl,(Below.refl _ _).alloc (Nat.le_refl _) _,blk_top rfl,by omega,by omega⟩
 case round=>
  obtain⟨k,hk,rfl,hB,hblk,ha,hb⟩:=hrel;have hrg:RangeOk ⟨g,ac,tr,ts,fl,⟨va,sa,ca⟩,⟨vb,sb,cb⟩⟩:=⟨h1,h2,h3,h4,h5,h6,h7,h8⟩;have HR:=qH hrg;clear hrg;by_cases hlt:k<2
  ·rcases (show k=0∨k=1 by omega)with rfl|rfl
   ·have HK:=qH hblk;clear hblk ha hb;by_cases hI:InfRange ⟨va,sa,ca⟩
    ·obtain⟨j1,j2,j3,j4,j5,j6⟩:=hI;simp only at j1 j2 j3 j4 j5 j6;by_cases hv:va=0
     ·subst hv;by_cases hz:sa=0∧ca=0
      ·obtain⟨rfl,rfl⟩:=hz;have HI:Hid (infCheck ⟨0,0,0⟩=0):=infCheck_ok ⟨j1,j2,j3,j4,j5,j6⟩ (fun _=>⟨rfl,rfl⟩);clear j1 j2 j3 j4 j5 j6;exact x8bj
      have HF:=qH (recCheck_a HR.out (infCheck_form ⟨j1,j2,j3,j4,j5,j6⟩ rfl hz) (by omega));exact x61u
     have HI:Hid (infCheck ⟨va,sa,ca⟩=0):=infCheck_ok ⟨j1,j2,j3,j4,j5,j6⟩ (fun h=>absurd h hv);have hv1:(va==0)=false:=by rw[beq_eq_false_iff_ne];exact hv
     clear hv;exact x8bj
    have HF:=qH (recCheck_a HR.out (infCheck_bad hI) (by omega));exact x2tz
   ·have HK:=qH hblk;have HA:=qH (ha (by omega));clear hblk ha hb;by_cases hI:InfRange ⟨vb,sb,cb⟩
    ·obtain⟨j1,j2,j3,j4,j5,j6⟩:=hI;simp only at j1 j2 j3 j4 j5 j6;by_cases hv:vb=0
     ·subst hv;by_cases hz:sb=0∧cb=0
      ·obtain⟨rfl,rfl⟩:=hz;have HI:Hid (infCheck ⟨0,0,0⟩=0):=infCheck_ok ⟨j1,j2,j3,j4,j5,j6⟩ (fun _=>⟨rfl,rfl⟩);clear j1 j2 j3 j4 j5 j6;exact x88h
      have HF:=qH (recCheck_b HR.out HA.out (infCheck_form ⟨j1,j2,j3,j4,j5,j6⟩ rfl hz) (by omega));exact x61u
     have HI:Hid (infCheck ⟨vb,sb,cb⟩=0):=infCheck_ok ⟨j1,j2,j3,j4,j5,j6⟩ (fun h=>absurd h hv);have hv1:(vb==0)=false:=by rw[beq_eq_false_iff_ne];exact hv
     clear hv;exact x88h
    have HF:=qH (recCheck_b HR.out HA.out (infCheck_bad hI) (by omega));exact x2tz
  obtain rfl:k=2:=by omega
  have HA:=qH (ha (by omega));have HB1:=qH (hb (by omega));clear ha hb;have c1:∀j,wr.cell? ⟨w.heap.size,j,none⟩=(#[iv g,iv ac,.bool tr,iv ts,iv fl,iv va,iv sa,iv ca,iv vb,iv sb,iv cb]:Array Value)[j]?:=fun j=>cell_of_row _ _ _ _ _ _ hblk;have k1:=c1 1;have k2:=c1 2;have k3:=c1 3;have k4:=c1 4;have k5:=c1 5;have k6:=c1 8;simp at k1 k2 k3 k4 k5 k6;clear c1 hblk;by_cases hF:FormOk ⟨g,ac,tr,ts,fl,⟨va,sa,ca⟩,⟨vb,sb,cb⟩⟩
  ·have HF:=qH (recCheck_ok HR.out HA.out HB1.out hF);obtain⟨f1,f2,f3,f4⟩:=hF;rcases (show ac=0∨ac=1 by omega)with rfl|rfl
   ·simp[Rec.at_]at f1 f2 f3 f4
    cases tr
    ·have e1:(va==0)=false:=by rw[beq_eq_false_iff_ne];simpa using f1
     have e1:(ts !=0)=false:=by have:=f3 rfl;simp[this]
     have e1:fl<=va:=by simpa using f4
     clear f1 f2 f3 f4;exact x4hb
    have e1:(va==0)=false:=by rw[beq_eq_false_iff_ne];simpa using f1
    have e1:(vb==0)=false:=by rw[beq_eq_false_iff_ne];simpa using (f2 rfl).1
    have e1:fl<=vb:=by simpa using (f2 rfl).2
    have d1:decide (vb<fl)=false:=by simpa using e1
    have e1:fl<=va:=by simpa using f4
    clear f1 f2 f3 f4;exact x4hb
   simp[Rec.at_]at f1 f2 f3 f4
   cases tr
   ·have e1:(vb==0)=false:=by rw[beq_eq_false_iff_ne];simpa using f1
    have e1:(ts !=0)=false:=by have:=f3 rfl;simp[this]
    have e1:fl<=vb:=by simpa using f4
    clear f1 f2 f3 f4;exact x4hb
   have e1:(vb==0)=false:=by rw[beq_eq_false_iff_ne];simpa using f1
   have e1:(va==0)=false:=by rw[beq_eq_false_iff_ne];simpa using (f2 rfl).1
   have e1:fl<=va:=by simpa using (f2 rfl).2
   have d1:decide (va<fl)=false:=by simpa using e1
   have e1:fl<=vb:=by simpa using f4
   clear f1 f2 f3 f4;exact x4hb
  have HF:=qH (recCheck_form HR.out HA.out HB1.out hF);rcases (show ac=0∨ac=1 by omega)with rfl|rfl
  ·cases tr
   ·have hn:=hF;clear hF;by_cases n1:va=0
    ·have e1:(va==0)=true:=by rw[beq_iff_eq];exact n1
     clear n1;clear hn;exact x4hb
    have e1:(va==0)=false:=by rw[beq_eq_false_iff_ne];exact n1
    by_cases n2:ts=0
    ·have e1:(ts !=0)=false:=by simp[n2]
     have e1:va<fl:=by
      rcases Int.lt_or_le va fl with h|h
      ·exact h
      exact x0oq
     clear n1 n2;clear hn;exact x4hb
    have e1:(ts !=0)=true:=by simp[n2]
    clear n1 n2;clear hn;exact x4hb
   ·have hn:=hF;clear hF;by_cases n1:va=0
    ·have e1:(va==0)=true:=by rw[beq_iff_eq];exact n1
     clear n1;clear hn;exact x4hb
    have e1:(va==0)=false:=by rw[beq_eq_false_iff_ne];exact n1
    by_cases n2:vb=0
    ·have e1:(vb==0)=true:=by rw[beq_iff_eq];exact n2
     clear n1 n2;clear hn;exact x4hb
    have e1:(vb==0)=false:=by rw[beq_eq_false_iff_ne];exact n2
    by_cases n3:vb<fl
    ·clear n1 n2;clear hn;exact x4hb
    have e1:fl<=vb:=by omega
    have d1:decide (vb<fl)=false:=by simpa using e1
    have e1:va<fl:=by
     rcases Int.lt_or_le va fl with h|h
     ·exact h
     exact x3eu
    clear n1 n2 n3;clear hn;exact x4hb
  cases tr
  ·have hn:=hF;clear hF;by_cases n1:vb=0
   ·have e1:(vb==0)=true:=by rw[beq_iff_eq];exact n1
    clear n1;clear hn;exact x4hb
   have e1:(vb==0)=false:=by rw[beq_eq_false_iff_ne];exact n1
   by_cases n2:ts=0
   ·have e1:(ts !=0)=false:=by simp[n2]
    have e1:vb<fl:=by
     rcases Int.lt_or_le vb fl with h|h
     ·exact h
     exact x0oq
    clear n1 n2;clear hn;exact x4hb
   have e1:(ts !=0)=true:=by simp[n2]
   clear n1 n2;clear hn;exact x4hb
  have hn:=hF;clear hF;by_cases n1:vb=0
  ·have e1:(vb==0)=true:=by rw[beq_iff_eq];exact n1
   clear n1;clear hn;exact x4hb
  have e1:(vb==0)=false:=by rw[beq_eq_false_iff_ne];exact n1
  by_cases n2:va=0
  ·have e1:(va==0)=true:=by rw[beq_iff_eq];exact n2
   clear n1 n2;clear hn;exact x4hb
  have e1:(va==0)=false:=by rw[beq_eq_false_iff_ne];exact n2
  by_cases n3:va<fl
  ·clear n1 n2;clear hn;exact x4hb
  have e1:fl<=va:=by omega
  have d1:decide (va<fl)=false:=by simpa using e1
  have e1:vb<fl:=by
   rcases Int.lt_or_le vb fl with h|h
   ·exact h
   exact x3eu
  clear n1 n2 n3;clear hn;exact x4hb
theorem recCheck_calls(g ac:Int)(tr:Bool)(ts fl va sa ca vb sb cb:Int)(w:World):
  Calls Try.prog 151 #[.agg #[iv g,iv ac,.bool tr,iv ts,iv fl,iv va,iv sa,iv ca,iv vb,iv sb,iv cb]] w (RetB w (iv (recCheck ⟨g,ac,tr,ts,fl,⟨va,sa,ca⟩,⟨vb,sb,cb⟩⟩))):=by
 by_cases h:RangeOk ⟨g,ac,tr,ts,fl,⟨va,sa,ca⟩,⟨vb,sb,cb⟩⟩
 ·obtain⟨h1,h2,h3,h4,h5,h6,h7,h8⟩:=h;exact recCheck_rest g ac tr ts fl va sa ca vb sb cb w h1 h2 h3 h4 h5 h6 h7 h8
 rw[recCheck_bad h];exact recCheck_range g ac tr ts fl va sa ca vb sb cb w h
theorem x4e8(h:Y:=by
 go_wp2_with fail;go_ret;exact⟨ret_bool (by rw[decide_eq_false (fun e=>HX.out (by rw[e]))]),Below.refl _ _⟩):Y:=h
theorem x61t(h:Y:=by
 go_wp2_with fail;go_ret;exact⟨ret_bool HZ.out,HB1.out⟩):Y:=h
theorem equalBytes_calls(A B:OA)(c d:Nat)(l m:LU)(w:World)(hl:l.length<=140737488351232)(hm:m.length<=140737488351232)(ha:Bts w A l)(hb:Bts w B m):
  Calls Try.prog 94 #[.slice A l.length c,.slice B m.length d] w (RetN w (.bool (decide (l=m)))):=by
 by_cases hne:l.length=m.length
 ·have hdl:((l.length:Int) !=(m.length:Int))=false:=by simp[hne]
  have HE:=qH hne;have hm1:l.length<=m.length:=by omega
  have hm1:m.length<=l.length:=by omega
  clear hne;go_enter Try.func94,Try.ntmps94
  go_wp2
  go_loopw [5,13] (fun u i wr=>∃k n:Nat,k<=l.length∧i=.int .i64 k∧l.take k=m.take k∧w.drewN n=wr) (fun _ i _=>l.length-(intOf i).toNat)
  case atStart=>exact⟨0,0,Nat.zero_le _,rfl,rfl,rfl⟩
  case round=>
   obtain⟨k,n,hk,rfl,ht,rfl⟩:=hrel;have HT:=qH ht;clear ht;by_cases hlt:k<l.length
   ·obtain⟨b1,o1,rfl,hs1,hc1⟩:=ha k hlt;obtain⟨b1,o1,rfl,hs1,hc1⟩:=hb k (by omega);by_cases he:l[k]=m[k]'(by omega)
    ·have hd:((l[k].toNat:Int) !=((m[k]'(by omega)).toNat:Int))=false:=by simp[he]
     exact x14e
    have hd:((l[k].toNat:Int) !=((m[k]'(by omega)).toNat:Int))=true:=by simp;exact fun e=>he (UInt8.toNat_inj.1 (by omega))
    exact x9vk
   go_wp2_with fail;go_ret;refine⟨ret_bool ?_,_,rfl⟩;exact x9ap
 have hdl:((l.length:Int) !=(m.length:Int))=true:=by simp;omega
 have HX:=qH hne;clear hne;go_enter Try.func94,Try.ntmps94;exact x1gd
theorem x2od(h:Y:=by
 go_enter Try.func93,Try.ntmps93;go_wp2_with fail;go_ret;exact⟨ret_bool HE.out.symm,((Below.refl _ _).alloc (Nat.le_refl _) _).alloc (by simp) _⟩):Y:=h
theorem stp_ne_at(h:x.at_≠y.at_):x≠y:=by rintro rfl;exact h rfl
theorem stp_ne_len(h:x.len≠y.len):x≠y:=by rintro rfl;exact h rfl
theorem stp_eq(h1:x.at_=y.at_)(h2:x.len=y.len):decide (x.data=y.data)=decide (x=y):=by
 obtain⟨a,l,d⟩:=x;obtain⟨b,m,e⟩:=y;simp only at h1 h2;subst h1 h2;simp
theorem same1_calls(x y:Stp)(B D:OA)(c d:Nat)(w:World)(hx:x.data.length<=140737488351232)(hy:y.data.length<=140737488351232)(hB:Bts w B x.data)(hD:Bts w D y.data):
  Calls Try.prog 93 #[.agg #[iv x.at_,iv x.len,.slice B x.data.length c],.agg #[iv y.at_,iv y.len,.slice D y.data.length d]] w (RetB w (.bool (decide (x=y)))):=by
 by_cases h1:x.at_=y.at_
 ·by_cases h2:x.len=y.len
  ·have q1:(x.at_==y.at_)=true:=by simp[h1]
   have q1:(x.len==y.len)=true:=by simp[h2]
   have HE:=qH (stp_eq h1 h2);have bl:=((Below.refl w.heap.size w).alloc (Nat.le_refl _) (.cells #[iv x.at_,iv x.len,.slice B x.data.length c] 117)).alloc (by simp) (.cells #[iv y.at_,iv y.len,.slice D y.data.length d] 117);have HC:=qH (equalBytes_calls B D c d x.data y.data _ hx hy (hB.stays bl) (hD.stays bl));have HB:=qH bl;clear h1 h2 hB hD bl;go_enter Try.func93,Try.ntmps93;go_wp2_with fail;refine HC.out.mono ?_;rintro e w1 ⟨rfl,n,rfl⟩;go_wp2_with fail;go_ret;exact⟨ret_bool HE.out,Below.drewN' HB.out n⟩
  ·have q1:(x.at_==y.at_)=true:=by simp[h1]
   have q1:(x.len==y.len)=false:=by simp[h2]
   have HE:=qH (decide_eq_false (stp_ne_len h2));clear h1 h2;exact x2od
 have q1:(x.at_==y.at_)=false:=by simp[h1]
 have HE:=qH (decide_eq_false (stp_ne_at h1));clear h1;exact x2od
theorem eqfOps_calls(A B:OA)(c d:Nat)(l m:List Stp)(w:World)(hl:l.length<=3518437208780)(hm:m.length<=3518437208780)(ha:Sps w A l)(hb:Sps w B m):
  Calls Try.prog 92 #[.slice A l.length c,.slice B m.length d,.func (Fn.func 93) #[] #[]] w (RetB w (.bool (decide (l=m)))):=by
 by_cases hne:l.length=m.length
 ·have hdl:((l.length:Int) !=(m.length:Int))=false:=by simp[hne]
  have HE:=qH hne;have hm1:l.length<=m.length:=by omega
  have hm1:m.length<=l.length:=by omega
  clear hne;go_enter Try.func92,Try.ntmps92;go_wp2_with fail;go_loopw [17] (fun i wr=>∃k:Nat,k<=l.length∧i=.int .i64 k∧Hid (l.take k=m.take k)∧Hid (Below w.heap.size w wr)) (fun i _=>l.length-(intOf i).toNat)
  case atStart=>exact⟨0,Nat.zero_le _,rfl,qH rfl,qH (Below.refl _ _)⟩
  case round=>
   obtain⟨k,hk,rfl,HT,HB⟩:=hrel;by_cases hlt:k<l.length
   ·obtain⟨b1,o1,B1,c1,rfl,hs1,p6,p1,p2,p3,p4,p5,-,-⟩:=(ha.stays HB.out).at_ hlt;obtain⟨b1,o1,B2,c2,rfl,hs1,r6,r1,r2,r3,r4,r5,-,-⟩:=(hb.stays HB.out).at_ (i:=k) (by omega);have hsz:=HB.out.size;have HX:Hid (∀e:l[k]=m[k]'(by omega),l.take (k+1)=m.take (k+1)):=qH fun e=>take_eq_succ HT.out hlt (by omega) e;have HN:Hid (∀e:l[k]≠m[k]'(by omega),l≠m):=qH fun e=>ne_of_at hlt (by omega) e;generalize l[k]=x at *
    generalize m[k]'(by omega)=y at *
    have hsb:=fun w2 (h:Below wr.heap.size wr w2)=>same1_calls x y B1 B2 c1 c2 w2 p4 r4 (p5.stays h) (r5.stays h);have HC:=qH hsb;clear hsb p5 r5;go_wp2_with fail;have bl:=((Below.refl wr.heap.size wr).alloc (Nat.le_refl _) (.cells #[iv x.at_,iv x.len,.slice B1 x.data.length c1] 117)).alloc (by simp) (.cells #[iv y.at_,iv y.len,.slice B2 y.data.length c2] 117);refine(HC.out _ bl).mono ?_;rintro e w1 ⟨rfl,hb1⟩;have HB1:Hid (Below w.heap.size w w1):=qH ((HB.out.trans (bl.mono hsz)).trans (hb1.mono (by simp;omega)));clear bl hb1;by_cases hxy:x=y
    ·have hd:decide (x=y)=true:=by simp[hxy]
     have HY:=qH (HX.out hxy);clear hxy HX HN;go_wp2_with fail;go_roundw
     case rel=>exact⟨k+1,by omega,by go_num,HY,HB1⟩
     case measure=>simp[intOf]<;>omega
    have hd:decide (x=y)=false:=by simp[hxy]
    have HY:=qH (HN.out hxy);clear hxy HX HN;go_wp2_with fail;go_ret;exact⟨ret_bool (by rw[decide_eq_false HY.out]),HB1.out⟩
   go_wp2_with fail;go_ret;refine⟨ret_bool ?_,HB.out⟩;exact x9ap
 have hdl:((l.length:Int) !=(m.length:Int))=true:=by simp;omega
 have HX:=qH hne;clear hne;go_enter Try.func92,Try.ntmps92;exact x4e8
theorem equalOps_calls(A B:OA)(c d:Nat)(l m:List Stp)(w:World)(hl:l.length<=3518437208780)(hm:m.length<=3518437208780)(ha:Sps w A l)(hb:Sps w B m):
  Calls Try.prog 21 #[.slice A l.length c,.slice B m.length d] w (RetB w (.bool (decide (l=m)))):=by
 go_enter Try.func21,Try.ntmps21;go_wp2_with fail;refine(eqfOps_calls A B c d l m w hl hm ha hb).mono ?_;exact x3rf
theorem x5ta(h:Y:=by
 go_enter Try.func31,Try.ntmps31;go_wp2_with fail;go_ret;exact⟨ret_bool HZ.out,HB.out⟩):Y:=h
theorem patSameA_calls(A B:OA)(c d:Nat)(f t o n sz f2 t2 o2 n2 sz2:Int)(l m:List Stp)(w:World)(hl:l.length<=3518437208780)(hm:m.length<=3518437208780)(hs:Sps w A l)(hr:Sps w B m):
  Calls Try.prog 31 #[.agg #[iv f,iv t,iv o,iv n,iv sz,.slice A l.length c],.agg #[iv f2,iv t2,iv o2,iv n2,iv sz2,.slice B m.length d]] w (RetB w (.bool (decide ((⟨f,t,o,n,sz,l⟩:Pat)=⟨f2,t2,o2,n2,sz2,m⟩)))):=by
 have hb:Below w.heap.size w ((w.alloc (.cells #[iv f,iv t,iv o,iv n,iv sz,.slice A l.length c] 35)).alloc (.cells #[iv f2,iv t2,iv o2,iv n2,iv sz2,.slice B m.length d] 35)):=((Below.refl _ _).alloc (Nat.le_refl _) _).alloc (by simp) _;obtain⟨r,hR⟩:∃r,decide ((⟨f,t,o,n,sz,l⟩:Pat)=⟨f2,t2,o2,n2,sz2,m⟩)=r:=⟨_,rfl⟩;rw[hR];have HR:=qH hR;clear hR;have HB:=qH hb;have HC:=qH (equalOps_calls A B c d l m _ hl hm (hs.stays hb) (hr.stays hb));clear hb hs hr;by_cases h5:¬f=f2
 ·have hz:false=r:=(decide_eq_false (fun e=>by injection e;contradiction)).symm.trans HR.out;have HZ:=qH hz;have q:(f==f2)=false:=by simp[h5]
  clear HC hz h5;exact x5ta
 have h5:=Decidable.not_not.1 h5;subst h5;have q5:(f==f)=true:=by simp
 by_cases h1:¬t=t2
 ·have hz:false=r:=(decide_eq_false (fun e=>by injection e;contradiction)).symm.trans HR.out;have HZ:=qH hz;have q:(t==t2)=false:=by simp[h1]
  clear HC hz h1;exact x5ta
 have h1:=Decidable.not_not.1 h1;subst h1;have q1:(t==t)=true:=by simp
 by_cases h1:¬o=o2
 ·have hz:false=r:=(decide_eq_false (fun e=>by injection e;contradiction)).symm.trans HR.out;have HZ:=qH hz;have q:(o==o2)=false:=by simp[h1]
  clear HC hz h1;exact x5ta
 have h1:=Decidable.not_not.1 h1;subst h1;have q1:(o==o)=true:=by simp
 by_cases h1:¬n=n2
 ·have hz:false=r:=(decide_eq_false (fun e=>by injection e;contradiction)).symm.trans HR.out;have HZ:=qH hz;have q:(n==n2)=false:=by simp[h1]
  clear HC hz h1;exact x5ta
 have h1:=Decidable.not_not.1 h1;subst h1;have q1:(n==n)=true:=by simp
 by_cases h1:¬sz=sz2
 ·have hz:false=r:=(decide_eq_false (fun e=>by injection e;contradiction)).symm.trans HR.out;have HZ:=qH hz;have q:(sz==sz2)=false:=by simp[h1]
  clear HC hz h1;exact x5ta
 have h1:=Decidable.not_not.1 h1;subst h1;have q1:(sz==sz)=true:=by simp
 have hz:decide (l=m)=r:=by
  rw[<-HR.out];by_cases e:l=m
  ·subst e;simp
  rw[decide_eq_false e,decide_eq_false (fun h=>e (by injection h))]
 have HZ:=qH hz;clear hz;go_enter Try.func31,Try.ntmps31;go_wp2_with fail;refine HC.out.mono ?_;rintro e w1 ⟨rfl,hb1⟩;have HB1:=qH (HB.out.trans (hb1.mono HB.out.size));clear hb1;exact x61t
section
variable (A:OA) (c:Nat) (l:LU) (w:World)
theorem sumOf_calls(hl:l.length<=140737488355328)(hr:Bts w A l):
  Calls Try.prog 95 #[.slice A l.length c] w (Ret w (iv (sumOn 1 l))):=by
 go_enter Try.func95,Try.ntmps95
 go_wp2
 go_loop [3,5,8] (fun s x i=>∃k:Nat,k<=l.length∧i=.int .i64 k∧s=.int .i64 (sumOn 1 (l.take k))) (fun _ _ i=>l.length-(intOf i).toNat)
 case atStart=>exact⟨0,Nat.zero_le _,rfl,rfl⟩
 case round=>
  obtain⟨k,hk,rfl,rfl⟩:=hrel;have hb:=sumOn_bd 1 (l.take k) (by omega);by_cases hlt:k<l.length
  ·obtain⟨b,o,rfl,hbs,hc⟩:=hr k hlt;have hx:=l[k].toNat_lt;have HS:Hid (sumOn 1 (l.take (k+1))=(sumOn 1 (l.take k)*31+(l[k].toNat:Int))%65521):=sumOn_take 1 l k hlt
   go_wp2
   go_round
   case rel=>exact⟨k+1,by omega,by go_num,by rw[HS.out]⟩
   case measure=>simp[intOf]<;>omega
  go_wp2
  go_ret;exact⟨ret_int (by rw[List.take_of_length_le (by omega)]),rfl⟩
end
def ByRet2(w:World)(l:LU)(n:Int):Ending->World->Prop:=fun en w'=>
 ∃A c,en=.returned (.tuple #[.slice A l.length c,iv n])∧Bts w' A l∧l.length<=c∧Below w.heap.size w w'
theorem Bts.drop{b o:Nat}{l:LU}(h:Bts w (some ⟨b,o,none⟩) l)(k:Nat):Bts w (some ⟨b,o+k,none⟩) (l.drop k):=by
 intro i hi;simp only[List.length_drop]at hi;obtain⟨b',o',hA,hlt,hc⟩:=h (k+i) (by omega);injection hA with hA;injection hA with e1 e2;subst e1 e2;refine⟨b,o+k,rfl,hlt,?_⟩;rw[Nat.add_assoc,hc];simp
theorem Bts.take{A:OA}{l:LU}(h:Bts w A l)(k:Nat):Bts w A (l.take k):=by
 intro i hi;simp only[List.length_take]at hi;obtain⟨b,o,hA,hlt,hc⟩:=h i (by omega);exact⟨b,o,hA,hlt,by rw[hc];simp⟩
theorem mid_bts{A:OA}(c:Nat){old:LU}{a n:Nat}(h:Bts w A old)(hc:old.length<=c)(hn:a+n<=old.length):Bts w (if c=a then A else Option.map (fun x=>x.add a) A) ((old.drop a).take n):=by
 by_cases e:n=0
 ·subst e;rw[List.take_zero];exact Bts.nil _ _
 obtain⟨b,o,rfl,hlt,_⟩:=h 0 (by omega);rw[if_neg (by omega)];have e1:Option.map (fun x:Addr=>x.add a) (some ⟨b,o,none⟩)=some ⟨b,o+a,none⟩:=by simp[Addr.add]
 rw[e1];exact(h.drop a).take n
theorem deltaApply_bad(A:OA)(c:Nat)(old:LU)(B:OA)(d:Nat)(l:List Stp)(size:Int)(w:World)(ho:old.length<=140737488351232)(hl:l.length<=3518437208780)(hr:Sps w B l)(h:deltaCheck l old.length size≠0):
  Calls Try.prog 15 #[.slice A old.length c,.slice B l.length d,iv size] w (RetB w (.tuple #[.slice none 0 0,iv (deltaCheck l old.length size)])):=by
 have hb:(deltaCheck l old.length size !=0)=true:=by simp[h]
 clear h;go_enter Try.func15,Try.ntmps15;go_wp2_with fail;refine(deltaCheck_calls B d l old.length size w hl hr).mono ?_;rintro e w1 ⟨rfl,hb1⟩;go_wp2_with fail;go_ret2;exact⟨rfl,hb1⟩
theorem deltaApply_ok(A:OA)(c:Nat)(old:LU)(B:OA)(d:Nat)(l:List Stp)(size:Int)(w:World)(hc:old.length<=c)(hA:Bts w A old)(hl:l.length<=3518437208780)(hr:Sps w B l)(h:deltaCheck l old.length size=0):
  Calls Try.prog 15 #[.slice A old.length c,.slice B l.length d,iv size] w (ByRet2 w (applied old l) 0):=by
 have hd:=deltaCheck_ok.1 h;have hc3:∀w,Calls Try.prog 19 #[.slice B l.length d,iv (old.length:Int),iv size] w (RetB w (iv (deltaCheck l old.length size)))->Calls Try.prog 19 #[.slice B l.length d,iv (old.length:Int),iv size] w (RetB w (iv 0)):=by
  intro w hw;rw[h]at hw;exact hw
 have hcc:=hc3 w (deltaCheck_calls B d l old.length size w hl hr);have HC:=qH hcc;have HD:=qH hd;have ho1:=hd.o1;have hm:=hd.many;clear hc3 hcc h hd;go_enter Try.func15,Try.ntmps15;go_wp2_with fail;refine HC.out.mono ?_;rintro e w1 ⟨rfl,hb1⟩;have HB1:=qH hb1;clear hb1;go_wp2_with fail;go_loopw [9,22] (fun v i wr=>∃(k:Nat) (C:OA) (cc:Nat),k<=l.length∧i=.int .i64 k∧v=.slice C (applied old (l.take k)).length cc∧(applied old (l.take k)).length<=cc∧Bts wr C (applied old (l.take k))∧Hid (Below w.heap.size w wr)) (fun _ i _=>l.length-(intOf i).toNat)
 case atStart=>exact⟨0,none,0,Nat.zero_le _,rfl,rfl,Nat.le_refl _,Bts.nil _ _,HB1⟩
 case round=>
  obtain⟨k,C,cc,hk,rfl,rfl,hcl,hC,HB⟩:=hrel;by_cases hlt:k<l.length
  ·obtain⟨b,o,D,dd,rfl,hs,hc3,hc1,hc2,hd1,hd2,hD,hi2,hi1⟩:=(hr.stays HB.out).at_ hlt;have hsz:=HB.out.size;have hx:l.take (k+1)=l.take k++[l[k]]:=List.take_succ_eq_append_getElem hlt;obtain⟨hform,hin⟩:=HD.out.each _ (List.getElem_mem hlt);have hlen:(applied old (l.take (k+1))).length<=64:=by
    have h1:=applied_len (old:=old) (l:=l.take (k+1)) (fun o ho=>(HD.out.each o (List.mem_of_mem_take ho)).2);have h1:=HD.out.take (k+1);have:=h1.2.2.2;have:=HD.out.s1;omega
   have happ:applied old (l.take (k+1))=applied old (l.take k)++l[k].piece old:=by rw[hx,applied_append,applied_one]
   have HX:=qH happ;rw[happ]at hlen;clear happ hx hform;generalize hx:l[k]=x at *
   clear hx;obtain⟨at_,len,data⟩:=x;unfold Stp.in_ at hin;dsimp only at *
   obtain⟨j1,j2,j3⟩:=hin;obtain⟨n,rfl⟩:=Int.eq_ofNat_of_zero_le j1;obtain⟨a,rfl⟩:=Int.eq_ofNat_of_zero_le j2;have j3:a+n<=old.length:=by omega
   clear j1 j2 hi2 hi1;generalize hp:applied old (l.take k)=pre at *
   clear hp;have hpl:pre.length<=64:=by rw[List.length_append]at hlen;omega
   have hdl:data.length<=64:=by rw[List.length_append]at hlen;simp only[Stp.piece,List.length_append]at hlen;omega
   clear hlen;have w1':IntKind.i64.wrap ((a:Int)+(n:Int))=(a:Int)+(n:Int):=IntWalk.i64_in _ (by omega);have w1:((a:Int)+(n:Int)).toNat=a+n:=by omega
   have w2:(0:Int)<=(a:Int):=by omega
   have w3:(a:Int)<=(a:Int)+(n:Int):=by omega
   have w3:(a:Int)+(n:Int)<=(c:Int):=by omega
   have w3:a+n-a=n:=by omega
   have hMM:∀w',Below wr.heap.size wr w'->Bts w' (if c=a then A else Option.map (fun x=>x.add a) A) ((old.drop a).take n):=fun w' hb=>(mid_bts c (hA.stays HB.out) hc j3).stays hb;have hml:((old.drop a).take n).length=n:=by simp;omega
   have HM:=qH hMM;have HML:=qH hml;have hDs:∀w',Below wr.heap.size wr w'->Bts w' D data:=fun w' hb=>hD.stays hb;have hCs:∀w',Below wr.heap.size wr w'->Bts w' C pre:=fun w' hb=>hC.stays hb;have HDs:=qH hDs;have HCs:=qH hCs;clear hMM hml hDs hCs hD hC;go_wp2_with fail;refine wp_region_still_tail 12 (by kernel_rfl) (by kernel_rfl) ?_
   change wpStill _ _ ((wr.alloc _).drew) _ _ _
   simp only[List.take_succ_cons,List.take_zero,List.drop_succ_cons,List.drop_zero];repeat still_step
   refine wpStill_nil ?_;generalize (if c=a then A else Option.map (fun x=>x.add a) A)=M at *
   have hb1:Below wr.heap.size wr ((wr.alloc (.cells #[.int .i64 a,.int .i64 n,.slice D data.length dd] 117)).drew):=((Below.refl _ _).alloc (Nat.le_refl _) _).drew
   change wpList _ _ _ _ _ ((wr.alloc (.cells #[.int .i64 a,.int .i64 n,.slice D data.length dd] 117)).drew)
   have HB1:=qH hb1;have hs1:wr.heap.size<((wr.alloc (.cells #[.int .i64 a,.int .i64 n,.slice D data.length dd] 117)).drew).heap.size:=by simp
   clear hb1;generalize (wr.alloc (.cells #[.int .i64 a,.int .i64 n,.slice D data.length dd] 117)).drew=w1 at *
   have HT:Hid (applied old (l.take (k+1))=pre++(old.drop a).take n++data):=by
    refine qH ?_;rw[HX.out];simp[Stp.piece]
   clear HX;go_wp2_with fail;have hcat:=concat3_calls (w:=w1.alloc (.cells #[.slice C pre.length cc,.slice M n (c-a),.slice D data.length dd] 22)) (g:=w1.heap.size) (A:=C) (B:=M) (C:=D) (a:=pre) (b:=(old.drop a).take n) (l:=data) (c:=cc) (d:=c-a) (k:=dd) (t:=22) (fr:=(0,0))
    (by rw[HML.out];exact blk_top rfl) (by rw[HML.out];omega) (HCs.out _ (HB1.out.alloc HB1.out.size _)) (HM.out _ (HB1.out.alloc HB1.out.size _)) (HDs.out _ (HB1.out.alloc HB1.out.size _))
   refine hcat.mono ?_;rintro e w1 ⟨C',c',rfl,hown,hb1⟩;have HO:=qH hown;have HB1:Hid (Below w.heap.size w w1):=qH ((HB.out.trans (HB1.out.mono hsz)).trans ((((Below.refl _ _).alloc (Nat.le_refl _) _).mono (by omega)).trans (hb1.mono (by simp;omega))));clear hcat hown hb1;go_wp2_with fail;go_roundw
   case rel=>
    refine⟨k+1,C',c',by omega,by go_num,by rw[HT.out];simp,?_,?_,HB1⟩
    ·rw[HT.out];exact HO.out.le
    rw[HT.out];exact HO.out.src.bts
   case measure=>simp[intOf];omega
  obtain rfl:k=l.length:=by omega
  rw[List.take_length]at hcl hC;go_wp2_with fail;exact bodyPost_ret (results_tmp2 rfl _ _ _) rfl ⟨C,cc,by simp,hC,hcl,HB.out⟩
def axOf(old:LU)(l:List Stp)(size:Int):List UInt8×Int:=if deltaCheck l old.length size≠0 then ([],deltaCheck l old.length size)else (applied old l,0)
theorem byRet2_nil{n:Int}{e:Ending}{w':World}(h:RetB w (.tuple #[.slice none 0 0,iv n]) e w'):ByRet2 w [] n e w':=
 ⟨none,0,h.1,Bts.nil _ _,Nat.le_refl _,h.2⟩
theorem applyAny_calls(A:OA)(c:Nat)(old:LU)(B:OA)(d:Nat)(l:List Stp)(size:Int)(w:World)(hc:old.length<=c)(ho:old.length<=140737488351232)(hA:Bts w A old)(hl:l.length<=3518437208780)(hr:Sps w B l):
  Calls Try.prog 15 #[.slice A old.length c,.slice B l.length d,iv size] w (ByRet2 w (axOf old l size).1 (axOf old l size).2):=by
 unfold axOf;by_cases h:deltaCheck l old.length size=0
 ·rw[if_neg (by simpa using h)];exact deltaApply_ok A c old B d l size w hc hA hl hr h
 rw[if_pos h];exact(deltaApply_bad A c old B d l size w ho hl hr h).mono fun _ _=>byRet2_nil
section
variable {w0 w w':World} {base size n c m ib ia k:Nat} {e T:TypeId} {A A':OA} {c':Nat} {xs ns:List Value} {F:World->Prop} {cv:Nat->Value}
end
def lvlN:List Nat->(Nat->Bool)->Nat
 |[],_=>0
 |i::l,done=>if done i=true then l.length+1 else lvlN l done
theorem wp_callv{P:Program}{Q:Exit->Act->World->Prop}{K:Act->World->Prop}{R:Ending->World->Prop}{d:Option Tmp}{t:TypeId}{p:String}{af:Array Edge}{g:Option (Nat×Bool)}{a:Act}{f:FuncId}{x:Tmp}{cap:Array Value}{args:Array Operand}{ts:Array TypeId}{vals:Array Value}
  (hx:a.tmps[x]?=some (.func (Fn.func f) #[] cap)) (e:args.map a.eval++cap=vals) (hf:(callFunc f vals).run P w=.ok (.enter f vals) w) (h:Calls P f vals w R)
  (hk:∀e w',R e w'->∃v,e=.returned v∧K (a.put d v) w'):Oper.wp P ⟨d,.call {callee:=.value (.tmp x),args:=args,argTypes:=ts},t,p,af,g⟩ a w K Q:=by
 have e1:a.eval (.tmp x)=.func (Fn.func f) #[] cap:=by simp[Act.eval,hx]
 have hx:(execOp a.eval ⟨d,.call {callee:=.value (.tmp x),args:=args,argTypes:=ts},t,p,af,g⟩).run P w=(callFunc f vals).run P w:=by
  simp[execOp,resolve,e,e1,invoke,Deferred.ofValue]
 exact x7hu
theorem x9ik(h:Y:=by
 intro done cv k1 a wq hw h hJ hn;have e1:=mO 1 (.pointer (some ⟨g,0,none⟩)) h;go_simp):Y:=h
theorem cloneBytes_calls(A:OA)(n c:Nat)(cs:List Value)(w:World)(hl:cs.length=n*1)(hn0:n<=140737488355328)(hr:Src w A cs)(h1:∀u∈cs,u.oneCell'=true):
  Calls Try.prog 100 #[.slice A n c] w (SlRet w 5 1 n cs):=by
 rcases A with _|ad
 ·have h1:cs.length=0:=by
   exact x5fs
  obtain rfl:n=0:=by omega
  obtain rfl:cs=[]:=List.eq_nil_of_length_eq_zero h1;have hn:=fun (wx:World) (a:OA) (n c n' c':Nat)=>Lib.run_eql_slice_nil (P:=Try.prog) wx 22 5 a n c n' c' Try.underlying22;clear h1 hl;go_enter Try.func100,Try.ntmps100;exact x4d9
 have hn:=fun (wx:World) (a:OA) (n c n' c':Nat)=>Lib.run_eql_slice_nil (P:=Try.prog) wx 22 5 a n c n' c' Try.underlying22;have ho:Own (w.alloc (.cells #[] 5)) w.heap.size 5 1 (some ⟨w.heap.size,0,none⟩) 0 0 []:=own_zero w _ _;have hs:=hr.stays ((Below.refl w.heap.size w).alloc (Nat.le_refl _) (.cells #[] 5));have hb1:0+n<=140737488355328:=by omega
 have hb2:w.heap.size<=(w.alloc (.cells #[] 5)).heap.size:=by simp
 have HL:=qH hl;clear hl;go_enter Try.func100,Try.ntmps100;go_wp2_with (at_builtin;refine wpList_app _ rfl _ _ 22 rfl elBytesB w.heap.size (some ⟨w.heap.size,0,none⟩) 0 0 [] rfl ho (some ad) n c cs rfl hs HL.out h1 hb1 hb2 ?_;intro A' c' w1 hown hg hb hx);exact x6v2
theorem data_le(old:LU):∀(l:List Stp),∀o∈l,o.data.length<=(applied old l).length
 |[],_,h=>by cases h
 |x::l,o,h=>by
  rw[applied_cons,List.length_append];rcases List.mem_cons.1 h with rfl|h
  ·simp[Stp.piece];omega
  have:=data_le old l o h;omega
theorem snoc_of{α:Type}(l:List α)(h:l≠[]):∃m x,l=m++[x]:=⟨l.dropLast,l.getLast h,(List.dropLast_concat_getLast h).symm⟩
theorem addByte_len(l:List Stp)(x:UInt8):(addByte l x).length<=l.length+1:=by
 by_cases h:l=[]
 ·subst h;simp[addByte]
 obtain⟨m,o,rfl⟩:=snoc_of l h;rw[addByte_snoc];split<;>simp
theorem diffN_len(old b:LU):∀q,(diffN old b q).2.length<=q
 |0=>by simp[diffN]
 |q+1=>by
  have ih:=diffN_len old b q
  show (diffStep old b (diffN old b q)).2.length<=q+1;generalize diffN old b q=p at *
  unfold diffStep;split
  ·split
   ·simp only[List.length_append,List.length_cons,List.length_nil];omega
   ·have:=addByte_len p.2 (b.getD p.1 0)
    show (addByte p.2 (b.getD p.1 0)).length<=q+1;omega
  omega
theorem cloneOps_calls(A:OA)(n c:Nat)(cs:List Value)(w:World)(hl:cs.length=n*3)(hn0:n<=3518437208883)(hr:Src w A cs)(h1:∀u∈cs,u.oneCell'=true):
  Calls Try.prog 171 #[.slice A n c] w (SlRet w 117 3 n cs):=by
 rcases A with _|ad
 ·have h1:cs.length=0:=by
   exact x5fs
  obtain rfl:n=0:=by omega
  obtain rfl:cs=[]:=List.eq_nil_of_length_eq_zero h1;have hn:=fun (wx:World) (a:OA) (n c n' c':Nat)=>Lib.run_eql_slice_nil (P:=Try.prog) wx 23 117 a n c n' c' Try.underlying23;clear h1 hl;go_enter Try.func171,Try.ntmps171;exact x4d9
 have hn:=fun (wx:World) (a:OA) (n c n' c':Nat)=>Lib.run_eql_slice_nil (P:=Try.prog) wx 23 117 a n c n' c' Try.underlying23;have ho:Own (w.alloc (.cells #[] 117)) w.heap.size 117 3 (some ⟨w.heap.size,0,none⟩) 0 0 []:=own_zero w _ _;have hs:=hr.stays ((Below.refl w.heap.size w).alloc (Nat.le_refl _) (.cells #[] 117));have hb1:0+n<=3518437208883:=by omega
 have hb2:w.heap.size<=(w.alloc (.cells #[] 117)).heap.size:=by simp
 have HL:=qH hl;clear hl;go_enter Try.func171,Try.ntmps171;go_wp2_with (at_builtin;refine wpList_app _ rfl _ _ 23 rfl elOpsB w.heap.size (some ⟨w.heap.size,0,none⟩) 0 0 [] rfl ho (some ad) n c cs rfl hs HL.out h1 hb1 hb2 ?_;intro A' c' w1 hown hg hb hx);exact x6v2
theorem elChunksB:El Try.prog 43 49 5 2513169434916:=⟨Try.underlying43,by
 obtain⟨i,h⟩:=info_parts (P:=Try.prog) (e:=49) (z:=.agg #[.int .i64 0,.int .i64 0,.int .i64 0,.int .i64 0,.slice none 0 0]) (size:=5) (bytes:=56) (by kernel_rfl);exact⟨i,_,h.1,h.2.1,h.2.2.1,by omega,rfl⟩,by omega⟩
theorem elChunks:El Try.prog 43 49 5:=⟨Try.underlying43,by
 obtain⟨i,h⟩:=info_parts (P:=Try.prog) (e:=49) (z:=.agg #[.int .i64 0,.int .i64 0,.int .i64 0,.int .i64 0,.slice none 0 0]) (size:=5) (bytes:=56) (by kernel_rfl);exact⟨i,_,h.1,h.2.1,h.2.2.1,by omega,rfl⟩,by omega⟩
theorem cloneChunks_calls(A:OA)(n c:Nat)(cs:List Value)(w:World)(hl:cs.length=n*5)(hn0:n<=2513169434916)(hr:Src w A cs)(h1:∀u∈cs,u.oneCell'=true):
  Calls Try.prog 82 #[.slice A n c] w (SlRet w 49 5 n cs):=by
 rcases A with _|ad
 ·have h1:cs.length=0:=by
   exact x5fs
  obtain rfl:n=0:=by omega
  obtain rfl:cs=[]:=List.eq_nil_of_length_eq_zero h1;have hn:=fun (wx:World) (a:OA) (n c n' c':Nat)=>Lib.run_eql_slice_nil (P:=Try.prog) wx 43 49 a n c n' c' Try.underlying43;clear h1 hl;go_enter Try.func82,Try.ntmps82;exact x4d9
 have hn:=fun (wx:World) (a:OA) (n c n' c':Nat)=>Lib.run_eql_slice_nil (P:=Try.prog) wx 43 49 a n c n' c' Try.underlying43;have ho:Own (w.alloc (.cells #[] 49)) w.heap.size 49 5 (some ⟨w.heap.size,0,none⟩) 0 0 []:=own_zero w _ _;have hs:=hr.stays ((Below.refl w.heap.size w).alloc (Nat.le_refl _) (.cells #[] 49));have hb1:0+n<=2513169434916:=by omega
 have hb2:w.heap.size<=(w.alloc (.cells #[] 49)).heap.size:=by simp
 have HL:=qH hl;clear hl;go_enter Try.func82,Try.ntmps82;go_wp2_with (at_builtin;refine wpList_app _ rfl _ _ 43 rfl elChunksB w.heap.size (some ⟨w.heap.size,0,none⟩) 0 0 [] rfl ho (some ad) n c cs rfl hs HL.out h1 hb1 hb2 ?_;intro A' c' w1 hown hg hb hx);exact x6v2
theorem x1tl(h:Y:=by
 unfold Oper.wp execOp;simp only[ho,resolve,invoke,builtin,Sem.run_bind,Sem.run_pure,Result.andThen_ok,List.map_toArray,List.map_cons,List.map_nil,hd,hs,hr];exact h):Y:=h
theorem x8x7(h:Y:=by
 have e1:=mO 3 (.pointer (some ⟨w.heap.size,0,none⟩)) h;go_simp):Y:=h
def over(L:List Value)(o:Nat)(cs:List Value):List Value:=L.take o++cs++L.drop (o+cs.length)
theorem over_len(L:List Value)(o:Nat)(cs:List Value)(h:o+cs.length<=L.length):(over L o cs).length=L.length:=by simp[over];omega
theorem over_at(L:List Value)(o:Nat)(cs:List Value)(h:o+cs.length<=L.length)(j:Nat):(over L o cs)[j]?=if o<=j∧j<o+cs.length then cs[j-o]? else L[j]?:=by
 have hl:(L.take o).length=o:=by simp;omega
 unfold over;by_cases h1:j<o
 ·rw[List.append_assoc,List.getElem?_append_left (by omega),List.getElem?_take,if_pos h1,if_neg (by omega)]
 by_cases h1:j<o+cs.length
 ·rw[List.append_assoc,List.getElem?_append_right (by omega),List.getElem?_append_left (by omega),hl,if_pos ⟨by omega,h1⟩]
 rw[List.getElem?_append_right (by simp;omega),List.getElem?_drop,if_neg (by omega)];congr 1;simp;omega
theorem run_copy_rowN{P:Program}(w:World)(dT sT ty elem:TypeId)(g o dLen dCap:Nat)(a:Addr)(sLen sCap:Nat)(cur:List Value)(t:TypeId)(cs:List Value)(size:Nat)
  (hu:P.underlying dT=some (.slice elem)) (hs:(P.info? elem).map (·.size)=some size)
  (hg:w.heap[g]?=some (.cells cur.toArray t (0,0))) (hn:cs.length=Nat.min sLen dLen*size)
  (hsrc:∀j v,cs[j]?=some v->w.cell? (a.add j)=some v) (hfit:o+cs.length<=cur.length) (h1:∀v∈cs,v.oneCell'=true):
  (Builtin.copy_ #[dT,sT] ty #[.slice (some ⟨g,o,none⟩) dLen dCap,.slice (some a) sLen sCap]).run P w=
   .ok (goInt (Nat.min sLen dLen)) (w.setRow g (over cur o cs).toArray):=by
 have hl:=run_loadCells_list (P:=P) w a cs hsrc;have hst:=run_storeCells_at P g o t cs 0 cur.toArray w hg (by simpa using hfit) h1
 cases hq:P.info? elem with
 |none=>simp[hq]at hs
 |some i=>
  have hi:i.size=size:=by simpa[hq]using hs
  rw[hn]at hl;simp[Builtin.copy_,run_underlying hu,Builtin.lenOf,Builtin.firstCells,sizeOf,typeInfo,hq,hi,hl,hst,over]
theorem wp_copyN{P:Program}{o:Oper}{a:Act}{K:Act->World->Prop}{Q:Exit->Act->World->Prop}(d s:Operand)(t t':TypeId)
  (ho:o.op=.call {callee:=.builtin .copy,args:=#[d,s],argTypes:=#[t,t']}) (v u:Value) (hd:a.eval d=v) (hs:a.eval s=u) {v':Value} {w':World}
  (hr:(Builtin.copy_ #[t,t'] o.type #[v,u]).run P w=.ok v' w') (h:K (a.put o.dst v') w'):o.wp P a w K Q:=by
 exact x1tl
theorem ins_room(L ns:List Value)(k N:Nat)(hk:k<=N)(hL:N+ns.length<=L.length):
  (over (over L (k+ns.length) ((L.take N).drop k)) k ns).take (N+ns.length)=(L.take N).take k++ns++(L.take N).drop k:=by
 have h1:((L.take N).drop k).length=N-k:=by simp;omega
 have h1:=over_len L (k+ns.length) ((L.take N).drop k) (by omega)
 apply List.ext_getElem?
 intro j;rw[List.getElem?_take];by_cases hj:j<N+ns.length
 ·rw[if_pos hj,over_at _ _ _ (by omega)];by_cases a1:j<k
  ·rw[if_neg (by omega),over_at _ _ _ (by omega),if_neg (by omega),List.append_assoc,List.getElem?_append_left (by simp;omega),List.getElem?_take,if_pos a1,List.getElem?_take,if_pos (by omega)]
  by_cases a1:j<k+ns.length
  ·rw[if_pos ⟨by omega,a1⟩,List.append_assoc,List.getElem?_append_right (by simp;omega),List.getElem?_append_left (by simp;omega)];congr 1;simp;omega
  rw[if_neg (by omega),over_at _ _ _ (by omega),if_pos ⟨by omega,by omega⟩,List.getElem?_append_right (by simp;omega)];congr 1;simp;omega
 rw[if_neg hj]
 symm
 apply List.getElem?_eq_none
 simp;omega
theorem ins_grown(X Z ns:List Value)(k N m:Nat)(hk:k<=N)(hX:X.length=N)(hm:ns.length=m)(hZ:N+m<=k+Z.length):
  (over (over (X.take k++Z) k ns) (k+m) (X.drop k)).take (N+m)=X.take k++ns++X.drop k:=by
 have h3:(X.take k++Z).length=k+Z.length:=by simp;omega
 have h1:(X.drop k).length=N-k:=by simp;omega
 have h1:=over_len (X.take k++Z) k ns (by omega)
 apply List.ext_getElem?
 intro j;rw[List.getElem?_take];by_cases hj:j<N+m
 ·rw[if_pos hj,over_at _ _ _ (by omega)];by_cases a1:j<k
  ·rw[if_neg (by omega),over_at _ _ _ (by omega),if_neg (by omega),List.getElem?_append_left (by simp;omega),List.append_assoc,List.getElem?_append_left (by simp;omega)]
  by_cases a1:j<k+m
  ·rw[if_neg (by omega),over_at _ _ _ (by omega),if_pos ⟨by omega,by omega⟩,List.append_assoc,List.getElem?_append_right (by simp;omega),List.getElem?_append_left (by simp;omega)];congr 1;simp;omega
  rw[if_pos ⟨by omega,by omega⟩,List.getElem?_append_right (by simp;omega)];congr 1;simp;omega
 rw[if_neg hj]
 symm
 apply List.getElem?_eq_none
 simp;omega
section
variable (A B:OA) (c d:Nat) (old b:LU) (w:World)
theorem longest_calls(k:Nat)(hl:old.length<=64)(hm:b.length<=64)(hk:k<=b.length)(ha:Bts w A old)(hb:Bts w B b):
  Calls Try.prog 86 #[.slice A old.length c,.slice B b.length d,iv k] w (RetN w (.tuple #[iv (longest old b k).1,iv (longest old b k).2,iv 0])):=by
 have h1:¬(64:Int)<(old.length:Int):=by omega
 have h1:¬(64:Int)<(b.length:Int):=by omega
 have h1:¬(k:Int)<0:=by omega
 have h1:¬(b.length:Int)<(k:Int):=by omega
 go_enter Try.func86,Try.ntmps86
 go_wp2
 go_loopw [9,10,11,12,31] (fun p q x y i wr=>∃j n:Nat,j<=old.length∧i=.int .i64 j∧p=iv (longTo old b k j).1∧q=iv (longTo old b k j).2∧w.drewN n=wr) (fun _ _ _ _ i _=>old.length-(intOf i).toNat)
 case atStart=>exact⟨0,0,Nat.zero_le _,rfl,rfl,rfl,rfl⟩
 case round=>
  obtain⟨j,n,hj,rfl,rfl,rfl,rfl⟩:=hrel;have hb1:=longTo_le old b k j hj;by_cases hlt:j<old.length
  ·have HP:=qH (preAt_le old b j k);go_wp2_with fail;go_loopw [12] (fun y wr=>∃t n:Nat,t<=preAt old b j k∧y=.int .i64 t∧w.drewN n=wr) (fun y _=>preAt old b j k-(intOf y).toNat)
   case atStart=>exact⟨0,n,Nat.zero_le _,rfl,rfl⟩
   case round=>
    obtain⟨t,n1,ht,rfl,rfl⟩:=hrel;have hP:=HP.out;by_cases hin:t<preAt old b j k
    ·obtain⟨i1,i2,he⟩:=preAt_lt old b j k t hin;obtain⟨b1,o1,rfl,hs1,hc1⟩:=ha (j+t) i1;obtain⟨b1,o1,rfl,hs1,hc1⟩:=hb (k+t) i2;have d1:decide ((j:Int)+(t:Int)<(old.length:Int))=true:=by simp;omega
     have d1:decide ((k:Int)+(t:Int)<(b.length:Int))=true:=by simp;omega
     have d1:((old[j+t].toNat:Int)==(b[k+t].toNat:Int))=true:=by simp[he]
     have HE:=qH he;clear he;go_wp2_with fail;go_quiet (fail)
     go_wp2_with fail;go_roundw
     case rel=>exact⟨t+1,_,by omega,by go_num,rfl⟩
     case measure=>simp[intOf]<;>omega
    obtain rfl:t=preAt old b j k:=by omega
    have hst:=preAt_stop old b j k;clear ht hin;by_cases hbest:(longTo old b k j).2<preAt old b j k
    first|case' inl=>have T10:Hid True:=qH trivial|case' pos=>have T10:Hid True:=qH trivial|case' refine_1=>have T10:Hid True:=qH trivial
    iterate 2
     ·first
       |
        revert T10;intro T10;have HT:Hid (longTo old b k (j+1)=(j,preAt old b j k)):=longTo_yes hbest
       |have HT:Hid (longTo old b k (j+1)=longTo old b k j):=longTo_no hbest
      first
       |
        revert T10;intro T10;have hbest':((longTo old b k j).2:Int)<(preAt old b j k:Int):=by omega
       |have hbest':¬((longTo old b k j).2:Int)<(preAt old b j k:Int):=by omega
      by_cases c1:j+preAt old b j k<old.length
      ·have d1:decide ((j:Int)+(preAt old b j k:Int)<(old.length:Int))=true:=by simp;omega
       by_cases c2:k+preAt old b j k<b.length
       ·have d2:decide ((k:Int)+(preAt old b j k:Int)<(b.length:Int))=true:=by simp;omega
        have hne:=hst c1 c2;have d3:((old[j+preAt old b j k].toNat:Int)==(b[k+preAt old b j k].toNat:Int))=false:=by
         simp;exact fun e=>hne (UInt8.toNat_inj.1 (by omega))
        obtain⟨b1,o1,rfl,hs1,hc1⟩:=ha (j+preAt old b j k) c1;obtain⟨b2,o2,rfl,hs2,hc2⟩:=hb (k+preAt old b j k) c2;clear hne hst;go_wp2_with fail;go_quiet (fail)
        go_wp2_with fail;go_roundw
        case rel=>exact⟨j+1,_,by omega,by go_num,by rw[HT.out],by rw[HT.out],rfl⟩
        case measure=>simp[intOf]<;>omega
       have d2:decide ((k:Int)+(preAt old b j k:Int)<(b.length:Int))=false:=by simp;omega
       clear hst;go_wp2_with fail;go_quiet (fail)
       go_wp2_with fail;go_roundw
       case rel=>exact⟨j+1,_,by omega,by go_num,by rw[HT.out],by rw[HT.out],rfl⟩
       case measure=>simp[intOf]<;>omega
      have d1:decide ((j:Int)+(preAt old b j k:Int)<(old.length:Int))=false:=by simp;omega
      clear hst;go_wp2_with fail;go_quiet (fail)
      go_wp2_with fail;go_roundw
      case rel=>exact⟨j+1,_,by omega,by go_num,by rw[HT.out],by rw[HT.out],rfl⟩
      case measure=>simp[intOf]<;>omega
  go_wp2_with fail
  go_ret3
  refine⟨?_,_,rfl⟩;obtain rfl:j=old.length:=by omega
  rfl
end
end Go.Proofs.Ytefkfglkpebbmac
