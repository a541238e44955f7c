/- Walks of functions, and plain words. No conditions. -/
import Derived.Test.YtefkfglkpebbmadPE1
import Derived.StillTailTactics
import Derived.Laws.CopyRow
import Derived.Lib.Overlaps
set_option linter.unusedVariables false
set_option linter.unusedSimpArgs false
set_option maxRecDepth 100000
set_option maxHeartbeats 40000000
namespace Go.Proofs.Ytefkfglkpebbmad
open Go.RowKit
variable {Y:Prop}
variable {x y:Stp} {w w' w0:World} {A:OA} {n base c g k:Nat} {a:Act} {K:Act->World->Prop} {Q:Exit->Act->World->Prop} {xs:List Value} {cv:Nat->Value}
theorem x66v(h:Y:=by
 go_enter Try.func76,Try.ntmps76;go_wp2_with fail;go_ret;exact⟨ret_bool HE.out.symm,((Below.refl _ _).alloc (Nat.le_refl _) _).alloc (by simp) _⟩):Y:=h
theorem stp_ne_at(h:x.at_≠y.at_):x≠y:=by rintro rfl;exact h rfl
theorem stp_ne_len(h:x.len≠y.len):x≠y:=by rintro rfl;exact h rfl
theorem stp_eq(h1:x.at_=y.at_)(h2:x.len=y.len):decide (x.data=y.data)=decide (x=y):=by
 obtain⟨a,l,d⟩:=x;obtain⟨b,m,e⟩:=y;simp only at h1 h2;subst h1 h2;simp
theorem same1_calls(x y:Stp)(B D:OA)(c d:Nat)(w:World)(hx:x.data.length<=140737488351232)(hy:y.data.length<=140737488351232)(hB:Bts w B x.data)(hD:Bts w D y.data):
  Calls Try.prog 76 #[.agg #[iv x.at_,iv x.len,.slice B x.data.length c],.agg #[iv y.at_,iv y.len,.slice D y.data.length d]] w (RetB w (.bool (decide (x=y)))):=by
 by_cases h1:x.at_=y.at_
 ·by_cases h2:x.len=y.len
  ·have q1:(x.at_==y.at_)=true:=by simp[h1]
   have q1:(x.len==y.len)=true:=by simp[h2]
   have HE:=qH (stp_eq h1 h2);have bl:=((Below.refl w.heap.size w).alloc (Nat.le_refl _) (.cells #[iv x.at_,iv x.len,.slice B x.data.length c] 125)).alloc (by simp) (.cells #[iv y.at_,iv y.len,.slice D y.data.length d] 125);have HC:=qH (equalBytes_calls B D c d x.data y.data _ hx hy (hB.stays bl) (hD.stays bl));have HB:=qH bl;clear h1 h2 hB hD bl;go_enter Try.func76,Try.ntmps76;go_wp2_with fail;refine HC.out.mono ?_;rintro e w1 ⟨rfl,n,rfl⟩;go_wp2_with fail;go_ret;exact⟨ret_bool HE.out,Below.drewN' HB.out n⟩
  ·have q1:(x.at_==y.at_)=true:=by simp[h1]
   have q1:(x.len==y.len)=false:=by simp[h2]
   have HE:=qH (decide_eq_false (stp_ne_len h2));clear h1 h2;exact x66v
 have q1:(x.at_==y.at_)=false:=by simp[h1]
 have HE:=qH (decide_eq_false (stp_ne_at h1));clear h1;exact x66v
theorem eqfOps_calls(A B:OA)(c d:Nat)(l m:List Stp)(w:World)(hl:l.length<=3518437208780)(hm:m.length<=3518437208780)(ha:Sps w A l)(hb:Sps w B m):
  Calls Try.prog 75 #[.slice A l.length c,.slice B m.length d,.func (Fn.func 76) #[] #[]] w (RetB w (.bool (decide (l=m)))):=by
 by_cases hne:l.length=m.length
 ·have hdl:((l.length:Int) !=(m.length:Int))=false:=by simp[hne]
  have HE:=qH hne;have hm1:l.length<=m.length:=by omega
  have hm1:m.length<=l.length:=by omega
  clear hne;go_enter Try.func75,Try.ntmps75;go_wp2_with fail;go_loopw [17] (fun i wr=>∃k:Nat,k<=l.length∧i=.int .i64 k∧Hid (l.take k=m.take k)∧Hid (Below w.heap.size w wr)) (fun i _=>l.length-(intOf i).toNat)
  case atStart=>exact⟨0,Nat.zero_le _,rfl,qH rfl,qH (Below.refl _ _)⟩
  case round=>
   obtain⟨k,hk,rfl,HT,HB⟩:=hrel;by_cases hlt:k<l.length
   ·obtain⟨b1,o1,B1,c1,rfl,hs1,p6,p1,p2,p3,p4,p5,-,-⟩:=(ha.stays HB.out).at_ hlt;obtain⟨b1,o1,B2,c2,rfl,hs1,r6,r1,r2,r3,r4,r5,-,-⟩:=(hb.stays HB.out).at_ (i:=k) (by omega);have hsz:=HB.out.size;have HX:Hid (∀e:l[k]=m[k]'(by omega),l.take (k+1)=m.take (k+1)):=qH fun e=>take_eq_succ HT.out hlt (by omega) e;have HN:Hid (∀e:l[k]≠m[k]'(by omega),l≠m):=qH fun e=>ne_of_at hlt (by omega) e;generalize l[k]=x at *
    generalize m[k]'(by omega)=y at *
    have hsb:=fun w2 (h:Below wr.heap.size wr w2)=>same1_calls x y B1 B2 c1 c2 w2 p4 r4 (p5.stays h) (r5.stays h);have HC:=qH hsb;clear hsb p5 r5;go_wp2_with fail;have bl:=((Below.refl wr.heap.size wr).alloc (Nat.le_refl _) (.cells #[iv x.at_,iv x.len,.slice B1 x.data.length c1] 125)).alloc (by simp) (.cells #[iv y.at_,iv y.len,.slice B2 y.data.length c2] 125);refine(HC.out _ bl).mono ?_;rintro e w1 ⟨rfl,hb1⟩;have HB1:Hid (Below w.heap.size w w1):=qH ((HB.out.trans (bl.mono hsz)).trans (hb1.mono (by simp;omega)));clear bl hb1;by_cases hxy:x=y
    ·have hd:decide (x=y)=true:=by simp[hxy]
     have HY:=qH (HX.out hxy);clear hxy HX HN;go_wp2_with fail;go_roundw
     case rel=>exact⟨k+1,by omega,by go_num,HY,HB1⟩
     case measure=>simp[intOf]<;>omega
    have hd:decide (x=y)=false:=by simp[hxy]
    have HY:=qH (HN.out hxy);clear hxy HX HN;go_wp2_with fail;go_ret;exact⟨ret_bool (by rw[decide_eq_false HY.out]),HB1.out⟩
   go_wp2_with fail;go_ret;refine⟨ret_bool ?_,HB.out⟩;exact x4yl
 have hdl:((l.length:Int) !=(m.length:Int))=true:=by simp;omega
 have HX:=qH hne;clear hne;go_enter Try.func75,Try.ntmps75;go_wp2_with fail;go_ret;exact⟨ret_bool (by rw[decide_eq_false (fun e=>HX.out (by rw[e]))]),Below.refl _ _⟩
theorem equalOps_calls(A B:OA)(c d:Nat)(l m:List Stp)(w:World)(hl:l.length<=3518437208780)(hm:m.length<=3518437208780)(ha:Sps w A l)(hb:Sps w B m):
  Calls Try.prog 63 #[.slice A l.length c,.slice B m.length d] w (RetB w (.bool (decide (l=m)))):=by
 go_enter Try.func63,Try.ntmps63;go_wp2_with fail;refine(eqfOps_calls A B c d l m w hl hm ha hb).mono ?_;rintro e w1 ⟨rfl,hb1⟩;go_wp2_with fail;go_ret;exact⟨rfl,hb1⟩
theorem x7wi(h:Y:=by
 go_enter Try.func49,Try.ntmps49;go_wp2_with fail;go_ret;exact⟨ret_bool HZ.out,HB.out⟩):Y:=h
theorem patSameA_calls(A B:OA)(c d:Nat)(f t o n sz f2 t2 o2 n2 sz2:Int)(l m:List Stp)(w:World)(hl:l.length<=3518437208780)(hm:m.length<=3518437208780)(hs:Sps w A l)(hr:Sps w B m):
  Calls Try.prog 49 #[.agg #[iv f,iv t,iv o,iv n,iv sz,.slice A l.length c],.agg #[iv f2,iv t2,iv o2,iv n2,iv sz2,.slice B m.length d]] w (RetB w (.bool (decide ((⟨f,t,o,n,sz,l⟩:Pat)=⟨f2,t2,o2,n2,sz2,m⟩)))):=by
 have hb:Below w.heap.size w ((w.alloc (.cells #[iv f,iv t,iv o,iv n,iv sz,.slice A l.length c] 37)).alloc (.cells #[iv f2,iv t2,iv o2,iv n2,iv sz2,.slice B m.length d] 37)):=((Below.refl _ _).alloc (Nat.le_refl _) _).alloc (by simp) _;obtain⟨r,hR⟩:∃r,decide ((⟨f,t,o,n,sz,l⟩:Pat)=⟨f2,t2,o2,n2,sz2,m⟩)=r:=⟨_,rfl⟩;rw[hR];have HR:=qH hR;clear hR;have HB:=qH hb;have HC:=qH (equalOps_calls A B c d l m _ hl hm (hs.stays hb) (hr.stays hb));clear hb hs hr;by_cases h5:¬f=f2
 ·have hz:false=r:=(decide_eq_false (fun e=>by injection e;contradiction)).symm.trans HR.out;have HZ:=qH hz;have q:(f==f2)=false:=by simp[h5]
  clear HC hz h5;exact x7wi
 have h5:=Decidable.not_not.1 h5;subst h5;have q5:(f==f)=true:=by simp
 by_cases h1:¬t=t2
 ·have hz:false=r:=(decide_eq_false (fun e=>by injection e;contradiction)).symm.trans HR.out;have HZ:=qH hz;have q:(t==t2)=false:=by simp[h1]
  clear HC hz h1;exact x7wi
 have h1:=Decidable.not_not.1 h1;subst h1;have q1:(t==t)=true:=by simp
 by_cases h1:¬o=o2
 ·have hz:false=r:=(decide_eq_false (fun e=>by injection e;contradiction)).symm.trans HR.out;have HZ:=qH hz;have q:(o==o2)=false:=by simp[h1]
  clear HC hz h1;exact x7wi
 have h1:=Decidable.not_not.1 h1;subst h1;have q1:(o==o)=true:=by simp
 by_cases h1:¬n=n2
 ·have hz:false=r:=(decide_eq_false (fun e=>by injection e;contradiction)).symm.trans HR.out;have HZ:=qH hz;have q:(n==n2)=false:=by simp[h1]
  clear HC hz h1;exact x7wi
 have h1:=Decidable.not_not.1 h1;subst h1;have q1:(n==n)=true:=by simp
 by_cases h1:¬sz=sz2
 ·have hz:false=r:=(decide_eq_false (fun e=>by injection e;contradiction)).symm.trans HR.out;have HZ:=qH hz;have q:(sz==sz2)=false:=by simp[h1]
  clear HC hz h1;exact x7wi
 have h1:=Decidable.not_not.1 h1;subst h1;have q1:(sz==sz)=true:=by simp
 have hz:decide (l=m)=r:=by
  rw[<-HR.out];by_cases e:l=m
  ·subst e;simp
  rw[decide_eq_false e,decide_eq_false (fun h=>e (by injection h))]
 have HZ:=qH hz;clear hz;go_enter Try.func49,Try.ntmps49;go_wp2_with fail;refine HC.out.mono ?_;rintro e w1 ⟨rfl,hb1⟩;have HB1:=qH (HB.out.trans (hb1.mono HB.out.size));clear hb1;go_wp2_with fail;go_ret;exact⟨ret_bool HZ.out,HB1.out⟩
section
variable (A:OA) (c:Nat) (l:LU) (w:World)
theorem sumOf_calls(hl:l.length<=140737488355328)(hr:Bts w A l):
  Calls Try.prog 46 #[.slice A l.length c] w (Ret w (iv (sumOn 1 l))):=by
 go_enter Try.func46,Try.ntmps46
 go_wp2
 go_loop [3,5,8] (fun s x i=>∃k:Nat,k<=l.length∧i=.int .i64 k∧s=.int .i64 (sumOn 1 (l.take k))) (fun _ _ i=>l.length-(intOf i).toNat)
 case atStart=>exact⟨0,Nat.zero_le _,rfl,rfl⟩
 case round=>
  obtain⟨k,hk,rfl,rfl⟩:=hrel;have hb:=sumOn_bd 1 (l.take k) (by omega);by_cases hlt:k<l.length
  ·obtain⟨b,o,rfl,hbs,hc⟩:=hr k hlt;have hx:=l[k].toNat_lt;have HS:Hid (sumOn 1 (l.take (k+1))=(sumOn 1 (l.take k)*31+(l[k].toNat:Int))%65521):=sumOn_take 1 l k hlt
   go_wp2
   go_round
   case rel=>exact⟨k+1,by omega,by go_num,by rw[HS.out]⟩
   case measure=>simp[intOf]<;>omega
  go_wp2
  go_ret;exact⟨ret_int (by rw[List.take_of_length_le (by omega)]),rfl⟩
end
def ByRet2(w:World)(l:LU)(n:Int):Ending->World->Prop:=fun en w'=>
 ∃A c,en=.returned (.tuple #[.slice A l.length c,iv n])∧Bts w' A l∧l.length<=c∧Below w.heap.size w w'
theorem Bts.drop{b o:Nat}{l:LU}(h:Bts w (some ⟨b,o,none⟩) l)(k:Nat):Bts w (some ⟨b,o+k,none⟩) (l.drop k):=by
 intro i hi;simp only[List.length_drop]at hi;obtain⟨b',o',hA,hlt,hc⟩:=h (k+i) (by omega);injection hA with hA;injection hA with e1 e2;subst e1 e2;refine⟨b,o+k,rfl,hlt,?_⟩;rw[Nat.add_assoc,hc];simp
theorem Bts.take{l:LU}(h:Bts w A l)(k:Nat):Bts w A (l.take k):=by
 intro i hi;simp only[List.length_take]at hi;obtain⟨b,o,hA,hlt,hc⟩:=h i (by omega);exact⟨b,o,hA,hlt,by rw[hc];simp⟩
theorem mid_bts(c:Nat){old:LU}{a:Nat}(h:Bts w A old)(hc:old.length<=c)(hn:a+n<=old.length):Bts w (if c=a then A else Option.map (fun x=>x.add a) A) ((old.drop a).take n):=by
 by_cases e:n=0
 ·subst e;rw[List.take_zero];exact Bts.nil _ _
 obtain⟨b,o,rfl,hlt,_⟩:=h 0 (by omega);rw[if_neg (by omega)];have e1:Option.map (fun x:Addr=>x.add a) (some ⟨b,o,none⟩)=some ⟨b,o+a,none⟩:=by simp[Addr.add]
 rw[e1];exact(h.drop a).take n
theorem deltaApply_bad(A:OA)(c:Nat)(old:LU)(B:OA)(d:Nat)(l:List Stp)(size:Int)(w:World)(ho:old.length<=140737488351232)(hl:l.length<=3518437208780)(hr:Sps w B l)(h:deltaCheck l old.length size≠0):
  Calls Try.prog 66 #[.slice A old.length c,.slice B l.length d,iv size] w (RetB w (.tuple #[.slice none 0 0,iv (deltaCheck l old.length size)])):=by
 have hb:(deltaCheck l old.length size !=0)=true:=by simp[h]
 clear h;go_enter Try.func66,Try.ntmps66;go_wp2_with fail;refine(deltaCheck_calls B d l old.length size w hl hr).mono ?_;rintro e w1 ⟨rfl,hb1⟩;go_wp2_with fail;go_ret2;exact⟨rfl,hb1⟩
theorem deltaApply_ok(A:OA)(c:Nat)(old:LU)(B:OA)(d:Nat)(l:List Stp)(size:Int)(w:World)(hc:old.length<=c)(hA:Bts w A old)(hl:l.length<=3518437208780)(hr:Sps w B l)(h:deltaCheck l old.length size=0):
  Calls Try.prog 66 #[.slice A old.length c,.slice B l.length d,iv size] w (ByRet2 w (applied old l) 0):=by
 have hd:=deltaCheck_ok.1 h;have hc3:∀w,Calls Try.prog 77 #[.slice B l.length d,iv (old.length:Int),iv size] w (RetB w (iv (deltaCheck l old.length size)))->Calls Try.prog 77 #[.slice B l.length d,iv (old.length:Int),iv size] w (RetB w (iv 0)):=by
  intro w hw;rw[h]at hw;exact hw
 have hcc:=hc3 w (deltaCheck_calls B d l old.length size w hl hr);have HC:=qH hcc;have HD:=qH hd;have ho1:=hd.o1;have hm:=hd.many;clear hc3 hcc h hd;go_enter Try.func66,Try.ntmps66;go_wp2_with fail;refine HC.out.mono ?_;rintro e w1 ⟨rfl,hb1⟩;have HB1:=qH hb1;clear hb1;go_wp2_with fail;go_loopw [9,22] (fun v i wr=>∃(k:Nat) (C:OA) (cc:Nat),k<=l.length∧i=.int .i64 k∧v=.slice C (applied old (l.take k)).length cc∧(applied old (l.take k)).length<=cc∧Bts wr C (applied old (l.take k))∧Hid (Below w.heap.size w wr)) (fun _ i _=>l.length-(intOf i).toNat)
 case atStart=>exact⟨0,none,0,Nat.zero_le _,rfl,rfl,Nat.le_refl _,Bts.nil _ _,HB1⟩
 case round=>
  obtain⟨k,C,cc,hk,rfl,rfl,hcl,hC,HB⟩:=hrel;by_cases hlt:k<l.length
  ·obtain⟨b,o,D,dd,rfl,hs,hc3,hc1,hc2,hd1,hd2,hD,hi2,hi1⟩:=(hr.stays HB.out).at_ hlt;have hsz:=HB.out.size;have hx:l.take (k+1)=l.take k++[l[k]]:=List.take_succ_eq_append_getElem hlt;obtain⟨hform,hin⟩:=HD.out.each _ (List.getElem_mem hlt);have hlen:(applied old (l.take (k+1))).length<=64:=by
    have h1:=applied_len (old:=old) (l:=l.take (k+1)) (fun o ho=>(HD.out.each o (List.mem_of_mem_take ho)).2);have h1:=HD.out.take (k+1);have:=h1.2.2.2;have:=HD.out.s1;omega
   have happ:applied old (l.take (k+1))=applied old (l.take k)++l[k].piece old:=by rw[hx,applied_append,applied_one]
   have HX:=qH happ;rw[happ]at hlen;clear happ hx hform;generalize hx:l[k]=x at *
   clear hx;obtain⟨at_,len,data⟩:=x;unfold Stp.in_ at hin;dsimp only at *
   obtain⟨j1,j2,j3⟩:=hin;obtain⟨n,rfl⟩:=Int.eq_ofNat_of_zero_le j1;obtain⟨a,rfl⟩:=Int.eq_ofNat_of_zero_le j2;have j3:a+n<=old.length:=by omega
   clear j1 j2 hi2 hi1;generalize hp:applied old (l.take k)=pre at *
   clear hp;have hpl:pre.length<=64:=by rw[List.length_append]at hlen;omega
   have hdl:data.length<=64:=by rw[List.length_append]at hlen;simp only[Stp.piece,List.length_append]at hlen;omega
   clear hlen;have w1':IntKind.i64.wrap ((a:Int)+(n:Int))=(a:Int)+(n:Int):=IntWalk.i64_in _ (by omega);have w1:((a:Int)+(n:Int)).toNat=a+n:=by omega
   have w2:(0:Int)<=(a:Int):=by omega
   have w3:(a:Int)<=(a:Int)+(n:Int):=by omega
   have w3:(a:Int)+(n:Int)<=(c:Int):=by omega
   have w3:a+n-a=n:=by omega
   have hMM:∀w',Below wr.heap.size wr w'->Bts w' (if c=a then A else Option.map (fun x=>x.add a) A) ((old.drop a).take n):=fun w' hb=>(mid_bts c (hA.stays HB.out) hc j3).stays hb;have hml:((old.drop a).take n).length=n:=by simp;omega
   have HM:=qH hMM;have HML:=qH hml;have hDs:∀w',Below wr.heap.size wr w'->Bts w' D data:=fun w' hb=>hD.stays hb;have hCs:∀w',Below wr.heap.size wr w'->Bts w' C pre:=fun w' hb=>hC.stays hb;have HDs:=qH hDs;have HCs:=qH hCs;clear hMM hml hDs hCs hD hC;go_wp2_with fail;refine wp_region_still_tail 12 (by kernel_rfl) (by kernel_rfl) ?_
   change wpStill _ _ ((wr.alloc _).drew) _ _ _
   simp only[List.take_succ_cons,List.take_zero,List.drop_succ_cons,List.drop_zero];repeat still_step
   refine wpStill_nil ?_;generalize (if c=a then A else Option.map (fun x=>x.add a) A)=M at *
   have hb1:Below wr.heap.size wr ((wr.alloc (.cells #[.int .i64 a,.int .i64 n,.slice D data.length dd] 125)).drew):=((Below.refl _ _).alloc (Nat.le_refl _) _).drew
   change wpList _ _ _ _ _ ((wr.alloc (.cells #[.int .i64 a,.int .i64 n,.slice D data.length dd] 125)).drew)
   have HB1:=qH hb1;have hs1:wr.heap.size<((wr.alloc (.cells #[.int .i64 a,.int .i64 n,.slice D data.length dd] 125)).drew).heap.size:=by simp
   clear hb1;generalize (wr.alloc (.cells #[.int .i64 a,.int .i64 n,.slice D data.length dd] 125)).drew=w1 at *
   have HT:Hid (applied old (l.take (k+1))=pre++(old.drop a).take n++data):=by
    refine qH ?_;rw[HX.out];simp[Stp.piece]
   clear HX;go_wp2_with fail;have hcat:=concat3_calls (w:=w1.alloc (.cells #[.slice C pre.length cc,.slice M n (c-a),.slice D data.length dd] 24)) (g:=w1.heap.size) (A:=C) (B:=M) (C:=D) (a:=pre) (b:=(old.drop a).take n) (l:=data) (c:=cc) (d:=c-a) (k:=dd) (t:=24) (fr:=(0,0))
    (by rw[HML.out];exact blk_top rfl) (by rw[HML.out];omega) (HCs.out _ (HB1.out.alloc HB1.out.size _)) (HM.out _ (HB1.out.alloc HB1.out.size _)) (HDs.out _ (HB1.out.alloc HB1.out.size _))
   refine hcat.mono ?_;rintro e w1 ⟨C',c',rfl,hown,hb1⟩;have HO:=qH hown;have HB1:Hid (Below w.heap.size w w1):=qH ((HB.out.trans (HB1.out.mono hsz)).trans ((((Below.refl _ _).alloc (Nat.le_refl _) _).mono (by omega)).trans (hb1.mono (by simp;omega))));clear hcat hown hb1;go_wp2_with fail;go_roundw
   case rel=>
    refine⟨k+1,C',c',by omega,by go_num,by rw[HT.out];simp,?_,?_,HB1⟩
    ·rw[HT.out];exact HO.out.le
    rw[HT.out];exact HO.out.src.bts
   case measure=>simp[intOf];omega
  obtain rfl:k=l.length:=by omega
  rw[List.take_length]at hcl hC;go_wp2_with fail;exact bodyPost_ret (results_tmp2 rfl _ _ _) rfl ⟨C,cc,by simp,hC,hcl,HB.out⟩
def axOf(old:LU)(l:List Stp)(size:Int):List UInt8×Int:=if deltaCheck l old.length size≠0 then ([],deltaCheck l old.length size)else (applied old l,0)
theorem byRet2_nil{n:Int}{e:Ending}(h:RetB w (.tuple #[.slice none 0 0,iv n]) e w'):ByRet2 w [] n e w':=
 ⟨none,0,h.1,Bts.nil _ _,Nat.le_refl _,h.2⟩
theorem applyAny_calls(A:OA)(c:Nat)(old:LU)(B:OA)(d:Nat)(l:List Stp)(size:Int)(w:World)(hc:old.length<=c)(ho:old.length<=140737488351232)(hA:Bts w A old)(hl:l.length<=3518437208780)(hr:Sps w B l):
  Calls Try.prog 66 #[.slice A old.length c,.slice B l.length d,iv size] w (ByRet2 w (axOf old l size).1 (axOf old l size).2):=by
 unfold axOf;by_cases h:deltaCheck l old.length size=0
 ·rw[if_neg (by simpa using h)];exact deltaApply_ok A c old B d l size w hc hA hl hr h
 rw[if_pos h];exact(deltaApply_bad A c old B d l size w ho hl hr h).mono fun _ _=>byRet2_nil
section
variable {w0 w w':World} {base size n c m ib ia k:Nat} {e T:TypeId} {A A':OA} {c':Nat} {xs ns:List Value} {F:World->Prop} {cv:Nat->Value}
end
def lvlN:List Nat->(Nat->Bool)->Nat
 |[],_=>0
 |i::l,done=>if done i=true then l.length+1 else lvlN l done
theorem x9ik(h:Y:=by
 intro done cv k1 a wq hw h hJ hn;have e1:=mO 1 (.pointer (some ⟨g,0,none⟩)) h;go_simp):Y:=h
theorem cloneBytes_calls(A:OA)(n c:Nat)(cs:List Value)(w:World)(hl:cs.length=n*1)(hn0:n<=140737488355328)(hr:Src w A cs)(h1:∀u∈cs,u.oneCell'=true):
  Calls Try.prog 26 #[.slice A n c] w (SlRet w 5 1 n cs):=by
 rcases A with _|ad
 ·have h1:cs.length=0:=by
   exact x5fs
  obtain rfl:n=0:=by omega
  obtain rfl:cs=[]:=List.eq_nil_of_length_eq_zero h1;have hn:=fun (wx:World) (a:OA) (n c n' c':Nat)=>Lib.run_eql_slice_nil (P:=Try.prog) wx 24 5 a n c n' c' Try.underlying24;clear h1 hl;go_enter Try.func26,Try.ntmps26;exact x4d9
 have hn:=fun (wx:World) (a:OA) (n c n' c':Nat)=>Lib.run_eql_slice_nil (P:=Try.prog) wx 24 5 a n c n' c' Try.underlying24;have ho:Own (w.alloc (.cells #[] 5)) w.heap.size 5 1 (some ⟨w.heap.size,0,none⟩) 0 0 []:=own_zero w _ _;have hs:=hr.stays ((Below.refl w.heap.size w).alloc (Nat.le_refl _) (.cells #[] 5));have hb1:0+n<=140737488355328:=by omega
 have hb2:w.heap.size<=(w.alloc (.cells #[] 5)).heap.size:=by simp
 have HL:=qH hl;clear hl;go_enter Try.func26,Try.ntmps26;go_wp2_with (at_builtin;refine wpList_app _ rfl _ _ 24 rfl elBytesB w.heap.size (some ⟨w.heap.size,0,none⟩) 0 0 [] rfl ho (some ad) n c cs rfl hs HL.out h1 hb1 hb2 ?_;intro A' c' w1 hown hg hb hx);exact x6v2
theorem data_le(old:LU):∀(l:List Stp),∀o∈l,o.data.length<=(applied old l).length
 |[],_,h=>by cases h
 |x::l,o,h=>by
  rw[applied_cons,List.length_append];rcases List.mem_cons.1 h with rfl|h
  ·simp[Stp.piece];omega
  have:=data_le old l o h;omega
theorem snoc_of{α:Type}(l:List α)(h:l≠[]):∃m x,l=m++[x]:=⟨l.dropLast,l.getLast h,(List.dropLast_concat_getLast h).symm⟩
theorem addByte_len(l:List Stp)(x:UInt8):(addByte l x).length<=l.length+1:=by
 by_cases h:l=[]
 ·subst h;simp[addByte]
 obtain⟨m,o,rfl⟩:=snoc_of l h;rw[addByte_snoc];split<;>simp
theorem diffN_len(old b:LU):∀q,(diffN old b q).2.length<=q
 |0=>by simp[diffN]
 |q+1=>by
  have ih:=diffN_len old b q
  show (diffStep old b (diffN old b q)).2.length<=q+1;generalize diffN old b q=p at *
  unfold diffStep;split
  ·split
   ·simp only[List.length_append,List.length_cons,List.length_nil];omega
   ·have:=addByte_len p.2 (b.getD p.1 0)
    show (addByte p.2 (b.getD p.1 0)).length<=q+1;omega
  omega
theorem cloneOps_calls(A:OA)(n c:Nat)(cs:List Value)(w:World)(hl:cs.length=n*3)(hn0:n<=3518437208883)(hr:Src w A cs)(h1:∀u∈cs,u.oneCell'=true):
  Calls Try.prog 78 #[.slice A n c] w (SlRet w 125 3 n cs):=by
 rcases A with _|ad
 ·have h1:cs.length=0:=by
   exact x5fs
  obtain rfl:n=0:=by omega
  obtain rfl:cs=[]:=List.eq_nil_of_length_eq_zero h1;have hn:=fun (wx:World) (a:OA) (n c n' c':Nat)=>Lib.run_eql_slice_nil (P:=Try.prog) wx 35 125 a n c n' c' Try.underlying35;clear h1 hl;go_enter Try.func78,Try.ntmps78;exact x4d9
 have hn:=fun (wx:World) (a:OA) (n c n' c':Nat)=>Lib.run_eql_slice_nil (P:=Try.prog) wx 35 125 a n c n' c' Try.underlying35;have ho:Own (w.alloc (.cells #[] 125)) w.heap.size 125 3 (some ⟨w.heap.size,0,none⟩) 0 0 []:=own_zero w _ _;have hs:=hr.stays ((Below.refl w.heap.size w).alloc (Nat.le_refl _) (.cells #[] 125));have hb1:0+n<=3518437208883:=by omega
 have hb2:w.heap.size<=(w.alloc (.cells #[] 125)).heap.size:=by simp
 have HL:=qH hl;clear hl;go_enter Try.func78,Try.ntmps78;go_wp2_with (at_builtin;refine wpList_app _ rfl _ _ 35 rfl elOpsB w.heap.size (some ⟨w.heap.size,0,none⟩) 0 0 [] rfl ho (some ad) n c cs rfl hs HL.out h1 hb1 hb2 ?_;intro A' c' w1 hown hg hb hx);exact x6v2
theorem elChunksB:El Try.prog 34 80 5 2513169434916:=⟨Try.underlying34,by
 obtain⟨i,h⟩:=info_parts (P:=Try.prog) (e:=80) (z:=.agg #[.int .i64 0,.int .i64 0,.int .i64 0,.int .i64 0,.slice none 0 0]) (size:=5) (bytes:=56) (by kernel_rfl);exact⟨i,_,h.1,h.2.1,h.2.2.1,by omega,rfl⟩,by omega⟩
theorem elChunks:El Try.prog 34 80 5:=⟨Try.underlying34,by
 obtain⟨i,h⟩:=info_parts (P:=Try.prog) (e:=80) (z:=.agg #[.int .i64 0,.int .i64 0,.int .i64 0,.int .i64 0,.slice none 0 0]) (size:=5) (bytes:=56) (by kernel_rfl);exact⟨i,_,h.1,h.2.1,h.2.2.1,by omega,rfl⟩,by omega⟩
theorem cloneChunks_calls(A:OA)(n c:Nat)(cs:List Value)(w:World)(hl:cs.length=n*5)(hn0:n<=2513169434916)(hr:Src w A cs)(h1:∀u∈cs,u.oneCell'=true):
  Calls Try.prog 55 #[.slice A n c] w (SlRet w 80 5 n cs):=by
 rcases A with _|ad
 ·have h1:cs.length=0:=by
   exact x5fs
  obtain rfl:n=0:=by omega
  obtain rfl:cs=[]:=List.eq_nil_of_length_eq_zero h1;have hn:=fun (wx:World) (a:OA) (n c n' c':Nat)=>Lib.run_eql_slice_nil (P:=Try.prog) wx 34 80 a n c n' c' Try.underlying34;clear h1 hl;go_enter Try.func55,Try.ntmps55;exact x4d9
 have hn:=fun (wx:World) (a:OA) (n c n' c':Nat)=>Lib.run_eql_slice_nil (P:=Try.prog) wx 34 80 a n c n' c' Try.underlying34;have ho:Own (w.alloc (.cells #[] 80)) w.heap.size 80 5 (some ⟨w.heap.size,0,none⟩) 0 0 []:=own_zero w _ _;have hs:=hr.stays ((Below.refl w.heap.size w).alloc (Nat.le_refl _) (.cells #[] 80));have hb1:0+n<=2513169434916:=by omega
 have hb2:w.heap.size<=(w.alloc (.cells #[] 80)).heap.size:=by simp
 have HL:=qH hl;clear hl;go_enter Try.func55,Try.ntmps55;go_wp2_with (at_builtin;refine wpList_app _ rfl _ _ 34 rfl elChunksB w.heap.size (some ⟨w.heap.size,0,none⟩) 0 0 [] rfl ho (some ad) n c cs rfl hs HL.out h1 hb1 hb2 ?_;intro A' c' w1 hown hg hb hx);exact x6v2
theorem x1tl(h:Y:=by
 unfold Oper.wp execOp;simp only[ho,resolve,invoke,builtin,Sem.run_bind,Sem.run_pure,Result.andThen_ok,List.map_toArray,List.map_cons,List.map_nil,hd,hs,hr];exact h):Y:=h
theorem x8x7(h:Y:=by
 have e1:=mO 3 (.pointer (some ⟨w.heap.size,0,none⟩)) h;go_simp):Y:=h
def over(L:List Value)(o:Nat)(cs:List Value):List Value:=L.take o++cs++L.drop (o+cs.length)
theorem over_len(L:List Value)(o:Nat)(cs:List Value)(h:o+cs.length<=L.length):(over L o cs).length=L.length:=by simp[over];omega
theorem over_at(L:List Value)(o:Nat)(cs:List Value)(h:o+cs.length<=L.length)(j:Nat):(over L o cs)[j]?=if o<=j∧j<o+cs.length then cs[j-o]? else L[j]?:=by
 have hl:(L.take o).length=o:=by simp;omega
 unfold over;by_cases h1:j<o
 ·rw[List.append_assoc,List.getElem?_append_left (by omega),List.getElem?_take,if_pos h1,if_neg (by omega)]
 by_cases h1:j<o+cs.length
 ·rw[List.append_assoc,List.getElem?_append_right (by omega),List.getElem?_append_left (by omega),hl,if_pos ⟨by omega,h1⟩]
 rw[List.getElem?_append_right (by simp;omega),List.getElem?_drop,if_neg (by omega)];congr 1;simp;omega
theorem run_copy_rowN{P:Program}(w:World)(dT sT ty elem:TypeId)(g o dLen dCap:Nat)(a:Addr)(sLen sCap:Nat)(cur:List Value)(t:TypeId)(cs:List Value)(size:Nat)
  (hu:P.underlying dT=some (.slice elem)) (hs:(P.info? elem).map (·.size)=some size)
  (hg:w.heap[g]?=some (.cells cur.toArray t (0,0))) (hn:cs.length=Nat.min sLen dLen*size)
  (hsrc:∀j v,cs[j]?=some v->w.cell? (a.add j)=some v) (hfit:o+cs.length<=cur.length) (h1:∀v∈cs,v.oneCell'=true):
  (Builtin.copy_ #[dT,sT] ty #[.slice (some ⟨g,o,none⟩) dLen dCap,.slice (some a) sLen sCap]).run P w=
   .ok (goInt (Nat.min sLen dLen)) (w.setRow g (over cur o cs).toArray):=by
 have hl:=run_loadCells_list (P:=P) w a cs hsrc;have hst:=run_storeCells_at P g o t cs 0 cur.toArray w hg (by simpa using hfit) h1
 cases hq:P.info? elem with
 |none=>simp[hq]at hs
 |some i=>
  have hi:i.size=size:=by simpa[hq]using hs
  rw[hn]at hl;simp[Builtin.copy_,run_underlying hu,Builtin.lenOf,Builtin.firstCells,sizeOf,typeInfo,hq,hi,hl,hst,over]
theorem wp_copyN{P:Program}{o:Oper}(d s:Operand)(t t':TypeId)
  (ho:o.op=.call {callee:=.builtin .copy,args:=#[d,s],argTypes:=#[t,t']}) (v u:Value) (hd:a.eval d=v) (hs:a.eval s=u) {v':Value} {w':World}
  (hr:(Builtin.copy_ #[t,t'] o.type #[v,u]).run P w=.ok v' w') (h:K (a.put o.dst v') w'):o.wp P a w K Q:=by
 exact x1tl
theorem ins_room(L ns:List Value)(k N:Nat)(hk:k<=N)(hL:N+ns.length<=L.length):
  (over (over L (k+ns.length) ((L.take N).drop k)) k ns).take (N+ns.length)=(L.take N).take k++ns++(L.take N).drop k:=by
 have h1:((L.take N).drop k).length=N-k:=by simp;omega
 have h1:=over_len L (k+ns.length) ((L.take N).drop k) (by omega)
 apply List.ext_getElem?
 intro j;rw[List.getElem?_take];by_cases hj:j<N+ns.length
 ·rw[if_pos hj,over_at _ _ _ (by omega)];by_cases a1:j<k
  ·rw[if_neg (by omega),over_at _ _ _ (by omega),if_neg (by omega),List.append_assoc,List.getElem?_append_left (by simp;omega),List.getElem?_take,if_pos a1,List.getElem?_take,if_pos (by omega)]
  by_cases a1:j<k+ns.length
  ·rw[if_pos ⟨by omega,a1⟩,List.append_assoc,List.getElem?_append_right (by simp;omega),List.getElem?_append_left (by simp;omega)];congr 1;simp;omega
  rw[if_neg (by omega),over_at _ _ _ (by omega),if_pos ⟨by omega,by omega⟩,List.getElem?_append_right (by simp;omega)];congr 1;simp;omega
 rw[if_neg hj]
 symm
 apply List.getElem?_eq_none
 simp;omega
theorem ins_grown(X Z ns:List Value)(k N m:Nat)(hk:k<=N)(hX:X.length=N)(hm:ns.length=m)(hZ:N+m<=k+Z.length):
  (over (over (X.take k++Z) k ns) (k+m) (X.drop k)).take (N+m)=X.take k++ns++X.drop k:=by
 have h3:(X.take k++Z).length=k+Z.length:=by simp;omega
 have h1:(X.drop k).length=N-k:=by simp;omega
 have h1:=over_len (X.take k++Z) k ns (by omega)
 apply List.ext_getElem?
 intro j;rw[List.getElem?_take];by_cases hj:j<N+m
 ·rw[if_pos hj,over_at _ _ _ (by omega)];by_cases a1:j<k
  ·rw[if_neg (by omega),over_at _ _ _ (by omega),if_neg (by omega),List.getElem?_append_left (by simp;omega),List.append_assoc,List.getElem?_append_left (by simp;omega)]
  by_cases a1:j<k+m
  ·rw[if_neg (by omega),over_at _ _ _ (by omega),if_pos ⟨by omega,by omega⟩,List.append_assoc,List.getElem?_append_right (by simp;omega),List.getElem?_append_left (by simp;omega)];congr 1;simp;omega
  rw[if_pos ⟨by omega,by omega⟩,List.getElem?_append_right (by simp;omega)];congr 1;simp;omega
 rw[if_neg hj]
 symm
 apply List.getElem?_eq_none
 simp;omega
section
variable (A B:OA) (c d:Nat) (old b:LU) (w:World)
theorem longest_calls(k:Nat)(hl:old.length<=64)(hm:b.length<=64)(hk:k<=b.length)(ha:Bts w A old)(hb:Bts w B b):
  Calls Try.prog 79 #[.slice A old.length c,.slice B b.length d,iv k] w (RetN w (.tuple #[iv (longest old b k).1,iv (longest old b k).2,iv 0])):=by
 have h1:¬(64:Int)<(old.length:Int):=by omega
 have h1:¬(64:Int)<(b.length:Int):=by omega
 have h1:¬(k:Int)<0:=by omega
 have h1:¬(b.length:Int)<(k:Int):=by omega
 go_enter Try.func79,Try.ntmps79
 go_wp2
 go_loopw [9,10,11,12,31] (fun p q x y i wr=>∃j n:Nat,j<=old.length∧i=.int .i64 j∧p=iv (longTo old b k j).1∧q=iv (longTo old b k j).2∧w.drewN n=wr) (fun _ _ _ _ i _=>old.length-(intOf i).toNat)
 case atStart=>exact⟨0,0,Nat.zero_le _,rfl,rfl,rfl,rfl⟩
 case round=>
  obtain⟨j,n,hj,rfl,rfl,rfl,rfl⟩:=hrel;have hb1:=longTo_le old b k j hj;by_cases hlt:j<old.length
  ·have HP:=qH (preAt_le old b j k);go_wp2_with fail;go_loopw [12] (fun y wr=>∃t n:Nat,t<=preAt old b j k∧y=.int .i64 t∧w.drewN n=wr) (fun y _=>preAt old b j k-(intOf y).toNat)
   case atStart=>exact⟨0,n,Nat.zero_le _,rfl,rfl⟩
   case round=>
    obtain⟨t,n1,ht,rfl,rfl⟩:=hrel;have hP:=HP.out;by_cases hin:t<preAt old b j k
    ·obtain⟨i1,i2,he⟩:=preAt_lt old b j k t hin;obtain⟨b1,o1,rfl,hs1,hc1⟩:=ha (j+t) i1;obtain⟨b1,o1,rfl,hs1,hc1⟩:=hb (k+t) i2;have d1:decide ((j:Int)+(t:Int)<(old.length:Int))=true:=by simp;omega
     have d1:decide ((k:Int)+(t:Int)<(b.length:Int))=true:=by simp;omega
     have d1:((old[j+t].toNat:Int)==(b[k+t].toNat:Int))=true:=by simp[he]
     have HE:=qH he;clear he;go_wp2_with fail;go_quiet (fail)
     go_wp2_with fail;go_roundw
     case rel=>exact⟨t+1,_,by omega,by go_num,rfl⟩
     case measure=>simp[intOf]<;>omega
    obtain rfl:t=preAt old b j k:=by omega
    have hst:=preAt_stop old b j k;clear ht hin;by_cases hbest:(longTo old b k j).2<preAt old b j k
    first|case' inl=>have T10:Hid True:=qH trivial|case' pos=>have T10:Hid True:=qH trivial|case' refine_1=>have T10:Hid True:=qH trivial
    iterate 2
     ·first
       |
        revert T10;intro T10;have HT:Hid (longTo old b k (j+1)=(j,preAt old b j k)):=longTo_yes hbest
       |have HT:Hid (longTo old b k (j+1)=longTo old b k j):=longTo_no hbest
      first
       |
        revert T10;intro T10;have hbest':((longTo old b k j).2:Int)<(preAt old b j k:Int):=by omega
       |have hbest':¬((longTo old b k j).2:Int)<(preAt old b j k:Int):=by omega
      by_cases c1:j+preAt old b j k<old.length
      ·have d1:decide ((j:Int)+(preAt old b j k:Int)<(old.length:Int))=true:=by simp;omega
       by_cases c2:k+preAt old b j k<b.length
       ·have d2:decide ((k:Int)+(preAt old b j k:Int)<(b.length:Int))=true:=by simp;omega
        have hne:=hst c1 c2;have d3:((old[j+preAt old b j k].toNat:Int)==(b[k+preAt old b j k].toNat:Int))=false:=by
         simp;exact fun e=>hne (UInt8.toNat_inj.1 (by omega))
        obtain⟨b1,o1,rfl,hs1,hc1⟩:=ha (j+preAt old b j k) c1;obtain⟨b2,o2,rfl,hs2,hc2⟩:=hb (k+preAt old b j k) c2;clear hne hst;go_wp2_with fail;go_quiet (fail)
        go_wp2_with fail;go_roundw
        case rel=>exact⟨j+1,_,by omega,by go_num,by rw[HT.out],by rw[HT.out],rfl⟩
        case measure=>simp[intOf]<;>omega
       have d2:decide ((k:Int)+(preAt old b j k:Int)<(b.length:Int))=false:=by simp;omega
       clear hst;go_wp2_with fail;go_quiet (fail)
       go_wp2_with fail;go_roundw
       case rel=>exact⟨j+1,_,by omega,by go_num,by rw[HT.out],by rw[HT.out],rfl⟩
       case measure=>simp[intOf]<;>omega
      have d1:decide ((j:Int)+(preAt old b j k:Int)<(old.length:Int))=false:=by simp;omega
      clear hst;go_wp2_with fail;go_quiet (fail)
      go_wp2_with fail;go_roundw
      case rel=>exact⟨j+1,_,by omega,by go_num,by rw[HT.out],by rw[HT.out],rfl⟩
      case measure=>simp[intOf]<;>omega
  go_wp2_with fail
  go_ret3
  refine⟨?_,_,rfl⟩;obtain rfl:j=old.length:=by omega
  rfl
end
theorem x0p8(h:Y:=by
 intro done cv k a wq hw h hJ hn;have e1:=mx_new (i:=0) (t:=64) h (hw 0 (by decide)) rfl rfl rfl;have e65:=mx_new (i:=1) (t:=65) h (hw 1 (by decide)) rfl rfl rfl;go_simp):Y:=h
theorem x0s2(h:Y:=by
 intro done cv k a wq hw h hJ hn;have e1:=mx_new (i:=4) (t:=68) h (hw 4 (by decide)) rfl rfl rfl;go_simp):Y:=h
theorem x1by(h:Y:=by
 intro done cv k a wq hw h hJ hn;have e1:=mx_new (i:=5) (t:=69) h (hw 5 (by decide)) rfl rfl rfl;have hk:=hn 12 _ 1 rfl rfl (by decide);have hc:=diffJ_cell2 hk hJ kc2 kg2;go_simp):Y:=h
theorem x1jt(h:Y:=by
 intro done cv k a wq hw h hJ hn;have e1:=mx_old (t:=7) (v:=.int .i64 (i:Int)) h rfl rfl;exact mx_move (ch_ev e1)):Y:=h
theorem x22o(h:Y:=by
 intro done cv k a wq hw h hJ hn;have e1:=mx_new (i:=13) (t:=77) h (hw 13 (by decide)) rfl rfl rfl;go_simp):Y:=h
theorem x2v0(h:Y:=by
 have kf1:wq.frozen? ⟨g2,l.length*3+2,none⟩=false:=by
  have:=KFZ.out (l.length*3+2);unfold World.frozen? at this⊢;rw[hkk];exact this
 have HD1:=HDc.out.below (((Below.refl w1.heap.size w1).drew).alloc (Nat.le_refl _) (.cells #[bv b[i]] 5));have HDn:=HD1.add hown hgr hor;have HBn:Below w.heap.size w wq:=(HBc.out.drew.alloc hsz1 _).trans hbel;exact wp_stb e1 e76 kc1 kf1 ⟨undef,rfl,B',c',HDn,HBn.setCell kg1 _⟩):Y:=h
theorem x2wx(h:Y:=by
 intro done cv k a wq hw h hJ hn;have e1:=mx_new (i:=7) (t:=71) h (hw 7 (by decide)) rfl rfl rfl;have e72:=mx_new (i:=8) (t:=72) h (hw 8 (by decide)) rfl rfl rfl;go_simp):Y:=h
theorem x49r(h:Y:=by
 intro done cv k a wq hw h hJ hn;have e1:=mx_old (t:=6) (v:=.slice (some ⟨g2,0,none⟩) (l.length+1) cc1) h rfl rfl;exact mx_move (ch_ev e1)):Y:=h
theorem x4cb(h:Y:=by
 intro done cv k a wq hw h hJ hn;have e1:=mx_new (i:=9) (t:=73) h (hw 9 (by decide)) rfl rfl rfl;have hk:=hn 11 _ 0 rfl rfl (by decide);obtain rfl:k=0:=by omega
 obtain rfl:wq=w1.drew:=hJ;go_simp):Y:=h
theorem x5i6(h:Y:=by
 intro B' c' w1 hown hgr hbel hor;exact⟨_,rfl,B',c',by simp,hown,hgr,hbel,hor⟩):Y:=h
theorem x5qp(h:Y:=by
 intro done cv k a wq hw h hJ hn;have e1:=mx_old (t:=6) (v:=.slice (some ⟨g,0,none⟩) (l1.length+1) cc) h rfl rfl;exact mx_move (ch_ev e1)):Y:=h
theorem x5y2(h:Y:=by
 have hl:=blk_far HD1.out.row hgr (bb:=bb) hbw (by have:=HB1.out.size;omega);exact(World.cell?_of_block hl).trans HBB.out):Y:=h
theorem x6w3(h:Y:=by
 rintro cv w1 ⟨B',c',HDn',HBn'⟩;have HDn:=qH HDn';have HBn:=qH HBn';clear HDn' HBn' kc2 kg1 kg2 hbx';simp only[mixAll,putAll_some,putAll_none,putAll_nil,List.getElem?_cons_zero,List.getElem?_cons_succ,Nat.zero_add,Nat.reduceAdd,List.setIfInBounds_toArray,List.set_cons_zero,List.set_cons_succ];go_wp2_with fail;go_roundw
 case rel=>
  have hget:b.getD i 0=b[i]:=by rw[List.getD_eq_getElem?_getD,List.getElem?_eq_getElem hlt];rfl
  refine⟨q+1,some ⟨g2,0,none⟩,cc1,ds++[(B',c')],by rw[HQ.out];go_num,by rw[HQ.out];simp,?_,HBn⟩;rw[HQ.out,hget];exact HDn.out
 case measure=>simp[intOf];omega):Y:=h
theorem x73s(h:Y:=by
 rw[((Below.refl (wr.drewN nd).heap.size (wr.drewN nd)).alloc (Nat.le_refl _) (.cells #[iv 0,iv 0,.slice none 0 0] 125)).cell (p:=⟨bb,bo+i,none⟩) hbs];exact hbx'):Y:=h
theorem x75y(h:Y:=by
 intro done cv a wq hw h hJ;have e1:=mx_new (i:=10) (t:=74) h (hw 10 (by decide)) rfl rfl rfl;obtain rfl:wq=w1.drew:=hJ;exact wp_slb e1 ⟨_,rfl,rfl,by simp⟩):Y:=h
theorem x7ji(h:Y:=by
 intro done cv k a wq hw h hJ hn;have e1:=mx_old (t:=12) (v:=.int .i64 (l.length:Int)) h rfl rfl;exact mx_move (ch_ev e1)):Y:=h
theorem x97z(h:Y:=by
 intro done cv k a wq hw h hJ hn;have e1:=mx_new (i:=2) (t:=66) h (hw 2 (by decide)) rfl rfl rfl;have e67:=mx_new (i:=3) (t:=67) h (hw 3 (by decide)) rfl rfl rfl;go_simp):Y:=h
theorem x98c(h:Y:=by
 intro done cv k a wq hw h hJ hn;have e1:=mx_old (t:=1) (v:=.slice (some ⟨bb,bo,none⟩) b.length d) h rfl rfl;exact mx_move (ch_ev e1)):Y:=h
theorem x9y2(h:Y:=by
 intro done cv k a wq hw h hJ hn;have e1:=mx_old (t:=12) (v:=.int .i64 (l1.length:Int)) h rfl rfl;exact mx_move (ch_ev e1)):Y:=h
theorem blk_far{e size:Nat}(h:Own w base e size A n c xs)(hg:w.grownBy w' (A.map (·.block))){bb:Nat}(hb:bb<base)(hw:base<=w.heap.size):w'.heap[bb]?=w.heap[bb]?:=by
 refine hg.block bb (by omega) ?_;intro e;have:=(h.block bb e.symm).1;omega
def diffJ(w0 w2:World)(l0:List Stp)(o:Stp)(ds0:List (Option Addr×Nat))(d0:Option Addr×Nat)(g cc:Nat)(x:UInt8):Nat->(Nat->Value)->World->Prop
 |0,_,w=>w=w2.drew
 |1,cv,w=>w=w2.drew.alloc (.cells #[bv x] 5)∧cv 11=.slice (some ⟨w2.heap.size,0,none⟩) 1 1
 |2,cv,w=>∃B' c',cv 12=.slice B' (o.data.length+1) c'∧Own w w0.heap.size 5 1 B' (o.data.length+1) c' (o.data.map bv++[bv x])∧(w2.drew.alloc (.cells #[bv x] 5)).grownBy w (d0.1.map (·.block))∧Below w0.heap.size (w2.drew.alloc (.cells #[bv x] 5)) w∧
  (B'.map (·.block)=d0.1.map (·.block)∨B'.map (·.block)=some (w2.drew.alloc (.cells #[bv x] 5)).heap.size)
 |_,_,w=>∃B' c',DRow w w0.heap.size (l0++[⟨o.at_,o.len,o.data++[x]⟩]) (ds0++[(B',c')]) (some ⟨g,0,none⟩) cc∧Below w0.heap.size w0 w
theorem diffJ_cell2{w2:World}{l0:List Stp}{o:Stp}{ds0:List (Option Addr×Nat)}{d0:Option Addr×Nat}{cc:Nat}{x:UInt8}(hk:k<=1)(h:diffJ w0 w2 l0 o ds0 d0 g cc x k cv w){j:Nat}{v:Value}(hc:w2.cell? ⟨g,j,none⟩=some v)(hg:g<w2.heap.size):w.cell? ⟨g,j,none⟩=some v:=by
 match k,hk,h with
 |0,_,h=>obtain rfl:w=w2.drew:=h;exact hc
 |1,_,⟨h,_⟩=>rw[h,(((Below.refl w2.heap.size w2).drew).alloc (Nat.le_refl _) _).cell (p:=⟨g,j,none⟩) hg];exact hc
theorem wp_slb{t:TypeId}{p:String}{af:Array Edge}{gd:Option (Nat×Bool)}{d s:Tmp}{n:UInt8}(hs:a.tmps[s]?=some (bv n))
  (h:K (a.put (some d) (.slice (some ⟨w.heap.size,0,none⟩) 1 1)) (w.alloc (.cells #[bv n] 5))):
  Oper.wp Try.prog ⟨some d,.buildSlice 24 1 #[(0,.tmp s)],t,p,af,gd⟩ a w K Q:=by
 exact x9jn
theorem wp_stb{t:TypeId}{p:String}{af:Array Edge}{gd:Option (Nat×Bool)}{x y:Tmp}{j:Nat}{B:OA}{u:Value}(hx:a.tmps[x]?=some (.pointer (some ⟨g,j,none⟩)))(hy:a.tmps[y]?=some (.slice B n c))
  (hc:w.cell? ⟨g,j,none⟩=some u) (hf:w.frozen? ⟨g,j,none⟩=false) (h:K a (w.setCell ⟨g,j,none⟩ (.slice B n c))):
  Oper.wp Try.prog ⟨none,.store 24 (.tmp x) (.tmp y),t,p,af,gd⟩ a w K Q:=by
 exact x7jp
theorem addByte_last(l:List Stp)(o:Stp)(x:UInt8)(h:¬0<o.len):addByte (l++[o]) x=l++[⟨o.at_,o.len,o.data++[x]⟩]:=by rw[addByte_snoc,if_neg h]
theorem addByte_new(l:List Stp)(o:Stp)(x:UInt8)(h:0<o.len):addByte (l++[o]) x=(l++[o])++[⟨0,0,[]++[x]⟩]:=by rw[addByte_snoc,if_pos h];simp
theorem drow_cell{l:List Stp}{o:Stp}{ds:List (Option Addr×Nat)}(h:DRow w base (l++[o]) ds (some ⟨g,0,none⟩) c):∃ds0 d,ds=ds0++[d]∧ds0.length=l.length∧
  w.cell? ⟨g,l.length*3,none⟩=some (iv o.at_)∧w.cell? ⟨g,l.length*3+1,none⟩=some (iv o.len)∧w.cell? ⟨g,l.length*3+2,none⟩=some (.slice d.1 o.data.length d.2)∧(∀j,w.frozen? ⟨g,j,none⟩=false)∧Own w base 5 1 d.1 o.data.length d.2 (o.data.map bv):=by
 have hne:ds≠[]:=by intro e;have:=h.len;rw[e]at this;simp at this
 obtain⟨ds1,d,rfl⟩:=snoc_of ds hne;have hl:ds1.length=l.length:=by have:=h.len;simpa using this
 have hd:(ds1++[d])[l.length]?=some d:=by rw[<-hl];simp
 have hc:∀j,j<3->w.cell? ⟨g,l.length*3+j,none⟩=(opCell o d)[j]?:=fun j hj=>by
  rw[h.row.cellAt _ (by simp;omega)];exact opCells_at _ _ h.len l.length j o d (by simp) hd hj
 exact⟨ds1,d,rfl,hl,hc 0 (by omega),hc 1 (by omega),hc 2 (by omega),fun j=>h.row.frozenAt j,h.data l.length o d (by simp) hd⟩
theorem diff3_calls(A B:OA)(c d:Nat)(old b:LU)(w:World)(ho:old.length<=64)(hb:b.length<=64)(hA:Bts w A old)(hB:Bts w B b):
  Calls Try.prog 68 #[.slice A old.length c,.slice B b.length d] w (OpRet3 w (diffed old b) 0):=by
 have h1:¬(64:Int)<(old.length:Int):=by omega
 have h2:¬(64:Int)<(b.length:Int):=by omega
 go_enter Try.func68,Try.ntmps68;go_wp2_with fail;go_loopw [6,7] (fun v i wr=>∃(q:Nat) (C:OA) (cc:Nat) (ds:List (Option Addr×Nat)),i=.int .i64 ((diffN old b q).1:Int)∧v=.slice C (diffN old b q).2.length cc∧DRow wr w.heap.size (diffN old b q).2 ds C cc∧Hid (Below w.heap.size w wr)) (fun _ i _=>b.length-(intOf i).toNat)
 case atStart=>exact⟨0,none,0,[],rfl,rfl,DRow.nil _ _,qH (Below.refl _ _)⟩
 case round=>
  obtain⟨q,C,cc,ds,rfl,rfl,hD,HB⟩:=hrel;have hinv:=diffN_inv old b q;have hle:=hinv.le;have hsz:=HB.out.size;by_cases hlt:(diffN old b q).1<b.length
  ·have hlen:(diffN old b q).2.length<=64:=by
    have:=diffN_len old b q;have:=diffN_mono old b q hlt;omega
   have hlong:=fun h4=>diffStep_long (old:=old) (b:=b) hlt h4;have hbyte:=fun h4=>diffStep_byte (old:=old) (b:=b) hlt h4;have hM:∀o∈(diffN old b q).2,o.data.length<=64:=fun o ho=>by
    have h1:=data_le old _ o ho;rw[hinv.gives]at h1;simp at h1;omega
   have HM:=qH hM;clear hM;have hst:diffN old b (q+1)=diffStep old b (diffN old b q):=rfl;have hin:=longest_in old b (diffN old b q).1;have hcl:=fun wq h1 h2=>longest_calls A B c d old b wq (diffN old b q).1 ho hb hle h1 h2;rw[<-hst]at hlong hbyte;clear hst hinv;generalize diffN old b q=p at *
   obtain⟨i,l⟩:=p;dsimp only at *
   generalize longest old b i=lg at *
   obtain⟨wh,m⟩:=lg;dsimp only at *
   have HL:=qH hlong;have HY:=qH hbyte;have HK:=qH hcl;have HD:=qH hD;have hA':=hA.stays HB.out;have hB':=hB.stays HB.out;obtain⟨hi1,hi2⟩:=hin;clear hlong hbyte hcl hD;obtain⟨bb,bo,rfl,hbw,hbx1⟩:=hB i hlt;have hbx:wr.cell? ⟨bb,bo+i,none⟩=some (bv b[i]):=(HB.out.cell (p:=⟨bb,bo+i,none⟩) hbw).trans hbx1;have hbs:bb<wr.heap.size:=Nat.lt_of_lt_of_le hbw hsz;go_wp2_with fail;refine(HK.out _ hA' hB').mono ?_;rintro e w1 ⟨rfl,nd,rfl⟩;clear hA' hB';by_cases h1:4<=m
   ·have h4':(4:Int)<=(m:Int):=by omega
    have HP:=qH (HL.out h1);have hb1:Below w.heap.size w (((wr.drewN nd)).alloc (.cells #[iv wh,iv m,.slice none 0 0] 125)):=(Below.drewN' HB.out nd).alloc hsz _;have hD1:=(HD.out.drewN nd).below ((Below.refl (wr.drewN nd).heap.size (wr.drewN nd)).alloc (Nat.le_refl _) (.cells #[iv wh,iv m,.slice none 0 0] 125));have HB2:=qH hb1;have HD2:=qH hD1;clear hb1 hD1;go_wp2_with (at_builtin;go_must (refine wpList_app _ rfl (.tmp 35) (.tmp 39) 35 rfl elOps w.heap.size C l.length cc (opCells l ds) rfl HD2.out.row (some ⟨wr.heap.size,0,none⟩) 1 1 [iv wh,iv m,.slice none 0 0] rfl (src_blk (blk_top (by simp))) rfl (by simp[Value.oneCell']) (by omega) (by simp;omega) ?_));intro C' cc' w' hown hgr hbel hor;have HD1:=qH (HD2.out.push hown hgr (by simpa using hor));have HB1:Hid (Below w.heap.size w w'):=qH (HB2.out.trans hbel);clear hown hgr hbel hor;go_wp2_with fail;go_roundw
    case rel=>exact⟨q+1,C',cc',_,by rw[HP.out];go_num,by rw[HP.out];simp,by rw[HP.out];exact HD1.out,HB1⟩
    case measure=>simp[intOf];omega
   have h4':¬(4:Int)<=(m:Int):=by omega
   have HP:=qH (HY.out h1);clear HL HY;have hbx':(wr.drewN nd).cell? ⟨bb,bo+i,none⟩=some (bv b[i]):=hbx;by_cases hl2:l=[]
   ·obtain⟨o,ho1⟩:∃o:Stp,o=⟨0,0,[]⟩:=⟨_,rfl⟩;have HQ:Hid (diffN old b (q+1)=(i+1,l++[⟨o.at_,o.len,o.data++[b.getD i 0]⟩])):=by
     rw[ho1];rw[hl2]at HP⊢;exact HP.out
    have hl1:(l.length:Int)-1<0:=by rw[hl2];simp
    have hod:o.data.length<=64:=by rw[ho1];simp
    clear HP hl2;have hb1:Below w.heap.size w (((wr.drewN nd)).alloc (.cells #[iv 0,iv 0,.slice none 0 0] 125)):=(Below.drewN' HB.out nd).alloc hsz _;have hD1:=(HD.out.drewN nd).below ((Below.refl (wr.drewN nd).heap.size (wr.drewN nd)).alloc (Nat.le_refl _) (.cells #[iv 0,iv 0,.slice none 0 0] 125));have HB1:=qH hb1;have HD1:=qH hD1;have hbb:((wr.drewN nd).alloc (.cells #[iv 0,iv 0,.slice none 0 0] 125)).cell? ⟨bb,bo+i,none⟩=some (bv b[i]):=by
     exact x73s
    have HBB:=qH hbb;clear hb1 hD1 hbb;go_wp2_with (at_builtin;go_must (refine wpList_app _ rfl (.tmp 57) (.tmp 59) 35 rfl elOps w.heap.size C l.length cc (opCells l ds) rfl HD1.out.row (some ⟨wr.heap.size,0,none⟩) 1 1 [iv 0,iv 0,.slice none 0 0] rfl (src_blk (blk_top (by simp))) rfl (by simp[Value.oneCell']) (by omega) (by simp;omega) ?_));intro C' cc1 w1 hown hgr hbel hor;obtain⟨g2,rfl,hg1,hg2⟩:=hown.form (by omega);have HDc:=qH (HD1.out.push hown hgr (by simpa using hor));have HBc:Hid (Below w.heap.size w w1):=qH (HB1.out.trans hbel);have hbx1:w1.cell? ⟨bb,bo+i,none⟩=some (bv b[i]):=by
     exact x5y2
    clear hown hgr hbel hor HBB hbx hbx' HD HD1 HB1 hl1;have hbx':=hbx1;clear hbx1;rw[<-ho1]at HDc;clear ho1;obtain⟨d2,hd2⟩:∃d0:Option Addr×Nat,(none,0)=d0:=⟨_,rfl⟩;rw[hd2]at HDc;clear hd2;obtain⟨ds1,d1,hds,hdl1,kc4,kc1,kc2,kfz,kdo⟩:=drow_cell HDc.out;obtain⟨rfl,hd1⟩:=List.append_inj' hds rfl;obtain rfl:d2=d1:=by simpa using hd1
    have kg:=(HDc.out.row.block g2 rfl);obtain⟨kg1,kg2⟩:=kg;have kne:d2.1.map (·.block)≠some g2:=fun e=>HDc.out.off l.length d2 (by rw[<-hdl1];simp) g2 e rfl;have KNE:=qH kne;have KDO:=qH kdo;have KFZ:=qH kfz;have hsz1:=HBc.out.size;clear hds hd1 kc4 kc1 kdo kne kfz hdl1;have hix:¬(l.length:Int)+1<=(l.length:Int):=by omega
    go_wp2_with fail;refine wp_region_mix (by kernel_rfl) (some 64::some 65::some 66::some 67::some 68::some 69::some 70::some 71::some 72::some 73::some 74::some 75::some 76::some 77::some 78::none::[]) (none::none::none::none::none::none::none::none::none::none::none::some 0::some 1::none::none::some 2::[]) (.slice (some ⟨g2,0,none⟩) (l.length+1) cc1::.int .i64 (l.length:Int)::.slice (some ⟨g2,0,none⟩) (l.length+1) cc1::.int .i64 (l.length:Int)::.pointer (some ⟨g2,l.length*3,none⟩)::.pointer (some ⟨g2,l.length*3+2,none⟩)::.slice d2.1 o.data.length d2.2::.slice (some ⟨bb,bo,none⟩) b.length d::.int .i64 (i:Int)::.pointer (some ⟨bb,bo+i,none⟩)::bv b[i]::undef::undef::.pointer (some ⟨g2,l.length*3,none⟩)::.pointer (some ⟨g2,l.length*3+2,none⟩)::undef::[]) 3 (diffJ w w1 l o ds d2 g2 cc1 b[i]) 82 rfl rfl (by decide+kernel) (by decide+kernel) (by decide+kernel) (by decide+kernel) rfl rfl (by decide+kernel) (by decide+kernel) (rfl) ?_ ?_
    ·refine⟨?_,?_,?_,?_,?_,?_,?_,?_,?_,?_,?_,?_,?_,?_,?_,?_,trivial⟩
     ·exact x49r
     ·exact x7ji
     ·exact x49r
     ·exact x7ji
     ·exact x97z
     ·exact x0s2
     ·exact x1by
     ·exact x98c
     ·exact x1jt
     ·exact x2wx
     ·exact x4cb
     ·exact x75y
     ·intro done cv a wq hw h hJ;have e1:=mx_new (i:=6) (t:=70) h (hw 6 (by decide)) rfl rfl rfl;have e75:=mx_cv (i:=11) (t:=75) h (hw 11 (by decide)) rfl rfl;obtain⟨rfl,hv⟩:=hJ;rw[hv]at e75;refine wp_app _ (.tmp 70) (.tmp 75) 24 rfl elBytes w.heap.size d2.1 o.data.length d2.2 (o.data.map bv) (ch_ev e1) (KDO.out.drew.alloc _) (some ⟨w1.heap.size,0,none⟩) 1 1 [bv b[i]] (ch_ev e75) (src_blk (blk_top (by simp))) rfl (by simp[Value.oneCell']) (by omega) (by simp;omega) ?_;exact x5i6
     ·exact x0p8
     ·exact x22o
     ·intro done cv a wq hw h hJ;have e1:=mx_new (i:=14) (t:=78) h (hw 14 (by decide)) rfl rfl rfl;have e76:=mx_cv (i:=12) (t:=76) h (hw 12 (by decide)) rfl rfl;obtain⟨B',c',hv,hown,hgr,hbel,hor⟩:=hJ;rw[hv]at e76;have hk1:wq.heap[g2]?=(w1.drew.alloc (.cells #[bv b[i]] 5)).heap[g2]?:=hgr.block g2 (by simp;omega) (fun e=>KNE.out e.symm);have hk2:(w1.drew.alloc (.cells #[bv b[i]] 5)).heap[g2]?=w1.heap[g2]?:=Below.heap_alloc w1.drew _ g2 kg2;have hkk:wq.heap[g2]?=w1.heap[g2]?:=hk1.trans hk2;have kc1:wq.cell? ⟨g2,l.length*3+2,none⟩=some (.slice d2.1 o.data.length d2.2):=(World.cell?_of_block hkk).trans kc2;exact x2v0
    exact x6w3
   have hlp:1<=l.length:=by
    rcases l with _|⟨x,l⟩
    ·exact absurd rfl hl2
    simp
   obtain⟨l1,o,hlo⟩:=snoc_of l hl2;have hD1:=HD.out;obtain⟨g,rfl,hg1,hg2⟩:=hD1.row.form hlp;have hD2:=hD1.drewN nd;rw[hlo]at hD2;obtain⟨ds2,d2,hdse,hdl,hc3,hc1,hc2,hfz,hdo⟩:=drow_cell hD2;have hll:l1.length=l.length-1:=by rw[hlo];simp
   rw[hll]at hc1;by_cases hol:0<o.len
   ·obtain⟨o1,ho1⟩:∃o:Stp,o=⟨0,0,[]⟩:=⟨_,rfl⟩;have HQ:Hid (diffN old b (q+1)=(i+1,l++[⟨o1.at_,o1.len,o1.data++[b.getD i 0]⟩])):=qH (HP.out.trans (by rw[ho1,hlo,addByte_new _ _ _ hol]));have hod:o1.data.length<=64:=by rw[ho1];simp
    have hl1:¬(l.length:Int)-1<0:=by omega
    clear HP hl2 hD1 hD2 hlo hdse hdl hc3 hc2 hfz hdo hll;have hb1:Below w.heap.size w (((wr.drewN nd)).alloc (.cells #[iv 0,iv 0,.slice none 0 0] 125)):=(Below.drewN' HB.out nd).alloc hsz _;have hD1:=(HD.out.drewN nd).below ((Below.refl (wr.drewN nd).heap.size (wr.drewN nd)).alloc (Nat.le_refl _) (.cells #[iv 0,iv 0,.slice none 0 0] 125));have HB1:=qH hb1;have HD1:=qH hD1;have hbb:((wr.drewN nd).alloc (.cells #[iv 0,iv 0,.slice none 0 0] 125)).cell? ⟨bb,bo+i,none⟩=some (bv b[i]):=by
     exact x73s
    have HBB:=qH hbb;clear hb1 hD1 hbb;go_wp2_with (at_builtin;go_must (refine wpList_app _ rfl (.tmp 57) (.tmp 59) 35 rfl elOps w.heap.size _ l.length cc (opCells l ds) rfl HD1.out.row (some ⟨wr.heap.size,0,none⟩) 1 1 [iv 0,iv 0,.slice none 0 0] rfl (src_blk (blk_top (by simp))) rfl (by simp[Value.oneCell']) (by omega) (by simp;omega) ?_));intro C' cc1 w1 hown hgr hbel hor;obtain⟨g2,rfl,hg1,hg2⟩:=hown.form (by omega);have HDc:=qH (HD1.out.push hown hgr (by simpa using hor));have HBc:Hid (Below w.heap.size w w1):=qH (HB1.out.trans hbel);have hbx1:w1.cell? ⟨bb,bo+i,none⟩=some (bv b[i]):=by
     exact x5y2
    clear hown hgr hbel hor HBB hbx hbx' HD HD1 HB1 hl1 hol hlp;have hbx':=hbx1;clear hbx1;rw[<-ho1]at HDc;clear ho1;obtain⟨d2,hd2⟩:∃d9:Option Addr×Nat,(none,0)=d9:=⟨_,rfl⟩;rw[hd2]at HDc;clear hd2;obtain⟨ds1,d1,hds,hdl1,kc4,kc1,kc2,kfz,kdo⟩:=drow_cell HDc.out;obtain⟨rfl,hd1⟩:=List.append_inj' hds rfl;obtain rfl:d2=d1:=by simpa using hd1
    have kg:=(HDc.out.row.block g2 rfl);obtain⟨kg1,kg2⟩:=kg;have kne:d2.1.map (·.block)≠some g2:=fun e=>HDc.out.off l.length d2 (by rw[<-hdl1];simp) g2 e rfl;have KNE:=qH kne;have KDO:=qH kdo;have KFZ:=qH kfz;have hsz1:=HBc.out.size;clear hds hd1 kc4 kc1 kdo kne kfz hdl1;have hix:¬(l.length:Int)+1<=(l.length:Int):=by omega
    go_wp2_with fail;refine wp_region_mix (by kernel_rfl) (some 64::some 65::some 66::some 67::some 68::some 69::some 70::some 71::some 72::some 73::some 74::some 75::some 76::some 77::some 78::none::[]) (none::none::none::none::none::none::none::none::none::none::none::some 0::some 1::none::none::some 2::[]) (.slice (some ⟨g2,0,none⟩) (l.length+1) cc1::.int .i64 (l.length:Int)::.slice (some ⟨g2,0,none⟩) (l.length+1) cc1::.int .i64 (l.length:Int)::.pointer (some ⟨g2,l.length*3,none⟩)::.pointer (some ⟨g2,l.length*3+2,none⟩)::.slice d2.1 o1.data.length d2.2::.slice (some ⟨bb,bo,none⟩) b.length d::.int .i64 (i:Int)::.pointer (some ⟨bb,bo+i,none⟩)::bv b[i]::undef::undef::.pointer (some ⟨g2,l.length*3,none⟩)::.pointer (some ⟨g2,l.length*3+2,none⟩)::undef::[]) 3 (diffJ w w1 l o1 ds d2 g2 cc1 b[i]) 82 rfl rfl (by decide+kernel) (by decide+kernel) (by decide+kernel) (by decide+kernel) rfl rfl (by decide+kernel) (by decide+kernel) (rfl) ?_ ?_
    ·refine⟨?_,?_,?_,?_,?_,?_,?_,?_,?_,?_,?_,?_,?_,?_,?_,?_,trivial⟩
     ·exact x49r
     ·exact x7ji
     ·exact x49r
     ·exact x7ji
     ·exact x97z
     ·exact x0s2
     ·exact x1by
     ·exact x98c
     ·exact x1jt
     ·exact x2wx
     ·exact x4cb
     ·exact x75y
     ·intro done cv a wq hw h hJ;have e1:=mx_new (i:=6) (t:=70) h (hw 6 (by decide)) rfl rfl rfl;have e75:=mx_cv (i:=11) (t:=75) h (hw 11 (by decide)) rfl rfl;obtain⟨rfl,hv⟩:=hJ;rw[hv]at e75;refine wp_app _ (.tmp 70) (.tmp 75) 24 rfl elBytes w.heap.size d2.1 o1.data.length d2.2 (o1.data.map bv) (ch_ev e1) (KDO.out.drew.alloc _) (some ⟨w1.heap.size,0,none⟩) 1 1 [bv b[i]] (ch_ev e75) (src_blk (blk_top (by simp))) rfl (by simp[Value.oneCell']) (by omega) (by simp;omega) ?_;exact x5i6
     ·exact x0p8
     ·exact x22o
     ·intro done cv a wq hw h hJ;have e1:=mx_new (i:=14) (t:=78) h (hw 14 (by decide)) rfl rfl rfl;have e76:=mx_cv (i:=12) (t:=76) h (hw 12 (by decide)) rfl rfl;obtain⟨B',c',hv,hown,hgr,hbel,hor⟩:=hJ;rw[hv]at e76;have hk1:wq.heap[g2]?=(w1.drew.alloc (.cells #[bv b[i]] 5)).heap[g2]?:=hgr.block g2 (by simp;omega) (fun e=>KNE.out e.symm);have hk2:(w1.drew.alloc (.cells #[bv b[i]] 5)).heap[g2]?=w1.heap[g2]?:=Below.heap_alloc w1.drew _ g2 kg2;have hkk:wq.heap[g2]?=w1.heap[g2]?:=hk1.trans hk2;have kc1:wq.cell? ⟨g2,l.length*3+2,none⟩=some (.slice d2.1 o1.data.length d2.2):=(World.cell?_of_block hkk).trans kc2;exact x2v0
    exact x6w3
   subst hlo;have hD3:=HD.out;rw[hdse]at hD3;clear HD;have HD:=qH hD3;have HQ:=qH (HP.out.trans (by rw[addByte_last _ _ _ hol]));have hod:=HM.out o (by simp);simp only[List.length_append,List.length_cons,List.length_nil]at hlen;clear HP hl2 hfz hc3 hc2 hdo hdl hD1 hD2 hD3 hll hlp;have hc1':(wr.drewN nd).cell? ⟨g,l1.length*3+1,none⟩=some (iv o.len):=by simpa using hc1
   clear hc1;have HDc:=qH (HD.out.drewN nd);have HBc:Hid (Below w.heap.size w (wr.drewN nd)):=qH (Below.drewN' HB.out nd);clear hbx HD;subst hdse;generalize wr.drewN nd=w2 at *
   obtain⟨ds1,d1,hds,hdl1,kc4,kc1,kc2,kfz,kdo⟩:=drow_cell HDc.out;obtain⟨rfl,hd1⟩:=List.append_inj' hds rfl;obtain rfl:d2=d1:=by simpa using hd1
   have kg:=(HDc.out.row.block g rfl);obtain⟨kg1,kg2⟩:=kg;have kne:d2.1.map (·.block)≠some g:=fun e=>HDc.out.off l1.length d2 (by rw[<-hdl1];simp) g e rfl;have KNE:=qH kne;have KDO:=qH kdo;have KFZ:=qH kfz;have hsz1:=HBc.out.size;clear hds hd1 kc4 kc1 kdo kne kfz hdl1;have hix:¬(l1.length:Int)+1<=(l1.length:Int):=by omega
   go_wp2_with fail;refine wp_region_mix (by kernel_rfl) (some 64::some 65::some 66::some 67::some 68::some 69::some 70::some 71::some 72::some 73::some 74::some 75::some 76::some 77::some 78::none::[]) (none::none::none::none::none::none::none::none::none::none::none::some 0::some 1::none::none::some 2::[]) (.slice (some ⟨g,0,none⟩) (l1.length+1) cc::.int .i64 (l1.length:Int)::.slice (some ⟨g,0,none⟩) (l1.length+1) cc::.int .i64 (l1.length:Int)::.pointer (some ⟨g,l1.length*3,none⟩)::.pointer (some ⟨g,l1.length*3+2,none⟩)::.slice d2.1 o.data.length d2.2::.slice (some ⟨bb,bo,none⟩) b.length d::.int .i64 (i:Int)::.pointer (some ⟨bb,bo+i,none⟩)::bv b[i]::undef::undef::.pointer (some ⟨g,l1.length*3,none⟩)::.pointer (some ⟨g,l1.length*3+2,none⟩)::undef::[]) 3 (diffJ w w2 l1 o ds2 d2 g cc b[i]) 82 rfl rfl (by decide+kernel) (by decide+kernel) (by decide+kernel) (by decide+kernel) rfl rfl (by decide+kernel) (by decide+kernel) (rfl) ?_ ?_
   ·refine⟨?_,?_,?_,?_,?_,?_,?_,?_,?_,?_,?_,?_,?_,?_,?_,?_,trivial⟩
    ·exact x5qp
    ·exact x9y2
    ·exact x5qp
    ·exact x9y2
    ·exact x97z
    ·exact x0s2
    ·exact x1by
    ·exact x98c
    ·exact x1jt
    ·exact x2wx
    ·intro done cv k a wq hw h hJ hn;have e1:=mx_new (i:=9) (t:=73) h (hw 9 (by decide)) rfl rfl rfl;have hk:=hn 11 _ 0 rfl rfl (by decide);obtain rfl:k=0:=by omega
     obtain rfl:wq=w2.drew:=hJ;go_simp
    ·intro done cv a wq hw h hJ;have e1:=mx_new (i:=10) (t:=74) h (hw 10 (by decide)) rfl rfl rfl;obtain rfl:wq=w2.drew:=hJ;exact wp_slb e1 ⟨_,rfl,rfl,by simp⟩
    ·intro done cv a wq hw h hJ;have e1:=mx_new (i:=6) (t:=70) h (hw 6 (by decide)) rfl rfl rfl;have e75:=mx_cv (i:=11) (t:=75) h (hw 11 (by decide)) rfl rfl;obtain⟨rfl,hv⟩:=hJ;rw[hv]at e75;refine wp_app _ (.tmp 70) (.tmp 75) 24 rfl elBytes w.heap.size d2.1 o.data.length d2.2 (o.data.map bv) (ch_ev e1) (KDO.out.drew.alloc _) (some ⟨w2.heap.size,0,none⟩) 1 1 [bv b[i]] (ch_ev e75) (src_blk (blk_top (by simp))) rfl (by simp[Value.oneCell']) (by omega) (by simp;omega) ?_;exact x5i6
    ·exact x0p8
    ·exact x22o
    ·intro done cv a wq hw h hJ;have e1:=mx_new (i:=14) (t:=78) h (hw 14 (by decide)) rfl rfl rfl;have e76:=mx_cv (i:=12) (t:=76) h (hw 12 (by decide)) rfl rfl;obtain⟨B',c',hv,hown,hgr,hbel,hor⟩:=hJ;rw[hv]at e76;have hk1:wq.heap[g]?=(w2.drew.alloc (.cells #[bv b[i]] 5)).heap[g]?:=hgr.block g (by simp;omega) (fun e=>KNE.out e.symm);have hk2:(w2.drew.alloc (.cells #[bv b[i]] 5)).heap[g]?=w2.heap[g]?:=Below.heap_alloc w2.drew _ g kg2;have hkk:wq.heap[g]?=w2.heap[g]?:=hk1.trans hk2;have kc1:wq.cell? ⟨g,l1.length*3+2,none⟩=some (.slice d2.1 o.data.length d2.2):=(World.cell?_of_block hkk).trans kc2;have kf1:wq.frozen? ⟨g,l1.length*3+2,none⟩=false:=by
      have:=KFZ.out (l1.length*3+2);unfold World.frozen? at this⊢;rw[hkk];exact this
     have HD1:=HDc.out.below (((Below.refl w2.heap.size w2).drew).alloc (Nat.le_refl _) (.cells #[bv b[i]] 5));have HDn:=HD1.add hown hgr hor;have HBn:Below w.heap.size w wq:=(HBc.out.drew.alloc hsz1 _).trans hbel;exact wp_stb e1 e76 kc1 kf1 ⟨undef,rfl,B',c',HDn,HBn.setCell kg1 _⟩
   rintro cv w1 ⟨B',c',HDn',HBn'⟩;have HDn:=qH HDn';have HBn:=qH HBn';clear HDn' HBn' kc2 kg1 kg2 hbx';simp only[mixAll,putAll_some,putAll_none,putAll_nil,List.getElem?_cons_zero,List.getElem?_cons_succ,Nat.zero_add,Nat.reduceAdd,List.setIfInBounds_toArray,List.set_cons_zero,List.set_cons_succ];go_wp2_with fail;go_roundw
   case rel=>
    have hget:b.getD i 0=b[i]:=by rw[List.getD_eq_getElem?_getD,List.getElem?_eq_getElem hlt];rfl
    refine⟨q+1,some ⟨g,0,none⟩,cc,ds2++[(B',c')],by rw[HQ.out];go_num,by rw[HQ.out];simp,?_,HBn⟩;rw[HQ.out,hget];exact HDn.out
   case measure=>simp[intOf];omega
  have hend:=diffN_end old b q hlt;have hsps:Fresh w.heap.size wr (fun v=>Sps v C (diffN old b q).2):=hD.fresh (fun o ho=>by
   have h1:=hinv.each o ho;have h2:=data_le old _ o ho;rw[hinv.gives]at h2;simp at h2;unfold I64;rcases h1 with ⟨e1,e2,_⟩|⟨e1,e2,e3,_⟩
   ·rw[e1,e2];exact⟨by omega,by omega,by omega⟩
   exact⟨by omega,by omega,by omega⟩)
  have HS:=qH hsps;have HE:=qH hend;have HO:=qH hD.row.le;have hlt':¬((diffN old b q).1:Int)<(b.length:Int):=by omega
  clear hsps hend hD hinv hle;go_wp2_with fail;refine bodyPost_ret (results_tmp2 rfl _ _ _) rfl ⟨C,cc,?_,?_,?_,HB.out⟩
  ·rw[<-HE.out];rfl
  ·rw[<-HE.out];exact HS.out
  rw[<-HE.out];exact HO.out
theorem x9sq(h:Y:=by
 rcases hor with h|h
 ·exact .inl h
 exact .inr (fun k hk=>by rw[h]at hk;injection hk with hk;simp at hk;omega)):Y:=h
def bxJ(w0:World)(base:Nat)(A:OA)(n c:Nat)(xs ns:List Value)(ib ia:Nat)(F:World->Prop):Nat->(Nat->Value)->World->Prop
 |0,_,w=>w=w0.drew
 |1,cv,w=>w=w0.drew.alloc (.cells ns.toArray 5)∧cv ib=.slice (some ⟨w0.heap.size,0,none⟩) ns.length ns.length
 |2,cv,w=>∃A' c',cv ia=.slice A' (n+ns.length) c'∧Own w base 5 1 A' (n+ns.length) c' (xs++ns)∧Below base w0 w∧(∀k,k<w0.heap.size->A.map (·.block)≠some k->w.heap[k]?=w0.heap[k]?)∧(A'.map (·.block)=A.map (·.block)∨∀k,A'.map (·.block)=some k->w0.heap.size<=k)
 |_,_,w=>F w
theorem bxJ_box{ns:List Value}{ib ia:Nat}{F:World->Prop}{T:TypeId}{v:Value}(hk:k<=1)(hJ:bxJ w0 base A n c xs ns ib ia F k cv w)(h:Box w0 g T v):Box w g T v:=by
 match k,hk,hJ with
 |0,_,hJ=>obtain rfl:w=w0.drew:=hJ;exact h
 |1,_,⟨hJ,_⟩=>subst hJ;exact h.drew.alloc _
theorem bxJ_app{A':OA}{c':Nat}{ns:List Value}{ib ia:Nat}{F:World->Prop}(hown:Own w' base 5 1 A' (n+ns.length) c' (xs++ns))(hgr:(w0.drew.alloc (.cells ns.toArray 5)).grownBy w' (A.map (·.block)))(hbel:Below base (w0.drew.alloc (.cells ns.toArray 5)) w')
  (hor:A'.map (·.block)=A.map (·.block)∨A'.map (·.block)=some (w0.drew.alloc (.cells ns.toArray 5)).heap.size) (hle:base<=w0.heap.size):
  bxJ w0 base A n c xs ns ib ia F 2 (fun j=>if j=ia then .slice A' (n+ns.length) c' else cv j) w':=by
 have hb1:Below base w0 (w0.drew.alloc (.cells ns.toArray 5)):=((Below.refl _ _).drew).alloc hle _;refine⟨A',c',by simp,hown,hb1.trans hbel,fun k hk hn=>(hgr.block k (by simp;omega) (fun e=>hn e.symm)).trans ((Below.heap_alloc w0.drew _ k hk)),?_⟩;exact x9sq
theorem alike_stop{b:LU}(hk:k<b.length):1<=alike (b.drop k)∧alike (b.drop k)<=127∧k+alike (b.drop k)<=b.length∧(∀m,m<alike (b.drop k)->b[k+m]?=some b[k])∧
  (alike (b.drop k)=127∨(alike (b.drop k)<127∧k+alike (b.drop k)=b.length)∨(alike (b.drop k)<127∧∃h:k+alike (b.drop k)<b.length,b[k+alike (b.drop k)]≠b[k])):=by
 have e:b.drop k=b[k]::b.drop (k+1):=List.drop_eq_getElem_cons hk;have hle:=alike_le (b.drop k);rw[List.length_drop]at hle;have ea:alike (b.drop k)=cntEq b[k] (b.drop (k+1)) 126+1:=by rw[e];rfl
 have hat:=cntEq_at b[k] (b.drop (k+1)) 126;have hst:=cntEq_stop b[k] (b.drop (k+1)) 126;refine⟨by omega,hle.1,by omega,fun m hm=>?_,?_⟩
 ·rcases m with _|m
  ·simp[hk]
  ·have:=(hat m (by omega)).2;rw[List.getElem?_drop]at this;rw[show k+(m+1)=k+1+m by omega];exact this
 by_cases h1:alike (b.drop k)=127
 ·exact .inl h1
 by_cases h1:k+alike (b.drop k)=b.length
 ·exact .inr (.inl ⟨by omega,h1⟩)
 refine .inr (.inr ⟨by omega,by omega,fun e2=>?_⟩);have:=hst (by omega);rw[List.getElem?_drop,show k+1+cntEq b[k] (b.drop (k+1)) 126=k+alike (b.drop k) by omega,List.getElem?_eq_getElem (by omega),e2]at this;exact this rfl
end Go.Proofs.Ytefkfglkpebbmad
