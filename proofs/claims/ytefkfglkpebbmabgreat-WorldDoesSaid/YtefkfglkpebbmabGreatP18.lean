/- Walks. No conditions. -/
import Derived.Test.YtefkfglkpebbmabGreatP40
set_option linter.all false
set_option maxRecDepth 100000
set_option maxHeartbeats 0
namespace Go.Proofs.YtefkfglkpebbmabGreat
open Go.RowKit
variable {Y:Prop}
theorem x4fe(h:Y:=by
 rcases x with ⟨a1,a2,a3⟩;rcases y with ⟨b1,b2,b3⟩;rw[Bool.eq_iff_iff];simp only[decide_eq_true_eq,Bool.and_eq_true,Wor.mk.injEq,and_assoc]):Y:=h
theorem x84l(h:Y:=by
 go_wp2_with fail;refine(K3.out _ (H.out.rel.stays HBA.out) (G.out.rel.stays HBA.out)).mono ?_;rintro e w1 ⟨rfl,hb⟩;have a2:=kp (w.heap.size) (worA x L) hb;have a1:=kp (w.heap.size+1) (worA y M) hb;have HB1:=bT HBA hb;clear hb
 cases b0
 ·go_wp2_with fail;go_ret;exact⟨ret_bool HR.out.symm,HB1.out⟩
 go_wp2_with fail;refine(K1.out _ (H.out.dev.stays HB1.out) (G.out.dev.stays HB1.out)).mono ?_;rintro e w2 ⟨rfl,hb⟩;have a2:=kr a2 hb;have a1:=kr a1 hb;have HB2:=bT HB1 hb;clear hb
 cases b1
 ·go_wp2_with fail;go_ret;exact⟨ret_bool HR.out.symm,HB2.out⟩
 go_wp2_with fail;refine(K2.out _ (H.out.net.stays HB2.out) (G.out.net.stays HB2.out)).mono ?_;rintro e w3 ⟨rfl,hb⟩;have HB3:=bT HB2 hb;clear hb
 cases b2
 ·go_wp2_with fail;go_ret;exact⟨ret_bool HR.out.symm,HB3.out⟩
 go_wp2_with fail;go_ret;exact⟨ret_bool HR.out.symm,HB3.out⟩):Y:=h
theorem Ims.at_{w:World}{A:OA}{l:List (List UInt8)}(h:Ims w A l){n:Nat}(hn:n<l.length):∃b o B m,A=some ⟨b,o,none⟩∧b<w.heap.size∧w.cell? ⟨b,o+n,none⟩=some (.slice B l[n].length m)∧l[n].length<=m∧Bts w B l[n]:=by
 obtain⟨b,o,rfl,hb,cs,h1,h2,B,m,h3,h4,h5,h6⟩:=h n hn;subst h3;refine⟨b,o,B,m,rfl,hb,?_,h4,h6⟩;have:=h2 0 (by simp);simpa using this
theorem eqImgB_one(A B:OA)(c d:Nat)(l m:LU)(w:World)(hc:l.length<=c)(hd:m.length<=d)(ha:Bts w A l)(hb:Bts w B m):Calls Tryz.prog 40 #[.slice A l.length c,.slice B m.length d] w (RetB w (.bool (decide (l=m)))):=(bytesEqual_calls A B c d l m w hc hd ha hb).mono (fun e w' h=>h.to)
theorem eqImgsB_calls(A B:OA)(c d:Nat)(l m:List (List UInt8))(w:World)(hl:l.length<=5864062014634)(hm:m.length<=5864062014634)(ha:Ims w A l)(hb:Ims w B m):
  Calls Tryz.prog 35 #[.slice A l.length c,.slice B m.length d,.func (Fn.func 40) #[] #[]] w (RetB w (.bool (decide (l=m)))):=by
 by_cases hne:l.length=m.length
 ·have hdl:((l.length:Int) !=(m.length:Int))=false:=by simp[hne]
  have HE:=qH hne;have hm1:l.length<=m.length:=by omega
  have hm2:m.length<=l.length:=by omega
  clear hne;go_enter Tryz.func35,Tryz.ntmps35;go_wp2_with fail;go_loopw [17] (fun i wr=>∃k:Nat,k<=l.length∧i=iv k∧Hid (l.take k=m.take k)∧Hid (Below w.heap.size w wr)) (fun i _=>l.length-(intOf i).toNat)
  case atStart=>exact⟨0,Nat.zero_le _,rfl,qH rfl,qH (Below.refl _ _)⟩
  case round=>
   obtain⟨k,hk,rfl,HT,HB⟩:=hrel;by_cases hlt:k<l.length
   ·obtain⟨b1,o1,B1,c1,rfl,hs1,p1,q1,p2⟩:=(ha.stays HB.out).at_ hlt;obtain⟨b2,o2,B2,c2,rfl,hs2,r1,q2,r2⟩:=(hb.stays HB.out).at_ (n:=k) (by omega);have q3:=ha.bound l[k] (List.getElem_mem hlt);have q4:=hb.bound (m[k]'(by omega)) (List.getElem_mem _);have hsz:=HB.out.size;have HX:Hid (∀e:l[k]=m[k]'(by omega),l.take (k+1)=m.take (k+1)):=qH fun e=>take_eq_succ HT.out hlt (by omega) e;have HN:Hid (∀e:l[k]≠m[k]'(by omega),l≠m):=qH fun e=>ne_of_at hlt (by omega) e;generalize l[k]=x at *
    generalize m[k]'(by omega)=y at *
    have hsb:=fun w2 (h:Below wr.heap.size wr w2)=>eqImgB_one B1 B2 c1 c2 x y w2 q1 q2 (p2.stays h) (r2.stays h);have HC:=qH hsb;clear hsb p2 r2 q3 q4;exact x6af
   exact x99v
 have hdl:((l.length:Int) !=(m.length:Int))=true:=by simp;omega
 have HX:=qH hne;clear hne;go_enter Tryz.func35,Tryz.ntmps35;exact x6vb
theorem eqImgW_one(A B:OA)(c d:Nat)(l m:LU)(w:World)(hl:l.length<=140737488351232)(hm:m.length<=140737488351232)(hc:l.length<=c)(hd:m.length<=d)(ha:Bts w A l)(hb:Bts w B m):Calls Tryz.prog 36 #[.slice A l.length c,.slice B m.length d] w (RetB w (.bool (decide (l=m)))):=by
 have HC:=qH (fun w h1 h2=>equalBytes_calls A B c d l m w hl hm h1 h2);have HA:=qH ha;have HB:=qH hb;obtain⟨r,hr⟩:=eX (decide (l=m));rw[hr]at HC⊢;clear ha hb hr;go_enter Tryz.func36,Tryz.ntmps36;go_wp2_with fail;refine(HC.out _ HA.out HB.out).mono ?_;rintro e w1 ⟨rfl,n,rfl⟩;go_wp2_with fail;go_ret;exact⟨rfl,Below.drewN' (Below.refl _ _) n⟩
theorem eqImgsW_calls(A B:OA)(c d:Nat)(l m:List (List UInt8))(w:World)(hl:l.length<=5864062014634)(hm:m.length<=5864062014634)(ha:Ims w A l)(hb:Ims w B m):
  Calls Tryz.prog 35 #[.slice A l.length c,.slice B m.length d,.func (Fn.func 36) #[] #[]] w (RetB w (.bool (decide (l=m)))):=by
 by_cases hne:l.length=m.length
 ·have hdl:((l.length:Int) !=(m.length:Int))=false:=by simp[hne]
  have HE:=qH hne;have hm1:l.length<=m.length:=by omega
  have hm2:m.length<=l.length:=by omega
  clear hne;go_enter Tryz.func35,Tryz.ntmps35;go_wp2_with fail;go_loopw [17] (fun i wr=>∃k:Nat,k<=l.length∧i=iv k∧Hid (l.take k=m.take k)∧Hid (Below w.heap.size w wr)) (fun i _=>l.length-(intOf i).toNat)
  case atStart=>exact⟨0,Nat.zero_le _,rfl,qH rfl,qH (Below.refl _ _)⟩
  case round=>
   obtain⟨k,hk,rfl,HT,HB⟩:=hrel;by_cases hlt:k<l.length
   ·obtain⟨b1,o1,B1,c1,rfl,hs1,p1,q1,p2⟩:=(ha.stays HB.out).at_ hlt;obtain⟨b2,o2,B2,c2,rfl,hs2,r1,q2,r2⟩:=(hb.stays HB.out).at_ (n:=k) (by omega);have q3:=ha.bound l[k] (List.getElem_mem hlt);have q4:=hb.bound (m[k]'(by omega)) (List.getElem_mem _);have hsz:=HB.out.size;have HX:Hid (∀e:l[k]=m[k]'(by omega),l.take (k+1)=m.take (k+1)):=qH fun e=>take_eq_succ HT.out hlt (by omega) e;have HN:Hid (∀e:l[k]≠m[k]'(by omega),l≠m):=qH fun e=>ne_of_at hlt (by omega) e;generalize l[k]=x at *
    generalize m[k]'(by omega)=y at *
    have hsb:=fun w2 (h:Below wr.heap.size wr w2)=>eqImgW_one B1 B2 c1 c2 x y w2 q3 q4 q1 q2 (p2.stays h) (r2.stays h);have HC:=qH hsb;clear hsb p2 r2 q3 q4;exact x6af
   exact x99v
 have hdl:((l.length:Int) !=(m.length:Int))=true:=by simp;omega
 have HX:=qH hne;clear hne;go_enter Tryz.func35,Tryz.ntmps35;exact x6vb
theorem refChkSame1_calls(x y:Chk)(B D:OA)(c d:Nat)(w:World)(hx:ChkIn w x B c)(hy:ChkIn w y D d):
  Calls Tryz.prog 79 #[.agg (chkA x.from_ x.to_ x.n x.of_ B x.data.length c),.agg (chkA y.from_ y.to_ y.n y.of_ D y.data.length d)] w (RetB w (.bool (decide (x=y)))):=by
 have bl:=((bW w).alloc nl (.cells (chkA x.from_ x.to_ x.n x.of_ B x.data.length c) 61)).alloc (by simp) (.cells (chkA y.from_ y.to_ y.n y.of_ D y.data.length d) 61);have HB:=qH bl;have HC:=qH (bytesEqual_calls B D c d x.data y.data _ hx.cap hy.cap (hx.data.stays bl) (hy.data.stays bl));clear hx hy bl;obtain⟨r,hr⟩:=eX (decide (x=y));rw[hr];have HR:=qH hr;clear hr;obtain⟨f,t,n,o,l⟩:=x;obtain⟨f1,t1,n1,o1,l1⟩:=y;dsimp only at *
 by_cases h4:¬f=f1
 ·have hz:false=r:=(decide_eq_false (fun e=>by injection e;contradiction)).symm.trans HR.out;have HZ:=qH hz;have q:(f==f1)=false:=by simp[h4]
  clear HC hz h4;go_enter Tryz.func79,Tryz.ntmps79;exact x4jq
 have h4:=Decidable.not_not.1 h4;subst h4;have q4:(f==f)=true:=by simp
 by_cases h1:¬t=t1
 ·have hz:false=r:=(decide_eq_false (fun e=>by injection e;contradiction)).symm.trans HR.out;have HZ:=qH hz;have q:(t==t1)=false:=by simp[h1]
  clear HC hz h1;go_enter Tryz.func79,Tryz.ntmps79;exact x4jq
 have h1:=Decidable.not_not.1 h1;subst h1;have q1:(t==t)=true:=by simp
 by_cases h2:¬n=n1
 ·have hz:false=r:=(decide_eq_false (fun e=>by injection e;contradiction)).symm.trans HR.out;have HZ:=qH hz;have q:(n==n1)=false:=by simp[h2]
  clear HC hz h2;go_enter Tryz.func79,Tryz.ntmps79;exact x4jq
 have h2:=Decidable.not_not.1 h2;subst h2;have q2:(n==n)=true:=by simp
 by_cases h3:¬o=o1
 ·have hz:false=r:=(decide_eq_false (fun e=>by injection e;contradiction)).symm.trans HR.out;have HZ:=qH hz;have q:(o==o1)=false:=by simp[h3]
  clear HC hz h3;go_enter Tryz.func79,Tryz.ntmps79;exact x4jq
 have h3:=Decidable.not_not.1 h3;subst h3;have q3:(o==o)=true:=by simp
 have hz:decide (l=l1)=r:=by
  rw[<-HR.out];by_cases e:l=l1
  ·subst e;simp
  rw[decide_eq_false e,decide_eq_false (fun h=>e (by injection h))]
 have HZ:=qH hz;clear hz;go_enter Tryz.func79,Tryz.ntmps79;go_wp2_with fail;refine HC.out.mono ?_;rintro e w1 ⟨rfl,rfl⟩;exact x4jq
theorem refChkSame_eqf(A B:OA)(c d:Nat)(l m:List Chk)(w:World)(hl:l.length<=2513169434843)(hm:m.length<=2513169434843)(ha:Chs w A l)(hb:Chs w B m):
  Calls Tryz.prog 76 #[.slice A l.length c,.slice B m.length d,.func (Fn.func 79) #[] #[]] w (RetB w (.bool (decide (l=m)))):=by
 by_cases hne:l.length=m.length
 ·have hdl:((l.length:Int) !=(m.length:Int))=false:=by simp[hne]
  have HE:=qH hne;have hm1:l.length<=m.length:=by omega
  have hm2:m.length<=l.length:=by omega
  clear hne;go_enter Tryz.func76,Tryz.ntmps76;go_wp2_with fail;go_loopw [17] (fun i wr=>∃k:Nat,k<=l.length∧i=iv k∧Hid (l.take k=m.take k)∧Hid (Below w.heap.size w wr)) (fun i _=>l.length-(intOf i).toNat)
  case atStart=>exact⟨0,Nat.zero_le _,rfl,qH rfl,qH (Below.refl _ _)⟩
  case round=>
   obtain⟨k,hk,rfl,HT,HB⟩:=hrel;by_cases hlt:k<l.length
   ·obtain⟨b1,o1,B1,c1,rfl,hs1,p6,p1,p2,p3,p4,p5⟩:=(ha.stays HB.out).at_ hlt;obtain⟨b2,o2,B2,c2,rfl,hs2,r6,r1,r2,r3,r4,r5⟩:=(hb.stays HB.out).at_ (i:=k) (by omega);have hsz:=HB.out.size;have HX:Hid (∀e:l[k]=m[k]'(by omega),l.take (k+1)=m.take (k+1)):=qH fun e=>take_eq_succ HT.out hlt (by omega) e;have HN:Hid (∀e:l[k]≠m[k]'(by omega),l≠m):=qH fun e=>ne_of_at hlt (by omega) e;generalize l[k]=x at *
    generalize m[k]'(by omega)=y at *
    have hsb:=fun w2 (h:Below wr.heap.size wr w2)=>refChkSame1_calls x y B1 B2 c1 c2 w2 (p5.stays h) (r5.stays h);have HC:=qH hsb;clear hsb p5 r5;exact x6af
   exact x99v
 have hdl:((l.length:Int) !=(m.length:Int))=true:=by simp;omega
 have HX:=qH hne;clear hne;go_enter Tryz.func76,Tryz.ntmps76;exact x6vb
theorem refChkSame_calls(A B:OA)(c d:Nat)(l m:List Chk)(w:World)(hl:l.length<=2513169434843)(hm:m.length<=2513169434843)(ha:Chs w A l)(hb:Chs w B m):
  Calls Tryz.prog 42 #[.slice A l.length c,.slice B m.length d] w (RetB w (.bool (decide (l=m)))):=by
 go_enter Tryz.func42,Tryz.ntmps42;go_wp2_with fail;refine(refChkSame_eqf A B c d l m w hl hm ha hb).mono ?_;exact x3rf
theorem refDevSame_dec(d g:Dev):decide (d=g)=(decide (d.s0=g.s0)&&decide (d.s1=g.s1)&&(decide (d.c0=g.c0)&&decide (d.c1=g.c1))&&(d.up==g.up)&&(d.running==g.running)&&decide (d.got=g.got)&&(d.busy==g.busy)&&(d.done==g.done)&&decide (d.job=g.job)):=by
 exact x1la
theorem refDevSame_calls(d g:Dev)(L M:DLoc)(w:World)(h:DevIn w d L)(h':DevIn w g M):Calls Tryz.prog 41 #[.agg (devA d L),.agg (devA g M)] w (RetB w (.bool (decide (d=g)))):=by
 have H:=qH h;have H':=qH h';have HBA:Hid (Below w.heap.size w ((w.alloc (.cells (devA d L) 38)).alloc (.cells (devA g M) 38))):=qH ((bL _).alloc (by simp) _);have K4:Hid (∀w,Bts w L.a0 d.s0->Bts w M.a0 g.s0->Calls Tryz.prog 40 #[.slice L.a0 d.s0.length L.c0,.slice M.a0 g.s0.length M.c0] w (RetB w (.bool (decide (d.s0=g.s0))))):=qH (fun w ha hb=>(bytesEqual_calls L.a0 M.a0 L.c0 M.c0 d.s0 g.s0 w h.k0 h'.k0 ha hb).mono (fun _ _ h=>h.to));have K1:Hid (∀w,Bts w L.a1 d.s1->Bts w M.a1 g.s1->Calls Tryz.prog 40 #[.slice L.a1 d.s1.length L.c1,.slice M.a1 g.s1.length M.c1] w (RetB w (.bool (decide (d.s1=g.s1))))):=qH (fun w ha hb=>(bytesEqual_calls L.a1 M.a1 L.c1 M.c1 d.s1 g.s1 w h.k1 h'.k1 ha hb).mono (fun _ _ h=>h.to));have K2:=qH (fun w ha hb=>refChkSame_calls L.ag M.ag L.cg M.cg d.got g.got w h.lg h'.lg ha hb);have K3:=qH (fun w ha hb=>refPatSameA_calls L.aj M.aj L.cj M.cj d.job.from_ d.job.to_ d.job.old d.job.new_ d.job.size g.job.from_ g.job.to_ g.job.old g.job.new_ g.job.size d.job.ops g.job.ops w h.job.len h'.job.len ha hb);have HR:=qH (refDevSame_dec d g);obtain⟨bj,hbj⟩:∃b,decide (d.job=g.job)=b:=⟨_,rfl⟩;have hbj1:decide ((⟨d.job.from_,d.job.to_,d.job.old,d.job.new_,d.job.size,d.job.ops⟩:Pat)=⟨g.job.from_,g.job.to_,g.job.old,g.job.new_,g.job.size,g.job.ops⟩)=bj:=hbj;rw[hbj]at HR;rw[hbj1]at K3;clear hbj hbj1;generalize decide (d=g)=r at *
 generalize decide (d.s0=g.s0)=b0 at *
 generalize decide (d.s1=g.s1)=b1 at *
 generalize decide (d.got=g.got)=bg at *
 clear h h';go_enter Tryz.func41,Tryz.ntmps41;go_wp2_with fail;refine(K4.out _ (H.out.b0.stays HBA.out) (H'.out.b0.stays HBA.out)).mono ?_;rintro e w1 ⟨rfl,hb⟩;have a2:=kp (w.heap.size) (devA d L) hb;have a1:=kp (w.heap.size+1) (devA g M) hb;have HB1:=bT HBA hb;clear hb
 cases b0
 ·go_wp2_with fail;go_ret;exact⟨ret_bool HR.out.symm,HB1.out⟩
 go_wp2_with fail;refine(K1.out _ (H.out.b1.stays HB1.out) (H'.out.b1.stays HB1.out)).mono ?_;rintro e w2 ⟨rfl,hb⟩;have a2:=kr a2 hb;have a1:=kr a1 hb;have HB2:=bT HB1 hb;clear hb
 cases b1
 ·exact x7sd
 cases qc:(decide (d.c0=g.c0)&&decide (d.c1=g.c1))
 ·rw[qc]at HR;exact x7sd
 rw[qc]at HR
 cases qup:(d.up==g.up)
 ·rw[qup]at HR;exact x7sd
 rw[qup]at HR
 cases qrun:(d.running==g.running)
 ·rw[qrun]at HR;exact x7sd
 rw[qrun]at HR;go_wp2_with fail;refine(K2.out _ (H.out.got.stays HB2.out) (H'.out.got.stays HB2.out)).mono ?_;rintro e w3 ⟨rfl,hb⟩;have a2:=kr a2 hb;have a1:=kr a1 hb;have HB3:=bT HB2 hb;clear hb
 cases bg
 ·exact x7hq
 cases qbusy:(d.busy==g.busy)
 ·rw[qbusy]at HR;exact x7hq
 rw[qbusy]at HR
 cases qdone:(d.done==g.done)
 ·rw[qdone]at HR;exact x7hq
 rw[qdone]at HR;go_wp2_with fail;refine(K3.out _ (H.out.job.ops.stays HB3.out) (H'.out.job.ops.stays HB3.out)).mono ?_;rintro e w4 ⟨rfl,hb⟩;have a2:=kr a2 hb;have a1:=kr a1 hb;have HB4:=bT HB3 hb;clear hb;exact x7ax
theorem refWorSame_dec(x y:Wor):decide (x=y)=(decide (x.rel=y.rel)&&decide (x.d=y.d)&&decide (x.net=y.net)):=by
 exact x4fe
theorem refWorSame_calls(x y:Wor)(L M:WLoc)(w:World)(h:WorIn w x L)(h2:WorIn w y M):Calls Tryz.prog 12 #[.agg (worA x L),.agg (worA y M)] w (RetB w (.bool (decide (x=y)))):=by
 have H:=qH h;have G:=qH h2;have HBA:Hid (Below w.heap.size w ((w.alloc (.cells (worA x L) 40)).alloc (.cells (worA y M) 40))):=qH ((bL _).alloc (by simp) _);have K3:=qH (fun w ha hb=>eqImgsB_calls L.ar M.ar L.cr M.cr x.rel y.rel w h.lr h2.lr ha hb);have K1:=qH (fun w ha hb=>refDevSame_calls x.d y.d L.l M.l w ha hb);have K2:=qH (fun w ha hb=>refChkSame_calls L.an M.an L.cn M.cn x.net y.net w h.ln h2.ln ha hb);have HR:=qH (refWorSame_dec x y);generalize decide (x=y)=r at *
 generalize decide (x.rel=y.rel)=b0 at *
 generalize decide (x.d=y.d)=b1 at *
 generalize decide (x.net=y.net)=b2 at *
 clear h h2;go_enter Tryz.func12,Tryz.ntmps12;exact x84l
theorem x014(h:Y:=by
 have HB1:=bT HB hb;clear hb;go_wp2_with fail;go_ret;exact⟨ret_bool HZ.out,HB1.out⟩):Y:=h
theorem chk_eq_iff{x y:Chk}:x=y↔kin x y∧x.n=y.n∧x.data=y.data:=by
 obtain⟨f,t,n,o,l⟩:=x;obtain⟨f1,t1,n1,o1,l1⟩:=y;unfold kin;simp only[Chk.mk.injEq];constructor
 ·rintro⟨h1,h2,h3,h4,h5⟩;exact⟨⟨h1,h2,h4⟩,h3,h5⟩
 rintro⟨⟨h1,h2,h4⟩,h3,h5⟩;exact⟨h1,h2,h3,h4,h5⟩
theorem kinX_calls(A B:OA)(c d:Nat)(x y:Chk)(w:World):
  Calls Tryz.prog 78 #[.agg (chkA x.from_ x.to_ x.n x.of_ A x.data.length c),.agg (chkA y.from_ y.to_ y.n y.of_ B y.data.length d)] w (RetB w (.bool (decide (kin x y)))):=
 kin_calls A B c d x.data.length y.data.length x.from_ x.to_ x.n x.of_ y.from_ y.to_ y.n y.of_ x.data y.data w
theorem chkSame1_calls(x y:Chk)(B D:OA)(c d:Nat)(w:World)(hx:ChkIn w x B c)(hy:ChkIn w y D d):
  Calls Tryz.prog 77 #[.agg (chkA x.from_ x.to_ x.n x.of_ B x.data.length c),.agg (chkA y.from_ y.to_ y.n y.of_ D y.data.length d)] w (RetB w (.bool (decide (x=y)))):=by
 have bl:=((bW w).alloc nl (.cells (chkA x.from_ x.to_ x.n x.of_ B x.data.length c) 61)).alloc (by simp) (.cells (chkA y.from_ y.to_ y.n y.of_ D y.data.length d) 61);have hl:=hx.len;have hl1:=hy.len;have HB:=qH bl;have HK:=qH (fun w=>kinX_calls B D c d x y w);obtain⟨r,hr⟩:=eX (decide (x=y));rw[hr];have hr1:decide (kin x y∧x.n=y.n∧x.data=y.data)=r:=by
  rw[<-hr];exact decide_eq_decide.2 chk_eq_iff.symm
 have HR:=qH hr1;have HC:=qH (fun w h1 h2=>equalBytes_calls B D c d x.data y.data w hl hl1 h1 h2);have HX:=qH hx;have HY:=qH hy;clear hx hy bl hr hr1;by_cases hk:kin x y
 ·have dk:decide (kin x y)=true:=decide_eq_true hk;have HKK:=qH hk;clear hk;by_cases hn:x.n=y.n
  ·have hz:decide (x.data=y.data)=r:=by
    rw[<-HR.out];by_cases e:x.data=y.data
    ·rw[decide_eq_true e,decide_eq_true ⟨HKK.out,hn,e⟩]
    rw[decide_eq_false e,decide_eq_false (fun h=>e h.2.2)]
   have HZ:=qH hz;have q:(x.n==y.n)=true:=by simp[hn]
   clear hn hz;go_enter Tryz.func77,Tryz.ntmps77;go_wp2_with fail;refine(HK.out _).mono ?_;rintro e w1 ⟨rfl,hb⟩;have a2:=kp (w.heap.size) (chkA x.from_ x.to_ x.n x.of_ B x.data.length c) hb;have a1:=kp (w.heap.size+1) (chkA y.from_ y.to_ y.n y.of_ D y.data.length d) hb;have HB1:=bT HB hb;clear hb;go_wp2_with fail;refine(HC.out _ (HX.out.data.stays HB1.out) (HY.out.data.stays HB1.out)).mono ?_;rintro e w2 ⟨rfl,n,rfl⟩;go_wp2_with fail;go_ret;exact⟨ret_bool HZ.out,Below.drewN' HB1.out n⟩
  have hz:false=r:=by rw[<-HR.out,decide_eq_false (fun h=>hn h.2.1)]
  have HZ:=qH hz;have q:(x.n==y.n)=false:=by simp[hn]
  clear hn hz;go_enter Tryz.func77,Tryz.ntmps77;go_wp2_with fail;refine(HK.out _).mono ?_;rintro e w1 ⟨rfl,hb⟩;have a2:=kp (w.heap.size) (chkA x.from_ x.to_ x.n x.of_ B x.data.length c) hb;have a1:=kp (w.heap.size+1) (chkA y.from_ y.to_ y.n y.of_ D y.data.length d) hb;exact x014
 have dk:decide (kin x y)=false:=decide_eq_false hk;have hz:false=r:=by rw[<-HR.out,decide_eq_false (fun h=>hk h.1)]
 have HZ:=qH hz;clear hk hz;go_enter Tryz.func77,Tryz.ntmps77;go_wp2_with fail;refine(HK.out _).mono ?_;rintro e w1 ⟨rfl,hb⟩;exact x014
theorem chkSame_eqf(A B:OA)(c d:Nat)(l m:List Chk)(w:World)(hl:l.length<=2513169434843)(hm:m.length<=2513169434843)(ha:Chs w A l)(hb:Chs w B m):
  Calls Tryz.prog 76 #[.slice A l.length c,.slice B m.length d,.func (Fn.func 77) #[] #[]] w (RetB w (.bool (decide (l=m)))):=by
 by_cases hne:l.length=m.length
 ·have hdl:((l.length:Int) !=(m.length:Int))=false:=by simp[hne]
  have HE:=qH hne;have hm1:l.length<=m.length:=by omega
  have hm2:m.length<=l.length:=by omega
  clear hne;go_enter Tryz.func76,Tryz.ntmps76;go_wp2_with fail;go_loopw [17] (fun i wr=>∃k:Nat,k<=l.length∧i=iv k∧Hid (l.take k=m.take k)∧Hid (Below w.heap.size w wr)) (fun i _=>l.length-(intOf i).toNat)
  case atStart=>exact⟨0,Nat.zero_le _,rfl,qH rfl,qH (Below.refl _ _)⟩
  case round=>
   obtain⟨k,hk,rfl,HT,HB⟩:=hrel;by_cases hlt:k<l.length
   ·obtain⟨b1,o1,B1,c1,rfl,hs1,p6,p1,p2,p3,p4,p5⟩:=(ha.stays HB.out).at_ hlt;obtain⟨b2,o2,B2,c2,rfl,hs2,r6,r1,r2,r3,r4,r5⟩:=(hb.stays HB.out).at_ (i:=k) (by omega);have hsz:=HB.out.size;have HX:Hid (∀e:l[k]=m[k]'(by omega),l.take (k+1)=m.take (k+1)):=qH fun e=>take_eq_succ HT.out hlt (by omega) e;have HN:Hid (∀e:l[k]≠m[k]'(by omega),l≠m):=qH fun e=>ne_of_at hlt (by omega) e;generalize l[k]=x at *
    generalize m[k]'(by omega)=y at *
    have hsb:=fun w2 (h:Below wr.heap.size wr w2)=>chkSame1_calls x y B1 B2 c1 c2 w2 (p5.stays h) (r5.stays h);have HC:=qH hsb;clear hsb p5 r5;exact x6af
   exact x99v
 have hdl:((l.length:Int) !=(m.length:Int))=true:=by simp;omega
 have HX:=qH hne;clear hne;go_enter Tryz.func76,Tryz.ntmps76;exact x6vb
theorem chkSame_calls(A B:OA)(c d:Nat)(l m:List Chk)(w:World)(hl:l.length<=2513169434843)(hm:m.length<=2513169434843)(ha:Chs w A l)(hb:Chs w B m):
  Calls Tryz.prog 39 #[.slice A l.length c,.slice B m.length d] w (RetB w (.bool (decide (l=m)))):=by
 go_enter Tryz.func39,Tryz.ntmps39;go_wp2_with fail;refine(chkSame_eqf A B c d l m w hl hm ha hb).mono ?_;exact x3rf
theorem devSame_dec(d g:Dev):decide (d=g)=(decide (d.s0=g.s0)&&decide (d.s1=g.s1)&&(decide (d.c0=g.c0)&&decide (d.c1=g.c1))&&(d.up==g.up)&&(d.running==g.running)&&decide (d.got=g.got)&&(d.busy==g.busy)&&decide (d.job=g.job)&&(d.done==g.done)):=by
 exact x1la
theorem devSame_calls(d g:Dev)(L M:DLoc)(w:World)(h:DevIn w d L)(h':DevIn w g M):Calls Tryz.prog 38 #[.agg (devA d L),.agg (devA g M)] w (RetB w (.bool (decide (d=g)))):=by
 have H:=qH h;have H':=qH h';have HBA:Hid (Below w.heap.size w ((w.alloc (.cells (devA d L) 38)).alloc (.cells (devA g M) 38))):=qH ((bL _).alloc (by simp) _);have K4:Hid (∀w,Bts w L.a0 d.s0->Bts w M.a0 g.s0->Calls Tryz.prog 37 #[.slice L.a0 d.s0.length L.c0,.slice M.a0 g.s0.length M.c0] w (RetB w (.bool (decide (d.s0=g.s0))))):=qH (fun w ha hb=>(equalBytes_calls L.a0 M.a0 L.c0 M.c0 d.s0 g.s0 w h.l0 h'.l0 ha hb).mono (fun _ _ ⟨h1,n,h2⟩=>⟨h1,by rw[<-h2];exact below_drewN _ n⟩));have K1:Hid (∀w,Bts w L.a1 d.s1->Bts w M.a1 g.s1->Calls Tryz.prog 37 #[.slice L.a1 d.s1.length L.c1,.slice M.a1 g.s1.length M.c1] w (RetB w (.bool (decide (d.s1=g.s1))))):=qH (fun w ha hb=>(equalBytes_calls L.a1 M.a1 L.c1 M.c1 d.s1 g.s1 w h.l1 h'.l1 ha hb).mono (fun _ _ ⟨h1,n,h2⟩=>⟨h1,by rw[<-h2];exact below_drewN _ n⟩));have K2:=qH (fun w ha hb=>chkSame_calls L.ag M.ag L.cg M.cg d.got g.got w h.lg h'.lg ha hb);have K3:=qH (fun w ha hb=>patSameA_calls L.aj M.aj L.cj M.cj d.job.from_ d.job.to_ d.job.old d.job.new_ d.job.size g.job.from_ g.job.to_ g.job.old g.job.new_ g.job.size d.job.ops g.job.ops w h.job.len h'.job.len ha hb);have HR:=qH (devSame_dec d g);obtain⟨bj,hbj⟩:∃b,decide (d.job=g.job)=b:=⟨_,rfl⟩;have hbj1:decide ((⟨d.job.from_,d.job.to_,d.job.old,d.job.new_,d.job.size,d.job.ops⟩:Pat)=⟨g.job.from_,g.job.to_,g.job.old,g.job.new_,g.job.size,g.job.ops⟩)=bj:=hbj;rw[hbj]at HR;rw[hbj1]at K3;clear hbj hbj1;generalize decide (d=g)=r at *
 generalize decide (d.s0=g.s0)=b0 at *
 generalize decide (d.s1=g.s1)=b1 at *
 generalize decide (d.got=g.got)=bg at *
 clear h h';go_enter Tryz.func38,Tryz.ntmps38;go_wp2_with fail;refine(K4.out _ (H.out.b0.stays HBA.out) (H'.out.b0.stays HBA.out)).mono ?_;rintro e w1 ⟨rfl,hb⟩;have a2:=kp (w.heap.size) (devA d L) hb;have a1:=kp (w.heap.size+1) (devA g M) hb;have HB1:=bT HBA hb;clear hb
 cases b0
 ·go_wp2_with fail;go_ret;exact⟨ret_bool HR.out.symm,HB1.out⟩
 go_wp2_with fail;refine(K1.out _ (H.out.b1.stays HB1.out) (H'.out.b1.stays HB1.out)).mono ?_;rintro e w2 ⟨rfl,hb⟩;have a2:=kr a2 hb;have a1:=kr a1 hb;have HB2:=bT HB1 hb;clear hb
 cases b1
 ·exact x7sd
 cases qc:(decide (d.c0=g.c0)&&decide (d.c1=g.c1))
 ·rw[qc]at HR;exact x7sd
 rw[qc]at HR
 cases qup:(d.up==g.up)
 ·rw[qup]at HR;exact x7sd
 rw[qup]at HR
 cases qrun:(d.running==g.running)
 ·rw[qrun]at HR;exact x7sd
 rw[qrun]at HR;go_wp2_with fail;refine(K2.out _ (H.out.got.stays HB2.out) (H'.out.got.stays HB2.out)).mono ?_;rintro e w3 ⟨rfl,hb⟩;have a2:=kr a2 hb;have a1:=kr a1 hb;have HB3:=bT HB2 hb;clear hb
 cases bg
 ·exact x7hq
 cases qbusy:(d.busy==g.busy)
 ·rw[qbusy]at HR;exact x7hq
 rw[qbusy]at HR;go_wp2_with fail;refine(K3.out _ (H.out.job.ops.stays HB3.out) (H'.out.job.ops.stays HB3.out)).mono ?_;rintro e w4 ⟨rfl,hb⟩;have a2:=kr a2 hb;have a1:=kr a1 hb;have HB4:=bT HB3 hb;clear hb
 cases bj
 ·exact x7ax
 exact x7ax
theorem worSame_dec(x y:Wor):decide (x=y)=(decide (x.rel=y.rel)&&decide (x.d=y.d)&&decide (x.net=y.net)):=by
 exact x4fe
theorem worSame_calls(x y:Wor)(L M:WLoc)(w:World)(h:WorIn w x L)(h2:WorIn w y M):Calls Tryz.prog 11 #[.agg (worA x L),.agg (worA y M)] w (RetB w (.bool (decide (x=y)))):=by
 have H:=qH h;have G:=qH h2;have HBA:Hid (Below w.heap.size w ((w.alloc (.cells (worA x L) 40)).alloc (.cells (worA y M) 40))):=qH ((bL _).alloc (by simp) _);have K3:=qH (fun w ha hb=>eqImgsW_calls L.ar M.ar L.cr M.cr x.rel y.rel w h.lr h2.lr ha hb);have K1:=qH (fun w ha hb=>devSame_calls x.d y.d L.l M.l w ha hb);have K2:=qH (fun w ha hb=>chkSame_calls L.an M.an L.cn M.cn x.net y.net w h.ln h2.ln ha hb);have HR:=qH (worSame_dec x y);generalize decide (x=y)=r at *
 generalize decide (x.rel=y.rel)=b0 at *
 generalize decide (x.d=y.d)=b1 at *
 generalize decide (x.net=y.net)=b2 at *
 clear h h2;go_enter Tryz.func11,Tryz.ntmps11;exact x84l
