/- Walks of functions. No conditions. -/
import Derived.Test.YtefkfglkpebbmabGreatP5
set_option linter.unusedVariables false
set_option linter.unusedSimpArgs false
set_option maxRecDepth 100000
set_option maxHeartbeats 40000000
namespace Go.Proofs.YtefkfglkpebbmabGreat
open Go.RowKit
variable {Y:Prop}
theorem x7za(h:Y:=by
 exact⟨A,c,by rw[HLEN.out];rfl,by rw[HLEN.out];exact hyc,HB.out.stays HBE.out,HBE.out⟩):Y:=h
def ImRet(w:World)(l:LU):Ending->World->Prop:=fun en w'=>
 ∃A c,en=.returned (.slice A l.length c)∧l.length<=c∧Bts w' A l∧Below w.heap.size w w'
theorem pre_slice{A:OA}{n c:Nat}{z:Int}(y:Nat)(h1:z=(y:Int))(hc:n<=c)(hy:y<=n)(h0:0<n)(hA:∃b o,A=some ⟨b,o,none⟩)(W:World):(Instr.slice 23 (.slice A n c) none (some (iv z)) none).run Tryz.prog W=.ok (.slice A y c) W:=by
 obtain⟨b,o,rfl⟩:=hA;subst h1;have q1:(y:Int)<=(c:Int):=by omega
 have q1:¬c=0:=by omega
 go_simp
theorem image_calls(d:Dev)(L:DLoc)(k:Int)(r:Rec)(w:World)(hk:k=0∨k=1)(h:DevIn w d L)(hl:(d.slot k).length=64)(h0:0<=(r.at_ k).size)(h1:(r.at_ k).size<=64):
  Calls Tryz.prog 75 #[.agg (devA d L),iv k,.agg (recA r)] w (ImRet w (d.image k r)):=by
 obtain⟨a,rfl,ha1⟩:∃a:Nat,k=(a:Int)∧a<=1:=⟨k.toNat,by omega,by omega⟩;obtain⟨y,hy⟩:∃y:Nat,(r.at_ (a:Int)).size=(y:Int):=⟨(r.at_ (a:Int)).size.toNat,by omega⟩;have himg:d.image (a:Int) r=(d.slot (a:Int)).take y:=by unfold Dev.image;rw[hy];rfl
 have hlen:((d.slot (a:Int)).take y).length=y:=by rw[List.length_take];omega
 rw[himg];obtain⟨A,c,p1,p2,p3⟩:=devSlotA h ha1;rw[hl]at p1 p2;obtain⟨b,o,hA,-⟩:=p3 0 (by omega);have HSL:=qH (pre_slice (A:=A) (n:=64) (c:=c) y rfl p2 (by omega) (by decide) ⟨b,o,hA⟩);have HB:=qH (mid_take p3 y);have HLEN:=qH hlen;have hyc:y<=c:=by omega
 have pv:=recA_size_ r ha1;rw[hy]at pv;have HBA:Hid (Below w.heap.size w ((w.alloc (.cells (devA d L) 38)).alloc (.cells (recA r) 29))):=qH ((bL _).alloc (by simp) _);have HP1:=qH p1;have HPV:=qH pv;clear h hy himg hlen p1 p3 hA pv h0 h1 hl hk;go_enter Tryz.func75,Tryz.ntmps75;go_wp2_with fail;have r1:rowOf ((w.alloc (.cells (devA d L) 38)).alloc (.cells (recA r) 29)) w.heap.size=devA d L∧frOf ((w.alloc (.cells (devA d L) 38)).alloc (.cells (recA r) 29)) w.heap.size=(0,0):=by go_simp
 have r2:rowOf ((w.alloc (.cells (devA d L) 38)).alloc (.cells (recA r) 29)) (w.heap.size+1)=recA r∧frOf ((w.alloc (.cells (devA d L) 38)).alloc (.cells (recA r) 29)) (w.heap.size+1)=(0,0):=by go_simp
 obtain⟨w1,hw1⟩:=eX (((w.alloc (.cells (devA d L) 38)).alloc (.cells (recA r) 29)));rw[hw1]at HBA r1 r2⊢;have a1:=keep1 (bW w1) r1.1 (by go_simp) r1.2;have r3:=keep1 (bW w1) r2.1 (by simp[recA]) r2.2;clear hw1 r1 r2;have p1:=HP1.out;have pv:=HPV.out;have k1:(0:Int)<=(a:Int):=by omega
 have k1:(a:Int)<2:=by omega
 have k1:¬(2:Int)<=(a:Int):=by omega
 have hsl:=HSL.out;go_quiet (fail)
 go_wp2_with fail;go_ret;have HBE:Hid (Below w.heap.size w (w1.drewN nq)):=qH (Below.drewN' HBA.out nq);exact x7za
theorem imageOf_calls(d:Dev)(L:DLoc)(w:World)(h:DevIn w d L)(h0:d.s0.length=64)(h1:d.s1.length=64)(hc:copCheck d.c0 d.c1=0):
  Calls Tryz.prog 67 #[.agg (devA d L)] w (ImRet w (d.image d.rec_.active d.rec_)):=by
 have hok:=recRead_ok hc;have hn:=refNewest_ok hc;have hact:=rec_active hok;have KN:=qH (fun w=>newest_calls d.c0 d.c1 w);rw[hn]at KN;have hrec:(recRead d.c0 d.c1).1=d.rec_:=rfl;rw[hrec]at KN hok hact;obtain⟨rk,hrk⟩:=eX ((recRead d.c0 d.c1).2);rw[hrk]at KN;generalize d.rec_=r at *
 obtain⟨a,ha,ha1⟩:∃a:Nat,r.active=(a:Int)∧a<=1:=⟨r.active.toNat,by omega,by omega⟩;obtain⟨z1,z2,_⟩:=at_sizes hok r.active;rw[ha]at z1 z2⊢;obtain⟨y,hy⟩:∃y:Nat,(r.at_ (a:Int)).size=(y:Int):=⟨(r.at_ (a:Int)).size.toNat,by omega⟩;have hsl:=slot_len h0 h1 (a:Int);have himg:d.image (a:Int) r=(d.slot (a:Int)).take y:=by unfold Dev.image;rw[hy];rfl
 have hlen:((d.slot (a:Int)).take y).length=y:=by rw[List.length_take];omega
 rw[himg];obtain⟨A,c,p1,p2,p3⟩:=devSlotA h ha1;rw[hsl]at p1 p2;obtain⟨b,o,hA,-⟩:=p3 0 (by omega);have HSL:=qH (pre_slice (A:=A) (n:=64) (c:=c) y rfl p2 (by omega) (by decide) ⟨b,o,hA⟩);have HB:=qH (mid_take p3 y);have HLEN:=qH hlen;have hyc:y<=c:=by omega
 have pv:=recA_size_ r ha1;rw[hy]at pv;have hba:Below w.heap.size w (w.alloc (.cells (devA d L) 38)):=bL _;have HBA:=qH hba;have HP1:=qH p1;have HPV:=qH pv;have HA:=qH ha;clear h hok hn hact hrec hrk z1 z2 hy hsl himg hlen p1 p3 hA pv hba ha h0 h1 hc;go_enter Tryz.func67,Tryz.ntmps67;go_wp2_with fail;refine(KN.out _).mono ?_;rintro e w1 ⟨rfl,hb1⟩;have a1:=kp (w.heap.size) (devA d L) hb1;have HB1:=bT HBA hb1;clear hb1;go_wp2_with fail;obtain⟨w2,hw1⟩:=eX (w1.alloc (.cells (recA r) 29));have hb1:Below w1.heap.size w1 w2:=by rw[<-hw1];exact bL _
 have hrr:rowOf w2 w1.heap.size=recA r∧frOf w2 w1.heap.size=(0,0):=by rw[<-hw1];exact⟨by rw[rowOf_alloc,if_pos rfl],by rw[frOf_alloc,if_pos rfl]⟩
 have a1:=keep1 (g:=w.heap.size) (cs:=devA d L) hb1 a1.1 (by go_simp) a1.2.1;have r1:=keep1 (bW w2) hrr.1 (by simp[recA]) hrr.2;have HB1:=bT HB1 hb1;rw[hw1];clear hw1 hb1 hrr;have ha:=HA.out;have p1:=HP1.out;have pv:=HPV.out;have k1:(0:Int)<=(a:Int):=by omega
 have k1:(a:Int)<2:=by omega
 have k1:¬(2:Int)<=(a:Int):=by omega
 have hsl:=HSL.out;go_quiet (fail)
 go_wp2_with fail;go_ret;have HBE:Hid (Below w.heap.size w (w2.drewN nq)):=qH (Below.drewN' HB1.out nq);exact x7za
theorem splice_tryIt(r:Rec)(x:Inf){a a':Nat}(ha:r.active=(a:Int))(h:a+a'=1):splice (recA ⟨r.gen,(a:Int),true,3,r.floor,r.a,r.b⟩) (5+a'*3) (infA x)=recA (r.tryIt x):=by
 unfold Rec.tryIt Rec.setOther;rcases (show (a=0∧a'=1)∨(a=1∧a'=0) by omega)with ⟨rfl,rfl⟩|⟨rfl,rfl⟩
 ·rw[if_pos (by simp[ha])];simp[splice,recA,infA,ha]
 rw[if_neg (by simp[ha])];simp[splice,recA,infA,ha]
theorem acts_finish7(d:Dev)(L:DLoc)(n f t m o:Int)(B:OA)(bl bc:Nat)(w:World)(hok:DevOk d)(hu:d.up=true):Calls Tryz.prog 48 #[.agg (devA d L),.agg #[iv 7,iv n],.agg (chkA f t m o B bl bc)] w (ActRet w d L (devFinish d false).1 (devFinish d false).2):=by
 have hrec:=rec_ok hok;have hrd:devReady d=0:=by unfold devReady;rw[if_neg (by simpa using devCheck_ok.2 hok),if_neg (by rw[hu];decide)]
 have KN:=qH (fun w=>newest_calls d.c0 d.c1 w);rw[refNewest_ok hok.cops]at KN;obtain⟨rk,hrk⟩:=eX ((recRead d.c0 d.c1).2);have hre:(recRead d.c0 d.c1).1=d.rec_:=rfl;rw[hrk,hre]at KN;clear hrk hre;have hact:=rec_active hrec;have hdef:devFinish d false=if d.busy=false∨d.done<d.job.size then (Dev.zero,5)else if (recWrite d.c0 d.c1 (d.rec_.tryIt ⟨d.job.to_,d.job.size,d.job.new_⟩) false).2≠0 then (Dev.zero,(recWrite d.c0 d.c1 (d.rec_.tryIt ⟨d.job.to_,d.job.size,d.job.new_⟩) false).2)else ({d.write (d.rec_.tryIt ⟨d.job.to_,d.job.size,d.job.new_⟩) false with busy:=false,job:=Pat.zero,done:=0},0):=by
  unfold devFinish;rw[if_neg (by omega)];rfl
 have HD:=qH hdef;have K1:=qH (fun gd w h1 h2=>actsWrite_calls d L (d.rec_.tryIt ⟨d.job.to_,d.job.size,d.job.new_⟩) false gd w hok.cops h1 h2);generalize devFinish d false=res at *
 clear hrec hrd hok hdef;generalize d.rec_=r at *
 go_enter Tryz.func48,Tryz.ntmps48;go_wp2_with fail;refine(KN.out _).mono ?_;rintro e w1 ⟨rfl,hb⟩;have a2:=kp (w.heap.size) (devA d L) hb;have a1:=kp (w.heap.size+1) (#[iv 7,iv n]) hb;have a3:=kp (w.heap.size+1+1+1) (devA Dev.zero DLoc.zero) hb;have a4:=kp (w.heap.size+1+1+1+1) (#[.func (Fn.func 88) #[] #[]]) hb;have HB1:Hid (Below w.heap.size w w1):=qH (((((((bW w).alloc nl (.cells (devA d L) 38)).alloc (by simp) (.cells #[iv 7,iv n] 42)).alloc (by simp;omega) (.cells (chkA f t m o B bl bc) 61)).alloc (by simp;omega) (.cells (devA Dev.zero DLoc.zero) 38)).alloc (by simp;omega) _).trans (hb.mono (by simp;omega)));clear hb;by_cases c1:d.busy=false∨d.done<d.job.size
 ·have hz:=HD.out.trans (if_pos c1);subst hz;clear HD K1 KN hact
  cases c2:d.busy
  case false=>
   exact x1zo
  case true=>
   have q:d.done<d.job.size:=c1.resolve_left (by rw[c2];decide);clear c1;exact x1zo
 have c2:d.busy=true:=by cases h:d.busy;exact absurd (.inl h) c1;rfl
 have q:¬d.done<d.job.size:=fun h=>c1 (.inr h);have HD1:=qH (HD.out.trans (if_neg c1));obtain⟨a,ha⟩:∃a:Nat,r.active=(a:Int):=⟨r.active.toNat,by omega⟩;obtain⟨a',haa⟩:∃a':Nat,a+a'=1:=⟨1-a,by omega⟩;have hsp:=splice_tryIt r ⟨d.job.to_,d.job.size,d.job.new_⟩ ha haa;generalize r.tryIt ⟨d.job.to_,d.job.size,d.job.new_⟩=r2 at *
 have hle:5+a'*3+3<=11:=by omega
 have hw1:IntKind.i64.wrap ((1:Int)-(a:Int))=(a':Int):=by rw[IntWalk.i64_in _ (by omega)];omega
 have i1:(0:Int)<=(a':Int):=by omega
 have i2:(a':Int)<2:=by omega
 have i3:¬(2:Int)<=(a':Int):=by omega
 clear c1 HD KN hu hact;go_upto_region 54 with fail
 obtain⟨w2,hw2⟩:=eX (w1.alloc (.cells (recA r2) 29));have hb:Below w1.heap.size w1 w2:=by rw[<-hw2];exact bL _
 have hrr:rowOf w2 w1.heap.size=recA r2∧frOf w2 w1.heap.size=(0,0):=by rw[<-hw2];exact⟨by rw[rowOf_alloc,if_pos rfl],by rw[frOf_alloc,if_pos rfl]⟩
 have a2:=keep1 (g:=w.heap.size) (cs:=devA d L) hb a2.1 (by go_simp) a2.2.1;have a1:=keep1 (g:=w.heap.size+1) (cs:=#[iv 7,iv n]) hb a1.1 (by go_simp) a1.2.1;have a3:=keep1 (g:=w.heap.size+1+1+1) (cs:=devA Dev.zero DLoc.zero) hb a3.1 (by go_simp) a3.2.1;have a4:=keep1 (g:=w.heap.size+1+1+1+1) (cs:=#[.func (Fn.func 88) #[] #[]]) hb a4.1 (by go_simp) a4.2.1;have r1:=keep1 (bW w2) hrr.1 (by simp[recA]) hrr.2;have HB2:=bT HB1 hb;rw[hw2];clear hw2 hb hrr hsp hle hw1 i1 i2 i3 ha haa HB1;go_wp2_with fail;refine(K1.out _ _ (by go_simp) (by go_simp)).mono ?_;rintro e w1 ⟨wa,wb,rfl,hba,hwb,hbb⟩;have a3:=kp (w.heap.size+1+1+1) (devA Dev.zero DLoc.zero) hba;have a3:=kp (w.heap.size+1+1+1+1) (#[.func (Fn.func 88) #[] #[]]) hba;have a2:=kp (w.heap.size) (devA d L) hba;have a1:=kp (w.heap.size+1) (#[iv 7,iv n]) hba;have HBa:=bU HB2 hba;clear hba;obtain⟨e1,he1⟩:=eX ((recWrite d.c0 d.c1 r2 false).2);rw[he1]at hwb HD1⊢;clear he1 K1;by_cases c1:e1≠0
 ·rw[if_neg c1]at hwb;subst hwb;have b1:=kp (w.heap.size+1) (#[iv 7,iv n]) hbb;have b1:=kp (w.heap.size+1+1+1) (devA Dev.zero DLoc.zero) hbb;have b1:=kp (w.heap.size+1+1+1+1) (#[.func (Fn.func 88) #[] #[]]) hbb;have b1:=kp (w.heap.size) (devA d L) hbb;have HB1:=bT HBa hbb;have hz:=HD1.out.trans (if_pos c1);subst hz;have KD:=qH (fun gb gd w h1 h2=>actsDone_bad e1 gb gd w c1 h1 h2);clear hbb c1;go_wp2_with fail;refine(KD.out _ _ _ (by go_simp) (by go_simp)).mono ?_;rintro e w1 ⟨rfl,hb⟩;have e1:=kp (w.heap.size+1+1+1) (devA Dev.zero DLoc.zero) hb;exact x20b
 have c1:=Decidable.not_not.1 c1;subst c1;rw[if_pos rfl]at hwb;subst hwb;have hz:=HD1.out.trans (if_neg (by decide));subst hz;have hin:∀v,DevIn v d L->DevIn v {d.write r2 false with busy:=false,job:=Pat.zero,done:=0} {L with aj:=none,cj:=0}:=fun v h=>⟨h.k0,h.l0,h.b0,h.k1,h.l1,h.b1,h.kg,h.lg,h.got,pat_in_zero v,h.ir,i64_0⟩;have HIN:=qH hin;clear hin HD1;generalize d.write r2 false=d2 at *
 have b1:=kp (w.heap.size+1) (#[iv 7,iv n]) hbb;have b1:=kp (w.heap.size+1+1+1) (devA Dev.zero DLoc.zero) hbb;have b1:=kp (w.heap.size+1+1+1+1) (#[.func (Fn.func 88) #[] #[]]) hbb;have b1:=kp (w.heap.size) (devA d2 L) hbb;have HB1:Hid (Below w.heap.size w w1):=qH ((below_row HBa.out (by omega) _).trans (hbb.mono (by have:=HBa.out.size;simp;omega)));clear hbb;go_wp2_with fail;refine(actsDone_ok {d2 with busy:=false,job:=Pat.zero,done:=0} {L with aj:=none,cj:=0} _ _ _ (by first|(go_simp;done)|(go_simp;rfl)) (by go_simp)).mono ?_;rintro e w1 ⟨rfl,hb⟩;have e1:=kp (w.heap.size+1+1+1) (devA Dev.zero DLoc.zero) hb;have HB1:=bU HB1 hb;clear hb;go_wp2_with fail;refine bodyPost_ret (rC (devA {d2 with busy:=false,job:=Pat.zero,done:=0} {L with aj:=none,cj:=0})) rfl ⟨{L with aj:=none,cj:=0},rfl,HIN.out,bZ HB1⟩
theorem acts_finish12(d:Dev)(L:DLoc)(n f t m o:Int)(B:OA)(bl bc:Nat)(w:World)(hok:DevOk d)(hu:d.up=true):Calls Tryz.prog 48 #[.agg (devA d L),.agg #[iv 12,iv n],.agg (chkA f t m o B bl bc)] w (ActRet w d L (devFinish d true).1 (devFinish d true).2):=by
 have hrec:=rec_ok hok;have hrd:devReady d=0:=by unfold devReady;rw[if_neg (by simpa using devCheck_ok.2 hok),if_neg (by rw[hu];decide)]
 have KN:=qH (fun w=>newest_calls d.c0 d.c1 w);rw[refNewest_ok hok.cops]at KN;obtain⟨rk,hrk⟩:=eX ((recRead d.c0 d.c1).2);have hre:(recRead d.c0 d.c1).1=d.rec_:=rfl;rw[hrk,hre]at KN;clear hrk hre;have hact:=rec_active hrec;have hdef:devFinish d true=if d.busy=false∨d.done<d.job.size then (Dev.zero,5)else if (recWrite d.c0 d.c1 (d.rec_.tryIt ⟨d.job.to_,d.job.size,d.job.new_⟩) true).2≠0 then (Dev.zero,(recWrite d.c0 d.c1 (d.rec_.tryIt ⟨d.job.to_,d.job.size,d.job.new_⟩) true).2)else (Dev.down {d.write (d.rec_.tryIt ⟨d.job.to_,d.job.size,d.job.new_⟩) true with busy:=false,job:=Pat.zero,done:=0},0):=by
  unfold devFinish;rw[if_neg (by omega)];rfl
 have HD:=qH hdef;have K1:=qH (fun gd w h1 h2=>actsWrite_calls d L (d.rec_.tryIt ⟨d.job.to_,d.job.size,d.job.new_⟩) true gd w hok.cops h1 h2);generalize devFinish d true=res at *
 clear hrec hrd hok hdef;generalize d.rec_=r at *
 go_enter Tryz.func48,Tryz.ntmps48;go_wp2_with fail;refine(KN.out _).mono ?_;rintro e w1 ⟨rfl,hb⟩;have a2:=kp (w.heap.size) (devA d L) hb;have a1:=kp (w.heap.size+1) (#[iv 12,iv n]) hb;have a3:=kp (w.heap.size+1+1+1) (devA Dev.zero DLoc.zero) hb;have a4:=kp (w.heap.size+1+1+1+1) (#[.func (Fn.func 88) #[] #[]]) hb;have HB1:Hid (Below w.heap.size w w1):=qH (((((((bW w).alloc nl (.cells (devA d L) 38)).alloc (by simp) (.cells #[iv 12,iv n] 42)).alloc (by simp;omega) (.cells (chkA f t m o B bl bc) 61)).alloc (by simp;omega) (.cells (devA Dev.zero DLoc.zero) 38)).alloc (by simp;omega) _).trans (hb.mono (by simp;omega)));clear hb;by_cases c1:d.busy=false∨d.done<d.job.size
 ·have hz:=HD.out.trans (if_pos c1);subst hz;clear HD K1 KN hact
  cases c2:d.busy
  case false=>
   exact x1zo
  case true=>
   have q:d.done<d.job.size:=c1.resolve_left (by rw[c2];decide);clear c1;exact x1zo
 have c2:d.busy=true:=by cases h:d.busy;exact absurd (.inl h) c1;rfl
 have q:¬d.done<d.job.size:=fun h=>c1 (.inr h);have HD1:=qH (HD.out.trans (if_neg c1));obtain⟨a,ha⟩:∃a:Nat,r.active=(a:Int):=⟨r.active.toNat,by omega⟩;obtain⟨a',haa⟩:∃a':Nat,a+a'=1:=⟨1-a,by omega⟩;have hsp:=splice_tryIt r ⟨d.job.to_,d.job.size,d.job.new_⟩ ha haa;generalize r.tryIt ⟨d.job.to_,d.job.size,d.job.new_⟩=r2 at *
 have hle:5+a'*3+3<=11:=by omega
 have hw1:IntKind.i64.wrap ((1:Int)-(a:Int))=(a':Int):=by rw[IntWalk.i64_in _ (by omega)];omega
 have i1:(0:Int)<=(a':Int):=by omega
 have i2:(a':Int)<2:=by omega
 have i3:¬(2:Int)<=(a':Int):=by omega
 clear c1 HD KN hu hact;go_upto_region 54 with fail
 obtain⟨w2,hw2⟩:=eX (w1.alloc (.cells (recA r2) 29));have hb:Below w1.heap.size w1 w2:=by rw[<-hw2];exact bL _
 have hrr:rowOf w2 w1.heap.size=recA r2∧frOf w2 w1.heap.size=(0,0):=by rw[<-hw2];exact⟨by rw[rowOf_alloc,if_pos rfl],by rw[frOf_alloc,if_pos rfl]⟩
 have a2:=keep1 (g:=w.heap.size) (cs:=devA d L) hb a2.1 (by go_simp) a2.2.1;have a1:=keep1 (g:=w.heap.size+1) (cs:=#[iv 12,iv n]) hb a1.1 (by go_simp) a1.2.1;have a3:=keep1 (g:=w.heap.size+1+1+1) (cs:=devA Dev.zero DLoc.zero) hb a3.1 (by go_simp) a3.2.1;have a4:=keep1 (g:=w.heap.size+1+1+1+1) (cs:=#[.func (Fn.func 88) #[] #[]]) hb a4.1 (by go_simp) a4.2.1;have r1:=keep1 (bW w2) hrr.1 (by simp[recA]) hrr.2;have HB2:=bT HB1 hb;rw[hw2];clear hw2 hb hrr hsp hle hw1 i1 i2 i3 ha haa HB1;go_wp2_with fail;refine(K1.out _ _ (by go_simp) (by go_simp)).mono ?_;rintro e w1 ⟨wa,wb,rfl,hba,hwb,hbb⟩;have a3:=kp (w.heap.size+1+1+1) (devA Dev.zero DLoc.zero) hba;have a3:=kp (w.heap.size+1+1+1+1) (#[.func (Fn.func 88) #[] #[]]) hba;have a2:=kp (w.heap.size) (devA d L) hba;have a1:=kp (w.heap.size+1) (#[iv 12,iv n]) hba;have HBa:=bU HB2 hba;clear hba;obtain⟨e1,he1⟩:=eX ((recWrite d.c0 d.c1 r2 true).2);rw[he1]at hwb HD1⊢;clear he1 K1;by_cases c1:e1≠0
 ·rw[if_neg c1]at hwb;subst hwb;have b1:=kp (w.heap.size+1) (#[iv 12,iv n]) hbb;have b1:=kp (w.heap.size+1+1+1) (devA Dev.zero DLoc.zero) hbb;have b1:=kp (w.heap.size+1+1+1+1) (#[.func (Fn.func 88) #[] #[]]) hbb;have b1:=kp (w.heap.size) (devA d L) hbb;have HB1:=bT HBa hbb;have hz:=HD1.out.trans (if_pos c1);subst hz;have KD:=qH (fun gb gd w h1 h2=>actsDone_bad e1 gb gd w c1 h1 h2);clear hbb c1;go_wp2_with fail;refine(without_calls _ _ _).mono ?_;rintro e w1 ⟨rfl,hb⟩;have c1:=kp (w.heap.size) (devA {d with busy:=false,done:=0} L) hb;have c1:=kp (w.heap.size+1+1+1) (devA Dev.zero DLoc.zero) hb;have c1:=kp (w.heap.size+1+1+1+1) (#[.func (Fn.func 88) #[] #[]]) hb;have HB1:=bU HB1 hb;clear hb;go_wp2_with fail;refine(KD.out _ _ _ (by go_simp) (by go_simp)).mono ?_;rintro e w1 ⟨rfl,hb⟩;have e1:=kp (w.heap.size+1+1+1) (devA Dev.zero DLoc.zero) hb;exact x20b
 have c1:=Decidable.not_not.1 c1;subst c1;rw[if_pos rfl]at hwb;subst hwb;have hz:=HD1.out.trans (if_neg (by decide));subst hz;have hin:∀v,DevIn v d L->DevIn v (Dev.down {d.write r2 true with busy:=false,job:=Pat.zero,done:=0}) L.down:=fun v h=>(show DevIn v (Dev.down (d.write r2 true)) L.down from DevIn.down (d:=d.write r2 true) ⟨h.k0,h.l0,h.b0,h.k1,h.l1,h.b1,h.kg,h.lg,h.got,h.job,h.ir,h.id⟩);have HIN:=qH hin;clear hin HD1;generalize d.write r2 true=d2 at *
 have b1:=kp (w.heap.size+1) (#[iv 12,iv n]) hbb;have b1:=kp (w.heap.size+1+1+1) (devA Dev.zero DLoc.zero) hbb;have b1:=kp (w.heap.size+1+1+1+1) (#[.func (Fn.func 88) #[] #[]]) hbb;have b1:=kp (w.heap.size) (devA d2 L) hbb;have HB1:Hid (Below w.heap.size w w1):=qH ((below_row HBa.out (by omega) _).trans (hbb.mono (by have:=HBa.out.size;simp;omega)));clear hbb;go_wp2_with fail;refine(without_calls _ _ _).mono ?_;rintro e w1 ⟨rfl,hb⟩;have c1:=kp (w.heap.size) (devA {d2 with busy:=false,done:=0} L) hb;have c1:=kp (w.heap.size+1+1+1) (devA Dev.zero DLoc.zero) hb;have c1:=kp (w.heap.size+1+1+1+1) (#[.func (Fn.func 88) #[] #[]]) hb;have HB1:=bU HB1 hb;clear hb;go_wp2_with fail;refine(actsDone_ok (Dev.down {d2 with busy:=false,job:=Pat.zero,done:=0}) L.down _ _ _ (by first|(go_simp;done)|(go_simp;rfl)) (by go_simp)).mono ?_;rintro e w1 ⟨rfl,hb⟩;have e1:=kp (w.heap.size+1+1+1) (devA Dev.zero DLoc.zero) hb;have HB1:=bU HB1 hb;clear hb;go_wp2_with fail;refine bodyPost_ret (rC (devA (Dev.down {d2 with busy:=false,job:=Pat.zero,done:=0}) L.down)) rfl ⟨L.down,rfl,HIN.out,bZ HB1⟩
theorem data_le(old:LU):∀(l:List Stp),∀o∈l,o.data.length<=(applied old l).length
 |[],_,h=>by cases h
 |x::l,o,h=>by
  rw[applied_cons,List.length_append];rcases List.mem_cons.1 h with rfl|h
  ·simp[Stp.piece];omega
  have:=data_le old l o h;omega
theorem snoc_of{α:Type}(l:List α)(h:l≠[]):∃m x,l=m++[x]:=⟨l.dropLast,l.getLast h,(List.dropLast_concat_getLast h).symm⟩
theorem addByte_len(l:List Stp)(x:UInt8):(addByte l x).length<=l.length+1:=by
 by_cases h:l=[]
 ·subst h;simp[addByte]
 obtain⟨m,o,rfl⟩:=snoc_of l h;rw[addByte_snoc];split<;>simp
theorem diffN_len(old b:LU):∀q,(diffN old b q).2.length<=q
 |0=>by simp[diffN]
 |q+1=>by
  have ih:=diffN_len old b q
  show (diffStep old b (diffN old b q)).2.length<=q+1;generalize diffN old b q=p at *
  unfold diffStep;split
  ·split
   ·simp only[List.length_append,List.length_cons,List.length_nil];omega
   ·have:=addByte_len p.2 (b.getD p.1 0)
    show (addByte p.2 (b.getD p.1 0)).length<=q+1;omega
  omega
