/- Walks of functions, and plain words. No conditions. -/
import Derived.Test.YtefkfglkpebbmacPMStoryLaws
set_option linter.unusedVariables false
set_option linter.unusedSimpArgs false
set_option maxRecDepth 100000
set_option maxHeartbeats 40000000
namespace Go.Proofs.Ytefkfglkpebbmac
open Go.RowKit
variable {Y:Prop}
variable {d:Dev} {p:Pat} {S:Nat->Bool} {b sa:LU} {r r0:Rec} {n:Int}
structure Fits(d:Dev)(p:Pat)(b:LU):Prop where
 ok:DevOk d
 up:d.up=true
 idle:d.busy=false
 tr:d.rec_.trying=false
 pc:patCheck p=0
 from_:p.from_=d.good
 to_:d.rec_.floor<=p.to_
 does:patDo (sumOn 1) p (d.image d.rec_.active d.rec_)=(b,0)
 gen:d.rec_.gen<999000
theorem hear_one(hok:DevOk d)(hu:d.up=true)(hb:d.busy=false)(hp:patCheck p=0)(hg:d.got=gotS p (bytesOf p) S){k:Nat}(hk:k<nOf (bytesOf p)):
  devHear d (chunkAt p (bytesOf p) (nOf (bytesOf p)) k)=({d with got:=gotS p (bytesOf p) (fun j=>S j || j==k)},0)∧DevOk {d with got:=gotS p (bytesOf p) (fun j=>S j || j==k)}:=by
 obtain⟨c1,c2,c3⟩:=cut_ok hp;have ha:=gotS_add (patCheck_ok.1 hp).1 (by omega:nOf (bytesOf p)<=52) S hk;have hr:devReady d=0:=devReady_ok.2 ⟨hok,hu⟩;have e:devHear d (chunkAt p (bytesOf p) (nOf (bytesOf p)) k)=({d with got:=gotS p (bytesOf p) (fun j=>S j || j==k)},0):=by
  unfold devHear;rw[if_neg (by simpa using hr),if_neg (by simp[hb]),hg,ha];dsimp only;rw[if_neg (by simp)]
 have hz:(devHear d (chunkAt p (bytesOf p) (nOf (bytesOf p)) k)).2=0:=by rw[e]
 have:=(hear_keeps hz).2.2.2.2.2;rw[e]at this;exact⟨e,this⟩
theorem gotS_none(h:∀j,j<nOf b->S j=false):gotS p b S=[]:=by
 unfold gotS;rw[List.filter_eq_nil_iff.2 (fun j hj=>by rw[h j (by simpa using hj)];simp)];rfl
theorem gotS_full(h:∀j,j<nOf b->S j=true):gotS p b S=chunksOf p b:=by
 refine gotS_all ?_;rw[List.filter_eq_self.2 (fun j hj=>h j (by simpa using hj)),List.length_range]
theorem gotS_congr{T:Nat->Bool}(h:∀j,j<nOf b->S j=T j):gotS p b S=gotS p b T:=by
 unfold gotS;rw[List.filter_congr (fun j hj=>h j (by simpa using hj))]
theorem Fits.got(h:Fits d p b){g:List Chk}(ok:DevOk {d with got:=g}):Fits {d with got:=g} p b:=⟨ok,h.up,h.idle,h.tr,h.pc,h.from_,h.to_,h.does,h.gen⟩
structure Work(d:Dev)(p:Pat)(b:LU)(r0:Rec)(sa:LU)(run:Int)(n:Int):Prop where
 ok:DevOk d
 up:d.up=true
 busy:d.busy=true
 job:d.job=p
 done:d.done=n
 run:d.running=run
 act:d.rec_.active=r0.active
 fl:d.rec_.floor=r0.floor
 at_:d.rec_.at_ r0.active=r0.at_ r0.active
 gen:d.rec_.gen=r0.gen+1
 sl:d.slot r0.active=sa
 does:patDo (sumOn 1) p (d.image d.rec_.active d.rec_)=(b,0)
theorem nextRec_ok(h:DevOk d)(hg:d.rec_.gen<1000000)(h1:r.active=0∨r.active=1)(h2:0<=r.tries∧r.tries<=3)(h3:1<=r.floor∧r.floor<=30)(ha:infCheck r.a=0)(hb:infCheck r.b=0)(hf:FormOk r):
  recCheck (nextRec d.c0 d.c1 r)=0∧(recWrite d.c0 d.c1 r false).2=0∧(recWrite d.c0 d.c1 r true).2=0:=by
 have h4:1<=d.rec_.gen:=by
  have:=(recCheck_parts (rec_ok h)).1;unfold RangeOk at this;exact this.1
 have e:recCheck (nextRec d.c0 d.c1 r)=0:=by
  refine recCheck_ok ?_ ha hb hf;unfold RangeOk
  show 1<=d.rec_.gen+1∧d.rec_.gen+1<=1000000∧0<=r.active∧r.active<=1∧0<=r.tries∧r.tries<=3∧1<=r.floor∧r.floor<=30;omega
 obtain⟨w1,w2,_⟩:=write_torn h.cops e;exact⟨e,by rw[w1],by rw[w2]⟩
theorem inf_zero:infCheck Inf.zero=0:=infCheck_ok ⟨by simp[Inf.zero],by simp[Inf.zero],by simp[Inf.zero],by simp[Inf.zero],by simp[Inf.zero],by simp[Inf.zero]⟩ (fun _=>⟨rfl,rfl⟩)
theorem setOther_ab(x:Inf)(ha:infCheck r.a=0)(hb:infCheck r.b=0)(hx:infCheck x=0):infCheck (r.setOther x).a=0∧infCheck (r.setOther x).b=0:=by
 unfold Rec.setOther;split<;>exact⟨by assumption,by assumption⟩
theorem open_fits(h:Fits d p b)(hg:d.got=chunksOf p (bytesOf p)):
  ∃e,devOpen d=(e,0)∧Work e p b d.rec_ (d.slot d.rec_.active) d.running 0:=by
 have hj:chkJoin d.got=(p,0):=by rw[hg];exact join_all h.pc
 have hr:=rec_ok h.ok;obtain⟨p1,p2,p3,p4⟩:=recCheck_parts hr;have hact:=rec_active hr;obtain⟨s1,s2,s3,s4,s5,s6⟩:=setOther_at hact Inf.zero;have hz:d.rec_.tries=0:=by
  unfold FormOk at p4;exact p4.2.2.1 h.tr
 obtain⟨i1,i2⟩:=setOther_ab (r:=d.rec_) Inf.zero p2 p3 inf_zero;have hgen:=h.gen;unfold RangeOk at p1;have hw:=nextRec_ok h.ok (by omega) (r:=d.rec_.setOther Inf.zero) (by rw[s3];exact hact) (by rw[s6];omega) (by rw[s4];omega) i1 i2 (by
  unfold FormOk at p4⊢;rw[s3,s1,s4,s5,s6];exact⟨p4.1,fun e=>by rw[h.tr]at e;(cases e),fun _=>hz,p4.2.2.2⟩)
 have e1:(devOpen d).2=0:=by
  unfold devOpen;rw[if_neg (by simpa using devReady_ok.2 ⟨h.ok,h.up⟩),if_neg (by simp[h.idle,h.tr]),hj];dsimp only;rw[if_neg (by simp),if_neg (by
   have:=h.from_;have:=h.to_;unfold Dev.good at *
   omega),h.does]
  dsimp only;rw[if_neg (by simp),if_neg (by simpa using hw.2.1)]
 have o:=open_parts e1;obtain⟨r1,r2,r3,r4,r5,r6,r7,r8,r9⟩:=opened_rec o;refine⟨(devOpen d).1,Prod.ext rfl e1,?_⟩;have ra:(devOpen d).1.rec_.active=d.rec_.active:=by rw[r1];exact s3
 have rat:(devOpen d).1.rec_.at_ d.rec_.active=d.rec_.at_ d.rec_.active:=by rw[r1,nextRec_at,s1]
 have sl:(devOpen d).1.slot d.rec_.active=d.slot d.rec_.active:=by unfold Dev.slot;rw[r2,r3]
 refine⟨opened_ok o,r4,r7,by rw[r9,hj],r8,r5,ra,by rw[r1];exact s4,rat,by rw[r1];rfl,sl,?_⟩;have im:(devOpen d).1.image (devOpen d).1.rec_.active (devOpen d).1.rec_=d.image d.rec_.active d.rec_:=by
  unfold Dev.image;rw[ra,sl,rat]
 rw[im];exact h.does
theorem Work.wrote{run:Int}(h:Work d p b r0 sa run n)(hn:n<p.size)(torn:Bool)(keep:Int):
  Wrote d∧devWrite d torn keep=(if torn=true then (d.wrote torn keep).down else d.wrote torn keep,0):=by
 have hw:Wrote d:=⟨h.ok,h.up,h.busy,by rw[h.done,h.job];exact hn,h.ok.work h.up h.busy⟩;refine⟨hw,?_⟩;have e1:(devWrite d torn keep).2=0:=by
  unfold devWrite;rw[if_neg (by simpa using devReady_ok.2 ⟨h.ok,h.up⟩),if_neg (by simp[h.busy,h.done,h.job];omega),h.job,h.does];dsimp only;rw[if_neg (by simp)]
 exact Prod.ext (write_parts e1).2 e1
theorem Work.write{run:Int}(h:Work d p b r0 sa run n)(hn:n<p.size)(keep:Int):
  ∃e,devWrite d false keep=(e,0)∧Work e p b r0 sa run (n+8):=by
 obtain⟨hw,e⟩:=h.wrote hn false keep;rw[if_neg (by simp)]at e;obtain⟨e1,e2,e3,e4,e5⟩:=wrote_slots hw false keep;obtain⟨c1,c2,c3,c4,c5,c6,c7,c8⟩:=wrote_cops d false keep;have hk:keepN false keep=8:=by simp[keepN]
 refine⟨_,e,wrote_ok hw keep,by rw[c3,h.up],by rw[c6,h.busy],by rw[c7,h.job],by rw[c8,h.done,hk],by rw[c4,h.run],by rw[e1];exact h.act,by rw[e1];exact h.fl,by rw[e1];exact h.at_,by rw[e1];exact h.gen,?_,?_⟩
 ·rw[<-h.act,e2,h.act];exact h.sl
 have im:(d.wrote false keep).image (d.wrote false keep).rec_.active (d.wrote false keep).rec_=d.image d.rec_.active d.rec_:=by unfold Dev.image;rw[e1,e2]
 rw[im];exact h.does
theorem Work.stop{run:Int}(h:Work d p b r0 sa run n)(hn:¬n<p.size)(torn:Bool)(keep:Int):devWrite d torn keep=(Dev.zero,5):=by
 unfold devWrite;rw[if_neg (by simpa using devReady_ok.2 ⟨h.ok,h.up⟩),if_pos (.inr (by rw[h.done,h.job];omega))]
theorem Work.torn{run:Int}(h:Work d p b r0 sa run n)(hn:n<p.size)(keep:Int):
  ∃e,devWrite d true keep=(e,0)∧DevOk e∧e.up=false∧e.rec_=d.rec_∧e.slot r0.active=sa:=by
 obtain⟨hw,e⟩:=h.wrote hn true keep;rw[if_pos rfl]at e;obtain⟨e1,e2,e3,e4,e5⟩:=wrote_slots hw true keep;obtain⟨c1,c2,_⟩:=wrote_cops d true keep;refine⟨_,e,down_ok e4 e5 (by rw[c1,c2];exact h.ok.cops),rfl,e1,?_⟩
 show (d.wrote true keep).slot r0.active=sa;rw[<-h.act,e2,h.act];exact h.sl
structure Tried(e:Dev)(p:Pat)(b:LU)(r0:Rec)(sa:LU)(run:Int):Prop where
 ok:DevOk e
 up:e.up=true
 idle:e.busy=false
 run:e.running=run
 act:e.rec_.active=r0.active
 fl:e.rec_.floor=r0.floor
 at_:e.rec_.at_ r0.active=r0.at_ r0.active
 ot:e.rec_.at_ (1-r0.active)=⟨p.to_,p.size,p.new_⟩
 tr:e.rec_.trying=true
 ts:e.rec_.tries=3
 gen:e.rec_.gen=r0.gen+2
 sl:e.slot r0.active=sa
 so:(e.slot (1-r0.active)).take p.size.toNat=b
theorem Work.finish{run:Int}(h:Work d p b r0 sa run n)(hn:p.size<=n)(hpc:patCheck p=0)(hfl:r0.floor<=p.to_)(hg:r0.gen<999000):
  ∃e,devFinish d false=(e,0)∧Tried e p b r0 sa run:=by
 have hr:=rec_ok h.ok;obtain⟨p1,p2,p3,p4⟩:=recCheck_parts hr;have hact:=rec_active hr;have hwork:=h.ok.work h.up h.busy;obtain⟨q1,q2⟩:=patCheck_ok.1 hpc;unfold Pat.range at q1;have hnew:0<=p.new_∧p.new_<=65535:=by omega
 obtain⟨s1,s2,s3,s4,s5,s6⟩:=tryIt_at hact d.jobInf;have hji:d.jobInf=⟨p.to_,p.size,p.new_⟩:=by unfold Dev.jobInf;rw[h.job]
 have hinf:infCheck d.jobInf=0:=by
  rw[hji];have:=q2.s0;have:=q2.s1;exact infCheck_ok ⟨by show 0<=p.to_;omega,by show p.to_<=30;omega,by show 0<=p.size;omega,by show p.size<=64;omega,hnew.1,hnew.2⟩ (fun e=>by have e':p.to_=0:=e;omega)
 obtain⟨i1,i2⟩:=setOther_ab (r:={d.rec_ with trying:=true,tries:=3}) d.jobInf p2 p3 hinf;have hgen:=h.gen;unfold RangeOk at p1;have hflo:=h.fl;have hw:=nextRec_ok h.ok (by omega) (r:=d.rec_.tryIt d.jobInf) (by rw[s3];exact hact) (by rw[s6];omega) (by rw[s4];omega) i1 i2 (by
  unfold FormOk at p4⊢;rw[s3,s1,s2,s4,s5,s6,hji];refine⟨p4.1,fun _=>⟨?_,?_⟩,fun e=>(by cases e),p4.2.2.2⟩
  ·show p.to_≠0;omega
  show d.rec_.floor<=p.to_;omega)
 have e1:(devFinish d false).2=0:=by
  unfold devFinish;rw[if_neg (by simpa using devReady_ok.2 ⟨h.ok,h.up⟩),if_neg (by simp[h.busy,h.done,h.job];omega)];have:=hw.2.1;unfold Dev.jobInf at this;rw[if_neg (by simpa using this)]
 obtain⟨f1,f2⟩:=finish_parts e1;have hok:=finish_ok_dev e1;have hrec:=fin_rec f1;rw[if_neg (by simp)]at f2 hrec;refine⟨d.fin false,Prod.ext f2 e1,by rw[<-f2];exact hok,h.up,rfl,h.run,?_,?_,?_,?_,?_,?_,?_,h.sl,?_⟩
 ·rw[hrec];show (d.rec_.tryIt d.jobInf).active=_;rw[s3,h.act]
 ·rw[hrec];show (d.rec_.tryIt d.jobInf).floor=_;rw[s4,h.fl]
 ·rw[hrec,nextRec_at,<-h.act,s1,h.act];exact h.at_
 ·rw[hrec,nextRec_at,<-h.act,s2,hji]
 ·rw[hrec];exact s5
 ·rw[hrec];exact s6
 ·rw[hrec,nextRec_gen];omega
 show (d.slot (1-r0.active)).take p.size.toNat=b;have hal:=hwork.alike;rw[h.job,h.does,h.act]at hal;dsimp only at hal;have hb:=busy_len hwork;rw[h.job,h.does]at hb;dsimp only at hb;have hd:=h.done;have hd1:=hwork.d0;have hle:p.size.toNat<=d.done.toNat:=by omega
 have:=congrArg (List.take p.size.toNat) hal;rw[List.take_take,List.take_take,Nat.min_eq_left hle]at this;rw[this];unfold room;have e:p.size.toNat=b.length:=by omega
 rw[e,List.take_append_of_le_length (Nat.le_refl _),List.take_length]
structure Trying(e:Dev)(r:Rec)(s0 s1:LU)(k:Int):Prop where
 ok:DevOk e
 rec_:∃g,r.gen<=g∧g<=r.gen+k∧e.rec_={nowAt r k with gen:=g}
 s0:e.s0=s0
 s1:e.s1=s1
theorem nowAt_next(h:recCheck r=0){k:Int}(hk:0<=k)(g:Int):nowAt {nowAt r k with gen:=g} 1={nowAt r (k+1)with gen:=g}∧slotAt {nowAt r k with gen:=g} 0=slotAt r k:=by
 have ht:=(recCheck_parts h).1;unfold RangeOk at ht;by_cases h1:r.trying=true
 ·by_cases h2:k<=r.tries
  ·have e1:nowAt r k={r with tries:=r.tries-k}:=by unfold nowAt;rw[if_pos h1,if_pos h2]
   by_cases h3:k+1<=r.tries
   ·have e2:nowAt r (k+1)={r with tries:=r.tries-(k+1)}:=by unfold nowAt;rw[if_pos h1,if_pos h3]
    rw[e1,e2];unfold nowAt slotAt;dsimp only;rw[if_pos h1,if_pos (by omega),if_pos ⟨h1,by omega⟩,if_pos ⟨h1,by omega⟩];refine⟨?_,rfl⟩;rw[show r.tries-k-1=r.tries-(k+1) by omega]
   have e2:nowAt r (k+1)={r with tries:=0,trying:=false}:=by unfold nowAt;rw[if_pos h1,if_neg h3]
   rw[e1,e2];unfold nowAt slotAt;dsimp only;rw[if_pos h1,if_neg (by omega),if_neg (by omega),if_neg (by omega)];exact⟨rfl,rfl⟩
  ·have e1:nowAt r k={r with tries:=0,trying:=false}:=by unfold nowAt;rw[if_pos h1,if_neg h2]
   have e2:nowAt r (k+1)={r with tries:=0,trying:=false}:=by unfold nowAt;rw[if_pos h1,if_neg (by omega)]
   rw[e1,e2];unfold nowAt slotAt;dsimp only;rw[if_neg (by simp),if_neg (by simp),if_neg (by omega)];exact⟨rfl,rfl⟩
 have e1:∀j,nowAt r j=r:=fun j=>by unfold nowAt;rw[if_neg h1]
 rw[e1,e1];unfold nowAt slotAt;dsimp only;rw[if_neg h1,if_neg (fun e=>h1 e.1),if_neg (fun e=>h1 e.1)];exact⟨rfl,rfl⟩
theorem boot_next{e:Dev}{s0 s1:LU}{k:Int}(hr:recCheck r=0)(hk:0<=k)(hg:r.gen+k<999999)(h:Trying e r s0 s1 k):
  ∃e',devBoot e.off=(e',0)∧Trying e' r s0 s1 (k+1)∧e'.up=true∧e'.running=slotAt r k∧e'.busy=false∧e'.got=[]∧e'.job=Pat.zero∧e'.done=0∧(e.up=true->devCrash e=(e.off,0)):=by
 obtain⟨o1,o2,o3,o4,o5,o6,o7⟩:=off_ok h.ok;obtain⟨g,g1,g2,hrec⟩:=h.rec_;obtain⟨b,eb⟩:=boots_of o1 o2 (by rw[o3,hrec];show g<1000000;omega);obtain⟨q1,q2,q3,q4,q5,q6,q7,q8,q9,q10⟩:=boots_rec b;obtain⟨n1,n2⟩:=nowAt_next hr hk g;rw[o3]at q4 q10;rw[hrec]at q4 q10;rw[n2]at q4;rw[n1]at q10;refine⟨_,eb,⟨boot_ok_dev b,?_,by rw[q1,o4];exact h.s0,by rw[q2,o5];exact h.s1⟩,q3,q4,q6,q5,q7,q8,fun hu=>?_⟩
 ·rcases q10 with ⟨x1,x2⟩|⟨x1,x2⟩
  ·exact⟨g,g1,by omega,x2.trans x1.symm⟩
  ·refine⟨e.off.rec_.gen+1,?_,?_,x2⟩
   ·rw[o3,hrec];show r.gen<=g+1;omega
   ·rw[o3,hrec];show g+1<=r.gen+(k+1);omega
 unfold devCrash Dev.off;rw[if_neg (by simpa using devReady_ok.2 ⟨h.ok,hu⟩),if_pos hu]
end Go.Proofs.Ytefkfglkpebbmac
