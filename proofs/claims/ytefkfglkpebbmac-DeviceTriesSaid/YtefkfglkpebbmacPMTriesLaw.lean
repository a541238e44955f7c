/- Walks of functions, and plain words. No conditions. -/
import Derived.Test.YtefkfglkpebbmacPMInstall
set_option linter.unusedVariables false
set_option linter.unusedSimpArgs false
set_option maxRecDepth 100000
set_option maxHeartbeats 40000000
namespace Go.Proofs.Ytefkfglkpebbmac
open Go.RowKit
variable {Y:Prop}
theorem newDev_ok{b:LU}(hb:b.length<=64):DevOk (newDev b)∧(newDev b).rec_=⟨1,0,false,0,1,⟨1,b.length,sumOn 1 b⟩,Inf.zero⟩:=by
 have h:relCheck [b]=0:=relCheck_ok.2 ⟨by simp,by simp,fun x hx=>by simp at hx;rw[hx];exact hb⟩;refine⟨(inv_new h).1.ok.dev,?_⟩;unfold Dev.rec_ recRead newer newDev;simp[Cop.zero]
def trP(old b:LU)(to_:Int):Pat:=⟨1,to_,sumOn 1 old,sumOn 1 b,b.length,diffed old b⟩
theorem trP_ok{old b:LU}{to_:Int}(ho:old.length<=64)(hb:b.length<=64)(ht:1<=to_∧to_<=30):patMake (sumOn 1) 1 to_ old b=(trP old b to_,0)∧patCheck (trP old b to_)=0∧patDo (sumOn 1) (trP old b to_) old=(b,0):=
 patMake_ok sum_bd (by omega) ht ho hb
structure TrB(old b:LU)(to_ G:Int)(k:Nat)(d:Dev):Prop where
 fits:Fits d (trP old b to_) b
 got:d.got=gotS (trP old b to_) (bytesOf (trP old b to_)) (fun j=>decide (j<k))
 act:d.rec_.active=0
 fl:d.rec_.floor=1
 s0:d.s0=room old
 at0:d.rec_.at_ 0=⟨1,old.length,sumOn 1 old⟩
 gen:d.rec_.gen<=G
 run:d.running=0
section
variable {old b:LU} {to_ G:Int} {k:Nat} {d:Dev}
theorem tr_room:(room old).take old.length=old:=by unfold room;rw[List.take_append_of_le_length (Nat.le_refl _),List.take_length]
theorem tr_fits(ho:old.length<=64)(hb:b.length<=64)(ht:1<=to_∧to_<=30)(ok:DevOk d)(hu:d.up=true)(hi:d.busy=false)(htr:d.rec_.trying=false)(hact:d.rec_.active=0)(hfl:d.rec_.floor=1)(hs:d.s0=room old)(hat:d.rec_.at_ 0=⟨1,old.length,sumOn 1 old⟩)(hg:d.rec_.gen<999000):
  Fits d (trP old b to_) b:=by
 obtain⟨m1,m2,m3⟩:=trP_ok (old:=old) (b:=b) ho hb ht;refine⟨ok,hu,hi,htr,m2,?_,by rw[hfl];exact ht.1,?_,hg⟩
 ·unfold Dev.good;rw[hact,hat];rfl
 have im:d.image d.rec_.active d.rec_=old:=by
  unfold Dev.image;rw[hact,hat]
  show (d.slot 0).take ((old.length:Int)).toNat=old;rw[show d.slot 0=d.s0 from rfl,hs,Int.toNat_natCast,tr_room]
 rw[im];exact m3
theorem tr_start(ho:old.length<=64)(hb:b.length<=64)(ht:1<=to_∧to_<=30):TrB old b to_ 1 0 (newDev old):=by
 obtain⟨ok,hr⟩:=newDev_ok ho;have hat:(newDev old).rec_.at_ 0=⟨1,old.length,sumOn 1 old⟩:=by rw[hr];rfl
 refine⟨tr_fits ho hb ht ok rfl rfl (by rw[hr]) (by rw[hr]) (by rw[hr]) rfl hat (by rw[hr];simp),?_,by rw[hr],by rw[hr],rfl,hat,by rw[hr];simp,rfl⟩;rw[gotS_none (fun j _=>by simp)];rfl
theorem tr_hear(h:TrB old b to_ G k d)(hk:k<(chunksOf (trP old b to_) (bytesOf (trP old b to_))).length):∃e,devHear d ((chunksOf (trP old b to_) (bytesOf (trP old b to_)))[k])=(e,0)∧TrB old b to_ G (k+1) e:=by
 have hlen:(chunksOf (trP old b to_) (bytesOf (trP old b to_))).length=nOf (bytesOf (trP old b to_)):=by unfold chunksOf nOf;simp
 obtain⟨e1,e2⟩:=hear_one h.fits.ok h.fits.up h.fits.idle h.fits.pc h.got (by rw[<-hlen];exact hk);have hS:gotS (trP old b to_) (bytesOf (trP old b to_)) (fun j=>decide (j<k) || j==k)=gotS (trP old b to_) (bytesOf (trP old b to_)) (fun j=>decide (j<k+1)):=gotS_congr (fun j _=>by
  by_cases e:j=k
  ·subst e;simp
  have:(j==k)=false:=by simpa using e
  rw[this,Bool.or_false];exact decide_eq_decide.2 (by omega))
 rw[hS]at e1 e2;have hat:(chunksOf (trP old b to_) (bytesOf (trP old b to_)))[k]=chunkAt (trP old b to_) (bytesOf (trP old b to_)) (nOf (bytesOf (trP old b to_))) k:=by
  have h1:(chunksOf (trP old b to_) (bytesOf (trP old b to_)))[k]?=some (chunkAt (trP old b to_) (bytesOf (trP old b to_)) (nOf (bytesOf (trP old b to_))) k):=by
   rw[hlen]at hk;unfold chunksOf;rw[List.getElem?_map,List.getElem?_range (by unfold nOf at hk;omega)];rfl
  rw[List.getElem?_eq_getElem hk]at h1;injection h1
 rw[hat];exact⟨_,e1,h.fits.got e2,rfl,h.act,h.fl,h.s0,h.at0,h.gen,h.run⟩
def TrW(old b:LU)(to_ G:Int)(n:Int)(d:Dev):Prop:=
 ∃r0,Work d (trP old b to_) b r0 (room old) 0 n∧r0.active=0∧r0.floor=1∧r0.at_ 0=⟨1,old.length,sumOn 1 old⟩∧r0.gen<=G
theorem tr_open(h:TrB old b to_ G k d)(hk:nOf (bytesOf (trP old b to_))<=k):∃e,devOpen d=(e,0)∧TrW old b to_ G 0 e:=by
 obtain⟨e,e1,e2⟩:=open_fits h.fits (by rw[h.got];exact gotS_full (fun j hj=>by simp;omega));refine⟨e,e1,d.rec_,?_,h.act,h.fl,h.at0,h.gen⟩;have:d.slot d.rec_.active=room old:=by rw[h.act];exact h.s0
 rw[this,h.run]at e2;exact e2
variable {n:Int}
theorem tr_write(h:TrW old b to_ G n d)(hn:n<b.length)(keep:Int):∃e,devWrite d false keep=(e,0)∧TrW old b to_ G (n+8) e:=by
 obtain⟨r1,hw,h1⟩:=h;obtain⟨e,e1,e2⟩:=hw.write hn keep;exact⟨e,e1,r1,e2,h1⟩
theorem tr_stop(h:TrW old b to_ G n d)(hn:¬n<b.length)(torn:Bool)(keep:Int):devWrite d torn keep=(Dev.zero,5):=by
 obtain⟨r1,hw,h1⟩:=h;exact hw.stop hn torn keep
structure TrT(old b:LU)(to_ G:Int)(r:Rec)(k:Nat)(d:Dev):Prop where
 try_:∃s1,Trying d r (room old) s1 k
 chk:recCheck r=0
 gen:r.gen<=G
 act:r.active=0
 fl:r.floor=1
 at0:r.at_ 0=⟨1,old.length,sumOn 1 old⟩
 at1:r.at_ 1=⟨to_,b.length,sumOn 1 b⟩
 tr:r.trying=true
 ts:r.tries=3
 up:d.up=true
 idle:d.busy=false
 got:0<k->d.got=[]
 run:d.running=if 0<k∧k<=3 then 1 else 0
theorem tr_finish(h:TrW old b to_ G n d)(hn:(b.length:Int)<=n)(hG:G<999000)(ho:old.length<=64)(hb:b.length<=64)(ht:1<=to_∧to_<=30):
  ∃e,devFinish d false=(e,0)∧e.s1.take b.length=b∧TrT old b to_ (G+2) e.rec_ 0 e:=by
 obtain⟨r1,hw,h1,h2,h3,h4⟩:=h;obtain⟨m1,m2,m3⟩:=trP_ok (old:=old) (b:=b) ho hb ht;obtain⟨e,e1,t⟩:=hw.finish hn m2 (by rw[h2];exact ht.1) (by omega);have hr:=rec_ok t.ok;have hact:e.rec_.active=0:=by rw[t.act,h1]
 have s2:e.s0=room old:=by have:=t.sl;rw[h1]at this;exact this
 have so:=t.so;rw[h1]at so;refine⟨e,e1,?_,⟨e.s1,t.ok,⟨e.rec_.gen,Int.le_refl _,by simp,?_⟩,s2,rfl⟩,hr,by rw[t.gen];omega,hact,by rw[t.fl,h2],?_,?_,t.tr,t.ts,t.up,t.idle,fun e=>absurd e (Nat.lt_irrefl 0),?_⟩
 ·have:e.slot (1-0)=e.s1:=rfl;rw[this]at so;have e2:((trP old b to_).size).toNat=b.length:=by show ((b.length:Int)).toNat=_;simp
  rw[e2]at so;exact so
 ·show e.rec_={nowAt e.rec_ ((0:Nat):Int)with gen:=e.rec_.gen};rw[Int.natCast_zero,nowAt_0 hr]
 ·have:=t.at_;rw[h1,h3]at this;exact this
 ·have:=t.ot;rw[h1]at this;exact this
 rw[t.run,if_neg (by omega)]
variable {r:Rec}
theorem tr_crash(h:TrT old b to_ G r k d):devCrash d=(d.off,0)∧DevOk d.off∧d.off.up=false:=by
 obtain⟨s1,t⟩:=h.try_;refine⟨?_,(off_ok t.ok).1,(off_ok t.ok).2.1⟩;unfold devCrash Dev.off;rw[if_neg (by simpa using devReady_ok.2 ⟨t.ok,h.up⟩),if_pos h.up]
theorem tr_boot(h:TrT old b to_ G r k d)(hk:k<=3)(hG:G<999000):∃e,devBoot d.off=(e,0)∧TrT old b to_ G r (k+1) e∧e.running=(if k<3 then 1 else 0):=by
 obtain⟨s1,t⟩:=h.try_;have hg:=h.gen;obtain⟨e,b1,b2,b3,b4,b5,b6,b7,b8,b9⟩:=boot_next h.chk (Int.natCast_nonneg k) (by omega) t;have hrun:e.running=if k<3 then 1 else 0:=by
  rw[b4];unfold slotAt;rw[h.act,h.ts];by_cases h1:k<3
  ·rw[if_pos ⟨h.tr,by omega⟩,if_pos h1];rfl
  rw[if_neg (fun x=>by have:=x.2;omega),if_neg h1]
 refine⟨e,b1,⟨⟨s1,b2⟩,h.chk,h.gen,h.act,h.fl,h.at0,h.at1,h.tr,h.ts,b3,b5,fun _=>b6,?_⟩,hrun⟩;rw[hrun];by_cases h1:k<3
 ·rw[if_pos h1,if_pos ⟨by omega,by omega⟩]
 rw[if_neg h1,if_neg (by omega)]
theorem tr_again(h:TrT old b to_ G r 4 d)(hG:G<998000)(ho:old.length<=64)(hb:b.length<=64)(ht:1<=to_∧to_<=30):TrB old b to_ (G+4) 0 d∧d.rec_.trying=false:=by
 obtain⟨s1,t⟩:=h.try_;obtain⟨g,g1,g2,hrec⟩:=t.rec_;have hg:=h.gen;have hn:nowAt r ((4:Nat):Int)={r with tries:=0,trying:=false}:=by
  unfold nowAt;rw[if_pos h.tr,if_neg (by rw[h.ts];omega)]
 rw[hn]at hrec;have hact:d.rec_.active=0:=by rw[hrec];exact h.act
 have hfl:d.rec_.floor=1:=by rw[hrec];exact h.fl
 have hat:d.rec_.at_ 0=⟨1,old.length,sumOn 1 old⟩:=by rw[hrec];exact h.at0
 have htr:d.rec_.trying=false:=by rw[hrec]
 have hgen:d.rec_.gen<=G+4:=by
  rw[hrec];show g<=G+4;have:((4:Nat):Int)=4:=rfl;omega
 refine⟨⟨tr_fits ho hb ht t.ok h.up h.idle htr hact hfl t.s0 hat (by omega),?_,hact,hfl,t.s0,hat,hgen,?_⟩,htr⟩
 ·rw[gotS_none (fun j _=>by simp)];exact h.got (by omega)
 rw[h.run,if_neg (by omega)]
end
end Go.Proofs.Ytefkfglkpebbmac
