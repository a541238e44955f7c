/- StoryComes in plain words: it is sent all, is not disturbed, and comes there: step by step. No program here. -/
import Derived.Test.YtefkfglkpebbmadPXInstall
set_option linter.unusedVariables false
set_option linter.unusedSimpArgs false
set_option maxRecDepth 100000
set_option maxHeartbeats 40000000
namespace Go.Proofs.Ytefkfglkpebbmad
open Go.RowKit
variable {Y:Prop}
variable {l:List (List UInt8)} {w:Wor} {n to_:Int}
theorem Inv.to{g g':Int}(h:Inv l g w)(hg:w.d.rec_.gen<=g'):Inv l g' w:=⟨h.ok,h.rel,h.net,h.got,hg,h.slots,h.job⟩
theorem happen_dev{kind:Int}(h1:kind≠1)(h2:¬(kind=2∨kind=3∨kind=4)):worHappen w kind n=worDevice w (devAct w.d kind n):=by
 unfold worHappen;rw[if_neg h1,if_neg h2]
theorem worDevice_fine(w:Wor)(e:Dev):worDevice w (e,0)=({w with d:=e},0):=by unfold worDevice;rw[if_neg (by simp)]
theorem worDevice_bad{e:Dev}(h:n≠0):worDevice w (e,n)=(Wor.zero,n):=by unfold worDevice;rw[if_pos h]
structure CmA(l:List (List UInt8))(i:Nat)(w:Wor):Prop where
 inv:Inv l (151+i) w
 try_:∃r s0 s1,recCheck r=0∧r.gen<=151∧Trying w.d r s0 s1 i
 up:0<i->w.d.up=true∧w.d.busy=false∧w.d.got=[]
theorem cmA_start{k:Int}(h:Inv l k w)(hk:k<=151):CmA l 0 w:=by
 have hg:=h.gen;have hr:=rec_ok h.ok.dev;refine⟨h.to (by simp;omega),⟨w.d.rec_,w.d.s0,w.d.s1,hr,by omega,h.ok.dev,⟨w.d.rec_.gen,Int.le_refl _,by simp,?_⟩,rfl,rfl⟩,fun h=>absurd h (Nat.lt_irrefl 0)⟩
 show w.d.rec_={nowAt w.d.rec_ ((0:Nat):Int)with gen:=w.d.rec_.gen};rw[Int.natCast_zero,nowAt_0 hr]
theorem cmA_crash{i:Nat}(h:CmA l i w):stoStep w (9,0)={w with d:=w.d.off}∧((worDo w 9 0).2=0->(worDo w 9 0).1={w with d:=w.d.off})∧((worDo w 9 0).2≠0->w={w with d:=w.d.off}):=by
 have e:worDo w 9 0=worDevice w (devCrash w.d):=by
  rw[worDo_ok h.inv.ok,happen_dev (by decide) (by decide)];unfold devAct;simp
 unfold stoStep
 show (if (worDo w 9 0).2=0 then (worDo w 9 0).1 else w)=_∧_;rw[e]
 cases hu:w.d.up
 ·have e1:devCrash w.d=(Dev.zero,5):=by
   have hr:devReady w.d=5:=by
    unfold devReady;rw[if_neg (by simpa using devCheck_ok.2 h.inv.ok.dev),if_pos hu]
   unfold devCrash;rw[hr,if_pos (by decide)]
  have e2:w.d.off=w.d:=by unfold Dev.off;rw[hu];rfl
  rw[e1,worDevice_bad (by decide),if_neg (by decide),e2];exact⟨rfl,fun h=>by simp at h,fun _=>rfl⟩
 have e1:devCrash w.d=(w.d.off,0):=by
  unfold devCrash Dev.off;rw[if_neg (by simpa using devReady_ok.2 ⟨h.inv.ok.dev,hu⟩),if_pos hu]
 rw[e1,worDevice_fine,if_pos rfl];exact⟨rfl,fun _=>rfl,fun h=>absurd rfl h⟩
theorem cmA_boot{i:Nat}(h:CmA l i w)(hi:i<5):∃w',worDo {w with d:=w.d.off} 10 0=(w',0)∧CmA l (i+1) w':=by
 obtain⟨r,s2,s1,hr,hg,ht⟩:=h.try_;obtain⟨e,b1,b2,b3,b4,b5,b6,b7,b8,b9⟩:=boot_next hr (Int.natCast_nonneg i) (by omega) ht;obtain⟨c1,c2,c3⟩:=cmA_crash h;have hinv:Inv l (151+i) {w with d:=w.d.off}:=by
  have h1:=(step_inv h.inv (9,0)).1;rw[c1]at h1;refine h1.to ?_
  show w.d.off.rec_.gen<=_;rw[(off_ok h.inv.ok.dev).2.2.1];exact h.inv.gen
 have eq:worDo {w with d:=w.d.off} 10 0=({w with d:=e},0):=by
  rw[worDo_ok hinv.ok,happen_dev (by decide) (by decide)]
  show worDevice _ (devAct w.d.off 10 0)=_;have:devAct w.d.off 10 0=(e,0):=by rw[<-b1];unfold devAct;simp
  rw[this,worDevice_fine]
 have h1:=(step_inv hinv (10,0)).1;have:stoStep {w with d:=w.d.off} (10,0)={w with d:=e}:=by
  unfold stoStep
  show (if (worDo {w with d:=w.d.off} 10 0).2=0 then (worDo {w with d:=w.d.off} 10 0).1 else _)=_;rw[eq,if_pos rfl]
 rw[this]at h1;refine⟨_,eq,⟨?_,⟨r,s2,s1,hr,hg,by push_cast;exact b2⟩,fun _=>⟨b3,b5,b6⟩⟩⟩;have:((i+1:Nat):Int)=(i:Int)+1:=by omega
 rw[this,<-Int.add_assoc];exact h1
structure CmB(l:List (List UInt8))(w:Wor):Prop where
 inv:Inv l 200 w
 up:w.d.up=true
 idle:w.d.busy=false
 got:w.d.got=[]
 tr:w.d.rec_.trying=false
theorem CmA.calm(h:CmA l 5 w):CmB l w:=by
 obtain⟨h1,h2,h3⟩:=h.up (by decide);obtain⟨r,s2,s1,hr,hg,ht⟩:=h.try_;refine⟨h.inv.to (by have:=h.inv.gen;simp at this;omega),h1,h2,h3,?_⟩;obtain⟨g,_,_,e⟩:=ht.rec_;rw[e]
 show (nowAt r ((5:Nat):Int)).trying=false;have:=(recCheck_parts hr).1;unfold RangeOk at this;unfold nowAt;by_cases ht:r.trying=true
 ·rw[if_pos ht,if_neg (by simp;omega)]
 rw[if_neg ht];simpa using ht
theorem cmB_lose(h:CmB l w)(hn:0<w.net.length):∃w',worDo w 4 0=(w',0)∧CmB l w'∧w'.net.length+1=w.net.length:=by
 have e:worDo w 4 0=(⟨w.rel,w.d,w.net.eraseIdx 0⟩,0):=by
  rw[worDo_ok h.inv.ok];unfold worHappen worHear;rw[if_neg (by decide),if_pos (by decide),if_neg (by omega),if_neg (by simp)];simp
 have h1:=(step_inv h.inv (4,0)).1;have:stoStep w (4,0)=⟨w.rel,w.d,w.net.eraseIdx 0⟩:=by
  unfold stoStep
  show (if (worDo w 4 0).2=0 then (worDo w 4 0).1 else _)=_;rw[e,if_pos rfl]
 rw[this]at h1;refine⟨_,e,⟨h1.to h.inv.gen,h.up,h.idle,h.got,h.tr⟩,?_⟩
 show (w.net.eraseIdx 0).length+1=w.net.length;rw[List.length_eraseIdx_of_lt hn];omega
structure CmC(l:List (List UInt8))(to_:Int)(j:Nat)(w:Wor):Prop where
 b:Inv l 200 w∧w.d.up=true∧w.d.busy=false∧w.d.rec_.trying=false
 ti:InRel l to_
 fl:w.d.rec_.floor<=to_
 net:w.net=(chunksOf (mk l w.d.good to_) (bytesOf (mk l w.d.good to_))).take j
 jn:j<=nOf (bytesOf (mk l w.d.good to_))
 got:w.d.got=gotS (mk l w.d.good to_) (bytesOf (mk l w.d.good to_)) (fun k=>decide (j<=k))
theorem chunks_len(p:Pat)(b:LU):(chunksOf p b).length=nOf b:=by unfold chunksOf nOf;simp
theorem cmC_start(h:CmB l w)(hn:w.net.length=0)(ht:InRel l to_)(hf:w.d.rec_.floor<=to_):∃w' j,worDo w 1 to_=(w',0)∧CmC l to_ j w'∧j<=10:=by
 obtain⟨gi,im⟩:=h.inv.goodIn;obtain⟨m1,m2,m3⟩:=mk_ok h.inv.relOk gi ht;obtain⟨c1,c2,c3⟩:=cut_ok m2;have hnet:w.net=[]:=List.length_eq_zero_iff.1 hn;have hl:=chunks_len (mk l w.d.good to_) (bytesOf (mk l w.d.good to_));have e:worDo w 1 to_=({w with net:=chunksOf (mk l w.d.good to_) (bytesOf (mk l w.d.good to_))},0):=by
  rw[worDo_ok h.inv.ok];unfold worHappen worSend;have hrel:=h.inv.rel;unfold InRel at gi ht;rw[if_pos rfl,hrel,if_neg (by omega),m1];dsimp only;rw[if_neg (by simp),c1];dsimp only;rw[if_neg (by simp),if_neg (by rw[hl,hn];omega),hnet];rfl
 have h1:=(step_inv h.inv (1,to_)).1;have:stoStep w (1,to_)={w with net:=chunksOf (mk l w.d.good to_) (bytesOf (mk l w.d.good to_))}:=by
  unfold stoStep
  show (if (worDo w 1 to_).2=0 then (worDo w 1 to_).1 else _)=_;rw[e,if_pos rfl]
 rw[this]at h1;refine⟨_,nOf (bytesOf (mk l w.d.good to_)),e,⟨⟨h1.to h.inv.gen,h.up,h.idle,h.tr⟩,ht,hf,?_,Nat.le_refl _,?_⟩,c3⟩
 ·show chunksOf (mk l w.d.good to_) (bytesOf (mk l w.d.good to_))=_;rw[<-hl,List.take_length]
 show w.d.got=_;rw[gotS_none (fun j hj=>by simp;omega)];exact h.got
theorem cmC_hear{j:Nat}(h:CmC l to_ (j+1) w):w.net.length=j+1∧∃w',worDo w 2 j=(w',0)∧CmC l to_ j w':=by
 obtain⟨inv,up,idle,tr⟩:=h.b;obtain⟨gi,im⟩:=inv.goodIn;obtain⟨m1,m2,m3⟩:=mk_ok inv.relOk gi h.ti;have hjn:=h.jn;have hnet:=h.net;have hlen:w.net.length=j+1:=by rw[hnet,List.length_take,chunks_len];omega
 obtain⟨d1,d2⟩:=hear_one inv.ok.dev up idle m2 h.got (k:=j) (by omega);have hS:gotS (mk l w.d.good to_) (bytesOf (mk l w.d.good to_)) (fun k=>decide (j+1<=k) || k==j)=gotS (mk l w.d.good to_) (bytesOf (mk l w.d.good to_)) (fun k=>decide (j<=k)):=gotS_congr (fun k hk=>by
  by_cases e:k=j
  ·subst e;simp
  have:(k==j)=false:=by simpa using e
  rw[this,Bool.or_false];exact decide_eq_decide.2 (by omega))
 rw[hS]at d1 d2;have hat:w.net.getD j Chk.zero=chunkAt (mk l w.d.good to_) (bytesOf (mk l w.d.good to_)) (nOf (bytesOf (mk l w.d.good to_))) j:=by
  rw[hnet,List.getD_eq_getElem?_getD,List.getElem?_take_of_lt (by omega)];unfold chunksOf;rw[List.getElem?_map,List.getElem?_range (by unfold nOf at hjn;omega)];rfl
 have her:w.net.eraseIdx j=(chunksOf (mk l w.d.good to_) (bytesOf (mk l w.d.good to_))).take j:=by
  rw[List.eraseIdx_eq_take_drop_succ,List.drop_eq_nil_of_le (by omega),List.append_nil,hnet,List.take_take,Nat.min_eq_left (by omega)]
 refine⟨hlen,?_⟩;have e:worDo w 2 j=(⟨w.rel,{w.d with got:=gotS (mk l w.d.good to_) (bytesOf (mk l w.d.good to_)) (fun k=>decide (j<=k))},(chunksOf (mk l w.d.good to_) (bytesOf (mk l w.d.good to_))).take j⟩,0):=by
  rw[worDo_ok inv.ok];unfold worHappen worHear;rw[if_neg (by decide),if_pos (by decide),if_neg (by omega),Int.toNat_natCast,hat,d1,her,if_neg (by simp),if_pos (by decide),if_pos (by decide)]
 have h1:=(step_inv inv (2,(j:Int))).1;have:stoStep w (2,(j:Int))=⟨w.rel,{w.d with got:=gotS (mk l w.d.good to_) (bytesOf (mk l w.d.good to_)) (fun k=>decide (j<=k))},(chunksOf (mk l w.d.good to_) (bytesOf (mk l w.d.good to_))).take j⟩:=by
  unfold stoStep
  show (if (worDo w 2 j).2=0 then (worDo w 2 j).1 else _)=_;rw[e,if_pos rfl]
 rw[this]at h1;exact⟨_,e,⟨⟨h1.to inv.gen,up,idle,tr⟩,h.ti,h.fl,rfl,Nat.le_of_succ_le hjn,rfl⟩⟩
def CmD(l:List (List UInt8))(to_:Int)(n:Int)(w:Wor):Prop:=
 ∃p r0 sa run,Inv l 300 w∧InRel l to_∧p.to_=to_∧patCheck p=0∧r0.floor<=to_∧r0.gen<=200∧Work w.d p (relAt l to_) r0 sa run n
theorem step_of{g:Int}{w':Wor}{kind:Int}(h:Inv l g w)(e:worDo w kind n=(w',0)):Inv l (g+1) w':=by
 have h1:=(step_inv h (kind,n)).1;have:stoStep w (kind,n)=w':=by
  unfold stoStep
  show (if (worDo w kind n).2=0 then (worDo w kind n).1 else _)=_;rw[e,if_pos rfl]
 rwa [this]at h1
theorem cmD_open(h:CmC l to_ 0 w):∃w',worDo w 5 0=(w',0)∧CmD l to_ 0 w':=by
 obtain⟨inv,up,idle,tr⟩:=h.b;obtain⟨gi,im⟩:=inv.goodIn;obtain⟨m1,m2,m3⟩:=mk_ok inv.relOk gi h.ti;have hg:=inv.gen;have hfit:Fits w.d (mk l w.d.good to_) (relAt l to_):=⟨inv.ok.dev,up,idle,tr,m2,rfl,h.fl,by rw[im];exact m3,by omega⟩;obtain⟨e,e1,e2⟩:=open_fits hfit (by rw[h.got];exact gotS_full (fun j hj=>by simp));have eq:worDo w 5 0=({w with d:=e},0):=by
  rw[worDo_ok inv.ok,happen_dev (by decide) (by decide)];have:devAct w.d 5 0=(e,0):=by rw[<-e1];unfold devAct;simp
  rw[this,worDevice_fine]
 exact⟨_,eq,_,_,_,_,(step_of inv eq).to (by have:=(step_of inv eq).gen;omega),h.ti,rfl,m2,h.fl,hg,e2⟩
theorem cmD_write(h:CmD l to_ n w):(w.d.done=n)∧((∃w',worDo w 6 0=(w',0)∧CmD l to_ (n+8) w'∧n<64)∨(worDo w 6 0=(Wor.zero,5)∧∃w',worDo w 7 0=(w',0)∧∃p r0 sa run,Inv l 301 w'∧InRel l to_∧p.to_=to_∧r0.floor<=to_∧r0.gen<=200∧Tried w'.d p (relAt l to_) r0 sa run)):=by
 obtain⟨p,r1,sa,run,inv,ht,hp,hc,hf,hg,hw⟩:=h;refine⟨hw.done,?_⟩;have hgen:=hw.gen;by_cases hn:n<p.size
 ·left
  obtain⟨e,e1,e2⟩:=hw.write hn 0;have eq:worDo w 6 0=({w with d:=e},0):=by
   rw[worDo_ok inv.ok,happen_dev (by decide) (by decide)];have:devAct w.d 6 0=(e,0):=by rw[<-e1];unfold devAct;simp
   rw[this,worDevice_fine]
  have hs:=(patCheck_ok.1 hc).2.s1;exact⟨_,eq,⟨p,r1,sa,run,(step_of inv eq).to (by show e.rec_.gen<=300;rw[e2.gen];omega),ht,hp,hc,hf,hg,e2⟩,by omega⟩
 right
 have e1:=hw.stop hn false 0;refine⟨?_,?_⟩
 ·rw[worDo_ok inv.ok,happen_dev (by decide) (by decide)];have:devAct w.d 6 0=(Dev.zero,5):=by rw[<-e1];unfold devAct;simp
  rw[this,worDevice_bad (by decide)]
 obtain⟨e,f1,f2⟩:=hw.finish (by omega) hc (by rw[hp];exact hf) (by omega);have eq:worDo w 7 0=({w with d:=e},0):=by
  rw[worDo_ok inv.ok,happen_dev (by decide) (by decide)];have:devAct w.d 7 0=(e,0):=by rw[<-f1];unfold devAct;simp
  rw[this,worDevice_fine]
 exact⟨_,eq,p,r1,sa,run,step_of inv eq,ht,hp,hf,hg,f2⟩
theorem cm_end{p:Pat}{b:LU}{r0:Rec}{sa:LU}{run:Int}(inv:Inv l 301 w)(ht:InRel l to_)(hp:p.to_=to_)(hf:r0.floor<=to_)(hg:r0.gen<=200)(h:Tried w.d p b r0 sa run):
  ∃w1 w2 w3,worDo w 9 0=(w1,0)∧worDo w1 10 0=(w2,0)∧worDo w2 8 0=(w3,0)∧∃g,Inv l g w3∧g<999999∧stoRuns w3=(to_,relAt l to_,0)∧stoNext w3=(to_,0):=by
 obtain⟨o1,o2,o3,o4,o5,o6,o7⟩:=off_ok inv.ok.dev;have hgen:=h.gen;have hr:=rec_ok inv.ok.dev;have hact:=rec_active hr;have e1:worDo w 9 0=({w with d:=w.d.off},0):=by
  have e2:devCrash w.d=(w.d.off,0):=by
   unfold devCrash Dev.off;rw[if_neg (by simpa using devReady_ok.2 ⟨inv.ok.dev,h.up⟩),if_pos h.up]
  rw[worDo_ok inv.ok,happen_dev (by decide) (by decide)];have:devAct w.d 9 0=(w.d.off,0):=by rw[<-e2];unfold devAct;simp
  rw[this,worDevice_fine]
 have i1:=step_of inv e1;obtain⟨b,eb⟩:=boots_of o1 o2 (by rw[o3];omega);have e2:worDo {w with d:=w.d.off} 10 0=({w with d:=w.d.off.boots},0):=by
  rw[worDo_ok i1.ok,happen_dev (by decide) (by decide)]
  show worDevice _ (devAct w.d.off 10 0)=_;have:devAct w.d.off 10 0=(w.d.off.boots,0):=by rw[<-eb];unfold devAct;simp
  rw[this,worDevice_fine]
 have i2:=step_of i1 e2;obtain⟨a1,a2,a3,a4,a5⟩:=boots_at b;obtain⟨q1,q2,q3,q4,q5,q6,q7,q8,q9,q10⟩:=boots_rec b;rw[o3]at a1 a2 a3 a4 a5 q4;have hslot:slotAt w.d.rec_ 0=1-w.d.rec_.active:=by unfold slotAt;rw[if_pos ⟨h.tr,by rw[h.ts];decide⟩]
 have hnow:(nowAt w.d.rec_ 1).trying=true:=by unfold nowAt;rw[if_pos h.tr,if_pos (by rw[h.ts];decide)];exact h.tr
 rw[hslot]at q4;rw[hnow]at a4;have hgb:w.d.off.boots.rec_.gen<=303:=i2.gen;have hok1:DevOk w.d.off.boots:=boot_ok_dev b;have hr1:=rec_ok hok1;have hot:(w.d.off.boots.rec_.at_ (1-w.d.off.boots.rec_.active)).ver=to_:=by
  rw[a1,a3,h.act,h.ot];exact hp
 have hrc:recCheck (recDone w.d.off.boots.rec_)=0:=by
  obtain⟨p1,p2,p3,p4⟩:=recCheck_parts hr1;unfold RangeOk at p1;have hrel:=(relAt_len inv.relOk ht).2.1;unfold InRel at ht;refine recCheck_ok ?_ p2 p3 ?_
  ·unfold RangeOk recDone;dsimp only;rw[hot];omega
  unfold FormOk at p4⊢;unfold recDone;have hat:∀k,(⟨w.d.off.boots.rec_.gen,1-w.d.off.boots.rec_.active,false,0,max w.d.off.boots.rec_.floor (w.d.off.boots.rec_.at_ (1-w.d.off.boots.rec_.active)).ver,w.d.off.boots.rec_.a,w.d.off.boots.rec_.b⟩:Rec).at_ k=w.d.off.boots.rec_.at_ k:=fun k=>rfl;rw[hat,hat];dsimp only;have:=p4.2.1 a4;refine⟨this.1,fun e=>(by cases e),fun _=>rfl,by omega⟩
 have hw1:(recWrite w.d.off.boots.c0 w.d.off.boots.c1 (recDone w.d.off.boots.rec_) false).2=0:=by
  have hrn:recCheck (nextRec w.d.off.boots.c0 w.d.off.boots.c1 (recDone w.d.off.boots.rec_))=0:=by
   obtain⟨p1,p2,p3,p4⟩:=recCheck_parts hrc;refine recCheck_ok ?_ p2 p3 p4;unfold RangeOk at p1⊢
   show 1<=w.d.off.boots.rec_.gen+1∧w.d.off.boots.rec_.gen+1<=1000000∧_;have p1':1<=w.d.off.boots.rec_.gen∧_:=p1;exact⟨by omega,by omega,p1.2.2⟩
  rw[(write_torn hok1.cops hrn).1]
 have e3':devConfirm w.d.off.boots=(w.d.off.boots.write (recDone w.d.off.boots.rec_) false,0):=by
  have hc:recConfirm w.d.off.boots.rec_=(recDone w.d.off.boots.rec_,0):=by unfold recConfirm;rw[if_pos hr1,if_pos a4]
  unfold devConfirm;rw[if_neg (by simpa using devReady_ok.2 ⟨hok1,q3⟩),if_neg (by rw[q4,a1];omega),hc];dsimp only;rw[if_neg (by simp),if_neg (by simpa using hw1)]
 have e3:worDo {w with d:=w.d.off.boots} 8 0=({w with d:=w.d.off.boots.write (recDone w.d.off.boots.rec_) false},0):=by
  rw[worDo_ok i2.ok,happen_dev (by decide) (by decide)]
  show worDevice _ (devAct w.d.off.boots 8 0)=_;have:devAct w.d.off.boots 8 0=(w.d.off.boots.write (recDone w.d.off.boots.rec_) false,0):=by rw[<-e3'];unfold devAct;simp
  rw[this,worDevice_fine]
 have i3:=step_of i2 e3;have hz1:(devConfirm w.d.off.boots).2=0:=by rw[e3']
 obtain⟨k1,k2,k3⟩:=confirm_ok_dev hz1;rw[e3']at k1 k2;dsimp only at k1 k2;have hrec:(w.d.off.boots.write (recDone w.d.off.boots.rec_) false).rec_=nextRec w.d.off.boots.c0 w.d.off.boots.c1 (recDone w.d.off.boots.rec_):=k2;refine⟨_,_,_,e1,e2,e3,_,i3,by decide,?_,?_⟩
 ·obtain⟨v,v1,v2,v3,v4⟩:=runs_release i3 (show w.d.off.boots.up=true from q3);have hv:v=to_:=by
   rw[v3]
   show ((w.d.off.boots.write (recDone w.d.off.boots.rec_) false).rec_.at_ w.d.off.boots.running).ver=to_;rw[hrec,nextRec_at,q4,<-a1];exact hot
  rw[v2,hv]
 obtain⟨n1,n2⟩:=next_is i3.ok (by have:=i3.gen;omega);rw[n1]
 show ((w.d.off.boots.write (recDone w.d.off.boots.rec_) false).nextVer,(0:Int))=(to_,0);have:(w.d.off.boots.write (recDone w.d.off.boots.rec_) false).nextVer=to_:=by
  unfold Dev.nextVer;rw[hrec,nextRec_at];exact hot
 rw[this]
end Go.Proofs.Ytefkfglkpebbmad
