/- The walk of the law StoryComes. No conditions. -/
import Derived.Test.YtefkfglkpebbmadPXPlayedStoryComes
import Derived.Test.YtefkfglkpebbmadPXComesDo
import Derived.Test.YtefkfglkpebbmadPXAtFn
set_option linter.unusedVariables false
set_option linter.unusedSimpArgs false
set_option maxRecDepth 100000
set_option maxHeartbeats 40000000
namespace Go.Proofs.Ytefkfglkpebbmad
open Go.RowKit
variable {Y:Prop}
def netLen(w:World)(g:Nat):Nat:=match ((rowOf w g)[38]?:Option Value)with
 |some (Value.slice _ n _)=>n
 |_=>0
def doneLeft(w:World)(g:Nat):Nat:=match ((rowOf w g)[37]?:Option Value)with
 |some (Value.int _ d)=>(100-d).toNat
 |_=>0
theorem WoB.net{w:World}{g:Nat}{x:Wor}{L:WLoc}(h:WoB w g x L):netLen w g=x.net.length:=by unfold netLen;rw[h.row,worA_get38]
theorem WoB.done{w:World}{g:Nat}{x:Wor}{L:WLoc}(h:WoB w g x L):doneLeft w g=(100-x.d.done).toNat:=by unfold doneLeft;rw[h.row,worA_get37]
theorem comesOk_calls(x:Wor)(L:WLoc)(w:World):Calls Try.prog 14 #[.agg (worA x L)] w (RetB w (.bool true)):=by
 go_enter Try.func14,Try.ntmps14;exact x61i
theorem StoryComes_walk(W:World)(v0 v1 v2:Value)(x0:List (List UInt8))(x1:List (Int×Int))(to_:Int)(g0:ArgImgs W v0 x0)(g1:ArgHaps W v1 x1)(g2:v2=iv to_∧I64 to_):Calls Try.prog 5 #[v0,v1,v2] W (RetB W (.bool true)):=by
 obtain⟨A,c,rfl,hc,hl,hi⟩:=g0;obtain⟨B,e,rfl,he,hsl,hh⟩:=g1;obtain⟨rfl,ht1,ht2⟩:=g2;have KR:=qH (fun w=>runs_calls w);have KP:Hid (Calls Try.prog 6 #[.slice A x0.length c,.slice B x1.length e,.func (Fn.func 14) #[] #[]] W (PlRet W none x0 x1)):=qH (by
  refine playedStoryComes_calls none (fun _ _=>True) 1 A c x0 B e x1 W hc hl hi he hsl hh (fun k hk=>by cases hk) (fun _ _ _ _ _=>trivial) trivial (Int.le_refl _) (fun _ k hk=>by cases hk) ?_;intro x L wr k f hinv hk1 hk2 hf hwi hst hbx;refine(comesOk_calls x L wr).mono ?_;exact x960)
 have HI:=qH hi;clear hh hi;go_enter Try.func5,Try.ntmps5;go_wp2_with fail;refine KP.out.mono ?_;rintro en w1 ⟨x,L,rfl,hx,hf,hbx⟩;have HB1:Hid (Below W.heap.size W w1):=qH hbx.to;have hs1:W.heap.size<=w1.heap.size:=hbx.size;have hwo:WoB (w1.alloc (.cells (worA x L) 41)) w1.heap.size x L:=WoB.new hf;clear hbx KP hf;go_wp2_with fail;refine(KR.out _).mono ?_;rintro en w2 ⟨rfl,hb⟩;have a1:=kp (w1.heap.size) (worA x L) hb;have HB2:Hid (Below W.heap.size W w2):=qH ((HB1.out.alloc HB1.out.size _).trans (hb.mono (by simp;omega)));have HWO:=qH (hwo.below hb);clear hb hwo;rcases hx with ⟨_,rfl⟩|⟨k,hrel,hinv,hk1,hk2⟩
 ·by_cases hz:x0.length=0
  ·have q1:((x0.length:Int)==0)=true:=by rw[hz];rfl
   clear hz;exact x9g5
  ·have q2:((x0.length:Int)==0)=false:=by rw[beq_eq_false_iff_ne];omega
   clear hz;exact x9g5
 have hne:0<x.rel.length:=by
  rw[hinv.rel];exact List.length_pos_iff.2 (relCheck_ok.1 hrel).1
 have hl1:=(relCheck_ok.1 hrel).2.1;have q2:((x0.length:Int)==0)=false:=by rw[beq_eq_false_iff_ne];rw[hinv.rel]at hne;omega
 have q1:((x.rel.length:Int)==0)=false:=by rw[beq_eq_false_iff_ne];omega
 have hlp:0<x0.length:=by rw[<-hinv.rel];exact hne
 have HA1:Hid (CmA x0 0 x):=qH (cmA_start hinv hk2);obtain⟨gw,hgw⟩:=eX (w1.heap.size);have hgW:W.heap.size<=gw:=by omega
 have HGW:=qH hgw;clear hne hrel hinv hk1 hk2 HB1 hs1 hgw;go_wp2_with fail;rw[HGW.out]at HWO⊢;clear HGW q2 q1 a1;go_loopw [45] (fun i wr=>∃(k:Nat) (x:Wor) (L:WLoc),k<=5∧i=iv k∧Hid (CmA x0 k x)∧Hid (WoB wr gw x L)∧Hid (Below W.heap.size W wr)) (fun i _=>5-(intOf i).toNat)
 case atStart=>exact⟨0,x,L,by omega,rfl,HA1,HWO,HB2⟩
 case round=>
  rename World=>wr;clear HA1 HWO HB2;obtain⟨k,x,L,hk,rfl,HA,HW,HB⟩:=hrel;have hsz:=HB.out.size;by_cases hlt:k<5
  ·have dl:decide ((k:Int)<5)=true:=decide_eq_true (by omega);have hwk:IntKind.i64.wrap ((k:Int)+1)=(k:Int)+1:=IntWalk.i64_in _ (by omega);go_wp2_with fail;refine(comesDo_calls gw x L 9 0 wr HW.out ⟨by decide,by decide⟩).mono ?_;rintro en w3 ⟨L1,rfl,hw1,hbx1⟩;rw[(cmA_crash HA.out).1]at hw1;obtain⟨x',hx',ha'⟩:=cmA_boot HA.out hlt;have HB1:Hid (Below W.heap.size W w3):=qH (HB.out.trans (hbx1.low hsz hgW));have HX:=qH hx';have HA':=qH ha';have HW1:=qH hw1;have hs1:=HB1.out.size;clear hx' ha' hw1 hbx1;go_wp2_with fail;refine(comesDo_fine gw _ x' L1 10 0 w3 HW1.out ⟨by decide,by decide⟩ HX.out).mono ?_;rintro en w4 ⟨L2,rfl,hw1,hbx1⟩;have HB2:Hid (Below W.heap.size W w4):=qH (HB1.out.trans (hbx1.low hs1 hgW));have HW2:=qH hw1;clear hw1 hbx1;go_wp2_with fail;go_roundw
   case rel=>exact⟨k+1,x',L2,by omega,by go_num,HA',HW2,HB2⟩
   case measure=>simp[intOf]<;>omega
  obtain rfl:k=5:=by omega
  have HC:Hid (CmB x0 x):=qH HA.out.calm;clear HA;go_wp2_with fail;go_loopw [53] (fun _ wr=>∃(x:Wor) (L:WLoc),Hid (CmB x0 x)∧Hid (WoB wr gw x L)∧Hid (Below W.heap.size W wr)) (fun _ wr=>netLen wr gw)
  case atStart=>exact⟨x,L,HC,HW,HB⟩
  case round=>
   clear HC HW HB;rename World=>wr;obtain⟨x,L,HC,HW,HB⟩:=hrel;have hsz:=HB.out.size;have a1:=keep1 (bW wr) HW.out.row (by go_simp) HW.out.fr;by_cases hlt:0<x.net.length
   ·have dl:decide ((0:Int)<(x.net.length:Int))=true:=decide_eq_true (by omega);have dk:decide (0<x.net.length)=true:=decide_eq_true hlt;obtain⟨x',hx',hc',hn'⟩:=cmB_lose HC.out hlt;have HX:=qH hx';have HC':=qH hc';have hm:=HW.out.net;have HM:Hid (netLen wr gw=x.net.length∧x'.net.length+1=x.net.length):=qH ⟨hm,hn'⟩;clear hx' hc' hn' hm;go_wp2_with fail;refine(comesDo_fine gw x x' L 4 0 wr HW.out ⟨by decide,by decide⟩ HX.out).mono ?_;rintro en w3 ⟨L1,rfl,hw1,hbx1⟩;have HB1:Hid (Below W.heap.size W w3):=qH (HB.out.trans (hbx1.low hsz hgW));have HW1:=qH hw1;have hm1:netLen w3 gw<netLen wr gw:=by rw[hw1.net,HM.out.1];have:=HM.out.2;omega
    have HM1:=qH hm1;clear hw1 hbx1 hm1 a1;go_wp2_with fail;go_roundw
    case rel=>exact⟨_,_,_,_,_,_,_,_,⟨x',L1,HC',HW1,HB1⟩,rfl⟩
    case measure=>exact HM1.out
   have dl:decide ((0:Int)<(x.net.length:Int))=false:=decide_eq_false (by omega);have hn1:x.net.length=0:=by omega
   have HN1:=qH hn1;have dk:decide (0<x.net.length)=false:=decide_eq_false hlt;clear hn1;have K1:=qH (fun w=>read_ok x.d.c0 x.d.c1 w HC.out.inv.ok.dev.cops);obtain⟨rk,hrk⟩:=eX ((recRead x.d.c0 x.d.c1).2);have hre:(recRead x.d.c0 x.d.c1).1=x.d.rec_:=rfl;rw[hrk,hre]at K1;have htr:=HC.out.tr;obtain⟨tv,htv⟩:=eX (1+to_%(x0.length:Int));have hmod1:=Int.emod_nonneg to_ (show (x0.length:Int)≠0 by omega);have hmod2:=Int.emod_lt_of_pos to_ (show 0<(x0.length:Int) by omega);have HTV:Hid (InRel x0 tv):=qH ⟨by omega,by omega⟩;have hwt:IntKind.i64.wrap (1+to_%(x0.length:Int))=tv:=by rw[htv];exact IntWalk.i64_in _ (by omega)
   have KA:=qH (fun w=>at2_calls to_ (x0.length:Int) w ht1 ht2 (by omega) (by omega));have HTR:=qH htr;have HRT:=qH (show (recA x.d.rec_)[2]?=some (.bool false) by unfold recA;rw[htr];rfl);clear hrk hre htr hmod1 hmod2 htv;go_wp2_with fail;refine(K1.out _).mono ?_;rintro en w3 ⟨rfl,hb⟩;have HB1:Hid (Below W.heap.size W w3):=qH (HB.out.trans (hb.mono hsz));have HW1:=qH (HW.out.below hb);clear hb a1;go_wp2_with fail;refine(KA.out _).mono ?_;rintro en w4 ⟨rfl,rfl⟩;have htr:=HTR.out;by_cases hfl:tv<x.d.rec_.floor
   ·have df:decide (tv<x.d.rec_.floor)=true:=decide_eq_true hfl;clear hfl;go_wp2_with fail;go_ret;refine⟨rfl,?_⟩
    first|exact HB1.out|exact HB1.out.alloc HB1.out.size _
   have df:decide (tv<x.d.rec_.floor)=false:=decide_eq_false hfl;obtain⟨x',j,hx',hc',hj⟩:=cmC_start HC.out HN1.out HTV.out (Int.not_lt.1 hfl);have HX:=qH hx';have HC':=qH hc';have hs1:=HB1.out.size;have HWA:Hid (WoB (w3.alloc (.cells (recA x.d.rec_) 30)) gw x L):=qH (HW1.out.below (bL _));have htv1:I64 tv:=⟨by have:=HTV.out.1;omega,by have:=HTV.out.2;omega⟩;clear hx' hc' hfl;go_wp2_with fail;refine(comesDo_fine gw x x' L 1 tv _ HWA.out htv1 HX.out).mono ?_;rintro en w5 ⟨L1,rfl,hw1,hbx1⟩;have HB2:Hid (Below W.heap.size W w5):=qH ((HB1.out.alloc hs1 _).trans (hbx1.low (by simp;omega) hgW));have HW2:=qH hw1;clear hw1 hbx1 HC HW HB HW1 HB1 HWA HX K1 KA htr HTR HRT df;go_wp2_with fail;go_loopw [96] (fun _ wr=>∃(j:Nat) (x:Wor) (L:WLoc),Hid (CmC x0 tv j x)∧Hid (WoB wr gw x L)∧Hid (Below W.heap.size W wr)∧Hid (j<=10)) (fun _ wr=>netLen wr gw)
   case atStart=>exact⟨j,x',L1,HC',HW2,HB2,qH hj⟩
   case round=>
    clear HC' HW2 HB2 hj;rename World=>wr;obtain⟨j,x,L,HC,HW,HB,HJ⟩:=hrel;have hsz:=HB.out.size;have a1:=keep1 (bW wr) HW.out.row (by go_simp) HW.out.fr;rcases j with _|j
    ·have hnet:=HC.out.net;rw[List.take_zero]at hnet;have hn1:¬0<x.net.length:=by rw[hnet];simp
     have dk:decide (0<x.net.length)=false:=decide_eq_false hn1;obtain⟨y,hy,hcd⟩:=cmD_open HC.out;have HY:=qH hy;have HD:=qH hcd;clear hnet hy hcd;go_wp2_with fail;refine(comesDo_fine gw x y L 5 0 wr HW.out ⟨by decide,by decide⟩ HY.out).mono ?_;rintro en w6 ⟨L2,rfl,hw1,hbx1⟩;have HB1:Hid (Below W.heap.size W w6):=qH (HB.out.trans (hbx1.low hsz hgW));have HW1:=qH hw1;clear hw1 hbx1 HC HW HB HJ HY a1 dk hn1;go_wp2_with fail;go_loopw [110] (fun _ wr=>∃(n:Int) (x:Wor) (L:WLoc),Hid (CmD x0 tv n x∧0<=n)∧Hid (WoB wr gw x L)∧Hid (Below W.heap.size W wr)) (fun _ wr=>doneLeft wr gw)
     case atStart=>exact⟨0,y,L2,qH ⟨HD.out,Int.le_refl _⟩,HW1,HB1⟩
     case round=>
      clear HD HW1 HB1;rename World=>wr;obtain⟨n,x,L,HD,HW,HB⟩:=hrel;have hsz:=HB.out.size;obtain⟨hdn,hwr⟩:=cmD_write HD.out.1;have hn1:=HD.out.2;rcases hwr with ⟨x',hx',hd',hn⟩|⟨hx',y,hy,p,r0,sa,run,i1,i2,i3,i4,i5,i6⟩
      ·have HX:=qH hx';have HD':Hid (CmD x0 tv (n+8) x'∧0<=n+8):=qH ⟨hd',by omega⟩;have HM:Hid (doneLeft wr gw=(100-n).toNat∧x'.d.done=n+8):=qH ⟨by rw[HW.out.done,hdn],(cmD_write hd').1⟩;clear hx' hd' hdn HD;go_wp2_with fail;refine(comesDo_fine gw x x' L 6 0 wr HW.out ⟨by decide,by decide⟩ HX.out).mono ?_;rintro en w7 ⟨L3,rfl,hw1,hbx1⟩;have HB1:Hid (Below W.heap.size W w7):=qH (HB.out.trans (hbx1.low hsz hgW));have HW1:=qH hw1;have hm1:doneLeft w7 gw<doneLeft wr gw:=by rw[hw1.done,HM.out.1,HM.out.2];omega
       have HM1:=qH hm1;clear hw1 hbx1 hm1;go_wp2_with fail;go_roundw
       case rel=>exact⟨n+8,x',L3,HD',HW1,HB1⟩
       case measure=>exact HM1.out
      have HX:=qH hx';have HY:=qH hy;obtain⟨x1,x2,x3,e1,e2,e3,g,hg,hg1,e4,e5⟩:=cm_end i1 i2 i3 i4 i5 i6;have H1:=qH e1;have H2:=qH e2;have H3:=qH e3;have K1:=qH (fun L w h=>stoRuns_calls x3 L w h);have K2:=qH (fun L w h=>stoNext_calls x3 L w h);rw[e4]at K1;rw[e5]at K2;have hin:=HTV.out;obtain⟨m,rfl⟩:∃m:Nat,tv=(m:Int)+1:=⟨(tv-1).toNat,by have:=hin.1;omega⟩;have hm:m<x0.length:=by have:=hin.2;omega
      rw[relAt_get hm]at K1;obtain⟨b,o,B1,mc,rfl,hbl,hcell,hmc,hbt⟩:=HI.out.at_ hm;have HBT:=qH hbt;have HCE:=qH hcell;obtain⟨im,him⟩:=eX (x0[m]);rw[him]at K1 HBT HCE hmc;have hwk1:IntKind.i64.wrap ((m:Int)+1-1)=(m:Int):=by rw[show (m:Int)+1-1=(m:Int) by omega];exact IntWalk.i64_in _ (by omega)
      clear hx' hy i1 i2 i3 i4 i5 i6 e1 e2 e3 e4 e5 hg hg1 hin him hbt hcell hdn HD;go_wp2_with fail;refine(comesDo_stop gw x L 6 0 wr HW.out ⟨by decide,by decide⟩ HX.out).mono ?_;rintro en w7 ⟨L3,rfl,hw1,hbx1⟩;have HB1:Hid (Below W.heap.size W w7):=qH (HB.out.trans (hbx1.low hsz hgW));have HW1:=qH hw1;have hs2:=HB1.out.size;clear hw1 hbx1 HX HW HB hsz;go_wp2_with fail;refine(comesDo_fine gw x y L3 7 0 w7 HW1.out ⟨by decide,by decide⟩ HY.out).mono ?_;rintro en w8 ⟨L4,rfl,hw1,hbx1⟩;have HB2:Hid (Below W.heap.size W w8):=qH (HB1.out.trans (hbx1.low hs2 hgW));have HW2:=qH hw1;have hs3:=HB2.out.size;clear hw1 hbx1 HY HW1 HB1 hs2;go_wp2_with fail;refine(comesDo_fine gw y x1 L4 9 0 w8 HW2.out ⟨by decide,by decide⟩ H1.out).mono ?_;rintro en w9 ⟨L5,rfl,hw1,hbx1⟩;have HB1:Hid (Below W.heap.size W w9):=qH (HB2.out.trans (hbx1.low hs3 hgW));have HW1:=qH hw1;have hs2:=HB1.out.size;clear hw1 hbx1 H1 HW2 HB2 hs3;go_wp2_with fail;refine(comesDo_fine gw x1 x2 L5 10 0 w9 HW1.out ⟨by decide,by decide⟩ H2.out).mono ?_;rintro en w10 ⟨L6,rfl,hw1,hbx1⟩;have HB2:Hid (Below W.heap.size W w10):=qH (HB1.out.trans (hbx1.low hs2 hgW));have HW2:=qH hw1;have hs3:=HB2.out.size;clear hw1 hbx1 H2 HW1 HB1 hs2;go_wp2_with fail;refine(comesDo_fine gw x2 x3 L6 8 0 w10 HW2.out ⟨by decide,by decide⟩ H3.out).mono ?_;rintro en w11 ⟨L7,rfl,hw1,hbx1⟩;have HB1:Hid (Below W.heap.size W w11):=qH (HB2.out.trans (hbx1.low hs3 hgW));have HW1:=qH hw1;have hs2:=HB1.out.size;have a1:=keep1 (bW w11) hw1.row (by go_simp) hw1.fr;clear hw1 hbx1 H3 HW2 HB2 hs3;go_wp2_with fail;refine(K1.out L7 _ HW1.out.now).mono ?_;rintro en w12 ⟨A1,c1,rfl,hc1,hf1,hb⟩;have a1:=keep1 (g:=gw) (cs:=worA x3 L7) hb a1.1 (by go_simp) a1.2.1;have HB2:Hid (Below W.heap.size W w12):=qH (HB1.out.trans (hb.mono hs2));have HW2:=qH (HW1.out.below hb);have HF1:=qH hf1;have HC1:=qH hc1;have hs3:=HB2.out.size;clear hb hf1 hc1 HB1 HW1 hs2;go_wp2_with fail;refine(K2.out L7 _ HW2.out.now).mono ?_;rintro en w13 ⟨rfl,hb⟩;have HB1:Hid (Below W.heap.size W w13):=qH (HB2.out.trans (hb.mono hs3));have e1:w13.cell? ⟨b,o+m,none⟩=some (.slice B1 im.length mc):=(World.cell?_of_block (HB1.out.block b hbl)).trans HCE.out;have ke:=bytesEqual_calls A1 B1 c1 mc im im w13 HC1.out hmc (HF1.out.now.stays hb) (HBT.out.stays HB1.out);rw[decide_eq_true rfl]at ke;have KE:=qH ke;clear hb ke a1;go_wp2_with fail;refine KE.out.mono ?_;rintro en w14 ⟨rfl,rfl⟩;exact x3zi
    obtain⟨hnl,x',hx',hc'⟩:=cmC_hear HC.out;have hlt:0<x.net.length:=by omega
    have dk:decide (0<x.net.length)=true:=decide_eq_true hlt;have hj1:=HJ.out;have hwk:IntKind.i64.wrap ((x.net.length:Int)-1)=(j:Int):=by rw[show (x.net.length:Int)-1=(j:Int) by omega];exact IntWalk.i64_in _ (by omega)
    have HX:=qH hx';have HC':=qH hc';have HM:Hid (netLen wr gw=j+1):=qH (by rw[HW.out.net];exact hnl);clear hx' hc';have HNL:=qH hnl;clear hnl;go_wp2_with fail;refine(comesDo_fine gw x x' L 2 (j:Int) wr HW.out ⟨by omega,by omega⟩ HX.out).mono ?_;rintro en w6 ⟨L2,rfl,hw1,hbx1⟩;have HB1:Hid (Below W.heap.size W w6):=qH (HB.out.trans (hbx1.low hsz hgW));have HW1:=qH hw1;have hm1:netLen w6 gw<netLen wr gw:=by
     rw[hw1.net,HM.out,HC'.out.net,List.length_take];omega
    have HM1:=qH hm1;clear hw1 hbx1 hm1 a1;go_wp2_with fail;go_roundw
    case rel=>exact⟨j,x',L2,HC',HW1,HB1,qH (by omega)⟩
    case measure=>exact HM1.out
end Go.Proofs.Ytefkfglkpebbmad
