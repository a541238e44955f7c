/- The walk of the law StoryAlways. No conditions. -/
import Derived.Test.YtefkfglkpebbmacPXPlayedStoryAlways
import Derived.Test.YtefkfglkpebbmacPXRuns
set_option linter.unusedVariables false
set_option linter.unusedSimpArgs false
set_option maxRecDepth 100000
set_option maxHeartbeats 40000000
namespace Go.Proofs.Ytefkfglkpebbmac
open Go.RowKit
variable {Y:Prop}
theorem x6sh(h:Y:=by
 repeat (first|exact HBX.out.1|refine Bx.alloc ?_ (by simp<;>omega) _|refine Bx.cell ?_ (.inr rfl) _)):Y:=h
def alSt(gb:Nat)(w:World)(f:Int):Prop:=Box w gb 3 (iv f)
def AlRet(gb:Nat)(wr:World)(f:Int):Ending->World->Prop:=fun en w2=>en=.returned (.bool true)∧alSt gb w2 f∧Bx (some gb) wr.heap.size wr w2
theorem alwaysOk_calls(gb:Nat)(x:Wor)(L:WLoc)(wr:World)(f:Int)(hok:WorOk x)(hg:x.d.rec_.gen<1000000)(hrun:x.d.up=true->∃v b,stoRuns x=(v,b,0)∧x.d.rec_.floor<=v)(hf:f<=x.d.rec_.floor)(h:∀v:World,(∀q,(some gb:Option Nat)≠some q->q<wr.heap.size->v.heap[q]?=wr.heap[q]?)->WorIn v x L)(hs:alSt gb wr f):
  Calls Try.prog 77 #[.agg (worA x L),.pointer (some ⟨gb,0,none⟩)] wr (AlRet gb wr x.d.rec_.floor):=by
 obtain⟨hn1,hn2⟩:=next_is hok hg;have HIN:=qH h;have HSB:=qH hs;have K1:Hid (∀w,WorIn w x L->Calls Try.prog 78 #[.agg (worA x L)] w (RetB w (.tuple #[iv x.d.nextVer,iv 0]))):=qH (fun w h=>by
  have:=stoNext_calls x L w h;rwa [hn1]at this)
 have K2:=qH (fun w=>read_ok x.d.c0 x.d.c1 w hok.dev.cops);obtain⟨rk,hrk⟩:=eX ((recRead x.d.c0 x.d.c1).2);have hre:(recRead x.d.c0 x.d.c1).1=x.d.rec_:=rfl;rw[hrk,hre]at K2;have K3:=qH (fun w h=>stoRuns_calls x L w h);have HRUN:=qH hrun;obtain⟨nv,hnv⟩:=eX (x.d.nextVer);rw[hnv]at K1 hn2;have d1:decide (x.d.rec_.floor<f)=false:=decide_eq_false (by omega);have d2:decide (nv<x.d.rec_.floor)=false:=decide_eq_false (by omega);have hgb:=HSB.out.lt;have HBA:Hid (Below wr.heap.size wr (wr.alloc (.cells (worA x L) 88))):=qH (bL _);clear hn1 hrk hre hnv hok hg hrun h hs hf hn2;go_enter Try.func77,Try.ntmps77;go_wp2_with fail;refine(K1.out _ (HIN.out _ (fun q _ h=>HBA.out.block q h))).mono ?_;rintro e w1 ⟨rfl,hb⟩;have a1:=kp (wr.heap.size) (worA x L) hb;have hs1:wr.heap.size+1<=w1.heap.size:=by have:=hb.size;simpa using this
 have HB1:Hid (Below wr.heap.size wr w1):=qH (HBA.out.trans (hb.mono (by simp)));clear hb;go_wp2_with fail;refine(K2.out _).mono ?_;rintro e w2 ⟨rfl,hb⟩;have a1:=kr a1 hb;have hs2:w1.heap.size<=w2.heap.size:=hb.size;have HB2:Hid (Below wr.heap.size wr w2):=qH (by first|exact(HB1.out.alloc HB1.out.size _).trans (hb.mono (by have:=HB1.out.size;simp;omega))|exact HB1.out.trans (hb.mono HB1.out.size));have hbx1:=HSB.out.keep HB2.out hgb;have b5:=hbx1.cell;have b1:=hbx1.free;have b2:¬gb=w2.heap.size:=by omega
 have b3:¬gb=wr.heap.size:=by omega
 have b4:gb<w2.heap.size:=by omega
 clear hb hbx1;obtain⟨up,hup⟩:∃up,x.d.up=up:=⟨_,rfl⟩;rw[hup]at HRUN
 cases up
 ·have q1:(!x.d.up)=true:=by rw[hup];rfl
  clear hup;have HBX:Hid (Bx (some gb) wr.heap.size wr w2∧Box w2 gb 3 (iv f)):=qH ⟨Bx.of HB2.out nl,HSB.out.keep HB2.out hgb⟩;go_wp2_with fail;go_ret;refine⟨rfl,?_,?_⟩
  ·first|exact(HBX.out.2.set _).alloc _|exact HBX.out.2.set _|exact(HBX.out.2.alloc _).set _
  exact x6sh
 have q1:(!x.d.up)=false:=by rw[hup];rfl
 clear hup;obtain⟨v,b,hv,hge⟩:=HRUN.out rfl;rw[hv]at K3;have HBX:Hid (Bx (some gb) wr.heap.size wr w2∧Box w2 gb 3 (iv f)):=qH ⟨Bx.of HB2.out nl,HSB.out.keep HB2.out hgb⟩;clear hv HRUN;go_wp2_with fail;refine(K3.out _ (HIN.out _ (fun q h1 h2=>?_))).mono ?_
 ·refine Bx.same ?_ h2 h1;exact x6sh
 rintro e w3 ⟨A1,c1,rfl,hc1,hf1,hb⟩;have hbx1:Box w3 gb 3 (iv x.d.rec_.floor):=by
  first|exact(((HBX.out.2.set _).alloc _)).keep hb (by simp<;>omega)|exact(HBX.out.2.set _).keep hb (by simp<;>omega)|exact((HBX.out.2.alloc _).set _).keep hb (by simp<;>omega)
 have HBX1:Hid (Bx (some gb) wr.heap.size wr w3∧Box w3 gb 3 (iv x.d.rec_.floor)):=qH ⟨by
  refine Bx.below ?_ hb (by simp<;>omega);repeat (first|exact HBX.out.1|refine Bx.alloc ?_ (by simp<;>omega) _|refine Bx.cell ?_ (.inr rfl) _),hbx1⟩
 have c2:=hbx1.cell;have d3:decide (x.d.rec_.floor<=v)=true:=decide_eq_true hge;clear hb hf1 hc1 hbx1 b5 b1;go_wp2_with fail;go_ret;exact⟨rfl,HBX1.out.2,HBX1.out.1⟩
theorem StoryAlways_walk(W:World)(v0 v1:Value)(x0:List (List UInt8))(x1:List (Int×Int))(g0:ArgImgs W v0 x0)(g1:ArgHaps W v1 x1):Calls Try.prog 12 #[v0,v1] W (RetB W (.bool true)):=by
 obtain⟨A,c,rfl,hc,hl,hi⟩:=g0;obtain⟨B,e,rfl,he,hsl,hh⟩:=g1;have KR:=qH (fun w=>runs_calls w);obtain⟨W1,hW1⟩:=eX (W.alloc (.cells #[iv 1] 3));have hb1:Below W.heap.size W W1:=by rw[<-hW1];exact bL _
 have hsz:W1.heap.size=W.heap.size+1:=by rw[<-hW1];simp
 have KP:Hid (Calls Try.prog 76 #[.slice A x0.length c,.slice B x1.length e,.func (Fn.func 77) #[] #[.pointer (some ⟨W.heap.size,0,none⟩)]] W1 (PlRet W1 (some W.heap.size) x0 x1)):=qH (by
  refine playedStoryAlways_calls W.heap.size (some W.heap.size) (alSt W.heap.size) 1 A c x0 B e x1 W1 hc hl (hi.stays hb1) he hsl (hh.stays hb1) ?_ ?_ ?_ (Int.le_refl _) ?_ ?_
  ·intro k hk;cases hk;omega
  ·intro u v f h h1;exact(h _ rfl).trans h1
  ·rw[<-hW1];exact Box.new W _ _
  ·intro h3 k hk b o hB
   cases hk;obtain⟨b',o',h1,h2,_⟩:=hh 0 h3;rw[hB]at h1
   cases h1;omega
  intro x L wr k f hinv hk1 hk2 hf hwi hst hbx;refine alwaysOk_calls W.heap.size x L wr f hinv.ok (by have:=hinv.gen;omega) (fun hu=>?_) hf hwi hst;obtain⟨v,h1,h2,h3,h4⟩:=runs_release hinv hu;exact⟨v,_,h2,h4⟩)
 have HW:Hid (W.alloc (.cells #[iv 1] 3)=W1):=qH hW1;clear hi hh hb1 hsz hW1;go_enter Try.func12,Try.ntmps12;go_wp2_with fail;rw[HW.out];refine KP.out.mono ?_;rintro en w1 ⟨x,L,rfl,hx,hf,hbx⟩;have HB1:Hid (Below W.heap.size W w1):=qH (by
  have h1:=HW.out;have hs:W1.heap.size=W.heap.size+1:=by rw[<-h1];simp
  rw[hs,<-h1]at hbx;exact hbx.belowTop)
 clear hx hf hbx HW KP;go_wp2_with fail;refine(KR.out _).mono ?_;rintro en w2 ⟨rfl,hb⟩;have HB2:Hid (Below W.heap.size W w2):=qH (by first|exact(HB1.out.alloc HB1.out.size _).trans (hb.mono (by have:=HB1.out.size;simp;omega))|exact HB1.out.trans (hb.mono HB1.out.size));clear hb;go_wp2_with fail;go_ret;exact⟨rfl,HB2.out⟩
end Go.Proofs.Ytefkfglkpebbmac
