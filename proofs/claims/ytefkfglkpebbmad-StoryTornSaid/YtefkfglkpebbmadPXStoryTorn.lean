/- The walk of the law StoryTorn. No conditions. -/
import Derived.Test.YtefkfglkpebbmadPXPlayedStoryTorn
set_option linter.unusedVariables false
set_option linter.unusedSimpArgs false
set_option maxRecDepth 100000
set_option maxHeartbeats 40000000
namespace Go.Proofs.Ytefkfglkpebbmad
open Go.RowKit
variable {Y:Prop}
theorem tornOk_calls(x:Wor)(L:WLoc)(w:World):Calls Try.prog 7 #[.agg (worA x L)] w (RetB w (.bool true)):=by
 go_enter Try.func7,Try.ntmps7;exact x61i
theorem StoryTorn_walk(W:World)(v0 v1:Value)(x0:List (List UInt8))(x1:List (Int×Int))(g0:ArgImgs W v0 x0)(g1:ArgHaps W v1 x1):Calls Try.prog 3 #[v0,v1] W (RetB W (.bool true)):=by
 obtain⟨A,c,rfl,hc,hl,hi⟩:=g0;obtain⟨B,e,rfl,he,hsl,hh⟩:=g1;have KR:=qH (fun w=>runs_calls w);have KP:Hid (Calls Try.prog 6 #[.slice A x0.length c,.slice B x1.length e,.func (Fn.func 7) #[] #[]] W (PlRet W none x0 x1)):=qH (by
  refine playedStoryTorn_calls none (fun _ _=>True) 1 A c x0 B e x1 W hc hl hi he hsl hh (fun k hk=>by cases hk) (fun _ _ _ _ _=>trivial) trivial (Int.le_refl _) (fun _ k hk=>by cases hk) ?_;intro x L wr k f hinv hk1 hk2 hf hwi hst hbx;refine(tornOk_calls x L wr).mono ?_;exact x960)
 have HI:=qH hi;clear hh hi;go_enter Try.func3,Try.ntmps3;go_wp2_with fail;refine KP.out.mono ?_;rintro en w1 ⟨x,L,rfl,hx,hf,hbx⟩;have HB1:Hid (Below W.heap.size W w1):=qH hbx.to;have HW1:=qH hf.now;have hs1:W.heap.size<=w1.heap.size:=hbx.size;have HBA:Hid (Below w1.heap.size w1 (w1.alloc (.cells (worA x L) 41))):=qH (bL _);clear hf hbx KP;rcases hx with ⟨_,rfl⟩|⟨k,hrel,hinv,hk1,hk2⟩
 ·go_wp2_with fail;refine(KR.out _).mono ?_;rintro en w2 ⟨rfl,hb⟩;have a1:=kp (w1.heap.size) (worA Wor.zero L) hb;have HB2:Hid (Below W.heap.size W w2):=qH ((HB1.out.alloc HB1.out.size _).trans (hb.mono (by simp;omega)));clear hb;exact x9g5
 have hne:0<x.rel.length:=by
  rw[hinv.rel];have:=(relCheck_ok.1 hrel).1;exact List.length_pos_iff.2 this
 have q2:((x.rel.length:Int)==0)=false:=by rw[beq_eq_false_iff_ne];omega
 have HT:=qH (fun h=>torn_same hinv (show k<999999 by omega) h);obtain⟨n1,n2⟩:=next_is hinv.ok (by have:=hinv.gen;omega);have K1:Hid (∀w,WorIn w x L->Calls Try.prog 9 #[.agg (worA x L)] w (RetB w (.tuple #[iv x.d.nextVer,iv 0]))):=qH (fun w h=>by
  have:=stoNext_calls x L w h;rwa [n1]at this)
 obtain⟨nv,hnv⟩:=eX (x.d.nextVer);obtain⟨⟨x',e'⟩,hres⟩:∃res,worDo x 12 0=res:=⟨_,rfl⟩;have K2:Hid (∀w,WorIn w x L->Calls Try.prog 10 #[.agg (worA x L),.agg #[iv 12,iv 0]] w (WvRet w x' e')):=qH (fun w h=>by
  have:=worDo_calls x L 12 0 w h ⟨by decide,by decide⟩;rwa [hres]at this)
 rw[hnv]at K1 HT;rw[hres]at HT;clear hrel hinv n1 n2 hnv hres hk1 hk2 hne;go_wp2_with fail;refine(KR.out _).mono ?_;rintro en w2 ⟨rfl,hb⟩;have a2:=kp (w1.heap.size) (worA x L) hb;have HB2:Hid (Below W.heap.size W w2):=qH ((HB1.out.alloc HB1.out.size _).trans (hb.mono (by simp;omega)));have HW2:=qH ((HW1.out.stays HBA.out).stays hb);clear hb;go_wp2_with fail;refine(K1.out _ HW2.out).mono ?_;rintro en w3 ⟨rfl,hb⟩;have a2:=kr a2 hb;have HB3:=bT HB2 hb;have HW3:=qH (HW2.out.stays hb);clear hb;go_wp2_with fail;refine(K2.out _ HW3.out).mono ?_;rintro en w4 ⟨L1,rfl,hf1,hb⟩;have a2:=kr a2 hb;have HB4:=bT HB3 hb;have HW4:=qH hf1.now;have HBA1:Hid (Below w4.heap.size w4 (w4.alloc (.cells (worA x' L1) 41))):=qH (bL _);clear hb hf1;by_cases he1:e'=0
 ·subst he1;obtain⟨t1,t2,t3,t4⟩:=HT.out rfl;try dsimp only at t1 t2 t3
  obtain⟨⟨y,e1⟩,hres1⟩:∃res,worDo x' 10 0=res:=⟨_,rfl⟩;rw[hres1]at t2 t3;try dsimp only at t2 t3
  subst t2;have K3:Hid (∀w,WorIn w x' L1->Calls Try.prog 9 #[.agg (worA x' L1)] w (RetB w (.tuple #[iv nv,iv 0]))):=qH (fun w h=>by
   have:=stoNext_calls x' L1 w h;rwa [t1]at this)
  have K4:Hid (∀w,WorIn w x' L1->Calls Try.prog 10 #[.agg (worA x' L1),.agg #[iv 10,iv 0]] w (WvRet w y 0)):=qH (fun w h=>by
   have:=worDo_calls x' L1 10 0 w h ⟨by decide,by decide⟩;rwa [hres1]at this)
  obtain⟨n,rfl⟩:∃n:Nat,nv=(n:Int)+1:=⟨(nv-1).toNat,by have:=t4.1;omega⟩;have hn:n<x0.length:=by have:=t4.2;omega
  rw[relAt_get hn]at t3;obtain⟨b,o,B1,m,rfl,hbl,hcell,hm,hbt⟩:=HI.out.at_ hn;have HBT:=qH hbt;have HCE:=qH hcell;obtain⟨im,him⟩:=eX (x0[n]);rw[him]at t3 HBT HCE hm;have K5:Hid (∀L w,WorIn w y L->Calls Try.prog 11 #[.agg (worA y L)] w (SrRet w ((n:Int)+1) im 0)):=qH (fun L w h=>by
   have:=stoRuns_calls y L w h;rwa [t3]at this)
  have hwk:IntKind.i64.wrap ((n:Int)+1-1)=(n:Int):=by rw[show (n:Int)+1-1=(n:Int) by omega];exact IntWalk.i64_in _ (by omega)
  clear t1 t3 t4 hres1 HT HI him hbt hcell K1 K2;go_wp2_with fail;refine(K3.out _ (HW4.out.stays HBA1.out)).mono ?_;rintro en w5 ⟨rfl,hb⟩;have a1:=kp (w4.heap.size) (worA x' L1) hb;have HB5:Hid (Below W.heap.size W w5):=qH ((HB4.out.alloc HB4.out.size _).trans (hb.mono (by have:=HB4.out.size;simp;omega)));have HW5:=qH ((HW4.out.stays HBA1.out).stays hb);clear hb;go_wp2_with fail;refine(K4.out _ HW5.out).mono ?_;rintro en w6 ⟨L2,rfl,hf1,hb⟩;have HB6:=bT HB5 hb;have HW6:=qH hf1.now;have HBA2:Hid (Below w6.heap.size w6 (w6.alloc (.cells (worA y L2) 41))):=qH (bL _);clear hb hf1;go_wp2_with fail;refine(K5.out _ _ (HW6.out.stays HBA2.out)).mono ?_;rintro en w7 ⟨A1,c1,rfl,hc1,hf1,hb⟩;have HB7:Hid (Below W.heap.size W w7):=qH ((HB6.out.alloc HB6.out.size _).trans (hb.mono (by have:=HB6.out.size;simp;omega)));have e2:w7.cell? ⟨b,o+n,none⟩=some (.slice B1 im.length m):=(World.cell?_of_block (HB7.out.block b hbl)).trans HCE.out;have ke:=bytesEqual_calls A1 B1 c1 m im im w7 hc1 hm hf1.now (HBT.out.stays HB7.out);rw[decide_eq_true rfl]at ke;have KE:=qH ke;clear hb hf1 hc1 ke;go_wp2_with fail;refine KE.out.mono ?_;rintro en w8 ⟨rfl,rfl⟩;go_wp2_with fail;go_ret;exact⟨rfl,HB7.out⟩
 have q1:(e' !=0)=true:=by simp[he1]
 clear he1 HT;go_wp2_with fail;go_ret;refine⟨rfl,?_⟩
 first|exact HB4.out|exact HB4.out.alloc HB4.out.size _
end Go.Proofs.Ytefkfglkpebbmad
