/- The walk of the closed fact runs(). No conditions. -/
import Derived.Test.YtefkfglkpebbmacP10
import Derived.Test.YtefkfglkpebbmacPXStoRuns
import Derived.Test.YtefkfglkpebbmacPXStoNext
set_option linter.unusedVariables false
set_option linter.unusedSimpArgs false
set_option maxRecDepth 100000
set_option maxHeartbeats 40000000
namespace Go.Proofs.Ytefkfglkpebbmac
open Go.RowKit
variable {Y:Prop}
theorem hps_one{w:World}{g:Nat}{t:TypeId}{f:Nat×Nat}{k n:Int}(h:w.heap[g]?=some (.cells #[iv k,iv n] t f))(h1:I64 k)(h2:I64 n):Hps w (some ⟨g,0,none⟩) [(k,n)]:=by
 intro i hi;obtain rfl:i=0:=by simpa using hi
 refine⟨g,0,rfl,blk_lt h,[iv k,iv n],rfl,fun j hj=>?_,rfl,h1,h2⟩;rw[cell_of_row w g _ _ _ _ h]
 match j,hj with
 |0,_=>rfl
 |1,_=>rfl
theorem runs_calls(W:World):Calls Try.prog 80 #[] W (RetB W (.bool true)):=by
 obtain⟨x2,hx2⟩:=eX ((worNew ims).1);obtain⟨x1,hx1⟩:=eX ((worRun x2 [(9,0)]).1);obtain⟨v1,hv1⟩:∃v,(stoRuns x1).1=v:=⟨_,rfl⟩;obtain⟨b1,hb1⟩:∃v,(stoRuns x1).2.1=v:=⟨_,rfl⟩;have f1:=runs_runs;have f2:=runs_next;have f3:=runs_run;have f4:=runs_late;rw[hx2]at f1 f2 f3 f4;rw[hx1]at f4;have K1:Hid (∀A c w,ims.length<=c->Ims w A ims->Calls Try.prog 130 #[.slice A ims.length c] w (WvRet w x2 0)):=qH (fun A c w hc h=>by
  have:=worNew_calls A c ims w hc (by decide) h;rwa [gone_new,hx2]at this)
 have K2:Hid (∀L w,WorIn w x2 L->Calls Try.prog 79 #[.agg (worA x2 L)] w (SrRet w 1 im0 0)):=qH (fun L w h=>by
  have:=stoRuns_calls x2 L w h;rwa [f1]at this)
 have K3:Hid (∀L w,WorIn w x2 L->Calls Try.prog 78 #[.agg (worA x2 L)] w (RetB w (.tuple #[iv 1,iv 0]))):=qH (fun L w h=>by
  have:=stoNext_calls x2 L w h;rwa [f2]at this)
 have K4:Hid (∀L B cl w,WorIn w x2 L->1<=cl->Hps w B [(9,0)]->Calls Try.prog 71 #[.agg (worA x2 L),.slice B 1 cl] w (WrRet w x1 [0] 0)):=qH (fun L B cl w h hc hh=>by
  have:=worRun_gen x2 L B cl [(9,0)] w h (by decide) hc hh (fun y hy=>(show y=(9,0) by simpa using hy)▸hapOk_9 0);rwa [f3,hx1]at this)
 have K5:Hid (∀L w,WorIn w x1 L->Calls Try.prog 79 #[.agg (worA x1 L)] w (SrRet w v1 b1 5)):=qH (fun L w h=>by
  have:=stoRuns_calls x1 L w h;rwa [f4,hv1,hb1]at this)
 clear f1 f2 f3 f4 hx2 hx1 hv1 hb1;have HL1:Hid (im0.length=8):=qH rfl;have HE1:Hid (∀(A:OA) (c:Nat) (w:World),im0.length<=c->Bts w A im0->(convert 22 9 (.slice A im0.length c)).run Try.prog w=.ok (.string ⟨#[97,98,99,100,101,102,103,104]⟩) w):=qH (fun A c w h1 h2=>conv_str A c im0 w h1 h2);generalize im0=i0 at *
 go_enter Try.func80,Try.ntmps80;go_wp2_with fail;refine(lawImages_calls _).mono ?_;rintro e w1 ⟨A,c,rfl,hc,hi,hb1⟩;have HB1:=qH hb1;have HI1:=qH hi;have HC1:=qH hc;clear hb1 hi hc;go_wp2_with fail;refine(K1.out _ _ _ HC1.out (by first|exact HI1.out|exact HI1.out.stays (Below.refl _ _))).mono ?_;rintro e w2 ⟨L,rfl,hf,hb1⟩;have HW1:=qH hf.now;have HB2:=bT HB1 hb1;clear hb1 hf;go_wp2_with fail;have hin1:WorIn (w2.alloc (.cells (worA x2 L) 88)) x2 L:=HW1.out.stays (bL _);refine(K2.out _ _ hin1).mono ?_;rintro e w3 ⟨A1,c1,rfl,hc1,hbt,hb⟩;have a1:=kp (w2.heap.size) (worA x2 L) hb;have HB3:Hid (Below W.heap.size W w3):=qH ((HB2.out.alloc HB2.out.size _).trans (hb.mono (by have:=HB2.out.size;simp;omega)));have HW2:=qH (hin1.stays hb);have HT1:=qH hbt.now;have HF1:=qH hbt;have HC2:=qH hc1;clear hb hbt hc1 hin1;go_wp2_with fail;refine(K3.out _ _ HW2.out).mono ?_;rintro e w4 ⟨rfl,hb⟩;have a1:=kr a1 hb;have HB4:=bT HB3 hb;have HB7:=qH hb;have HW3:=qH (HW2.out.stays hb);have HT2:=qH (HT1.out.stays hb);clear hb;go_wp2_with fail;refine(K4.out _ _ _ _ (HW3.out.stays (bL _)) nl (hps_one (blk_top rfl) ⟨by decide,by decide⟩ ⟨by decide,by decide⟩)).mono ?_;rintro e w5 ⟨L1,A2,c2,b5,rfl,ho1,hbs1,hw1,hb⟩;have a1:=kr a1 hb;have hbx:Below w4.heap.size w4 w5:=(bL _).trans (hb.mono (by simp));have HB5:=bT HB4 hbx;have HT3:=qH (HT2.out.stays hbx);have HB8:=bT HB7 hbx;have hp1:0<(rowOf w5 w2.heap.size).size:=by rw[a1.1];simp[worA]
 have hs1:w2.heap.size<b5:=by have:=hb.size;simp at hbs1;omega
 have HW4:Hid (WorIn (w5.setRow w2.heap.size (worA x1 L1)) x1 L1):=qH (hw1 _ (fun q h1 _ _=>setRow_other _ _ _ _ (by omega)));have HB5':Hid (Below W.heap.size W (w5.setRow w2.heap.size (worA x1 L1))):=qH (below_row HB5.out HB2.out.size _);have HT5':Hid (Bts (w5.setRow w2.heap.size (worA x1 L1)) A1 i0):=qH (HF1.out _ (fun k h1 h2=>by
  simp at h1;exact(setRow_other _ _ _ _ (by omega)).trans ((HB8.out.block k h2))))
 clear hb hbx ho1 hbs1 hw1;go_wp2_with fail;refine(K5.out _ _ HW4.out).mono ?_;rintro e w6 ⟨A3,c3,rfl,hc1,hbt1,hb⟩;have HB6:Hid (Below W.heap.size W w6):=qH (HB5'.out.trans (hb.mono HB5'.out.size));have ks:=HE1.out A1 c1 w6 HC2.out (HT5'.out.stays hb);clear hb hbt1 hc1 a1;go_wp2_with fail;go_ret;refine⟨rfl,?_⟩
 first|exact HB6.out|(repeat (first|exact HB6.out|refine below_drewN ?_ _|refine Below.drew ?_))
end Go.Proofs.Ytefkfglkpebbmac
