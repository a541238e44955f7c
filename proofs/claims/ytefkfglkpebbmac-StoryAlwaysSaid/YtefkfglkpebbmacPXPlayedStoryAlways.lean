/- The walk of cobblerlaw.played with the closure of StoryAlways. Printed by gen_played.py. No conditions. -/
import Derived.Test.YtefkfglkpebbmacPXPlayDefs
set_option linter.unusedVariables false
set_option linter.unusedSimpArgs false
set_option maxRecDepth 100000
set_option maxHeartbeats 40000000
namespace Go.Proofs.Ytefkfglkpebbmac
open Go.RowKit
variable {Y:Prop}
theorem playedStoryAlways_calls(gb:Nat)(g:Option Nat)(St:World->Int->Prop)(f0:Int)(A:OA)(c:Nat)(l:List (List UInt8))(B:OA)(e:Nat)(scr:List (Int×Int))(w:World)
  (hc:l.length<=c) (hl:l.length<=5864062014634) (hi:Ims w A l) (he:scr.length<=e) (hsl:scr.length<=140737488351232) (hh:Hps w B scr) (hgl:∀k,g=some k->k<w.heap.size)
  (hst:∀(u v:World) f,(∀k,g=some k->v.heap[k]?=u.heap[k]?)->St u f->St v f) (h0:St w f0) (hf0:f0<=1) (hhb:0<scr.length->∀k,g=some k->∀b o,B=some ⟨b,o,none⟩->b≠k)
  (hcl:∀(x:Wor) (L:WLoc) (wr:World) (k f:Int),Inv l k x->1<=k->k<=151->f<=x.d.rec_.floor->(∀v:World,(∀q,g≠some q->q<wr.heap.size->v.heap[q]?=wr.heap[q]?)->WorIn v x L)->St wr f->Bx g w.heap.size w wr->
    Calls Try.prog 77 #[.agg (worA x L),.pointer (some ⟨gb,0,none⟩)] wr (fun en w2=>en=.returned (.bool true)∧St w2 x.d.rec_.floor∧Bx g wr.heap.size wr w2)):
  Calls Try.prog 76 #[.slice A l.length c,.slice B scr.length e,.func (Fn.func 77) #[] #[.pointer (some ⟨gb,0,none⟩)]] w (PlRet w g l scr):=by
 have HS:=qH hi;have HH:=qH hh;have HHB:=qH hhb;have HGL:=qH hgl;have HST:=qH hst;have HCL:=qH hcl;have H1:=qH h0;have HF2:=qH hf0;have K1:=qH (fun w h=>worNew_calls A c l w hc hl h);have HBA:Hid (Below w.heap.size w (w.alloc (.cells (worA Wor.zero WLoc.zero) 88))):=qH (bL _);clear hcl h0 hst hi hh hhb hgl;by_cases hr:relCheck l≠0
 ·have hz:worNew l=(Wor.zero,relCheck l):=by unfold worNew;rw[if_pos hr]
  rw[hz]at K1;have HR:=qH hr;have q:(relCheck l !=0)=true:=by simp[hr]
  obtain⟨n,hn⟩:=eX (relCheck l);rw[hn]at K1 q;clear hz hr hn;go_enter Try.func76,Try.ntmps76;go_wp2_with fail;refine(K1.out _ (HS.out.stays HBA.out)).mono ?_;rintro en w1 ⟨L1,rfl,hf1,hb⟩;obtain⟨a0r,a0f,a0n,a0c,a0z,a0l⟩:=kp (w.heap.size) (worA Wor.zero WLoc.zero) hb;have hs1:w.heap.size+1<=w1.heap.size:=by have:=hb.size;simpa using this
  have HB1:=bT HBA hb;have HF1:=qH hf1;have hp1:0<(rowOf w1 w.heap.size).size:=by rw[a0r];simp[worA]
  clear hb hf1;go_wp2_with fail;refine bodyPost_ret (rC (worA Wor.zero L1)) rfl ⟨Wor.zero,L1,rfl,.inl ⟨HR.out,rfl⟩,?_,?_⟩
  ·intro v hv;refine HF1.out v (fun k h1 h2=>?_);simp at h1;refine(hv k (by omega) (by simp[World.setRow];omega)).trans ?_;exact(Below.heap_alloc (w1.setRow w.heap.size (worA Wor.zero L1)) _ k (by simp[World.setRow];omega)).trans (setRow_other _ _ _ _ (by omega))
  have hs:=HB1.out.size;refine Bx.of (b2:=w.heap.size) ?_ nl;exact x0ap
 have hr:=Decidable.not_not.1 hr;obtain⟨hinv,hnew⟩:=inv_new hr;rw[hnew]at K1;obtain⟨x1,hx2⟩:=eX ((⟨l,newDev (l.headD []),[]⟩:Wor));rw[hx2]at K1 hinv;have HI1:=qH hinv;have HR:=qH hr;have hfl:x1.d.rec_.floor=1:=by rw[<-hx2];rfl
 have HFL:=qH hfl;obtain⟨m,hm⟩:=eX (min scr.length 150);have hmin:=run_min150 scr.length;rw[hm]at hmin;have hm1:m<=scr.length:=by omega
 have hm2:m<=150:=by omega
 have HSL:Hid (∀wq,(Instr.slice 89 (.slice B scr.length e) none (some (iv (m:Int))) none).run Try.prog wq=.ok (.slice B m e) wq):=qH (fun wq=>by
  have k1:(m:Int)<=(e:Int):=by omega
  cases B with
  |none=>
   have k2:m=0:=by
    rcases Nat.eq_zero_or_pos m with h|h
    ·exact h
    obtain⟨b,o,h9,_⟩:=HH.out 0 (by omega)
    cases h9
   subst k2;go_simp
  |some a=>
   by_cases k2:e=0
   ·subst k2;have k3:m=0:=by omega
    subst k3;go_simp
   go_simp)
 clear hr hinv hnew hx2 hm hfl;go_enter Try.func76,Try.ntmps76;go_wp2_with fail;refine(K1.out _ (HS.out.stays HBA.out)).mono ?_;rintro en w1 ⟨L1,rfl,hf1,hb⟩;obtain⟨a0r,a0f,a0n,a0c,a0z,a0l⟩:=kp (w.heap.size) (worA Wor.zero WLoc.zero) hb;have hs1:w.heap.size+1<=w1.heap.size:=by have:=hb.size;simpa using this
 have HB1:=bT HBA hb;have HF1:=qH hf1;clear hb hf1;go_wp2_with fail;have hp1:¬w.heap.size=w1.heap.size:=a0n;obtain⟨w2,hw1⟩:=eX (w1.alloc (.cells (worA x1 L1) 88));have hs2:w2.heap.size=w1.heap.size+1:=by rw[<-hw1];simp
 have hk1:∀q,q<w1.heap.size->w2.heap[q]?=w1.heap[q]?:=fun q h=>by rw[<-hw1];exact Below.heap_alloc w1 _ q h
 have HR1:Hid (rowOf w2 w.heap.size=worA Wor.zero WLoc.zero∧frOf w2 w.heap.size=(0,0)∧rowOf w2 w1.heap.size=worA x1 L1∧frOf w2 w1.heap.size=(0,0)):=qH (by
  have e1:=rowOf_heap (hk1 w.heap.size a0l);exact⟨e1.1.trans a0r,e1.2.trans a0f,by rw[<-hw1,rowOf_alloc,if_pos rfl],by rw[<-hw1,frOf_alloc,if_pos rfl]⟩)
 have HB2:Hid (Below w.heap.size w w2):=qH (by rw[<-hw1];exact HB1.out.alloc (by omega) _);have HW1:Hid (∀v:World,(∀q,w.heap.size+1<=q->q≠w1.heap.size->q<w2.heap.size->v.heap[q]?=w2.heap[q]?)->WorIn v x1 L1):=qH (fun v hv=>HF1.out v (fun k h1 h2=>by
  simp at h1;exact(hv k h1 (by omega) (by omega)).trans (hk1 k h2)))
 try rw[hw1]
 clear hw1 hk1 a0r a0f a0n a0c a0z a0l;obtain⟨g1,hg1⟩:=eX (w1.heap.size);have HG1:=qH hg1;rw[hg1]at HR1 HW1 hs2 hs1⊢;clear hg1;go_loopw [28] (fun i wr=>∃(k:Nat) (x:Wor) (L:WLoc) (f:Int),k<=m∧i=iv k∧Hid (Inv l (1+k) x∧f<=x.d.rec_.floor)∧Hid (rowOf wr w.heap.size=worA Wor.zero WLoc.zero∧frOf wr w.heap.size=(0,0)∧rowOf wr g1=worA x L∧frOf wr g1=(0,0))∧
  Hid (∀v:World,(∀q,w.heap.size+1<=q->q≠g1->q<wr.heap.size->v.heap[q]?=wr.heap[q]?)->WorIn v x L)∧Hid (St wr f)∧Hid (Bx g w.heap.size w wr∧g1+1<=wr.heap.size)) (fun i _=>m-(intOf i).toNat)
 case atStart=>
  refine⟨0,x1,L1,f0,Nat.zero_le _,rfl,qH ⟨HI1.out,by rw[HFL.out];exact HF2.out⟩,HR1,HW1,qH (HST.out w w2 f0 (fun k h=>HB2.out.block k (HGL.out k h)) H1.out),qH ⟨Bx.of HB2.out nl,by omega⟩⟩
 case round=>
  rename World=>wr;obtain⟨k,x,L,f,hk,rfl,HX,HRR,HWI,HSt,HB⟩:=hrel;clear HR1 HW1;have hsz:=HB.out.2;obtain⟨a0r,a0f,a0n,a0c,a0z,a0l⟩:=keep1 (bW wr) HRR.out.1 (by go_simp) HRR.out.2.1;obtain⟨a1r,a1f,a1n,a1c,a1z,a1l⟩:=keep1 (bW wr) HRR.out.2.2.1 (by go_simp) HRR.out.2.2.2;by_cases hlt:k<m
  ·obtain⟨b,o,rfl,hbl,cs,hcs,hcc,rfl,hi1,hi2⟩:=HH.out k (by omega);obtain⟨⟨kd,n⟩,hy⟩:∃y,scr[k]=y:=⟨_,rfl⟩;rw[hy]at hcc hi1 hi2;have hbg:g≠some b:=fun h=>HHB.out (by omega) b h b o rfl rfl;have hb1:b<wr.heap.size:=Nat.lt_of_lt_of_le hbl (by omega);have hwb:∀j,wr.cell? ⟨b,j,none⟩=w.cell? ⟨b,j,none⟩:=fun j=>World.cell?_of_block (HB.out.1.2 b hbl hbg);have p2:wr.cell? ⟨b,o+k*2,none⟩=some (iv kd):=by rw[hwb];have:=hcc 0 (by simp);simpa using this
   have p1:wr.cell? ⟨b,o+k*2+1,none⟩=some (iv n):=by rw[hwb];have:=hcc 1 (by simp);simpa using this
   have HI2:Hid (I64 n):=qH hi2;have hwk:IntKind.i64.wrap ((k:Int)+1)=(k:Int)+1:=IntWalk.i64_in _ (by omega);have dl:decide ((k:Int)<(m:Int))=true:=decide_eq_true (by omega);have hcap:(m:Int)<=(e:Int):=by omega
   clear hcc hi1 hi2 hcs hy hwb hbl;go_wp2_with fail;have hx1:WorIn (wr.alloc (.cells #[iv kd,iv n] 106)) x L:=HWI.out _ (fun q _ _ h2=>Below.heap_alloc wr _ q h2);obtain⟨⟨x',e'⟩,hres⟩:∃res,worDo x kd n=res:=⟨_,rfl⟩;have KD:=qH (worDo_calls x L kd n _ hx1 HI2.out);rw[hres]at KD;refine KD.out.mono ?_;rintro en w3 ⟨L3,rfl,hf1,hb⟩;obtain⟨a0r,a0f,a0n,a0c,a0z,a0l⟩:=kp (w.heap.size) (worA Wor.zero WLoc.zero) hb;obtain⟨a1r,a1f,a1n,a1c,a1z,a1l⟩:=kp g1 (worA x L) hb;have hs3:wr.heap.size+1<=w3.heap.size:=by have:=hb.size;simpa using this
   have hbx1:Below wr.heap.size wr w3:=(bL _).trans (hb.mono (by simp));have HF3:=qH hf1;have HB3:=qH hbx1;have HSTEP:Hid (stoStep x (kd,n)=(if e'=0 then x' else x)∧Inv l (1+(k:Int)+1) (stoStep x (kd,n))∧x.d.rec_.floor<=(stoStep x (kd,n)).d.rec_.floor):=qH (by
    have h1:=step_inv HX.out.1 (kd,n);refine⟨?_,h1.1,h1.2⟩;unfold stoStep;dsimp only;rw[hres])
   clear hb hf1 hbx1 KD hres hx1;by_cases c1:e'=0
   ·subst c1;have q:((0:Int)==0)=true:=rfl;rw[if_pos rfl]at HSTEP;have hp2:0<(rowOf w3 g1).size:=by rw[a1r];simp[worA]
    go_wp2_with fail;obtain⟨wc,hwc⟩:=eX ((w3.setRow g1 (worA x' L3)).alloc (.cells (worA x' L3) 88));have hsc:wc.heap.size=w3.heap.size+1:=by rw[<-hwc];simp[World.setRow]
    have hkc:∀q,q<w3.heap.size->q≠g1->wc.heap[q]?=w3.heap[q]?:=fun q h1 h2=>by rw[<-hwc];exact(Below.heap_alloc (w3.setRow g1 (worA x' L3)) _ q (by simpa[World.setRow]using h1)).trans (setRow_other _ _ _ _ h2)
    have hrc:rowOf wc w.heap.size=worA Wor.zero WLoc.zero∧frOf wc w.heap.size=(0,0):=by
     have h1:=rowOf_heap (hkc w.heap.size (by omega) (by omega));exact⟨h1.1.trans a0r,h1.2.trans a0f⟩
    have hrd:rowOf wc g1=worA x' L3∧frOf wc g1=(0,0):=by
     have h1:wc.heap[g1]?=(w3.setRow g1 (worA x' L3)).heap[g1]?:=by rw[<-hwc];exact Below.heap_alloc (w3.setRow g1 (worA x' L3)) _ g1 (by simp[World.setRow];omega)
     have h2:=rowOf_heap h1;exact⟨h2.1.trans (by rw[rowOf_setRow _ _ _ _ hp2,if_pos rfl]),h2.2.trans (by rw[frOf_setRow];exact a1f)⟩
    have hbc:Bx g w.heap.size w wc:=by
     rw[<-hwc];exact((HB.out.1.below HB3.out (by omega)).row (by omega) _).below (bL _) (by simp[World.setRow];omega)
    have hic:∀v:World,(∀q,g≠some q->q<wc.heap.size->v.heap[q]?=wc.heap[q]?)->WorIn v x' L3:=fun v hv=>HF3.out v (fun k h1 h2=>by
     simp at h1;exact(hv k (fun h=>by have:=HGL.out _ h;omega) (by omega)).trans (hkc k h2 (by omega)))
    have hsc1:St wc f:=HST.out wr wc f (fun k h=>by
     have:=HGL.out k h;exact(hkc k (by omega) (by omega)).trans (HB3.out.block k (by omega))) HSt.out
    have HKC:=qH hkc;have HSTEP1:Hid (Inv l (1+(k:Int)+1) x'∧x.d.rec_.floor<=x'.d.rec_.floor):=qH (by
     have h1:=HSTEP.out;rw[h1.1]at h1;exact h1.2)
    have HRC:=qH (And.intro hrc hrd);have HBC:=qH hbc;rw[hwc];refine(HCL.out x' L3 wc (1+(k:Int)+1) f HSTEP1.out.1 (by omega) (by omega) (Int.le_trans HX.out.2 HSTEP1.out.2) hic hsc1 hbc).mono ?_;clear hwc hkc hrc hrd hbc hic hsc1 HSTEP HRR HCL a0r a0f a0n a0c a0z a0l a1r a1f a1n a1c a1z a1l;rintro en w4 ⟨rfl,hst1,hbx1⟩;have HB4:=qH hbx1;have HS1:=qH hst1;have hs4:=hbx1.size;clear hst1 hbx1;go_wp2_with fail;go_roundw
    case rel=>
     refine⟨k+1,x',L3,x'.d.rec_.floor,by omega,by go_num,qH ⟨?_,Int.le_refl _⟩,qH ?_,qH ?_,HS1,qH ⟨HBC.out.trans HB4.out (by omega),by omega⟩⟩
     ·have h1:=HSTEP1.out.1;rwa [show (1:Int)+(k:Int)+1=1+((k+1:Nat):Int) by omega]at h1
     ·have e2:=HB4.out.rowBelow (by omega) (fun h=>by have:=HGL.out _ h;omega) HRC.out.1.1 HRC.out.1.2;have e1:=HB4.out.rowBelow (by omega) (fun h=>by have:=HGL.out _ h;omega) HRC.out.2.1 HRC.out.2.2;exact⟨e2.1,e2.2,e1.1,e1.2⟩
     intro v hv;refine HF3.out v (fun k h1 h2=>?_);simp at h1;refine(hv k (by omega) (by omega) (by omega)).trans ((HB4.out.2 k (by omega) (fun h=>by have:=HGL.out _ h;omega)).trans (HKC.out k h2 (by omega)))
    case measure=>simp[intOf];omega
   have q:(e'==0)=false:=by simp[c1]
   have HC1:=qH c1;rw[if_neg c1]at HSTEP;clear c1;go_wp2_with fail;have hkd:∀q,q<w3.heap.size->(w3.alloc (.cells (worA x' L3) 88)).heap[q]?=w3.heap[q]?:=fun q h1=>Below.heap_alloc w3 _ q h1;have hrd:=rowOf_heap (hkd w.heap.size a0l);have hre:=rowOf_heap (hkd g1 a1l);have HKD:=qH hkd;have HRD:=qH (And.intro hrd hre);have HRO:=qH (And.intro (And.intro a0r a0f) (And.intro a1r a1f));clear hkd hrd hre a0r a0f a0n a0c a0z a0l a1r a1f a1n a1c a1z a1l;go_roundw
   case rel=>
    refine⟨k+1,x,L,f,by omega,by go_num,qH ⟨?_,HX.out.2⟩,qH ?_,qH ?_,qH ?_,qH ⟨?_,by simp;omega⟩⟩
    ·have h1:=HSTEP.out.2.1;rw[HSTEP.out.1]at h1;rwa [show (1:Int)+(k:Int)+1=1+((k+1:Nat):Int) by omega]at h1
    ·exact⟨HRD.out.1.1.trans HRO.out.1.1,HRD.out.1.2.trans HRO.out.1.2,HRD.out.2.1.trans HRO.out.2.1,HRD.out.2.2.trans HRO.out.2.2⟩
    ·intro v hv;exact HWI.out v (fun q h1 h2 h3=>(hv q h1 h2 (by simp;omega)).trans ((HKD.out q (by omega)).trans (HB3.out.block q h3)))
    ·exact HST.out wr _ f (fun k h=>by
      have:=HGL.out k h;exact(HKD.out k (by omega)).trans (HB3.out.block k (by omega))) HSt.out
    exact HB.out.1.below (HB3.out.alloc (by omega) _) (by omega)
   case measure=>simp[intOf];omega
  obtain rfl:k=m:=by omega
  have dl:decide ((k:Int)<(k:Int))=false:=by simp
  go_wp2_with fail;refine bodyPost_ret (rC (worA x L)) rfl ⟨x,L,rfl,.inr ⟨1+(k:Int),HR.out,HX.out.1,by omega,by omega⟩,?_,?_⟩
  ·intro v hv;refine HWI.out v (fun q h1 h2 h3=>?_);refine(hv q (by omega) (by simp[World.setRow];omega)).trans (setRow_other _ _ _ _ (by omega))
  exact HB.out.1.row nl _
end Go.Proofs.Ytefkfglkpebbmac
