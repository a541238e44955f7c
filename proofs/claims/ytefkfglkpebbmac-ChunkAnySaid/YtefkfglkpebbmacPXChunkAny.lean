/- The walk of the law ChunkAny. Printed by gen_chunkany.py. Condition: the library's own variable holds some number. -/
import Derived.Test.YtefkfglkpebbmacP5
import Derived.Test.YtefkfglkpebbmacPMPatArgs
import Derived.Test.YtefkfglkpebbmacPXTake
import Derived.Test.YtefkfglkpebbmacPXAtFn
import Derived.Test.YtefkfglkpebbmacPXIntArgs
set_option linter.unusedVariables false
set_option linter.unusedSimpArgs false
set_option maxRecDepth 100000
set_option maxHeartbeats 40000000
namespace Go.Proofs.Ytefkfglkpebbmac
open Go.RowKit
variable {Y:Prop}
theorem gotS_none(p:Pat)(b:LU):gotS p b (fun _=>false)=[]:=by simp[gotS]
theorem take_start(w2:World)(p:Pat)(b:LU):TkAt w2 (((w2.alloc (.cells #[.slice none 0 0] 43)).alloc (.map #[] 0)).alloc (.cells #[.map (some (w2.heap.size+1))] 46)) w2.heap.size p b (fun _=>false):=by
 refine⟨(((bW w2).alloc nl _).alloc (by simp) _).alloc (by simp;omega) _,⟨none,0,[],?_,?_,?_⟩,?_,?_,by simp⟩
 ·rw[gotS_none];exact((Box.new w2 _ _).alloc _).alloc _
 ·rw[gotS_none];exact GRow.nil _ _
 ·rw[gotS_none];exact Each.nil
 ·have h:=SeenAt.made (w2.alloc (.cells #[.slice none 0 0] 43)) (nOf b);have e:(w2.alloc (.cells #[.slice none 0 0] 43)).heap.size=w2.heap.size+1:=by simp
  rw[e]at h;exact h.keep (Below.heap_alloc _ _ _ (by simp))
 have h:=Box.new ((w2.alloc (.cells #[.slice none 0 0] 43)).alloc (.map #[] 0)) 46 (.map (some (w2.heap.size+1)));have e:((w2.alloc (.cells #[.slice none 0 0] 43)).alloc (.map #[] 0)).heap.size=w2.heap.size+2:=by simp
 rwa [e]at h
theorem ChunkAny_walk(W:World)(v0 v1:Value)(p:Pat)(l:List Int)(g0:ArgPat W v0 p)(g1:ArgInts W v1 l)(hml:ML W):
  Calls Try.prog 5 #[v0,v1] W (RetB W (.bool true)):=by
 obtain⟨P,cp,rfl,hp⟩:=g0;obtain⟨L,cl,rfl,hcl,hll,hL,hLb⟩:=g1;rw[patC_eq];have HP:=qH hp;have HL:=qH hL;have HLB:=qH hLb;have HML:=qH hml;have K2:=qH (fun w h=>cut_calls w h);have K1:=qH (fun w h=>chkCut_calls P cp p w h);clear hp hL hml hLb;by_cases he:(chkCut p).2=0
 ·obtain⟨h1,h2,h3,h4⟩:=chkCut_ok he;have hp1:=(patCheck_ok.1 h1).1;rw[he,h4]at K1;have hN:(chunksOf p (packed (patBytes p))).length=nOf (packed (patBytes p)):=by simp[chunksOf,nOf]
  have HBm:Hid (∀x∈chunksOf p (packed (patBytes p)),ChkB x):=qH (fun x hx=>by
   obtain⟨k,hk,rfl⟩:=List.mem_map.1 hx;exact chkB_in (chunkAt_ok hp1 h2 (by simpa[nOf]using hk)))
  have HCUT:=qH he;have HH1:=qH h1;clear he h4 h1 hp1;go_enter Try.func5,Try.ntmps5;go_wp2_with fail;refine(K1.out _ (HP.out.stays (by repeat (first|exact Below.refl _ _|refine bA ?_ _)))).mono ?_;rintro e w1 ⟨A1,c1,ds1,rfl,hg,hn,hb⟩;obtain⟨a0r,a0f,a0n,a0c,a0z,a0l⟩:=kp (W.heap.size) (patA p.from_ p.to_ p.old p.new_ p.size P p.ops.length cp) hb;have hbx:Below W.heap.size W w1:=Below.trans (by repeat (first|exact Below.refl _ _|refine bA ?_ _)) (hb.mono (by first|omega|(simp<;>omega)));have HB1:Hid (Below W.heap.size W w1):=qH (hbx);have hg1:=qH (hg.chs HBm.out);clear hg hn;clear hb hbx;go_wp2_with fail;refine(K2.out _ (HML.out.stays (by have hs:=HB1.out.size;repeat (first|exact HB1.out|refine bA ?_ _)))).mono ?_;rintro e w2 ⟨rfl,hb⟩;obtain⟨a0r,a0f,a0n,a0c,a0z,a0l⟩:=kp (W.heap.size) (patA p.from_ p.to_ p.old p.new_ p.size P p.ops.length cp) hb;obtain⟨a1r,a1f,a1n,a1c,a1z,a1l⟩:=kp (w1.heap.size) (#[.slice A1 (chunksOf p (packed (patBytes p))).length c1]) hb;have hbx:Below w1.heap.size w1 w2:=Below.trans (by repeat (first|exact Below.refl _ _|refine bA ?_ _)) (hb.mono (by first|omega|(simp<;>omega)));have HB2:=bT HB1 hbx;have HM1:=qH (hg1.out.stays hbx);clear hb hbx;obtain⟨w3,hw1⟩:∃w0,w0=w2:=⟨_,rfl⟩;have hTW:TkW w2 w2.heap.size w1.heap.size W.heap.size p (packed (patBytes p)) A1 c1 P cp:=⟨rfl,a1l,by rw[a1c 0];rfl,HM1.out,a0r,a0f,HP.out.stays HB2.out⟩;have HTW:=qH hTW;clear hTW hw1 w3;have hmk:∀w,(Instr.makeMap 46 none).run Try.prog w=.ok (.map (some w.heap.size)) (w.alloc (.map #[] 0)):=fun w=>run_makeMap _ _;go_wp2_with fail;have hm:max (min (l.length:Int) 40) 0=((min l.length 40:Nat):Int):=by omega
  have hm1:(min (l.length:Int) 40).toNat=min l.length 40:=by omega
  rw[hm,hm1];have hmle:min l.length 40<=l.length:=by omega
  have hm2:min l.length 40<=40:=by omega
  clear hm hm1 hmk;generalize min l.length 40=m at *
  have HST:=qH (take_start w2 p (packed (patBytes p)));have cW2:=a1c 0;have KS:=qH (fun A k j w h1 h2=>by have:=chkSame_calls A A1 k j (chunksOf p (packed (patBytes p))) (chunksOf p (packed (patBytes p))) w (by omega) (by omega) h1 h2;rwa [show decide (chunksOf p (packed (patBytes p))=chunksOf p (packed (patBytes p)))=true by simp]at this:∀A k j w,Chs w A (chunksOf p (packed (patBytes p)))->Chs w A1 (chunksOf p (packed (patBytes p)))->Calls Try.prog 39 #[.slice A (chunksOf p (packed (patBytes p))).length k,.slice A1 (chunksOf p (packed (patBytes p))).length j] w (RetB w (.bool true)));have HGA:Hid (∀S,(∀j,j<nOf (packed (patBytes p))->S j=true)->gotS p (packed (patBytes p)) S=chunksOf p (packed (patBytes p))):=qH (fun S hS=>gotS_all (by rw[List.filter_eq_self.2 (fun j hj=>hS j (by simpa using hj))];simp));have HT:=qH (fun (wr:World) (S:Nat->Bool) (k:Nat) (h:TkAt w2 wr w2.heap.size p (packed (patBytes p)) S) (hk:k<nOf (packed (patBytes p)))=>take_calls HTW.out HCUT.out rfl h hk);have cW1:w2.cell? ⟨w1.heap.size,0,none⟩=some (.slice A1 (nOf (packed (patBytes p))) c1):=by
   rw[cW2,<-hN];rfl
  have HN:=qH hN;have HKM:∀k,k<nOf (packed (patBytes p))->k<52:=fun k hk=>by omega
  generalize hNN:nOf (packed (patBytes p))=N at *
  have HNN:=qH hNN;clear hNN HKM cW2 hN a0c a0r a0f a0n a0z a1c a1r a1f a1n a1z;go_loopw [33] (fun i wr=>∃k:Nat,k<=m∧i=iv k∧Hid (∃S,TkAt w2 wr w2.heap.size p (packed (patBytes p)) S)) (fun i _=>m-(intOf i).toNat)
  case atStart=>exact⟨0,Nat.zero_le _,rfl,qH ⟨_,HST.out⟩⟩
  case round=>
   rename World=>wr;obtain⟨k,hk,rfl,HS⟩:=hrel;obtain⟨S,hS⟩:=HS.out;have HS1:=qH hS;have cW:=(hS.bel.cell (p:=⟨w1.heap.size,0,none⟩) a1l).trans cW1;have HBr:Hid (Below W.heap.size W wr):=qH (HB2.out.trans (hS.bel.mono HB2.out.size));clear hS HS;by_cases hlt:k<m
   ·obtain⟨bl,ol,rfl,hbl,hcl⟩:=(HL.out.stays HBr.out) k (by omega);have hxb:=HLB.out l[k] (List.getElem_mem (by omega));generalize l[k]=x at *
    obtain⟨kk,hkk,hkN⟩:∃kk:Nat,x%(N:Int)=kk∧kk<N:=by
     have h1:=Int.emod_nonneg x (show (N:Int)≠0 by omega);have h2:=Int.emod_lt_of_pos x (show (0:Int)<N by omega);exact⟨(x%(N:Int)).toNat,by omega,by omega⟩
    have hat:=at2_calls x (N:Int) wr hxb.1 hxb.2 (by omega) (by omega);rw[hkk]at hat;have HAT:=qH hat;clear hat hkk hxb;go_wp2_with fail;refine HAT.out.mono ?_;rintro e u ⟨rfl,rfl⟩;go_wp2_with fail;refine(HT.out _ S kk HS1.out hkN).mono ?_;rintro e w3 ⟨rfl,hT1⟩;have HS2:Hid (∃S,TkAt w2 w3 w2.heap.size p (packed (patBytes p)) S):=qH ⟨_,hT1⟩;clear hT1 cW;go_wp2_with fail;go_roundw
    case rel=>exact⟨k+1,by omega,by go_num,HS2⟩
    case measure=>simp[intOf]<;>omega
   go_wp2_with fail;clear cW;go_loopw [47] (fun i wq=>∃k:Nat,k<=N∧i=iv k∧Hid (∃S,TkAt w2 wq w2.heap.size p (packed (patBytes p)) S∧∀j,N-k<=j->j<N->S j=true)) (fun i _=>N-(intOf i).toNat)
   case atStart=>exact⟨0,Nat.zero_le _,rfl,qH ⟨S,HS1.out,fun j h1 h2=>by omega⟩⟩
   case round=>
    rename World=>wq;obtain⟨q,hq,rfl,HQ⟩:=hrel;obtain⟨S',hS',hall⟩:=HQ.out;have HS2:=qH hS';have HAL:=qH hall;have cW:=(hS'.bel.cell (p:=⟨w1.heap.size,0,none⟩) a1l).trans cW1;have HBq:Hid (Below W.heap.size W wq):=qH (HB2.out.trans (hS'.bel.mono HB2.out.size));by_cases hlq:q<N
    ·have htk:=HT.out wq S' (N-1-q) hS' (by omega);rw[show ((N-1-q:Nat):Int)=(N:Int)-1-(q:Int) by omega]at htk;have HTK:=qH htk;clear htk hS' hall HQ;go_wp2_with fail;refine HTK.out.mono ?_;rintro e w3 ⟨rfl,hT1⟩;have HS3:Hid (∃S,TkAt w2 w3 w2.heap.size p (packed (patBytes p)) S∧∀j,N-(q+1)<=j->j<N->S j=true):=qH ⟨_,hT1,fun j h1 h2=>by
      by_cases e:j=N-1-q
      ·simp[e]
      simp[HAL.out j (by omega) h2]⟩
     clear hT1 cW;go_wp2_with fail;go_roundw
     case rel=>exact⟨q+1,by omega,by go_num,HS3⟩
     case measure=>simp[intOf]<;>omega
    obtain⟨Ag,cg,dg,hbx,hrow,_⟩:=hS'.got;have hge:=HGA.out S' (fun j hj=>HAL.out j (by omega) hj);rw[hge]at hbx hrow;have hcg:=hbx.cell;have HCG:=qH (hrow.src.chs HBm.out);have HCW:=qH (HM1.out.stays hS'.bel);rw[HN.out]at hcg;have hks:=KS.out Ag cg c1 wq HCG.out HCW.out;rw[HN.out]at hks;have HKS:=qH hks;clear hS' hall HQ hbx hrow hge hks;go_wp2_with fail;refine HKS.out.mono ?_;rintro e w3 ⟨rfl,hb1⟩;have HB3:=bT HBq hb1;clear hb1;go_wp2_with fail;go_ret;exact⟨rfl,HB3.out⟩
 have hne:((chkCut p).2 !=0)=true:=by simp[he]
 clear he;generalize (chkCut p).2=n at *
 generalize (chkCut p).1=cs at *
 go_enter Try.func5,Try.ntmps5;go_wp2_with fail;refine(K1.out _ (HP.out.stays (by repeat (first|exact Below.refl _ _|refine bA ?_ _)))).mono ?_;rintro e w1 ⟨A1,c1,ds1,rfl,hg,hn,hb⟩;obtain⟨a0r,a0f,a0n,a0c,a0z,a0l⟩:=kp (W.heap.size) (patA p.from_ p.to_ p.old p.new_ p.size P p.ops.length cp) hb;have hbx:Below W.heap.size W w1:=Below.trans (by repeat (first|exact Below.refl _ _|refine bA ?_ _)) (hb.mono (by first|omega|(simp<;>omega)));have HB1:Hid (Below W.heap.size W w1):=qH (hbx);clear hg hn;clear hb hbx;go_wp2_with fail;refine(K2.out _ (HML.out.stays (by have hs:=HB1.out.size;repeat (first|exact HB1.out|refine bA ?_ _)))).mono ?_;rintro e w2 ⟨rfl,hb⟩;obtain⟨a0r,a0f,a0n,a0c,a0z,a0l⟩:=kp (W.heap.size) (patA p.from_ p.to_ p.old p.new_ p.size P p.ops.length cp) hb;obtain⟨a1r,a1f,a1n,a1c,a1z,a1l⟩:=kp (w1.heap.size) (#[.slice A1 cs.length c1]) hb;have hbx:Below w1.heap.size w1 w2:=Below.trans (by repeat (first|exact Below.refl _ _|refine bA ?_ _)) (hb.mono (by first|omega|(simp<;>omega)));have HB2:=bT HB1 hbx;clear hb hbx;go_wp2_with fail;refine(K2.out _ (HML.out.stays (by have hs:=HB2.out.size;repeat (first|exact HB2.out|refine bA ?_ _)))).mono ?_;rintro e w3 ⟨rfl,hb⟩;obtain⟨a0r,a0f,a0n,a0c,a0z,a0l⟩:=kp (W.heap.size) (patA p.from_ p.to_ p.old p.new_ p.size P p.ops.length cp) hb;obtain⟨a1r,a1f,a1n,a1c,a1z,a1l⟩:=kp (w1.heap.size) (#[.slice A1 cs.length c1]) hb;exact x1zk
end Go.Proofs.Ytefkfglkpebbmac
