/- Walks of functions, and plain words. No conditions. -/
import Derived.Test.YtefkfglkpebbmadGreatP5
set_option linter.unusedVariables false
set_option linter.unusedSimpArgs false
set_option maxRecDepth 100000
set_option maxHeartbeats 40000000
namespace Go.Proofs.YtefkfglkpebbmadGreat
open Go.RowKit
variable {Y:Prop}
variable {x:Wor} {w:World}
theorem devCrash_bad(d:Dev)(L:DLoc)(w:World)(h:DevIn w d L)  (hne:devReady d≠0):Calls Tryz.prog 14 #[.agg (devA d L)] w (DvRet w Dev.zero (devReady d)):=by
 have hba:Below w.heap.size w ((w.alloc (.cells (devA d L) 38)).alloc (.cells (devA Dev.zero DLoc.zero) 38)):=bA (bA (Below.refl _ _) _) _;have HBA:=qH hba;have HIN:=qH h;have KB:=qH (fun w h=>ready_bad d L w h hne);have q:(devReady d !=0)=true:=by simp[hne]
 generalize devReady d=n at *
 clear hne h hba;go_enter Tryz.func14,Tryz.ntmps14;go_wp2_with fail;refine(KB.out _ (HIN.out.stays HBA.out)).mono ?_;rintro e w1 ⟨rfl,hb1⟩;have a2:=kp (w.heap.size) (devA d L) hb1;have a1:=kp (w.heap.size+1) (devA Dev.zero DLoc.zero) hb1;have HB1:=bT HBA hb1;clear hb1;go_wp2_with fail;refine bodyPost_ret (rC (devA Dev.zero DLoc.zero)) rfl ⟨DLoc.zero,rfl,.const fun v=>DevIn.zero v,bZ HB1⟩
theorem devCrash_ok(d:Dev)(L:DLoc)(w:World)(h:DevIn w d L)  (hz:devReady d=0):Calls Tryz.prog 14 #[.agg (devA d L)] w (DvRet w d.down 0):=by
 have hba:Below w.heap.size w ((w.alloc (.cells (devA d L) 38)).alloc (.cells (devA Dev.zero DLoc.zero) 38)):=bA (bA (Below.refl _ _) _) _;have HBA:=qH hba;have HIN:=qH h;have KR:=qH (fun w h=>ready_ok d L w h hz);clear hz h hba;go_enter Tryz.func14,Tryz.ntmps14;go_wp2_with fail;refine(KR.out _ (HIN.out.stays HBA.out)).mono ?_;rintro e w1 ⟨L1,rfl,hfr,hb1⟩;have a2:=kp (w.heap.size) (devA d L) hb1;have a1:=kp (w.heap.size+1) (devA Dev.zero DLoc.zero) hb1;have HFR:Hid (Fresh (w.heap.size+2) w1 (fun v=>DvOwn v (w.heap.size+2) d L1)):=qH (by simpa[Nat.add_assoc]using hfr);have HB1:=bT HBA hb1;have hsz1:w.heap.size+2<=w1.heap.size:=by have:=hb1.size;simp at this;omega
 have HK1:Hid (Kp (w.heap.size+2) w1 w1):=qH (Kp.refl _ _);clear hb1 hfr;go_wp2_with fail;refine(down_calls d L1 _).mono ?_;rintro e w2 ⟨rfl,hb1⟩;have a2:=kp (w.heap.size) (devA d L1) hb1;have a1:=kr a1 hb1;have HB3:Hid (Below w1.heap.size w1 w2∨True):=qH (.inr trivial);have hs1:=HB1.out.size;have HX:Hid (Fresh (w.heap.size+2) w2 (fun v=>DvOwn v (w.heap.size+2) d L1)):=qH (by
  refine Fresh.below ?_ hb1 nl;repeat (first|exact HFR.out|refine Fresh.row ?_ (by omega) _|refine Fresh.alloc ?_ _))
 have HB2:Hid (Below w.heap.size w w2):=qH (by
  refine Below.trans ?_ (hb1.mono (by first|omega|(simp<;>omega)));exact x0ap)
 clear hb1 HFR;go_wp2_with fail;refine bodyPost_ret (rC (devA d.down L1.down)) rfl ⟨L1.down,rfl,?_,?_⟩
 ·refine Fresh.imp (P:=fun v=>DvOwn v (w.heap.size+2) d L1) (Fresh.mono (base:=w.heap.size+2) ?_ (by omega)) (fun v hv=>hv.devIn.down);repeat (first|exact HX.out|refine Fresh.row ?_ (by omega) _)
 exact bZ HB2
theorem devCrash_calls(d:Dev)(L:DLoc)(w:World)(h:DevIn w d L):Calls Tryz.prog 14 #[.agg (devA d L)] w (DvRet w (devCrash d).1 (devCrash d).2):=by
 unfold devCrash;by_cases hz:devReady d=0
 ·rw[if_neg (by omega)];exact devCrash_ok d L w h hz
 rw[if_pos hz];exact devCrash_bad d L w h hz
theorem happen_box(g base m top:Nat)(ds:List (Option Addr×Nat))(n:Int)(x:Wor)(L:WLoc)(w:World)(hr:rowOf w g=worA x L)(hf:frOf w g=(0,0))(hg:g<base∨top<=g)(h:WorAt w base m top ds x L)(k:Int):g<w.heap.size∧base<=m∧m<=top∧top<=w.heap.size∧Hid (Below w.heap.size w ((w.alloc (.cells #[iv k,iv n] 54)).alloc (.cells (devA x.d L.l) 38)))∧Hid (WorAt ((w.alloc (.cells #[iv k,iv n] 54)).alloc (.cells (devA x.d L.l) 38)) base m top ds x L)∧Hid (Bex g base w ((w.alloc (.cells #[iv k,iv n] 54)).alloc (.cells (devA x.d L.l) 38)))∧((w.alloc (.cells #[iv k,iv n] 54)).alloc (.cells (devA x.d L.l) 38)).heap.size=w.heap.size+2∧rowOf ((w.alloc (.cells #[iv k,iv n] 54)).alloc (.cells (devA x.d L.l) 38)) g=worA x L∧frOf ((w.alloc (.cells #[iv k,iv n] 54)).alloc (.cells (devA x.d L.l) 38)) g=(0,0):=by
 have hlt:g<w.heap.size:=row_lt (w:=w) (by rw[hr];simp[worA]);have hm3:=h.h3;have hm2:=h.h2;have hm1:=h.h1;have HB:Below w.heap.size w ((w.alloc (.cells #[iv k,iv n] 54)).alloc (.cells (devA x.d L.l) 38)):=(bL _).alloc (by simp) _;exact⟨hlt,hm1,hm2,hm3,qH HB,qH (h.same (fun k a b=>HB.block k (by omega)) (by simp;omega)),qH ((Bex.refl g base w).below HB (by omega) (by omega)),by simp,
  by rw[rowOf_alloc,if_neg (by simp;omega),rowOf_alloc,if_neg (by omega)];exact hr,by rw[frOf_alloc,if_neg (by simp;omega),frOf_alloc,if_neg (by omega)];exact hf⟩
theorem happen_9(g base m top:Nat)(ds:List (Option Addr×Nat))(n:Int)(x:Wor)(L:WLoc)(w:World)(hr:rowOf w g=worA x L)(hf:frOf w g=(0,0))(hg:g<base∨top<=g)(h:WorAt w base m top ds x L):Calls Tryz.prog 53 #[.pointer (some ⟨g,0,none⟩),.agg #[iv 9,iv n]] w (HaRet w g base (worDevice x (devCrash x.d)).1 (worDevice x (devCrash x.d)).2):=by
 obtain⟨hlt,hm1,hm2,hm3,HBA,HW1,HX1,hs1,-,-⟩:=happen_box g base m top ds n x L w hr hf hg h 9;have a2:=keep1 (bW w) hr (by go_simp) hf;obtain⟨⟨d1,e1⟩,hd1⟩:∃z,devCrash x.d=z:=⟨_,rfl⟩;have KD:=qH (devCrash_calls x.d L.l _ HW1.out.dev.now);rw[hd1]at KD⊢;obtain⟨res,hres⟩:=eX (worDevice x (d1,e1));rw[hres];have HD:Hid (res=if e1≠0 then (Wor.zero,e1)else ({x with d:=d1},0)):=qH (by rw[<-hres];unfold worDevice;rfl);clear hd1 hres hr hf h;go_enter Tryz.func53,Tryz.ntmps53;go_wp2_with fail;refine KD.out.mono ?_;rintro e w1 ⟨L1,rfl,hfr,hb⟩;have hg1:¬w.heap.size+1=g:=by omega
 have hg2:¬g=w.heap.size+1:=by omega
 have a2:=kp g (worA x L) hb;have a1:=kp (w.heap.size+1) (devA x.d L.l) hb;have hs2:w.heap.size+2<=w1.heap.size:=by have:=hb.size;omega
 have HX2:Hid (Bex g base w w1):=qH (HX1.out.below hb (by omega) (by omega));have HW2:Hid (WorAt w1 base m top ds x L):=qH (HW1.out.same (fun k a b=>hb.block k (by omega)) (by omega));have HFR:Hid (Fresh (w.heap.size+2) w1 (fun v=>DevIn v d1 L1)):=qH (by simpa[Nat.add_assoc]using hfr);clear hb hfr KD HX1 HW1;by_cases c1:e1≠0
 ·have hz:res=(Wor.zero,e1):=HD.out.trans (if_pos c1);subst hz;have q:(e1==0)=false:=by simp[c1]
  have HC:=qH c1;clear c1;go_wp2_with fail;go_ret;refine⟨rfl,fun e=>absurd e HC.out,HX2.out.row (.inr (by omega)) _,by simp[World.setRow];omega⟩
 have c1:=Decidable.not_not.1 c1;subst c1;have hz:res=({x with d:=d1},0):=HD.out.trans (if_neg (by simp));subst hz;go_wp2_with fail;have hp1:0<(rowOf w1 (w.heap.size+1)).size:=by rw[a1.1];simp[devA]
 have hp2:0<(rowOf (w1.setRow (w.heap.size+1) (devA d1 L1)) g).size:=by rw[rowOf_setRow _ _ _ _ hp1,if_neg (by omega),a2.1];simp[worA]
 go_ret;refine⟨rfl,fun _=>⟨{L with l:=L1},?_,?_,?_⟩,?_,?_⟩
 ·rw[rowOf_setRow _ _ _ _ hp2,if_pos rfl]
 ·rw[frOf_setRow,frOf_setRow];exact a2.2.1
 ·intro v hv;have hb1:∀k,base<=k->k≠g->k≠w.heap.size+1->k<w1.heap.size->v.heap[k]?=w1.heap[k]?:=fun k h1 h0 h3 h2=>(hv k h1 h0 (by simp[World.setRow];omega)).trans ((setRow_other _ _ _ _ h0).trans (setRow_other _ _ _ _ h3));have hi:=HW2.out.wex (v:=v) (fun k h1 h2=>hb1 k h1 (by omega) (by omega) (by omega));exact⟨hi.kr,hi.lr,hi.rel,HFR.out v (fun k h1 h2=>hb1 k (by omega) (by omega) (by omega) h2),hi.kn,hi.ln,hi.net⟩
 ·exact(HX2.out.row (.inr (by omega)) _).row (.inl rfl) _
 simp[World.setRow];omega
theorem hapOk_9(n:Int):HapOk 9 n:=fun g base m top ds x L w hr hf hg h _ _=>happen_9 g base m top ds n x L w hr hf hg h
theorem x0ho(h:Y:=by
 go_enter Tryz.func4,Tryz.ntmps4;go_wp2_with fail;refine(K1.out _ (HIN.out.stays HBA.out)).mono ?_;rintro e w1 ⟨rfl,hb⟩;have a1:=kp (w.heap.size) (worA x L) hb;have hs1:w.heap.size+1<=w1.heap.size:=by have:=hb.size;simpa using this
 have HB1:=bT HBA hb;clear hb;go_wp2_with fail
 go_ret3
 exact⟨none,0,rfl,nl,fun _ _=>bts_nil _ _,HB1.out⟩):Y:=h
theorem stoRuns_bad(h:worCheck x≠0):stoRuns x=(0,[],worCheck x):=by unfold stoRuns;rw[if_pos h]
theorem stoRuns_off(h:worCheck x=0)(hu:x.d.up=false):stoRuns x=(0,[],5):=by unfold stoRuns;rw[if_neg (by omega),if_pos hu]
theorem stoRuns_up(h:worCheck x=0)(hu:x.d.up=true):stoRuns x=((x.d.rec_.at_ x.d.running).ver,x.d.image x.d.running x.d.rec_,0):=by unfold stoRuns;rw[if_neg (by omega),if_neg (by rw[hu];simp)]
def SrRet(w:World)(v:Int)(b:LU)(n:Int):Ending->World->Prop:=fun en w'=>
 ∃A c,en=.returned (.tuple #[iv v,.slice A b.length c,iv n])∧b.length<=c∧Fresh w.heap.size w' (fun v=>Bts v A b)∧Below w.heap.size w w'
def srJ(w0:World)(b:LU):Nat->(Nat->Value)->World->Prop
 |0,_,w=>w=w0.drew
 |1,cv,w=>∃A c,cv 12=.slice A b.length c∧Own w w0.heap.size 5 1 A b.length c (b.map bv)∧Below w0.heap.size w0 w
 |_,cv,w=>∃A c,cv 14=.slice A b.length c∧Own w w0.heap.size 5 1 A b.length c (b.map bv)∧Below w0.heap.size w0 w
theorem srJ_bel{w0:World}{b:LU}{k:Nat}{cv:Nat->Value}(hJ:srJ w0 b k cv w):Below w0.heap.size w0 w:=by
 match k,hJ with
 |0,hJ=>obtain rfl:w=w0.drew:=hJ;exact(Below.refl _ _).drew
 |1,⟨_,_,_,_,h⟩=>exact h
 |n+2,⟨_,_,_,_,h⟩=>exact h
theorem stoRuns_calls(x:Wor)(L:WLoc)(w:World)(h:WorIn w x L):Calls Tryz.prog 4 #[.agg (worA x L)] w (SrRet w (stoRuns x).1 (stoRuns x).2.1 (stoRuns x).2.2):=by
 have HBA:Hid (Below w.heap.size w (w.alloc (.cells (worA x L) 40))):=qH (bL _);have HIN:=qH h;have K1:=qH (fun w h=>worCheck_calls x L w h);by_cases hc:worCheck x≠0
 ·rw[stoRuns_bad hc];have q:(worCheck x !=0)=true:=by simp[hc]
  generalize worCheck x=n at *
  clear hc h;exact x0ho
 have hc:=Decidable.not_not.1 hc;have hok:=(worCheck_ok.1 hc).dev;rw[hc]at K1
 cases hu:x.d.up
 ·rw[stoRuns_off hc hu];clear hc h hok;exact x0ho
 rw[stoRuns_up hc hu];have hrec:=rec_ok hok;have K2:=qH (fun w=>read_ok x.d.c0 x.d.c1 w hok.cops);obtain⟨rk,hrk⟩:=eX ((recRead x.d.c0 x.d.c1).2);have hre:(recRead x.d.c0 x.d.c1).1=x.d.rec_:=rfl;rw[hrk,hre]at K2;have hrun:=(hok.run hu).1;clear hc h hrk hre;rcases hrun with hk|hk
 first|case' inl=>have T2:Hid True:=qH trivial|case' pos=>have T2:Hid True:=qH trivial|case' refine_1=>have T2:Hid True:=qH trivial
 iterate 2
  ·first
    |
     revert T2;intro T2;have hver:(x.d.rec_.at_ x.d.running).ver=x.d.rec_.a.ver:=by rw[hk,at_0]
    |have hver:(x.d.rec_.at_ x.d.running).ver=x.d.rec_.b.ver:=by rw[hk,at_1]
   first
    |
     revert T2;intro T2;have himg:x.d.image x.d.running x.d.rec_=x.d.s0.take x.d.rec_.a.size.toNat:=by rw[hk];unfold Dev.image;rw[at_0];simp[Dev.slot]
    |have himg:x.d.image x.d.running x.d.rec_=x.d.s1.take x.d.rec_.b.size.toNat:=by rw[hk];unfold Dev.image;rw[at_1];simp[Dev.slot]
   first
    |
     revert T2;intro T2;have hsz:=(recCheck_parts hrec).2.1
    |have hsz:=(recCheck_parts hrec).2.2.1
   first
    |
     revert T2;intro T2;have hsz2:0<=x.d.rec_.a.size∧x.d.rec_.a.size<=64:=by
      unfold infCheck at hsz;by_cases hh:InfRange x.d.rec_.a
      ·unfold InfRange at hh;omega
      rw[if_neg hh]at hsz;exact absurd hsz (by decide)
    |
     have hsz2:0<=x.d.rec_.b.size∧x.d.rec_.b.size<=64:=by
      unfold infCheck at hsz;by_cases hh:InfRange x.d.rec_.b
      ·unfold InfRange at hh;omega
      rw[if_neg hh]at hsz;exact absurd hsz (by decide)
   first
    |
     revert T2;intro T2;obtain⟨y,hy⟩:∃y:Nat,x.d.rec_.a.size=(y:Int):=⟨x.d.rec_.a.size.toNat,by omega⟩
    |obtain⟨y,hy⟩:∃y:Nat,x.d.rec_.b.size=(y:Int):=⟨x.d.rec_.b.size.toNat,by omega⟩
   first
    |
     revert T2;intro T2;rw[show x.d.rec_.a.size.toNat=y by omega]at himg
    |rw[show x.d.rec_.b.size.toNat=y by omega]at himg
   first
    |
     revert T2;intro T2;obtain⟨b,hb⟩:=eX (x.d.s0.take y)
    |obtain⟨b,hb⟩:∃b,x.d.s1.take y=b:=⟨_,rfl⟩
   rw[hver,himg,hb]
   first
    |
     revert T2;intro T2;have hbl:b.length=y:=by rw[<-hb,List.length_take,hok.l0];omega
    |have hbl:b.length=y:=by rw[<-hb,List.length_take,hok.l1];omega
   have HBL:=qH hbl
   first
    |
     revert T2;intro T2;have HBT:Hid (Bts w L.l.a0 b):=qH (by rw[<-hb];exact mid_take HIN.out.dev.b0 y)
    |have HBT:Hid (Bts w L.l.a1 b):=qH (by rw[<-hb];exact mid_take HIN.out.dev.b1 y)
   first
    |
     revert T2;intro T2;obtain⟨ba,oa,hAa,-⟩:=HIN.out.dev.b0 0 (by rw[hok.l0];decide)
    |obtain⟨ba,oa,hAa,-⟩:=HIN.out.dev.b1 0 (by rw[hok.l1];decide)
   first
    |
     revert T2;intro T2;have HSL:Hid (∀W,(Instr.slice 23 (.slice L.l.a0 x.d.s0.length L.l.c0) none (some (iv x.d.rec_.a.size)) none).run Tryz.prog W=.ok (.slice L.l.a0 b.length L.l.c0) W):=qH (by rw[hbl];exact pre_slice y hy HIN.out.dev.k0 (by rw[hok.l0];omega) (by rw[hok.l0];decide) ⟨ba,oa,hAa⟩)
    |have HSL:Hid (∀W,(Instr.slice 23 (.slice L.l.a1 x.d.s1.length L.l.c1) none (some (iv x.d.rec_.b.size)) none).run Tryz.prog W=.ok (.slice L.l.a1 b.length L.l.c1) W):=qH (by rw[hbl];exact pre_slice y hy HIN.out.dev.k1 (by rw[hok.l1];omega) (by rw[hok.l1];decide) ⟨ba,oa,hAa⟩)
   have HB64:Hid (b.length<=64):=qH (by omega);have HK:=qH hk;clear hver himg hsz hsz2 hy hb hbl hAa hrec hok;go_enter Tryz.func4,Tryz.ntmps4;go_wp2_with fail;refine(K1.out _ (HIN.out.stays HBA.out)).mono ?_;rintro e w1 ⟨rfl,hb⟩;have a0:=kp (w.heap.size) (worA x L) hb;have hs1:w.heap.size+1<=w1.heap.size:=by have:=hb.size;simpa using this
   have HB1:=bT HBA hb;clear hb;go_wp2_with fail;refine(K2.out _).mono ?_;rintro e w2 ⟨rfl,hb⟩;have a0:=kr a0 hb;have hs2:w1.heap.size<=w2.heap.size:=hb.size;have HB2:=bT HB1 hb;clear hb;go_wp2_with fail
   first
    |
     revert T2;intro T2;obtain⟨w3,hw3⟩:=eX ((w2.alloc (.cells (recA x.d.rec_) 29)).alloc (.cells (infA x.d.rec_.a) 26))
    |obtain⟨w3,hw3⟩:∃w3,(w2.alloc (.cells (recA x.d.rec_) 29)).alloc (.cells (infA x.d.rec_.b) 26)=w3:=⟨_,rfl⟩
   have z1:rowOf w3 w.heap.size=worA x L:=by rw[<-hw3,rowOf_alloc,if_neg (by simp;omega),rowOf_alloc,if_neg (by omega)];exact a0.1
   have z2:frOf w3 w.heap.size=(0,0):=by rw[<-hw3,frOf_alloc,if_neg (by simp;omega),frOf_alloc,if_neg (by omega)];exact a0.2.1
   first
    |
     revert T2;intro T2;have z3:rowOf w3 (w2.heap.size+1)=infA x.d.rec_.a:=by rw[<-hw3,rowOf_alloc,if_pos (by simp)]
    |have z3:rowOf w3 (w2.heap.size+1)=infA x.d.rec_.b:=by rw[<-hw3,rowOf_alloc,if_pos (by simp)]
   have z4:frOf w3 (w2.heap.size+1)=(0,0):=by rw[<-hw3,frOf_alloc,if_pos (by simp)]
   have HB3:Hid (Below w.heap.size w w3):=qH (by rw[<-hw3];exact(HB2.out.alloc HB2.out.size _).alloc (by simp;omega) _);try rw[hw3]
   have RW:=qH z1;have FW:=qH z2;have RX:=qH z3;have FX:=qH z4;clear hw3 z1 z2 z3 z4 a0 hk
   first
    |
     revert T2;intro T2;refine wp_region_mix (by kernel_rfl) (some 33::some 34::some 35::some 36::some 37::some 38::some 39::some 40::some 41::some 42::some 43::some 44::some 45::some 2::some 3::some 4::[]) (none::none::none::none::none::none::none::none::none::none::none::none::some 0::none::some 1::none::[]) (.pointer (some ⟨w2.heap.size+1,0,none⟩)::iv x.d.rec_.a.ver::.pointer (some ⟨w.heap.size,1,none⟩)::.pointer (some ⟨w.heap.size,28,none⟩)::iv 0::.pointer (some ⟨w.heap.size,1,none⟩)::.pointer (some ⟨w.heap.size,1,none⟩)::.pointer (some ⟨w.heap.size,1,none⟩)::.slice L.l.a0 x.d.s0.length L.l.c0::.pointer (some ⟨w2.heap.size+1,1,none⟩)::iv x.d.rec_.a.size::.slice L.l.a0 b.length L.l.c0::undef::iv x.d.rec_.a.ver::undef::iv 0::[]) 2 (srJ w3 b) 46 rfl rfl (by decide+kernel) (by decide+kernel) (by decide+kernel) (by decide+kernel) rfl rfl (by decide+kernel) (by decide+kernel) (rfl) ?_ ?_
    |refine wp_region_mix (by kernel_rfl) (some 33::some 34::some 35::some 36::some 37::some 38::some 39::some 40::some 41::some 42::some 43::some 44::some 45::some 2::some 3::some 4::[]) (none::none::none::none::none::none::none::none::none::none::none::none::some 0::none::some 1::none::[]) (.pointer (some ⟨w2.heap.size+1,0,none⟩)::iv x.d.rec_.b.ver::.pointer (some ⟨w.heap.size,1,none⟩)::.pointer (some ⟨w.heap.size,28,none⟩)::iv 1::.pointer (some ⟨w.heap.size,1,none⟩)::.pointer (some ⟨w.heap.size,1,none⟩)::.pointer (some ⟨w.heap.size,2,none⟩)::.slice L.l.a1 x.d.s1.length L.l.c1::.pointer (some ⟨w2.heap.size+1,1,none⟩)::iv x.d.rec_.b.size::.slice L.l.a1 b.length L.l.c1::undef::iv x.d.rec_.b.ver::undef::iv 0::[]) 2 (srJ w3 b) 46 rfl rfl (by decide+kernel) (by decide+kernel) (by decide+kernel) (by decide+kernel) rfl rfl (by decide+kernel) (by decide+kernel) (rfl) ?_ ?_
   ·refine⟨?_,?_,?_,?_,?_,?_,?_,?_,?_,?_,?_,?_,?_,?_,?_,?_,trivial⟩
    ·intro done cv k0 a wq hw h hJ hn;have e9:=mO 9 (.pointer (some ⟨w2.heap.size+1,0,none⟩)) h;go_simp
    ·intro done cv k0 a wq hw h hJ hn;have e33:=mN 0 33 h hw;have y_:=kq (srJ_bel hJ) RX FX;go_simp
    ·intro done cv k0 a wq hw h hJ hn;have e1:=mO 1 (.pointer (some ⟨w.heap.size,0,none⟩)) h;go_simp
    ·intro done cv k0 a wq hw h hJ hn;have e35:=mN 2 35 h hw;go_simp
    ·intro done cv k0 a wq hw h hJ hn;have e36:=mN 3 36 h hw;have y_:=kq (srJ_bel hJ) RW FW;have hk_:=HK.out;go_simp
    ·intro done cv k0 a wq hw h hJ hn;have e1:=mO 1 (.pointer (some ⟨w.heap.size,0,none⟩)) h;go_simp
    ·intro done cv k0 a wq hw h hJ hn;have e38:=mN 5 38 h hw;go_simp
    ·intro done cv k0 a wq hw h hJ hn;have e39:=mN 6 39 h hw;have e37:=mN 4 37 h hw;go_simp
    ·intro done cv k0 a wq hw h hJ hn;have e40:=mN 7 40 h hw;have y_:=kq (srJ_bel hJ) RW FW;go_simp
    ·intro done cv k0 a wq hw h hJ hn;have e9:=mO 9 (.pointer (some ⟨w2.heap.size+1,0,none⟩)) h;go_simp
    ·intro done cv k0 a wq hw h hJ hn;have e42:=mN 9 42 h hw;have y_:=kq (srJ_bel hJ) RX FX;go_simp
    ·intro done cv k0 a wq hw h hJ hn;have e41:=mN 8 41 h hw;have e43:=mN 10 43 h hw;have hs_:=HSL.out;go_simp
    ·intro done cv a wq hw h hJ;have e44:=mN 11 44 h hw;obtain rfl:wq=w3.drew:=hJ
     first
      |
       revert T2;intro T2;refine wp_call (vals:=#[.slice L.l.a0 b.length L.l.c0]) (by rw[List.map_toArray,List.map_cons,List.map_nil,ch_ev e44]) (enters_of Tryz.func13 (by kernel_rfl) rfl _ _) (cloneBytes_calls _ b.length _ (b.map bv) _ (by simp) (by have:=HB64.out;omega) ((HBT.out.stays HB3.out).stays ((Below.refl _ _).drew)).src (bv_one _)) ?_
      |refine wp_call (vals:=#[.slice L.l.a1 b.length L.l.c1]) (by rw[List.map_toArray,List.map_cons,List.map_nil,ch_ev e44]) (enters_of Tryz.func13 (by kernel_rfl) rfl _ _) (cloneBytes_calls _ b.length _ (b.map bv) _ (by simp) (by have:=HB64.out;omega) ((HBT.out.stays HB3.out).stays ((Below.refl _ _).drew)).src (bv_one _)) ?_
     rintro e w' ⟨A5,c5,rfl,hown,hbel⟩;exact⟨_,rfl,_,rfl,A5,c5,by simp,hown,(Below.refl _ _).drew.trans hbel⟩
    ·intro done cv k0 a wq hw h hJ hn;have e34:=mN 1 34 h hw;exact mx_assign (ch_ev e34)
    ·intro done cv a wq hw h hJ;have e45:=mx_cv (i:=12) (t:=45) h (hw 12 (by decide)) rfl rfl;obtain⟨A5,c5,y1,hown,hbel⟩:=hJ;rw[y1]at e45;exact wp_asg (ch_ev e45) ⟨_,rfl,A5,c5,by simp,hown,hbel⟩
    ·intro done cv k0 a wq hw h hJ hn;exact mx_assign rfl
   intro cv4 w4 hJ;obtain⟨A5,c5,y14,hown,hbel⟩:=hJ;simp only[mixAll,putAll_some,putAll_none,putAll_nil,List.getElem?_cons_zero,List.getElem?_cons_succ,Nat.zero_add,Nat.reduceAdd,List.setIfInBounds_toArray,List.set_cons_zero,List.set_cons_succ];rw[y14];have HB4:=bT HB3 hbel;have HO:=qH hown;clear hown hbel y14;go_wp2_with fail
   go_ret3
   exact⟨A5,c5,rfl,HO.out.le,fun v hv=>(own_fresh (HO.out.mono HB3.out.size) hv).src.bts,HB4.out⟩
section
open Go.RowKit
end
theorem x38k(h:Y:=by
 repeat (first|exact HK3.out|exact Kp.refl _ _|refine Kp.row ?_ (by omega) _|refine Kp.cell ?_ (by first|(show _<_∨_<=_;omega)|(simp<;>omega)) _|refine Kp.alloc ?_ (by first|omega|(simp<;>omega)) _)):Y:=h
theorem x7a7(h:Y:=by
 go_enter Tryz.func15,Tryz.ntmps15;go_wp2_with fail;refine(K1.out _ (HIN.out.stays HBA.out)).mono ?_;rintro e w1 ⟨rfl,hb1⟩;have a2:=kp (w.heap.size) (devA d L) hb1;have a1:=kp (w.heap.size+1) (devA Dev.zero DLoc.zero) hb1;have HB1:=bT HBA hb1;have hsz1:w.heap.size+2<=w1.heap.size:=by have:=hb1.size;simp at this;omega
 clear hb1;go_wp2_with fail;refine bodyPost_ret (rC (devA Dev.zero DLoc.zero)) rfl ⟨DLoc.zero,rfl,.const fun v=>DevIn.zero v,bZ HB1⟩):Y:=h
theorem DevIn.booted{d:Dev}{L:DLoc}(h:DevIn w d L)(p q:Cop)(k:Int)(hk:k=0∨k=1):DevIn w {d with c0:=p,c1:=q,up:=true,running:=k} L:=⟨h.k0,h.l0,h.b0,h.k1,h.l1,h.b1,h.kg,h.lg,h.got,h.job,⟨by show -9223372036854775808<=k;omega,by show k<=9223372036854775807;omega⟩,h.id⟩
theorem start_slot{r:Rec}(h:recCheck r=0):(recStart r).1=0∨(recStart r).1=1:=by
 have:=rec_active h;unfold recStart;repeat' split
 all_goals (try dsimp only)
 all_goals first|omega|(unfold nowAt;omega)
theorem devBoot_bad(d:Dev)(L:DLoc)(w:World)(h:DevIn w d L)(hne:devCheck d≠0):Calls Tryz.prog 15 #[.agg (devA d L)] w (DvRet w Dev.zero (devCheck d)):=by
 have hba:Below w.heap.size w ((w.alloc (.cells (devA d L) 38)).alloc (.cells (devA Dev.zero DLoc.zero) 38)):=bA (bA (Below.refl _ _) _) _;have HBA:=qH hba;have HIN:=qH h;have K1:=qH (fun w h=>devCheck_calls d L w h);have q:(devCheck d !=0)=true:=by simp[hne]
 generalize devCheck d=n at *
 clear hne h hba;exact x7a7
theorem devBoot_late(d:Dev)(L:DLoc)(w:World)(h:DevIn w d L)(hz:devCheck d=0)(hu:d.up=true):Calls Tryz.prog 15 #[.agg (devA d L)] w (DvRet w Dev.zero 5):=by
 have hba:Below w.heap.size w ((w.alloc (.cells (devA d L) 38)).alloc (.cells (devA Dev.zero DLoc.zero) 38)):=bA (bA (Below.refl _ _) _) _;have HBA:=qH hba;have HIN:=qH h;have K1:=qH (fun w h=>devCheck_calls d L w h);rw[hz]at K1;clear hz h hba;exact x7a7
theorem devBoot_ok(d:Dev)(L:DLoc)(w:World)(h:DevIn w d L)(hz:devCheck d=0)(hu:d.up=false):Calls Tryz.prog 15 #[.agg (devA d L)] w (DvRet w (devBoot d).1 (devBoot d).2):=by
 have hba:Below w.heap.size w ((w.alloc (.cells (devA d L) 38)).alloc (.cells (devA Dev.zero DLoc.zero) 38)):=bA (bA (Below.refl _ _) _) _;have HBA:=qH hba;have HIN:=qH h;have K1:=qH (fun w h=>devCheck_calls d L w h);have hdef:devBoot d=if (recStart d.rec_).2.2≠0 then (Dev.zero,(recStart d.rec_).2.2)
   else if (recStart d.rec_).2.1≠d.rec_ then
    (if (recWrite d.c0 d.c1 (recStart d.rec_).2.1 false).2≠0 then (Dev.zero,(recWrite d.c0 d.c1 (recStart d.rec_).2.1 false).2)
    else ({d with c0:=(recWrite d.c0 d.c1 (recStart d.rec_).2.1 false).1.1,c1:=(recWrite d.c0 d.c1 (recStart d.rec_).2.1 false).1.2,up:=true,running:=(recStart d.rec_).1},0))
   else ({d with c0:=d.c0,c1:=d.c1,up:=true,running:=(recStart d.rec_).1},0):=by unfold devBoot;rw[if_neg (by omega),if_neg (by rw[hu];decide)];rfl
 have hok:=devCheck_ok.1 hz;have hrec:=rec_ok hok;have HSL:=qH (start_slot hrec);have KC:=qH (fun w h=>devCopy_calls d L w h);have K2:=qH (fun w=>read_ok d.c0 d.c1 w hok.cops);obtain⟨rk,hrk⟩:=eX ((recRead d.c0 d.c1).2);have hre:(recRead d.c0 d.c1).1=d.rec_:=rfl;rw[hrk,hre]at K2;have K3:=qH (fun w=>start_calls d.rec_ w);obtain⟨⟨k,nx,e1⟩,hq⟩:∃x,recStart d.rec_=x:=⟨_,rfl⟩;rw[hq]at hdef K3 HSL;dsimp only at hdef K3 HSL;have K4:=qH (fun w=>write_calls d.c0 d.c1 nx false w);obtain⟨⟨⟨p1,p2⟩,e2⟩,hw⟩:∃x,recWrite d.c0 d.c1 nx false=x:=⟨_,rfl⟩;rw[hw]at hdef K4;dsimp only at hdef;have HD:=qH hdef;rw[hz]at K1;generalize devBoot d=res at *
 clear hdef hok hrec hrk hre hq hw hz h hba;go_enter Tryz.func15,Tryz.ntmps15;go_wp2_with fail;refine(K1.out _ (HIN.out.stays HBA.out)).mono ?_;rintro e w1 ⟨rfl,hb1⟩;have a3:=kp (w.heap.size) (devA d L) hb1;have a1:=kp (w.heap.size+1) (devA Dev.zero DLoc.zero) hb1;have HB1:=bT HBA hb1;have hsz1:w.heap.size+2<=w1.heap.size:=by have:=hb1.size;simp at this;omega
 clear hb1;go_wp2_with fail;refine(KC.out _ (HIN.out.stays HB1.out)).mono ?_;rintro e w2 ⟨L1,rfl,hfr,hb⟩;have a3:=kr a3 hb;have a1:=kr a1 hb;have HFR:=qH hfr;have hsz2:w1.heap.size<=w2.heap.size:=hb.size;have HB2:=bT HB1 hb;have HK1:Hid (Kp w1.heap.size w2 w2):=qH (Kp.refl _ _);clear hb hfr;go_wp2_with fail;refine(K2.out _).mono ?_;rintro e w3 ⟨rfl,hb⟩;have a3:=kp (w.heap.size) (devA d L1) hb;have a1:=kr a1 hb;have hbs1:=hb.size;have hsz3:w2.heap.size<=w3.heap.size:=by first|omega|(simp[World.setRow]at hbs1;omega)
 have HK2:Hid (Kp w1.heap.size w2 w3):=qH (by
  refine Kp.below ?_ (by first|omega|(simp[World.setRow]<;>omega)) hb;repeat (first|exact HK1.out|exact Kp.refl _ _|refine Kp.row ?_ (by omega) _|refine Kp.cell ?_ (by first|(show _<_∨_<=_;omega)|(simp<;>omega)) _|refine Kp.alloc ?_ (by first|omega|(simp<;>omega)) _))
 have HB3:=bU HB2 hb;clear hb hbs1;go_wp2_with fail;refine(K3.out _).mono ?_;rintro e w4 ⟨rfl,hb⟩;have a3:=kr a3 hb;have a1:=kr a1 hb;have a2:=kp (w3.heap.size) (recA d.rec_) hb;have hbs1:=hb.size;have hsz4:w2.heap.size<=w4.heap.size:=by first|omega|(simp[World.setRow]at hbs1;omega)
 have HK3:Hid (Kp w1.heap.size w2 w4):=qH (by
  refine Kp.below ?_ (by first|omega|(simp[World.setRow]<;>omega)) hb;repeat (first|exact HK2.out|exact Kp.refl _ _|refine Kp.row ?_ (by omega) _|refine Kp.cell ?_ (by first|(show _<_∨_<=_;omega)|(simp<;>omega)) _|refine Kp.alloc ?_ (by first|omega|(simp<;>omega)) _))
 have HB4:=bU HB3 hb;clear hb hbs1;have hsz6:w3.heap.size<w4.heap.size:=a2.2.2.2.2.2;by_cases c2:e1≠0
 ·have hz:res=(Dev.zero,e1):=HD.out.trans (if_pos c2);subst hz;have q:(e1 !=0)=true:=by simp[c2]
  clear c2;go_wp2_with fail;refine bodyPost_ret (rC (devA Dev.zero DLoc.zero)) rfl ⟨DLoc.zero,rfl,.const fun v=>DevIn.zero v,bZ HB4⟩
 have c2:=Decidable.not_not.1 c2;subst c2;have HD1:=qH (HD.out.trans (if_neg (by decide)));clear HD;by_cases c3:nx≠d.rec_
 ·have HD2:=qH (HD1.out.trans (if_pos c3));have q1:decide (nx=d.rec_)=false:=decide_eq_false c3;clear HD1 c3;go_wp2_with fail;refine(K4.out _).mono ?_;rintro e w5 ⟨rfl,hb⟩;have a3:=kr a3 hb;have a1:=kr a1 hb;have hbs1:=hb.size;have hsz5:w2.heap.size<=w5.heap.size:=by first|omega|(simp[World.setRow]at hbs1;omega)
  have HK4:Hid (Kp w1.heap.size w2 w5):=qH (by
   refine Kp.below ?_ (by first|omega|(simp[World.setRow]<;>omega)) hb;exact x38k)
  have HB5:=bU HB4 hb;clear hb hbs1;by_cases c3:e2≠0
  ·have hz:res=(Dev.zero,e2):=HD2.out.trans (if_pos c3);subst hz;have q:(e2 !=0)=true:=by simp[c3]
   clear c3;go_wp2_with fail;refine bodyPost_ret (rC (devA Dev.zero DLoc.zero)) rfl ⟨DLoc.zero,rfl,.const fun v=>DevIn.zero v,bZ HB5⟩
  have c3:=Decidable.not_not.1 c3;subst c3;have hz:res=({d with c0:=p1,c1:=p2,up:=true,running:=k},0):=HD2.out.trans (if_neg (by decide));subst hz;clear hu;go_wp2_with fail;refine bodyPost_ret (rC (devA {d with c0:=p1,c1:=p2,up:=true,running:=k} L1)) rfl ⟨L1,rfl,?_,?_⟩
  ·refine Fresh.imp (P:=fun v=>DvOwn v w1.heap.size d L1) (Fresh.kp HFR.out ?_ (by omega) (by first|omega|(simp[World.setRow]<;>omega))) (fun v hv=>hv.devIn.booted p1 p2 k HSL.out);repeat (first|exact HK4.out|exact Kp.refl _ _|refine Kp.row ?_ (by omega) _|refine Kp.cell ?_ (by first|(show _<_∨_<=_;omega)|(simp<;>omega)) _|refine Kp.alloc ?_ (by first|omega|(simp<;>omega)) _)
  exact bZ HB5
 have hz:res=({d with c0:=d.c0,c1:=d.c1,up:=true,running:=k},0):=HD1.out.trans (if_neg c3);have q1:decide (nx=d.rec_)=true:=decide_eq_true (Decidable.not_not.1 c3);subst hz;clear c3 hu;go_wp2_with fail;refine bodyPost_ret (rC (devA {d with c0:=d.c0,c1:=d.c1,up:=true,running:=k} L1)) rfl ⟨L1,rfl,?_,?_⟩
 ·refine Fresh.imp (P:=fun v=>DvOwn v w1.heap.size d L1) (Fresh.kp HFR.out ?_ (by omega) (by first|omega|(simp[World.setRow]<;>omega))) (fun v hv=>hv.devIn.booted d.c0 d.c1 k HSL.out);exact x38k
 exact bZ HB4
theorem devBoot_calls(d:Dev)(L:DLoc)(w:World)(h:DevIn w d L):Calls Tryz.prog 15 #[.agg (devA d L)] w (DvRet w (devBoot d).1 (devBoot d).2):=by
 by_cases hz:devCheck d=0
 ·cases hu:d.up
  ·exact devBoot_ok d L w h hz hu
  ·have e:devBoot d=(Dev.zero,5):=by unfold devBoot;rw[if_neg (by omega),if_pos hu]
   rw[e];exact devBoot_late d L w h hz hu
 have e:devBoot d=(Dev.zero,devCheck d):=by unfold devBoot;rw[if_pos hz]
 rw[e];exact devBoot_bad d L w h hz
theorem x10v(h:Y:=by
 have HV:=qH hv;clear hv;go_wp2_with fail;go_ret2;refine⟨by first|rfl|(dsimp only;rw[HV.out];rfl)|(rw[HV.out];rfl),?_⟩;exact bZ HB3):Y:=h
theorem x3di(h:Y:=by
 refine Below.trans ?_ (hb.mono (by first|omega|(simp[World.setRow]<;>omega)));repeat (first|exact hA|refine bR ?_ _|refine bA ?_ _)):Y:=h
theorem x5ms(h:Y:=by
 have HV:=qH hv;clear hv;go_wp2_with fail;go_ret2;refine⟨by first|rfl|(dsimp only;rw[HV.out];rfl)|(rw[HV.out];rfl),?_⟩;exact bZ HB4):Y:=h
theorem stoNext_bad(h:worCheck x≠0):stoNext x=(0,worCheck x):=by unfold stoNext;rw[if_pos h]
theorem stoNext_ok(h:worCheck x=0):stoNext x=if (devBoot x.d.off).2≠0 then (0,(devBoot x.d.off).2)else (((devBoot x.d.off).1.rec_.at_ (devBoot x.d.off).1.running).ver,0):=by unfold stoNext;rw[if_neg (by omega)]
theorem booted_ok{d:Dev}(h:(devBoot d).2=0):DevOk (devBoot d).1∧((devBoot d).1.running=0∨(devBoot d).1.running=1):=by
 obtain⟨h1,h2⟩:=boot_parts h;rw[h2];have h3:=boot_ok_dev h1;exact⟨h3,(h3.run (by unfold Dev.boots;split<;>rfl)).1⟩
theorem stoNext_calls(x:Wor)(L:WLoc)(w:World)(h:WorIn w x L):Calls Tryz.prog 5 #[.agg (worA x L)] w (RetB w (.tuple #[iv (stoNext x).1,iv (stoNext x).2])):=by
 have HBA:Hid (Below w.heap.size w (w.alloc (.cells (worA x L) 40))):=qH (bL _);have HIN:=qH h;have K1:=qH (fun w h=>worCheck_calls x L w h);by_cases hc:worCheck x≠0
 ·rw[stoNext_bad hc];have q:(worCheck x !=0)=true:=by simp[hc]
  generalize worCheck x=n at *
  clear hc h;go_enter Tryz.func5,Tryz.ntmps5;go_wp2_with fail;refine(K1.out _ (HIN.out.stays HBA.out)).mono ?_;rintro e w1 ⟨rfl,hb⟩;have a1:=kp (w.heap.size) (worA x L) hb;have hs1:w.heap.size+1<=w1.heap.size:=by have:=hb.size;simpa using this
  have HB1:=bT HBA hb;clear hb;go_wp2_with fail;go_ret2;refine⟨rfl,?_⟩;exact bZ HB1
 have hc:=Decidable.not_not.1 hc;have hdef:=stoNext_ok hc;have hok:=(worCheck_ok.1 hc).dev;obtain⟨res,hres⟩:=eX (stoNext x);rw[hres]at hdef⊢;have HD:=qH hdef;rw[hc]at K1;have KB:=qH (fun L w h=>devBoot_calls x.d.off L w h);clear hc h hdef hres
 cases hu:x.d.up
 ·have hoff:x.d.off=x.d:=by unfold Dev.off;rw[hu];rfl
  rw[hoff]at HD KB;clear hok hoff;go_enter Tryz.func5,Tryz.ntmps5;go_wp2_with fail;refine(K1.out _ (HIN.out.stays HBA.out)).mono ?_;rintro e w1 ⟨rfl,hb⟩;have a1:=kp (w.heap.size) (worA x L) hb;have hs1:w.heap.size+1<=w1.heap.size:=by have:=hb.size;simpa using this
  have HB1:=bT HBA hb;clear hb;obtain⟨⟨d1,e1⟩,hd1⟩:∃z,devBoot x.d=z:=⟨_,rfl⟩;have hbk:=@booted_ok x.d;rw[hd1]at HD KB hbk;go_wp2_with fail;refine(KB.out _ _ ?_).mono ?_
  ·refine HIN.out.dev.stays ?_;exact bZ HB1
  rintro e w2 ⟨L1,rfl,hfr1,hb⟩;have a1:=kp (w1.heap.size) (devA x.d L.l) hb;have hs2:w1.heap.size+1<=w2.heap.size:=by have:=hb.size;first|omega|(simp[World.setRow]at this;omega)
  have HB2:Hid (Below w.heap.size w w2):=qH (by
   exact x3di)
  clear hb hd1 hfr1;by_cases c2:e1≠0
  ·have hz:res=(0,e1):=HD.out.trans (if_pos c2);subst hz;have q:(e1 !=0)=true:=by simp[c2]
   clear c2 hbk;go_wp2_with fail;go_ret2;refine⟨rfl,?_⟩;exact bZ HB2
  have c2:=Decidable.not_not.1 c2;subst c2;have hz:res=((d1.rec_.at_ d1.running).ver,0):=HD.out.trans (if_neg (by simp));subst hz;obtain⟨hok1,hrun⟩:=hbk rfl;try dsimp only at hok1 hrun
  have K2:=qH (fun w=>read_ok d1.c0 d1.c1 w hok1.cops);obtain⟨rk,hrk⟩:=eX ((recRead d1.c0 d1.c1).2);have hre:(recRead d1.c0 d1.c1).1=d1.rec_:=rfl;rw[hrk,hre]at K2;clear hok1 hrk hre HD KB;go_wp2_with fail;refine(K2.out _).mono ?_;rintro e w3 ⟨rfl,hb⟩;have a1:=kp (w1.heap.size) (devA d1 L1) hb;have HB3:=bU HB2 hb;clear hb K2;rcases hrun with hk|hk
  ·have hv:(d1.rec_.at_ d1.running).ver=d1.rec_.a.ver:=by rw[hk,at_0]
   exact x10v
  have hv:(d1.rec_.at_ d1.running).ver=d1.rec_.b.ver:=by rw[hk,at_1]
  exact x10v
 have hoff:x.d.off=x.d.down:=by unfold Dev.off;rw[hu];rfl
 rw[hoff]at HD KB;have hcr:devCrash x.d=(x.d.down,0):=by
  unfold devCrash;rw[if_neg (by have:=devReady_ok.2 ⟨hok,hu⟩;omega)]
 have KC:=qH (fun w h=>devCrash_calls x.d L.l w h);rw[hcr]at KC;clear hok hoff hcr;go_enter Tryz.func5,Tryz.ntmps5;go_wp2_with fail;refine(K1.out _ (HIN.out.stays HBA.out)).mono ?_;rintro e w1 ⟨rfl,hb⟩;have a1:=kp (w.heap.size) (worA x L) hb;have hs1:w.heap.size+1<=w1.heap.size:=by have:=hb.size;simpa using this
 have HB1:=bT HBA hb;clear hb;go_wp2_with fail;refine(KC.out _ ?_).mono ?_
 ·refine HIN.out.dev.stays ?_;exact bZ HB1
 rintro e w2 ⟨L1,rfl,hfr,hb⟩;have a1:=kp (w1.heap.size) (devA x.d L.l) hb;have hs2:w1.heap.size+1<=w2.heap.size:=by have:=hb.size;simpa using this
 have HB2:Hid (Below w.heap.size w w2):=qH (by
  refine Below.trans ?_ (hb.mono (by first|omega|(simp<;>omega)));repeat (first|exact HB1.out|refine bA ?_ _))
 have HFR:Hid (Fresh (w1.heap.size+1) w2 (fun v=>DevIn v x.d.down L1)):=qH (by simpa using hfr);clear hb hfr KC;obtain⟨⟨d1,e1⟩,hd1⟩:∃z,devBoot x.d.down=z:=⟨_,rfl⟩;have hbk:=@booted_ok x.d.down;rw[hd1]at HD KB hbk;go_wp2_with fail;refine(KB.out _ _ ?_).mono ?_
 ·have hf1:Fresh (w1.heap.size+1) (w2.setRow w1.heap.size (devA x.d.down L1)) (fun v=>DevIn v x.d.down L1):=HFR.out.row (by omega) _
  first|exact hf1.now|exact(HFR.out.row (by omega) _).now
 rintro e w3 ⟨L2,rfl,hfr1,hb⟩;have a1:=kp (w1.heap.size) (devA x.d.down L1) hb;have hs3:w1.heap.size+1<=w3.heap.size:=by have:=hb.size;first|omega|(simp[World.setRow]at this;omega)
 have HB3:Hid (Below w.heap.size w w3):=qH (by
  exact x3di)
 clear hb hd1 hfr1;by_cases c2:e1≠0
 ·have hz:res=(0,e1):=HD.out.trans (if_pos c2);subst hz;have q:(e1 !=0)=true:=by simp[c2]
  clear c2 hbk;go_wp2_with fail;go_ret2;refine⟨rfl,?_⟩;exact bZ HB3
 have c2:=Decidable.not_not.1 c2;subst c2;have hz:res=((d1.rec_.at_ d1.running).ver,0):=HD.out.trans (if_neg (by simp));subst hz;obtain⟨hok1,hrun⟩:=hbk rfl;try dsimp only at hok1 hrun
 have K2:=qH (fun w=>read_ok d1.c0 d1.c1 w hok1.cops);obtain⟨rk,hrk⟩:=eX ((recRead d1.c0 d1.c1).2);have hre:(recRead d1.c0 d1.c1).1=d1.rec_:=rfl;rw[hrk,hre]at K2;clear hok1 hrk hre HD KB;go_wp2_with fail;refine(K2.out _).mono ?_;rintro e w4 ⟨rfl,hb⟩;have a1:=kp (w1.heap.size) (devA d1 L2) hb;have HB4:=bU HB3 hb;clear hb K2;rcases hrun with hk|hk
 ·have hv:(d1.rec_.at_ d1.running).ver=d1.rec_.a.ver:=by rw[hk,at_0]
  exact x5ms
 have hv:(d1.rec_.at_ d1.running).ver=d1.rec_.b.ver:=by rw[hk,at_1]
 exact x5ms
theorem hps_one{g:Nat}{t:TypeId}{f:Nat×Nat}{k n:Int}(h:w.heap[g]?=some (.cells #[iv k,iv n] t f))(h1:I64 k)(h2:I64 n):Hps w (some ⟨g,0,none⟩) [(k,n)]:=by
 intro i hi;obtain rfl:i=0:=by simpa using hi
 refine⟨g,0,rfl,blk_lt h,[iv k,iv n],rfl,fun j hj=>?_,rfl,h1,h2⟩;rw[cell_of_row w g _ _ _ _ h]
 match j,hj with
 |0,_=>rfl
 |1,_=>rfl
theorem runs_calls(W:World):Calls Tryz.prog 7 #[] W (RetB W (.bool true)):=by
 obtain⟨x2,hx2⟩:=eX ((worNew ims).1);obtain⟨x1,hx1⟩:=eX ((worRun x2 [(9,0)]).1);obtain⟨v1,hv1⟩:∃v,(stoRuns x1).1=v:=⟨_,rfl⟩;obtain⟨b1,hb1⟩:∃v,(stoRuns x1).2.1=v:=⟨_,rfl⟩;have f1:=runs_runs;have f2:=runs_next;have f3:=runs_run;have f4:=runs_late;rw[hx2]at f1 f2 f3 f4;rw[hx1]at f4;have K1:Hid (∀A c w,ims.length<=c->Ims w A ims->Calls Tryz.prog 19 #[.slice A ims.length c] w (WvRet w x2 0)):=qH (fun A c w hc h=>by
  have:=worNew_calls A c ims w hc (by decide) h;rwa [gone_new,hx2]at this)
 have K2:Hid (∀L w,WorIn w x2 L->Calls Tryz.prog 4 #[.agg (worA x2 L)] w (SrRet w 1 im0 0)):=qH (fun L w h=>by
  have:=stoRuns_calls x2 L w h;rwa [f1]at this)
 have K3:Hid (∀L w,WorIn w x2 L->Calls Tryz.prog 5 #[.agg (worA x2 L)] w (RetB w (.tuple #[iv 1,iv 0]))):=qH (fun L w h=>by
  have:=stoNext_calls x2 L w h;rwa [f2]at this)
 have K4:Hid (∀L B cl w,WorIn w x2 L->1<=cl->Hps w B [(9,0)]->Calls Tryz.prog 21 #[.agg (worA x2 L),.slice B 1 cl] w (WrRet w x1 [0] 0)):=qH (fun L B cl w h hc hh=>by
  have:=worRun_gen x2 L B cl [(9,0)] w h (by decide) hc hh (fun y hy=>(show y=(9,0) by simpa using hy)▸hapOk_9 0);rwa [f3,hx1]at this)
 have K5:Hid (∀L w,WorIn w x1 L->Calls Tryz.prog 4 #[.agg (worA x1 L)] w (SrRet w v1 b1 5)):=qH (fun L w h=>by
  have:=stoRuns_calls x1 L w h;rwa [f4,hv1,hb1]at this)
 clear f1 f2 f3 f4 hx2 hx1 hv1 hb1;have HL1:Hid (im0.length=8):=qH rfl;have HE1:Hid (∀(A:OA) (c:Nat) (w:World),im0.length<=c->Bts w A im0->(convert 23 9 (.slice A im0.length c)).run Tryz.prog w=.ok (.string ⟨#[97,98,99,100,101,102,103,104]⟩) w):=qH (fun A c w h1 h2=>conv_str A c im0 w h1 h2);generalize im0=i0 at *
 go_enter Tryz.func7,Tryz.ntmps7;go_wp2_with fail;refine(lawImages_calls _).mono ?_;rintro e w1 ⟨A,c,rfl,hc,hi,hb1⟩;have HB1:=qH hb1;have HI1:=qH hi;have HC1:=qH hc;clear hb1 hi hc;go_wp2_with fail;refine(K1.out _ _ _ HC1.out (by first|exact HI1.out|exact HI1.out.stays (Below.refl _ _))).mono ?_;rintro e w2 ⟨L,rfl,hf,hb1⟩;have HW1:=qH hf.now;have HB2:=bT HB1 hb1;clear hb1 hf;go_wp2_with fail;have hin1:WorIn (w2.alloc (.cells (worA x2 L) 40)) x2 L:=HW1.out.stays (bL _);refine(K2.out _ _ hin1).mono ?_;rintro e w3 ⟨A1,c1,rfl,hc1,hbt,hb⟩;have a1:=kp (w2.heap.size) (worA x2 L) hb;have HB3:Hid (Below W.heap.size W w3):=qH ((HB2.out.alloc HB2.out.size _).trans (hb.mono (by have:=HB2.out.size;simp;omega)));have HW2:=qH (hin1.stays hb);have HT1:=qH hbt.now;have HF1:=qH hbt;have HC2:=qH hc1;clear hb hbt hc1 hin1;go_wp2_with fail;refine(K3.out _ _ HW2.out).mono ?_;rintro e w4 ⟨rfl,hb⟩;have a1:=kr a1 hb;have HB4:=bT HB3 hb;have HB7:=qH hb;have HW3:=qH (HW2.out.stays hb);have HT2:=qH (HT1.out.stays hb);clear hb;go_wp2_with fail;refine(K4.out _ _ _ _ (HW3.out.stays (bL _)) nl (hps_one (blk_top rfl) ⟨by decide,by decide⟩ ⟨by decide,by decide⟩)).mono ?_;rintro e w5 ⟨L1,A2,c2,b5,rfl,ho1,hbs1,hw1,hb⟩;have a1:=kr a1 hb;have hbx:Below w4.heap.size w4 w5:=(bL _).trans (hb.mono (by simp));have HB5:=bT HB4 hbx;have HT3:=qH (HT2.out.stays hbx);have HB8:=bT HB7 hbx;have hp1:0<(rowOf w5 w2.heap.size).size:=by rw[a1.1];simp[worA]
 have hs1:w2.heap.size<b5:=by have:=hb.size;simp at hbs1;omega
 have HW4:Hid (WorIn (w5.setRow w2.heap.size (worA x1 L1)) x1 L1):=qH (hw1 _ (fun q h1 _ _=>setRow_other _ _ _ _ (by omega)));have HB5':Hid (Below W.heap.size W (w5.setRow w2.heap.size (worA x1 L1))):=qH (below_row HB5.out HB2.out.size _);have HT5':Hid (Bts (w5.setRow w2.heap.size (worA x1 L1)) A1 i0):=qH (HF1.out _ (fun k h1 h2=>by
  simp at h1;exact(setRow_other _ _ _ _ (by omega)).trans ((HB8.out.block k h2))))
 clear hb hbx ho1 hbs1 hw1;go_wp2_with fail;refine(K5.out _ _ HW4.out).mono ?_;rintro e w6 ⟨A3,c3,rfl,hc1,hbt1,hb⟩;have HB6:Hid (Below W.heap.size W w6):=qH (HB5'.out.trans (hb.mono HB5'.out.size));have ks:=HE1.out A1 c1 w6 HC2.out (HT5'.out.stays hb);clear hb hbt1 hc1 a1;go_wp2_with fail;go_ret;refine⟨rfl,?_⟩
 first|exact HB6.out|(repeat (first|exact HB6.out|refine below_drewN ?_ _|refine Below.drew ?_))
section
open Go.RowKit Go.WideShapes Go.ChangeShapes Go.ChangeAt
section
variable {H:Type} {enc:TypeId×Value->H} {P:Program} {w:World} {sp:Nat->Bool} {held:Bool} {t e:TypeId}
theorem readBy_img(ht:P.underlying t=some (.slice e))(he:P.underlying e=some (.int .u8))(hs:P.cellsOf e=1):ReadBy enc P w sp held t rImg:=by
 intro fuel cs d ps h hb;obtain⟨xs,A,c,hx,h1,h2,h3⟩:=readBy_slice ht hs (by omega) (readBy_byte he) fuel cs d ps h hb;exact⟨xs,A,c,hx,h1,h2,h3.bts⟩
end
section
variable {H:Type} {enc:TypeId×Value->H} {w:World} {sp:Nat->Bool} {held:Bool}
theorem reads_img:ReadBy enc Tryz.prog w sp held 23 rImg:=
 readBy_img Tryz.underlying23 Tryz.underlying5 (by kernel_rfl)
end
end
section
open Go.RowKit Go.WideShapes Go.ChangeShapes Go.ChangeAt
section
variable {H:Type} {enc:TypeId×Value->H} {P:Program} {w:World} {sp:Nat->Bool} {held:Bool} {t e:TypeId}
end
section
variable {H:Type} {enc:TypeId×Value->H} {w:World} {sp:Nat->Bool} {held:Bool}
end
section
variable {H:Type} {enc:TypeId×Value->H} {w:World} {base:Nat} {v:Value} {d:DataW H} {p:List MemPlace}
end
end
section
open Go.RowKit Go.WideShapes Go.ChangeShapes Go.ChangeAt
def rInf:CR Inf:=fun _ cs x=>cs=(infA x).toList
def rInfs:CR (Inf×Inf):=fun _ cs x=>cs=(infA x.1).toList++(infA x.2).toList
def rRec:CR Rec:=fun _ cs x=>cs=(recA x).toList
def rCop:CR Cop:=fun _ cs x=>cs=(copA x).toList
def rCops:CR (Cop×Cop):=fun _ cs x=>cs=(copA x.1).toList++(copA x.2).toList
section
variable {H:Type} {enc:TypeId×Value->H} {P:Program} {w:World} {sp:Nat->Bool} {held:Bool} {t e:TypeId}
theorem readBy_inf{f0 f1 f2:Field}(ht:P.underlying t=some (.struct #[f0,f1,f2]))(hs:P.cellsOf t=3)
  (o0:f0.offset=0) (o1:f1.offset=1) (o2:f2.offset=2) (k0:P.cellsOf f0.type=1) (k1:P.cellsOf f1.type=1) (k2:P.cellsOf f2.type=1)
  (t0:P.underlying f0.type=some (.int .i64)) (t1:P.underlying f1.type=some (.int .i64)) (t2:P.underlying f2.type=some (.int .i64)):ReadBy enc P w sp held t rInf:=by
 intro fuel cs d ps h hb;obtain⟨hl,hf⟩:=field_of ht h hb;obtain⟨a,ha⟩:=hf 0 f0 rfl (readBy_int t0);obtain⟨b,hb⟩:=hf 1 f1 rfl (readBy_int t1);obtain⟨c,hc⟩:=hf 2 f2 rfl (readBy_int t2);rw[hs]at hl
 match cs,hl with
 |[x,y,z],_=>
  rw[o0,k0]at ha;rw[o1,k1]at hb;rw[o2,k2]at hc;obtain⟨ha,ha'⟩:=ha;obtain⟨hb,hb'⟩:=hb;obtain⟨hc,hc'⟩:=hc;simp at ha hb hc;subst ha hb hc;exact⟨⟨a,b,c⟩,rfl⟩
theorem readBy_infs(ht:P.underlying t=some (.array 2 e))(hs:P.cellsOf t=6)(h1:P.cellsOf e=3)(hR:ReadBy enc P w sp held e rInf):ReadBy enc P w sp held t rInfs:=by
 intro fuel cs d ps h hb;obtain⟨hl,hf⟩:=place_of ht h hb;obtain⟨a,ha⟩:=hf 0 (by omega) hR;obtain⟨b,hb⟩:=hf 1 (by omega) hR;rw[hs]at hl;rw[h1]at ha hb;refine⟨(a,b),?_⟩;unfold rInf at ha hb
 show cs=_;rw[<-ha,<-hb];have e:(cs.drop (1*3)).take 3=cs.drop 3:=by rw[Nat.one_mul];exact List.take_of_length_le (by rw[List.length_drop];omega)
 rw[e,Nat.zero_mul,List.drop_zero,List.take_append_drop]
theorem readBy_rec{f0 f1 f2 f3 f4 f5:Field}(ht:P.underlying t=some (.struct #[f0,f1,f2,f3,f4,f5]))(hs:P.cellsOf t=11)
  (o0:f0.offset=0) (o1:f1.offset=1) (o2:f2.offset=2) (o3:f3.offset=3) (o4:f4.offset=4) (o5:f5.offset=5)
  (k0:P.cellsOf f0.type=1) (k1:P.cellsOf f1.type=1) (k2:P.cellsOf f2.type=1) (k3:P.cellsOf f3.type=1) (k4:P.cellsOf f4.type=1) (k5:P.cellsOf f5.type=6)
  (t0:P.underlying f0.type=some (.int .i64)) (t1:P.underlying f1.type=some (.int .i64)) (t2:P.underlying f2.type=some .bool) (t3:P.underlying f3.type=some (.int .i64)) (t4:P.underlying f4.type=some (.int .i64)) (t5:ReadBy enc P w sp held f5.type rInfs):ReadBy enc P w sp held t rRec:=by
 intro fuel cs d ps h hb;obtain⟨hl,hf⟩:=field_of ht h hb;obtain⟨a6,h6⟩:=hf 0 f0 rfl (readBy_int t0);obtain⟨a1,h1⟩:=hf 1 f1 rfl (readBy_int t1);obtain⟨a2,h2⟩:=hf 2 f2 rfl (readBy_bool t2);obtain⟨a3,h3⟩:=hf 3 f3 rfl (readBy_int t3);obtain⟨a4,h4⟩:=hf 4 f4 rfl (readBy_int t4);obtain⟨a5,h5⟩:=hf 5 f5 rfl t5;rw[hs]at hl;rw[o0,k0]at h6;rw[o1,k1]at h1;rw[o2,k2]at h2;rw[o3,k3]at h3;rw[o4,k4]at h4;rw[o5,k5]at h5
 match cs,hl with
 |[c0,c1,c2,c3,c4,c5,c6,c7,c8,c9,c10],_=>
  obtain⟨h6,_⟩:=h6;obtain⟨h1,_⟩:=h1;obtain⟨h3,_⟩:=h3;obtain⟨h4,_⟩:=h4;unfold rBool at h2;unfold rInfs infA at h5;simp at h6 h1 h2 h3 h4 h5;obtain⟨e5,e6,e7,e8,e9,e10⟩:=h5;subst h6 h1 h2 h3 h4 e5 e6 e7 e8 e9 e10;exact⟨⟨a6,a1,a2,a3,a4,a5.1,a5.2⟩,rfl⟩
theorem readBy_cop{f0 f1:Field}(ht:P.underlying t=some (.struct #[f0,f1]))(hs:P.cellsOf t=12)(o0:f0.offset=0)(o1:f1.offset=1)(k0:P.cellsOf f0.type=1)(k1:P.cellsOf f1.type=11)
  (t0:P.underlying f0.type=some .bool) (t1:ReadBy enc P w sp held f1.type rRec):ReadBy enc P w sp held t rCop:=by
 intro fuel cs d ps h hb;obtain⟨hl,hf⟩:=field_of ht h hb;obtain⟨a0,h2⟩:=hf 0 f0 rfl (readBy_bool t0);obtain⟨a1,h1⟩:=hf 1 f1 rfl t1;rw[hs]at hl;rw[o0,k0]at h2;rw[o1,k1]at h1;unfold rRec at h1
 match cs,hl with
 |c::r,hl=>
  unfold rBool at h2;have h0':c=.bool a0:=by simpa using h2
  have h1':r=(recA a1).toList:=by rw[<-h1];show r=(r.take 11);rw[List.take_of_length_le (by simp at hl;omega)]
  subst h0' h1';exact⟨⟨a0,a1⟩,rfl⟩
theorem readBy_cops(ht:P.underlying t=some (.array 2 e))(hs:P.cellsOf t=24)(h1:P.cellsOf e=12)(hR:ReadBy enc P w sp held e rCop):ReadBy enc P w sp held t rCops:=by
 intro fuel cs d ps h hb;obtain⟨hl,hf⟩:=place_of ht h hb;obtain⟨a,ha⟩:=hf 0 (by omega) hR;obtain⟨b,hb⟩:=hf 1 (by omega) hR;rw[hs]at hl;rw[h1]at ha hb;refine⟨(a,b),?_⟩;unfold rCop at ha hb
 show cs=_;rw[<-ha,<-hb];have e:(cs.drop (1*12)).take 12=cs.drop 12:=by rw[Nat.one_mul];exact List.take_of_length_le (by rw[List.length_drop];omega)
 rw[e,Nat.zero_mul,List.drop_zero,List.take_append_drop]
end
section
variable {H:Type} {enc:TypeId×Value->H} {w:World} {sp:Nat->Bool} {held:Bool}
theorem reads_infs:ReadBy enc Tryz.prog w sp held 27 rInfs:=
 readBy_infs Tryz.underlying27 (by kernel_rfl) (by kernel_rfl) (readBy_inf Tryz.underlying26 (by kernel_rfl) rfl rfl rfl (by kernel_rfl) (by kernel_rfl) (by kernel_rfl) Tryz.underlying3 Tryz.underlying3 Tryz.underlying3)
theorem reads_rec:ReadBy enc Tryz.prog w sp held 29 rRec:=
 readBy_rec Tryz.underlying29 (by kernel_rfl) rfl rfl rfl rfl rfl rfl (by kernel_rfl) (by kernel_rfl) (by kernel_rfl) (by kernel_rfl) (by kernel_rfl) (by kernel_rfl)
  Tryz.underlying3 Tryz.underlying3 Tryz.underlying4 Tryz.underlying3 Tryz.underlying3 reads_infs
theorem reads_cop:ReadBy enc Tryz.prog w sp held 31 rCop:=
 readBy_cop Tryz.underlying31 (by kernel_rfl) rfl rfl (by kernel_rfl) (by kernel_rfl) Tryz.underlying4 reads_rec
theorem reads_cops:ReadBy enc Tryz.prog w sp held 32 rCops:=
 readBy_cops Tryz.underlying32 (by kernel_rfl) (by kernel_rfl) reads_cop
end
section
variable {H:Type} {enc:TypeId×Value->H} {w:World} {base:Nat} {v:Value} {d:DataW H} {p:List MemPlace}
end
end
section
open Go.RowKit Go.WideShapes Go.ChangeShapes Go.ChangeAt
def rSlots:CR (List UInt8×List UInt8):=fun w cs x=>∃A c B e,cs=[.slice A x.1.length c,.slice B x.2.length e]∧(x.1.length<=c∧x.1.length<=140737488351232∧Bts w A x.1)∧x.2.length<=e∧x.2.length<=140737488351232∧Bts w B x.2
def rDev:CR Dev:=fun w cs d=>∃L,cs=(devA d L).toList∧DevIn w d L
theorem part_of{cs ys:List Value}{a n:Nat}(h:(cs.drop a).take n=ys):cs.drop a=ys++cs.drop (a+n):=by rw[<-h,<-List.drop_drop,List.take_append_drop]
section
variable {H:Type} {enc:TypeId×Value->H} {P:Program} {w:World} {sp:Nat->Bool} {held:Bool} {t e:TypeId}
theorem readBy_slots(ht:P.underlying t=some (.array 2 e))(hs:P.cellsOf t=2)(h1:P.cellsOf e=1)(hR:ReadBy enc P w sp held e rImg):ReadBy enc P w sp held t rSlots:=by
 intro fuel cs d ps h hb;obtain⟨hl,hf⟩:=place_of ht h hb;obtain⟨x,A,c,hx,g1,g2,g3⟩:=hf 0 (by omega) hR;obtain⟨y,B,e,hy,k1,k2,k3⟩:=hf 1 (by omega) hR;rw[hs]at hl;rw[h1]at hx hy
 match cs,hl with
 |[u,v],_=>
  simp at hx hy;subst hx hy;exact⟨(x,y),A,c,B,e,rfl,⟨g1,g2,g3⟩,k1,k2,k3⟩
theorem readBy_dev{f0 f1 f2 f3 f4 f5 f6 f7:Field}{tc:TypeId}(ht:P.underlying t=some (.struct #[f0,f1,f2,f3,f4,f5,f6,f7]))(hs:P.cellsOf t=37)
  (o0:f0.offset=0) (o1:f1.offset=2) (o2:f2.offset=26) (o3:f3.offset=27) (o4:f4.offset=28) (o5:f5.offset=29) (o6:f6.offset=30) (o7:f7.offset=36)
  (k0:P.cellsOf f0.type=2) (k1:P.cellsOf f1.type=24) (k2:P.cellsOf f2.type=1) (k3:P.cellsOf f3.type=1) (k4:P.cellsOf f4.type=1) (k5:P.cellsOf f5.type=1) (k6:P.cellsOf f6.type=6) (k7:P.cellsOf f7.type=1)
  (t0:ReadBy enc P w sp held f0.type rSlots) (t1:ReadBy enc P w sp held f1.type rCops) (t2:P.underlying f2.type=some .bool) (t3:P.underlying f3.type=some (.int .i64))
  (t4:P.underlying f4.type=some (.slice tc)) (hc:P.cellsOf tc=5) (hB:P.bytesOf tc=56) (hR:ReadBy enc P w sp held tc rChk) (t5:P.underlying f5.type=some .bool) (t6:ReadBy enc P w sp held f6.type rPat) (t7:P.underlying f7.type=some (.int .i64)):ReadBy enc P w sp held t rDev:=by
 intro fuel cs d ps h hb;obtain⟨hl,hf⟩:=field_of ht h hb;obtain⟨⟨s2,s1⟩,A2,c2,A1,c1,h8,⟨x1,x2,x3⟩,x4,x5,x6⟩:=hf 0 f0 rfl t0;obtain⟨⟨cp2,cp1⟩,h1⟩:=hf 1 f1 rfl t1;obtain⟨up,h2⟩:=hf 2 f2 rfl (readBy_bool t2);obtain⟨ru,h3,i1⟩:=hf 3 f3 rfl (readBy_int t3);obtain⟨got,A3,c3,h4,y1,y2,y3⟩:=hf 4 f4 rfl (readBy_sliceM (M:=2513169434843) t4 hc (by omega) hR (fun n _ h=>by rw[hB]at h;omega));obtain⟨bz,h5⟩:=hf 5 f5 rfl (readBy_bool t5);obtain⟨p,A4,c4,h6,z⟩:=hf 6 f6 rfl t6;obtain⟨dn,h7,i2⟩:=hf 7 f7 rfl (readBy_int t7);rw[hs]at hl;rw[o0,k0]at h8;rw[o1,k1]at h1;rw[o2,k2]at h2;rw[o3,k3]at h3;rw[o4,k4]at h4;rw[o5,k5]at h5;rw[o6,k6]at h6;rw[o7,k7]at h7;unfold rCops at h1;unfold rBool at h2 h5;have e9:=part_of h8;have e1:=part_of h1;have e2:=part_of h2;have e3:=part_of h3;have e4:=part_of h4;have e5:=part_of h5;have e6:=part_of h6;have e7:=part_of h7;have e8:cs.drop (36+1)=[]:=List.drop_eq_nil_of_le (by omega);refine⟨⟨s2,s1,cp2,cp1,up,ru,got,bz,p,dn⟩,⟨A2,c2,A1,c1,A3,c3,A4,c4⟩,?_,⟨x1,x2,x3,x4,x5,x6,y1,y2,y3,z,i1,i2⟩⟩;have e:cs=cs.drop 0:=rfl;rw[e,e9];rw[show 0+2=2 from rfl,e1,show 2+24=26 from rfl,e2,show 26+1=27 from rfl,e3,show 27+1=28 from rfl,e4,show 28+1=29 from rfl,e5,show 29+1=30 from rfl,e6,show 30+6=36 from rfl,e7,e8];rfl
end
section
variable {H:Type} {enc:TypeId×Value->H} {w:World} {sp:Nat->Bool} {held:Bool}
theorem reads_slots:ReadBy enc Tryz.prog w sp held 24 rSlots:=readBy_slots Tryz.underlying24 (by kernel_rfl) (by kernel_rfl) reads_img
theorem reads_pat:ReadBy enc Tryz.prog w sp held 36 rPat:=
 readBy_pat Tryz.underlying36 (by kernel_rfl) rfl rfl rfl rfl rfl rfl (by kernel_rfl) (by kernel_rfl) (by kernel_rfl) (by kernel_rfl) (by kernel_rfl) (by kernel_rfl)
  Tryz.underlying3 Tryz.underlying3 Tryz.underlying3 Tryz.underlying3 Tryz.underlying3 Tryz.underlying34 (by kernel_rfl) (by kernel_rfl) reads_op
theorem reads_dev:ReadBy enc Tryz.prog w sp held 38 rDev:=
 readBy_dev Tryz.underlying38 (by kernel_rfl) rfl rfl rfl rfl rfl rfl rfl rfl (by kernel_rfl) (by kernel_rfl) (by kernel_rfl) (by kernel_rfl) (by kernel_rfl) (by kernel_rfl) (by kernel_rfl) (by kernel_rfl)
  reads_slots reads_cops Tryz.underlying4 Tryz.underlying3 Tryz.underlying33 (by kernel_rfl) (by kernel_rfl) reads_chk Tryz.underlying4 reads_pat Tryz.underlying3
end
section
variable {H:Type} {enc:TypeId×Value->H} {w:World} {base:Nat} {v:Value} {d:DataW H} {p:List MemPlace}
end
end
section
open Go.RowKit Go.WideShapes Go.ChangeShapes Go.ChangeAt
def rWor:CR Wor:=fun w cs x=>∃L,cs=(worA x L).toList∧WorIn w x L
section
variable {H:Type} {enc:TypeId×Value->H} {P:Program} {w:World} {sp:Nat->Bool} {held:Bool} {t e:TypeId}
theorem readBy_wor{f0 f1 f2:Field}{ti tc:TypeId}(ht:P.underlying t=some (.struct #[f0,f1,f2]))(hs:P.cellsOf t=39)
  (o0:f0.offset=0) (o1:f1.offset=1) (o2:f2.offset=38) (k0:P.cellsOf f0.type=1) (k1:P.cellsOf f1.type=37) (k2:P.cellsOf f2.type=1)
  (t0:P.underlying f0.type=some (.slice ti)) (hi:P.cellsOf ti=1) (hBi:P.bytesOf ti=24) (hI:ReadBy enc P w sp held ti rImg) (t1:ReadBy enc P w sp held f1.type rDev) (t2:P.underlying f2.type=some (.slice tc)) (hc:P.cellsOf tc=5) (hB:P.bytesOf tc=56) (hR:ReadBy enc P w sp held tc rChk):ReadBy enc P w sp held t rWor:=by
 intro fuel cs d ps h hb;obtain⟨hl,hf⟩:=field_of ht h hb;obtain⟨rel,A1,c1,h3,x1,x2,x3⟩:=hf 0 f0 rfl (readBy_sliceM (M:=5864062014634) t0 hi (by omega) hI (fun n _ h=>by rw[hBi]at h;omega));obtain⟨d,L,h1,y⟩:=hf 1 f1 rfl t1;obtain⟨net,A2,c2,h2,z1,z2,z3⟩:=hf 2 f2 rfl (readBy_sliceM (M:=2513169434843) t2 hc (by omega) hR (fun n _ h=>by rw[hB]at h;omega));rw[hs]at hl;rw[o0,k0]at h3;rw[o1,k1]at h1;rw[o2,k2]at h2;have e3:=part_of h3;have e1:=part_of h1;have e2:=part_of h2;have e4:cs.drop (38+1)=[]:=List.drop_eq_nil_of_le (by omega);refine⟨⟨rel,d,net⟩,⟨A1,c1,L,A2,c2⟩,?_,⟨x1,x2,x3,y,z1,z2,z3⟩⟩;have e:cs=cs.drop 0:=rfl;rw[e,e3];rw[show 0+1=1 from rfl,e1,show 1+37=38 from rfl,e2,e4];rfl
end
section
variable {H:Type} {enc:TypeId×Value->H} {w:World} {sp:Nat->Bool} {held:Bool}
theorem reads_wor:ReadBy enc Tryz.prog w sp held 40 rWor:=
 readBy_wor Tryz.underlying40 (by kernel_rfl) rfl rfl rfl (by kernel_rfl) (by kernel_rfl) (by kernel_rfl) Tryz.underlying22 (by kernel_rfl) (by kernel_rfl) reads_img reads_dev Tryz.underlying33 (by kernel_rfl) (by kernel_rfl) reads_chk
end
def ArgWor(W:World)(v:Value)(x:Wor):Prop:=∃L,v=.agg (worA x L)∧WorIn W x L
section
variable {H:Type} {enc:TypeId×Value->H} {w:World} {base:Nat} {v:Value} {d:DataW H} {p:List MemPlace}
theorem argWor_of(ho:Value.okWide Tryz.prog w .any base 40 v)(h:DataW.Trod enc Tryz.prog w 0 (fun _=>true) true 40 v d p)(hb:Wt Tryz.prog 40 d):∃x,ArgWor w v x:=by
 obtain⟨x,cs,hv,L,hp,h1⟩:=argAgg_of (.inl ⟨_,Tryz.underlying40⟩) reads_wor ho h hb;exact⟨x,L,by rw[hv,hp],h1⟩
end
end
end Go.Proofs.YtefkfglkpebbmadGreat
