/- The walk of story.Runs. Printed by gen_devacts.py. No conditions. -/
import Derived.Test.YtefkfglkpebbmacP9
import Derived.Test.YtefkfglkpebbmacPXStoryMath
set_option linter.unusedVariables false
set_option linter.unusedSimpArgs false
set_option maxRecDepth 100000
set_option maxHeartbeats 40000000
namespace Go.Proofs.Ytefkfglkpebbmac
open Go.RowKit
variable {Y:Prop}
variable {x:Wor}
theorem x9li(h:Y:=by
 go_enter Try.func79,Try.ntmps79;go_wp2_with fail;refine(K1.out _ (HIN.out.stays HBA.out)).mono ?_;rintro e w1 ⟨rfl,hb⟩;have a1:=kp (w.heap.size) (worA x L) hb;have hs1:w.heap.size+1<=w1.heap.size:=by have:=hb.size;simpa using this
 have HB1:=bT HBA hb;clear hb;go_wp2_with fail
 go_ret3
 exact⟨none,0,rfl,nl,fun _ _=>bts_nil _ _,HB1.out⟩):Y:=h
theorem stoRuns_bad(h:worCheck x≠0):stoRuns x=(0,[],worCheck x):=by unfold stoRuns;rw[if_pos h]
theorem stoRuns_off(h:worCheck x=0)(hu:x.d.up=false):stoRuns x=(0,[],5):=by unfold stoRuns;rw[if_neg (by omega),if_pos hu]
theorem stoRuns_up(h:worCheck x=0)(hu:x.d.up=true):stoRuns x=((x.d.rec_.at_ x.d.running).ver,x.d.image x.d.running x.d.rec_,0):=by unfold stoRuns;rw[if_neg (by omega),if_neg (by rw[hu];simp)]
def SrRet(w:World)(v:Int)(b:LU)(n:Int):Ending->World->Prop:=fun en w'=>
 ∃A c,en=.returned (.tuple #[iv v,.slice A b.length c,iv n])∧b.length<=c∧Fresh w.heap.size w' (fun v=>Bts v A b)∧Below w.heap.size w w'
def srJ(w0:World)(b:LU):Nat->(Nat->Value)->World->Prop
 |0,_,w=>w=w0.drew
 |1,cv,w=>∃A c,cv 12=.slice A b.length c∧Own w w0.heap.size 5 1 A b.length c (b.map bv)∧Below w0.heap.size w0 w
 |_,cv,w=>∃A c,cv 14=.slice A b.length c∧Own w w0.heap.size 5 1 A b.length c (b.map bv)∧Below w0.heap.size w0 w
theorem srJ_bel{w0 w:World}{b:LU}{k:Nat}{cv:Nat->Value}(hJ:srJ w0 b k cv w):Below w0.heap.size w0 w:=by
 match k,hJ with
 |0,hJ=>obtain rfl:w=w0.drew:=hJ;exact(Below.refl _ _).drew
 |1,⟨_,_,_,_,h⟩=>exact h
 |n+2,⟨_,_,_,_,h⟩=>exact h
theorem stoRuns_calls(x:Wor)(L:WLoc)(w:World)(h:WorIn w x L):Calls Try.prog 79 #[.agg (worA x L)] w (SrRet w (stoRuns x).1 (stoRuns x).2.1 (stoRuns x).2.2):=by
 have HBA:Hid (Below w.heap.size w (w.alloc (.cells (worA x L) 88))):=qH (bL _);have HIN:=qH h;have K1:=qH (fun w h=>worCheck_calls x L w h);by_cases hc:worCheck x≠0
 ·rw[stoRuns_bad hc];have q:(worCheck x !=0)=true:=by simp[hc]
  generalize worCheck x=n at *
  clear hc h;exact x9li
 have hc:=Decidable.not_not.1 hc;have hok:=(worCheck_ok.1 hc).dev;rw[hc]at K1
 cases hu:x.d.up
 ·rw[stoRuns_off hc hu];clear hc h hok;exact x9li
 rw[stoRuns_up hc hu];have hrec:=rec_ok hok;have K2:=qH (fun w=>read_ok x.d.c0 x.d.c1 w hok.cops);obtain⟨rk,hrk⟩:=eX ((recRead x.d.c0 x.d.c1).2);have hre:(recRead x.d.c0 x.d.c1).1=x.d.rec_:=rfl;rw[hrk,hre]at K2;have hrun:=(hok.run hu).1;clear hc h hrk hre;rcases hrun with hk|hk
 first|case' inl=>have T2:Hid True:=qH trivial|case' pos=>have T2:Hid True:=qH trivial|case' refine_1=>have T2:Hid True:=qH trivial
 iterate 2
  ·first
    |
     revert T2;intro T2;have hver:(x.d.rec_.at_ x.d.running).ver=x.d.rec_.a.ver:=by rw[hk,at_0]
    |have hver:(x.d.rec_.at_ x.d.running).ver=x.d.rec_.b.ver:=by rw[hk,at_1]
   first
    |
     revert T2;intro T2;have himg:x.d.image x.d.running x.d.rec_=x.d.s0.take x.d.rec_.a.size.toNat:=by rw[hk];unfold Dev.image;rw[at_0];simp[Dev.slot]
    |have himg:x.d.image x.d.running x.d.rec_=x.d.s1.take x.d.rec_.b.size.toNat:=by rw[hk];unfold Dev.image;rw[at_1];simp[Dev.slot]
   first
    |
     revert T2;intro T2;have hsz:=(recCheck_parts hrec).2.1
    |have hsz:=(recCheck_parts hrec).2.2.1
   first
    |
     revert T2;intro T2;have hsz2:0<=x.d.rec_.a.size∧x.d.rec_.a.size<=64:=by
      unfold infCheck at hsz;by_cases hh:InfRange x.d.rec_.a
      ·unfold InfRange at hh;omega
      rw[if_neg hh]at hsz;exact absurd hsz (by decide)
    |
     have hsz2:0<=x.d.rec_.b.size∧x.d.rec_.b.size<=64:=by
      unfold infCheck at hsz;by_cases hh:InfRange x.d.rec_.b
      ·unfold InfRange at hh;omega
      rw[if_neg hh]at hsz;exact absurd hsz (by decide)
   first
    |
     revert T2;intro T2;obtain⟨y,hy⟩:∃y:Nat,x.d.rec_.a.size=(y:Int):=⟨x.d.rec_.a.size.toNat,by omega⟩
    |obtain⟨y,hy⟩:∃y:Nat,x.d.rec_.b.size=(y:Int):=⟨x.d.rec_.b.size.toNat,by omega⟩
   first
    |
     revert T2;intro T2;rw[show x.d.rec_.a.size.toNat=y by omega]at himg
    |rw[show x.d.rec_.b.size.toNat=y by omega]at himg
   first
    |
     revert T2;intro T2;obtain⟨b,hb⟩:=eX (x.d.s0.take y)
    |obtain⟨b,hb⟩:∃b,x.d.s1.take y=b:=⟨_,rfl⟩
   rw[hver,himg,hb]
   first
    |
     revert T2;intro T2;have hbl:b.length=y:=by rw[<-hb,List.length_take,hok.l0];omega
    |have hbl:b.length=y:=by rw[<-hb,List.length_take,hok.l1];omega
   have HBL:=qH hbl
   first
    |
     revert T2;intro T2;have HBT:Hid (Bts w L.l.a0 b):=qH (by rw[<-hb];exact mid_take HIN.out.dev.b0 y)
    |have HBT:Hid (Bts w L.l.a1 b):=qH (by rw[<-hb];exact mid_take HIN.out.dev.b1 y)
   first
    |
     revert T2;intro T2;obtain⟨ba,oa,hAa,-⟩:=HIN.out.dev.b0 0 (by rw[hok.l0];decide)
    |obtain⟨ba,oa,hAa,-⟩:=HIN.out.dev.b1 0 (by rw[hok.l1];decide)
   first
    |
     revert T2;intro T2;have HSL:Hid (∀W,(Instr.slice 22 (.slice L.l.a0 x.d.s0.length L.l.c0) none (some (iv x.d.rec_.a.size)) none).run Try.prog W=.ok (.slice L.l.a0 b.length L.l.c0) W):=qH (by rw[hbl];exact pre_slice y hy HIN.out.dev.k0 (by rw[hok.l0];omega) (by rw[hok.l0];decide) ⟨ba,oa,hAa⟩)
    |have HSL:Hid (∀W,(Instr.slice 22 (.slice L.l.a1 x.d.s1.length L.l.c1) none (some (iv x.d.rec_.b.size)) none).run Try.prog W=.ok (.slice L.l.a1 b.length L.l.c1) W):=qH (by rw[hbl];exact pre_slice y hy HIN.out.dev.k1 (by rw[hok.l1];omega) (by rw[hok.l1];decide) ⟨ba,oa,hAa⟩)
   have HB64:Hid (b.length<=64):=qH (by omega);have HK:=qH hk;clear hver himg hsz hsz2 hy hb hbl hAa hrec hok;go_enter Try.func79,Try.ntmps79;go_wp2_with fail;refine(K1.out _ (HIN.out.stays HBA.out)).mono ?_;rintro e w1 ⟨rfl,hb⟩;have a0:=kp (w.heap.size) (worA x L) hb;have hs1:w.heap.size+1<=w1.heap.size:=by have:=hb.size;simpa using this
   have HB1:=bT HBA hb;clear hb;go_wp2_with fail;refine(K2.out _).mono ?_;rintro e w2 ⟨rfl,hb⟩;have a0:=kr a0 hb;have hs2:w1.heap.size<=w2.heap.size:=hb.size;have HB2:=bT HB1 hb;clear hb;go_wp2_with fail
   first
    |
     revert T2;intro T2;obtain⟨w3,hw3⟩:=eX ((w2.alloc (.cells (recA x.d.rec_) 66)).alloc (.cells (infA x.d.rec_.a) 63))
    |obtain⟨w3,hw3⟩:∃w3,(w2.alloc (.cells (recA x.d.rec_) 66)).alloc (.cells (infA x.d.rec_.b) 63)=w3:=⟨_,rfl⟩
   have z1:rowOf w3 w.heap.size=worA x L:=by rw[<-hw3,rowOf_alloc,if_neg (by simp;omega),rowOf_alloc,if_neg (by omega)];exact a0.1
   have z2:frOf w3 w.heap.size=(0,0):=by rw[<-hw3,frOf_alloc,if_neg (by simp;omega),frOf_alloc,if_neg (by omega)];exact a0.2.1
   first
    |
     revert T2;intro T2;have z3:rowOf w3 (w2.heap.size+1)=infA x.d.rec_.a:=by rw[<-hw3,rowOf_alloc,if_pos (by simp)]
    |have z3:rowOf w3 (w2.heap.size+1)=infA x.d.rec_.b:=by rw[<-hw3,rowOf_alloc,if_pos (by simp)]
   have z4:frOf w3 (w2.heap.size+1)=(0,0):=by rw[<-hw3,frOf_alloc,if_pos (by simp)]
   have HB3:Hid (Below w.heap.size w w3):=qH (by rw[<-hw3];exact(HB2.out.alloc HB2.out.size _).alloc (by simp;omega) _);try rw[hw3]
   have RW:=qH z1;have FW:=qH z2;have RX:=qH z3;have FX:=qH z4;clear hw3 z1 z2 z3 z4 a0 hk
   first
    |
     revert T2;intro T2;refine wp_region_mix (by kernel_rfl) (some 33::some 34::some 35::some 36::some 37::some 38::some 39::some 40::some 41::some 42::some 43::some 44::some 45::some 2::some 3::some 4::[]) (none::none::none::none::none::none::none::none::none::none::none::none::some 0::none::some 1::none::[]) (.pointer (some ⟨w2.heap.size+1,0,none⟩)::iv x.d.rec_.a.ver::.pointer (some ⟨w.heap.size,1,none⟩)::.pointer (some ⟨w.heap.size,28,none⟩)::iv 0::.pointer (some ⟨w.heap.size,1,none⟩)::.pointer (some ⟨w.heap.size,1,none⟩)::.pointer (some ⟨w.heap.size,1,none⟩)::.slice L.l.a0 x.d.s0.length L.l.c0::.pointer (some ⟨w2.heap.size+1,1,none⟩)::iv x.d.rec_.a.size::.slice L.l.a0 b.length L.l.c0::undef::iv x.d.rec_.a.ver::undef::iv 0::[]) 2 (srJ w3 b) 46 rfl rfl (by decide+kernel) (by decide+kernel) (by decide+kernel) (by decide+kernel) rfl rfl (by decide+kernel) (by decide+kernel) (rfl) ?_ ?_
    |refine wp_region_mix (by kernel_rfl) (some 33::some 34::some 35::some 36::some 37::some 38::some 39::some 40::some 41::some 42::some 43::some 44::some 45::some 2::some 3::some 4::[]) (none::none::none::none::none::none::none::none::none::none::none::none::some 0::none::some 1::none::[]) (.pointer (some ⟨w2.heap.size+1,0,none⟩)::iv x.d.rec_.b.ver::.pointer (some ⟨w.heap.size,1,none⟩)::.pointer (some ⟨w.heap.size,28,none⟩)::iv 1::.pointer (some ⟨w.heap.size,1,none⟩)::.pointer (some ⟨w.heap.size,1,none⟩)::.pointer (some ⟨w.heap.size,2,none⟩)::.slice L.l.a1 x.d.s1.length L.l.c1::.pointer (some ⟨w2.heap.size+1,1,none⟩)::iv x.d.rec_.b.size::.slice L.l.a1 b.length L.l.c1::undef::iv x.d.rec_.b.ver::undef::iv 0::[]) 2 (srJ w3 b) 46 rfl rfl (by decide+kernel) (by decide+kernel) (by decide+kernel) (by decide+kernel) rfl rfl (by decide+kernel) (by decide+kernel) (rfl) ?_ ?_
   ·refine⟨?_,?_,?_,?_,?_,?_,?_,?_,?_,?_,?_,?_,?_,?_,?_,?_,trivial⟩
    ·intro done cv k0 a wq hw h hJ hn;have e9:=mO 9 (.pointer (some ⟨w2.heap.size+1,0,none⟩)) h;go_simp
    ·intro done cv k0 a wq hw h hJ hn;have e33:=mN 0 33 h hw;have y_:=kq (srJ_bel hJ) RX FX;go_simp
    ·intro done cv k0 a wq hw h hJ hn;have e1:=mO 1 (.pointer (some ⟨w.heap.size,0,none⟩)) h;go_simp
    ·intro done cv k0 a wq hw h hJ hn;have e35:=mN 2 35 h hw;go_simp
    ·intro done cv k0 a wq hw h hJ hn;have e36:=mN 3 36 h hw;have y_:=kq (srJ_bel hJ) RW FW;have hk_:=HK.out;go_simp
    ·intro done cv k0 a wq hw h hJ hn;have e1:=mO 1 (.pointer (some ⟨w.heap.size,0,none⟩)) h;go_simp
    ·intro done cv k0 a wq hw h hJ hn;have e38:=mN 5 38 h hw;go_simp
    ·intro done cv k0 a wq hw h hJ hn;have e39:=mN 6 39 h hw;have e37:=mN 4 37 h hw;go_simp
    ·intro done cv k0 a wq hw h hJ hn;have e40:=mN 7 40 h hw;have y_:=kq (srJ_bel hJ) RW FW;go_simp
    ·intro done cv k0 a wq hw h hJ hn;have e9:=mO 9 (.pointer (some ⟨w2.heap.size+1,0,none⟩)) h;go_simp
    ·intro done cv k0 a wq hw h hJ hn;have e42:=mN 9 42 h hw;have y_:=kq (srJ_bel hJ) RX FX;go_simp
    ·intro done cv k0 a wq hw h hJ hn;have e41:=mN 8 41 h hw;have e43:=mN 10 43 h hw;have hs_:=HSL.out;go_simp
    ·intro done cv a wq hw h hJ;have e44:=mN 11 44 h hw;obtain rfl:wq=w3.drew:=hJ
     first
      |
       revert T2;intro T2;refine wp_call (vals:=#[.slice L.l.a0 b.length L.l.c0]) (by rw[List.map_toArray,List.map_cons,List.map_nil,ch_ev e44]) (enters_of Try.func100 (by kernel_rfl) rfl _ _) (cloneBytes_calls _ b.length _ (b.map bv) _ (by simp) (by have:=HB64.out;omega) ((HBT.out.stays HB3.out).stays ((Below.refl _ _).drew)).src (bv_one _)) ?_
      |refine wp_call (vals:=#[.slice L.l.a1 b.length L.l.c1]) (by rw[List.map_toArray,List.map_cons,List.map_nil,ch_ev e44]) (enters_of Try.func100 (by kernel_rfl) rfl _ _) (cloneBytes_calls _ b.length _ (b.map bv) _ (by simp) (by have:=HB64.out;omega) ((HBT.out.stays HB3.out).stays ((Below.refl _ _).drew)).src (bv_one _)) ?_
     rintro e w' ⟨A5,c5,rfl,hown,hbel⟩;exact⟨_,rfl,_,rfl,A5,c5,by simp,hown,(Below.refl _ _).drew.trans hbel⟩
    ·intro done cv k0 a wq hw h hJ hn;have e34:=mN 1 34 h hw;exact mx_assign (ch_ev e34)
    ·intro done cv a wq hw h hJ;have e45:=mx_cv (i:=12) (t:=45) h (hw 12 (by decide)) rfl rfl;obtain⟨A5,c5,y1,hown,hbel⟩:=hJ;rw[y1]at e45;exact wp_asg (ch_ev e45) ⟨_,rfl,A5,c5,by simp,hown,hbel⟩
    ·intro done cv k0 a wq hw h hJ hn;exact mx_assign rfl
   intro cv4 w4 hJ;obtain⟨A5,c5,y14,hown,hbel⟩:=hJ;simp only[mixAll,putAll_some,putAll_none,putAll_nil,List.getElem?_cons_zero,List.getElem?_cons_succ,Nat.zero_add,Nat.reduceAdd,List.setIfInBounds_toArray,List.set_cons_zero,List.set_cons_succ];rw[y14];have HB4:=bT HB3 hbel;have HO:=qH hown;clear hown hbel y14;go_wp2_with fail
   go_ret3
   exact⟨A5,c5,rfl,HO.out.le,fun v hv=>(own_fresh (HO.out.mono HB3.out.size) hv).src.bts,HB4.out⟩
end Go.Proofs.Ytefkfglkpebbmac
