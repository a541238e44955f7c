/- The walk of the law WorldParts. Printed by gen_wparts.py. No conditions. -/
import Derived.Test.YtefkfglkpebbmacPMGoneWalk
import Derived.Test.YtefkfglkpebbmacPMWorArgs
import Derived.Test.YtefkfglkpebbmacPXWorSame
import Derived.Test.YtefkfglkpebbmacPXTailBox
import Derived.Test.YtefkfglkpebbmacPXConcatErrnos
import Derived.Test.YtefkfglkpebbmacPXEqErrs
import Derived.Test.YtefkfglkpebbmacPXAtFn
set_option linter.unusedVariables false
set_option linter.unusedSimpArgs false
set_option maxRecDepth 100000
set_option maxHeartbeats 40000000
namespace Go.Proofs.Ytefkfglkpebbmac
open Go.RowKit
variable {Y:Prop}
variable {l:List (Int×Int)} {w:World}
theorem x2w2(h:Y:=by
 have n1:=hn;have n2:=nW 10 9 hcl n1;refine wp_alloc (zr:=worA Wor.zero WLoc.zero) (fun ev=>by go_simp) ⟨_,rfl,tbJ_a (by simp[maskB,n1]) (by simp[maskB,n2]) (by simp) (by decide) (by decide) hJ⟩):Y:=h
theorem x6a6(h:Y:=by
 rintro e w' ⟨L2,A2,c2,b2,rfl,ho1,hbs1,hw1,hb⟩;exact⟨_,rfl,_,rfl,tbJ_c hi_ (by simp[maskB,n6]) (by decide) (by decide) hJ (x:=(L2,A2,c2)) rfl (wr_fresh ho1 hbs1 hw1) hb⟩):Y:=h
theorem x7ax(h:Y:=by
 have m1:=hw 8 (by decide);have m2:=hcl 8 _ rfl m1 5 (by decide);have m3:=hcl 5 _ rfl m2 4 (by decide);obtain⟨x,hv,hJ1⟩:=tbJ_k (k:=12) (by simp[maskB,m3]) (by decide) (by decide) (by decide) hJ;have yv:cv 8=iv 0:=hv 8 (by simp) (by simp[maskB,m1]);rw[yv]at e1;refine wp_asg (v:=_) (ch_ev e1) ⟨_,rfl,hJ1 _ rfl⟩):Y:=h
theorem run_parts{w:Wor}{y:Wor}{said:List Int}(h:worRun w l=(y,said,0)){k:Nat}(hk:k<=l.length):
  ∃y1 s1 s2,worRun w (l.take k)=(y1,s1,0)∧worRun y1 (l.drop k)=(y,s2,0)∧said=s1++s2∧s1.length=k∧s2.length=l.length-k:=by
 have hc:worCheck w=0:=by
  unfold worRun at h;by_cases e:worCheck w=0
  ·exact e
  rw[if_pos e]at h;exact absurd (congrArg (fun q=>q.2.2) h) e
 have hm:¬200<l.length:=fun e=>by
  unfold worRun at h;rw[if_neg (by simpa using hc),if_pos e]at h;exact absurd (congrArg (fun q=>q.2.2) h) (by simp)
 rw[worRun_ok hc hm]at h;have h1:worGo l w=y:=congrArg (fun q=>q.1) h;have h2:worSaid l w=said:=congrArg (fun q=>q.2.1) h;have hkeep:∀(m:List (Int×Int)) (v:Wor),WorOk v->WorOk (worGo m v):=by
  intro m
  induction m with
  |nil=>exact fun v hv=>hv
  |cons a m ih=>
   intro v hv;refine ih _ ?_;unfold worTry;split
   ·rename_i e;exact(happen_keeps hv e).1
   exact hv
 have ha:=worGo_append (l.take k) (l.drop k) w;rw[List.take_append_drop]at ha;refine⟨worGo (l.take k) w,worSaid (l.take k) w,worSaid (l.drop k) (worGo (l.take k) w),worRun_ok hc (by rw[List.length_take];omega),?_,?_,?_,?_⟩
 ·rw[worRun_ok (worCheck_ok.2 (hkeep _ _ (worCheck_ok.1 hc))) (by rw[List.length_drop];omega),<-ha.1,h1]
 ·rw[<-h2,ha.2]
 ·rw[said_len,List.length_take];omega
 rw[said_len,List.length_drop]
def wpR(y:Wor)(said:List Int)(x:WLoc×Option Addr×Nat)(v:World):Prop:=WorIn v y x.1∧Nts v x.2.1 said∧said.length<=x.2.2
def wpV(y:Wor)(said:List Int)(x:WLoc×Option Addr×Nat):Nat->Value
 |4=>.tuple #[.agg (worA y x.1),.slice x.2.1 said.length x.2.2,iv 0]
 |5=>.tuple #[.agg (worA y x.1),.slice x.2.1 said.length x.2.2,iv 0]
 |6=>.agg (worA y x.1)
 |7=>.slice x.2.1 said.length x.2.2
 |8=>iv 0
 |11=>.slice x.2.1 said.length x.2.2
 |12=>iv 0
 |_=>undef
theorem wr_fresh{w':World}{y:Wor}{said:List Int}{L:WLoc}{A:OA}{c b:Nat}(ho:Own w' b 24 1 A said.length c (said.map iv))(hb:w.heap.size<=b)(hw:∀v:World,(∀q,b<=q->A.map (·.block)≠some q->q<w'.heap.size->v.heap[q]?=w'.heap[q]?)->WorIn v y L):
  Fresh w.heap.size w' (wpR y said (L,A,c)):=fun v hv=>
 ⟨hw v (fun q h1 _ h3=>hv q (by omega) h3),(own_fresh ho (fun q h1 h2=>hv q (by omega) h2)).src.nts,ho.le⟩
theorem hps_take{B:OA}(h:Hps w B l)(k:Nat):Hps w B (l.take k):=by
 exact x1b6
theorem hap_head(B:OA)(n c k:Nat)(hk:k<=n)(hc:n<=c)(hA:B=none->k=0)(wq:World):(Instr.slice 89 (.slice B n c) none (some (iv (k:Int))) none).run Try.prog wq=.ok (.slice B k c) wq:=by
 have k1:(k:Int)<=(c:Int):=by omega
 cases B with
 |none=>
  have k2:k=0:=hA rfl;subst k2;go_simp
 |some a=>
  by_cases k2:c=0
  ·subst k2;have k3:k=0:=by omega
   subst k3;go_simp
  go_simp
theorem hap_tail{B:OA}{c k:Nat}(hk:k<=l.length)(hc:l.length<=c)(h:Hps w B l):∃B2 c2,l.length-k<=c2∧Hps w B2 (l.drop k)∧∀wq,(Instr.slice 89 (.slice B l.length c) (some (iv (k:Int))) none none).run Try.prog wq=.ok (.slice B2 (l.length-k) c2) wq:=by
 have k1:(k:Int)<=(l.length:Int):=by omega
 have k2:(l.length:Int)<=(c:Int):=by omega
 cases B with
 |none=>
  have hl:l.length=0:=by
   rcases Nat.eq_zero_or_pos l.length with h0|h0
   ·exact h0
   obtain⟨b,o,h9,_⟩:=h 0 h0;cases h9
  have k3:k=0:=by omega
  subst k3;rw[hl];refine⟨none,c,by omega,by simpa using h,fun wq=>?_⟩;go_simp
 |some a=>
  obtain⟨b,o,e⟩:=a;by_cases hl:l.length=0
  ·have k3:k=0:=by omega
   subst k3;rw[hl];refine⟨some ⟨b,o,e⟩,c,by omega,by simpa using h,fun wq=>?_⟩;go_simp
  have he:e=none:=by
   obtain⟨b',o',h9,_⟩:=h 0 (by omega);injection h9 with h9;injection h9
  subst he;by_cases hck:c=k
  ·have k3:k=l.length:=by omega
   subst k3;refine⟨some ⟨b,o,none⟩,c-l.length,by omega,by intro i hi;simp at hi,fun wq=>?_⟩;go_simp
  refine⟨some ⟨b,o+k*2,none⟩,c-k,by omega,?_,fun wq=>?_⟩
  ·intro i hi;have hi2:k+i<l.length:=by simp at hi;omega
   obtain⟨b',o',h9,hbl,cs,h3,h4,h5⟩:=h (k+i) hi2;injection h9 with h9;injection h9 with h9 h10 h11;subst h9 h10;refine⟨_,_,rfl,hbl,cs,h3,fun j hj=>?_,by simpa using h5⟩;rw[show o+k*2+i*2+j=o+(k+i)*2+j by omega];exact h4 j hj
  go_simp
theorem WorldParts_walk(W:World)(v0 v1 v2:Value)(x0:Wor)(l:List (Int×Int))(kz:Int)(g0:ArgWor W v0 x0)(g1:ArgHaps W v1 l)(g2:v2=iv kz∧I64 kz):Calls Try.prog 11 #[v0,v1,v2] W (RetB W (.bool true)):=by
 obtain⟨L,rfl,hin⟩:=g0;obtain⟨B,cl,rfl,hcl,hll,hh⟩:=g1;obtain⟨rfl,hz1,hz2⟩:=g2;have KG:=qH (fun w=>gone_calls w);obtain⟨⟨y,said,e'⟩,hres⟩:∃res,worRun x0 l=res:=⟨_,rfl⟩;have K1:Hid (∀w,WorIn w x0 L->Hps w B l->Calls Try.prog 71 #[.agg (worA x0 L),.slice B l.length cl] w (WrRet w y said e')):=qH (fun w h hh=>by
  have:=worRun_calls x0 L B cl l w h hll hcl hh;rwa [hres]at this)
 have HIN:=qH hin;have HH:=qH hh;have HRES:=qH hres;have HBA:Hid (Below W.heap.size W (W.alloc (.cells (worA x0 L) 88))):=qH (bL _);clear hin hres hh;go_enter Try.func11,Try.ntmps11;go_wp2_with fail;refine(K1.out _ (HIN.out.stays HBA.out) (HH.out.stays HBA.out)).mono ?_;rintro e w1 ⟨L1,A1,c1,b1,rfl,ho1,hbs1,hw1,hb⟩;have a2:=kp (W.heap.size) (worA x0 L) hb;have HB1:=bT HBA hb;have HI1:Hid (WorIn w1 y L1∧Nts w1 A1 said∧said.length<=c1):=qH ⟨hw1 w1 (fun _ _ _ _=>rfl),ho1.src.nts,ho1.le⟩;have hs1:W.heap.size+1<=w1.heap.size:=by have:=hb.size;simpa using this
 clear hb ho1 hbs1 hw1 K1;go_wp2_with fail;refine(KG.out _).mono ?_;rintro e w2 ⟨rfl,hb⟩;have a2:=kr a2 hb;have a1:=kp (w1.heap.size) (worA y L1) hb;have hbx:Below w1.heap.size w1 w2:=(bL _).trans (hb.mono (by simp));have HB2:=bT HB1 hbx;have HI2:Hid (WorIn w2 y L1∧Nts w2 A1 said∧said.length<=c1):=qH ⟨HI1.out.1.stays hbx,HI1.out.2.1.stays hbx,HI1.out.2.2⟩;have hs2:w1.heap.size+1<=w2.heap.size:=by have:=hb.size;simpa using this
 clear hb hbx HI1;by_cases he:¬e'=0
 ·exact x1dv
 have he:=Decidable.not_not.1 he;subst he;have hl3:l.length<=200:=by
  by_cases hm:200<l.length
  ·have h1:=HRES.out;unfold worRun at h1;by_cases hc:worCheck x0≠0
   ·rw[if_pos hc]at h1;exact absurd (congrArg (fun q=>q.2.2) h1) hc
   rw[if_neg hc,if_pos hm]at h1;exact absurd (congrArg (fun q=>q.2.2) h1) (by simp)
  omega
 have hmod1:=Int.emod_nonneg kz (show ((l.length:Int)+1)≠0 by omega);have hmod2:=Int.emod_lt_of_pos kz (show 0<((l.length:Int)+1) by omega);obtain⟨k,hk⟩:∃k:Nat,kz%((l.length:Int)+1)=(k:Int):=⟨(kz%((l.length:Int)+1)).toNat,by omega⟩;have hkl:k<=l.length:=by omega
 have hwl:IntKind.i64.wrap ((l.length:Int)+1)=(l.length:Int)+1:=IntWalk.i64_in _ (by omega);have KA:=qH (fun w=>at2_calls kz ((l.length:Int)+1) w hz1 hz2 (by omega) (by omega));rw[hk]at KA;obtain⟨y1,s1,s2,p1,p2,p3,p4,p5⟩:=run_parts HRES.out hkl;obtain⟨B1,cl1,hcl1,hhs1,hsl1⟩:=hap_tail hkl hcl HH.out;have HSL2:=qH hsl1;have HHT:=qH hhs1;have HSL1:Hid (∀wq,(Instr.slice 89 (.slice B l.length cl) none (some (iv (k:Int))) none).run Try.prog wq=.ok (.slice B k cl) wq):=qH (hap_head B l.length cl k hkl hcl (fun e=>by
  rcases Nat.eq_zero_or_pos l.length with h0|h0
  ·omega
  obtain⟨b,o,h1,_⟩:=HH.out 0 h0;rw[e]at h1;cases h1))
 have HHH:Hid (Hps W B (l.take k)):=qH (hps_take HH.out k);have KR1:Hid (∀w,WorIn w x0 L->Hps w B (l.take k)->Calls Try.prog 71 #[.agg (worA x0 L),.slice B k cl] w (WrRet w y1 s1 0)):=qH (fun w h hh=>by
  have:=worRun_calls x0 L B cl (l.take k) w h (by rw[List.length_take];omega) (by rw[List.length_take];omega) hh;rw[p1,List.length_take,Nat.min_eq_left hkl]at this;exact this)
 have KR2:Hid (∀L5 w,WorIn w y1 L5->Hps w B1 (l.drop k)->Calls Try.prog 71 #[.agg (worA y1 L5),.slice B1 (l.length-k) cl1] w (WrRet w y s2 0)):=qH (fun L5 w h hh=>by
  have:=worRun_calls y1 L5 B1 cl1 (l.drop k) w h (by rw[List.length_drop];omega) (by rw[List.length_drop];exact hcl1) hh;rw[p2,List.length_drop]at this;exact this)
 have HSAID:=qH p3;have HLEN:Hid (s1.length=k∧s2.length=l.length-k):=qH ⟨p4,p5⟩;clear p1 p2 p3 p4 p5 hhs1 hsl1 hmod1 hmod2 HRES hk;go_wp2_with fail;refine(KA.out _).mono ?_;rintro e w3 ⟨rfl,rfl⟩;have HR:Hid (rowOf w2 W.heap.size=worA x0 L∧frOf w2 W.heap.size=(0,0)):=qH ⟨a2.1,a2.2.1⟩;have HRY:Hid (rowOf w2 w1.heap.size=worA y L1∧frOf w2 w1.heap.size=(0,0)):=qH ⟨a1.1,a1.2.1⟩;have HIN1:Hid (WorIn w2 x0 L):=qH (HIN.out.stays HB2.out);have HH1:Hid (Hps w2 B (l.take k)):=qH (HHH.out.stays HB2.out);have HH2:Hid (Hps w2 B1 (l.drop k)):=qH (HHT.out.stays HB2.out);clear KA HIN HH HHH HHT a2 a1;go_wp2_with fail;refine wp_region_free (by kernel_rfl) (some 35::some 36::some 37::some 38::some 39::some 34::some 40::some 41::some 42::some 10::none::some 11::some 9::[]) (false::false::false::false::true::true::true::true::true::true::true::true::true::[]) (.agg (worA x0 L)::.slice B l.length cl::iv (k:Int)::.slice B k cl::undef::undef::undef::undef::undef::undef::undef::undef::undef::[]) (tbJ w2 4 9 10 [4,5,6,7,8,11,12] (wpV y1 s1) (fun x=>worA y1 x.1) (worA Wor.zero WLoc.zero) (wpR y1 s1)) 71 rfl rfl (by decide+kernel) (by decide+kernel) (by decide+kernel) rfl rfl (tbJ_start (WLoc.zero,none,0)) ?_ ?_
 ·refine⟨?_,?_,?_,?_,?_,?_,?_,?_,?_,?_,?_,?_,?_,trivial⟩;all_goals intro done cv a wq hn hw hcl h hJ
  ·have e1:=fO 3 (.pointer (some ⟨W.heap.size,0,none⟩)) h;have hp:=tbJ_bel hJ;have b2:=keep1 (g:=W.heap.size) (cs:=worA x0 L) hp HR.out.1 (by go_simp) HR.out.2;go_simp
  ·have e1:=fO 1 (.slice B l.length cl) h;exact mx_move (ch_ev e1)
  ·have e2:=fO 2 (iv (k:Int)) h;exact mx_move (ch_ev e2)
  ·have e1:=fN 1 36 h hw;have e37:=fN 2 37 h hw;have hs_:=HSL1.out;go_simp
  ·have e2:=fN 0 35 h hw;have e38:=fN 3 38 h hw;have n1:=hn;have n2:=nW 5 4 hcl n1;have n3:=nW 6 5 hcl n2;have n4:=nW 7 5 hcl n2;have n5:=nW 8 5 hcl n2;have n6:=nW 10 6 hcl n3;have n7:=nW 11 7 hcl n4;have n8:=nW 12 8 hcl n5;have hp:=tbJ_bel hJ;have hi_:∀j∈[4,5,6,7,8,11,12],j≠4->maskB [false,false,false,false,true,true,true,true,true,true,true,true,true] done j=false:=by
    exact x2bv
   refine wp_call (vals:=#[.agg (worA x0 L),.slice B k cl]) (by rw[List.map_toArray,List.map_cons,List.map_cons,List.map_nil,ch_ev e2,ch_ev e38]) (enters_of Try.func71 (by kernel_rfl) rfl _ _) (KR1.out _ (HIN1.out.stays hp) (HH1.out.stays hp)) ?_;exact x6a6
  ·have e1:=fr_cv (i:=4) (t:=39) h (hw 4 (by decide)) rfl rfl;have m1:=hw 4 (by decide);obtain⟨x,hv,hJ1⟩:=tbJ_k (k:=5) (by simp[maskB,m1]) (by decide) (by decide) (by decide) hJ;have yv:cv 4=.tuple #[.agg (worA y1 x.1),.slice x.2.1 (s1).length x.2.2,iv 0]:=hv 4 (by simp) (by simp[maskB,m1]);exact x6w4
  ·have e2:=fr_cv (i:=5) (t:=34) h (hw 5 (by decide)) rfl rfl;have m1:=hw 5 (by decide);have m2:=hcl 5 _ rfl m1 4 (by decide);obtain⟨x,hv,hJ1⟩:=tbJ_k (k:=6) (by simp[maskB,m2]) (by decide) (by decide) (by decide) hJ;have yv:cv 5=.tuple #[.agg (worA y1 x.1),.slice x.2.1 (s1).length x.2.2,iv 0]:=hv 5 (by simp) (by simp[maskB,m1]);rw[yv]at e2;refine wp_val (v:=.agg (worA y1 x.1)) ?_ ⟨_,rfl,hJ1 _ rfl⟩;go_simp
  ·have e1:=fr_cv (i:=5) (t:=34) h (hw 5 (by decide)) rfl rfl;have m1:=hw 5 (by decide);have m2:=hcl 5 _ rfl m1 4 (by decide);obtain⟨x,hv,hJ1⟩:=tbJ_k (k:=7) (by simp[maskB,m2]) (by decide) (by decide) (by decide) hJ;have yv:cv 5=.tuple #[.agg (worA y1 x.1),.slice x.2.1 (s1).length x.2.2,iv 0]:=hv 5 (by simp) (by simp[maskB,m1]);rw[yv]at e1;refine wp_val (v:=.slice x.2.1 (s1).length x.2.2) ?_ ⟨_,rfl,hJ1 _ rfl⟩;go_simp
  ·have e2:=fr_cv (i:=5) (t:=34) h (hw 5 (by decide)) rfl rfl;have m1:=hw 5 (by decide);have m2:=hcl 5 _ rfl m1 4 (by decide);obtain⟨x,hv,hJ1⟩:=tbJ_k (k:=8) (by simp[maskB,m2]) (by decide) (by decide) (by decide) hJ;have yv:cv 5=.tuple #[.agg (worA y1 x.1),.slice x.2.1 (s1).length x.2.2,iv 0]:=hv 5 (by simp) (by simp[maskB,m1]);exact x77r
  ·exact x2w2
  ·have e1:=fr_cv (i:=9) (t:=10) h (hw 9 (by decide)) rfl rfl;have e40:=fr_cv (i:=6) (t:=40) h (hw 6 (by decide)) rfl rfl;have n1:=hn;have m1:=hw 9 (by decide);have m2:=hw 6 (by decide);have m3:=hcl 6 _ rfl m2 5 (by decide);have m4:=hcl 5 _ rfl m3 4 (by decide);obtain⟨x,gb_,yb_,hv,r_,f_,hJ1⟩:=tbJ_s (by go_simp) (by simp[maskB,m4]) (by simp[maskB,n1]) (by simp[maskB,m1]) (by simp) (by decide) (by decide) hJ;rw[yb_]at e1;have yv:cv 6=.agg (worA y1 x.1):=hv 6 (by simp) (by simp[maskB,m2]);rw[yv]at e40;refine wp_srow e1 e40 (by go_simp) (by go_simp) r_ (by go_simp) f_ (by go_simp) ⟨undef,rfl,?_⟩;exact x7xh
  ·have e2:=fr_cv (i:=7) (t:=41) h (hw 7 (by decide)) rfl rfl;have m1:=hw 7 (by decide);have m2:=hcl 7 _ rfl m1 5 (by decide);have m3:=hcl 5 _ rfl m2 4 (by decide);obtain⟨x,hv,hJ1⟩:=tbJ_k (k:=11) (by simp[maskB,m3]) (by decide) (by decide) (by decide) hJ;have yv:cv 7=.slice x.2.1 (s1).length x.2.2:=hv 7 (by simp) (by simp[maskB,m1]);exact x4l2
  ·have e1:=fr_cv (i:=8) (t:=42) h (hw 8 (by decide)) rfl rfl;exact x7ax
 intro dn cv w4 hall hJ;obtain⟨x,b_,g3,w2_,hv,v3,hrow,hfr,hg1,hg2,hbel,hbb,hfre,hkp,hsz1,hap⟩:=tbJ_end (hall 4 rfl (by decide)) (hall 9 rfl (by decide)) (hall 10 rfl (by decide)) hJ;have v4:cv 11=.slice x.2.1 (s1).length x.2.2:=hv 11 (by simp) (hall 11 rfl (by decide));have v5:cv 12=iv 0:=hv 12 (by simp) (hall 12 rfl (by decide));have hF:=hfre.kp hkp hbb hsz1;simp only[freeAll,putAll_some,putAll_none,putAll_nil,List.getD_cons_zero,List.getD_cons_succ,Bool.false_eq_true,if_true,if_false,reduceIte,Nat.zero_add,Nat.reduceAdd,List.setIfInBounds_toArray,List.set_cons_zero,List.set_cons_succ];rw[v3,v4,v5];obtain⟨L2,A2,c2⟩:=x;dsimp only at hrow hF⊢;clear hJ hv v3 v4 v5 hall hfre hkp hsz1 hap hbb;generalize cv=cw5 at *
 have e1:=rowOf_heap (hbel.block W.heap.size (by omega));have e2:=rowOf_heap (hbel.block w1.heap.size (by omega));have HRX:Hid (rowOf w4 W.heap.size=worA x0 L∧frOf w4 W.heap.size=(0,0)):=qH ⟨e1.1.trans HR.out.1,e1.2.trans HR.out.2⟩;have HRY1:Hid (rowOf w4 w1.heap.size=worA y L1∧frOf w4 w1.heap.size=(0,0)):=qH ⟨e2.1.trans HRY.out.1,e2.2.trans HRY.out.2⟩;have HB3:=bT HB2 hbel;have HI1:Hid (WorIn w4 y L1∧Nts w4 A1 said∧said.length<=c1):=qH ⟨HI2.out.1.stays hbel,HI2.out.2.1.stays hbel,HI2.out.2.2⟩;have HIN2:Hid (WorIn w4 y1 L2):=qH hF.now.1;have HN1:Hid (Nts w4 A2 s1∧s1.length<=c2):=qH hF.now.2;have HH3:Hid (Hps w4 B1 (l.drop k)):=qH (HH2.out.stays hbel);have hs3:w2.heap.size<=w4.heap.size:=hbel.size;clear e1 e2 HR HRY HIN1 HH1 HH2 HI2 KR1 hF hbel;have HH1:=HH3;have HR:Hid (rowOf w4 g3=worA y1 L2∧frOf w4 g3=(0,0)):=qH ⟨hrow,hfr⟩;clear HH3 hrow hfr;go_wp2_with fail;refine wp_region_free (by kernel_rfl) (some 44::some 45::some 46::some 47::some 48::some 43::some 49::some 50::some 51::some 12::none::some 13::some 14::[]) (false::false::false::false::true::true::true::true::true::true::true::true::true::[]) (.agg (worA y1 L2)::.slice B l.length cl::iv (k:Int)::.slice B1 (l.length-k) cl1::undef::undef::undef::undef::undef::undef::undef::undef::undef::[]) (tbJ w4 4 9 10 [4,5,6,7,8,11,12] (wpV y s2) (fun x=>worA y x.1) (worA Wor.zero WLoc.zero) (wpR y s2)) 71 rfl rfl (by decide+kernel) (by decide+kernel) (by decide+kernel) rfl rfl (tbJ_start (WLoc.zero,none,0)) ?_ ?_
 ·refine⟨?_,?_,?_,?_,?_,?_,?_,?_,?_,?_,?_,?_,?_,trivial⟩;all_goals intro done cv a wq hn hw hcl h hJ
  ·have e1:=fO 10 (.pointer (some ⟨g3,0,none⟩)) h;have hp:=tbJ_bel hJ;have b2:=keep1 (g:=g3) (cs:=worA y1 L2) hp HR.out.1 (by go_simp) HR.out.2;go_simp
  ·have e1:=fO 1 (.slice B l.length cl) h;exact mx_move (ch_ev e1)
  ·have e2:=fO 2 (iv (k:Int)) h;exact mx_move (ch_ev e2)
  ·have e1:=fN 1 45 h hw;have e46:=fN 2 46 h hw;have hs_:=HSL2.out;go_simp
  ·have e2:=fN 0 44 h hw;have e47:=fN 3 47 h hw;have n1:=hn;have n2:=nW 5 4 hcl n1;have n3:=nW 6 5 hcl n2;have n4:=nW 7 5 hcl n2;have n5:=nW 8 5 hcl n2;have n6:=nW 10 6 hcl n3;have n7:=nW 11 7 hcl n4;have n8:=nW 12 8 hcl n5;have hp:=tbJ_bel hJ;have hi_:∀j∈[4,5,6,7,8,11,12],j≠4->maskB [false,false,false,false,true,true,true,true,true,true,true,true,true] done j=false:=by
    exact x2bv
   refine wp_call (vals:=#[.agg (worA y1 L2),.slice B1 (l.length-k) cl1]) (by rw[List.map_toArray,List.map_cons,List.map_cons,List.map_nil,ch_ev e2,ch_ev e47]) (enters_of Try.func71 (by kernel_rfl) rfl _ _) (KR2.out _ _ (HIN2.out.stays hp) (HH1.out.stays hp)) ?_;exact x6a6
  ·have e1:=fr_cv (i:=4) (t:=48) h (hw 4 (by decide)) rfl rfl;have m1:=hw 4 (by decide);obtain⟨x,hv,hJ1⟩:=tbJ_k (k:=5) (by simp[maskB,m1]) (by decide) (by decide) (by decide) hJ;have yv:cv 4=.tuple #[.agg (worA y x.1),.slice x.2.1 (s2).length x.2.2,iv 0]:=hv 4 (by simp) (by simp[maskB,m1]);exact x6w4
  ·have e2:=fr_cv (i:=5) (t:=43) h (hw 5 (by decide)) rfl rfl;have m1:=hw 5 (by decide);have m2:=hcl 5 _ rfl m1 4 (by decide);obtain⟨x,hv,hJ1⟩:=tbJ_k (k:=6) (by simp[maskB,m2]) (by decide) (by decide) (by decide) hJ;have yv:cv 5=.tuple #[.agg (worA y x.1),.slice x.2.1 (s2).length x.2.2,iv 0]:=hv 5 (by simp) (by simp[maskB,m1]);exact x7sp
  ·have e1:=fr_cv (i:=5) (t:=43) h (hw 5 (by decide)) rfl rfl;have m1:=hw 5 (by decide);have m2:=hcl 5 _ rfl m1 4 (by decide);obtain⟨x,hv,hJ1⟩:=tbJ_k (k:=7) (by simp[maskB,m2]) (by decide) (by decide) (by decide) hJ;have yv:cv 5=.tuple #[.agg (worA y x.1),.slice x.2.1 (s2).length x.2.2,iv 0]:=hv 5 (by simp) (by simp[maskB,m1]);rw[yv]at e1;refine wp_val (v:=.slice x.2.1 (s2).length x.2.2) ?_ ⟨_,rfl,hJ1 _ rfl⟩;go_simp
  ·have e2:=fr_cv (i:=5) (t:=43) h (hw 5 (by decide)) rfl rfl;have m1:=hw 5 (by decide);have m2:=hcl 5 _ rfl m1 4 (by decide);obtain⟨x,hv,hJ1⟩:=tbJ_k (k:=8) (by simp[maskB,m2]) (by decide) (by decide) (by decide) hJ;have yv:cv 5=.tuple #[.agg (worA y x.1),.slice x.2.1 (s2).length x.2.2,iv 0]:=hv 5 (by simp) (by simp[maskB,m1]);exact x77r
  ·exact x2w2
  ·have e1:=fr_cv (i:=9) (t:=12) h (hw 9 (by decide)) rfl rfl;have e49:=fr_cv (i:=6) (t:=49) h (hw 6 (by decide)) rfl rfl;have n1:=hn;have m1:=hw 9 (by decide);have m2:=hw 6 (by decide);have m3:=hcl 6 _ rfl m2 5 (by decide);have m4:=hcl 5 _ rfl m3 4 (by decide);obtain⟨x,gb_,yb_,hv,r_,f_,hJ1⟩:=tbJ_s (by go_simp) (by simp[maskB,m4]) (by simp[maskB,n1]) (by simp[maskB,m1]) (by simp) (by decide) (by decide) hJ;rw[yb_]at e1;have yv:cv 6=.agg (worA y x.1):=hv 6 (by simp) (by simp[maskB,m2]);rw[yv]at e49;refine wp_srow e1 e49 (by go_simp) (by go_simp) r_ (by go_simp) f_ (by go_simp) ⟨undef,rfl,?_⟩;exact x7xh
  ·have e2:=fr_cv (i:=7) (t:=50) h (hw 7 (by decide)) rfl rfl;have m1:=hw 7 (by decide);have m2:=hcl 7 _ rfl m1 5 (by decide);have m3:=hcl 5 _ rfl m2 4 (by decide);obtain⟨x,hv,hJ1⟩:=tbJ_k (k:=11) (by simp[maskB,m3]) (by decide) (by decide) (by decide) hJ;have yv:cv 7=.slice x.2.1 (s2).length x.2.2:=hv 7 (by simp) (by simp[maskB,m1]);exact x4l2
  ·have e1:=fr_cv (i:=8) (t:=51) h (hw 8 (by decide)) rfl rfl;exact x7ax
 intro dn cv w5 hall hJ;obtain⟨x,b_,g4,w2_,hv,v3,hrow,hfr,hg1,hg2,hbel,hbb,hfre,hkp,hsz1,hap⟩:=tbJ_end (hall 4 rfl (by decide)) (hall 9 rfl (by decide)) (hall 10 rfl (by decide)) hJ;have v4:cv 11=.slice x.2.1 (s2).length x.2.2:=hv 11 (by simp) (hall 11 rfl (by decide));have v5:cv 12=iv 0:=hv 12 (by simp) (hall 12 rfl (by decide));have hF:=hfre.kp hkp hbb hsz1;simp only[freeAll,putAll_some,putAll_none,putAll_nil,List.getD_cons_zero,List.getD_cons_succ,Bool.false_eq_true,if_true,if_false,reduceIte,Nat.zero_add,Nat.reduceAdd,List.setIfInBounds_toArray,List.set_cons_zero,List.set_cons_succ];rw[v3,v4,v5];obtain⟨L3,A3,c3⟩:=x;dsimp only at hrow hF⊢;clear hJ hv v3 v4 v5 hall hfre hkp hsz1 hap hbb;generalize cv=cw6 at *
 have e1:=rowOf_heap (hbel.block w1.heap.size (by omega));have r1:rowOf w5 w1.heap.size=worA y L1:=e1.1.trans HRY1.out.1;have f1:frOf w5 w1.heap.size=(0,0):=e1.2.trans HRY1.out.2;have HB4:=bT HB3 hbel;have HI2:Hid (WorIn w5 y L1∧Nts w5 A1 said∧said.length<=c1):=qH ⟨HI1.out.1.stays hbel,HI1.out.2.1.stays hbel,HI1.out.2.2⟩;have HN2:Hid (Nts w5 A2 s1∧s1.length<=c2):=qH ⟨HN1.out.1.stays hbel,HN1.out.2⟩;have HZ1:Hid (WorIn w5 y L3∧Nts w5 A3 s2∧s2.length<=c3):=qH hF.now;clear e1 HRY1 HI1 HN1 HIN2 HH1 HR KR2 hF hbel;have a2:=keep1 (g:=w1.heap.size) (cs:=worA y L1) (bW w5) r1 (by go_simp) f1;have a1:=keep1 (g:=g4) (cs:=worA y L3) (bW w5) hrow (by go_simp) hfr;clear r1 f1 hrow hfr;go_wp2_with fail;refine(worSame_self y L1 L3 _ HI2.out.1 HZ1.out.1).mono ?_;rintro e w6 ⟨rfl,hb⟩;have HB5:=bT HB4 hb;have HI1:Hid (Nts w6 A1 said∧said.length<=c1):=qH ⟨HI2.out.2.1.stays hb,HI2.out.2.2⟩;have HN1:Hid (Nts w6 A2 s1∧s1.length<=c2):=qH ⟨HN2.out.1.stays hb,HN2.out.2⟩;have HZ2:Hid (Nts w6 A3 s2∧s2.length<=c3):=qH ⟨HZ1.out.2.1.stays hb,HZ1.out.2.2⟩;clear hb HI2 HN2 HZ1 a2 a1;have hl1:=HLEN.out.1;have hl2:=HLEN.out.2;have KC:Hid (Calls Try.prog 75 #[.slice (some ⟨w6.heap.size,0,none⟩) 2 2] (w6.alloc (.cells #[.slice A2 s1.length c2,.slice A3 s2.length c3] 90)) (SlRet (w6.alloc (.cells #[.slice A2 s1.length c2,.slice A3 s2.length c3] 90)) 24 1 (s1.length+s2.length) ((s1++s2).map iv))):=qH (by
  have hb1:Below w6.heap.size w6 (w6.alloc (.cells #[.slice A2 s1.length c2,.slice A3 s2.length c3] 90)):=bL _;have h1:=concatErrnos_calls [⟨A2,s1.length,c2,s1.map iv⟩,⟨A3,s2.length,c3,s2.map iv⟩] (some ⟨w6.heap.size,0,none⟩) 2 (w6.alloc (.cells #[.slice A2 s1.length c2,.slice A3 s2.length c3] 90)) (by simp) (by simp[sumN];omega) (src_blk (blk_top rfl)) (fun s hs=>by
   simp at hs;rcases hs with rfl|rfl
   ·exact⟨by simp,(HN1.out.1.stays hb1).src,by intro u hu;simp at hu;obtain⟨a,_,rfl⟩:=hu;rfl⟩
   exact⟨by simp,(HZ2.out.1.stays hb1).src,by intro u hu;simp at hu;obtain⟨a,_,rfl⟩:=hu;rfl⟩)
  have e1:sumN [⟨A2,s1.length,c2,s1.map iv⟩,⟨A3,s2.length,c3,s2.map iv⟩]=s1.length+s2.length:=by simp[sumN]
  have e2:[(⟨A2,s1.length,c2,s1.map iv⟩:SrcOf),⟨A3,s2.length,c3,s2.map iv⟩].flatMap SrcOf.cells=(s1++s2).map iv:=by simp
  rw[e1,e2]at h1;exact h1)
 clear hl1 hl2;go_wp2_with fail;refine KC.out.mono ?_;rintro e w8 ⟨A4,c4,rfl,ho1,hb⟩;have HB6:Hid (Below W.heap.size W w8):=qH ((HB5.out.alloc HB5.out.size _).trans (hb.mono (by have:=HB5.out.size;simp;omega)));have hx1:Below w6.heap.size w6 w8:=(bL _).trans (hb.mono (by simp));have KE:Hid (Calls Try.prog 74 #[.slice A1 said.length c1,.slice A4 (s1.length+s2.length) c4] w8 (RetN w8 (.bool true))):=qH (by
  have h1:=equalErrs_calls A1 A4 c1 c4 said (s1++s2) w8 (by rw[HSAID.out,List.length_append];have:=HLEN.out;omega) (by rw[List.length_append];have:=HLEN.out;omega) (HI1.out.1.stays hx1) (by have:=ho1.src;exact this.nts);rw[decide_eq_true HSAID.out,List.length_append]at h1;exact h1)
 clear hb hx1 ho1;go_wp2_with fail;refine KE.out.mono ?_;rintro e w7 ⟨rfl,n1,rfl⟩;go_wp2_with fail;go_ret;exact⟨rfl,Below.drewN' HB6.out n1⟩
end Go.Proofs.Ytefkfglkpebbmac
