/- The walk of the law WorldKeeps. Printed by gen_wkeeps.py. No conditions. -/
import Derived.Test.YtefkfglkpebbmacPMWorDo
import Derived.Test.YtefkfglkpebbmacPMGoneWalk
import Derived.Test.YtefkfglkpebbmacPMWorArgs
import Derived.Test.YtefkfglkpebbmacPMChkSame
import Derived.Test.YtefkfglkpebbmacPXEqImgsB
set_option linter.unusedVariables false
set_option linter.unusedSimpArgs false
set_option maxRecDepth 100000
set_option maxHeartbeats 40000000
namespace Go.Proofs.Ytefkfglkpebbmac
open Go.RowKit
variable {Y:Prop}
theorem chs_take{w:World}{A:OA}{l:List Chk}(h:Chs w A l)(n:Nat):Chs w A (l.take n):=by
 exact x1b6
theorem slice_to(A:OA)(n c k:Nat)(hk:k<=n)(hc:n<=c)(hA:A=none->k=0)(wq:World):(Instr.slice 43 (.slice A n c) none (some (iv (k:Int))) none).run Try.prog wq=.ok (.slice A k c) wq:=by
 have k1:(k:Int)<=(c:Int):=by omega
 cases A with
 |none=>
  have k2:k=0:=hA rfl;subst k2;go_simp
 |some a=>
  by_cases k2:c=0
  ·subst k2;have k3:k=0:=by omega
   subst k3;go_simp
  go_simp
theorem WorldKeeps_walk(W:World)(v0 v1:Value)(x0:Wor)(x1:Int×Int)(g0:ArgWor W v0 x0)(g1:ArgHap v1 x1):Calls Try.prog 13 #[v0,v1] W (RetB W (.bool true)):=by
 obtain⟨L,rfl,hin⟩:=g0;obtain⟨kd,n⟩:=x1;obtain⟨rfl,hi1,hi2⟩:=g1;dsimp only at hi1 hi2⊢;have KG:=qH (fun w=>gone_calls w);obtain⟨⟨x',e'⟩,hres⟩:∃res,worDo x0 kd n=res:=⟨_,rfl⟩;have K1:Hid (∀w,WorIn w x0 L->Calls Try.prog 81 #[.agg (worA x0 L),.agg #[iv kd,iv n]] w (WvRet w x' e')):=qH (fun w h=>by
  have:=worDo_calls x0 L kd n w h hi2;rwa [hres]at this)
 have HIN:=qH hin;have HRES:=qH hres;have HI1:=qH hi2;have HBA:Hid (Below W.heap.size W ((W.alloc (.cells (worA x0 L) 88)).alloc (.cells #[iv kd,iv n] 106))):=qH ((bL _).alloc (by simp) _);clear hin hres hi1 hi2;go_enter Try.func13,Try.ntmps13;go_wp2_with fail;refine(K1.out _ (HIN.out.stays HBA.out)).mono ?_;rintro e w1 ⟨L',rfl,hf,hb⟩;have a3:=kp (W.heap.size) (worA x0 L) hb;have a1:=kp ((W.heap.size+1)) (#[iv kd,iv n]) hb;have HB1:Hid (Below W.heap.size W w1):=qH (HBA.out.trans (hb.mono (by simp;omega)));have HW1:=qH hf.now;have HF1:=qH hf;have hs1:W.heap.size+2<=w1.heap.size:=by have:=hb.size;simpa using this
 clear hb hf K1;go_wp2_with fail;refine(KG.out _).mono ?_;rintro e w2 ⟨rfl,hb⟩;have a3:=kr a3 hb;have a1:=kr a1 hb;have a2:=kp (w1.heap.size) (worA x' L') hb;have hbx:Below w1.heap.size w1 w2:=(bL _).trans (hb.mono (by simp));have HB2:Hid (Below W.heap.size W w2):=qH (HB1.out.trans (hbx.mono (by omega)));have HW2:=qH (HW1.out.stays hbx);have hs2:w1.heap.size+1<=w2.heap.size:=by have:=hb.size;simpa using this
 have HX1:Hid (∀q,q<w1.heap.size->w2.heap[q]?=w1.heap[q]?):=qH (fun q h=>hbx.block q h);clear hb hbx HW1;by_cases he:¬e'=0
 ·exact x1dv
 have he:=Decidable.not_not.1 he;subst he;have hwc:worCheck x0=0:=by
  have h1:=HRES.out;unfold worDo at h1;by_cases h:worCheck x0=0
  ·exact h
  rw[if_pos h]at h1;exact absurd (congrArg Prod.snd h1) h
 have hok:=worCheck_ok.1 hwc;have hh:worHappen x0 kd n=(x',0):=by
  have h1:=HRES.out;unfold worDo at h1;rwa [if_neg (by simpa using hwc)]at h1
 have hkp:=happen_keeps hok (kind:=kd) (n:=n) (by rw[hh]);rw[hh]at hkp;dsimp only at hkp;obtain⟨k1,k2,k3,k4,k5⟩:=hkp;have HCK:Hid (worCheck x'=0):=qH (worCheck_ok.2 k1);have HREL:Hid (decide (x0.rel=x'.rel)=true):=qH (decide_eq_true k2.symm);have hfew:=hok.few;obtain⟨ds,hg⟩:=HIN.out.net.gsrc;have HG:=qH hg;have HBD:=qH HIN.out.net.bound;have K1:Hid (∀w,Below W.heap.size W w->Calls Try.prog 82 #[.slice L.an x0.net.length L.cn] w (SlRet w 49 5 x0.net.length (kChk.cells x0.net ds))):=qH (fun w h=>cloneChunks_calls L.an x0.net.length L.cn (kChk.cells x0.net ds) w (cells_len _ _ HG.out.len) (by omega) (HG.out.stays h).row (cells_oneCell _ _));have HK1:=qH k3;have HK2:=qH k4;have HK3:=qH k5;clear hwc hok hh k1 k2 k3 k4 k5 hg HRES;go_wp2_with fail;refine(K1.out _ HB2.out).mono ?_;rintro e w3 ⟨A1,c1,rfl,ho1,hb⟩;have a3:=kr a3 hb;have a1:=kr a1 hb;have a2:=kr a2 hb;have HB3:=bT HB2 hb;have HW1:=qH (HW2.out.stays hb);have hs3:w2.heap.size<=w3.heap.size:=hb.size;have HR1:Hid (GRow kChk w3 w2.heap.size x0.net ds A1 c1):=qH ⟨HG.out.len,ho1,(HG.out.stays HB3.out).data,fun i o d h1 h2 hx k hk e=>by
  have h1:=HG.out.each i o d h1 h2 hx k hk;have h2:=(ho1.block k e).1;have h3:=HB2.out.size;omega⟩
 have HX2:Hid (∀q,q<w1.heap.size->w3.heap[q]?=w1.heap[q]?):=qH (fun q h=>(hb.block q (by omega)).trans (HX1.out q h));clear hb ho1 K1 HW2 HX1;by_cases hkd:kd=2∨kd=4
 ·obtain⟨j1,j2⟩:=HK3.out hkd;obtain⟨i,rfl⟩:∃i:Nat,n=(i:Int):=⟨n.toNat,by omega⟩;have hi:i<x0.net.length:=by omega
  have hl1:netLeft x0 kd (i:Int)=x0.net.eraseIdx i:=by unfold netLeft;rw[if_pos hkd];simp
  have HLEN:Hid ((x0.net.eraseIdx i).length=x0.net.length-1):=qH (List.length_eraseIdx_of_lt hi);have hpre:=HK1.out;rw[hl1]at hpre;have HLE:Hid ((x0.net.eraseIdx i).length<=x'.net.length):=qH hpre.length_le;have HTK:Hid (x'.net.take (x0.net.eraseIdx i).length=x0.net.eraseIdx i):=qH (List.prefix_iff_eq_take.1 hpre).symm;have hk1:=HK2.out (by omega);rw[hl1]at hk1;have heq:(((x'.net.length:Nat):Int)==(((x0.net.eraseIdx i).length:Nat):Int))=true:=by rw[hk1];simp
  obtain⟨g3,rfl⟩:∃g3,A1=some ⟨g3,0,none⟩:=by
   rcases HR1.out.row.2 with ⟨h1,h2⟩|⟨g,cap,cur,h1,_⟩
   ·injection h1 with h1 h3 h4;omega
   injection h1 with h1;exact⟨g,h1⟩
  have hg1:=HR1.out.row.block g3 rfl;have KD:=qH (delChunk_calls g3 x0.net.length c1 i (kChk.cells x0.net ds) w3 w2.heap.size HR1.out.row (cells_oneCell _ _) hi (by omega));have hwk:IntKind.i64.wrap ((i:Int)+1)=(i:Int)+1:=IntWalk.i64_in _ (by omega);have hq:kd≠1:=by omega
  have HEQ:=qH heq;clear hpre hk1 hl1 j1 j2 heq;by_cases hk2:kd=2
  first|case' inl=>have T4:Hid True:=qH trivial|case' pos=>have T4:Hid True:=qH trivial|case' refine_1=>have T4:Hid True:=qH trivial
  iterate 2
   ·first
     |
      revert T4;intro T4;have q1:(kd==2)=true:=by simp[hk2]
     |
      have q1:(kd==2)=false:=by simp[hk2]
      have q2:(kd==4)=true:=by simp;omega
    have q3:(kd==1)=false:=by simp[hq]
    clear hkd hk2 hq;go_wp2_with fail;refine KD.out.mono ?_;rintro e w4 ⟨rfl,ho4,hb4,hs4,hk1⟩;have hgx0:W.heap.size≠g3:=by omega
    have hgx1:W.heap.size+1≠g3:=by omega
    have hgx2:w1.heap.size≠g3:=by omega
    have e0:=rowOf_heap (hk1 W.heap.size hgx0);have r0:rowOf w4 W.heap.size=worA x0 L:=e0.1.trans a3.1;have f0:frOf w4 W.heap.size=(0,0):=e0.2.trans a3.2.1;have e1:=rowOf_heap (hk1 (W.heap.size+1) hgx1);have r1:rowOf w4 (W.heap.size+1)=#[iv kd,iv (i:Int)]:=e1.1.trans a1.1;have f1:frOf w4 (W.heap.size+1)=(0,0):=e1.2.trans a1.2.1;have e2:=rowOf_heap (hk1 w1.heap.size hgx2);have r2:rowOf w4 w1.heap.size=worA x' L':=e2.1.trans a2.1;have f2:frOf w4 w1.heap.size=(0,0):=e2.2.trans a2.2.1;have HB4:Hid (Below W.heap.size W w4):=qH (HB3.out.trans (hb4.mono (by have:=HB2.out.size;omega)));have HW4:Hid (WorIn w4 x' L'):=qH (HF1.out w4 (fun q h1 h2=>(hk1 q (by omega)).trans (HX2.out q h2)));have HL4:Hid (Chs w4 (some ⟨g3,0,none⟩) (x0.net.eraseIdx i)):=qH ((HR1.out.del hi ho4 hk1 hs4).src.chs (fun x hx=>HBD.out x (List.mem_of_mem_eraseIdx hx)));clear e0 e1 e2 a3 a1 a2;have a3:=keep1 (g:=W.heap.size) (cs:=worA x0 L) (bW w4) r0 (by go_simp) f0;have a1:=keep1 (g:=(W.heap.size+1)) (cs:=#[iv kd,iv (i:Int)]) (bW w4) r1 (by go_simp) f1;have a2:=keep1 (g:=w1.heap.size) (cs:=worA x' L') (bW w4) r2 (by go_simp) f2;clear r0 r1 r2 f0 f1 f2 hgx0 hgx1 hgx2 ho4 hb4 hk1 hg1;have hln4:=HLEN.out;have hlen9:x0.net.length-1=(x0.net.eraseIdx i).length:=HLEN.out.symm;rw[hlen9];clear hln4 hlen9 hs4;go_wp2_with fail;refine(worCheck_calls x' L' _ HW4.out).mono ?_;rintro e w6 ⟨rfl,hb⟩;rw[HCK.out];have a3:=kp (W.heap.size) (worA x0 L) hb;have a1:=kp ((W.heap.size+1)) (#[iv kd,iv (i:Int)]) hb;have a2:=kp (w1.heap.size) (worA x' L') hb;have HB6:=bT HB4 hb;have HW6:=qH (HW4.out.stays hb);have HIN6:=qH (HIN.out.stays HB6.out);have HL6:=qH (HL4.out.stays hb);clear hb;go_wp2_with fail;refine(eqImgsB_calls L.ar L'.ar L.cr L'.cr x0.rel x'.rel _ HIN6.out.lr HW6.out.lr HIN6.out.rel HW6.out.rel).mono ?_;rintro e w7 ⟨rfl,hb⟩;rw[HREL.out];have a3:=kr a3 hb;have a1:=kr a1 hb;have a2:=kr a2 hb;have HB7:=bT HB6 hb;have HW7:=qH (HW6.out.stays hb);have HL7:=qH (HL6.out.stays hb);clear hb;have hge:decide (((x0.net.eraseIdx i).length:Int)<=(x'.net.length:Int))=true:=decide_eq_true (by have:=HLE.out;omega);have hge2:(x0.net.eraseIdx i).length<=x'.net.length:=HLE.out;have hkn:=HW7.out.kn;have hln:=HW7.out.ln;have hsl:∀wq,(Instr.slice 43 (.slice L'.an x'.net.length L'.cn) none (some (iv ((x0.net.eraseIdx i).length:Int))) none).run Try.prog wq=.ok (.slice L'.an (x0.net.eraseIdx i).length L'.cn) wq:=fun wq=>by
     obtain⟨k,hk⟩:=eX ((x0.net.eraseIdx i).length);rw[hk]at hge2⊢;exact slice_to _ _ _ _ hge2 hkn (fun e=>by
      rcases Nat.eq_zero_or_pos x'.net.length with h|h
      ·omega
      obtain⟨b,o,h9,_⟩:=HW7.out.net 0 h;rw[e]at h9;cases h9) wq
    have KS:Hid (Calls Try.prog 39 #[.slice L'.an (x0.net.eraseIdx i).length L'.cn,.slice (some ⟨g3,0,none⟩) (x0.net.eraseIdx i).length c1] w7 (RetB w7 (.bool true))):=qH (by
     have h1:=chkSame_calls L'.an (some ⟨g3,0,none⟩) L'.cn c1 (x'.net.take (x0.net.eraseIdx i).length) (x0.net.eraseIdx i) w7 (by rw[List.length_take];omega) (by omega) (chs_take HW7.out.net _) HL7.out;rw[HTK.out,decide_eq_true rfl]at h1;exact h1)
    clear hln;go_wp2_with fail;refine KS.out.mono ?_;rintro e w8 ⟨rfl,hb⟩;have a3:=kr a3 hb;have a1:=kr a1 hb;have a2:=kr a2 hb;have HB8:=bT HB7 hb;clear hb;have heq:=HEQ.out;go_wp2_with fail;go_ret;exact⟨rfl,HB8.out⟩
 have hl1:netLeft x0 kd n=x0.net:=by unfold netLeft;rw[if_neg hkd]
 have hpre:=HK1.out;rw[hl1]at hpre;have HLE:Hid (x0.net.length<=x'.net.length):=qH hpre.length_le;have HTK:Hid (x'.net.take x0.net.length=x0.net):=qH (List.prefix_iff_eq_take.1 hpre).symm;have q1:(kd==2)=false:=by simp;omega
 have q2:(kd==4)=false:=by simp;omega
 have HL1:Hid (Chs w3 A1 x0.net):=qH (HR1.out.src.chs HBD.out);by_cases hq:kd=1
 first|case' inl=>have T4:Hid True:=qH trivial|case' pos=>have T4:Hid True:=qH trivial|case' refine_1=>have T4:Hid True:=qH trivial
 iterate 2
  ·first
    |
     revert T4;intro T4;have q3:(kd==1)=true:=by simp[hq]
     clear hkd hq hpre hl1
    |
     have q3:(kd==1)=false:=by simp[hq]
     have hk4:=HK2.out hq;rw[hl1]at hk4;have heq:(((x'.net.length:Nat):Int)==((x0.net.length:Nat):Int))=true:=by rw[hk4];simp
     have HEQ:=qH heq;clear hkd hq hpre hl1 hk4 heq
   go_wp2_with fail;refine(worCheck_calls x' L' _ HW1.out).mono ?_;rintro e w6 ⟨rfl,hb⟩;rw[HCK.out];have a3:=kp (W.heap.size) (worA x0 L) hb;have a1:=kp ((W.heap.size+1)) (#[iv kd,iv n]) hb;have a2:=kp (w1.heap.size) (worA x' L') hb;have HB6:=bT HB3 hb;have HW6:=qH (HW1.out.stays hb);have HIN6:=qH (HIN.out.stays HB6.out);have HL6:=qH (HL1.out.stays hb);clear hb;go_wp2_with fail;refine(eqImgsB_calls L.ar L'.ar L.cr L'.cr x0.rel x'.rel _ HIN6.out.lr HW6.out.lr HIN6.out.rel HW6.out.rel).mono ?_;rintro e w7 ⟨rfl,hb⟩;rw[HREL.out];have a3:=kr a3 hb;have a1:=kr a1 hb;have a2:=kr a2 hb;have HB7:=bT HB6 hb;have HW7:=qH (HW6.out.stays hb);have HL7:=qH (HL6.out.stays hb);clear hb;have hge:decide (((x0.net).length:Int)<=(x'.net.length:Int))=true:=decide_eq_true (by have:=HLE.out;omega);have hge2:(x0.net).length<=x'.net.length:=HLE.out;have hkn:=HW7.out.kn;have hln:=HW7.out.ln;have hsl:∀wq,(Instr.slice 43 (.slice L'.an x'.net.length L'.cn) none (some (iv ((x0.net).length:Int))) none).run Try.prog wq=.ok (.slice L'.an (x0.net).length L'.cn) wq:=fun wq=>by
    obtain⟨k,hk⟩:=eX ((x0.net).length);rw[hk]at hge2⊢;exact slice_to _ _ _ _ hge2 hkn (fun e=>by
     rcases Nat.eq_zero_or_pos x'.net.length with h|h
     ·omega
     obtain⟨b,o,h9,_⟩:=HW7.out.net 0 h;rw[e]at h9;cases h9) wq
   have KS:Hid (Calls Try.prog 39 #[.slice L'.an (x0.net).length L'.cn,.slice A1 (x0.net).length c1] w7 (RetB w7 (.bool true))):=qH (by
    have h1:=chkSame_calls L'.an A1 L'.cn c1 (x'.net.take (x0.net).length) (x0.net) w7 (by rw[List.length_take];omega) (by omega) (chs_take HW7.out.net _) HL7.out;rw[HTK.out,decide_eq_true rfl]at h1;exact h1)
   clear hln;go_wp2_with fail;refine KS.out.mono ?_;rintro e w8 ⟨rfl,hb⟩;have a3:=kr a3 hb;have a1:=kr a1 hb;have a2:=kr a2 hb;have HB8:=bT HB7 hb;clear hb
   first
    |revert T4;intro T4
    |have heq:=HEQ.out
   go_wp2_with fail;go_ret;exact⟨rfl,HB8.out⟩
end Go.Proofs.Ytefkfglkpebbmac
