/- Walks of functions, and plain words. No conditions. -/
import Derived.Test.YtefkfglkpebbmaaGreatP41
import Derived.Test.YtefkfglkpebbmaaGreatP26
set_option linter.unusedVariables false
set_option linter.unusedSimpArgs false
set_option maxRecDepth 100000
set_option maxHeartbeats 40000000
namespace Go.Proofs.YtefkfglkpebbmaaGreat
open Go.RowKit
variable {Y:Prop}
variable {l:List Chk}
theorem DevIn.hear{w:World}{d:Dev}{L:DLoc}(h:DevIn w d L){A:OA}{c:Nat}(h1:l.length<=c)(h2:l.length<=2513169434843)(h3:Chs w A l):DevIn w {d with got:=l} {L with ag:=A,cg:=c}:=⟨h.k0,h.l0,h.b0,h.k1,h.l1,h.b1,h1,h2,h3,h.job,h.ir,h.id⟩
theorem chkAdd_all{c x:Chk}(h:x∈(chkAdd l c).1):x∈l∨x=c:=by
 unfold chkAdd at h;by_cases h1:chkList l≠0
 ·rw[if_pos h1]at h;simp at h
 rw[if_neg h1]at h;by_cases h2:chkCheck c≠0
 ·rw[if_pos h2]at h;simp at h
 rw[if_neg h2]at h;rcases l with _|⟨y,r⟩
 ·dsimp only at h;exact .inr (by simpa using h)
 dsimp only at h;by_cases h3:¬kin y c
 ·rw[if_pos h3]at h;exact .inr (by simpa using h)
 rw[if_neg h3]at h;by_cases h4:∃z∈y::r,z.n=c.n
 ·rw[if_pos h4]at h;exact .inl h
 rw[if_neg h4]at h;rcases List.mem_append.1 h with h|h
 ·exact .inl (List.mem_of_mem_take h)
 rcases List.mem_cons.1 h with h|h
 ·exact .inr h
 exact .inl (List.mem_of_mem_drop h)
theorem chkAdd_len{c:Chk}(h:(chkAdd l c).2=0):(chkAdd l c).1.length<=100:=by
 unfold chkAdd at h⊢;by_cases h1:chkList l≠0
 ·exact x4pw
 rw[if_neg h1]at h⊢;have hl:=chkList_len (Decidable.not_not.1 h1);by_cases h2:chkCheck c≠0
 ·exact x1va
 rw[if_neg h2]at h⊢;rcases l with _|⟨y,r⟩
 ·simp
 dsimp only;split
 ·simp
 split
 ·dsimp only;omega
 simp only[List.length_append,List.length_take,List.length_cons,List.length_drop]at hl⊢;omega
theorem Fresh.and{base:Nat}{w:World}{P Q:World->Prop}(h:Fresh base w P)(g:Fresh base w Q):Fresh base w (fun v=>P v∧Q v):=fun v hv=>⟨h v hv,g v hv⟩
theorem devHear_bad(d:Dev)(L:DLoc)(x:Chk)(B:OA)(e:Nat)(w:World)(h:DevIn w d L)(hx:ChkIn w x B e)(hne:devReady d≠0):Calls Tryz.prog 91 #[.agg (devA d L),.agg (chkA x.from_ x.to_ x.n x.of_ B x.data.length e)] w (DvRet w Dev.zero (devReady d)):=by
 have hba:Below w.heap.size w (((w.alloc (.cells (devA d L) 38)).alloc (.cells (chkA x.from_ x.to_ x.n x.of_ B x.data.length e) 61)).alloc (.cells (devA Dev.zero DLoc.zero) 38)):=(((bW w).alloc (by first|omega|(simp<;>omega)) (.cells (devA d L) 38)).alloc (by first|omega|(simp<;>omega)) (.cells (chkA x.from_ x.to_ x.n x.of_ B x.data.length e) 61)).alloc (by first|omega|(simp<;>omega)) (.cells (devA Dev.zero DLoc.zero) 38);have HBA:=qH hba;have HIN:=qH h;have KB:=qH (fun w h=>ready_bad d L w h hne);have q:(devReady d !=0)=true:=by simp[hne]
 generalize devReady d=n at *
 clear hne h hba;go_enter Tryz.func91,Tryz.ntmps91;go_wp2_with fail;refine(KB.out _ (HIN.out.stays HBA.out)).mono ?_;rintro e w1 ⟨rfl,hb1⟩;have a3:=kp (w.heap.size) (devA d L) hb1;have a1:=kp (w.heap.size+1) (chkA x.from_ x.to_ x.n x.of_ B x.data.length e) hb1;have a2:=kp (w.heap.size+1+1) (devA Dev.zero DLoc.zero) hb1;have HB1:=bT HBA hb1;clear hb1;exact x5r8
theorem devHear_ok(d:Dev)(L:DLoc)(x:Chk)(B:OA)(e:Nat)(w:World)(h:DevIn w d L)(hx:ChkIn w x B e)(hz:devReady d=0):Calls Tryz.prog 91 #[.agg (devA d L),.agg (chkA x.from_ x.to_ x.n x.of_ B x.data.length e)] w (DvRet w (devHear d x).1 (devHear d x).2):=by
 have hba:Below w.heap.size w (((w.alloc (.cells (devA d L) 38)).alloc (.cells (chkA x.from_ x.to_ x.n x.of_ B x.data.length e) 61)).alloc (.cells (devA Dev.zero DLoc.zero) 38)):=(((bW w).alloc (by first|omega|(simp<;>omega)) (.cells (devA d L) 38)).alloc (by first|omega|(simp<;>omega)) (.cells (chkA x.from_ x.to_ x.n x.of_ B x.data.length e) 61)).alloc (by first|omega|(simp<;>omega)) (.cells (devA Dev.zero DLoc.zero) 38);have HBA:=qH hba;have HIN:=qH h;have KR:=qH (fun w h=>ready_ok d L w h hz);have hdef:devHear d x=if d.busy=true then (Dev.zero,5)else if (chkAdd d.got x).2≠0 then (Dev.zero,(chkAdd d.got x).2)else ({d with got:=(chkAdd d.got x).1},0):=by unfold devHear;rw[if_neg (by omega)]
 have HLG:=qH h.lg;have HBD:Hid (∀y∈(chkAdd d.got x).1,ChkB y):=qH (fun y hy=>by
  rcases chkAdd_all hy with hy|hy
  ·exact h.got.bound y hy
  subst hy;exact⟨hx.len,hx.i0,hx.i1,hx.i2,hx.i3⟩)
 have HLN:Hid ((chkAdd d.got x).2=0->(chkAdd d.got x).1.length<=100):=qH (fun e=>chkAdd_len e);have HX:=qH hx;have K1:=qH (fun A c w h1 h2=>chkAdd_calls A B c e d.got x w HLG.out h1 h2);obtain⟨⟨l1,e1⟩,hq⟩:∃y,chkAdd d.got x=y:=⟨_,rfl⟩;rw[hq]at hdef HBD HLN K1;dsimp only at hdef;have HD:=qH hdef;generalize devHear d x=res at *
 clear hz h hba hdef hq hx;go_enter Tryz.func91,Tryz.ntmps91;go_wp2_with fail;refine(KR.out _ (HIN.out.stays HBA.out)).mono ?_;rintro e w1 ⟨L1,rfl,hfr,hb1⟩;have a3:=kp (w.heap.size) (devA d L) hb1;have a1:=kp (w.heap.size+1) (chkA x.from_ x.to_ x.n x.of_ B x.data.length e) hb1;have a2:=kp (w.heap.size+1+1) (devA Dev.zero DLoc.zero) hb1;have HFR:Hid (Fresh (w.heap.size+3) w1 (fun v=>DvOwn v (w.heap.size+3) d L1)):=qH (by simpa[Nat.add_assoc]using hfr);have HB1:=bT HBA hb1;have hsz1:w.heap.size+3<=w1.heap.size:=by have:=hb1.size;simp at this;omega
 have HK1:Hid (Kp (w.heap.size+3) w1 w1):=qH (Kp.refl _ _);clear hb1 hfr;by_cases c1:d.busy=true
 ·have hz:res=(Dev.zero,5):=HD.out.trans (if_pos c1);subst hz;exact x5r8
 have HD1:=qH (HD.out.trans (if_neg c1));have c1:d.busy=false:=by simpa using c1
 clear HD;go_wp2_with fail;refine(K1.out L1.ag L1.cg _ ?_ ?_).mono ?_
 ·refine(Fresh.kp (B:=w.heap.size+3) HFR.out ?_ nl (by first|omega|(simp<;>omega))).now.devIn.got;exact x84a
 ·refine HX.out.stays ?_;exact bZ HB1
 rintro en w2 ⟨A1,c2,ds,rfl,hrow,heach,hb⟩;have HS1:Hid (w1.heap.size+1<=w2.heap.size):=qH (by have:=hb.size;simpa using this);have a3:=kp (w.heap.size) (devA d L1) hb;have a1:=kp (w.heap.size+1+1) (devA Dev.zero DLoc.zero) hb;have hbs1:=hb.size;have hsz2:w1.heap.size<=w2.heap.size:=by first|omega|(simp at hbs1;omega)
 have HK2:Hid (Kp (w.heap.size+3) w1 w2):=qH (by
  refine Kp.below ?_ (by first|omega|(simp<;>omega)) hb;exact x84a)
 have HB2:=bU HB1 hb;clear hb hbs1;have HGR:Hid (Fresh (w1.heap.size+1) w2 (fun v=>GRow kChk v (w1.heap.size+1) l1 ds A1 c2)):=qH (by
  have h1:=hrow.fresh heach;simpa using h1)
 have HC1:=qH hrow.row.le;have hsz3:w1.heap.size+1<=w2.heap.size:=HS1.out;clear hrow heach;by_cases c2':e1≠0
 ·have hz:res=(Dev.zero,e1):=HD1.out.trans (if_pos c2');subst hz;have q:(e1 !=0)=true:=by simp[c2']
  clear c2';exact x2uc
 have c2':=Decidable.not_not.1 c2';subst c2';have hz:res=({d with got:=l1},0):=HD1.out.trans (if_neg (by decide));subst hz;have HL1:Hid (l1.length<=2513169434843):=qH (by have:=HLN.out rfl;omega);clear HLN HD1;go_wp2_with fail;refine bodyPost_ret (rC (devA {d with got:=l1} {L1 with ag:=A1,cg:=c2})) rfl ⟨{L1 with ag:=A1,cg:=c2},rfl,?_,?_⟩
 ·refine Fresh.imp (P:=fun v=>DvOwn v (w.heap.size+3) d L1∧GRow kChk v (w1.heap.size+1) l1 ds A1 c2) (Fresh.and (Fresh.kp HFR.out ?_ (by omega) (by first|omega|(simp<;>omega))) (Fresh.kp HGR.out ?_ (by omega) (by first|omega|(simp<;>omega)))) (fun v hv=>hv.1.devIn.hear HC1.out HL1.out (hv.2.src.chs HBD.out))
  ·exact x9su
  ·exact x9su
 exact bZ HB2
theorem devHear_calls(d:Dev)(L:DLoc)(x:Chk)(B:OA)(e:Nat)(w:World)(h:DevIn w d L)(hx:ChkIn w x B e):Calls Tryz.prog 91 #[.agg (devA d L),.agg (chkA x.from_ x.to_ x.n x.of_ B x.data.length e)] w (DvRet w (devHear d x).1 (devHear d x).2):=by
 by_cases hz:devReady d=0
 ·exact devHear_ok d L x B e w h hx hz
 have e1:devHear d x=(Dev.zero,devReady d):=by unfold devHear;rw[if_pos hz]
 rw[e1];exact devHear_bad d L x B e w h hx hz
end Go.Proofs.YtefkfglkpebbmaaGreat
