/- Walks of functions, and plain words. No conditions. -/
import Derived.Test.YtefkfglkpebbmacPE3
import Derived.Test.YtefkfglkpebbmacP4
import Derived.ArgAppend
set_option linter.unusedVariables false
set_option linter.unusedSimpArgs false
set_option maxRecDepth 100000
set_option maxHeartbeats 40000000
namespace Go.Proofs.Ytefkfglkpebbmac
open Go.RowKit
variable {Y:Prop}
variable {w w0:World} {l:List Chk} {A:OA} {c base n:Nat} {xs:List Value} {cv:Nat->Value} {a:Act} {K:Act->World->Prop} {Q:Exit->Act->World->Prop}
theorem DevIn.hear{d:Dev}{L:DLoc}(h:DevIn w d L)(h1:l.length<=c)(h2:l.length<=2513169434843)(h3:Chs w A l):DevIn w {d with got:=l} {L with ag:=A,cg:=c}:=⟨h.k0,h.l0,h.b0,h.k1,h.l1,h.b1,h1,h2,h3,h.job,h.ir,h.id⟩
theorem chkAdd_all{c x:Chk}(h:x∈(chkAdd l c).1):x∈l∨x=c:=by
 unfold chkAdd at h;by_cases h1:chkList l≠0
 ·rw[if_pos h1]at h;simp at h
 rw[if_neg h1]at h;by_cases h2:chkCheck c≠0
 ·rw[if_pos h2]at h;simp at h
 rw[if_neg h2]at h;rcases l with _|⟨y,r⟩
 ·dsimp only at h;exact .inr (by simpa using h)
 dsimp only at h;by_cases h3:¬kin y c
 ·rw[if_pos h3]at h;exact .inr (by simpa using h)
 rw[if_neg h3]at h;by_cases h4:∃z∈y::r,z.n=c.n
 ·rw[if_pos h4]at h;exact .inl h
 rw[if_neg h4]at h;rcases List.mem_append.1 h with h|h
 ·exact .inl (List.mem_of_mem_take h)
 rcases List.mem_cons.1 h with h|h
 ·exact .inr h
 exact .inl (List.mem_of_mem_drop h)
theorem chkAdd_len{c:Chk}(h:(chkAdd l c).2=0):(chkAdd l c).1.length<=100:=by
 unfold chkAdd at h⊢;by_cases h1:chkList l≠0
 ·exact x4pw
 rw[if_neg h1]at h⊢;have hl:=chkList_len (Decidable.not_not.1 h1);by_cases h2:chkCheck c≠0
 ·exact x1va
 rw[if_neg h2]at h⊢;rcases l with _|⟨y,r⟩
 ·simp
 dsimp only;split
 ·simp
 split
 ·dsimp only;omega
 simp only[List.length_append,List.length_take,List.length_cons,List.length_drop]at hl⊢;omega
theorem Fresh.and{P Q:World->Prop}(h:Fresh base w P)(g:Fresh base w Q):Fresh base w (fun v=>P v∧Q v):=fun v hv=>⟨h v hv,g v hv⟩
theorem devHear_bad(d:Dev)(L:DLoc)(x:Chk)(B:OA)(e:Nat)(w:World)(h:DevIn w d L)(hx:ChkIn w x B e)(hne:devReady d≠0):Calls Try.prog 55 #[.agg (devA d L),.agg (chkA x.from_ x.to_ x.n x.of_ B x.data.length e)] w (DvRet w Dev.zero (devReady d)):=by
 have hba:Below w.heap.size w (((w.alloc (.cells (devA d L) 71)).alloc (.cells (chkA x.from_ x.to_ x.n x.of_ B x.data.length e) 49)).alloc (.cells (devA Dev.zero DLoc.zero) 71)):=(((bW w).alloc (by first|omega|(simp<;>omega)) (.cells (devA d L) 71)).alloc (by first|omega|(simp<;>omega)) (.cells (chkA x.from_ x.to_ x.n x.of_ B x.data.length e) 49)).alloc (by first|omega|(simp<;>omega)) (.cells (devA Dev.zero DLoc.zero) 71);have HBA:=qH hba;have HIN:=qH h;have KB:=qH (fun w h=>ready_bad d L w h hne);have q:(devReady d !=0)=true:=by simp[hne]
 generalize devReady d=n at *
 clear hne h hba;go_enter Try.func55,Try.ntmps55;go_wp2_with fail;refine(KB.out _ (HIN.out.stays HBA.out)).mono ?_;rintro e w1 ⟨rfl,hb1⟩;have a3:=kp (w.heap.size) (devA d L) hb1;have a1:=kp (w.heap.size+1) (chkA x.from_ x.to_ x.n x.of_ B x.data.length e) hb1;have a2:=kp (w.heap.size+1+1) (devA Dev.zero DLoc.zero) hb1;have HB1:=bT HBA hb1;clear hb1;exact x5r8
theorem devHear_ok(d:Dev)(L:DLoc)(x:Chk)(B:OA)(e:Nat)(w:World)(h:DevIn w d L)(hx:ChkIn w x B e)(hz:devReady d=0):Calls Try.prog 55 #[.agg (devA d L),.agg (chkA x.from_ x.to_ x.n x.of_ B x.data.length e)] w (DvRet w (devHear d x).1 (devHear d x).2):=by
 have hba:Below w.heap.size w (((w.alloc (.cells (devA d L) 71)).alloc (.cells (chkA x.from_ x.to_ x.n x.of_ B x.data.length e) 49)).alloc (.cells (devA Dev.zero DLoc.zero) 71)):=(((bW w).alloc (by first|omega|(simp<;>omega)) (.cells (devA d L) 71)).alloc (by first|omega|(simp<;>omega)) (.cells (chkA x.from_ x.to_ x.n x.of_ B x.data.length e) 49)).alloc (by first|omega|(simp<;>omega)) (.cells (devA Dev.zero DLoc.zero) 71);have HBA:=qH hba;have HIN:=qH h;have KR:=qH (fun w h=>ready_ok d L w h hz);have hdef:devHear d x=if d.busy=true then (Dev.zero,5)else if (chkAdd d.got x).2≠0 then (Dev.zero,(chkAdd d.got x).2)else ({d with got:=(chkAdd d.got x).1},0):=by unfold devHear;rw[if_neg (by omega)]
 have HLG:=qH h.lg;have HBD:Hid (∀y∈(chkAdd d.got x).1,ChkB y):=qH (fun y hy=>by
  rcases chkAdd_all hy with hy|hy
  ·exact h.got.bound y hy
  subst hy;exact⟨hx.len,hx.i0,hx.i1,hx.i2,hx.i3⟩)
 have HLN:Hid ((chkAdd d.got x).2=0->(chkAdd d.got x).1.length<=100):=qH (fun e=>chkAdd_len e);have HX:=qH hx;have K1:=qH (fun A c w h1 h2=>chkAdd_calls A B c e d.got x w HLG.out h1 h2);obtain⟨⟨l1,e1⟩,hq⟩:∃y,chkAdd d.got x=y:=⟨_,rfl⟩;rw[hq]at hdef HBD HLN K1;dsimp only at hdef;have HD:=qH hdef;generalize devHear d x=res at *
 clear hz h hba hdef hq hx;go_enter Try.func55,Try.ntmps55;go_wp2_with fail;refine(KR.out _ (HIN.out.stays HBA.out)).mono ?_;rintro e w1 ⟨L1,rfl,hfr,hb1⟩;have a3:=kp (w.heap.size) (devA d L) hb1;have a1:=kp (w.heap.size+1) (chkA x.from_ x.to_ x.n x.of_ B x.data.length e) hb1;have a2:=kp (w.heap.size+1+1) (devA Dev.zero DLoc.zero) hb1;have HFR:Hid (Fresh (w.heap.size+3) w1 (fun v=>DvOwn v (w.heap.size+3) d L1)):=qH (by simpa[Nat.add_assoc]using hfr);have HB1:=bT HBA hb1;have hsz1:w.heap.size+3<=w1.heap.size:=by have:=hb1.size;simp at this;omega
 have HK1:Hid (Kp (w.heap.size+3) w1 w1):=qH (Kp.refl _ _);clear hb1 hfr;by_cases c1:d.busy=true
 ·have hz:res=(Dev.zero,5):=HD.out.trans (if_pos c1);subst hz;exact x5r8
 have HD1:=qH (HD.out.trans (if_neg c1));have c1:d.busy=false:=by simpa using c1
 clear HD;go_wp2_with fail;refine(K1.out L1.ag L1.cg _ ?_ ?_).mono ?_
 ·refine(Fresh.kp (B:=w.heap.size+3) HFR.out ?_ nl (by first|omega|(simp<;>omega))).now.devIn.got;exact x84a
 ·refine HX.out.stays ?_;exact bZ HB1
 rintro en w2 ⟨A1,c2,ds,rfl,hrow,heach,hb⟩;have HS1:Hid (w1.heap.size+1<=w2.heap.size):=qH (by have:=hb.size;simpa using this);have a3:=kp (w.heap.size) (devA d L1) hb;have a1:=kp (w.heap.size+1+1) (devA Dev.zero DLoc.zero) hb;have hbs1:=hb.size;have hsz2:w1.heap.size<=w2.heap.size:=by first|omega|(simp at hbs1;omega)
 have HK2:Hid (Kp (w.heap.size+3) w1 w2):=qH (by
  refine Kp.below ?_ (by first|omega|(simp<;>omega)) hb;exact x84a)
 have HB2:=bU HB1 hb;clear hb hbs1;have HGR:Hid (Fresh (w1.heap.size+1) w2 (fun v=>GRow kChk v (w1.heap.size+1) l1 ds A1 c2)):=qH (by
  have h1:=hrow.fresh heach;simpa using h1)
 have HC1:=qH hrow.row.le;have hsz3:w1.heap.size+1<=w2.heap.size:=HS1.out;clear hrow heach;by_cases c2':e1≠0
 ·have hz:res=(Dev.zero,e1):=HD1.out.trans (if_pos c2');subst hz;have q:(e1 !=0)=true:=by simp[c2']
  clear c2';exact x2uc
 have c2':=Decidable.not_not.1 c2';subst c2';have hz:res=({d with got:=l1},0):=HD1.out.trans (if_neg (by decide));subst hz;have HL1:Hid (l1.length<=2513169434843):=qH (by have:=HLN.out rfl;omega);clear HLN HD1;go_wp2_with fail;refine bodyPost_ret (rC (devA {d with got:=l1} {L1 with ag:=A1,cg:=c2})) rfl ⟨{L1 with ag:=A1,cg:=c2},rfl,?_,?_⟩
 ·refine Fresh.imp (P:=fun v=>DvOwn v (w.heap.size+3) d L1∧GRow kChk v (w1.heap.size+1) l1 ds A1 c2) (Fresh.and (Fresh.kp HFR.out ?_ (by omega) (by first|omega|(simp<;>omega))) (Fresh.kp HGR.out ?_ (by omega) (by first|omega|(simp<;>omega)))) (fun v hv=>hv.1.devIn.hear HC1.out HL1.out (hv.2.src.chs HBD.out))
  ·exact x9su
  ·exact x9su
 exact bZ HB2
theorem devHear_calls(d:Dev)(L:DLoc)(x:Chk)(B:OA)(e:Nat)(w:World)(h:DevIn w d L)(hx:ChkIn w x B e):Calls Try.prog 55 #[.agg (devA d L),.agg (chkA x.from_ x.to_ x.n x.of_ B x.data.length e)] w (DvRet w (devHear d x).1 (devHear d x).2):=by
 by_cases hz:devReady d=0
 ·exact devHear_ok d L x B e w h hx hz
 have e1:devHear d x=(Dev.zero,devReady d):=by unfold devHear;rw[if_pos hz]
 rw[e1];exact devHear_bad d L x B e w h hx hz
theorem patMake_fit(A B:OA)(c d:Nat)(fr to_:Int)(old b:LU)(w:World)(hf:I64 fr)(ht:I64 to_)(ho:old.length<=64)(hl:b.length<=64)(hA:Bts w A old)(hB:Bts w B b):
  Calls Try.prog 24 #[iv fr,iv to_,.slice A old.length c,.slice B b.length d] w (PaRet w (patMake (sumOn 1) fr to_ old b).1 (patMake (sumOn 1) fr to_ old b).2):=by
 have K1:=qH (fun w h1 h2=>diff3_calls A B c d old b w ho hl h1 h2);have K2:=qH (fun w h=>sumOf_calls A c old w (by omega) h);have K3:=qH (fun w h=>sumOf_calls B d b w (by omega) h);have hs1:=sumOn_bd 1 old (by omega);have hs1:=sumOn_bd 1 b (by omega);have hdl:(diffed old b).length<=40:=(diffed_ok old b ho hl).many;have HM:Hid ((patMake (sumOn 1) fr to_ old b)=if patCheck ⟨fr,to_,sumOn 1 old,sumOn 1 b,b.length,diffed old b⟩≠0 then (Pat.zero,patCheck ⟨fr,to_,sumOn 1 old,sumOn 1 b,b.length,diffed old b⟩)else (⟨fr,to_,sumOn 1 old,sumOn 1 b,b.length,diffed old b⟩,0)):=qH (by
  unfold patMake;rw[if_neg (by omega)])
 generalize sumOn 1 old=s1 at *
 generalize sumOn 1 b=s2 at *
 generalize diffed old b=l at *
 have HA:=qH hA;have HB:=qH hB;have HI:Hid (I64 fr∧I64 to_):=qH ⟨hf,ht⟩;clear hA hB hf ht;generalize patMake (sumOn 1) fr to_ old b=r at *
 go_enter Try.func24,Try.ntmps24;go_wp2_with fail;have hba:=(bW w).alloc nl (.cells (patA 0 0 0 0 0 none 0 0) 35);refine(K1.out _ (HA.out.stays hba) (HB.out.stays hba)).mono ?_;rintro e w1 ⟨A1,c1,rfl,hsp,hc1,hb1⟩;have a1:=kp (w.heap.size) (patA 0 0 0 0 0 none 0 0) hb1;have HB1:=qH (hba.trans (hb1.mono (by simp)));have HSP:=qH hsp;clear hb1 hba hsp;go_wp2_with fail;refine(K2.out _ (HA.out.stays HB1.out)).mono ?_;rintro e w2 ⟨rfl,rfl⟩;go_wp2_with fail;refine(K3.out _ (HB.out.stays HB1.out)).mono ?_;rintro e w2 ⟨rfl,rfl⟩;go_wp2_with fail;have hba:=(bW w1).alloc nl (.cells (patA fr to_ s1 s2 b.length A1 l.length c1) 35);have HS1:=qH (HSP.out.below hba nl);refine(patCheck_calls A1 c1 fr to_ s1 s2 b.length l _ (by omega) HS1.out.now).mono ?_;rintro e w2 ⟨rfl,hb1⟩;have b2:=kp (w.heap.size) (patA 0 0 0 0 0 none 0 0) hb1;have b1:=kp (w1.heap.size) (patA fr to_ s1 s2 b.length A1 l.length c1) hb1;have HB1:Hid (Below w.heap.size w w2):=qH ((HB1.out.alloc HB1.out.size _).trans (hb1.mono (by have:=HB1.out.size;simp;omega)));have HS1:=qH (HS1.out.below hb1 nl);have HPI:Hid (Fresh (w.heap.size+1) w2 (fun v=>PatIn v ⟨fr,to_,s1,s2,b.length,l⟩ A1 c1)):=qH (Fresh.imp (by simpa using HS1.out) fun v hv=>⟨hc1,by dsimp only;omega,hv,HI.out.1,HI.out.2,⟨by dsimp only;omega,by dsimp only;omega⟩,⟨by dsimp only;omega,by dsimp only;omega⟩,⟨by dsimp only;omega,by dsimp only;omega⟩⟩);clear hb1 hba;by_cases hz:patCheck ⟨fr,to_,s1,s2,b.length,l⟩=0
 ·have hr:r=(⟨fr,to_,s1,s2,b.length,l⟩,0):=by rw[HM.out,if_neg (by simpa using hz)]
  have HR:=qH hr;clear hr;go_wp2_with fail;refine bodyPost_ret (rC (patA fr to_ s1 s2 b.length A1 l.length c1)) rfl ?_;rw[HR.out];exact⟨A1,c1,rfl,(HPI.out.row (by omega) _).mono (by omega),below_row HB1.out (by omega) _⟩
 have hr:r=(Pat.zero,patCheck ⟨fr,to_,s1,s2,b.length,l⟩):=by rw[HM.out,if_pos hz]
 have hq:(patCheck ⟨fr,to_,s1,s2,b.length,l⟩ !=0)=true:=by simp[hz]
 have HR:=qH hr;clear hr hz;generalize patCheck ⟨fr,to_,s1,s2,b.length,l⟩=e1 at *
 go_wp2_with fail;refine bodyPost_ret (rC (patA 0 0 0 0 0 none 0 0)) rfl ?_;rw[HR.out];exact⟨none,0,rfl,.const fun v=>patIn_zero v,below_row HB1.out (by omega) _⟩
theorem x9b4(h:Y:=by
 have fr:=ptJ_frame hJ;have hg1:=(fr.2 g hglt hgC).trans HG.out;have hc:wq.cell? ⟨g,2,none⟩=some (.slice D data.length dc):=by rw[cell_of_row _ _ _ _ _ _ hg1];rfl
 go_simp):Y:=h
def ptJ(w0:World)(base:Nat)(A:OA)(n c:Nat)(xs ns ps:List Value)(i5 i6 i9 i10:Nat)(done:Nat->Bool)(cv:Nat->Value)(w:World):Prop:=
 if done i9=true then (Below base w0 w∧∀k,k<w0.heap.size->A.map (·.block)≠some k->w.heap[k]?=w0.heap[k]?)∧∃A2 c2,cv i9=.slice A2 (n+2+ps.length) c2∧Own w base 5 1 A2 (n+2+ps.length) c2 (xs++ns++ps)∧(done i10=true->cv i10=.slice A2 (n+2+ps.length) c2)
 else if done i6=true then (Below base w0 w∧∀k,k<w0.heap.size->A.map (·.block)≠some k->w.heap[k]?=w0.heap[k]?)∧∃A1 c1,cv i6=.slice A1 (n+2) c1∧Own w base 5 1 A1 (n+2) c1 (xs++ns)∧(A1.map (·.block)=A.map (·.block)∨∀k,A1.map (·.block)=some k->w0.heap.size<=k)
 else if done i5=true then (Below base w0 w∧∀k,k<w0.heap.size->A.map (·.block)≠some k->w.heap[k]?=w0.heap[k]?)∧Own w base 5 1 A n c xs∧∃bb,cv i5=.slice (some ⟨bb,0,none⟩) 2 2∧w.heap[bb]?=some (.cells ns.toArray 5 (0,0))∧w0.heap.size<=bb
 else w=w0.drew
theorem ptJ_frame{i5 i6 i9 i10:Nat}{ns ps:List Value}{done:Nat->Bool}(h:ptJ w0 base A n c xs ns ps i5 i6 i9 i10 done cv w):Below base w0 w∧∀k,k<w0.heap.size->A.map (·.block)≠some k->w.heap[k]?=w0.heap[k]?:=by
 unfold ptJ at h;split at h
 ·exact h.1
 split at h
 ·exact h.1
 split at h
 ·exact h.1
 subst h;exact⟨(Below.refl _ _).drew,fun _ _ _=>rfl⟩
theorem wp_sb2i{t:TypeId}{p:String}{af:Array Edge}{gd:Option (Nat×Bool)}{d r:Tmp}{m:Int}(hr:a.tmps[r]?=some (.int .u8 m))
  (h:K (a.put (some d) (.slice (some ⟨w.heap.size,0,none⟩) 2 2)) (w.alloc (.cells #[.int .u8 255,.int .u8 m] 5))):
  Oper.wp Try.prog ⟨some d,.buildSlice 22 2 #[(0,.const (.int .u8 255)),(1,.tmp r)],t,p,af,gd⟩ a w K Q:=by
 have e1:a.eval (.const (.int .u8 255))=.int .u8 255:=rfl;have e2:a.eval (.tmp r)=.int .u8 m:=by simp[Act.eval,hr]
 exact x9nx
theorem bts_same{w':World}{l:LU}(h:Bts w A l)(hk:∀k,A.map (·.block)=some k->k<w.heap.size->w'.heap[k]?=w.heap[k]?):Bts w' A l:=by
 intro i hi;obtain⟨b,o,rfl,hlt,hc⟩:=h i hi;have e:=hk b rfl hlt;refine⟨b,o,rfl,?_,(World.cell?_of_block e).trans hc⟩;rcases Nat.lt_or_ge b w'.heap.size with h|h
 ·exact h
 rw[Array.getElem?_eq_none h,Array.getElem?_eq_getElem hlt]at e;cases e
theorem own_blk{e g:Nat}{cs:List Value}(h:w.heap[g]?=some (.cells cs.toArray e (0,0)))(hb:base<=g)(hl:cs.length=n)(hn:n<=140737488351232):Own w base e 1 (some ⟨g,0,none⟩) n n cs:=
 ⟨by omega,Or.inr ⟨g,n,_,rfl,hb,h,nl,by unfold maxLen;omega,by simp;omega,by simp[<-hl]⟩⟩
theorem patPut_bad(B:OA)(d:Nat)(p:Pat)(w:World)(hp:PatIn w p B d)(h:patCheck p≠0):
  Calls Try.prog 97 #[.agg (patA p.from_ p.to_ p.old p.new_ p.size B p.ops.length d)] w (RetB w (.tuple #[.slice none 0 0,iv (patCheck p)])):=by
 obtain⟨f,t,o,n,sz,l⟩:=p;obtain⟨hcap,hlen,hops,-,-,-,-,-⟩:=hp;dsimp only at *
 have hba:=(bW w).alloc nl (.cells (patA f t o n sz B l.length d) 35);have K1:=qH (patCheck_calls B d f t o n sz l _ hlen (hops.stays hba));generalize patCheck ⟨f,t,o,n,sz,l⟩=ck at *
 have q:(ck !=0)=true:=by simp[h]
 clear hops h;go_enter Try.func97,Try.ntmps97;go_wp2_with fail;refine K1.out.mono ?_;rintro e w1 ⟨rfl,hb1⟩;go_wp2_with fail;go_ret2;exact⟨rfl,hba.trans (hb1.mono (by simp))⟩
theorem patPut_ok(B:OA)(d:Nat)(p:Pat)(w:World)(hp:PatIn w p B d)(h:patCheck p=0):
  Calls Try.prog 97 #[.agg (patA p.from_ p.to_ p.old p.new_ p.size B p.ops.length d)] w (UnRet w (patBytes p,0)):=by
 have hl1:=patBytes_len h;obtain⟨hr,hd⟩:=patCheck_ok.1 h;have HPB:Hid (patBytes p=patHead p++opsBytes p.ops):=qH rfl;obtain⟨f,t,o,n,sz,l⟩:=p;obtain⟨hcap,hlen,hops,-,-,-,-,-⟩:=hp;unfold Pat.range at hr;dsimp only at *
 obtain⟨r1,r2,r3,r4,r5,r6,r7,r8⟩:=hr;have r1:=hd.s0;have r1:=hd.s1;have r1:=hd.many;have hba:=(bW w).alloc nl (.cells (patA f t o n sz B l.length d) 35);have K1:=qH (patCheck_calls B d f t o n sz l _ hlen (hops.stays hba));rw[h]at K1;have HD:=qH hd;have HS:=qH hops;have HBA:=qH hba;clear hops hd h hba;go_enter Try.func97,Try.ntmps97;go_wp2_with fail;refine K1.out.mono ?_;rintro e w1 ⟨rfl,hb1⟩;have a1:=kp (w.heap.size) (patA f t o n sz B l.length d) hb1;have HB1:=bT HBA hb1;clear hb1 K1;go_wp2_with fail;generalize hbase:w.heap.size=base at *
 have HBE:=qH hbase;have hsw1:=HB1.out.size;have hlw1:base<=w1.heap.size:=by omega
 have hhd:((patHead ⟨f,t,o,n,sz,l⟩).map bv)=[.int .u8 f,.int .u8 t,.int .u8 (o / 256),.int .u8 (o%256),.int .u8 (n / 256),.int .u8 (n%256),.int .u8 sz,.int .u8 (l.length:Int)]:=by
  unfold patHead;simp only[List.map_cons,List.map_nil];rw[bv_by f (by omega),bv_by t (by omega),bv_by (o / 256) (by omega),bv_by2 o,bv_by (n / 256) (by omega),bv_by2 n,bv_by sz (by omega),bv_by (l.length:Int) (by omega)]
 have hot:=own_blk (w:=w1.alloc (.cells #[.int .u8 f,.int .u8 t,.int .u8 (o / 256),.int .u8 (o%256),.int .u8 (n / 256),.int .u8 (n%256),.int .u8 sz,.int .u8 (l.length:Int)] 5)) (base:=base) (g:=w1.heap.size) (n:=8) (cs:=[.int .u8 f,.int .u8 t,.int .u8 (o / 256),.int .u8 (o%256),.int .u8 (n / 256),.int .u8 (n%256),.int .u8 sz,.int .u8 (l.length:Int)]) (blk_top rfl) hlw1 rfl (by decide);have hot1:=hot;have HOT:Hid (Own (w1.alloc (.cells #[.int .u8 f,.int .u8 t,.int .u8 (o / 256),.int .u8 (o%256),.int .u8 (n / 256),.int .u8 (n%256),.int .u8 sz,.int .u8 (l.length:Int)] 5)) base 5 1 (some ⟨w1.heap.size,0,none⟩) 8 8 ((patHead ⟨f,t,o,n,sz,l⟩).map bv)):=qH (by rw[hhd];exact hot1);have HB2:Hid (Below base w (w1.alloc (.cells #[.int .u8 f,.int .u8 t,.int .u8 (o / 256),.int .u8 (o%256),.int .u8 (n / 256),.int .u8 (n%256),.int .u8 sz,.int .u8 (l.length:Int)] 5))):=qH (HB1.out.alloc hlw1 _);clear hhd hot hot1 a1;have hph1:(patHead ⟨f,t,o,n,sz,l⟩).length=8:=rfl;have HP1:=qH hph1;clear hph1;generalize patHead ⟨f,t,o,n,sz,l⟩=hd at *
 generalize patBytes ⟨f,t,o,n,sz,l⟩=pb at *
 go_loopw [5,44] (fun v i wr=>∃(k:Nat) (C:OA) (cc:Nat) (pre:LU),k<=l.length∧i=iv k∧v=.slice C pre.length cc∧Hid (pre=hd++opsBytes (l.take k))∧Hid (Own wr base 5 1 C pre.length cc (pre.map bv))∧Hid (Below base w wr)) (fun _ i _=>l.length-(intOf i).toNat)
 case atStart=>exact⟨0,_,8,hd,Nat.zero_le _,rfl,by rw[HP1.out],qH (by simp[opsBytes]),by rw[HP1.out];exact HOT,HB2⟩
 case round=>
  clear HOT HB2 HB1 HBA;rename World=>wz;obtain⟨k,C,cc,pre,hk,rfl,rfl,HPRE,HO1,HB1⟩:=hrel;have hbz:base<=wz.heap.size:=Nat.le_trans (Nat.le_of_eq HBE.out.symm) HB1.out.size;have hpl:pre.length+(opsBytes (l.drop k)).length=pb.length:=by
   rw[HPB.out,HPRE.out,<-List.length_append,List.append_assoc,<-opsBytes_append,List.take_append_drop]
  by_cases hlt:k<l.length
  ·have hxo:=HD.out.each l[k] (List.getElem_mem hlt);have hbw:Below w.heap.size w wz:=HBE.out▸HB1.out;obtain⟨sb,so,D,dc,rfl,hsb,q3,q1,q2,p3,p4,p5,-,-⟩:=HS.out.at_ hlt;have p6:=(hbw.cell (p:=⟨sb,so+k*3,none⟩) hsb).trans q3;have p1:=(hbw.cell (p:=⟨sb,so+k*3+1,none⟩) hsb).trans q1;have p2:=(hbw.cell (p:=⟨sb,so+k*3+2,none⟩) hsb).trans q2;clear q3 q1 q2;have hpre1:hd++opsBytes (l.take (k+1))=pre++stpBytes l[k]:=by rw[List.take_succ_eq_append_getElem hlt,opsBytes_append,opsBytes_one,<-List.append_assoc,<-HPRE.out]
   have hdrop:l.drop k=l[k]::l.drop (k+1):=List.drop_eq_getElem_cons hlt;rw[hdrop,opsBytes_cons,List.length_append]at hpl;obtain⟨x,hx⟩:=eX (l[k]);rw[hx]at hxo hpre1 hpl p6 p1 p2 p3 p4 p5;clear hx hdrop;obtain⟨at_,len,data⟩:=x;obtain⟨hform,hin⟩:=hxo;unfold Stp.in_ at hin;dsimp only at *
   obtain⟨j1,j2,j3⟩:=hin;have HDT1:=qH (p5.stays hbw);have HDW:=qH p5;clear hbw;have HPRE1:=qH hpre1;have dl:decide ((k:Int)<(l.length:Int))=true:=decide_eq_true (by omega);have hwk:IntKind.i64.wrap ((k:Int)+1)=(k:Int)+1:=IntWalk.i64_in _ (by omega);clear p5 hpre1;by_cases hl1:0<len
   ·have hst:stpBytes ⟨at_,len,data⟩=[by_ at_,by_ len]:=by unfold stpBytes;rw[if_pos hl1]
    rw[hst]at HPRE1 hpl;have hj1:at_<=64:=by omega
    have hj1:len<=64:=by omega
    have HBV:Hid (([by_ at_,by_ len]:List UInt8).map bv=[.int .u8 at_,.int .u8 len]):=qH (by simp only[List.map_cons,List.map_nil];rw[bv_by at_ (by omega),bv_by len (by omega)]);have hoa:=(HO1.out.alloc (.cells #[iv at_,iv len,.slice D data.length dc] 117)).alloc (.cells #[.int .u8 at_,.int .u8 len] 5);have hs1:Src ((wz.alloc (.cells #[iv at_,iv len,.slice D data.length dc] 117)).alloc (.cells #[.int .u8 at_,.int .u8 len] 5)) (some ⟨wz.heap.size+1,0,none⟩) [.int .u8 at_,.int .u8 len]:=src_blk (blk_top (by simp));have hob:pre.length+2<=137438953472:=by omega
    have hle:base<=((wz.alloc (.cells #[iv at_,iv len,.slice D data.length dc] 117)).alloc (.cells #[.int .u8 at_,.int .u8 len] 5)).heap.size:=by simp;omega
    clear hst hform hpl;go_wp2_with (at_builtin;go_must (refine wpList_app ((wz.alloc (.cells #[iv at_,iv len,.slice D data.length dc] 117)).alloc (.cells #[.int .u8 at_,.int .u8 len] 5)) rfl _ _ 22 rfl elBytes base C pre.length cc (pre.map bv) rfl hoa (some ⟨wz.heap.size+1,0,none⟩) 2 2 [.int .u8 at_,.int .u8 len] rfl hs1 rfl (by simp[Value.oneCell']) hob hle ?_;intro C1 c1 w2 hown hgr hbel hor));have HB1:Hid (Below base w w2):=qH (((HB1.out.alloc hbz _).alloc (by simp;omega) _).trans hbel);have HL:Hid (pre.length+2=(pre++[by_ at_,by_ len]).length):=qH (by simp);have HO1:Hid (Own w2 base 5 1 C1 (pre++[by_ at_,by_ len]).length c1 ((pre++[by_ at_,by_ len]).map bv)):=qH (by rw[List.map_append,HBV.out,<-HL.out];exact hown);clear hown hgr hbel hor hoa hs1 hob hle;go_roundw
    case rel=>exact⟨k+1,C1,c1,pre++[by_ at_,by_ len],by omega,by go_num,by rw[HL.out],qH HPRE1.out.symm,HO1,HB1⟩
    case measure=>simp[intOf];omega
   obtain rfl:len=0:=by omega
   obtain⟨rfl,hd1,hd2⟩:=hform.1 rfl;have hst:stpBytes ⟨0,0,data⟩=255::by_ data.length::data:=by unfold stpBytes;rw[if_neg (by simp)]
   rw[hst]at HPRE1 hpl;simp only[List.length_cons]at hpl;have hdl:data.length<=64:=hd2;have HU1:Hid (IntKind.u8.wrap (data.length:Int)=(data.length:Int)):=qH (by unfold IntKind.wrap;simp[IntKind.signed,IntKind.bits];omega);have HBV:Hid ((255::by_ data.length::data:LU).map bv=[.int .u8 255,.int .u8 (data.length:Int)]++data.map bv):=qH (by simp only[List.map_cons];rw[bv_by (data.length:Int) (by omega)];rfl);have HG:Hid ((wz.alloc (.cells #[iv 0,iv 0,.slice D data.length dc] 117)).heap[wz.heap.size]?=some (.cells #[iv 0,iv 0,.slice D data.length dc] 117 (0,0))):=qH (blk_top rfl);have HO:Hid (Own (wz.alloc (.cells #[iv 0,iv 0,.slice D data.length dc] 117)) base 5 1 C pre.length cc (pre.map bv)):=qH (HO1.out.alloc _);have HBo:Hid (Below base w (wz.alloc (.cells #[iv 0,iv 0,.slice D data.length dc] 117))):=qH (HB1.out.alloc hbz _);have HDT:Hid (Bts (wz.alloc (.cells #[iv 0,iv 0,.slice D data.length dc] 117)) D data):=qH (HDT1.out.stays (bL _));have hgC:C.map (·.block)≠some wz.heap.size:=fun e=>by have:=(HO1.out.block _ e).2;omega
   have hglt:wz.heap.size<(wz.alloc (.cells #[iv 0,iv 0,.slice D data.length dc] 117)).heap.size:=by simp
   have hbo:base<=(wz.alloc (.cells #[iv 0,iv 0,.slice D data.length dc] 117)).heap.size:=by simp;omega
   have HDC:Hid (∀k,D.map (·.block)=some k->C.map (·.block)≠some k):=qH (by
    intro q hq e;have h1:=(HO1.out.block q e).1;obtain⟨b',o',e1,h1,_⟩:=HDW.out 0 (List.length_pos_iff.2 hd1);rw[e1]at hq;have hq:b'=q:=by simpa using hq
    have:=HBE.out;omega)
   clear hst hform hd1;go_wp2_with fail;clear p6 p1 p2 dl;generalize hwo:wz.alloc (.cells #[iv 0,iv 0,.slice D data.length dc] 117)=wo at *
   generalize wz.heap.size=g at *
   refine wp_region_free (by kernel_rfl) (some 60::some 61::some 62::some 63::some 64::some 65::some 66::some 67::some 68::some 69::some 5::[]) (false::false::false::false::false::true::true::false::false::true::true::[]) (.slice C pre.length cc::.pointer (some ⟨g,2,none⟩)::.slice D data.length dc::iv (data.length:Int)::.int .u8 (data.length:Int)::undef::undef::.pointer (some ⟨g,2,none⟩)::.slice D data.length dc::undef::undef::[]) (ptJ wo base C pre.length cc (pre.map bv) [.int .u8 255,.int .u8 (data.length:Int)] (data.map bv) 5 6 9 10) 75 rfl rfl (by decide+kernel) (by decide+kernel) (by decide+kernel) rfl rfl (by rw[ptJ,if_neg (by simp),if_neg (by simp),if_neg (by simp)]) ?_ ?_
   ·refine⟨?_,?_,?_,?_,?_,?_,?_,?_,?_,?_,?_,trivial⟩;all_goals intro done cv a wq hn hw hcl h hJ
    ·have e1:=fr_un (t:=5) (i:=0) (i0:=10) (v:=.slice C pre.length cc) h hcl hn rfl (by decide) (by decide) rfl;exact mx_move (ch_ev e1)
    ·have e1:=fO 7 (.pointer (some ⟨g,0,none⟩)) h;go_simp
    ·have e1:=fN 1 61 h hw;exact x9b4
    ·have e1:=fN 2 62 h hw;go_simp
    ·have e1:=fN 3 63 h hw;have hu:=HU1.out;go_simp
    ·have e1:=fN 4 64 h hw;have hd1:¬maskB [false,false,false,false,false,true,true,false,false,true,true] done 6=true:=by unfold maskB;rw[show done 6=false from Bool.eq_false_iff.2 (fun e=>by have:=hcl 6 _ rfl e 5 (by decide);rw[hn]at this;cases this)];simp
     have hd2:¬maskB [false,false,false,false,false,true,true,false,false,true,true] done 9=true:=by unfold maskB;rw[show done 9=false from Bool.eq_false_iff.2 (fun e=>hd1 (by unfold maskB;rw[hcl 9 _ rfl e 6 (by decide)];rfl))];simp
     have hd3:¬maskB [false,false,false,false,false,true,true,false,false,true,true] done 5=true:=by unfold maskB;rw[hn];simp
     rw[ptJ,if_neg hd2,if_neg hd1,if_neg hd3]at hJ;obtain rfl:wq=wo.drew:=hJ;refine wp_sb2i e1 ⟨_,rfl,?_⟩;rw[ptJ,if_neg (by simp;simpa using hd2),if_neg (by simp;simpa using hd1),if_pos (by simp)];exact⟨⟨(Below.refl _ _).drew.alloc (by simpa using hbo) _,fun k hk hne=>Below.heap_alloc wo.drew _ k hk⟩,HO.out.drew.alloc _,wo.heap.size,by simp,blk_top (by simp),nl⟩
    ·have e1:=fN 0 60 h hw;have e65:=fr_cv (i:=5) (t:=65) h (hw 5 (by decide)) rfl rfl;have hd1:¬maskB [false,false,false,false,false,true,true,false,false,true,true] done 9=true:=by unfold maskB;rw[show done 9=false from Bool.eq_false_iff.2 (fun e=>by have:=hcl 9 _ rfl e 6 (by decide);rw[hn]at this;cases this)];simp
     have hd2:¬maskB [false,false,false,false,false,true,true,false,false,true,true] done 6=true:=by unfold maskB;rw[hn];simp
     have hd3:maskB [false,false,false,false,false,true,true,false,false,true,true] done 5=true:=by unfold maskB;rw[hw 5 (by decide)];rfl
     rw[ptJ,if_neg hd1,if_neg hd2,if_pos hd3]at hJ;obtain⟨⟨f1,f2⟩,ho,bb,y1,y2,y3⟩:=hJ;rw[y1]at e65;refine wp_app wq (.tmp 60) (.tmp 65) 22 rfl elBytes base C pre.length cc (pre.map bv) (ch_ev e1) ho (some ⟨bb,0,none⟩) 2 2 [.int .u8 255,.int .u8 (data.length:Int)] (ch_ev e65) (src_blk y2) rfl (by simp[Value.oneCell']) (by omega) (Nat.le_trans hbo f1.size) ?_;intro A' c' w' hown hgr hbel hor;refine⟨_,rfl,?_⟩;rw[ptJ,if_neg (by simp;simpa using hd1),if_pos (by simp)];refine⟨⟨f1.trans hbel,fun k hk hne=>(hgr.block k (Nat.lt_of_lt_of_le hk f1.size) (fun e=>hne e.symm)).trans (f2 k hk hne)⟩,A',c',by simp,hown,?_⟩;rcases hor with h|h
     ·exact .inl h
     exact .inr (fun k hk=>by rw[h]at hk;injection hk with hk;have:=f1.size;omega)
    ·have e1:=fO 7 (.pointer (some ⟨g,0,none⟩)) h;go_simp
    ·have e1:=fN 7 67 h hw;exact x9b4
    ·have e1:=fr_cv (i:=6) (t:=66) h (hw 6 (by decide)) rfl rfl;have e68:=fN 8 68 h hw;have hd1:maskB [false,false,false,false,false,true,true,false,false,true,true] done 6=true:=by unfold maskB;rw[hw 6 (by decide)];rfl
     have hd2:¬maskB [false,false,false,false,false,true,true,false,false,true,true] done 9=true:=by unfold maskB;rw[hn];simp
     rw[ptJ,if_neg hd2,if_pos hd1]at hJ;obtain⟨⟨f1,f2⟩,A1,c1,y1,ho,hor1⟩:=hJ;rw[y1]at e1;have hsrc:Src wq D (data.map bv):=(bts_same HDT.out (fun k hk hlt=>f2 k hlt (fun e=>HDC.out k hk e))).src;refine wp_app wq (.tmp 66) (.tmp 68) 22 rfl elBytes base A1 (pre.length+2) c1 (pre.map bv++[.int .u8 255,.int .u8 (data.length:Int)]) (ch_ev e1) ho D data.length dc (data.map bv) (ch_ev e68) hsrc (by simp) (bv_one _) (by omega) (Nat.le_trans hbo f1.size) ?_;intro A' c' w' hown hgr hbel hor;refine⟨_,rfl,?_⟩;rw[ptJ,if_pos (by simp)];refine⟨⟨f1.trans hbel,fun k hk hne=>(hgr.block k (Nat.lt_of_lt_of_le hk f1.size) (fun e=>?_)).trans (f2 k hk hne)⟩,A',c',by simp,by rw[List.length_map];exact hown,fun e=>?_⟩
     ·rcases hor1 with h|h
      ·exact hne (h.symm.trans e.symm)
      ·have:=h k e.symm;omega
     exfalso;have e1:done 10=true:=by simpa[maskB]using e
     have:=hcl 10 _ rfl e1 9 (by decide);rw[hn]at this;cases this
    ·have e1:=fr_cv (i:=9) (t:=69) h (hw 9 (by decide)) rfl rfl;have hd1:maskB [false,false,false,false,false,true,true,false,false,true,true] done 9=true:=by unfold maskB;rw[hw 9 (by decide)];rfl
     rw[ptJ,if_pos hd1]at hJ;obtain⟨fr,A1,c1,y1,ho,_⟩:=hJ;rw[y1]at e1;refine wp_asg (ch_ev e1) ⟨_,rfl,?_⟩;rw[ptJ,if_pos (by simp;simpa using hd1)];exact⟨fr,A1,c1,by simpa using y1,ho,fun _=>by simp⟩
   intro d cv w1 hall hJ;rw[ptJ,if_pos (hall 9 rfl (by decide))]at hJ;obtain⟨⟨f1,f2⟩,A1,c1,y1,ho,y2⟩:=hJ;have y3:=y2 (hall 10 rfl (by decide));have HB1:Hid (Below base w w1):=qH (HBo.out.trans f1);have HL:Hid (pre.length+2+(data.map bv).length=(pre++(255::by_ data.length::data)).length):=qH (by simp;omega);have HO1:Hid (Own w1 base 5 1 A1 (pre++(255::by_ data.length::data)).length c1 ((pre++(255::by_ data.length::data)).map bv)):=qH (by rw[List.map_append,HBV.out,<-HL.out,<-List.append_assoc];exact ho);clear f1 f2 ho y2;simp only[freeAll,putAll_some,putAll_none,putAll_nil,List.getD_cons_zero,List.getD_cons_succ,Bool.false_eq_true,if_true,if_false,reduceIte,Nat.zero_add,Nat.reduceAdd,List.setIfInBounds_toArray,List.set_cons_zero,List.set_cons_succ];rw[y3,HL.out];clear y1 y3;go_wp2_with fail;go_roundw
   case rel=>exact⟨k+1,A1,c1,pre++(255::by_ data.length::data),by omega,by go_num,rfl,qH HPRE1.out.symm,HO1,HB1⟩
   case measure=>simp[intOf];omega
  obtain rfl:k=l.length:=by omega
  have dl:decide ((l.length:Int)<(l.length:Int))=false:=by simp
  have hpre:pre=pb:=by rw[HPB.out,HPRE.out,List.take_length]
  subst hpre;have d1:decide ((400:Int)<(pre.length:Int))=false:=decide_eq_false (by omega);clear hpl;go_wp2_with fail;go_ret2;exact⟨C,cc,rfl,HBE.out▸HO1.out,HBE.out▸HB1.out⟩
theorem x0r2(h:Y:=by
 have e1:=fN 3 23 h hw;have e24:=fN 4 24 h hw;have h1:=HS2.out;go_simp):Y:=h
theorem x22s(h:Y:=by
 have k1:¬c=0:=by omega
 have k2:(i:Int)<=(c:Int):=by omega
 go_simp):Y:=h
theorem x26v(h:Y:=by
 have e1:=fr_un (t:=0) (i:=0) (i0:=7) (v:=.slice (some ⟨g,0,none⟩) n c) h hcl hn rfl (by decide) (by decide) rfl;exact mx_move (ch_ev e1)):Y:=h
theorem x3c1(h:Y:=by
 have e1:=fr_un (t:=0) (i:=3) (i0:=7) (v:=.slice (some ⟨g,0,none⟩) n c) h hcl hn rfl (by decide) (by decide) rfl;exact mx_move (ch_ev e1)):Y:=h
theorem x5il(h:Y:=by
 rw[e1,cell_of_row _ _ _ _ _ _ hgc];rw[List.getElem?_take,if_pos (by omega)]at hu;simpa using hu):Y:=h
theorem x6qv(h:Y:=by
 intro dn cv w3 hall hJ;rw[show lvlN [7,6] dn=2 by simp[lvlN,hall 7 rfl (by decide)]]at hJ;obtain⟨rfl,y1⟩:=hJ;simp only[freeAll,putAll_some,putAll_none,putAll_nil,List.getD_cons_zero,List.getD_cons_succ,Bool.false_eq_true,if_true,if_false,reduceIte,Nat.zero_add,Nat.reduceAdd,List.setIfInBounds_toArray,List.set_cons_zero,List.set_cons_succ];rw[y1];go_wp2_with fail;go_ret;exact⟨rfl,HOUT.out,HBW.out,HSZ.out,HKP.out⟩):Y:=h
theorem x6w8(h:Y:=by
 rw[List.append_assoc,List.take_append_of_le_length (by simp;omega),List.take_take,Nat.min_self,List.take_append_of_le_length (by omega),List.take_of_length_le (by omega),hc];congr 1;rw[List.take_take];congr 1;omega):Y:=h
theorem x6wx(h:Y:=by
 refine⟨⟨g,0,none⟩,0,fun wq=>?_,fun j u hu=>?_⟩
 ·have k4:n=i+1:=by omega
  subst k4;subst e;go_simp
 ·have:cs=[]:=List.eq_nil_of_length_eq_zero (by rw[hcl];omega);rw[this]at hu;simp at hu):Y:=h
theorem x763(h:Y:=by
 have k1:(i:Int)<=(i:Int)+1:=by omega
 have k2:(i:Int)+1<=(n:Int):=by omega
 have k3:(n:Int)<=(c:Int):=by omega
 have k4:((i:Int)+1).toNat=i+1:=by omega
 have k5:(0:Int)<=(i:Int)+1:=by omega
 have k6:i+1-i=1:=by omega
 have k7:¬n=i:=by omega
 go_simp):Y:=h
theorem x77w(h:Y:=by
 have e2:=fN 0 20 h hw;have e21:=fN 1 21 h hw;have h1:=HS1.out;go_simp):Y:=h
theorem x8bn(h:Y:=by
 have k1:((n-1:Nat):Int)<=(n:Int):=by omega
 have k2:(n:Int)<=(c:Int):=by omega
 have k3:n-(n-1)=1:=by omega
 have k4:¬c=n-1:=by omega
 go_simp):Y:=h
theorem x8sy(h:Y:=by
 obtain⟨rfl,y1⟩:=hJ;rw[y1]at e1;exact wp_asg (ch_ev e1) ⟨_,rfl,hK _ _ ⟨rfl,by simp⟩⟩):Y:=h
theorem x9qe(h:Y:=by
 rw[<-hw1]
 show ((wo.setRow g _).setRow g _).heap[k]?=_;exact(setRow_other _ _ _ _ hk).trans (setRow_other _ _ _ _ hk)):Y:=h
def DelRet(w:World)(base n c:Nat)(g:Nat)(out:List Value):Ending->World->Prop:=fun en w'=>
 en=.returned (.slice (some ⟨g,0,none⟩) (n-1) c)∧Own w' base 49 5 (some ⟨g,0,none⟩) (n-1) c out∧Below base w w'∧w'.heap.size=w.heap.size∧(∀k,k≠g->w'.heap[k]?=w.heap[k]?)
def delJ(w0:World)(g n c:Nat)(w1:World):Nat->(Nat->Value)->World->Prop
 |0,_,w=>w=w0.drew
 |1,cv,w=>w=w1.drew∧cv 6=.slice (some ⟨g,0,none⟩) (n-1) c
 |_,cv,w=>w=w1.drew∧cv 7=.slice (some ⟨g,0,none⟩) (n-1) c
theorem wp_appN{P:Program}{o:Oper}(d s:Operand)(t t':TypeId)
  (ho:o.op=.call {callee:=.builtin .append,args:=#[d,s],argTypes:=#[t,t']}) (v u:Value) (hd:a.eval d=v) (hs:a.eval s=u) {v':Value} {w':World}
  (hr:(Builtin.append_ #[t,t'] o.type #[v,u]).run P w=.ok v' w') (h:K (a.put o.dst v') w'):o.wp P a w K Q:=by
 exact x1tl
theorem drew_setRowD(w:World)(g:Nat)(cs:Array Value):w.drew.setRow g cs=(w.setRow g cs).drew:=rfl
theorem del_list(L cs Z:List Value)(i n:Nat)(hL:n*5<=L.length)(hi:i<n)(hc:cs=(L.take (n*5)).drop ((i+1)*5))(hZ:Z.length=5):
  (over (over L (i*5) cs) ((n-1)*5) Z).take ((n-1)*5)=(L.take (n*5)).take (i*5)++(L.take (n*5)).drop ((i+1)*5)∧(over (over L (i*5) cs) ((n-1)*5) Z).length=L.length:=by
 have hcl:cs.length=(n-(i+1))*5:=by rw[hc];simp;omega
 have h1:(over L (i*5) cs).length=L.length:=by unfold over;simp;omega
 constructor
 ·unfold over;have e1:(L.take (i*5)++cs).length=(n-1)*5:=by simp;omega
  exact x6w8
 unfold over at h1⊢;simp at h1⊢;omega
theorem delChunk_calls(g n c i:Nat)(xs:List Value)(wo:World)(base:Nat)(hO:Own wo base 49 5 (some ⟨g,0,none⟩) n c xs)(h2:∀u∈xs,u.oneCell'=true)(hi:i<n)(hn:n<=1000):
  Calls Try.prog 83 #[.slice (some ⟨g,0,none⟩) n c,iv (i:Int),iv ((i:Int)+1)] wo (DelRet wo base n c g (xs.take (i*5)++xs.drop ((i+1)*5))):=by
 have hle:=hO.le;obtain⟨hxl,⟨hv2,_⟩|⟨g',cap,cur,hv2,hbg,hgc,hncap,hmax,hcs,hxs1⟩⟩:=hO
 ·cases hv2
 injection hv2 with e1 e2 e3;injection e1 with e1;injection e1 with e1 e4;subst e1 e3;obtain⟨L,hL⟩:=eX (cur.toList);have hcur:cur=L.toArray:=by rw[<-hL]
 subst hcur;simp only[List.size_toArray]at hcs;have hxs:xs=L.take (n*5):=by simpa using hxs1.symm
 subst hxs;have hgl:=blk_lt hgc;obtain⟨cs,hcs1⟩:=eX ((L.take (n*5)).drop ((i+1)*5));have hcl:cs.length=(n-(i+1))*5:=by rw[<-hcs1];simp;omega
 have h3:∀u∈cs,u.oneCell'=true:=fun u hu=>h2 u (by rw[<-hcs1]at hu;exact List.mem_of_mem_drop hu);have k8:0<c:=by omega
 have HS4:∀wq,(Instr.slice 43 (.slice (some ⟨g,0,none⟩) n c) (some (iv (i:Int))) (some (iv ((i:Int)+1))) (some (iv (n:Int)))).run Try.prog wq=.ok (.slice (some ⟨g,i*5,none⟩) 1 (n-i)) wq:=fun wq=>by
  exact x763
 have HS1:Hid (∀wq,(Instr.slice 43 (.slice (some ⟨g,0,none⟩) n c) none (some (iv (i:Int))) none).run Try.prog wq=.ok (.slice (some ⟨g,0,none⟩) i c) wq):=qH (fun wq=>by
  exact x22s)
 obtain⟨a1,c1,hs1,hcell⟩:∃a2 c2,(∀wq,(Instr.slice 43 (.slice (some ⟨g,0,none⟩) n c) (some (iv ((i:Int)+1))) none none).run Try.prog wq=.ok (.slice (some a2) (n-(i+1)) c2) wq)∧(∀j u,cs[j]?=some u->wo.cell? (a2.add j)=some u):=by
  have k1:(i:Int)+1<=(n:Int):=by omega
  have k2:((i:Int)+1).toNat=i+1:=by omega
  have k3:(0:Int)<=(i:Int)+1:=by omega
  by_cases e:c=i+1
  ·exact x6wx
  refine⟨⟨g,(i+1)*5,none⟩,c-(i+1),fun wq=>?_,fun j u hu=>?_⟩
  ·go_simp
  rw[<-hcs1,List.getElem?_drop]at hu;have hj:(i+1)*5+j<(L.take (n*5)).length:=(List.getElem?_eq_some_iff.1 hu).1;rw[List.length_take]at hj;have e1:(⟨g,(i+1)*5,none⟩:Addr).add j=⟨g,(i+1)*5+j,none⟩:=by simp[Addr.add]
  exact x5il
 have HS2:=qH hs1;obtain⟨w1,hw1⟩:=eX (wo.setRow g (over L (i*5) cs).toArray);have hi1:(Try.prog.info? 49).map (fun t=>t.size)=some 5:=by kernel_rfl
 have HA:Hid (∀(ty:TypeId) (q:Unit),(Builtin.append_ #[43,43] ty #[.slice (some ⟨g,0,none⟩) i c,.slice (some a1) (n-(i+1)) c1]).run Try.prog wo.drew=.ok (.slice (some ⟨g,0,none⟩) (n-1) c) w1.drew):=qH (fun ty q=>by
  cases hq:Try.prog.info? 49 with
  |none=>rw[hq]at hi1;cases hi1
  |some t=>
   rw[hq]at hi1;have ht5:t.size=5:=by simpa using hi1
   have hgd:wo.drew.heap[g]?=some (.cells L.toArray 49 (0,0)):=hgc;have h9:=run_append_room_cells (P:=Try.prog) wo.drew 43 ty 49 t Try.underlying43 hq g 0 i c a1 (n-(i+1)) c1 cs (by rw[ht5];exact hcl) (fun j u hu=>hcell j u hu) h3 (by omega)
    (fun j hj=>by rw[ht5,cell_of_row _ _ _ _ _ _ hgd];simp;omega) (fun j hj=>frozen_of_row _ _ _ _ _ hgd)
   rw[h9,ht5,show i+(n-(i+1))=n-1 by omega,setRow_eq hgd cs (by simp;omega),<-hw1];congr 1;rw[Nat.zero_add,drew_setRowD];congr 2)
 have hw1g:w1.heap[g]?=some (.cells (over L (i*5) cs).toArray 49 (0,0)):=by rw[<-hw1];exact setRow_heap wo g _ _ _ _ hgc
 obtain⟨Z,hZ⟩:∃Z:List Value,[iv 0,iv 0,iv 0,iv 0,.slice none 0 0]=Z:=⟨_,rfl⟩;have hZl:Z.length=5:=by rw[<-hZ];rfl
 obtain⟨hd1,hd2⟩:=del_list L cs Z i n (by omega) hi hcs1.symm hZl;have hol:(over L (i*5) cs).length=L.length:=by unfold over;simp;omega
 have hcl1:∀ty,(Builtin.clear_ #[43] ty #[.slice (some ⟨g,(n-1)*5,none⟩) 1 (c-(n-1))]).run Try.prog w1.drew=.ok (.tuple #[]) (w1.setRow g (over (over L (i*5) cs) ((n-1)*5) Z).toArray).drew:=fun ty=>by
  have hgd:w1.drew.heap[g]?=some (.cells (over L (i*5) cs).toArray 49 (0,0)):=hw1g;have h1:=run_storeCells_at Try.prog g ((n-1)*5) 49 Z 0 (over L (i*5) cs).toArray w1.drew hgd (by simp only[List.size_toArray];omega) (by rw[<-hZ];simp[Value.oneCell']);have hzv:(zeroValue 49).run Try.prog w1.drew=.ok (.agg #[iv 0,iv 0,iv 0,iv 0,.slice none 0 0]) w1.drew:=by kernel_rfl
  have hst:(storeCells ⟨g,(n-1)*5,none⟩ Z).run Try.prog w1.drew=.ok () (w1.setRow g (over (over L (i*5) cs) ((n-1)*5) Z).toArray).drew:=by
   rw[h1,drew_setRowD];congr 3
  rw[<-hZ]at hst⊢;have hze:(Builtin.zeroCells (Value.agg #[iv 0,iv 0,iv 0,iv 0,.slice none 0 0]).cells 1).toList=[iv 0,iv 0,iv 0,iv 0,.slice none 0 0]:=by kernel_rfl
  simp[Builtin.clear_,run_underlying Try.underlying43,hzv,hze,hst]
 have HS3:∀wq,(Instr.slice 43 (.slice (some ⟨g,0,none⟩) (n-1) c) (some (iv ((n-1:Nat):Int))) (some (iv (n:Int))) none).run Try.prog wq=.ok (.slice (some ⟨g,(n-1)*5,none⟩) 1 (c-(n-1))) wq:=fun wq=>by
  exact x8bn
 have q1:((i:Int)==(i:Int)+1)=false:=beq_eq_false_iff_ne.2 (by omega);have HOUT:Hid (Own (w1.setRow g (over (over L (i*5) cs) ((n-1)*5) Z).toArray).drew base 49 5 (some ⟨g,0,none⟩) (n-1) c ((L.take (n*5)).take (i*5)++(L.take (n*5)).drop ((i+1)*5))):=qH
  ⟨by simp;omega,Or.inr ⟨g,c,(over (over L (i*5) cs) ((n-1)*5) Z).toArray,rfl,hbg,(setRow_heap w1 g _ _ _ _ hw1g:_),by omega,hmax,by simp only[List.size_toArray];omega,by simpa using hd1⟩⟩
 have HBW:Hid (Below base wo (w1.setRow g (over (over L (i*5) cs) ((n-1)*5) Z).toArray).drew):=qH (by rw[<-hw1];exact(below_row (below_row (Below.refl _ _) hbg _) hbg _).drew);have HSZ:Hid ((w1.setRow g (over (over L (i*5) cs) ((n-1)*5) Z).toArray).drew.heap.size=wo.heap.size):=qH (by rw[<-hw1];show ((wo.setRow g _).setRow g _).heap.size=_;simp[World.setRow]);have HKP:Hid (∀k,k≠g->(w1.setRow g (over (over L (i*5) cs) ((n-1)*5) Z).toArray).drew.heap[k]?=wo.heap[k]?):=qH (fun k hk=>by
  exact x9qe)
 generalize (L.take (n*5)).take (i*5)++(L.take (n*5)).drop ((i+1)*5)=out at *
 generalize w1.setRow g (over (over L (i*5) cs) ((n-1)*5) Z).toArray=w2 at *
 have hni:(i:Int)+1<=(n:Int):=by omega
 clear hs1 hcell hw1 hw1g hd1 hd2 hol hcs1 hZ hZl hgc hcs h2 h3 hxl hxs1 hL;go_enter Try.func83,Try.ntmps83;go_wp2_with fail;refine wp_region_free (by kernel_rfl) (some 20::some 21::some 22::some 23::some 24::some 25::some 26::some 0::[]) (false::false::false::false::false::false::true::true::[]) (.slice (some ⟨g,0,none⟩) n c::iv (i:Int)::.slice (some ⟨g,0,none⟩) i c::.slice (some ⟨g,0,none⟩) n c::iv ((i:Int)+1)::.slice (some a1) (n-(i+1)) c1::undef::undef::[]) (fun done cv w=>delJ wo g n c w1 (lvlN [7,6] done) cv w) 33 rfl rfl (by decide+kernel) (by decide+kernel) (by decide+kernel) rfl rfl (rfl) ?_ ?_
 ·refine⟨?_,?_,?_,?_,?_,?_,?_,?_,trivial⟩;all_goals intro done cv a wq hn hw hcl h hJ
  ·exact x26v
  ·have e1:=fO 1 (iv (i:Int)) h;exact mx_move (ch_ev e1)
  ·exact x77w
  ·exact x3c1
  ·have e2:=fO 2 (iv ((i:Int)+1)) h;exact mx_move (ch_ev e2)
  ·exact x0r2
  ·have e2:=fN 2 22 h hw;have e25:=fN 5 25 h hw;have n1:=hn;have n2:=nW 7 6 hcl n1;have hl:lvlN [7,6] (maskB [false,false,false,false,false,false,true,true] done)=0:=by simp[lvlN,maskB,n1,n2]
   have hl1:lvlN [7,6] (fun j=>if j=6 then true else maskB [false,false,false,false,false,false,true,true] done j)=1:=by simp[lvlN,maskB,n1,n2]
   rw[hl]at hJ;have hK:∀(v:Value) (w':World),delJ wo g n c w1 1 (fun j=>if j=6 then v else cv j) w'->delJ wo g n c w1 (lvlN [7,6] (fun j=>if j=6 then true else maskB [false,false,false,false,false,false,true,true] done j)) (fun j=>if j=6 then v else cv j) w':=fun v w' h=>by rw[hl1];exact h
   obtain rfl:wq=wo.drew:=hJ;refine wp_appN (.tmp 22) (.tmp 25) 43 43 rfl _ _ (ch_ev e2) (ch_ev e25) (HA.out _ ()) ⟨_,rfl,hK _ _ ?_⟩;exact⟨rfl,by simp⟩
  ·have e1:=fr_cv (i:=6) (t:=26) h (hw 6 (by decide)) rfl rfl;have n1:=hn;have m1:=hw 6 (by decide);have hl:lvlN [7,6] (maskB [false,false,false,false,false,false,true,true] done)=1:=by simp[lvlN,maskB,n1,m1]
   have hl1:lvlN [7,6] (fun j=>if j=7 then true else maskB [false,false,false,false,false,false,true,true] done j)=2:=by simp[lvlN,maskB,n1,m1]
   rw[hl]at hJ;have hK:∀(v:Value) (w':World),delJ wo g n c w1 2 (fun j=>if j=7 then v else cv j) w'->delJ wo g n c w1 (lvlN [7,6] (fun j=>if j=7 then true else maskB [false,false,false,false,false,false,true,true] done j)) (fun j=>if j=7 then v else cv j) w':=fun v w' h=>by rw[hl1];exact h
   exact x8sy
 exact x6qv
theorem x4kf(h:Y:=by
 have e1:=fO 8 (iv (k:Int)) h;exact mx_move (ch_ev e1)):Y:=h
theorem x6gc(h:Y:=by
 have e1:=fO 4 (.slice (some ⟨ab,ao,none⟩) b.length c1) h;exact mx_move (ch_ev e1)):Y:=h
def ctJ(w0:World)(base:Nat)(C:OA)(n c:Nat)(xs bs:List Value)(y:Nat)(mk:Option Addr×Nat->List Value):Nat->(Nat->Value)->World->Prop
 |0,_,w=>w=w0.drew
 |1,cv,w=>∃A5 c5,cv 17=.slice A5 y c5∧Own w w0.heap.size 5 1 A5 y c5 bs∧Below w0.heap.size w0 w
 |2,cv,w=>∃A5 c5,cv 18=.agg (mk (A5,c5)).toArray∧Own w w0.heap.size 5 1 A5 y c5 bs∧Below w0.heap.size w0 w
 |3,cv,w=>∃A5 c5 w1,Own w1 w0.heap.size 5 1 A5 y c5 bs∧Below w0.heap.size w0 w1∧w=w1.alloc (.cells (mk (A5,c5)).toArray 49)∧cv 19=.slice (some ⟨w1.heap.size,0,none⟩) 1 1
 |4,cv,w=>∃A5 c5 w1 A' c',Own w1 w0.heap.size 5 1 A5 y c5 bs∧Below w0.heap.size w0 w1∧cv 20=.slice A' (n+1) c'∧Own w base 49 5 A' (n+1) c' (xs++mk (A5,c5))∧Below base w1 w∧(∀k,k<w1.heap.size->C.map (·.block)≠some k->w.heap[k]?=w1.heap[k]?)∧(A'.map (·.block)=C.map (·.block)∨∀k,A'.map (·.block)=some k->w1.heap.size<=k)
 |_,cv,w=>∃A5 c5 w1 A' c',Own w1 w0.heap.size 5 1 A5 y c5 bs∧Below w0.heap.size w0 w1∧cv 21=.slice A' (n+1) c'∧Own w base 49 5 A' (n+1) c' (xs++mk (A5,c5))∧Below base w1 w∧(∀k,k<w1.heap.size->C.map (·.block)≠some k->w.heap[k]?=w1.heap[k]?)∧(A'.map (·.block)=C.map (·.block)∨∀k,A'.map (·.block)=some k->w1.heap.size<=k)
theorem ctJ_blk{y k g:Nat}{C:OA}{bs:List Value}{mk:Option Addr×Nat->List Value}{o:Obj}(hJ:ctJ w0 base C n c xs bs y mk k cv w)(h:w0.heap[g]?=some o)(hg:g<base):w.heap[g]?=some o:=by
 have hl:=blk_lt h
 match k,hJ with
 |0,hJ=>obtain rfl:w=w0.drew:=hJ;exact h
 |1,⟨_,_,_,_,h2⟩=>exact blk_below h h2
 |2,⟨_,_,_,_,h2⟩=>exact blk_below h h2
 |3,⟨_,_,w1,_,h2,h3,_⟩=>subst h3;exact blk_old (blk_below h h2)
 |4,⟨_,_,w1,_,_,_,h2,_,_,h3,_⟩=>exact(h3.block g hg).trans (blk_below h h2)
 |q+5,⟨_,_,w1,_,_,_,h2,_,_,h3,_⟩=>exact(h3.block g hg).trans (blk_below h h2)
theorem ctJ_app{w1 w':World}{y c5:Nat}{C A5 A':OA}{c':Nat}{bs:List Value}{mk:Option Addr×Nat->List Value}(h1:Own w1 w0.heap.size 5 1 A5 y c5 bs)(h2:Below w0.heap.size w0 w1)
  (hown:Own w' base 49 5 A' (n+1) c' (xs++mk (A5,c5))) (hgr:(w1.alloc (.cells (mk (A5,c5)).toArray 49)).grownBy w' (C.map (·.block))) (hbel:Below base (w1.alloc (.cells (mk (A5,c5)).toArray 49)) w')
  (hor:A'.map (·.block)=C.map (·.block)∨A'.map (·.block)=some (w1.alloc (.cells (mk (A5,c5)).toArray 49)).heap.size) (hle:base<=w1.heap.size):
  ctJ w0 base C n c xs bs y mk 4 (fun j=>if j=20 then .slice A' (n+1) c' else cv j) w':=by
 refine⟨A5,c5,w1,A',c',h1,h2,by simp,hown,((Below.refl _ _).alloc hle _).trans hbel,fun k hk hn=>(hgr.block k (by simp;omega) (fun e=>hn e.symm)).trans (Below.heap_alloc w1 _ k hk),?_⟩;exact x9sq
theorem wp_sbc{t:TypeId}{p:String}{af:Array Edge}{gd:Option (Nat×Bool)}{d s:Tmp}{f t1 n o:Int}{k:Nat}(hs:a.tmps[s]?=some (.agg (chkA f t1 n o A k c)))
  (h:K (a.put (some d) (.slice (some ⟨w.heap.size,0,none⟩) 1 1)) (w.alloc (.cells (chkA f t1 n o A k c) 49))):
  Oper.wp Try.prog ⟨some d,.buildSlice 43 1 #[(0,.tmp s)],t,p,af,gd⟩ a w K Q:=by
 have e1:a.eval (.tmp s)=.agg (chkA f t1 n o A k c):=by simp[Act.eval,hs]
 unfold Oper.wp execOp;simp only[e1,List.map_toArray,List.map_cons,List.map_nil];go_simp
 trace_state
 exact h
theorem chkCut_bad(B:OA)(d:Nat)(p:Pat)(w:World)(hp:PatIn w p B d)(h:patCheck p≠0):
  Calls Try.prog 33 #[.agg (patA p.from_ p.to_ p.old p.new_ p.size B p.ops.length d)] w (ChkRet2 w [] (patCheck p)):=by
 have K1:=qH (fun w hp=>patPut_bad B d p w hp h);have HP:=qH hp;obtain⟨ck,hck⟩:=eX (patCheck p);rw[hck]at h K1;rw[hck];have q:(ck !=0)=true:=by simp[h]
 clear hp h hck;go_enter Try.func33,Try.ntmps33;go_wp2_with fail;have hba:=(bW w).alloc nl (.cells (patA p.from_ p.to_ p.old p.new_ p.size B p.ops.length d) 35);refine(K1.out _ (HP.out.stays hba)).mono ?_;rintro e w1 ⟨rfl,hb1⟩;have HB1:=qH (hba.trans (hb1.mono (by simp)));exact x98w
theorem chkCut_fine(B:OA)(d:Nat)(p:Pat)(w:World)(hp:PatIn w p B d)(h:patCheck p=0):
  Calls Try.prog 33 #[.agg (patA p.from_ p.to_ p.old p.new_ p.size B p.ops.length d)] w (ChkRet2 w (chunksOf p (packed (patBytes p))) 0):=by
 have K1:=qH (fun w hp=>patPut_ok B d p w hp h);have HP:=qH hp;have hl1:=patBytes_len h;obtain⟨hl2,hl3⟩:=packed_patch_len h;obtain⟨pb,hpb⟩:=eX (patBytes p);rw[hpb]at K1 hl1 hl2 hl3⊢;have K2:=qH (fun A c w hc hb=>pack_calls A c pb w hc (by omega) hb);obtain⟨b,hb⟩:=eX (packed pb);rw[hb]at K2 hl2 hl3⊢;obtain⟨m,hm⟩:=eX ((b.length+15) / 16);have HCO:Hid (∀k,k<m->(chunksOf p b)[k]?=some (chunkAt p b m k)):=qH (fun k hk=>by unfold chunksOf;rw[hm];simp[hk]);have HCL1:Hid ((chunksOf p b).length=m):=qH (by unfold chunksOf;rw[hm];simp);have hq:((b.length:Int)+15).tdiv 16=(m:Int):=by rw[Int.tdiv_eq_ediv_of_nonneg (by omega)];omega
 have hm1:m<=10:=by omega
 have HM:=qH hm;clear hp h hpb hb hm;generalize chunksOf p b=cs at *
 have HCA:Hid (∀k,chunkAt p b m k=⟨p.from_,p.to_,k,m,(b.drop (k*16)).take 16⟩):=qH (fun k=>rfl);generalize chunkAt p b m=ca at *
 obtain⟨f,t,o,n,sz,l⟩:=p;dsimp only at *
 have j1:IntKind.i64.wrap ((b.length:Int)+16)=(b.length:Int)+16:=IntWalk.i64_in _ (by omega);have j1:IntKind.i64.wrap ((b.length:Int)+15)=(b.length:Int)+15:=IntWalk.i64_in _ (by omega);have j1:(b.length:Int)+16-1=(b.length:Int)+15:=by omega
 have j1:IntKind.i64.wrap (m:Int)=(m:Int):=IntWalk.i64_in _ (by omega);have j1:decide ((52:Int)<(m:Int))=false:=decide_eq_false (by omega);have j1:¬52<m:=by omega
 go_enter Try.func33,Try.ntmps33;go_wp2_with fail;have hba:=(bW w).alloc nl (.cells (patA f t o n sz B l.length d) 35);refine(K1.out _ (HP.out.stays hba)).mono ?_;rintro e w1 ⟨A1,c1,rfl,ho1,hb1⟩;have hb1':=hba.trans (hb1.mono (by simp));have a1:=kp (w.heap.size) (patA f t o n sz B l.length d) hb1;have HBT:=qH ho1.src.bts;have hc1:=ho1.le;dsimp only at hc1;have HB1:=qH hb1';clear ho1 hb1 hb1';go_wp2_with fail;refine(K2.out _ _ _ hc1 HBT.out).mono ?_;rintro e w2 ⟨A1,c1,rfl,ho1,hb1⟩;obtain⟨tT,hgp⟩:=row_blk (w:=w2) (g:=w.heap.size) (by rw[rowOf_below a1.2.2.2.2.2 hb1,a1.1];simp[patA]);have hpb1:w2.heap[w.heap.size]?=some (.cells (patA f t o n sz B l.length d) tT (0,0)):=by rw[rowOf_below a1.2.2.2.2.2 hb1,a1.1,frOf_below a1.2.2.2.2.2 hb1,a1.2.1]at hgp;exact hgp
 have HPB1:=qH hpb1;have HBB1:=qH ho1.src.bts;have hc1:=ho1.le;have HB1:=bT HB1 hb1;have hg0l:=blk_lt hpb1;have hlb:0<b.length:=by omega
 obtain⟨ab,ao,rfl,hab,_⟩:=HBB1.out 0 hlb;clear ho1 hb1 hgp hpb1 a1 HP K1 K2;go_wp2_with fail;generalize hg0:w.heap.size=g0 at *
 have HGE:=qH hg0;generalize hbase:w2.heap.size=base at *
 have HBE:=qH hbase;clear hg0 hbase;go_loopw [7,27] (fun v i wr=>∃(k:Nat) (acc:List Chk) (ds:List (Option Addr×Nat)) (C:OA) (cc:Nat),k<=m∧i=iv k∧v=.slice C acc.length cc∧acc.length=k∧Hid (acc=cs.take k)∧Hid (GRow kChk wr base acc ds C cc)∧Hid (Each kChk acc ds (fun q=>base<=q))∧Hid (Below base w2 wr)) (fun _ i _=>m-(intOf i).toNat)
 case atStart=>exact⟨0,[],[],none,0,Nat.zero_le _,rfl,rfl,rfl,qH (by simp),qH (GRow.nil _ _),qH Each.nil,qH (Below.refl _ _)⟩
 case round=>
  rename World=>wo;obtain⟨k,acc,ds,C,cc,hk,rfl,rfl,hal,HAC,HR,HE,HB⟩:=hrel;have hbo:base<=wo.heap.size:=Nat.le_trans (Nat.le_of_eq HBE.out.symm) HB.out.size;have hbw:Below w2.heap.size w2 wo:=HBE.out▸HB.out;by_cases hlt:k<m
  ·have dl:decide ((k:Int)<(m:Int))=true:=decide_eq_true (by omega);have hwk:IntKind.i64.wrap ((k:Int)+1)=(k:Int)+1:=IntWalk.i64_in _ (by omega);obtain⟨x,hx⟩:=eX (ca k);have hxe:=HCA.out k;rw[hx]at hxe;obtain⟨y,hy⟩:=eX (x.data.length);have hyk:k*16+y<=b.length∧y<=16∧(y=16∨k*16+y=b.length):=by rw[<-hy,hxe];have:=HM.out;simp;omega
   obtain⟨hy1,hy2,hy3⟩:=hyk;obtain⟨o1,c2,hc2,hB1,hsl1⟩:=mid_slice (z1:=(k:Int)*16) (z2:=(k:Int)*16+(y:Int)) (k*16) y (by simp) (by simp) hc1 hy1 (HBB1.out.stays hbw);have hdt:(b.drop (k*16)).take y=x.data:=by
    rw[<-hy,hxe];dsimp only;rw[List.length_take,List.take_eq_take_iff];omega
   rw[hdt]at hB1;have HNXT:Hid (acc++[x]=cs.take (k+1)):=qH (by
    have h1:=HCO.out k hlt;rw[hx]at h1;obtain⟨h1,h3⟩:=List.getElem?_eq_some_iff.1 h1;rw[List.take_succ_eq_append_getElem h1,h3,HAC.out])
   have HCL:Hid (∀wq,Below wo.heap.size wo wq->Calls Try.prog 100 #[.slice (some ⟨ab,o1,none⟩) y c2] wq (SlRet wq 5 1 y (x.data.map bv))):=qH (fun wq h=>cloneBytes_calls _ _ _ _ wq (by simp[hy]) (by omega) (hB1.stays h).src (bv_one _));have HXE:Hid (∀e:Option Addr×Nat,(kChk.cell x e).toArray=chkA f t (k:Int) (m:Int) e.1 y e.2):=qH (fun e=>by rw[<-hy];rw[show kChk.cell x e=chkC x e.1 e.2 from rfl,hxe];simp[chkA]);have HW1:Hid (IntKind.i64.wrap ((k:Int)*16)=(k:Int)*16):=qH (IntWalk.i64_in _ (by omega));have HW2:Hid (IntKind.i64.wrap ((k:Int)+1)=(k:Int)+1):=qH hwk;have HW3:Hid (IntKind.i64.wrap (((k:Int)+1)*16)=((k:Int)+1)*16):=qH (IntWalk.i64_in _ (by omega));have HMIN:Hid ((if ((k:Int)+1)*16<(b.length:Int)then ((k:Int)+1)*16 else (b.length:Int))=(k:Int)*16+(y:Int)):=qH (by split<;>omega);have HSL:=qH hsl1;have HPB:Hid (wo.heap[g0]?=some (.cells (patA f t o n sz B l.length d) tT (0,0))):=qH ((HB.out.block g0 (by omega)).trans HPB1.out);have hg0b:g0<base:=by omega
   have HY:=qH hy;have HAL:=qH hal;have hk1:k<=10:=by omega
   have hacl:acc.length<=10:=by omega
   clear hx hxe hy3 hB1 hsl1 hdt hbw hal hwk hy;go_wp2_with fail;refine wp_region_free (by kernel_rfl) (some 30::some 31::some 32::some 33::some 34::some 35::some 36::some 37::some 38::some 39::some 40::some 41::some 42::some 43::some 44::some 45::some 46::some 47::some 48::some 49::some 50::some 7::[]) (false::false::false::false::false::false::false::false::false::false::false::false::false::false::false::false::false::true::true::true::true::true::[]) (.slice C acc.length cc::.pointer (some ⟨g0,0,none⟩)::iv f::.pointer (some ⟨g0,1,none⟩)::iv t::iv (k:Int)::iv (m:Int)::.slice (some ⟨ab,ao,none⟩) b.length c1::iv (k:Int)::iv ((k:Int)*16)::.slice (some ⟨ab,ao,none⟩) b.length c1::iv (b.length:Int)::iv (k:Int)::iv ((k:Int)+1)::iv (((k:Int)+1)*16)::iv ((k:Int)*16+(y:Int))::.slice (some ⟨ab,o1,none⟩) y c2::undef::undef::undef::undef::undef::[]) (fun done cv w=>ctJ wo base C acc.length cc (kChk.cells acc ds) (x.data.map bv) y (fun e=>kChk.cell x e) (lvlN [21,20,19,18,17] done) cv w) 53 rfl rfl (by decide+kernel) (by decide+kernel) (by decide+kernel) rfl rfl (rfl) ?_ ?_
   ·refine⟨?_,?_,?_,?_,?_,?_,?_,?_,?_,?_,?_,?_,?_,?_,?_,?_,?_,?_,?_,?_,?_,?_,trivial⟩;all_goals intro done cv a wq hn hw hcl h hJ
    ·have e1:=fr_un (t:=7) (i:=0) (i0:=21) (v:=.slice C acc.length cc) h hcl hn rfl (by decide) (by decide) rfl;exact mx_move (ch_ev e1)
    ·have e1:=fO 1 (.pointer (some ⟨g0,0,none⟩)) h;go_simp
    ·have e1:=fN 1 31 h hw;have hc:=ctJ_blk hJ HPB.out hg0b;have hc1:wq.cell? ⟨g0,0,none⟩=some (iv f):=by rw[cell_of_row _ _ _ _ _ _ hc];rfl
     go_simp
    ·have e1:=fO 1 (.pointer (some ⟨g0,0,none⟩)) h;go_simp
    ·have e1:=fN 3 33 h hw;have hc:=ctJ_blk hJ HPB.out hg0b;have hc1:wq.cell? ⟨g0,1,none⟩=some (iv t):=by rw[cell_of_row _ _ _ _ _ _ hc];rfl
     go_simp
    ·exact x4kf
    ·have e1:=fO 6 (iv (m:Int)) h;exact mx_move (ch_ev e1)
    ·exact x6gc
    ·exact x4kf
    ·have e1:=fN 8 38 h hw;have h1:=HW1.out;go_simp
    ·exact x6gc
    ·have e1:=fN 10 40 h hw;go_simp
    ·exact x4kf
    ·have e1:=fN 12 42 h hw;have h1:=HW2.out;go_simp
    ·have e1:=fN 13 43 h hw;have h1:=HW3.out;go_simp
    ·have e1:=fN 11 41 h hw;have e44:=fN 14 44 h hw;have h1:=HMIN.out
     first|(go_simp;done)|(go_simp;split at h1<;>omega)
    ·have e1:=fN 7 37 h hw;have e39:=fN 9 39 h hw;have e45:=fN 15 45 h hw;have h1:=HSL.out;go_simp
    ·have e1:=fN 16 46 h hw;have n1:=hn;have n2:=nW 18 17 hcl n1;have n3:=nW 19 18 hcl n2;have n4:=nW 20 19 hcl n3;have n5:=nW 21 20 hcl n4;have hl:lvlN [21,20,19,18,17] (maskB [false,false,false,false,false,false,false,false,false,false,false,false,false,false,false,false,false,true,true,true,true,true] done)=0:=by simp[lvlN,maskB,n1,n2,n3,n4,n5]
     have hl1:lvlN [21,20,19,18,17] (fun j=>if j=17 then true else maskB [false,false,false,false,false,false,false,false,false,false,false,false,false,false,false,false,false,true,true,true,true,true] done j)=1:=by simp[lvlN,maskB,n1,n2,n3,n4,n5]
     rw[hl]at hJ;have hK:∀(v:Value) (w':World),ctJ wo base C acc.length cc (kChk.cells acc ds) (x.data.map bv) y (fun e=>kChk.cell x e) 1 (fun j=>if j=17 then v else cv j) w'->ctJ wo base C acc.length cc (kChk.cells acc ds) (x.data.map bv) y (fun e=>kChk.cell x e) (lvlN [21,20,19,18,17] (fun j=>if j=17 then true else maskB [false,false,false,false,false,false,false,false,false,false,false,false,false,false,false,false,false,true,true,true,true,true] done j)) (fun j=>if j=17 then v else cv j) w':=fun v w' h=>by rw[hl1];exact h
     obtain rfl:wq=wo.drew:=hJ;refine wp_call (vals:=#[.slice (some ⟨ab,o1,none⟩) y c2]) (by rw[List.map_toArray,List.map_cons,List.map_nil,ch_ev e1]) (enters_of Try.func100 (by kernel_rfl) rfl _ _) (HCL.out _ ((Below.refl _ _).drew)) ?_;rintro e w' ⟨A1,c1,rfl,hown,hbel⟩;exact⟨_,rfl,_,rfl,hK _ _ ⟨A1,c1,by simp,hown,(Below.refl _ _).drew.trans hbel⟩⟩
    ·have e1:=fN 2 32 h hw;have e34:=fN 4 34 h hw;have e35:=fN 5 35 h hw;have e36:=fN 6 36 h hw;have e47:=fr_cv (i:=17) (t:=47) h (hw 17 (by decide)) rfl rfl;have n1:=hn;have n2:=nW 19 18 hcl n1;have n3:=nW 20 19 hcl n2;have n4:=nW 21 20 hcl n3;have m1:=hw 17 (by decide);have hl:lvlN [21,20,19,18,17] (maskB [false,false,false,false,false,false,false,false,false,false,false,false,false,false,false,false,false,true,true,true,true,true] done)=1:=by simp[lvlN,maskB,n1,n2,n3,n4,m1]
     have hl1:lvlN [21,20,19,18,17] (fun j=>if j=18 then true else maskB [false,false,false,false,false,false,false,false,false,false,false,false,false,false,false,false,false,true,true,true,true,true] done j)=2:=by simp[lvlN,maskB,n1,n2,n3,n4,m1]
     rw[hl]at hJ;have hK:∀(v:Value) (w':World),ctJ wo base C acc.length cc (kChk.cells acc ds) (x.data.map bv) y (fun e=>kChk.cell x e) 2 (fun j=>if j=18 then v else cv j) w'->ctJ wo base C acc.length cc (kChk.cells acc ds) (x.data.map bv) y (fun e=>kChk.cell x e) (lvlN [21,20,19,18,17] (fun j=>if j=18 then true else maskB [false,false,false,false,false,false,false,false,false,false,false,false,false,false,false,false,false,true,true,true,true,true] done j)) (fun j=>if j=18 then v else cv j) w':=fun v w' h=>by rw[hl1];exact h
     obtain⟨A1,c1,y1,hown,hbel⟩:=hJ;rw[y1]at e47;refine wp_val (v:=.agg (chkA f t (k:Int) (m:Int) A1 y c1)) (by go_simp) ⟨_,rfl,hK _ _ ⟨A1,c1,?_,hown,hbel⟩⟩;rw[HXE.out];simp
    ·have e1:=fr_cv (i:=18) (t:=48) h (hw 18 (by decide)) rfl rfl;have n1:=hn;have n2:=nW 20 19 hcl n1;have n3:=nW 21 20 hcl n2;have m1:=hw 18 (by decide);have hl:lvlN [21,20,19,18,17] (maskB [false,false,false,false,false,false,false,false,false,false,false,false,false,false,false,false,false,true,true,true,true,true] done)=2:=by simp[lvlN,maskB,n1,n2,n3,m1]
     have hl1:lvlN [21,20,19,18,17] (fun j=>if j=19 then true else maskB [false,false,false,false,false,false,false,false,false,false,false,false,false,false,false,false,false,true,true,true,true,true] done j)=3:=by simp[lvlN,maskB,n1,n2,n3,m1]
     rw[hl]at hJ;have hK:∀(v:Value) (w':World),ctJ wo base C acc.length cc (kChk.cells acc ds) (x.data.map bv) y (fun e=>kChk.cell x e) 3 (fun j=>if j=19 then v else cv j) w'->ctJ wo base C acc.length cc (kChk.cells acc ds) (x.data.map bv) y (fun e=>kChk.cell x e) (lvlN [21,20,19,18,17] (fun j=>if j=19 then true else maskB [false,false,false,false,false,false,false,false,false,false,false,false,false,false,false,false,false,true,true,true,true,true] done j)) (fun j=>if j=19 then v else cv j) w':=fun v w' h=>by rw[hl1];exact h
     obtain⟨A1,c1,y1,hown,hbel⟩:=hJ;rw[y1]at e1;rw[HXE.out]at e1;refine wp_sbc e1 ⟨_,rfl,hK _ _ ⟨A1,c1,wq,hown,hbel,by rw[HXE.out],by simp⟩⟩
    ·have e1:=fN 0 30 h hw;have e49:=fr_cv (i:=19) (t:=49) h (hw 19 (by decide)) rfl rfl;have n1:=hn;have n2:=nW 21 20 hcl n1;have m1:=hw 19 (by decide);have hl:lvlN [21,20,19,18,17] (maskB [false,false,false,false,false,false,false,false,false,false,false,false,false,false,false,false,false,true,true,true,true,true] done)=3:=by simp[lvlN,maskB,n1,n2,m1]
     have hl1:lvlN [21,20,19,18,17] (fun j=>if j=20 then true else maskB [false,false,false,false,false,false,false,false,false,false,false,false,false,false,false,false,false,true,true,true,true,true] done j)=4:=by simp[lvlN,maskB,n1,n2,m1]
     rw[hl]at hJ;have hK:∀(v:Value) (w':World),ctJ wo base C acc.length cc (kChk.cells acc ds) (x.data.map bv) y (fun e=>kChk.cell x e) 4 (fun j=>if j=20 then v else cv j) w'->ctJ wo base C acc.length cc (kChk.cells acc ds) (x.data.map bv) y (fun e=>kChk.cell x e) (lvlN [21,20,19,18,17] (fun j=>if j=20 then true else maskB [false,false,false,false,false,false,false,false,false,false,false,false,false,false,false,false,false,true,true,true,true,true] done j)) (fun j=>if j=20 then v else cv j) w':=fun v w' h=>by rw[hl1];exact h
     obtain⟨A1,c1,w1,hown,hbel,rfl,y1⟩:=hJ;rw[y1]at e49;refine wp_app _ (.tmp 30) (.tmp 49) 43 rfl elChunks base C acc.length cc (kChk.cells acc ds) (ch_ev e1) ((HR.out.row.below hbel).alloc _) (some ⟨w1.heap.size,0,none⟩) 1 1 (kChk.cell x (A1,c1)) (ch_ev e49) (src_blk (blk_top rfl)) (by simp[kChk]) (kChk.one _ _) (by omega) (by have:=hbel.size;simp;omega) ?_;intro A' c' w' hown1 hgr hbel1 hor;exact⟨_,rfl,hK _ _ (ctJ_app hown hbel hown1 hgr hbel1 hor (Nat.le_trans hbo hbel.size))⟩
    ·have e1:=fr_cv (i:=20) (t:=50) h (hw 20 (by decide)) rfl rfl;have n1:=hn;have m1:=hw 20 (by decide);have hl:lvlN [21,20,19,18,17] (maskB [false,false,false,false,false,false,false,false,false,false,false,false,false,false,false,false,false,true,true,true,true,true] done)=4:=by simp[lvlN,maskB,n1,m1]
     have hl1:lvlN [21,20,19,18,17] (fun j=>if j=21 then true else maskB [false,false,false,false,false,false,false,false,false,false,false,false,false,false,false,false,false,true,true,true,true,true] done j)=5:=by simp[lvlN,maskB,n1,m1]
     rw[hl]at hJ;have hK:∀(v:Value) (w':World),ctJ wo base C acc.length cc (kChk.cells acc ds) (x.data.map bv) y (fun e=>kChk.cell x e) 5 (fun j=>if j=21 then v else cv j) w'->ctJ wo base C acc.length cc (kChk.cells acc ds) (x.data.map bv) y (fun e=>kChk.cell x e) (lvlN [21,20,19,18,17] (fun j=>if j=21 then true else maskB [false,false,false,false,false,false,false,false,false,false,false,false,false,false,false,false,false,true,true,true,true,true] done j)) (fun j=>if j=21 then v else cv j) w':=fun v w' h=>by rw[hl1];exact h
     obtain⟨A1,c1,w1,A',c',hown,hbel,y1,r1,r2,r3,r4⟩:=hJ;rw[y1]at e1;exact wp_asg (ch_ev e1) ⟨_,rfl,hK _ _ ⟨A1,c1,w1,A',c',hown,hbel,by simp,r1,r2,r3,r4⟩⟩
   intro dn cv w1 hall hJ;rw[show lvlN [21,20,19,18,17] dn=5 by simp[lvlN,hall 21 rfl (by decide)]]at hJ;obtain⟨A1,c5,w1',A',c',hown,hbel,y1,r1,r2,r3,r4⟩:=hJ;simp only[freeAll,putAll_some,putAll_none,putAll_nil,List.getD_cons_zero,List.getD_cons_succ,Bool.false_eq_true,if_true,if_false,reduceIte,Nat.zero_add,Nat.reduceAdd,List.setIfInBounds_toArray,List.set_cons_zero,List.set_cons_succ];rw[y1];have hr1:GRow kChk w1' base acc ds C cc:=HR.out.below hbel;have hdb:x.data.length<=c5:=by rw[HY.out];exact hown.le
   have hblk:∀q,A1.map (·.block)=some q->wo.heap.size<=q:=fun q e=>(hown.block q e).1;have hr2:=hr1.push (o:=x) (d:=(A1,c5)) r1 r2 r3 r4 hown.src.bts hdb (fun _ q e e2=>by have h5:=hblk q e;have h6:=(HR.out.row.block q e2).2;omega);have HR1:=qH hr2;have HE1:Hid (Each kChk (acc++[x]) (ds++[(A1,c5)]) (fun q=>base<=q)):=qH (HE.out.push HR.out.len (fun _ q e=>by have h5:=hblk q e;omega));have HB1:Hid (Below base w2 w1):=qH ((HB.out.trans (hbel.mono hbo)).trans r2);have hwk:IntKind.i64.wrap ((k:Int)+1)=(k:Int)+1:=HW2.out;clear hown hbel y1 r1 r2 r3 r4 hr1 hdb hblk hr2;go_wp2_with fail;go_roundw
   case rel=>exact⟨k+1,acc++[x],ds++[(A1,c5)],A',c',by omega,by go_num,by simp,by rw[List.length_append,HAL.out];rfl,HNXT,HR1,HE1,HB1⟩
   case measure=>simp[intOf];omega
  obtain rfl:k=m:=by omega
  have dl:decide ((k:Int)<(k:Int))=false:=by simp
  have hz:acc=cs:=by rw[HAC.out,List.take_of_length_le (by rw[HCL1.out];exact nl)]
  have HZ:=qH hz;clear hz hal;go_wp2_with fail;go_ret2;rw[<-HZ.out];exact⟨C,cc,ds,rfl,HR.out.mono (by rw[HGE.out];omega),HE.out.imp (fun q hq=>by rw[HGE.out];omega),by rw[HGE.out];exact HB1.out.trans (HB.out.mono (by omega))⟩
theorem chkCut_calls(B:OA)(d:Nat)(p:Pat)(w:World)(hp:PatIn w p B d):
  Calls Try.prog 33 #[.agg (patA p.from_ p.to_ p.old p.new_ p.size B p.ops.length d)] w (ChkRet2 w (chkCut p).1 (chkCut p).2):=by
 unfold chkCut;by_cases h:patCheck p=0
 ·obtain⟨h1,h2⟩:=packed_patch_len h;rw[if_neg (by simpa using h),if_neg (by omega)];exact chkCut_fine B d p w hp h
 rw[if_pos h];exact chkCut_bad B d p w hp h
end Go.Proofs.Ytefkfglkpebbmac
