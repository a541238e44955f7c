/- Walks. No conditions. -/
import Derived.Test.YtefkfglkpebbmabGreatP3
import Derived.Deep.DeepCutAuto
import Derived.Laws.EntriesVeiled
set_option linter.all false
set_option maxRecDepth 100000
set_option maxHeartbeats 0
namespace Go.Proofs.YtefkfglkpebbmabGreat
open Go.RowKit
variable {Y:Prop}
variable {g k:Nat} {w:World}
def On(S:Nat->Prop)(w:World)(P:World->Prop):Prop:=∀v:World,Below 0 w v->(∀k,S k->k<w.heap.size->v.heap[k]?=w.heap[k]?)->P v
section
variable {S T:Nat->Prop} {w w':World} {P Q:World->Prop}
theorem On.now(h:On S w P):P w:=h w (Below.refl _ _) fun _ _ _=>rfl
theorem On.below(h:On S w P)(hb:Below w.heap.size w w'):On S w' P:=fun v h1 h2=>h v ((hb.mono (Nat.zero_le _)).trans h1) fun k hk hlt=>(h2 k hk (Nat.lt_of_lt_of_le hlt hb.size)).trans (hb.block k hlt)
theorem On.at_(h:On S w P)(hb:Below w.heap.size w w'):P w':=(h.below hb).now
theorem On.sub(h:On S w P)(hs:∀k,k<w.heap.size->S k->T k):On T w P:=fun v h1 h2=>h v h1 fun k hk hlt=>h2 k (hs k hlt hk) hlt
theorem On.imp(h:On S w P)(hq:∀v,P v->Q v):On S w Q:=fun v h1 h2=>hq v (h v h1 h2)
theorem On.and(h:On S w P)(g:On S w Q):On S w (fun v=>P v∧Q v):=fun v h1 h2=>⟨h v h1 h2,g v h1 h2⟩
theorem below0_row(w:World)(g:Nat)(cs:Array Value):Below 0 w (w.setRow g cs):=below_row (Below.refl _ _) (Nat.zero_le _) cs
theorem On.row(h:On S w P)(hg:¬S g)(cs:Array Value):On S (w.setRow g cs) P:=fun v h1 h2=>h v ((below0_row w g cs).trans h1) fun k hk hlt=>
 (h2 k hk (by simpa[World.setRow]using hlt)).trans (setRow_other _ _ _ _ (fun e=>hg (e▸hk)))
theorem On.cell(h:On S w P){p:Addr}(hg:¬S p.block)(u:Value):On S (w.setCell p u) P:=fun v h1 h2=>h v (((Below.refl 0 w).setCell (Nat.zero_le _) u).trans h1) fun k hk hlt=>
 (h2 k hk (by simpa using hlt)).trans (Below.heap_setCell _ _ _ _ (fun e=>hg (e▸hk)))
theorem On.of(hP:∀v,Below w.heap.size w v->P v):On (fun k=>k<w.heap.size) w P:=fun v h1 h2=>hP v ⟨h1.os,h1.tape,h1.output,h1.size,fun k hk=>h2 k hk hk⟩
theorem On.fresh{base:Nat}(h:Fresh base w P):On (fun k=>base<=k) w P:=fun v _ h2=>h v h2
theorem On.const(h:∀v,P v):On S w P:=fun v _ _=>h v
theorem cell_gone(w:World)(q j:Nat)(h:q<w.heap.size):(w.setRow q #[]).cell? ⟨q,j,none⟩=none∨∀i,w.cell? ⟨q,i,none⟩=none:=by
 cases ho:w.heap[q]? with
 |none=>rw[Array.getElem?_eq_getElem h]at ho;cases ho
 |some o=>
  cases o with
  |cells cs t fr=>
   left
   rw[cell_of_row _ _ _ _ _ _ (setRow_heap w q cs #[] t fr ho)];rfl
  |_=>right;intro i;unfold World.cell?;simp[ho]
theorem On.bts_in{B:OA}{x:LU}(h:On S w (fun v=>Bts v B x))(hx:x≠[]):∀k,B.map (·.block)=some k->S k∧k<w.heap.size:=by
 intro k hk;obtain⟨b,o,e1,hlt,hc⟩:=h.now 0 (List.length_pos_iff.2 hx);subst e1;injection hk with hk;have hk:b=k:=hk;subst hk;refine⟨Classical.byContradiction fun hn=>?_,hlt⟩;have hv:=(h.row hn #[]).now 0 (List.length_pos_iff.2 hx);obtain⟨b',o',e1,_,hc1⟩:=hv;injection e1 with e1;injection e1 with e3 e4;subst e3 e4;rcases cell_gone w b (o+0) hlt with h9|h9
 ·rw[h9]at hc1;cases hc1
 rw[h9]at hc;cases hc
theorem On.chk_in{A:OA}{l:List Chk}(h:On S w (fun v=>Chs v A l)){j b o:Nat}{D:OA}{e:Nat}(hj:j<l.length)(hA:A=some ⟨b,o,none⟩)(hat:ChkAt w b (o+j*5) l[j] D e)(hx:l[j].data≠[])(hin:ChkIn w l[j] D e):∀k,D.map (·.block)=some k->S k∧k<w.heap.size:=by
 intro k hk;obtain⟨bb,oo,e1,hlt,hc⟩:=hin.data 0 (List.length_pos_iff.2 hx);subst e1;injection hk with hk;have hk:bb=k:=hk;subst hk;refine⟨Classical.byContradiction fun hn=>?_,hlt⟩;obtain⟨b',o',D',e',hA',hbl',hat',hin'⟩:=(h.row hn #[]).now.chk hj;rw[hA]at hA';injection hA' with hA';injection hA' with h1 h2;subst h1 h2;obtain⟨_,_,_,_,c1⟩:=hat;obtain⟨_,_,_,_,c4'⟩:=hat';by_cases hb:b=bb
 ·subst hb;rcases cell_gone w b (o+j*5+4) hlt with h9|h9
  ·rw[h9]at c4';cases c4'
  rw[h9]at c1;cases c1
 have hs:(w.setRow bb #[]).cell? ⟨b,o+j*5+4,none⟩=w.cell? ⟨b,o+j*5+4,none⟩:=World.cell?_of_block (setRow_other _ _ _ _ hb);rw[hs,c1]at c4';injection c4' with c4';injection c4' with c5 _ _;subst c5;obtain⟨b1,o1,e1,_,hc1⟩:=hin'.data 0 (List.length_pos_iff.2 hx);injection e1 with e1;injection e1 with e4 e5;subst e4 e5;rcases cell_gone w bb (oo+0) hlt with h9|h9
 ·rw[h9]at hc1;cases hc1
 rw[h9]at hc;cases hc
end
theorem i64_0:I64 0:=⟨by decide,by decide⟩
def AcRet(S:Nat->Prop)(w:World)(d:Dev)(n:Int):Ending->World->Prop:=fun en w'=>
 ∃L,en=.returned (.tuple #[.agg (devA d L),iv n])∧On (fun k=>S k∧k<w.heap.size∨w.heap.size<=k) w' (fun v=>DevIn v d L)∧Below w.heap.size w w'
theorem actsBad_calls(n:Int)(w:World):Calls Tryz.prog 88 #[iv n] w (RetB w (.tuple #[.agg (devA Dev.zero DLoc.zero),iv n])):=by
 go_enter Tryz.func88,Tryz.ntmps88;go_wp2_with fail;refine bodyPost_ret (rC (devA Dev.zero DLoc.zero)) rfl ⟨rfl,?_⟩;exact x89i
theorem actsDone_ok(d:Dev)(L:DLoc)(gb gd:Nat)(w:World)(hr:rowOf w gd=devA d L)(hf:frOf w gd=(0,0)):Calls Tryz.prog 91 #[iv 0,.pointer (some ⟨gb,0,none⟩),.pointer (some ⟨gd,0,none⟩)] w (RetB w (.tuple #[.agg (devA d L),iv 0])):=by
 have a1:=keep1 (bW w) hr (by go_simp) hf;go_enter Tryz.func91,Tryz.ntmps91;go_wp2_with fail;refine bodyPost_ret (rC (devA d L)) rfl ⟨rfl,?_⟩;exact x89i
theorem actsDone_bad(n:Int)(gb gd:Nat)(w:World)(hn:n≠0)(hr:rowOf w gb=#[.func (Fn.func 88) #[] #[]])(hf:frOf w gb=(0,0)):Calls Tryz.prog 91 #[iv n,.pointer (some ⟨gb,0,none⟩),.pointer (some ⟨gd,0,none⟩)] w (RetB w (.tuple #[.agg (devA Dev.zero DLoc.zero),iv n])):=by
 have a1:=keep1 (bW w) hr (by go_simp) hf;have q:(n !=0)=true:=by simp[hn]
 clear hn;go_enter Tryz.func91,Tryz.ntmps91;go_wp2_with fail;refine(actsBad_calls n _).mono ?_;rintro e w1 ⟨rfl,hb⟩;have b1:=kp (w.heap.size) (devA Dev.zero DLoc.zero) hb;have HB1:Hid (Below w.heap.size w w1):=qH ((bL _).trans (hb.mono (by simp)));clear hb;go_wp2_with fail;refine bodyPost_ret (rC (devA Dev.zero DLoc.zero)) rfl ⟨rfl,?_⟩;repeat (first|exact hA|refine bR ?_ _)
def WtRet(w:World)(gd:Nat)(d:Dev)(L:DLoc)(n:Int):Ending->World->Prop:=fun en w'=>
 ∃w1 w2,en=.returned (iv n)∧Below w.heap.size w w1∧w2=(if n=0 then w1.setRow gd (devA d L)else w1)∧Below w2.heap.size w2 w'
theorem keepH{w':World}{cs:Array Value}(h:w'.heap[g]?=w.heap[g]?)(hr:rowOf w g=cs)(hp:0<cs.size)(hf:frOf w g=(0,0)):rowOf w' g=cs∧frOf w' g=(0,0)∧¬g=w'.heap.size∧(∀j,w'.cell? ⟨g,j,none⟩=cs[j]?)∧(∀j,w'.frozen? ⟨g,j,none⟩=false)∧g<w'.heap.size:=
 keep1 (Below.refl w'.heap.size w') (g:=g) (cs:=cs) (by unfold rowOf at *;rw[h];exact hr) hp (by unfold frOf at *;rw[h];exact hf)
theorem WtRet.row{w':World}{gd:Nat}{d d2:Dev}{L:DLoc}{n:Int}{e:Ending}(h:WtRet w gd d2 L n e w')(hr:rowOf w gd=devA d L)(hf:frOf w gd=(0,0)):
  e=.returned (iv n)∧(rowOf w' gd=devA (if n=0 then d2 else d) L∧frOf w' gd=(0,0))∧Below gd w w'∧∀k,k<w.heap.size->k≠gd->w'.heap[k]?=w.heap[k]?:=by
 obtain⟨w1,w2,rfl,hb1,h1,hb2⟩:=h;have hp:0<(rowOf w gd).size:=by rw[hr,devA_size];decide
 have hlt:=row_lt hp;have hw1:w1.heap[gd]?=w.heap[gd]?:=hb1.block gd hlt;have r1:rowOf w1 gd=devA d L∧frOf w1 gd=(0,0):=by unfold rowOf frOf at *;rw[hw1];exact⟨hr,hf⟩
 have hp1:0<(rowOf w1 gd).size:=by rw[r1.1,devA_size];decide
 have hl1:=hb1.size;by_cases hn:n=0
 ·rw[if_pos hn]at h1⊢;have hz:w2.heap.size=w1.heap.size:=by rw[h1];simp
  have q1:rowOf w2 gd=devA d2 L∧frOf w2 gd=(0,0):=by rw[h1,rowOf_setRow _ _ _ _ hp1,if_pos rfl,frOf_setRow];exact⟨rfl,r1.2⟩
  have hw:w'.heap[gd]?=w2.heap[gd]?:=hb2.block gd (by omega);refine⟨rfl,by unfold rowOf frOf at *;rw[hw];exact q1,?_,fun k hk hne=>?_⟩
  ·refine((hb1.mono (Nat.le_of_lt hlt)).trans ?_).trans (hb2.mono (by omega));rw[h1];exact below_row (Below.refl _ _) nl _
  refine(hb2.block k (by omega)).trans (Eq.trans ?_ (hb1.block k hk));rw[h1];exact setRow_other _ _ _ _ hne
 rw[if_neg hn]at h1⊢;subst h1;have hw:w'.heap[gd]?=w2.heap[gd]?:=hb2.block gd (by omega);exact⟨rfl,by unfold rowOf frOf at *;rw[hw];exact r1,(hb1.mono (Nat.le_of_lt hlt)).trans (hb2.mono (by omega)),fun k hk hne=>(hb2.block k (by omega)).trans (hb1.block k hk)⟩
theorem actsWrite_calls(d:Dev)(L:DLoc)(r:Rec)(torn:Bool)(gd:Nat)(w:World)(hc:copCheck d.c0 d.c1=0)(hr:rowOf w gd=devA d L)(hf:frOf w gd=(0,0)):Calls Tryz.prog 89 #[.agg (recA r),.bool torn,.pointer (some ⟨gd,0,none⟩)] w (WtRet w gd (d.write r torn) L (recWrite d.c0 d.c1 r torn).2):=by
 have K:=qH (fun w=>written_calls d.c0 d.c1 r torn w hc);have a1:=keep1 (bW w) hr (by go_simp) hf;have hp:0<(rowOf w gd).size:=by rw[hr,devA_size];decide
 have hlt:=row_lt hp;have HD:Hid (d.write r torn={d with c0:=(recWrite d.c0 d.c1 r torn).1.1,c1:=(recWrite d.c0 d.c1 r torn).1.2}):=qH rfl;generalize d.write r torn=d2 at *
 obtain⟨⟨⟨p1,p2⟩,e1⟩,hw⟩:∃x,recWrite d.c0 d.c1 r torn=x:=⟨_,rfl⟩;rw[hw]at K HD⊢;dsimp only at HD⊢;clear hw hr hf hp hc;go_enter Tryz.func89,Tryz.ntmps89;go_wp2_with fail;refine(K.out _).mono ?_;rintro e w1 ⟨rfl,hb⟩;have b2:=kp gd (devA d L) hb;have b1:=kp (w.heap.size) (recA r) hb;have HB1:Hid (Below w.heap.size w w1):=qH ((bL _).trans (hb.mono (by simp)));clear hb;by_cases c2:e1=0
 ·subst c2;go_wp2_with fail;go_ret;refine⟨w1,_,rfl,HB1.out,rfl,?_⟩;rw[if_pos rfl,show devA d2 L=devA {d with c0:=p1,c1:=p2} L from by rw[HD.out]];exact(Below.refl _ _).alloc (by simp) _
 have q:(e1==0)=false:=by simp[c2]
 go_wp2_with fail;go_ret;refine⟨w1,_,rfl,HB1.out,rfl,?_⟩;rw[if_neg c2];exact(Below.refl _ _).alloc (by simp) _
theorem x1zo(h:Y:=by
 go_wp2_with fail;refine(actsBad_calls 5 _).mono ?_;rintro e wz ⟨rfl,hb⟩;have z1:=kp (w.heap.size+1+1+1) (devA Dev.zero DLoc.zero) hb;have HBZ:=bU HB1 hb;clear hb;go_wp2_with fail;refine bodyPost_ret (rC (devA Dev.zero DLoc.zero)) rfl ⟨DLoc.zero,rfl,fun v _=>DevIn.zero v,bZ HBZ⟩):Y:=h
theorem x20b(h:Y:=by
 have HB1:=bU HB1 hb;clear hb;go_wp2_with fail;refine bodyPost_ret (rC (devA Dev.zero DLoc.zero)) rfl ⟨DLoc.zero,rfl,fun v _=>DevIn.zero v,bZ HB1⟩):Y:=h
theorem acts_crash(d:Dev)(L:DLoc)(n f t m o:Int)(B:OA)(bl bc:Nat)(w:World)(hu:d.up=true):Calls Tryz.prog 48 #[.agg (devA d L),.agg #[iv 9,iv n],.agg (chkA f t m o B bl bc)] w (RetB w (.tuple #[.agg (devA d.down L.down),iv 0])):=by
 have K1:=qH (fun w=>newest_calls d.c0 d.c1 w);generalize refNewest d.c0 d.c1=q at *
 obtain⟨r,k⟩:=q;have K2:=qH (fun w=>without_calls d L w);go_enter Tryz.func48,Tryz.ntmps48;go_wp2_with fail;refine(K1.out _).mono ?_;rintro e w1 ⟨rfl,hb⟩;have a2:=kp (w.heap.size) (devA d L) hb;have a1:=kp (w.heap.size+1) (#[iv 9,iv n]) hb;have a1:=kp (w.heap.size+1+1+1) (devA Dev.zero DLoc.zero) hb;have HBA:Hid (Below w.heap.size w w1):=qH (((((((bW w).alloc nl (.cells (devA d L) 38)).alloc (by simp) (.cells #[iv 9,iv n] 42)).alloc (by simp;omega) (.cells (chkA f t m o B bl bc) 61)).alloc (by simp;omega) (.cells (devA Dev.zero DLoc.zero) 38)).alloc (by simp;omega) _).trans (hb.mono (by simp;omega)));clear hb;go_wp2_with fail;refine(K2.out _).mono ?_;rintro e w1 ⟨rfl,hb⟩;have a2:=kr a2 hb;have a1:=kr a1 hb;have HB1:Hid (Below w.heap.size w w1):=qH ((HBA.out.alloc HBA.out.size _).trans (hb.mono (by have:=HBA.out.size;simp;omega)));clear hb;go_wp2_with fail;refine bodyPost_ret (rC (devA d.down L.down)) rfl ⟨rfl,bZ HB1⟩
def ActRet(w:World)(d:Dev)(L:DLoc)(d2:Dev)(n:Int):Ending->World->Prop:=fun en w'=>
 ∃L2,en=.returned (.tuple #[.agg (devA d2 L2),iv n])∧(∀v,DevIn v d L->DevIn v d2 L2)∧Below w.heap.size w w'
theorem DevIn.starts{d:Dev}{L:DLoc}(h:DevIn w d L)(p q:Cop)(k:Int)(hk:k=0∨k=1):DevIn w {d with c0:=p,c1:=q,up:=true,running:=k} L:=⟨h.k0,h.l0,h.b0,h.k1,h.l1,h.b1,h.kg,h.lg,h.got,h.job,⟨by show -9223372036854775808<=k;omega,by show k<=9223372036854775807;omega⟩,h.id⟩
theorem acts_boot(d:Dev)(L:DLoc)(n f t m o:Int)(B:OA)(bl bc:Nat)(w:World)(hok:DevOk d)(hu:d.up=false):Calls Tryz.prog 48 #[.agg (devA d L),.agg #[iv 10,iv n],.agg (chkA f t m o B bl bc)] w (ActRet w d L (devBoot d).1 (devBoot d).2):=by
 have hrec:=rec_ok hok;have hdef:devBoot d=if (recStart d.rec_).2.1≠d.rec_ then
    (if (recWrite d.c0 d.c1 (recStart d.rec_).2.1 false).2≠0 then (Dev.zero,(recWrite d.c0 d.c1 (recStart d.rec_).2.1 false).2)
    else ({d.write (recStart d.rec_).2.1 false with up:=true,running:=(recStart d.rec_).1},0))
   else ({d with up:=true,running:=(recStart d.rec_).1},0):=by unfold devBoot;rw[if_neg (by simpa using devCheck_ok.2 hok),if_neg (by rw[hu];decide),if_neg (by rw[refStart_ok hrec];simp)]
 have hsl:(recStart d.rec_).1=0∨(recStart d.rec_).1=1:=by
  rw[start_of hrec];exact(slot_floor hrec 0).1
 have K1:=qH (fun w=>newest_calls d.c0 d.c1 w);rw[refNewest_ok hok.cops]at K1;have hre:(recRead d.c0 d.c1).1=d.rec_:=rfl;have hrg:=(recCheck_parts hrec).1;unfold RangeOk at hrg;have K2:=qH (fun w=>started_calls d.rec_ w (by omega) (by omega));rw[hre]at K1;rw[refStart_ok hrec]at hdef hsl;obtain⟨⟨k,nx⟩,hq⟩:∃x,refStart d.rec_=x:=⟨_,rfl⟩;rw[hq]at hdef hsl K2;dsimp only at hdef hsl K2;have K3:=qH (fun gd w h1 h2=>actsWrite_calls d L nx false gd w hok.cops h1 h2);have HW:Hid (d.write nx false={d with c0:=(recWrite d.c0 d.c1 nx false).1.1,c1:=(recWrite d.c0 d.c1 nx false).1.2}):=qH rfl;obtain⟨⟨⟨p1,p2⟩,e1⟩,hw⟩:∃x,recWrite d.c0 d.c1 nx false=x:=⟨_,rfl⟩;rw[hw]at hdef K3 HW;dsimp only at hdef K3 HW;rw[HW.out]at hdef K3;have HD:=qH hdef;have HSL:=qH hsl;obtain⟨rk,hrk⟩:=eX ((recRead d.c0 d.c1).2);rw[hrk]at K1;generalize devBoot d=res at *
 generalize d.rec_=r at *
 clear hdef hrec hsl hok hq hw HW hre hrg hrk;go_enter Tryz.func48,Tryz.ntmps48;go_wp2_with fail;refine(K1.out _).mono ?_;rintro e w1 ⟨rfl,hb⟩;have a2:=kp (w.heap.size) (devA d L) hb;have a1:=kp (w.heap.size+1) (#[iv 10,iv n]) hb;have a1:=kp (w.heap.size+1+1+1) (devA Dev.zero DLoc.zero) hb;have a3:=kp (w.heap.size+1+1+1+1) (#[.func (Fn.func 88) #[] #[]]) hb;have HB1:Hid (Below w.heap.size w w1):=qH (((((((bW w).alloc nl (.cells (devA d L) 38)).alloc (by simp) (.cells #[iv 10,iv n] 42)).alloc (by simp;omega) (.cells (chkA f t m o B bl bc) 61)).alloc (by simp;omega) (.cells (devA Dev.zero DLoc.zero) 38)).alloc (by simp;omega) _).trans (hb.mono (by simp;omega)));clear hb;go_wp2_with fail;refine(K2.out _).mono ?_;rintro e w2 ⟨rfl,hb⟩;have a2:=kr a2 hb;have a1:=kr a1 hb;have a3:=kr a3 hb;have a4:=kp (w1.heap.size) (recA r) hb;have HB1:Hid (Below w.heap.size w w2):=qH ((HB1.out.alloc HB1.out.size _).trans (hb.mono (by have:=HB1.out.size;simp;omega)));clear hb;by_cases c2:nx≠r
 ·have HD1:=qH (HD.out.trans (if_pos c2));have q1:decide (nx=r)=false:=decide_eq_false c2;clear c2 HD;go_wp2_with fail;refine(K3.out _ _ (by go_simp) (by go_simp)).mono ?_;rintro e w1 ⟨wa,wb,rfl,hba,hwb,hbb⟩;have a1:=kr a1 hba;have a1:=kr a3 hba;have a1:=kr a2 hba;have HBa:=bU HB1 hba;clear hba;by_cases c2:e1≠0
  ·rw[if_neg c2]at hwb;subst hwb;have b1:=kp (w.heap.size+1+1+1) (devA Dev.zero DLoc.zero) hbb;have b1:=kp (w.heap.size+1+1+1+1) (#[.func (Fn.func 88) #[] #[]]) hbb;have b1:=kp (w.heap.size) (devA d L) hbb;have HB1:=bT HBa hbb;have hz:res=(Dev.zero,e1):=HD1.out.trans (if_pos c2);subst hz;have KD:=qH (fun gb gd w h1 h2=>actsDone_bad e1 gb gd w c2 h1 h2);clear hbb c2;go_wp2_with fail;refine(KD.out _ _ _ (by go_simp) (by go_simp)).mono ?_;rintro e w1 ⟨rfl,hb⟩;have c1:=kp (w.heap.size+1+1+1) (devA Dev.zero DLoc.zero) hb;exact x20b
  have c2:=Decidable.not_not.1 c2;subst c2;rw[if_pos rfl]at hwb;subst hwb;have b1:=kp (w.heap.size+1+1+1) (devA Dev.zero DLoc.zero) hbb;have b1:=kp (w.heap.size) (devA {d with c0:=p1,c1:=p2} L) hbb;have HB1:Hid (Below w.heap.size w w1):=qH ((below_row HBa.out (by omega) _).trans (hbb.mono (by have:=HBa.out.size;simp;omega)));clear hbb;have hz:res=({d with c0:=p1,c1:=p2,up:=true,running:=k},0):=HD1.out.trans (if_neg (by decide));clear hu;go_wp2_with fail;refine(actsDone_ok {d with c0:=p1,c1:=p2,up:=true,running:=k} L _ _ _ (by go_simp) (by go_simp)).mono ?_;rintro e w1 ⟨rfl,hb⟩;have c2:=kp (w.heap.size+1+1+1) (devA Dev.zero DLoc.zero) hb;have HB1:=bU HB1 hb;clear hb;go_wp2_with fail;rw[hz];refine bodyPost_ret (rC (devA {d with c0:=p1,c1:=p2,up:=true,running:=k} L)) rfl ⟨L,rfl,fun v h=>h.starts p1 p2 k HSL.out,bZ HB1⟩
 have HD1:=qH (HD.out.trans (if_neg c2));have q1:decide (nx=r)=true:=decide_eq_true (Decidable.not_not.1 c2);clear c2 HD hu;go_wp2_with fail;refine(actsDone_ok {d with up:=true,running:=k} L _ _ _ (by go_simp) (by go_simp)).mono ?_;rintro e w1 ⟨rfl,hb⟩;have a1:=kr a1 hb;have HB1:=bU HB1 hb;clear hb;go_wp2_with fail;rw[HD1.out];refine bodyPost_ret (rC (devA {d with up:=true,running:=k} L)) rfl ⟨L,rfl,fun v h=>h.starts d.c0 d.c1 k HSL.out,bZ HB1⟩
theorem acts_confirm(d:Dev)(L:DLoc)(n f t m o:Int)(B:OA)(bl bc:Nat)(w:World)(hok:DevOk d)(hu:d.up=true):Calls Tryz.prog 48 #[.agg (devA d L),.agg #[iv 8,iv n],.agg (chkA f t m o B bl bc)] w (ActRet w d L (devConfirm d).1 (devConfirm d).2):=by
 have hrec:=rec_ok hok;have hrd:devReady d=0:=by unfold devReady;rw[if_neg (by simpa using devCheck_ok.2 hok),if_neg (by rw[hu];decide)]
 have KN:=qH (fun w=>newest_calls d.c0 d.c1 w);rw[refNewest_ok hok.cops]at KN;obtain⟨rk,hrk⟩:=eX ((recRead d.c0 d.c1).2);have hre:(recRead d.c0 d.c1).1=d.rec_:=rfl;rw[hrk,hre]at KN;clear hrk hre;have hact:=rec_active hrec;have hrun:=(hok.run hu).2;have hdef:devConfirm d=if d.running=d.rec_.active then (Dev.zero,5)else (if (recWrite d.c0 d.c1 (recDone d.rec_) false).2≠0 then (Dev.zero,(recWrite d.c0 d.c1 (recDone d.rec_) false).2)else (d.write (recDone d.rec_) false,0)):=by
  unfold devConfirm;rw[if_neg (by omega)];by_cases c:d.running=d.rec_.active
  ·rw[if_pos c,if_pos c]
  have hc:recConfirm d.rec_=(recDone d.rec_,0):=by unfold recConfirm;rw[if_pos hrec,if_pos (hrun.resolve_left c)]
  rw[if_neg c,if_neg c,hc];rfl
 have HD:=qH hdef;have HR:=qH hrun;have K1:=qH (fun w=>confirmed_calls d.rec_ w (by omega));have K2:=qH (fun gd w h1 h2=>actsWrite_calls d L (recDone d.rec_) false gd w hok.cops h1 h2);generalize devConfirm d=res at *
 clear hrec hrd hok hact hrun hdef;generalize d.rec_=r at *
 go_enter Tryz.func48,Tryz.ntmps48;go_wp2_with fail;refine(KN.out _).mono ?_;rintro e w1 ⟨rfl,hb⟩;have a2:=kp (w.heap.size) (devA d L) hb;have a1:=kp (w.heap.size+1) (#[iv 8,iv n]) hb;have a1:=kp (w.heap.size+1+1+1) (devA Dev.zero DLoc.zero) hb;have a3:=kp (w.heap.size+1+1+1+1) (#[.func (Fn.func 88) #[] #[]]) hb;have HB1:Hid (Below w.heap.size w w1):=qH (((((((bW w).alloc nl (.cells (devA d L) 38)).alloc (by simp) (.cells #[iv 8,iv n] 42)).alloc (by simp;omega) (.cells (chkA f t m o B bl bc) 61)).alloc (by simp;omega) (.cells (devA Dev.zero DLoc.zero) 38)).alloc (by simp;omega) _).trans (hb.mono (by simp;omega)));clear hb;by_cases c1:d.running=r.active
 ·have hz:=HD.out.trans (if_pos c1);subst hz;have q:(d.running==r.active)=true:=by simp[c1]
  clear c1 HD HR K1 K2 KN;exact x1zo
 have ht:=HR.out.resolve_left c1;have q:(d.running==r.active)=false:=by simp[c1]
 have HD1:=qH (HD.out.trans (if_neg c1));clear c1 HD HR KN hu;go_wp2_with fail;refine(K1.out _).mono ?_;rintro e w1 ⟨rfl,hb⟩;have a2:=kr a2 hb;have a1:=kr a1 hb;have a3:=kr a3 hb;have HB1:=bU HB1 hb;clear hb;go_wp2_with fail;refine(K2.out _ _ (by go_simp) (by go_simp)).mono ?_;rintro e w1 ⟨wa,wb,rfl,hba,hwb,hbb⟩;have a1:=kr a1 hba;have a1:=kr a3 hba;have a1:=kr a2 hba;have HBa:=bU HB1 hba;clear hba;obtain⟨e1,he1⟩:=eX ((recWrite d.c0 d.c1 (recDone r) false).2);rw[he1]at hwb HD1⊢;clear he1 K1 K2;by_cases c1:e1≠0
 ·rw[if_neg c1]at hwb;subst hwb;have b1:=kp (w.heap.size+1+1+1) (devA Dev.zero DLoc.zero) hbb;have b1:=kp (w.heap.size+1+1+1+1) (#[.func (Fn.func 88) #[] #[]]) hbb;have b1:=kp (w.heap.size) (devA d L) hbb;have HB1:=bT HBa hbb;have hz:=HD1.out.trans (if_pos c1);subst hz;have KD:=qH (fun gb gd w h1 h2=>actsDone_bad e1 gb gd w c1 h1 h2);clear hbb c1;go_wp2_with fail;refine(KD.out _ _ _ (by go_simp) (by go_simp)).mono ?_;rintro e w1 ⟨rfl,hb⟩;have c1:=kp (w.heap.size+1+1+1) (devA Dev.zero DLoc.zero) hb;exact x20b
 have c1:=Decidable.not_not.1 c1;subst c1;rw[if_pos rfl]at hwb;subst hwb;have hz:=HD1.out.trans (if_neg (by decide));subst hz;have hin:∀v,DevIn v d L->DevIn v (d.write (recDone r) false) L:=fun v h=>⟨h.k0,h.l0,h.b0,h.k1,h.l1,h.b1,h.kg,h.lg,h.got,h.job,h.ir,h.id⟩;have HIN:=qH hin;clear hin;generalize d.write (recDone r) false=d2 at *
 have b1:=kp (w.heap.size+1+1+1) (devA Dev.zero DLoc.zero) hbb;have b1:=kp (w.heap.size) (devA d2 L) hbb;have HB1:Hid (Below w.heap.size w w1):=qH ((below_row HBa.out (by omega) _).trans (hbb.mono (by have:=HBa.out.size;simp;omega)));clear hbb;go_wp2_with fail;refine(actsDone_ok d2 L _ _ _ (by go_simp) (by go_simp)).mono ?_;rintro e w1 ⟨rfl,hb⟩;have c1:=kp (w.heap.size+1+1+1) (devA Dev.zero DLoc.zero) hb;have HB1:=bU HB1 hb;clear hb;go_wp2_with fail;refine bodyPost_ret (rC (devA d2 L)) rfl ⟨L,rfl,HIN.out,bZ HB1⟩
def idxR(p:Chk->Bool):List Chk->Nat->Int
 |[],_=> -1
 |x::r,k=>if p x=true then (k:Int)else idxR p r (k+1)
theorem idxR_f{p:Chk->Bool}{x:Chk}{r:List Chk}(h:p x=false):idxR p (x::r) k=idxR p r (k+1):=if_neg (by simp[h])
theorem idxR_t{p:Chk->Bool}{x:Chk}{r:List Chk}(h:p x=true):idxR p (x::r) k=(k:Int):=if_pos h
theorem idxR_spec(p:Chk->Bool):∀(l:List Chk) (k:Nat),(l.find? p=none∧idxR p l k= -1)∨∃j x,l[j]?=some x∧idxR p l k=((k+j:Nat):Int)∧l.find? p=some x
 |[],k=>.inl ⟨rfl,rfl⟩
 |x::r,k=>by
  by_cases h:p x=true
  ·exact .inr ⟨0,x,rfl,by rw[idxR_t h];simp,by simp[h]⟩
  have h:=Bool.eq_false_iff.2 h;rw[idxR_f h];rcases idxR_spec p r (k+1)with ⟨h1,h2⟩|⟨j,y,h1,h2,h3⟩
  ·exact .inl ⟨by simp[h,h1],h2⟩
  exact .inr ⟨j+1,y,by simpa using h1,by rw[h2];congr 1;omega,by simp[h,h3]⟩
def isN(x:Chk)(n:Int):Bool:=x.n==n
theorem atN_isN(l:List Chk)(n:Int):atN l n=l.find? (fun x=>isN x n):=rfl
theorem raN_go(x:Chk)(n:Int)(B:OA)(k g:Nat)(w:World)(hlt:g<w.heap.size)(hc:w.cell? ⟨g,0,none⟩=some (iv n))(b0:Bool)(hb0:(x.n==n)=b0):
  Calls Tryz.prog 124 #[.agg (chkA x.from_ x.to_ x.n x.of_ B x.data.length k),.pointer (some ⟨g,0,none⟩)] w (RetB w (.bool (b0))):=by
 cases b0<;>(
  go_enter Tryz.func124,Tryz.ntmps124;go_wp2_with fail;go_ret;exact⟨rfl,bL _⟩)
theorem raN_calls(x:Chk)(n:Int)(B:OA)(k g:Nat)(w:World)(hlt:g<w.heap.size)(hc:w.cell? ⟨g,0,none⟩=some (iv n)):
  Calls Tryz.prog 124 #[.agg (chkA x.from_ x.to_ x.n x.of_ B x.data.length k),.pointer (some ⟨g,0,none⟩)] w (RetB w (.bool (isN x n))):=by
 refine(raN_go x n B k g w hlt hc _ rfl).mono fun _ _ h=>?_;exact h
theorem raN_idx(A:OA)(cc g:Nat)(l:List Chk)(n:Int)(w:World)(hl:l.length<=2513169434843)(hs:Chs w A l)(hlt:g<w.heap.size)(hc:w.cell? ⟨g,0,none⟩=some (iv n)):
  Calls Tryz.prog 123 #[.slice A l.length cc,.func (Fn.func 124) #[] #[.pointer (some ⟨g,0,none⟩)]] w (RetB w (iv (idxR (fun x=>isN x n) l 0))):=by
 have HS:=qH hs;have HCC:Hid (∀(x:Chk) (B:OA) (k:Nat) w',Below w.heap.size w w'->Calls Tryz.prog 124 #[.agg (chkA x.from_ x.to_ x.n x.of_ B x.data.length k),.pointer (some ⟨g,0,none⟩)] w' (RetB w' (.bool ((fun x=>isN x n) x)))):=qH fun x B k w' hb=>raN_calls x n B k g w' (by have:=hb.size;omega) ((hb.cell (p:=⟨g,0,none⟩) hlt).trans hc);clear hs hc;generalize (fun x=>isN x n)=p at *
 obtain⟨r,hr⟩:=eX (idxR p l 0);rw[hr];have HR:Hid (idxR p l 0=r):=qH hr;clear hr;go_enter Tryz.func123,Tryz.ntmps123;go_wp2_with fail;go_loopw [8] (fun i wr=>∃k:Nat,k<=l.length∧i=iv k∧Hid (idxR p (l.drop k) k=r)∧Hid (Below w.heap.size w wr)) (fun i _=>l.length-(intOf i).toNat)
 case atStart=>exact⟨0,Nat.zero_le _,rfl,qH HR.out,qH (Below.refl _ _)⟩
 case round=>
  rename World=>wr;obtain⟨k,hk,rfl,HE,HB⟩:=hrel;have hsz:=HB.out.size;by_cases hlk:k<l.length
  ·obtain⟨b,o,B,cx,rfl,hs1,p6,p1,p2,p3,p4,p5⟩:=(HS.out.stays HB.out).at_ hlk;have hdr:l.drop k=l[k]::l.drop (k+1):=List.drop_eq_getElem_cons hlk;rw[hdr]at HE;clear p5 hdr;generalize l[k]=x at *
   obtain⟨q,hq⟩:=eX (p x);have HX:Hid (p x=q):=qH hq;have HC1:Hid (∀w',Below wr.heap.size wr w'->Calls Tryz.prog 124 #[.agg (chkA x.from_ x.to_ x.n x.of_ B x.data.length cx),.pointer (some ⟨g,0,none⟩)] w' (RetB w' (.bool q))):=qH fun w' hb=>by
    have:=HCC.out x B cx w' (HB.out.trans (hb.mono HB.out.size));rwa [hq]at this
   clear hq;go_wp2_with fail;refine(HC1.out _ ?_).mono ?_
   ·exact x9q7
   rintro e w1 ⟨rfl,hb1⟩;have HB1:Hid (Below w.heap.size w w1):=by
    exact x2ri
   clear hb1
   cases q
   ·have HE1:Hid (idxR p (l.drop (k+1)) (k+1)=r):=qH ((idxR_f HX.out).symm.trans HE.out);clear HE HX;exact x0jj
   have HE1:Hid ((k:Int)=r):=qH ((idxR_t HX.out).symm.trans HE.out);clear HE HX;exact x9r8
  exact x4mb
theorem x7fl(h:Y:=by
 clear g1 g2;go_enter Tryz.func20,Tryz.ntmps20;go_wp2_with fail;refine(refIn_t (n:=f) (a:=1) (b:=30) (by omega) _).mono ?_;rintro e u ⟨rfl,rfl⟩;go_wp2_with fail;refine(refIn_t (n:=t) (a:=1) (b:=30) (by omega) _).mono ?_;rintro e u ⟨rfl,rfl⟩;go_wp2_with fail;refine(refIn_t (n:=o) (a:=1) (b:=52) (by omega) _).mono ?_;rintro e u ⟨rfl,rfl⟩;go_wp2_with fail;refine(I.out _).mono ?_;rintro e u ⟨rfl,rfl⟩;go_wp2_with fail;go_ret;exact⟨ret_int hz.out.symm,hA⟩):Y:=h
theorem refChkCheck_calls(A:OA)(c:Nat)(f t n o:Int)(l:LU)(w:World)(hn:I64 n)(ho:I64 o):
  Calls Tryz.prog 20 #[.agg (chkA f t n o A l.length c)] w (RetB w (iv (chkCheck ⟨f,t,n,o,l⟩))):=by
 obtain⟨hn1,hn2⟩:=hn;obtain⟨ho1,ho2⟩:=ho;have hb:Below w.heap.size w (w.alloc (.cells (chkA f t n o A l.length c) 61)):=bL _;have HB:=qH hb;clear hb;by_cases h5:f<(1:Int)∨(30:Int)<f
 ·have hz:=qH (chkCheck_bad (x:=⟨f,t,n,o,l⟩) (by unfold Chk.range;dsimp only;omega));go_enter Tryz.func20,Tryz.ntmps20;go_wp2_with fail;refine(refIn_f (n:=f) (a:=1) (b:=30) (by omega) _).mono ?_;rintro e u ⟨rfl,rfl⟩;exact x73o
 by_cases h1:t<(1:Int)∨(30:Int)<t
 ·have hz:=qH (chkCheck_bad (x:=⟨f,t,n,o,l⟩) (by unfold Chk.range;dsimp only;omega));go_enter Tryz.func20,Tryz.ntmps20;go_wp2_with fail;refine(refIn_t (n:=f) (a:=1) (b:=30) (by omega) _).mono ?_;rintro e u ⟨rfl,rfl⟩;go_wp2_with fail;refine(refIn_f (n:=t) (a:=1) (b:=30) (by omega) _).mono ?_;rintro e u ⟨rfl,rfl⟩;exact x73o
 by_cases h1:o<(1:Int)∨(52:Int)<o
 ·have hz:=qH (chkCheck_bad (x:=⟨f,t,n,o,l⟩) (by unfold Chk.range;dsimp only;omega));go_enter Tryz.func20,Tryz.ntmps20;go_wp2_with fail;refine(refIn_t (n:=f) (a:=1) (b:=30) (by omega) _).mono ?_;rintro e u ⟨rfl,rfl⟩;go_wp2_with fail;refine(refIn_t (n:=t) (a:=1) (b:=30) (by omega) _).mono ?_;rintro e u ⟨rfl,rfl⟩;go_wp2_with fail;refine(refIn_f (n:=o) (a:=1) (b:=52) (by omega) _).mono ?_;rintro e u ⟨rfl,rfl⟩;exact x73o
 by_cases h1:n<(0:Int)
 ·have hz:=qH (chkCheck_bad (x:=⟨f,t,n,o,l⟩) (by unfold Chk.range;dsimp only;omega));go_enter Tryz.func20,Tryz.ntmps20;go_wp2_with fail;refine(refIn_t (n:=f) (a:=1) (b:=30) (by omega) _).mono ?_;rintro e u ⟨rfl,rfl⟩;go_wp2_with fail;refine(refIn_t (n:=t) (a:=1) (b:=30) (by omega) _).mono ?_;rintro e u ⟨rfl,rfl⟩;go_wp2_with fail;refine(refIn_t (n:=o) (a:=1) (b:=52) (by omega) _).mono ?_;rintro e u ⟨rfl,rfl⟩;exact x73o
 by_cases h1:o<=n
 ·have hz:=qH (chkCheck_bad (x:=⟨f,t,n,o,l⟩) (by unfold Chk.range;dsimp only;omega));go_enter Tryz.func20,Tryz.ntmps20;go_wp2_with fail;refine(refIn_t (n:=f) (a:=1) (b:=30) (by omega) _).mono ?_;rintro e u ⟨rfl,rfl⟩;go_wp2_with fail;refine(refIn_t (n:=t) (a:=1) (b:=30) (by omega) _).mono ?_;rintro e u ⟨rfl,rfl⟩;go_wp2_with fail;refine(refIn_t (n:=o) (a:=1) (b:=52) (by omega) _).mono ?_;rintro e u ⟨rfl,rfl⟩;exact x73o
 have hr:Chk.range ⟨f,t,n,o,l⟩:=by unfold Chk.range;dsimp only;omega
 have HR:=qH hr;clear hr;have hw:IntKind.i64.wrap (o-1)=o-1:=IntWalk.i64_in _ (by omega);by_cases g1:n=o-1
 ·have q1:(n==o-1)=true:=by simp[g1]
  by_cases g2:l.length=0∨16<l.length
  ·have hz:=qH (chkCheck_form HR.out (fun e=>by have:=full_len.1 e;omega));have I:=qH (fun w=>refIn_f (n:=(l.length:Int)) (a:=1) (b:=16) (by omega) w);exact x7fl
  have hz:=qH (chkCheck_fine HR.out (full_len.2 ⟨by omega,by omega,fun h=>by omega⟩));have I:=qH (fun w=>refIn_t (n:=(l.length:Int)) (a:=1) (b:=16) (by omega) w);exact x7fl
 have q1:(n==o-1)=false:=beq_eq_false_iff_ne.2 g1;by_cases g2:l.length=16
 ·have hz:=qH (chkCheck_fine HR.out (full_len.2 ⟨by omega,by omega,fun h=>g2⟩));have I:=qH (fun w=>refIn_t (n:=(l.length:Int)) (a:=16) (b:=16) (by omega) w);exact x7fl
 have hz:=qH (chkCheck_form HR.out (fun e=>by have:=(full_len.1 e).2.2 (by omega);omega));have I:=qH (fun w=>refIn_f (n:=(l.length:Int)) (a:=16) (b:=16) (by omega) w);exact x7fl
theorem refChkCheckX_calls(A:OA)(c:Nat)(x:Chk)(w:World)(h:I64 x.n∧I64 x.of_):
  Calls Tryz.prog 20 #[.agg (chkA x.from_ x.to_ x.n x.of_ A x.data.length c)] w (RetB w (iv (chkCheck x))):=refChkCheck_calls A c x.from_ x.to_ x.n x.of_ x.data w h.1 h.2
theorem refChkList_calls(A:OA)(c:Nat)(l:List Chk)(w:World)(hl:l.length<=2513169434843)(hs:Chs w A l):
  Calls Tryz.prog 65 #[.slice A l.length c] w (RetB w (iv (chkList l))):=by
 have HS:=qH hs;clear hs;obtain⟨r,hr⟩:=eX (chkList l);rw[hr];have HR:Hid (listGo none l=r):=qH hr;clear hr;go_enter Tryz.func65,Tryz.ntmps65;go_wp2_with fail;go_loopw [9,3] (fun i z wr=>∃(k:Nat) (m:Int),k<=l.length∧i=iv k∧z=iv m∧Hid (listGo ((l.take k).getLast?) (l.drop k)=r)∧Hid (k=0->m= -1)∧Hid (∀q,(l.take k).getLast?=some q->q.n=m∧∀x0,l[0]?=some x0->kin x0 q)∧Hid (Below w.heap.size w wr)) (fun i _ _=>l.length-(intOf i).toNat)
 case atStart=>exact⟨0,-1,Nat.zero_le _,rfl,rfl,qH HR.out,qH (fun _=>rfl),qH (fun q e=>by simp at e),qH (Below.refl _ _)⟩
 case round=>
  rename World=>wr;obtain⟨k,m,hk,rfl,rfl,HE,HM1,HQ,HB⟩:=hrel;have hsz:=HB.out.size;by_cases hlt:k<l.length
  ·obtain⟨b,o,B,cx,rfl,hb,hat,hin⟩:=HS.out.chk hlt;have hdr:l.drop k=l[k]::l.drop (k+1):=List.drop_eq_getElem_cons hlt;have hlast:(l.take (k+1)).getLast?=some l[k]:=by rw[List.take_succ_eq_append_getElem hlt,List.getLast?_concat]
   obtain⟨x0,hx1⟩:∃x0,l[0]?=some x0:=⟨_,List.getElem?_eq_getElem (by omega)⟩;have hat1:∃D d,ChkAt w b o x0 D d:=by
    obtain⟨b',o',D,d,e,_,h1,_⟩:=HS.out.chk (i:=0) (by omega);injection e with e;injection e with e1 e2;subst e1 e2;rw[List.getElem?_eq_getElem (by omega)]at hx1;injection hx1 with hx1;rw[hx1]at h1;exact⟨D,d,by simpa using h1⟩
   obtain⟨D1,d1,hat1⟩:=hat1;have h3:k=0->l[k]=x0:=fun e=>by
    subst e;rw[List.getElem?_eq_getElem (by omega)]at hx1;injection hx1
   obtain⟨x,hx⟩:=eX (l[k]);rw[hx]at hdr hlast hat hin h3;rw[hdr]at HE;obtain⟨p,hp⟩:=eX ((l.take k).getLast?);rw[hp]at HE HQ;have HX1:=qH hx1;have HFOL:Hid (chkCheck x=0->(follows p x↔kin x0 x∧m<x.n)):=qH (fun hck=>by
    by_cases hk1:k=0
    ·have e1:p=none:=by rw[<-hp,hk1];simp
     have e2:=HM1.out hk1;have e3:=h3 hk1;obtain⟨⟨_,_,_,_,_,_,h1,_⟩,_⟩:=chkCheck_ok.1 hck;subst e1 e2 e3;exact⟨fun _=>⟨kin_refl _,by omega⟩,fun _ q e=>by cases e⟩
    obtain⟨q,hq⟩:∃q,p=some q:=by
     rw[<-hp,List.getLast?_take,if_neg hk1,List.getElem?_eq_getElem (by omega)];exact⟨_,rfl⟩
    obtain⟨g1,g2⟩:=HQ.out q hq;have g2:=g2 x0 hx1;subst hq g1;constructor
    ·intro h;obtain⟨h1,h2⟩:=h q rfl;exact⟨kin_trans g2 h1,h2⟩
    rintro⟨h1,h2⟩ z e;injection e with e;subst e;exact⟨kin_trans (kin_symm g2) h1,h2⟩)
   have HLAST:=qH hlast;have hat2:=hat.stays hb HB.out;have hat3:=hat1.stays hb HB.out;obtain⟨c5,c1,c2,c3,c4⟩:=hat2;obtain⟨y5,y1,y2,y3,y4⟩:=hat3;have HK:=qH (fun w=>refChkCheckX_calls B cx x w ⟨hin.i2,hin.i3⟩);have hblt:b<wr.heap.size:=by omega
   have dl:decide ((k:Int)<(l.length:Int))=true:=decide_eq_true (by omega);have hwk:IntKind.i64.wrap ((k:Int)+1)=(k:Int)+1:=IntWalk.i64_in _ (by omega);have hl1:¬(l.length:Int)<=0:=by omega
   have hne:¬l=[]:=fun e=>by rw[e]at hlt;simp at hlt
   clear hdr hlast hx hp hat hin hat1 h3 hx1 HM1 HQ;by_cases hck:chkCheck x≠0
   ·have hz:r=chkCheck x:=by rw[<-HE.out,listGo_bad hck]
    have q:(chkCheck x !=0)=true:=by simp[hck]
    have HZ:=qH hz;clear hck hz;go_wp2_with fail;refine(HK.out _).mono ?_;rintro e w1 ⟨rfl,hb1⟩;have HB1:Hid (Below w.heap.size w w1):=by
     exact x2ri
    clear hb1;exact x09a
   have hck:=Decidable.not_not.1 hck;have HCK:=qH hck;have HFO:=qH (HFOL.out hck);rw[hck]at HK;clear hck HFOL;go_wp2_with fail;refine(HK.out _).mono ?_;rintro e w1 ⟨rfl,hb1⟩;have a1:=kp (wr.heap.size) (chkA x.from_ x.to_ x.n x.of_ B x.data.length cx) hb1;have hbb:Below wr.heap.size wr w1:=by
    refine Below.trans ?_ (hb1.mono (by first|omega|(simp<;>omega)));exact x9q7
   have HB1:Hid (Below w.heap.size w w1):=qH (HB.out.trans (hbb.mono hsz));have y5:=(hbb.cell (p:=⟨b,o,none⟩) hblt).trans y5;have y1:=(hbb.cell (p:=⟨b,o+1,none⟩) hblt).trans y1;have y3:=(hbb.cell (p:=⟨b,o+3,none⟩) hblt).trans y3;have hs1:=HB1.out.size;have hs2:=hbb.size;have hbl1:b<w1.heap.size:=by omega
   clear hb1 hbb c5 c1 c2 c3 c4 y2 y4;go_upto_region 8 with fail
   obtain⟨v4,hv4⟩:∃v,(x.from_ !=x0.from_)=v:=⟨_,rfl⟩;obtain⟨v1,hv1⟩:∃v,(x.to_ !=x0.to_)=v:=⟨_,rfl⟩;obtain⟨v2,hv2⟩:∃v,(x.of_ !=x0.of_)=v:=⟨_,rfl⟩;obtain⟨v3,hv3⟩:∃v,decide (x.n<=m)=v:=⟨_,rfl⟩;have HV:Hid ((v4 || v1 || v2 || v3)=true↔¬(kin x0 x∧m<x.n)):=qH (by
    have hki:kin x0 x↔x0.from_=x.from_∧x0.to_=x.to_∧x0.of_=x.of_:=Iff.rfl;rw[hki,<-hv4,<-hv1,<-hv2,<-hv3];simp only[Bool.or_eq_true,bne_iff_ne,ne_eq,decide_eq_true_eq];omega)
   go_cut [48] (fun v wx=>v=.bool (v4 || v1 || v2 || v3)∧Hid (Below w1.heap.size w1 wx))
   case first=>
    clear hs1 hs2 hsz hbl1 HFO HV HE
    cases v4<;>cases v1<;>cases v2<;>cases v3<;>(
     go_quiet (fail)
     go_wp2_with fail;go_meet
     case rel=>exact⟨rfl,qH (below_drewN _ _)⟩)
   case rest=>
   obtain⟨rfl,hcb⟩:=hcut;have HB1:=bT HB1 hcb.out;have a1:=keep1 (g:=wr.heap.size) (cs:=chkA x.from_ x.to_ x.n x.of_ B x.data.length cx) hcb.out a1.1 (by go_simp) a1.2.1;clear hv4 hv1 hv2 hv3 hcb y5 y1 y3;by_cases hf:kin x0 x∧m<x.n
   ·have hv:(v4 || v1 || v2 || v3)=false:=Bool.eq_false_iff.2 fun e=>HV.out.1 e hf;have HKI:=qH hf.1;have HZ:Hid (listGo (some x) (l.drop (k+1))=r):=qH (by rw[<-HE.out,listGo_next HCK.out (HFO.out.2 hf)]);rw[hv];clear hf hv HV;go_wp2_with fail;go_roundw
    case rel=>exact⟨k+1,x.n,by omega,by go_num,rfl,qH (by rw[HLAST.out];exact HZ.out),qH (fun e=>by omega),qH (fun q e=>by rw[HLAST.out]at e;injection e with e;subst e;exact⟨rfl,fun z hz=>by rw[HX1.out]at hz;injection hz with hz;subst hz;exact HKI.out⟩),HB1⟩
    case measure=>simp[intOf];omega
   have hv:(v4 || v1 || v2 || v3)=true:=HV.out.2 hf;have HZ:Hid (r=3):=qH (by rw[<-HE.out,listGo_form HCK.out (by rw[HFO.out];exact hf)]);rw[hv];clear hf hv HV;exact x09a
  have hz:r=0:=by rw[<-HE.out,List.drop_of_length_le (by omega)];rfl
  exact x8vr
theorem x6bz(h:Y:=by
 go_wp2_with fail;go_roundw
 case rel=>exact⟨k+1,ds.set k (B,d),by omega,by go_num,HR2,HN1,HBB⟩
 case measure=>simp[intOf];omega):Y:=h
theorem x6wy(h:Y:=by
 obtain rfl:k=l.length:=by omega
 have dl:decide ((l.length:Int)<(l.length:Int))=false:=by simp
 go_wp2_with fail;go_ret;exact⟨A1,c1,ds,rfl,HR.out,fun i o d h1 h2 hx q hq=>HN.out i o d (List.getElem?_eq_some_iff.1 h1).1 h1 h2 hx q hq,HB.out⟩):Y:=h
theorem x9r5(h:Y:=by
 rw[List.getElem?_set]at h2;by_cases hjk:k=j
 ·by_cases hdl:k<ds.length
  ·rw[if_pos hjk,if_pos hdl]at h2;injection h2 with h2;subst h2;have:=hgw q hq;omega
  ·rw[if_pos hjk,if_neg hdl]at h2;cases h2
 rw[if_neg hjk]at h2;exact HN.out j o d' (by omega) h1 h2 hx q hq):Y:=h
def KrRet{α:Type}(K:Kd α)(w:World)(l:List α):Ending->World->Prop:=fun en w'=>
 ∃A c ds,en=.returned (.slice A l.length c)∧GRow K w' w.heap.size l ds A c∧Each K l ds (fun k=>w.heap.size<=k)∧Below w.heap.size w w'
theorem chkCopy_calls(A:OA)(c:Nat)(l:List Chk)(w:World)(hl:l.length<=2513169434843)(hs:Chs w A l):
  Calls Tryz.prog 54 #[.slice A l.length c] w (KrRet kChk w l):=by
 obtain⟨ds1,hg⟩:=hs.gsrc;have hbd:=hs.bound;have HBD:=qH hbd;have HG:=qH hg;have K1:=qH (cloneChunks_calls A l.length c (kChk.cells l ds1) w (cells_len _ _ hg.len) (by omega) hg.row (cells_oneCell _ _));clear hs hg hbd;go_enter Tryz.func54,Tryz.ntmps54;go_wp2_with fail;refine K1.out.mono ?_;rintro e w1 ⟨A1,c1,rfl,hown,hb1⟩;have hrow:GRow kChk w1 w.heap.size l ds1 A1 c1:=⟨HG.out.len,hown,(HG.out.stays hb1).data,fun i o d h1 h2 hx k hk e=>by
  have:=HG.out.each i o d h1 h2 hx k hk;have:=(hown.block k e).1;omega⟩
 have HR1:=qH hrow;have HB1:Hid (Below w.heap.size w w1):=qH hb1;clear hown hb1 hrow K1;go_wp2_with fail;go_loopw [9] (fun i wr=>∃(k:Nat) (ds:List (Option Addr×Nat)),k<=l.length∧i=iv k∧Hid (GRow kChk wr w.heap.size l ds A1 c1)∧Hid (∀(j:Nat) (o:Chk) (d:Option Addr×Nat),j<k->l[j]?=some o->ds[j]?=some d->kChk.dat o≠[]->∀q,d.1.map (·.block)=some q->w.heap.size<=q)∧Hid (Below w.heap.size w wr)) (fun i _=>l.length-(intOf i).toNat)
 case atStart=>exact⟨0,ds1,Nat.zero_le _,rfl,HR1,qH (fun j o d h=>by omega),HB1⟩
 case round=>
  clear HR1 HB1;rename World=>wr;obtain⟨k,ds,hk,rfl,HR,HN,HB⟩:=hrel;have hsz:=HB.out.size;by_cases hlt:k<l.length
  ·obtain⟨g,rfl,hg1,hg2⟩:=HR.out.row.form (by omega);have hlk:l[k]?=some l[k]:=List.getElem?_eq_getElem hlt;have hdk:ds[k]?=some (ds[k]'(by have:=HR.out.len;omega)):=List.getElem?_eq_getElem _;obtain⟨x,hx⟩:=eX (l[k]);obtain⟨e,he⟩:=eX (ds[k]'(by have:=HR.out.len;omega));rw[hx]at hlk;rw[he]at hdk;have hcell:∀j,j<5->wr.cell? ⟨g,k*5+j,none⟩=(kChk.cell x e)[j]?:=fun j hj=>by
    rw[HR.out.row.cellAt _ (show k*5+j<l.length*5 by omega)];exact cells_at (K:=kChk) l ds HR.out.len k j x e hlk hdk hj
   have q5:wr.cell? ⟨g,k*5,none⟩=some (iv x.from_):=hcell 0 (by decide);have q1:wr.cell? ⟨g,k*5+1,none⟩=some (iv x.to_):=hcell 1 (by decide);have q2:wr.cell? ⟨g,k*5+2,none⟩=some (iv x.n):=hcell 2 (by decide);have q3:wr.cell? ⟨g,k*5+3,none⟩=some (iv x.of_):=hcell 3 (by decide);have q4:wr.cell? ⟨g,k*5+4,none⟩=some (.slice e.1 x.data.length e.2):=hcell 4 (by decide);obtain⟨hd1,hd2⟩:=HR.out.data k x e hlk hdk;have hxl:x.data.length<=140737488351232:=(HBD.out x (List.mem_of_getElem? hlk)).1;have HD1:Hid (Bts wr e.1 x.data):=qH hd1;have HLK:=qH hlk;have HDK:=qH hdk;have K1:=qH (fun w h=>cloneBytes_calls e.1 x.data.length e.2 (x.data.map bv) w (by simp) (by omega) h (bv_one _));have hfr:wr.frozen? ⟨g,k*5+4,none⟩=false:=HR.out.row.frozenAt _;have dl:decide ((k:Int)<(l.length:Int))=true:=decide_eq_true (by omega);have hwk:IntKind.i64.wrap ((k:Int)+1)=(k:Int)+1:=IntWalk.i64_in _ (by omega);have hcap:(l.length:Int)<=(c1:Int):=by have:=HR.out.row.le;omega
   clear hcell hx he hlk hdk hd1 hd2;go_wp2_with fail;have hba:=(bW wr).alloc nl (.cells (chkA x.from_ x.to_ x.n x.of_ e.1 x.data.length e.2) 61);refine(K1.out _ (HD1.out.stays hba).src).mono ?_;rintro en w1 ⟨B,d,rfl,hob,hb1⟩;have hb2:=hba.trans (hb1.mono (by simp));have HR1:=qH (HR.out.below hb2);have hq1:w1.cell? ⟨g,k*5+4,none⟩=some (.slice e.1 x.data.length e.2):=(hb2.cell (p:=⟨g,k*5+4,none⟩) hg2).trans q4;have hf1:w1.frozen? ⟨g,k*5+4,none⟩=false:=(hb2.frozen (p:=⟨g,k*5+4,none⟩) hg2).trans hfr;have HBB:Hid (Below w.heap.size w (w1.setCell ⟨g,k*5+4,none⟩ (.slice B x.data.length d))):=qH ((HB.out.trans (hb2.mono hsz)).setCell (p:=⟨g,k*5+4,none⟩) hg1 _);have hgw:∀q,B.map (·.block)=some q->wr.heap.size+1<=q:=fun q h=>by have:=(hob.block q h).1;simpa using this
   have HR1:Hid (GRow kChk (w1.setCell ⟨g,k*5+4,none⟩ (.slice B x.data.length d)) w.heap.size l (ds.set k (B,d)) (some ⟨g,0,none⟩) c1):=qH (HR1.out.setData (e:=(B,d)) HLK.out hob.src.bts (by show x.data.length<=d;simpa using hob.le) (fun _ q h e2=>by have:=hgw q h;omega));have HN1:Hid (∀(j:Nat) (o:Chk) (d':Option Addr×Nat),j<k+1->l[j]?=some o->(ds.set k (B,d))[j]?=some d'->kChk.dat o≠[]->∀q,d'.1.map (·.block)=some q->w.heap.size<=q):=qH (fun j o d' hj h1 h2 hx q hq=>by
    exact x9r5)
   have a1:=kp (wr.heap.size) (chkA x.from_ x.to_ x.n x.of_ e.1 x.data.length e.2) hb1;clear hob hb1 hb2 hba q5 q1 q2 q3 q4 hfr hgw a1;go_wp2_with fail;go_roundw
   case rel=>exact⟨k+1,ds.set k (B,d),by omega,by go_num,HR1,HN1,HBB⟩
   case measure=>simp[intOf];omega
  exact x6wy
def ChkRet2(w:World)(l:List Chk)(n:Int):Ending->World->Prop:=fun en w'=>
 ∃A c ds,en=.returned (.tuple #[.slice A l.length c,iv n])∧GRow kChk w' w.heap.size l ds A c∧Each kChk l ds (fun k=>w.heap.size<=k)∧Below w.heap.size w w'
theorem wp_val{P:Program}{o:Oper}{a:Act}{K:Act->World->Prop}{Q:Exit->Act->World->Prop}{v:Value}(e:(execOp a.eval o).run P w=.ok (.value v) w)(h:K (a.put o.dst v) w):Oper.wp P o a w K Q:=by
 unfold Oper.wp;rw[e];exact h
theorem mid_slice{ab ao:Nat}{l:LU}{c:Nat}{z1 z2:Int}(i y:Nat)(h1:z1=(i:Int))(h2:z2=(i:Int)+(y:Int))(hc:l.length<=c)(hy:i+y<=l.length)(hB:Bts w (some ⟨ab,ao,none⟩) l):∃o' c',y<=c'∧Bts w (some ⟨ab,o',none⟩) ((l.drop i).take y)∧
  ∀W,(Instr.slice 23 (.slice (some ⟨ab,ao,none⟩) l.length c) (some (iv z1)) (some (iv z2)) none).run Tryz.prog W=.ok (.slice (some ⟨ab,o',none⟩) y c') W:=by
 subst h1 h2;have q1:(i:Int)+(y:Int)<=(c:Int):=by omega
 have q1:(i:Int)<=(i:Int)+(y:Int):=by omega
 have q1:i+y-i=y:=by omega
 by_cases e:c=i
 ·have hy1:y=0:=by omega
  subst hy1;refine⟨ao,c-i,by omega,by simpa using Bts.nil _ _,fun W=>?_⟩;go_simp
 refine⟨ao+i,c-i,by omega,mid_take (mid_at hB i) y,fun W=>?_⟩;go_simp;omega
theorem x1jh(h:Y:=by
 intro done cv k1 a wq hw h hJ hn;have e1:=mO 1 (.pointer (some ⟨g,0,none⟩)) h;go_simp):Y:=h
theorem x60d(h:Y:=by
 rintro e w' ⟨A1,c1,ds,rfl,hrow,heach,hbel⟩;exact⟨_,rfl,_,rfl,A1,c1,ds,by simp,hrow,heach,(Below.refl _ _).drew.trans hbel⟩):Y:=h
def apJ(w0:World)(base:Nat)(e:TypeId)(size:Nat)(A:OA)(n c:Nat)(xs ns:List Value)(m:Nat)(ib ia:Nat)(F:World->Prop):Nat->(Nat->Value)->World->Prop
 |0,_,w=>w=w0.drew
 |1,cv,w=>w=w0.drew.alloc (.cells ns.toArray e)∧cv ib=.slice (some ⟨w0.heap.size,0,none⟩) m m
 |2,cv,w=>∃A' c',cv ia=.slice A' (n+m) c'∧Own w base e size A' (n+m) c' (xs++ns)∧Below base w0 w∧(∀k,k<w0.heap.size->A.map (·.block)≠some k->w.heap[k]?=w0.heap[k]?)∧(A'.map (·.block)=A.map (·.block)∨∀k,A'.map (·.block)=some k->w0.heap.size<=k)
 |_,_,w=>F w
section
variable {w0 w w':World} {base size n c m ib ia k:Nat} {e T:TypeId} {A A':OA} {c':Nat} {xs ns:List Value} {F:World->Prop} {cv:Nat->Value}
theorem apJ_blk{o:Obj}(hk:k<=1)(hJ:apJ w0 base e size A n c xs ns m ib ia F k cv w)(h:w0.heap[g]?=some o):w.heap[g]?=some o:=by
 match k,hk,hJ with
 |0,_,hJ=>obtain rfl:w=w0.drew:=hJ;exact h
 |1,_,⟨hJ,_⟩=>subst hJ;exact blk_old (w:=w0.drew) h
theorem apJ_app(hown:Own w' base e size A' (n+m) c' (xs++ns))(hgr:(w0.drew.alloc (.cells ns.toArray e)).grownBy w' (A.map (·.block)))(hbel:Below base (w0.drew.alloc (.cells ns.toArray e)) w')
  (hor:A'.map (·.block)=A.map (·.block)∨A'.map (·.block)=some (w0.drew.alloc (.cells ns.toArray e)).heap.size) (hle:base<=w0.heap.size):
  apJ w0 base e size A n c xs ns m ib ia F 2 (fun j=>if j=ia then .slice A' (n+m) c' else cv j) w':=by
 have hb1:Below base w0 (w0.drew.alloc (.cells ns.toArray e)):=((Below.refl _ _).drew).alloc hle _;exact x5lc
end
def lvlN:List Nat->(Nat->Bool)->Nat
 |[],_=>0
 |i::l,done=>if done i=true then l.length+1 else lvlN l done
def apF(w0:World)(base:Nat)(e:TypeId)(size:Nat)(A:OA)(n c:Nat)(xs ns:List Value)(m gp j:Nat)(w:World):Prop:=
 ∃A2 c2 wq,w=wq.setCell ⟨gp,j,none⟩ (.slice A2 (n+m) c2)∧Own wq base e size A2 (n+m) c2 (xs++ns)∧Below base w0 wq∧(∀k,k<w0.heap.size->A.map (·.block)≠some k->wq.heap[k]?=w0.heap[k]?)∧(A2.map (·.block)=A.map (·.block)∨∀k,A2.map (·.block)=some k->w0.heap.size<=k)
theorem apJ_any{w0:World}{base size n c m ib ia gp j:Nat}{e:TypeId}{A:OA}{xs ns:List Value}{cv:Nat->Value}{o:Obj}(hJ:apJ w0 base e size A n c xs ns m ib ia (apF w0 base e size A n c xs ns m gp j) k cv w)(h:w0.heap[g]?=some o)(hA:A.map (·.block)≠some g)(hg:g≠gp):w.heap[g]?=some o:=by
 match k,hJ with
 |0,hJ=>exact apJ_blk (k:=0) (F:=apF w0 base e size A n c xs ns m gp j) (Nat.zero_le _) hJ h
 |1,hJ=>exact apJ_blk (k:=1) (F:=apF w0 base e size A n c xs ns m gp j) (Nat.le_refl _) hJ h
 |2,⟨A2,c2,_,_,_,k2,_⟩=>exact(k2 g (blk_lt h) hA).trans h
 |q+3,⟨A2,c2,wq,e,_,_,k2,_⟩=>
  subst e;rw[Below.heap_setCell _ _ _ _ (fun e2=>hg e2)];exact(k2 g (blk_lt h) hA).trans h
theorem wp_callv{P:Program}{Q:Exit->Act->World->Prop}{K:Act->World->Prop}{R:Ending->World->Prop}{d:Option Tmp}{t:TypeId}{p:String}{af:Array Edge}{g:Option (Nat×Bool)}{a:Act}{f:FuncId}{x:Tmp}{cap:Array Value}{args:Array Operand}{ts:Array TypeId}{vals:Array Value}
  (hx:a.tmps[x]?=some (.func (Fn.func f) #[] cap)) (e:args.map a.eval++cap=vals) (hf:(callFunc f vals).run P w=.ok (.enter f vals) w) (h:Calls P f vals w R)
  (hk:∀e w',R e w'->∃v,e=.returned v∧K (a.put d v) w'):Oper.wp P ⟨d,.call {callee:=.value (.tmp x),args:=args,argTypes:=ts},t,p,af,g⟩ a w K Q:=by
 have e1:a.eval (.tmp x)=.func (Fn.func f) #[] cap:=by simp[Act.eval,hx]
 have hx:(execOp a.eval ⟨d,.call {callee:=.value (.tmp x),args:=args,argTypes:=ts},t,p,af,g⟩).run P w=(callFunc f vals).run P w:=by
  simp[execOp,resolve,e,e1,invoke,Deferred.ofValue]
 exact x7hu
