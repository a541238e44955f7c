/- Walks of functions, and plain words. No conditions. -/
import Derived.Test.YtefkfglkpebbmadGreatP2
import Derived.Laws.OwnMore
set_option linter.unusedVariables false
set_option linter.unusedSimpArgs false
set_option maxRecDepth 100000
set_option maxHeartbeats 40000000
namespace Go.Proofs.YtefkfglkpebbmadGreat
open Go.RowKit
variable {Y:Prop}
variable {a g:Nat} {w:World} {d:Dev} {r:Rec} {x:Wor}
theorem relCheck_bad{l:List (List UInt8)}(h:l=[]∨30<l.length∨∃b∈l,64<b.length):relCheck l=1:=by unfold relCheck;rw[if_pos h]
theorem relCheck_fine{l:List (List UInt8)}(h:¬(l=[]∨30<l.length∨∃b∈l,64<b.length)):relCheck l=0:=by unfold relCheck;rw[if_neg h]
theorem releases_calls(A:OA)(c:Nat)(l:List (List UInt8))(w:World)(hc:l.length<=c)(hl:l.length<=5864062014634)(hs:Ims w A l):
  Calls Tryz.prog 35 #[.slice A l.length c] w (Ret w (iv (relCheck l))):=by
 by_cases h1:l=[]
 ·subst h1;rw[relCheck_bad (.inl rfl)];go_enter Tryz.func35,Tryz.ntmps35;exact x1gi
 have hpos:0<l.length:=List.length_pos_iff.2 h1;by_cases h2:30<l.length
 ·rw[relCheck_bad (.inr (.inl h2))];have q1:¬((l.length:Int)=0):=by omega
  have q2:(30:Int)<(l.length:Int):=by omega
  have q3:((l.length:Int)==0)=false:=by simp;omega
  clear h1;go_enter Tryz.func35,Tryz.ntmps35;exact x1gi
 obtain⟨r,hr⟩:=eX (relCheck l);rw[hr];have HR:Hid (r=if ∃b∈l,64<b.length then 1 else 0):=qH (by
  rw[<-hr];by_cases h3:∃b∈l,64<b.length
  ·rw[relCheck_bad (.inr (.inr h3)),if_pos h3]
  rw[relCheck_fine (fun h=>h.elim h1 (fun h=>h.elim h2 h3)),if_neg h3])
 have HS:=qH hs;have q1:¬((l.length:Int)=0):=by omega
 have q2:¬(30:Int)<(l.length:Int):=by omega
 have q3:((l.length:Int)==0)=false:=by simp;omega
 have hcap:(l.length:Int)<=(c:Int):=by omega
 clear hr hs h1 hpos;go_enter Tryz.func35,Tryz.ntmps35;go_wp2_with fail;go_loopw [15] (fun i wr=>∃k:Nat,k<=l.length∧i=iv k∧wr=w∧Hid (∀b∈l.take k,b.length<=64)) (fun i _=>l.length-(intOf i).toNat)
 case atStart=>exact⟨0,Nat.zero_le _,rfl,rfl,qH (by simp)⟩
 case round=>
  obtain⟨k,hk,rfl,rfl,HB⟩:=hrel;by_cases hlt:k<l.length
  ·obtain⟨b,o,rfl,hb,cs,hcl,hcc,B,d,rfl,hd1,hd2,hd3⟩:=HS.out k hlt;obtain⟨x,hx⟩:=eX (l[k]);have q4:wr.cell? ⟨b,o+k,none⟩=some (.slice B x.length d):=by have:=hcc 0 (by simp);rw[hx]at this;simpa using this
   have hwk:IntKind.i64.wrap ((k:Int)+1)=(k:Int)+1:=IntWalk.i64_in _ (by omega);have HX:=qH hx;by_cases h1:64<x.length
   ·have hz:r=1:=by rw[HR.out,if_pos ⟨x,by rw[<-HX.out];exact List.getElem_mem hlt,h1⟩]
    subst hz;have q:(64:Int)<(x.length:Int):=by omega
    clear hcc hcl hd1 hd2 hd3 hx;exact x1gi
   have q:¬(64:Int)<(x.length:Int):=by omega
   have HB1:Hid (∀b∈l.take (k+1),b.length<=64):=qH (fun y hy=>by
    rw[List.take_succ_eq_append_getElem hlt,List.mem_append]at hy;rcases hy with hy|hy
    ·exact HB.out y hy
    have e:y=l[k]:=by simpa using hy
    rw[e,HX.out];omega)
   clear hcc hcl hd1 hd2 hd3 hx;go_wp2_with fail;go_roundw
   case rel=>exact⟨k+1,by omega,by go_num,by first|rfl|trivial,HB1⟩
   case measure=>simp[intOf];omega
  obtain rfl:k=l.length:=by omega
  have hz:r=0:=by
   rw[HR.out,if_neg];rintro⟨b,hb,h⟩;have:=HB.out b (by rw[List.take_length];exact hb);omega
  subst hz;exact x1gi
theorem recA_ver(r:Rec)(ha:a<=1):(recA r)[5+a*3]?=some (iv (r.at_ (a:Int)).ver):=by
 match a,ha with
 |0,_=>simp[recA,Rec.at_]
 |1,_=>simp[recA,Rec.at_]
theorem recA_size_(r:Rec)(ha:a<=1):(recA r)[5+a*3+1]?=some (iv (r.at_ (a:Int)).size):=by
 match a,ha with
 |0,_=>simp[recA,Rec.at_]
 |1,_=>simp[recA,Rec.at_]
theorem devSlotA{L:DLoc}(h:DevIn w d L)(ha:a<=1):∃A c,(devA d L)[a]?=some (.slice A (d.slot (a:Int)).length c)∧(d.slot (a:Int)).length<=c∧Bts w A (d.slot (a:Int)):=by
 match a,ha with
 |0,_=>exact⟨L.a0,L.c0,rfl,h.k0,h.b0⟩
 |1,_=>exact⟨L.a1,L.c1,rfl,h.k1,h.b1⟩
theorem slot_len(h0:d.s0.length=64)(h1:d.s1.length=64)(k:Int):(d.slot k).length=64:=by unfold Dev.slot;split<;>assumption
theorem at_sizes(h:recCheck r=0)(k:Int):0<=(r.at_ k).size∧(r.at_ k).size<=64∧0<=(r.at_ k).ver:=by
 obtain⟨_,h1,h3,_⟩:=recCheck_parts h;have key:∀x:Inf,infCheck x=0->0<=x.size∧x.size<=64∧0<=x.ver:=fun x hx=>by
  unfold infCheck at hx;by_cases hh:InfRange x
  ·unfold InfRange at hh;omega
  rw[if_neg hh]at hx;exact absurd hx (by decide)
 unfold Rec.at_;split
 ·exact key _ h1
 exact key _ h3
theorem x7za(h:Y:=by
 exact⟨A,c,by rw[HLEN.out];rfl,by rw[HLEN.out];exact hyc,HB.out.stays HBE.out,HBE.out⟩):Y:=h
def ImRet(w:World)(l:LU):Ending->World->Prop:=fun en w'=>
 ∃A c,en=.returned (.slice A l.length c)∧l.length<=c∧Bts w' A l∧Below w.heap.size w w'
theorem pre_slice{A:OA}{n c:Nat}{z:Int}(y:Nat)(h1:z=(y:Int))(hc:n<=c)(hy:y<=n)(h0:0<n)(hA:∃b o,A=some ⟨b,o,none⟩)(W:World):(Instr.slice 23 (.slice A n c) none (some (iv z)) none).run Tryz.prog W=.ok (.slice A y c) W:=by
 obtain⟨b,o,rfl⟩:=hA;subst h1;have q1:(y:Int)<=(c:Int):=by omega
 have q1:¬c=0:=by omega
 go_simp
theorem image_calls(d:Dev)(L:DLoc)(k:Int)(r:Rec)(w:World)(hk:k=0∨k=1)(h:DevIn w d L)(hl:(d.slot k).length=64)(h0:0<=(r.at_ k).size)(h1:(r.at_ k).size<=64):
  Calls Tryz.prog 65 #[.agg (devA d L),iv k,.agg (recA r)] w (ImRet w (d.image k r)):=by
 obtain⟨a,rfl,ha1⟩:∃a:Nat,k=(a:Int)∧a<=1:=⟨k.toNat,by omega,by omega⟩;obtain⟨y,hy⟩:∃y:Nat,(r.at_ (a:Int)).size=(y:Int):=⟨(r.at_ (a:Int)).size.toNat,by omega⟩;have himg:d.image (a:Int) r=(d.slot (a:Int)).take y:=by unfold Dev.image;rw[hy];rfl
 have hlen:((d.slot (a:Int)).take y).length=y:=by rw[List.length_take];omega
 rw[himg];obtain⟨A,c,p1,p2,p3⟩:=devSlotA h ha1;rw[hl]at p1 p2;obtain⟨b,o,hA,-⟩:=p3 0 (by omega);have HSL:=qH (pre_slice (A:=A) (n:=64) (c:=c) y rfl p2 (by omega) (by decide) ⟨b,o,hA⟩);have HB:=qH (mid_take p3 y);have HLEN:=qH hlen;have hyc:y<=c:=by omega
 have pv:=recA_size_ r ha1;rw[hy]at pv;have HBA:Hid (Below w.heap.size w ((w.alloc (.cells (devA d L) 38)).alloc (.cells (recA r) 29))):=qH ((bL _).alloc (by simp) _);have HP1:=qH p1;have HPV:=qH pv;clear h hy himg hlen p1 p3 hA pv h0 h1 hl hk;go_enter Tryz.func65,Tryz.ntmps65;go_wp2_with fail;have r1:rowOf ((w.alloc (.cells (devA d L) 38)).alloc (.cells (recA r) 29)) w.heap.size=devA d L∧frOf ((w.alloc (.cells (devA d L) 38)).alloc (.cells (recA r) 29)) w.heap.size=(0,0):=by go_simp
 have r2:rowOf ((w.alloc (.cells (devA d L) 38)).alloc (.cells (recA r) 29)) (w.heap.size+1)=recA r∧frOf ((w.alloc (.cells (devA d L) 38)).alloc (.cells (recA r) 29)) (w.heap.size+1)=(0,0):=by go_simp
 obtain⟨w1,hw1⟩:=eX (((w.alloc (.cells (devA d L) 38)).alloc (.cells (recA r) 29)));rw[hw1]at HBA r1 r2⊢;have a1:=keep1 (bW w1) r1.1 (by go_simp) r1.2;have r3:=keep1 (bW w1) r2.1 (by simp[recA]) r2.2;clear hw1 r1 r2;have p1:=HP1.out;have pv:=HPV.out;have k1:(0:Int)<=(a:Int):=by omega
 have k1:(a:Int)<2:=by omega
 have k1:¬(2:Int)<=(a:Int):=by omega
 have hsl:=HSL.out;go_quiet (fail)
 go_wp2_with fail;go_ret;have HBE:Hid (Below w.heap.size w (w1.drewN nq)):=qH (Below.drewN' HBA.out nq);exact x7za
theorem x2fq(h:Y:=by
 have:=HY.out;unfold axOf at this;by_cases h3:deltaCheck l old.length sz≠0
 ·rw[if_pos h3]at this;injection this with h;rw[<-h];simp
 rw[if_neg h3]at this;injection this with h;have hd:=deltaCheck_ok.1 (Decidable.not_not.1 h3);have:=applied_len (old:=old) (l:=l) (fun o ho=>(hd.each o ho).2);have h4:=hd.sum;have h8:=hd.s1;rw[<-h];omega):Y:=h
theorem x39d(h:Y:=by
 have hz:r=([],1):=by rw[<-HR.out];unfold patDo;rw[HCK.out,if_neg (by simp),if_pos h1]
 subst hz;have q:(64:Int)<(old.length:Int):=by omega
 go_wp2_with fail;go_ret2;exact⟨none,0,rfl,Bts.nil _ _,nl,HB1.out⟩):Y:=h
theorem x3m9(h:Y:=by
 rw[<-HR.out];unfold patDo;have:=HY.out;unfold axOf at this;rw[HCK.out,if_neg (by simp),if_neg h1,HS.out,if_neg (by simp)];by_cases h4:deltaCheck l old.length sz≠0
 ·rw[if_pos h4]at this⊢;injection this with _ h;rw[h]
 rw[if_neg h4]at this;injection this with _ h;exact absurd h.symm h3):Y:=h
theorem x3yb(h:Y:=by
 go_wp2_with fail;go_ret2;exact⟨none,0,rfl,Bts.nil _ _,nl,Below.drewN' HB2.out _⟩):Y:=h
theorem x6jp(h:Y:=by
 go_wp2_with fail;go_ret2;exact⟨A1,c1,rfl,HY1.out.drewN _,hc1,Below.drewN' HB2.out _⟩):Y:=h
theorem x7k2(h:Y:=by
 go_wp2_with fail;go_ret2;exact⟨none,0,rfl,Bts.nil _ _,nl,Below.drewN' HB1.out _⟩):Y:=h
theorem x7ua(h:Y:=by
 have hz:r=([],ck):=by rw[<-HR.out];unfold patDo;rw[HCK.out,if_pos h5]
 subst hz;have q:(ck !=0)=true:=by simp[h5]
 clear h5;go_wp2_with fail;go_ret2;exact⟨none,0,rfl,Bts.nil _ _,nl,HB1.out⟩):Y:=h
theorem x93b(h:Y:=by
 rw[<-HR.out];unfold patDo;rw[HCK.out,if_neg (by simp),if_neg h1,HS.out,if_neg (by simp),hyy.1,if_neg (by simp),<-hyy.2]):Y:=h
theorem x9b4(h:Y:=by
 have:=HY.out;unfold axOf at this;by_cases h4:deltaCheck l old.length sz≠0
 ·rw[if_pos h4]at this;injection this with _ h;exact absurd h h4
 rw[if_neg h4]at this;injection this with h _;exact⟨Decidable.not_not.1 h4,h.symm⟩):Y:=h
theorem patDo_calls(B A:OA)(d c:Nat)(p:Pat)(old:LU)(w:World)(hc:old.length<=c)(ho:old.length<=140737488351232)(hA:Bts w A old)(hp:PatIn w p B d):
  Calls Tryz.prog 64 #[.agg (patA p.from_ p.to_ p.old p.new_ p.size B p.ops.length d),.slice A old.length c] w (ByRet2 w (patDo (sumOn 1) p old).1 (patDo (sumOn 1) p old).2):=by
 obtain⟨f,t,o,n,sz,l⟩:=p;obtain⟨hcap,hlen,hops,-,-,-,-,-⟩:=hp;dsimp only at *
 have hba:=(bW w).alloc nl (.cells (patA f t o n sz B l.length d) 36);have K1:=qH (fun w h=>patCheck_calls B d f t o n sz l w hlen h);have K2:=qH (fun w h=>sumOf_calls A c old w (by omega) h);have HA:=qH hA;have HO:=qH hops;have HBA:=qH hba;clear hA hops hba;obtain⟨r,hr⟩:=eX (patDo (sumOn 1) ⟨f,t,o,n,sz,l⟩ old);rw[hr];have HR:=qH hr;clear hr;obtain⟨ck,hck⟩:=eX (patCheck ⟨f,t,o,n,sz,l⟩);rw[hck]at K1;have HCK:=qH hck;clear hck;go_enter Tryz.func64,Tryz.ntmps64;go_wp2_with fail;refine(K1.out _ (HO.out.stays HBA.out)).mono ?_;rintro e w1 ⟨rfl,hb1⟩;have a1:=kp (w.heap.size) (patA f t o n sz B l.length d) hb1;have HB1:=bT HBA hb1;clear hb1;by_cases h5:ck≠0
 ·exact x7ua
 have h5:=Decidable.not_not.1 h5;subst h5;by_cases h1:64<old.length
 ·exact x39d
 have q1:¬(64:Int)<(old.length:Int):=by omega
 obtain⟨s,hs⟩:=eX (sumOn 1 old);rw[hs]at K2;have HS:=qH hs;clear hs;have HK1:=qH (fun n=>K2.out (w1.drewN n) ((HA.out.stays HB1.out).drewN n));by_cases h2:s≠o
 ·have hz:r=([],6):=by rw[<-HR.out];unfold patDo;rw[HCK.out,if_neg (by simp),if_neg h1,HS.out,if_pos h2]
  subst hz;have q:(s !=o)=true:=by simp[h2]
  clear h2;go_wp2_with fail;go_quiet ((go_at_call 73;with_reducible exact quietRet (HK1.out _)))
  exact x7k2
 have h2:=Decidable.not_not.1 h2;subst h2;have q2:(s !=s)=false:=by simp
 obtain⟨y,e1,hy⟩:∃y e0,axOf old l sz=(y,e0):=⟨_,_,rfl⟩;have K3:=qH (fun w h1 h2=>applyAny_calls A c old B d l sz w hc ho h1 hlen h2);rw[hy]at K3;dsimp only at K3;have HY:=qH hy;clear hy;have HK2:=qH (fun n=>K3.out (w1.drewN n) ((HA.out.stays HB1.out).drewN n) ((HO.out.stays HB1.out).stays (below_drewN _ _)));have hyl:y.length<=140737488351232:=by
  exact x2fq
 go_wp2_with fail;go_quiet ((go_at_call 73;with_reducible exact quietRet (HK1.out _)))
 go_wp2_with fail;refine(HK2.out nq).mono ?_;rintro e w2 ⟨A1,c1,rfl,hy1,hc1,hb1⟩;have b1:=kp (w.heap.size) (patA f t s n sz B l.length d) hb1;have HB2:Hid (Below w.heap.size w w2):=qH ((Below.drewN' HB1.out nq).trans (hb1.mono (by have:=HB1.out.size;simp;omega)));have HY1:=qH hy1;clear hb1 hy1;by_cases h3:e1≠0
 ·have hz:r=([],e1):=by
   exact x3m9
  subst hz;have q:(e1 !=0)=true:=by simp[h3]
  clear h3 HY;go_wp2_with fail;go_ret2;exact⟨none,0,rfl,Bts.nil _ _,nl,HB2.out⟩
 have h3:=Decidable.not_not.1 h3;subst h3;have hyy:deltaCheck l old.length sz=0∧y=applied old l:=by
  exact x9b4
 have K4:=qH (fun m=>sumOf_calls A1 c1 y (w2.drewN m) (by omega) (HY1.out.drewN m));have hrr:r=if sumOn 1 y≠n then ([],6)else (y,0):=by
  exact x93b
 obtain⟨s1,hs1⟩:=eX (sumOn 1 y);rw[hs1]at K4 hrr;have HRR:=qH hrr;clear hrr hs1 hyy HY;by_cases h4:s1≠n
 ·have hz:r=([],6):=by rw[HRR.out,if_pos h4]
  subst hz;have q:(s1 !=n)=true:=by simp[h4]
  clear h4;go_wp2_with fail;go_quiet ((go_at_call 73;with_reducible exact quietRet (K4.out _)))
  exact x3yb
 have h4:=Decidable.not_not.1 h4;subst h4;have hz:r=(y,0):=by rw[HRR.out,if_neg (by simp)]
 subst hz;have q:(s1 !=s1)=false:=by simp
 go_wp2_with fail;go_quiet ((go_at_call 73;with_reducible exact quietRet (K4.out _)))
 exact x6jp
section
variable {w0 w:World} {ci cd cm e0 e1 a0 a1:Nat} {img b:LU} {n:Int} {dn:Nat->Bool} {cv:Nat->Value}
end
theorem bts_zeros{n:Nat}{t:TypeId}{fr:Nat×Nat}(h:w.heap[g]?=some (.cells (Array.replicate n (.int .u8 0)) t fr)):Bts w (some ⟨g,0,none⟩) (List.replicate n 0):=by
 intro j hj;refine⟨g,0,rfl,blk_lt h,?_⟩;rw[cell_of_row _ _ _ _ _ _ h];have hj':j<n:=by simpa using hj
 simp[hj',bv]
theorem made_zeros(n:Nat):madeCells #[Value.int .u8 0] n=Array.replicate n (.int .u8 0):=by
 apply Array.ext'
 rw[toList_madeCells_one];simp
theorem room_calls(A:OA)(c:Nat)(b:LU)(w:World)(hb:b.length<=64)(hB:Bts w A b):
  Calls Tryz.prog 67 #[.slice A b.length c] w (BtRet w (room b)):=by
 obtain⟨m,hm⟩:∃m:Nat,64-b.length=m:=⟨_,rfl⟩;have hm1:(64:Int)-(b.length:Int)=(m:Int):=by omega
 have hwr:IntKind.i64.wrap ((64:Int)-(b.length:Int))=(m:Int):=by rw[hm1];exact IntWalk.i64_in _ (by omega)
 have hmk:∀w:World,(Instr.makeSlice 23 (iv (m:Int)) (iv (m:Int))).run Tryz.prog w=.ok (.slice (some ⟨w.heap.size,0,none⟩) m m) (w.alloc (.cells (Array.replicate m (.int .u8 0)) 5)):=fun w=>by
  have:=run_make_row' (P:=Tryz.prog) 23 5 (.int .u8 0) 1 Tryz.underlying23 (by kernel_rfl) rfl .i64 .i64 m (by omega) (by omega) w;rw[made_zeros]at this;exact this
 have HM:Hid (room b=b++List.replicate m 0):=qH (by unfold room;rw[hm]);have HMB:Hid (b.length+m<=64):=qH (by omega);have hba:=((bW w).alloc nl (.cells (Array.replicate m (.int .u8 0)) 5)).alloc (by simp) (.cells #[.slice A b.length c,.slice (some ⟨w.heap.size,0,none⟩) m m] 23);have K:=qH (concat2_calls (w:=(w.alloc (.cells (Array.replicate m (.int .u8 0)) 5)).alloc (.cells #[.slice A b.length c,.slice (some ⟨w.heap.size,0,none⟩) m m] 23)) (g:=w.heap.size+1) (A:=A) (B:=some ⟨w.heap.size,0,none⟩) (a:=b) (b:=List.replicate m 0) (c:=c) (d:=m)
  (t:=23) (fr:=(0,0)) (by rw[List.length_replicate];exact blk_top (by simp)) (by rw[List.length_replicate];omega) (hB.stays hba) ((bts_zeros (n:=m) (w:=w.alloc (.cells (Array.replicate m (.int .u8 0)) 5)) (blk_top rfl)).stays (bL _)))
 have HBA:=qH hba;rw[HM.out];clear hm hm1 hb hB hba;go_enter Tryz.func67,Tryz.ntmps67;go_wp2_with fail;refine K.out.mono ?_;rintro e w1 ⟨A1,c1,rfl,hown,hb1⟩;have HO:=qH hown;have HB1:=bT HBA hb1;clear hown hb1;go_wp2_with fail;go_ret;exact⟨A1,c1,by simp,HO.out.mono (by simp;omega),HB1.out⟩
theorem x02y(h:Y:=by
 go_quiet (fail)
 go_wp2_with fail;go_meet
 case rel=>exact⟨by rw[hres],qH (below_drewN _ _)⟩):Y:=h
theorem x74k(h:Y:=by
 go_wp2_with fail;go_meet
 case rel=>exact⟨by rw[hres],qH (Below.refl _ _)⟩):Y:=h
theorem devCheck_is_len(h:d.s0.length≠64∨d.s1.length≠64):devCheck d=3:=by unfold devCheck;rw[if_pos h]
theorem devCheck_is_cop(h0:d.s0.length=64)(h1:d.s1.length=64)(hc:copCheck d.c0 d.c1≠0):devCheck d=copCheck d.c0 d.c1:=by unfold devCheck;rw[if_neg (by omega),if_pos hc]
theorem devCheck_is_off(h0:d.s0.length=64)(h1:d.s1.length=64)(hc:copCheck d.c0 d.c1=0)(hu:d.up=false):devCheck d=if d.running≠0∨d.got≠[]∨d.busy=true∨d.done≠0∨d.job≠Pat.zero then 3 else 0:=by unfold devCheck;rw[if_neg (by omega),if_neg (by omega),if_pos hu]
theorem devCheck_is_up(h0:d.s0.length=64)(h1:d.s1.length=64)(hc:copCheck d.c0 d.c1=0)(hu:d.up=true):devCheck d=devUpCheck d (recRead d.c0 d.c1).1:=by unfold devCheck;rw[if_neg (by omega),if_neg (by omega),if_neg (by rw[hu];simp)];rfl
theorem patSameZ_calls(p:Pat)(B:OA)(c:Nat)(w:World)(hp:PatIn w p B c):Calls Tryz.prog 62 #[.agg (patA p.from_ p.to_ p.old p.new_ p.size B p.ops.length c),.agg (patA 0 0 0 0 0 none 0 0)] w (RetB w (.bool (decide (p=Pat.zero)))):=
 patSameA_calls B none c 0 p.from_ p.to_ p.old p.new_ p.size 0 0 0 0 0 p.ops [] w hp.len (by simp) hp.ops (Sps.nil _ _)
theorem devUp_range(h:d.running<0∨1<d.running∨(d.running≠r.active∧r.trying=false)):devUpCheck d r=2:=by unfold devUpCheck;rw[if_pos h]
theorem devUp_list(h:¬(d.running<0∨1<d.running∨(d.running≠r.active∧r.trying=false)))(g:chkList d.got≠0):devUpCheck d r=chkList d.got:=by unfold devUpCheck;rw[if_neg h,if_pos g]
theorem devUp_idle(h:¬(d.running<0∨1<d.running∨(d.running≠r.active∧r.trying=false)))(g:chkList d.got=0)(b:d.busy=false):devUpCheck d r=if d.done≠0∨d.job≠Pat.zero then 3 else 0:=by unfold devUpCheck;rw[if_neg h,if_neg (by omega),if_pos b]
theorem devUp_busy(h:¬(d.running<0∨1<d.running∨(d.running≠r.active∧r.trying=false)))(g:chkList d.got=0)(b:d.busy=true):devUpCheck d r=devBusyCheck d r:=by unfold devUpCheck;rw[if_neg h,if_neg (by omega),if_neg (by rw[b];simp)]
theorem devBusy_form(h:r.trying=true∨d.job.to_<r.floor∨d.job.from_≠(r.at_ r.active).ver∨(r.at_ (1-r.active)).ver≠0):devBusyCheck d r=3:=by unfold devBusyCheck;rw[if_pos h]
theorem at_0(r:Rec):r.at_ 0=r.a:=by simp[Rec.at_]
theorem at_1(r:Rec):r.at_ 1=r.b:=by simp[Rec.at_]
theorem devBusy_rest(h:¬(r.trying=true∨d.job.to_<r.floor∨d.job.from_≠(r.at_ r.active).ver∨(r.at_ (1-r.active)).ver≠0)):devBusyCheck d r=
  if (patDo (sumOn 1) d.job (d.image r.active r)).2≠0 then (patDo (sumOn 1) d.job (d.image r.active r)).2
  else if d.done<0∨64<d.done∨d.done%8≠0∨d.job.size+8<=d.done then 2
  else if (d.slot (1-r.active)).take d.done.toNat≠(room (patDo (sumOn 1) d.job (d.image r.active r)).1).take d.done.toNat then 3
  else 0:=by unfold devBusyCheck;rw[if_neg h]
def rmJ(w0:World)(rb:LU)(dn:Nat)(e:Bool):Nat->(Nat->Value)->World->Prop
 |0,_,w=>w=w0.drew
 |1,cv,w=>∃A c,cv 10=.slice A rb.length c∧Bts w A rb∧rb.length<=c∧Below w0.heap.size w0 w
 |2,cv,w=>∃A c,cv 13=.slice A dn c∧Bts w A (rb.take dn)∧dn<=c∧Below w0.heap.size w0 w
 |3,cv,w=>cv 14=.bool e∧Below w0.heap.size w0 w
 |_,cv,w=>cv 15=.bool (!e)∧Below w0.heap.size w0 w
theorem rmJ_bel{w0:World}{rb:LU}{dn k:Nat}{e:Bool}{cv:Nat->Value}(hJ:rmJ w0 rb dn e k cv w):Below w0.heap.size w0 w:=by
 match k,hJ with
 |0,hJ=>obtain rfl:w=w0.drew:=hJ;exact(Below.refl _ _).drew
 |1,⟨_,_,_,_,_,h⟩=>exact h
 |2,⟨_,_,_,_,_,h⟩=>exact h
 |3,⟨_,h⟩=>exact h
 |q+4,⟨_,h⟩=>exact h
theorem x1fz(h:Y:=by
 rcases (show k=0∨k=1 by omega)with rfl|rfl
 ·go_wp2_with fail;go_roundw
  case rel=>exact⟨1,by omega,rfl,by first|rfl|trivial⟩
  case measure=>simp[intOf]<;>omega
 ·go_wp2_with fail;go_roundw
  case rel=>exact⟨2,by omega,rfl,by first|rfl|trivial⟩
  case measure=>simp[intOf]<;>omega):Y:=h
theorem x5ii(h:Y:=by
 have HB1:=qH hb;clear hb;go_wp2_with fail;go_meet
 case rel=>exact⟨by rw[hres],HB1⟩):Y:=h
theorem devCheck_off_(d:Dev)(L:DLoc)(w:World)(h:DevIn w d L)(hA:¬(d.s0.length=64∧d.s1.length=64∧copCheck d.c0 d.c1=0∧d.up=true)):Calls Tryz.prog 36 #[.agg (devA d L)] w (RetB w (iv (devCheck d))):=by
 have HIN:=qH h;have HAA:=qH hA;clear hA;clear h;obtain⟨n,hn⟩:=eX (devCheck d);rw[hn];have HN:=qH hn;clear hn;have i2:∀w,(Instr.index 24 (.agg (slotsA L.a0 d.s0.length L.c0 L.a1 d.s1.length L.c1)) (iv 0)).run Tryz.prog w=.ok (.slice L.a0 d.s0.length L.c0) w:=fun _=>by kernel_rfl
 have i1:∀w,(Instr.index 24 (.agg (slotsA L.a0 d.s0.length L.c0 L.a1 d.s1.length L.c1)) (iv 1)).run Tryz.prog w=.ok (.slice L.a1 d.s1.length L.c1) w:=fun _=>by kernel_rfl
 have HBA:=qH ((bW w).alloc nl (.cells (devA d L) 38));go_enter Tryz.func36,Tryz.ntmps36;go_wp2_with fail;go_loopw [12] (fun i wr=>∃k:Nat,k<=2∧i=iv k∧Hid ((0<k->d.s0.length=64)∧(1<k->d.s1.length=64))∧wr=w.alloc (.cells (devA d L) 38)) (fun i _=>(2-intOf i).toNat)
 case atStart=>exact⟨0,by omega,rfl,qH ⟨by omega,by omega⟩,rfl⟩
 case round=>
 obtain⟨k,hk,rfl,HZ,rfl⟩:=hrel;by_cases hlt:k<2
 ·rcases (show k=0∨k=1 by omega)with rfl|rfl
  ·by_cases e:d.s0.length=64
   ·have q:((d.s0.length:Int) !=64)=false:=by simp;omega
    have HE:=qH e;clear e;go_wp2_with fail;go_roundw
    case rel=>exact⟨1,by omega,rfl,qH ⟨fun _=>HE.out,by omega⟩,by first|rfl|trivial⟩
    case measure=>simp[intOf]<;>omega
   ·have q:((d.s0.length:Int) !=64)=true:=by simp;omega
    have hz:Hid (n=3):=qH (HN.out.symm.trans (devCheck_is_len (.inl e)));clear e;exact x73o
  ·by_cases e:d.s1.length=64
   ·have q:((d.s1.length:Int) !=64)=false:=by simp;omega
    have HE:=qH e;clear e;go_wp2_with fail;go_roundw
    case rel=>exact⟨2,by omega,rfl,qH ⟨fun _=>HZ.out.1 (by omega),fun _=>HE.out⟩,by first|rfl|trivial⟩
    case measure=>simp[intOf]<;>omega
   ·have q:((d.s1.length:Int) !=64)=true:=by simp;omega
    have hz:Hid (n=3):=qH (HN.out.symm.trans (devCheck_is_len (.inr e)));clear e;exact x73o
 obtain rfl:k=2:=by omega
 have HL2:=qH (HZ.out.1 (by omega));have HL1:=qH (HZ.out.2 (by omega));clear hk hlt HZ i2 i1;have a0r:rowOf (w.alloc (.cells (devA d L) 38)) w.heap.size=devA d L:=by rw[rowOf_alloc,if_pos rfl]
 have a0f:frOf (w.alloc (.cells (devA d L) 38)) w.heap.size=(0,0):=by rw[frOf_alloc,if_pos rfl]
 have a0l:w.heap.size<(w.alloc (.cells (devA d L) 38)).heap.size:=by simp
 by_cases hc:copCheck d.c0 d.c1=0
 case neg=>
  have q:(copCheck d.c0 d.c1 !=0)=true:=by simp[hc]
  have hz:Hid (n=copCheck d.c0 d.c1):=qH (HN.out.symm.trans (devCheck_is_cop HL2.out HL1.out hc));have KR:=qH (fun w=>read_bad d.c0 d.c1 w hc);generalize copCheck d.c0 d.c1=e1 at *
  clear hc;go_wp2_with fail;refine(KR.out _).mono ?_;rintro e w1 ⟨rfl,hb⟩;have HB1:=bT HBA hb;obtain⟨a0r,a0f,a0n,a0c,a0z,a0l⟩:=keep1 (g:=w.heap.size) (cs:=devA d L) hb a0r (by go_simp) a0f;clear hb;go_wp2_with fail;go_ret;have hs:=HB1.out.size;refine⟨ret_int hz.out.symm,?_⟩;repeat (first|exact hA|refine bR ?_ _|refine bA ?_ _)
 have KR:=qH (fun w=>read_ok d.c0 d.c1 w hc);have hact:=rec_active (recRead_ok hc);have hok:=recRead_ok hc;have hrec:(recRead d.c0 d.c1).1=d.rec_:=rfl;obtain⟨rk,hrk⟩:=eX ((recRead d.c0 d.c1).2);rw[hrk,hrec]at KR;have EOFF:=qH (fun hu=>HN.out.symm.trans (devCheck_is_off HL2.out HL1.out hc hu));have EUP:=qH (fun hu=>HN.out.symm.trans (devCheck_is_up HL2.out HL1.out hc hu));rw[hrec]at hact hok EUP;have himc:=fun w k hk h q1 q2=>image_calls d L k d.rec_ w hk h (slot_len HL2.out HL1.out k) q1 q2;have HIM:=qH himc;have HC:=qH hc;clear himc;generalize d.rec_=r at *
 obtain⟨ka,ha,ha1⟩:∃ka:Nat,r.active=(ka:Int)∧ka<=1:=⟨r.active.toNat,by omega,by omega⟩;have HOK:=qH hok;have HA:=qH ha;clear hrec hrk hok hact ha HN hc;go_wp2_with fail;refine(KR.out _).mono ?_;rintro e w1 ⟨rfl,hb⟩;have HB1:=bT HBA hb;obtain⟨a0r,a0f,a0n,a0c,a0z,a0l⟩:=keep1 (g:=w.heap.size) (cs:=devA d L) hb a0r (by go_simp) a0f;clear hb KR HBA;obtain⟨g,hg⟩:=eX (w.heap.size);rw[hg]at a0r a0f a0n a0c a0z a0l⊢;have HG:=qH hg;clear hg;go_upto_region 8 with fail
 obtain⟨w4,hw1⟩:=eX (w1.alloc (.cells (recA r) 29));have hb:Below w1.heap.size w1 w4:=by rw[<-hw1];exact bL _
 have r0r:rowOf w4 w1.heap.size=recA r:=by rw[<-hw1,rowOf_alloc,if_pos rfl]
 have r0f:frOf w4 w1.heap.size=(0,0):=by rw[<-hw1,frOf_alloc,if_pos rfl]
 obtain⟨a0r,a0f,a0n,a0c,a0z,a0l⟩:=keep1 (g:=g) (cs:=devA d L) hb a0r (by go_simp) a0f;have HB2:=bT HB1 hb;rw[hw1];obtain⟨gr,hgr⟩:=eX (w1.heap.size);rw[hgr]at r0r r0f⊢;clear hw1 hb hgr HB1;obtain⟨r0r,r0f,r0n,r0c,r0z,r0l⟩:=keep1 (bW w4) r0r (by simp[recA]) r0f;have KZ:=qH (fun wq hb=>patSameZ_calls d.job L.aj L.cj wq (HIN.out.job.stays (HB2.out.trans (Below.mono hb HB2.out.size))))
 cases hu:d.up
 ·have E:=qH (EOFF.out hu);clear EOFF EUP HIM;obtain⟨off,hoff⟩:∃b,decide (d.running≠0∨d.got≠[]∨d.busy=true∨d.done≠0∨d.job≠Pat.zero)=b:=⟨_,rfl⟩;have HO:=qH hoff;clear hoff;go_upto_region 11 with fail
  go_cut [56] (fun v wx=>v=.bool off∧Hid (Below w4.heap.size w4 wx))
  case first=>
   by_cases c1:d.running=0
   case neg=>
    have q1:(d.running !=0)=true:=by simp[c1]
    have hres:off=true:=by rw[<-HO.out];exact decide_eq_true (.inl c1)
    clear c1;exact x74k
   have q1:(d.running !=0)=false:=by simp[c1]
   by_cases c2:d.got=[]
   case neg=>
    have q2:decide ((0:Int)<(d.got.length:Int))=true:=decide_eq_true (by have:=List.length_pos_iff.2 c2;omega);have c2n:0<d.got.length:=List.length_pos_iff.2 c2;have hres:off=true:=by rw[<-HO.out];exact decide_eq_true (.inr (.inl c2))
    clear c1 c2;exact x74k
   have q2:decide ((0:Int)<(d.got.length:Int))=false:=by rw[c2];simp
   have q2n:¬0<d.got.length:=by rw[c2];simp
   cases c3:d.busy
   case true=>
    have hres:off=true:=by rw[<-HO.out];exact decide_eq_true (.inr (.inr (.inl c3)))
    clear c1 c2;exact x74k
   by_cases c4:d.done=0
   case neg=>
    have q3:(d.done !=0)=true:=by simp[c4]
    have hres:off=true:=by rw[<-HO.out];exact decide_eq_true (.inr (.inr (.inr (.inl c4))))
    clear c1 c2 c4;exact x74k
   have q3:(d.done !=0)=false:=by simp[c4]
   have hres:off=!decide (d.job=Pat.zero):=by
    rw[<-HO.out];by_cases h:d.job=Pat.zero<;>simp[c1,c2,c3,c4,h]
   clear c1 c2 c4;go_wp2_with fail;refine(KZ.out w4 (Below.refl _ _)).mono ?_;rintro e w2 ⟨rfl,hb⟩;exact x5ii
  case rest=>
  obtain⟨rfl,hb⟩:=hcut;have HB1:=bT HB2 hb.out
  cases c:off
  ·have hz:Hid (n=0):=qH (E.out.trans (if_neg (of_decide_eq_false (HO.out.trans c))));exact x73o
  have hz:Hid (n=3):=qH (E.out.trans (if_pos (of_decide_eq_true (HO.out.trans c))));exact x73o
 exact absurd ⟨HL2.out,HL1.out,HC.out,hu⟩ HAA.out
theorem devCheck_idle_(d:Dev)(L:DLoc)(w:World)(h:DevIn w d L)(h0:d.s0.length=64)(h1:d.s1.length=64)(hc:copCheck d.c0 d.c1=0)(hu:d.up=true)(hB:d.busy=false∨(d.running<0∨1<d.running∨(d.running≠d.rec_.active∧d.rec_.trying=false))∨chkList d.got≠0):Calls Tryz.prog 36 #[.agg (devA d L)] w (RetB w (iv (devCheck d))):=by
 have HIN:=qH h;clear h;obtain⟨n,hn⟩:=eX (devCheck d);rw[hn];have HN:=qH hn;clear hn;have i2:∀w,(Instr.index 24 (.agg (slotsA L.a0 d.s0.length L.c0 L.a1 d.s1.length L.c1)) (iv 0)).run Tryz.prog w=.ok (.slice L.a0 d.s0.length L.c0) w:=fun _=>by kernel_rfl
 have i1:∀w,(Instr.index 24 (.agg (slotsA L.a0 d.s0.length L.c0 L.a1 d.s1.length L.c1)) (iv 1)).run Tryz.prog w=.ok (.slice L.a1 d.s1.length L.c1) w:=fun _=>by kernel_rfl
 have l2:((d.s0.length:Int) !=64)=false:=by simp;omega
 have l1:((d.s1.length:Int) !=64)=false:=by simp;omega
 have HL2:=qH h0;have HL1:=qH h1;have HCC:=qH hc;have HUP:=qH hu;have HBB:=qH hB;clear hB;clear h0 h1 hc hu;have HBA:=qH ((bW w).alloc nl (.cells (devA d L) 38));go_enter Tryz.func36,Tryz.ntmps36;go_wp2_with fail;go_loopw [12] (fun i wr=>∃k:Nat,k<=2∧i=iv k∧wr=w.alloc (.cells (devA d L) 38)) (fun i _=>(2-intOf i).toNat)
 case atStart=>exact⟨0,by omega,rfl,rfl⟩
 case round=>
 obtain⟨k,hk,rfl,rfl⟩:=hrel;by_cases hlt:k<2
 ·exact x1fz
 obtain rfl:k=2:=by omega
 clear hk hlt i2 i1 l2 l1;have a0r:rowOf (w.alloc (.cells (devA d L) 38)) w.heap.size=devA d L:=by rw[rowOf_alloc,if_pos rfl]
 have a0f:frOf (w.alloc (.cells (devA d L) 38)) w.heap.size=(0,0):=by rw[frOf_alloc,if_pos rfl]
 have a0l:w.heap.size<(w.alloc (.cells (devA d L) 38)).heap.size:=by simp
 have hc:=HCC.out;have KR:=qH (fun w=>read_ok d.c0 d.c1 w hc);have hact:=rec_active (recRead_ok hc);have hok:=recRead_ok hc;have hrec:(recRead d.c0 d.c1).1=d.rec_:=rfl;obtain⟨rk,hrk⟩:=eX ((recRead d.c0 d.c1).2);rw[hrk,hrec]at KR;have EUP:=qH (fun hu=>HN.out.symm.trans (devCheck_is_up HL2.out HL1.out hc hu));rw[hrec]at hact hok EUP;have himc:=fun w k hk h q1 q2=>image_calls d L k d.rec_ w hk h (slot_len HL2.out HL1.out k) q1 q2;have HIM:=qH himc;clear himc;generalize d.rec_=r at *
 obtain⟨ka,ha,ha1⟩:∃ka:Nat,r.active=(ka:Int)∧ka<=1:=⟨r.active.toNat,by omega,by omega⟩;have HOK:=qH hok;have HA:=qH ha;clear hrec hrk hok hact ha HN hc;go_wp2_with fail;refine(KR.out _).mono ?_;rintro e w1 ⟨rfl,hb⟩;have HB1:=bT HBA hb;obtain⟨a0r,a0f,a0n,a0c,a0z,a0l⟩:=keep1 (g:=w.heap.size) (cs:=devA d L) hb a0r (by go_simp) a0f;clear hb KR HBA;obtain⟨g,hg⟩:=eX (w.heap.size);rw[hg]at a0r a0f a0n a0c a0z a0l⊢;have HG:=qH hg;clear hg;go_upto_region 8 with fail
 obtain⟨w4,hw1⟩:=eX (w1.alloc (.cells (recA r) 29));have hb:Below w1.heap.size w1 w4:=by rw[<-hw1];exact bL _
 have r0r:rowOf w4 w1.heap.size=recA r:=by rw[<-hw1,rowOf_alloc,if_pos rfl]
 have r0f:frOf w4 w1.heap.size=(0,0):=by rw[<-hw1,frOf_alloc,if_pos rfl]
 obtain⟨a0r,a0f,a0n,a0c,a0z,a0l⟩:=keep1 (g:=g) (cs:=devA d L) hb a0r (by go_simp) a0f;have HB2:=bT HB1 hb;rw[hw1];obtain⟨gr,hgr⟩:=eX (w1.heap.size);rw[hgr]at r0r r0f⊢;clear hw1 hb hgr HB1;obtain⟨r0r,r0f,r0n,r0c,r0z,r0l⟩:=keep1 (bW w4) r0r (by simp[recA]) r0f;have KZ:=qH (fun wq hb=>patSameZ_calls d.job L.aj L.cj wq (HIN.out.job.stays (HB2.out.trans (Below.mono hb HB2.out.size))));have hu:=HUP.out;have E:=qH (EUP.out hu);clear EUP;go_upto_region 14 with fail
 obtain⟨rng,hrng⟩:∃b,decide (d.running<0∨1<d.running∨(d.running≠r.active∧r.trying=false))=b:=⟨_,rfl⟩;have HRN:=qH hrng;clear hrng;go_cut [76] (fun v wx=>v=.bool rng∧Hid (Below w4.heap.size w4 wx))
 case first=>
  by_cases c1:d.running<0
  ·have hres:rng=true:=by rw[<-HRN.out];exact decide_eq_true (.inl c1)
   exact x74k
  by_cases c2:1<d.running
  ·have hres:rng=true:=by rw[<-HRN.out];exact decide_eq_true (.inr (.inl c2))
   exact x74k
  by_cases c3:d.running=r.active
  ·have q1:(d.running !=r.active)=false:=by simp[c3]
   have hres:rng=false:=by rw[<-HRN.out];exact decide_eq_false (by rintro (h|h|h);omega;omega;exact h.1 c3)
   clear c3;exact x74k
  have q1:(d.running !=r.active)=true:=by simp[c3]
  cases c4:r.trying
  ·have hres:rng=true:=by rw[<-HRN.out];exact decide_eq_true (.inr (.inr ⟨c3,c4⟩))
   clear c3;exact x74k
  have hres:rng=false:=by rw[<-HRN.out];exact decide_eq_false (by rintro (h|h|h);omega;omega;rw[c4]at h;cases h.2)
  clear c3;exact x74k
 case rest=>
 obtain⟨rfl,hb⟩:=hcut;obtain⟨a0r,a0f,a0n,a0c,a0z,a0l⟩:=keep1 (g:=g) (cs:=devA d L) hb.out a0r (by go_simp) a0f;obtain⟨r0r,r0f,r0n,r0c,r0z,r0l⟩:=keep1 (g:=gr) (cs:=recA r) hb.out r0r (by simp[recA]) r0f;have HB1:=bT HB2 hb.out;clear hb
 cases c1:rng
 case true=>
  have hz:Hid (n=2):=qH (E.out.trans (devUp_range (of_decide_eq_true (HRN.out.trans c1))));clear c1;exact x73o
 have HRG:=qH (of_decide_eq_false (HRN.out.trans c1));clear c1 HRN;go_wp2_with fail;refine(chkList_calls L.ag L.cg d.got _ HIN.out.lg (HIN.out.got.stays HB1.out)).mono ?_;rintro e w2 ⟨rfl,hb⟩;obtain⟨a0r,a0f,a0n,a0c,a0z,a0l⟩:=keep1 (g:=g) (cs:=devA d L) hb a0r (by go_simp) a0f;obtain⟨r0r,r0f,r0n,r0c,r0z,r0l⟩:=keep1 (g:=gr) (cs:=recA r) hb r0r (by simp[recA]) r0f;have HB3:=bT HB1 hb;clear hb HB1 HB2 KZ;have KZ:=qH (fun wq hb=>patSameZ_calls d.job L.aj L.cj wq (HIN.out.job.stays (HB3.out.trans (Below.mono hb HB3.out.size))));by_cases c1:chkList d.got=0
 case neg=>
  have q:(chkList d.got !=0)=true:=by simp[c1]
  have hz:Hid (n=chkList d.got):=qH (E.out.trans (devUp_list HRG.out c1));generalize chkList d.got=e1 at *
  clear c1;exact x73o
 rw[c1];have HGT:=qH c1;clear c1
 cases c2:d.busy
 ·have E1:=qH (E.out.trans (devUp_idle HRG.out HGT.out c2));obtain⟨idl,hidl⟩:∃b,decide (d.done≠0∨d.job≠Pat.zero)=b:=⟨_,rfl⟩;have HI:=qH hidl;clear hidl HIM E;go_upto_region 20 with fail
  go_cut [95] (fun v wx=>v=.bool idl∧Hid (Below w2.heap.size w2 wx))
  case first=>
   by_cases c2:d.done=0
   case neg=>
    have q1:(d.done !=0)=true:=by simp[c2]
    have hres:idl=true:=by rw[<-HI.out];exact decide_eq_true (.inl c2)
    clear c2;exact x74k
   have q1:(d.done !=0)=false:=by simp[c2]
   have hres:idl=!decide (d.job=Pat.zero):=by
    rw[<-HI.out];by_cases h:d.job=Pat.zero<;>simp[c2,h]
   clear c2;go_wp2_with fail;refine(KZ.out w2 (Below.refl _ _)).mono ?_;rintro e w3 ⟨rfl,hb⟩;exact x5ii
  case rest=>
  obtain⟨rfl,hb⟩:=hcut;have HB1:=bT HB3 hb.out
  cases c:idl
  ·have hz:Hid (n=0):=qH (E1.out.trans (if_neg (of_decide_eq_false (HI.out.trans c))));exact x73o
  have hz:Hid (n=3):=qH (E1.out.trans (if_pos (of_decide_eq_true (HI.out.trans c))));exact x73o
 exact absurd HBB.out (by rintro (h|h|h);rw[c2]at h;cases h;exact HRG.out h;exact h HGT.out)
theorem x35y(h:Y:=by
 clear c3;go_wp2_with fail;go_meet
 case rel=>exact⟨rfl,qH (Below.refl _ _)⟩):Y:=h
theorem devCheck_busy_(d:Dev)(L:DLoc)(w:World)(h:DevIn w d L)(h0:d.s0.length=64)(h1:d.s1.length=64)(hc:copCheck d.c0 d.c1=0)(hu:d.up=true)(hbz:d.busy=true)(hrg:¬(d.running<0∨1<d.running∨(d.running≠d.rec_.active∧d.rec_.trying=false)))(hgl:chkList d.got=0):Calls Tryz.prog 36 #[.agg (devA d L)] w (RetB w (iv (devCheck d))):=by
 have HIN:=qH h;clear h;obtain⟨n,hn⟩:=eX (devCheck d);rw[hn];have HN:=qH hn;clear hn;have i2:∀w,(Instr.index 24 (.agg (slotsA L.a0 d.s0.length L.c0 L.a1 d.s1.length L.c1)) (iv 0)).run Tryz.prog w=.ok (.slice L.a0 d.s0.length L.c0) w:=fun _=>by kernel_rfl
 have i1:∀w,(Instr.index 24 (.agg (slotsA L.a0 d.s0.length L.c0 L.a1 d.s1.length L.c1)) (iv 1)).run Tryz.prog w=.ok (.slice L.a1 d.s1.length L.c1) w:=fun _=>by kernel_rfl
 have l2:((d.s0.length:Int) !=64)=false:=by simp;omega
 have l1:((d.s1.length:Int) !=64)=false:=by simp;omega
 have HL2:=qH h0;have HL1:=qH h1;have HCC:=qH hc;have HUP:=qH hu;have HRG:=qH hrg;have HGT:=qH hgl;have HBZ:=qH hbz;clear hrg hgl hbz;clear h0 h1 hc hu;have HBA:=qH ((bW w).alloc nl (.cells (devA d L) 38));go_enter Tryz.func36,Tryz.ntmps36;go_wp2_with fail;go_loopw [12] (fun i wr=>∃k:Nat,k<=2∧i=iv k∧wr=w.alloc (.cells (devA d L) 38)) (fun i _=>(2-intOf i).toNat)
 case atStart=>exact⟨0,by omega,rfl,rfl⟩
 case round=>
 obtain⟨k,hk,rfl,rfl⟩:=hrel;by_cases hlt:k<2
 ·exact x1fz
 obtain rfl:k=2:=by omega
 clear hk hlt i2 i1 l2 l1;have a0r:rowOf (w.alloc (.cells (devA d L) 38)) w.heap.size=devA d L:=by rw[rowOf_alloc,if_pos rfl]
 have a0f:frOf (w.alloc (.cells (devA d L) 38)) w.heap.size=(0,0):=by rw[frOf_alloc,if_pos rfl]
 have a0l:w.heap.size<(w.alloc (.cells (devA d L) 38)).heap.size:=by simp
 have hc:=HCC.out;have KR:=qH (fun w=>read_ok d.c0 d.c1 w hc);have hact:=rec_active (recRead_ok hc);have hok:=recRead_ok hc;have hrec:(recRead d.c0 d.c1).1=d.rec_:=rfl;obtain⟨rk,hrk⟩:=eX ((recRead d.c0 d.c1).2);rw[hrk,hrec]at KR;have EUP:=qH (fun hu=>HN.out.symm.trans (devCheck_is_up HL2.out HL1.out hc hu));rw[hrec]at hact hok EUP;have himc:=fun w k hk h q1 q2=>image_calls d L k d.rec_ w hk h (slot_len HL2.out HL1.out k) q1 q2;have HIM:=qH himc;clear himc;generalize d.rec_=r at *
 obtain⟨ka,ha,ha1⟩:∃ka:Nat,r.active=(ka:Int)∧ka<=1:=⟨r.active.toNat,by omega,by omega⟩;have HOK:=qH hok;have HA:=qH ha;clear hrec hrk hok hact ha HN hc;go_wp2_with fail;refine(KR.out _).mono ?_;rintro e w1 ⟨rfl,hb⟩;have HB1:=bT HBA hb;obtain⟨a0r,a0f,a0n,a0c,a0z,a0l⟩:=keep1 (g:=w.heap.size) (cs:=devA d L) hb a0r (by go_simp) a0f;clear hb KR HBA;obtain⟨g,hg⟩:=eX (w.heap.size);rw[hg]at a0r a0f a0n a0c a0z a0l⊢;have HG:=qH hg;clear hg;go_upto_region 8 with fail
 obtain⟨w4,hw1⟩:=eX (w1.alloc (.cells (recA r) 29));have hb:Below w1.heap.size w1 w4:=by rw[<-hw1];exact bL _
 have r0r:rowOf w4 w1.heap.size=recA r:=by rw[<-hw1,rowOf_alloc,if_pos rfl]
 have r0f:frOf w4 w1.heap.size=(0,0):=by rw[<-hw1,frOf_alloc,if_pos rfl]
 obtain⟨a0r,a0f,a0n,a0c,a0z,a0l⟩:=keep1 (g:=g) (cs:=devA d L) hb a0r (by go_simp) a0f;have HB2:=bT HB1 hb;rw[hw1];obtain⟨gr,hgr⟩:=eX (w1.heap.size);rw[hgr]at r0r r0f⊢;clear hw1 hb hgr HB1;obtain⟨r0r,r0f,r0n,r0c,r0z,r0l⟩:=keep1 (bW w4) r0r (by simp[recA]) r0f;have hu:=HUP.out;have E:=qH (EUP.out hu);clear EUP;go_upto_region 14 with fail
 go_cut [76] (fun v wx=>v=.bool false∧Hid (Below w4.heap.size w4 wx))
 case first=>
  have c1:¬d.running<0:=fun h=>HRG.out (.inl h);have c2:¬1<d.running:=fun h=>HRG.out (.inr (.inl h));by_cases c3:d.running=r.active
  ·have q1:(d.running !=r.active)=false:=by simp[c3]
   exact x35y
  have q1:(d.running !=r.active)=true:=by simp[c3]
  have c4:r.trying=true:=by cases h:r.trying;exact absurd (.inr (.inr ⟨c3,h⟩)) HRG.out;rfl
  exact x35y
 case rest=>
 obtain⟨rfl,hb⟩:=hcut;obtain⟨a0r,a0f,a0n,a0c,a0z,a0l⟩:=keep1 (g:=g) (cs:=devA d L) hb.out a0r (by go_simp) a0f;obtain⟨r0r,r0f,r0n,r0c,r0z,r0l⟩:=keep1 (g:=gr) (cs:=recA r) hb.out r0r (by simp[recA]) r0f;have HB3:=bT HB2 hb.out;clear hb;go_wp2_with fail;refine(chkList_calls L.ag L.cg d.got _ HIN.out.lg (HIN.out.got.stays HB3.out)).mono ?_;rintro e w2 ⟨rfl,hb⟩;obtain⟨a0r,a0f,a0n,a0c,a0z,a0l⟩:=keep1 (g:=g) (cs:=devA d L) hb a0r (by go_simp) a0f;obtain⟨r0r,r0f,r0n,r0c,r0z,r0l⟩:=keep1 (g:=gr) (cs:=recA r) hb r0r (by simp[recA]) r0f;have HB4:=bT HB3 hb;clear hb HB3 HB2;rw[HGT.out];have c2:=HBZ.out;have E1:=qH (E.out.trans (devUp_busy HRG.out HGT.out c2));clear E HRG HGT;go_upto_region 23 with fail
 obtain⟨a',ha',ha2⟩:∃a':Nat,ka+a'=1∧a'<=1:=⟨1-ka,by omega,by omega⟩;have hsub:(1:Int)-(ka:Int)=(a':Int):=by omega
 have hwr:IntKind.i64.wrap ((1:Int)-(ka:Int))=(a':Int):=by rw[hsub];exact IntWalk.i64_in _ (by omega)
 obtain⟨bad,hbad⟩:∃b,decide (r.trying=true∨d.job.to_<r.floor∨d.job.from_≠(r.at_ r.active).ver∨(r.at_ (1-r.active)).ver≠0)=b:=⟨_,rfl⟩;have HBAD:=qH hbad;have hbad1:=hbad;rw[HA.out,hsub]at hbad1;have HBAD1:=qH hbad1;clear hbad hbad1;go_cut [127] (fun v wx=>v=.bool bad∧Hid (Below w2.heap.size w2 wx))
 case first=>
  have ha:=HA.out;have pv:=recA_ver r ha1;have pv1:=recA_ver r ha2;have z1:=(at_sizes HOK.out (a':Int)).2.2;have k1:(0:Int)<=(ka:Int):=by omega
  have k2:(ka:Int)<2:=by omega
  have k3:¬(2:Int)<=(ka:Int):=by omega
  have k4:(0:Int)<=(a':Int):=by omega
  have k5:(a':Int)<2:=by omega
  have k6:¬(2:Int)<=(a':Int):=by omega
  clear HBAD
  cases c3:r.trying
  ·by_cases c4:d.job.to_<r.floor
   ·have hres:bad=true:=by rw[<-HBAD1.out];exact decide_eq_true (.inr (.inl c4))
    have q1:decide (d.job.to_<r.floor)=true:=decide_eq_true c4;clear c4 pv pv1;exact x02y
   ·have q2:decide (d.job.to_<r.floor)=false:=decide_eq_false c4;generalize (r.at_ (ka:Int)).ver=x1 at *
    generalize (r.at_ (a':Int)).ver=x2 at *
    by_cases c5:d.job.from_=x1
    ·have q1:(d.job.from_ !=x1)=false:=by simp[c5]
     by_cases c6:x2=0
     ·have hres:bad=false:=by rw[<-HBAD1.out];exact decide_eq_false (by rintro (h|h|h|h);rw[c3]at h;cases h;exact c4 h;exact h c5;exact h c6)
      have q3:(x2 !=0)=false:=by simp[c6]
      clear c4 c5 c6;exact x02y
     have hres:bad=true:=by rw[<-HBAD1.out];exact decide_eq_true (.inr (.inr (.inr c6)))
     have q3:(x2 !=0)=true:=by simp[c6]
     clear c4 c5 c6;exact x02y
    have q1:(d.job.from_ !=x1)=true:=by simp[c5]
    have hres:bad=true:=by rw[<-HBAD1.out];exact decide_eq_true (.inr (.inr (.inl c5)))
    clear c4 c5 pv1;exact x02y
  have hres:bad=true:=by rw[<-HBAD1.out];exact decide_eq_true (.inl c3)
  clear pv pv1;exact x02y
 case rest=>
 obtain⟨rfl,hb⟩:=hcut;obtain⟨a0r,a0f,a0n,a0c,a0z,a0l⟩:=keep1 (g:=g) (cs:=devA d L) hb.out a0r (by go_simp) a0f;obtain⟨r0r,r0f,r0n,r0c,r0z,r0l⟩:=keep1 (g:=gr) (cs:=recA r) hb.out r0r (by simp[recA]) r0f;have HB2:=bT HB4 hb.out;clear hb HB4 HBAD1
 cases hbd:bad
 case true=>
  have hz:Hid (n=3):=qH (E1.out.trans (devBusy_form (of_decide_eq_true (HBAD.out.trans hbd))));clear hbd;exact x73o
 have hnf:=of_decide_eq_false (HBAD.out.trans hbd);have hrest:=E1.out.trans (devBusy_rest hnf);clear hbd HBAD E1 hnf;obtain⟨img,himg⟩:=eX (d.image r.active r);rw[himg]at hrest;have hil:img.length<=64:=by
  exact x2bx
 rw[HA.out]at himg;rw[HA.out,hsub]at hrest;have hpok:=@patDo_ok (sumOn 1) d.job img;obtain⟨⟨b,en⟩,hpd⟩:∃x,patDo (sumOn 1) d.job img=x:=⟨_,rfl⟩;rw[hpd]at hrest hpok;have HBL:Hid (en=0->b.length<=64∧(b.length:Int)=d.job.size∧d.job.size<=64):=qH (fun e=>by
  exact x6tj)
 dsimp only at hrest;have HR1:=qH hrest;have HPD:=qH hpd;have KI:Hid (∀wq,Below wc.heap.size wc wq->Calls Tryz.prog 65 #[.agg (devA d L),iv (ka:Int),.agg (recA r)] wq (ImRet wq img)):=qH (fun wq h=>by
  rw[<-himg];exact HIM.out wq (ka:Int) (by omega) ((HIN.out.stays HB2.out).stays h) (at_sizes HOK.out _).1 (at_sizes HOK.out _).2.1)
 clear hrest hpok hpd himg hsub;have RD:Hid (rowOf wc g=devA d L):=qH a0r;have FD:Hid (frOf wc g=(0,0)):=qH a0f;have RR:Hid (rowOf wc gr=recA r):=qH r0r;have FR:Hid (frOf wc gr=(0,0)):=qH r0f;have KD:Hid (∀wq A c,Below wc.heap.size wc wq->img.length<=c->Bts wq A img->Calls Tryz.prog 64 #[.agg (patA d.job.from_ d.job.to_ d.job.old d.job.new_ d.job.size L.aj d.job.ops.length L.cj),.slice A img.length c] wq (ByRet2 wq b en)):=qH (fun wq A c h hc hb=>by
  have hq:=patDo_calls L.aj A L.cj c d.job img wq hc (by omega) hb ((HIN.out.job.stays HB2.out).stays h);rw[HPD.out]at hq;exact hq)
 go_wp2_with fail;have hq2:=fun v (h:Below wc.heap.size wc v)=>keep1 h RD.out (by go_simp) FD.out;have hq1:=fun v (h:Below wc.heap.size wc v)=>keep1 h RR.out (by simp[recA]) FR.out;have hf1:=HA.out
 go_region_held3 (fun v=>Below wc.heap.size wc v) (first|exact hbb|exact(Below.refl _ _).drew)
  (first
    |(go_at_call 65;refine(KI.out _ (by assumption)).mono ?_;rintro e wj ⟨Aj,cj,rfl,h3,h4,h5⟩;have hbb:=(bW wc).drew.trans (h5.mono (by simp)))
    |(go_at_call 64;refine(KD.out _ _ _ (by assumption) h3 h4).mono ?_;rintro e w8 ⟨A2,c2',rfl,g1,g2,g9⟩;have hbb:=hbb.trans (g9.mono hbb.size)))
 have g3:=hbb;clear hbb g9 h3 h4 h5 hq2 hq1 hf1;obtain⟨a0r,a0f,a0n,a0c,a0z,a0l⟩:=keep1 (g:=g) (cs:=devA d L) g3 a0r (by go_simp) a0f;obtain⟨r0r,r0f,r0n,r0c,r0z,r0l⟩:=keep1 (g:=gr) (cs:=recA r) g3 r0r (by simp[recA]) r0f;have HB3:Hid (Below w.heap.size w w8):=qH (HB2.out.trans (g3.mono HB2.out.size));have HBB:=qH g1;have HC1:=qH g2;clear g1 g2 g3 KI KD RD FD RR FR HIM HB2 HPD;by_cases c1:en=0
 case neg=>
  have q:(en !=0)=true:=by simp[c1]
  have hz:Hid (n=en):=qH (HR1.out.trans (if_pos c1));clear c1;exact x73o
 subst c1;obtain⟨b1,b2,b3⟩:=HBL.out rfl;have HR2:=qH (HR1.out.trans (if_neg (by decide)));have hw1:IntKind.i64.wrap (d.job.size+8)=d.job.size+8:=IntWalk.i64_in _ (by omega);have HB1:=qH b1;clear HR1 HBL b2;go_upto_region 28 with fail
 obtain⟨bad1,hbad1⟩:∃b,decide (d.done<0∨64<d.done∨d.done%8≠0∨d.job.size+8<=d.done)=b:=⟨_,rfl⟩;have HBAD:=qH hbad1;clear hbad1 b1 b3;go_cut [168] (fun v wx=>v=.bool bad1∧Hid (Below w8.heap.size w8 wx))
 case first=>
  by_cases c1:d.done<0
  ·have hres:bad1=true:=by rw[<-HBAD.out];exact decide_eq_true (.inl c1)
   exact x74k
  have hmod:d.done.tmod 8=d.done%8:=Int.tmod_eq_emod_of_nonneg (by omega);by_cases c2:64<d.done
  ·have hres:bad1=true:=by rw[<-HBAD.out];exact decide_eq_true (.inr (.inl c2))
   have q:(d.s0.length:Int)<d.done:=by have:=HL2.out;omega
   clear c2;exact x74k
  have q1:¬(d.s0.length:Int)<d.done:=by have:=HL2.out;omega
  by_cases c3:d.done%8=0
  case neg=>
   have hres:bad1=true:=by rw[<-HBAD.out];exact decide_eq_true (.inr (.inr (.inl c3)))
   have q2:(d.done.tmod 8 !=0)=true:=by rw[hmod];simp[c3]
   clear hmod;exact x74k
  have q2:(d.done.tmod 8 !=0)=false:=by rw[hmod];simp[c3]
  by_cases c4:d.job.size+8<=d.done
  ·have hres:bad1=true:=by rw[<-HBAD.out];exact decide_eq_true (.inr (.inr (.inr c4)))
   clear hmod;exact x74k
  have hres:bad1=false:=by rw[<-HBAD.out];exact decide_eq_false (by omega)
  clear hmod;exact x74k
 case rest=>
 obtain⟨rfl,hb⟩:=hcut;obtain⟨a0r,a0f,a0n,a0c,a0z,a0l⟩:=keep1 (g:=g) (cs:=devA d L) hb.out a0r (by go_simp) a0f;obtain⟨r0r,r0f,r0n,r0c,r0z,r0l⟩:=keep1 (g:=gr) (cs:=recA r) hb.out r0r (by simp[recA]) r0f;have HB2:=bT HB3 hb.out;have HBB:=qH (HBB.out.stays hb.out);clear hb HB3 hw1
 cases hbd:bad1
 case true=>
  have hz:Hid (n=2):=qH (HR2.out.trans (if_pos (of_decide_eq_true (HBAD.out.trans hbd))));clear hbd;exact x73o
 have hnb:=of_decide_eq_false (HBAD.out.trans hbd);have HR1:=qH (HR2.out.trans (if_neg hnb));obtain⟨dn',hdn⟩:∃dn':Nat,d.done=(dn':Int):=⟨d.done.toNat,by omega⟩;have hdt:d.done.toNat=dn':=by omega
 rw[hdt]at HR1;have hd1:dn'<=64:=by omega
 have HDN:=qH hdn;clear hbd HBAD HR2 hnb hdt;have hsl:=slot_len HL2.out HL1.out (a':Int);obtain⟨A1,c3,p1,p2,p3⟩:=devSlotA (HIN.out.stays HB2.out) ha2;generalize d.slot (a':Int)=sl at *
 have HP1:=qH p1;have HX:=qH p3;obtain⟨bx,ox,hax,-⟩:=p3 0 (by omega);have HSL:=qH (pre_slice (A:=A1) (n:=sl.length) (c:=c3) dn' hdn p2 (by omega) (by omega) ⟨bx,ox,hax⟩);have hrl:=room_len HB1.out;obtain⟨eq,heq⟩:=eX (decide (sl.take dn'=(room b).take dn'));have hlt1:(sl.take dn').length=dn':=by rw[List.length_take,hsl];omega
 have hlt2:((room b).take dn').length=dn':=by rw[List.length_take,hrl];omega
 have KQ:Hid (∀wq A c,Below wc.heap.size wc wq->Bts wq A ((room b).take dn')->Calls Tryz.prog 66 #[.slice A1 dn' c3,.slice A dn' c] wq (RetN wq (.bool eq))):=qH (fun wq A c h hb=>by
  have hq:=equalBytes_calls A1 A c3 c (sl.take dn') ((room b).take dn') wq (by omega) (by omega) (mid_take (HX.out.stays h) dn') hb;rw[heq,hlt1,hlt2]at hq;exact hq)
 have HQ:=qH heq;have HRL:=qH hrl;obtain⟨rb,hrb⟩:=eX (room b);rw[hrb]at KQ HQ HRL HR1;have HRB:=qH hrb;have HKS:Hid ((0:Int)<=(a':Int)∧(a':Int)<2∧¬(2:Int)<=(a':Int)∧IntKind.i64.wrap ((1:Int)-(ka:Int))=(a':Int)):=qH ⟨by omega,by omega,by omega,hwr⟩;clear hsl p1 p2 p3 hax hrl heq hlt1 hlt2 hrb hwr hdn;go_wp2_with fail;have RD:Hid (rowOf wc g=devA d L):=qH a0r;have FD:Hid (frOf wc g=(0,0)):=qH a0f;have RR:Hid (rowOf wc gr=recA r):=qH r0r;have FR:Hid (frOf wc gr=(0,0)):=qH r0f;refine wp_region_mix (by kernel_rfl) (some 169::some 170::some 171::some 172::some 173::some 174::some 175::some 176::some 177::some 178::some 179::some 180::some 181::some 182::some 183::some 184::[]) (none::none::none::none::none::none::none::none::none::none::some 0::none::none::some 1::some 2::some 3::[]) (.pointer (some ⟨gr,1,none⟩)::iv (ka:Int)::iv (a':Int)::.pointer (some ⟨g,0,none⟩)::.pointer (some ⟨g,a',none⟩)::.slice A1 sl.length c3::.pointer (some ⟨g,36,none⟩)::iv d.done::.slice A1 dn' c3::.slice A2 b.length c2'::undef::.pointer (some ⟨g,36,none⟩)::iv d.done::undef::undef::undef::[]) 4 (rmJ wc rb dn' eq) 185 rfl rfl (by decide+kernel) (by decide+kernel) (by decide+kernel) (by decide+kernel) rfl rfl (by decide+kernel) (by decide+kernel) (rfl) ?_ ?_
 ·refine⟨?_,?_,?_,?_,?_,?_,?_,?_,?_,?_,?_,?_,?_,?_,?_,?_,trivial⟩
  ·exact x5uk
  ·intro done cv k2 a wq hw h hJ hn;have e1:=mN 0 169 h hw;exact x5ke
  ·intro done cv k1 a wq hw h hJ hn;have e1:=mN 1 170 h hw;exact x3t8
  ·exact x0dl
  ·intro done cv k1 a wq hw h hJ hn;have e1:=mN 3 172 h hw;have e171:=mN 2 171 h hw;exact x3t8
  ·intro done cv k2 a wq hw h hJ hn;have e1:=mN 4 173 h hw;have y_:=kq (rmJ_bel hJ) RD FD;have e_:=HP1.out;go_simp
  ·exact x9ik
  ·intro done cv k2 a wq hw h hJ hn;have e1:=mN 6 175 h hw;exact x1ex
  ·intro done cv k1 a wq hw h hJ hn;have e1:=mN 5 174 h hw;have e176:=mN 7 176 h hw;have hs_:=HSL.out;go_simp
  ·intro done cv k2 a wq hw h hJ hn;have e1:=mO 9 (.slice A2 b.length c2') h;exact mx_move (ch_ev e1)
  ·intro done cv a wq hw h hJ;have e1:=mN 9 178 h hw;obtain rfl:wq=wc.drew:=hJ;refine wp_call (vals:=#[.slice A2 b.length c2']) (by rw[List.map_toArray,List.map_cons,List.map_nil,ch_ev e1]) (enters_of Tryz.func67 (by kernel_rfl) rfl _ _) (room_calls A2 c2' b _ HB1.out (HBB.out.stays (Below.refl _ _).drew)) ?_;rintro e w' ⟨A2,c4,rfl,hown,hbel⟩;rw[HRB.out]at hown⊢;exact⟨_,rfl,_,rfl,A2,c4,by simp,hown.src.bts,hown.le,(Below.refl _ _).drew.trans hbel⟩
  ·exact x9ik
  ·intro done cv k2 a wq hw h hJ hn;have e1:=mN 11 180 h hw;exact x1ex
  ·intro done cv a wq hw h hJ;have e1:=mx_cv (i:=10) (t:=179) h (hw 10 (by decide)) rfl rfl;have e181:=mN 12 181 h hw;obtain⟨A2,c4,y1,g1,g2,g3⟩:=hJ;rw[y1]at e1;obtain⟨by_,oy_,hay,-⟩:=g1 0 (by rw[HRL.out];omega);have hs_:=pre_slice (z:=d.done) dn' HDN.out g2 (by rw[HRL.out];omega) (by rw[HRL.out];omega) ⟨by_,oy_,hay⟩;clear hay;refine wp_val (v:=.slice A2 dn' c4) (by go_simp) ⟨_,rfl,A2,c4,by simp,mid_take g1 dn',by rw[HRL.out]at g2;omega,g3⟩
  ·intro done cv a wq hw h hJ;have e1:=mN 8 177 h hw;have e182:=mx_cv (i:=13) (t:=182) h (hw 13 (by decide)) rfl rfl;obtain⟨A2,c4,y1,g1,g2,g3⟩:=hJ;rw[y1]at e182;refine wp_call (vals:=#[.slice A1 dn' c3,.slice A2 dn' c4]) (by rw[List.map_toArray,List.map_cons,List.map_cons,List.map_nil,ch_ev e1,ch_ev e182]) (enters_of Tryz.func66 (by kernel_rfl) rfl _ _) (KQ.out _ _ _ g3 g1) ?_;rintro e w' ⟨rfl,m,rfl⟩;exact⟨_,rfl,_,rfl,by simp,Below.drewN' g3 m⟩
  ·intro done cv a wq hw h hJ;have e1:=mx_cv (i:=14) (t:=183) h (hw 14 (by decide)) rfl rfl;exact x1dh
 intro cv1 w3 hJ;obtain⟨y1,hb⟩:=hJ;simp only[mixAll,putAll_some,putAll_none,putAll_nil,List.getElem?_cons_zero,List.getElem?_cons_succ,Nat.zero_add,Nat.reduceAdd,List.setIfInBounds_toArray,List.set_cons_zero,List.set_cons_succ];rw[y1];have HB3:=bT HB2 hb;clear hb y1
 cases eq
 ·have hz:Hid (n=3):=qH (HR1.out.trans (if_pos (by have:=HQ.out;simpa using this)));exact x73o
 have hz:Hid (n=0):=qH (HR1.out.trans (if_neg (by have:=HQ.out;simpa using this)));exact x73o
theorem devCheck_calls(d:Dev)(L:DLoc)(w:World)(h:DevIn w d L):Calls Tryz.prog 36 #[.agg (devA d L)] w (RetB w (iv (devCheck d))):=by
 by_cases hA:d.s0.length=64∧d.s1.length=64∧copCheck d.c0 d.c1=0∧d.up=true
 case neg=>exact devCheck_off_ d L w h hA
 obtain⟨h2,h1,hc,hu⟩:=hA;by_cases hB:d.busy=false∨(d.running<0∨1<d.running∨(d.running≠d.rec_.active∧d.rec_.trying=false))∨chkList d.got≠0
 ·exact devCheck_idle_ d L w h h2 h1 hc hu hB
 refine devCheck_busy_ d L w h h2 h1 hc hu ?_ (fun h=>hB (.inr (.inl h))) (Decidable.not_not.1 fun h=>hB (.inr (.inr h)))
 cases e:d.busy
 ·exact absurd (.inl e) hB
 rfl
theorem x61q(h:Y:=by
 have hwk:IntKind.i64.wrap ((k:Int)+1)=(k:Int)+1:=IntWalk.i64_in _ (by omega);have dl:decide ((k:Int)<(x.net.length:Int))=true:=decide_eq_true (by omega);obtain⟨e3,he1⟩:∃e,chkCheck y=e:=⟨_,rfl⟩;rw[he1]at KC HNE;clear hy hin hdr hne he1;go_wp2_with fail;refine(KC.out _).mono ?_;rintro e w2 ⟨rfl,hb1⟩;have HB1:Hid (Below w.heap.size w w2):=qH (by
  refine Below.trans ?_ (hb1.mono (by first|omega|(simp<;>omega)));repeat (first|exact HB.out|refine bA ?_ _))
 clear hb1;by_cases c4:e3≠0
 ·have hz:Hid (n=e3):=qH (by have:=HNE.out;rw[if_pos c4]at this;exact this.symm);have q:(e3 !=0)=true:=by simp[c4]
  clear c4;go_wp2_with fail;go_ret;have hs:=HB1.out.size;refine⟨ret_int hz.out.symm,?_⟩;repeat (first|exact hA|refine bR ?_ _|refine bC ?_ _|refine bA ?_ _)
 have c4:=Decidable.not_not.1 c4;subst c4;have HE2':Hid (netCheck (x.net.drop (k+1))=n):=qH (by have:=HNE.out;rw[if_neg (by decide)]at this;exact this);go_wp2_with fail;go_roundw
 case rel=>exact⟨k+1,by omega,by go_num,HE2',HB1⟩
 case measure=>simp[intOf];omega):Y:=h
theorem worCheck_rel(h:relCheck x.rel≠0):worCheck x=relCheck x.rel:=by unfold worCheck;rw[if_pos h]
theorem worCheck_dev(h:relCheck x.rel=0)(g:devCheck x.d≠0):worCheck x=devCheck x.d:=by unfold worCheck;rw[if_neg (by omega),if_pos g]
theorem worCheck_many(h:relCheck x.rel=0)(g:devCheck x.d=0)(i:120<x.net.length):worCheck x=1:=by unfold worCheck;rw[if_neg (by omega),if_neg (by omega),if_pos i]
theorem worCheck_net(h:relCheck x.rel=0)(g:devCheck x.d=0)(i:¬120<x.net.length):worCheck x=netCheck x.net:=by unfold worCheck;rw[if_neg (by omega),if_neg (by omega),if_neg i]
theorem netCheck_cons(y:Chk)(l:List Chk):netCheck (y::l)=if chkCheck y≠0 then chkCheck y else netCheck l:=rfl
theorem worCheck_calls(x:Wor)(L:WLoc)(w:World)(h:WorIn w x L):Calls Tryz.prog 11 #[.agg (worA x L)] w (RetB w (iv (worCheck x))):=by
 have HBA:=qH ((bW w).alloc nl (.cells (worA x L) 40));have HIN:=qH h;have K1:=qH (fun w h=>releases_calls L.ar L.cr x.rel w HIN.out.kr HIN.out.lr h);have K2:=qH (fun w h=>devCheck_calls x.d L.l w h);obtain⟨n,hn⟩:=eX (worCheck x);rw[hn];have HN:=qH hn;obtain⟨e1,he1⟩:∃e,relCheck x.rel=e:=⟨_,rfl⟩;obtain⟨e2,he2⟩:∃e,devCheck x.d=e:=⟨_,rfl⟩;rw[he1]at K1;rw[he2]at K2;have HE1:=qH he1;have HE2:=qH he2;clear h hn he1 he2;go_enter Tryz.func11,Tryz.ntmps11;go_wp2_with fail;refine(K1.out _ (HIN.out.rel.stays HBA.out)).mono ?_;rintro e w3 ⟨rfl,rfl⟩;by_cases c1:e1≠0
 ·have hz:Hid (n=e1):=qH (by rw[<-HN.out,worCheck_rel (by rw[HE1.out];exact c1),HE1.out]);have q:(e1 !=0)=true:=by simp[c1]
  clear c1;go_wp2_with fail;go_ret;have hs:=HBA.out.size;refine⟨ret_int hz.out.symm,?_⟩;exact x0ap
 have c1:=Decidable.not_not.1 c1;subst c1;go_wp2_with fail;refine(K2.out _ (HIN.out.dev.stays HBA.out)).mono ?_;rintro e w1 ⟨rfl,hb⟩;have a1:=kp (w.heap.size) (worA x L) hb;have HB1:=bT HBA hb;clear hb;by_cases c2:e2≠0
 ·have hz:Hid (n=e2):=qH (by rw[<-HN.out,worCheck_dev HE1.out (by rw[HE2.out];exact c2),HE2.out]);have q:(e2 !=0)=true:=by simp[c2]
  clear c2;go_wp2_with fail;go_ret;have hs:=HB1.out.size;refine⟨ret_int hz.out.symm,?_⟩;exact x0ap
 have c2:=Decidable.not_not.1 c2;subst c2;by_cases c3:120<x.net.length
 ·have hz:Hid (n=1):=qH (by rw[<-HN.out,worCheck_many HE1.out HE2.out c3]);have q:(120:Int)<(x.net.length:Int):=by omega
  go_wp2_with fail;go_ret;have hs:=HB1.out.size;refine⟨ret_int hz.out.symm,?_⟩;exact x0ap
 have q3:¬(120:Int)<(x.net.length:Int):=by omega
 have HN1:Hid (netCheck x.net=n):=qH (by rw[<-HN.out,worCheck_net HE1.out HE2.out c3]);have hcap:(x.net.length:Int)<=(L.cn:Int):=by have:=HIN.out.kn;omega
 have HNT:=qH HIN.out.net;go_wp2_with fail;generalize L.an=an at *
 go_loopw [27] (fun i wr=>∃k:Nat,k<=x.net.length∧i=iv k∧Hid (netCheck (x.net.drop k)=n)∧Hid (Below w.heap.size w wr)) (fun i _=>x.net.length-(intOf i).toNat)
 case atStart=>exact⟨0,Nat.zero_le _,rfl,qH (by rw[List.drop_zero];exact HN1.out),HB1⟩
 case round=>
  clear HB1 HN1 a1;rename World=>wr;obtain⟨k,hk,rfl,HE,HB⟩:=hrel;have hsz:=HB.out.size;by_cases hlt:k<x.net.length
  ·obtain⟨b,o,B,c,rfl,hb,hck,hin⟩:=(HNT.out.stays HB.out).chk hlt;obtain⟨y,hy⟩:=eX (x.net[k]);rw[hy]at hck hin;obtain⟨q6,q1,q2,q4,q5⟩:=hck;have hdr:x.net.drop k=y::x.net.drop (k+1):=by rw[List.drop_eq_getElem_cons hlt,hy]
   have hne:=HE.out;rw[hdr,netCheck_cons]at hne;have HNE:=qH hne;have KC:=qH (fun w=>chkCheckX_calls B c y w ⟨hin.i2,hin.i3⟩);exact x61q
  obtain rfl:k=x.net.length:=by omega
  have dl:decide ((x.net.length:Int)<(x.net.length:Int))=false:=by simp
  have hz:Hid (n=0):=qH (by have:=HE.out;rw[List.drop_length]at this;exact this.symm);go_wp2_with fail;go_ret;have hs:=HB.out.size;refine⟨ret_int hz.out.symm,?_⟩;exact x0ap
theorem x7vq(h:Y:=by
 go_enter Tryz.func16,Tryz.ntmps16;go_wp2_with fail;refine(K1.out _).mono ?_;rintro e w2 ⟨rfl,rfl⟩;go_wp2_with fail;refine K.out.mono ?_;rintro e w1 ⟨rfl,hb⟩;have HB:=qH hb;clear hb;go_wp2_with fail;go_ret;exact⟨rfl,HB.out⟩):Y:=h
def idxI(p:List UInt8->Bool):List (List UInt8)->Nat->Int
 |[],_=> -1
 |x::r,k=>if p x=true then (k:Int)else idxI p r (k+1)
theorem idxI_ge(p:List UInt8->Bool):∀(l:List (List UInt8)) (k:Nat),decide ((0:Int)<=idxI p l k)=l.any p
 |[],k=>by simp[idxI]
 |x::r,k=>by
  unfold idxI;by_cases h:p x=true
  ·rw[if_pos h];simp[h]
  rw[if_neg h,idxI_ge p r];simp[h]
def longB(b:LU):Bool:=decide ((64:Int)<(b.length:Int))
theorem rel1_calls(B:OA)(n d:Nat)(w:World):Calls Tryz.prog 46 #[.slice B n d] w (RetB w (.bool (decide ((64:Int)<(n:Int))))):=by
 go_enter Tryz.func46,Tryz.ntmps46;go_wp2_with fail;go_ret;exact⟨rfl,Below.refl _ _⟩
theorem idxImgs_calls(A:OA)(c:Nat)(l:List (List UInt8))(w:World)(hl:l.length<=5864062014634)(hs:Ims w A l):
  Calls Tryz.prog 71 #[.slice A l.length c,.func (Fn.func 46) #[] #[]] w (RetB w (iv (idxI longB l 0))):=by
 have HS:=qH hs;obtain⟨r,hr⟩:=eX (idxI longB l 0);rw[hr];have HR:Hid (idxI longB l 0=r):=qH hr;clear hr hs;go_enter Tryz.func71,Tryz.ntmps71;go_wp2_with fail;go_loopw [8] (fun i wr=>∃k:Nat,k<=l.length∧i=iv k∧Hid (idxI longB (l.drop k) k=r)∧Hid (Below w.heap.size w wr)) (fun i _=>l.length-(intOf i).toNat)
 case atStart=>exact⟨0,Nat.zero_le _,rfl,qH HR.out,qH (Below.refl _ _)⟩
 case round=>
  rename World=>wr;obtain⟨k,hk,rfl,HE,HB⟩:=hrel;have hsz:=HB.out.size;by_cases hlk:k<l.length
  ·obtain⟨b,o,rfl,hb,cs,hcl,hcc,B,d,rfl,hd1,hd2,hd3⟩:=(HS.out.stays HB.out) k hlk;obtain⟨x,hx⟩:=eX (l[k]);have q1:wr.cell? ⟨b,o+k,none⟩=some (.slice B x.length d):=by have:=hcc 0 (by simp);rw[hx]at this;simpa using this
   have hdr:l.drop k=x::l.drop (k+1):=by rw[List.drop_eq_getElem_cons hlk,hx]
   rw[hdr]at HE;have hn:=HE.out;unfold idxI at hn;have HN:=qH hn;clear hdr HE hn hcc hcl hd1 hd2 hd3 hx;obtain⟨q,hq⟩:=eX (longB x);rw[hq]at HN;have HC:Hid (∀w',Calls Tryz.prog 46 #[.slice B x.length d] w' (RetB w' (.bool q))):=qH fun w'=>hq▸rel1_calls B x.length d w';clear hq;go_wp2_with fail;refine(HC.out _).mono ?_;rintro e w1 ⟨rfl,hb1⟩;have HB1:Hid (Below w.heap.size w w1):=qH (HB.out.trans (hb1.mono hsz));clear hb1
   cases q
   ·have HE1:Hid (idxI longB (l.drop (k+1)) (k+1)=r):=qH (by simpa using HN.out);clear HN;go_wp2_with fail;go_roundw
    case rel=>exact⟨k+1,by omega,by go_num,HE1,HB1⟩
    case measure=>simp[intOf]<;>omega
   have HE1:Hid ((k:Int)=r):=qH (by simpa using HN.out);clear HN;go_wp2_with fail;go_ret;exact⟨by rw[<-HE1.out];rfl,HB1.out⟩
  have HE1:Hid ((-1:Int)=r):=qH (by
   rw[<-HE.out,List.drop_of_length_le (by omega)];rfl)
  clear HE;go_wp2_with fail;go_ret;exact⟨by rw[<-HE1.out];rfl,HB.out⟩
theorem anyImgs_calls(A:OA)(c:Nat)(l:List (List UInt8))(w:World)(hl:l.length<=5864062014634)(hs:Ims w A l):
  Calls Tryz.prog 45 #[.slice A l.length c,.func (Fn.func 46) #[] #[]] w (RetB w (.bool (l.any longB))):=by
 have K:=qH (idxImgs_calls A c l w hl hs);have HI:Hid (decide ((0:Int)<=idxI longB l 0)=l.any longB):=qH (idxI_ge longB l 0);generalize idxI longB l 0=r at *
 generalize l.any longB=q at *
 clear hs;go_enter Tryz.func45,Tryz.ntmps45;go_wp2_with fail;refine K.out.mono ?_;rintro e w1 ⟨rfl,hb⟩;have HB:=qH hb;clear hb;go_wp2_with fail;go_ret;exact⟨by rw[<-HI.out];rfl,HB.out⟩
theorem relCheck_eq(l:List (List UInt8)):relCheck l=if within l.length 1 30=true∧l.any longB=false then 0 else 1:=by
 unfold relCheck within;have h1:(decide ((1:Int)<=(l.length:Int))&&decide ((l.length:Int)<=30))=true↔¬l=[]∧¬30<l.length:=by
  rw[Bool.and_eq_true,decide_eq_true_eq,decide_eq_true_eq]
  cases l<;>simp<;>omega
 have h2:l.any longB=false↔¬∃b∈l,64<b.length:=by
  unfold longB;rw[List.any_eq_false];simp;exact⟨fun h x hx=>by have:=h x hx;omega,fun h x hx=>by have:=h x hx;omega⟩
 by_cases h:l=[]∨30<l.length∨∃b∈l,64<b.length
 ·rw[if_pos h,if_neg];rintro⟨a,b⟩;obtain⟨a1,a2⟩:=h1.1 a;have b1:=h2.1 b;exact h.elim a1 fun h=>h.elim a2 b1
 rw[if_neg h,if_pos];exact⟨h1.2 ⟨fun e=>h (.inl e),fun e=>h (.inr (.inl e))⟩,h2.2 fun e=>h (.inr (.inr e))⟩
theorem refReleases_calls(A:OA)(c:Nat)(l:List (List UInt8))(w:World)(hl:l.length<=5864062014634)(hs:Ims w A l):
  Calls Tryz.prog 16 #[.slice A l.length c] w (RetB w (iv (relCheck l))):=by
 rw[relCheck_eq];have K:=qH (anyImgs_calls A c l w hl hs);have K1:Hid (∀w,Calls Tryz.prog 44 #[iv l.length,iv 1,iv 30] w (Ret w (.bool (within l.length 1 30)))):=qH (fun w=>in_calls l.length 1 30 w);generalize l.any longB=q at *
 generalize within l.length 1 30=p at *
 clear hs
 cases p
 ·rw[if_neg (by simp)];go_enter Tryz.func16,Tryz.ntmps16;go_wp2_with fail;refine(K1.out _).mono ?_;rintro e w1 ⟨rfl,rfl⟩;go_wp2_with fail;go_ret;exact⟨rfl,Below.refl _ _⟩
 cases q
 ·rw[if_pos (by simp)];exact x7vq
 rw[if_neg (by simp)];exact x7vq
theorem imageOf_calls(d:Dev)(L:DLoc)(w:World)(h:DevIn w d L)(h0:d.s0.length=64)(h1:d.s1.length=64)(hc:copCheck d.c0 d.c1=0):
  Calls Tryz.prog 30 #[.agg (devA d L)] w (ImRet w (d.image d.rec_.active d.rec_)):=by
 have hok:=recRead_ok hc;have hn:=refNewest_ok hc;have hact:=rec_active hok;have KN:=qH (fun w=>newest_calls d.c0 d.c1 w);rw[hn]at KN;have hrec:(recRead d.c0 d.c1).1=d.rec_:=rfl;rw[hrec]at KN hok hact;obtain⟨rk,hrk⟩:=eX ((recRead d.c0 d.c1).2);rw[hrk]at KN;generalize d.rec_=r at *
 obtain⟨a,ha,ha1⟩:∃a:Nat,r.active=(a:Int)∧a<=1:=⟨r.active.toNat,by omega,by omega⟩;obtain⟨z1,z2,_⟩:=at_sizes hok r.active;rw[ha]at z1 z2⊢;obtain⟨y,hy⟩:∃y:Nat,(r.at_ (a:Int)).size=(y:Int):=⟨(r.at_ (a:Int)).size.toNat,by omega⟩;have hsl:=slot_len h0 h1 (a:Int);have himg:d.image (a:Int) r=(d.slot (a:Int)).take y:=by unfold Dev.image;rw[hy];rfl
 have hlen:((d.slot (a:Int)).take y).length=y:=by rw[List.length_take];omega
 rw[himg];obtain⟨A,c,p1,p2,p3⟩:=devSlotA h ha1;rw[hsl]at p1 p2;obtain⟨b,o,hA,-⟩:=p3 0 (by omega);have HSL:=qH (pre_slice (A:=A) (n:=64) (c:=c) y rfl p2 (by omega) (by decide) ⟨b,o,hA⟩);have HB:=qH (mid_take p3 y);have HLEN:=qH hlen;have hyc:y<=c:=by omega
 have pv:=recA_size_ r ha1;rw[hy]at pv;have hba:Below w.heap.size w (w.alloc (.cells (devA d L) 38)):=bL _;have HBA:=qH hba;have HP1:=qH p1;have HPV:=qH pv;have HA:=qH ha;clear h hok hn hact hrec hrk z1 z2 hy hsl himg hlen p1 p3 hA pv hba ha h0 h1 hc;go_enter Tryz.func30,Tryz.ntmps30;go_wp2_with fail;refine(KN.out _).mono ?_;rintro e w1 ⟨rfl,hb1⟩;have a1:=kp (w.heap.size) (devA d L) hb1;have HB1:=bT HBA hb1;clear hb1;go_wp2_with fail;obtain⟨w2,hw1⟩:=eX (w1.alloc (.cells (recA r) 29));have hb1:Below w1.heap.size w1 w2:=by rw[<-hw1];exact bL _
 have hrr:rowOf w2 w1.heap.size=recA r∧frOf w2 w1.heap.size=(0,0):=by rw[<-hw1];exact⟨by rw[rowOf_alloc,if_pos rfl],by rw[frOf_alloc,if_pos rfl]⟩
 have a1:=keep1 (g:=w.heap.size) (cs:=devA d L) hb1 a1.1 (by go_simp) a1.2.1;have r1:=keep1 (bW w2) hrr.1 (by simp[recA]) hrr.2;have HB1:=bT HB1 hb1;rw[hw1];clear hw1 hb1 hrr;have ha:=HA.out;have p1:=HP1.out;have pv:=HPV.out;have k1:(0:Int)<=(a:Int):=by omega
 have k1:(a:Int)<2:=by omega
 have k1:¬(2:Int)<=(a:Int):=by omega
 have hsl:=HSL.out;go_quiet (fail)
 go_wp2_with fail;go_ret;have HBE:Hid (Below w.heap.size w (w2.drewN nq)):=qH (Below.drewN' HB1.out nq);exact x7za
theorem blkFacts{cs:Array Value}{T:TypeId}(h:w.heap[g]?=some (.cells cs T (0,0)))(h0:0<cs.size):rowOf w g=cs∧frOf w g=(0,0)∧(∀j,w.cell? ⟨g,j,none⟩=cs[j]?)∧(∀j,w.frozen? ⟨g,j,none⟩=false)∧g<w.heap.size:=
 ⟨row_of_blk h,fr_of_blk h,fun j=>cell_of_row w g j _ T _ h,fun j=>frozen_of_row w g j _ T h,blk_lt h⟩
theorem set_blk{j:Nat}{cs:Array Value}{T:TypeId}{v:Value}(h:w.heap[g]?=some (.cells cs T (0,0))):(w.setCell ⟨g,j,none⟩ v).heap[g]?=some (.cells (cs.setIfInBounds j v) T (0,0)):=by
 rw[setCell_eq_setRow w g j cs T (0,0) v h];exact setRow_heap w g cs _ T (0,0) h
end Go.Proofs.YtefkfglkpebbmadGreat
