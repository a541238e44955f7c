/- Walks. No conditions. -/
import Derived.Test.YtefkfglkpebbmabGreatP9
import Derived.Laws.OwnMore
set_option linter.all false
set_option maxRecDepth 100000
set_option maxHeartbeats 0
namespace Go.Proofs.YtefkfglkpebbmabGreat
open Go.RowKit
variable {Y:Prop}
variable {a:Act} {w:World} {K:Act->World->Prop} {Q:Exit->Act->World->Prop} {t:TypeId} {p:String} {af:Array Edge} {gd:Option (Nat×Bool)} {x:Tmp} {g j k:Nat} {cs:Array Value} {rm:LU}
theorem refApplied_bad(A:OA)(c:Nat)(old:LU)(B:OA)(d:Nat)(l:List Stp)(size:Int)(w:World)(ho:old.length<=140737488351232)(hl:l.length<=3518437208780)(hr:Sps w B l)(h:deltaCheck l old.length size≠0):
  Calls Tryz.prog 112 #[.slice A old.length c,.slice B l.length d,iv size] w (RetB w (.tuple #[.slice none 0 0,iv (deltaCheck l old.length size)])):=by
 have hb:(deltaCheck l old.length size !=0)=true:=by simp[h]
 clear h;go_enter Tryz.func112,Tryz.ntmps112;go_wp2_with fail;refine(refCheck_calls B d l old.length size w hl hr).mono ?_;rintro e w1 ⟨rfl,hb1⟩;go_wp2_with fail;go_ret2;exact⟨rfl,hb1⟩
theorem refApplied_ok(A:OA)(c:Nat)(old:LU)(B:OA)(d:Nat)(l:List Stp)(size:Int)(w:World)(hc:old.length<=c)(hA:Bts w A old)(hl:l.length<=3518437208780)(hr:Sps w B l)(h:deltaCheck l old.length size=0):
  Calls Tryz.prog 112 #[.slice A old.length c,.slice B l.length d,iv size] w (ByRet2 w (applied old l) 0):=by
 have hd:=deltaCheck_ok.1 h;have hcc:=refCheck_calls B d l old.length size w hl hr;rw[h]at hcc;have HC:=qH hcc;have HD:=qH hd;have HOLD:=qH hA;have HSP:=qH hr;have ho1:=hd.o1;have hm:=hd.many;clear hcc h hd hA hr;go_enter Tryz.func112,Tryz.ntmps112;go_wp2_with fail;refine HC.out.mono ?_;rintro e w1 ⟨rfl,hb1⟩;have HB1:=qH hb1;have HO1:Hid (Own w1 w.heap.size 5 1 none 0 0 (([]:List UInt8).map bv)):=qH (Own.nil_ _ _ _ _);clear hb1 HC;go_wp2_with fail;generalize hbase:w.heap.size=base at *
 have HBE:=qH hbase;clear hbase;go_loopw [9,23] (fun v i wr=>∃(k:Nat) (C:OA) (cc:Nat) (pre:LU),k<=l.length∧i=.int .i64 k∧v=.slice C pre.length cc∧Hid (pre=applied old (l.take k))∧Hid (Own wr base 5 1 C pre.length cc (pre.map bv))∧Hid (Below base w wr)) (fun _ i _=>l.length-(intOf i).toNat)
 case atStart=>exact⟨0,none,0,[],Nat.zero_le _,rfl,rfl,qH rfl,HO1,HB1⟩
 case round=>
  clear HO1 HB1;rename World=>wo;obtain⟨k,C,cc,pre,hk,rfl,rfl,HPRE,HO,HB⟩:=hrel;by_cases hlt:k<l.length
  ·have hxo:=HD.out.each l[k] (List.getElem_mem hlt);have hsum:(applied old (l.take (k+1))).length<=64:=by
    have h1:=(HD.out.take (k+1)).2.2.2;have h2:=applied_len (old:=old) (l:=l.take (k+1)) (fun o ho=>(HD.out.each o (List.mem_of_mem_take ho)).2);have h3:=HD.out.s1;omega
   obtain⟨sb,so,D,dc,rfl,hsb,p6,p1,p2,p3,p4,p5,-,-⟩:=(HSP.out.stays (HBE.out▸HB.out)).at_ hlt;have hnext:applied old (l.take (k+1))=pre++l[k].piece old:=by rw[List.take_succ_eq_append_getElem hlt,applied_append,applied_one,<-HPRE.out]
   rw[hnext]at hsum;obtain⟨x,hx⟩:∃x,l[k]=x:=⟨_,rfl⟩;rw[hx]at hxo hnext hsum p6 p1 p2 p3 p4 p5;clear hx;obtain⟨at_,len,data⟩:=x;obtain⟨hform,hin⟩:=hxo;unfold Stp.in_ at hin;dsimp only at *
   obtain⟨j1,j2,j3⟩:=hin;obtain⟨a,rfl⟩:=Int.eq_ofNat_of_zero_le j2;obtain⟨n,rfl⟩:=Int.eq_ofNat_of_zero_le j1;have hpiece:(⟨(a:Int),(n:Int),data⟩:Stp).piece old=(old.drop a).take n++data:=rfl;rw[hpiece]at hnext hsum;have hone:pre++data++(old.drop a).take n=pre++((old.drop a).take n++data):=by
    by_cases e:n=0
    ·subst e;simp
    have:=hform.2 (by simp;omega);simp at this;rw[this];simp
   rw[<-hone]at hnext hsum;have hnl:((old.drop a).take n).length=n:=by simp;omega
   have hsum1:pre.length+data.length+n<=64:=by rw[List.length_append,List.length_append,hnl]at hsum;exact hsum
   have HNX:=qH hnext;clear hnext hsum hform hone hpiece;have dl:decide ((k:Int)<(l.length:Int))=true:=decide_eq_true (by omega);have hsw:base<=wo.heap.size:=Nat.le_trans (Nat.le_of_eq HBE.out.symm) HB.out.size;have hba:Below wo.heap.size wo (wo.alloc (.cells #[iv (a:Int),iv (n:Int),.slice D data.length dc] 145)):=(Below.refl _ _).alloc (Nat.le_refl _) _;have hoa:=HO.out.alloc (.cells #[iv (a:Int),iv (n:Int),.slice D data.length dc] 145);have hs1:=(p5.stays hba).src;have hl1:(data.map bv).length=data.length*1:=by simp
   have hob:pre.length+data.length<=137438953472:=by omega
   have hle:base<=(wo.alloc (.cells #[iv (a:Int),iv (n:Int),.slice D data.length dc] 145)).heap.size:=by simp;omega
   have hgC:∀q,C.map (·.block)=some q->q<wo.heap.size:=fun q e=>(HO.out.block q e).2;have hg1:(wo.alloc (.cells #[iv (a:Int),iv (n:Int),.slice D data.length dc] 145)).heap[wo.heap.size]?=some (.cells #[iv (a:Int),iv (n:Int),.slice D data.length dc] 145 (0,0)):=blk_top rfl;go_wp2_with (at_builtin;go_must (refine wpList_app (wo.alloc (.cells #[iv (a:Int),iv (n:Int),.slice D data.length dc] 145)) rfl _ _ 23 rfl elBytes base C pre.length cc (pre.map bv) rfl hoa D data.length dc (data.map bv) rfl hs1 hl1 (bv_one _) hob hle ?_;intro C1 c1 w2 hown hgr hbel hor);(have hg2:=(hgr.block wo.heap.size (by simp) (fun e=>by have:=hgC _ e.symm;omega)).trans hg1);(have q1:w2.cell? ⟨wo.heap.size,1,none⟩=some (iv (n:Int)):=by rw[cell_of_row _ _ _ _ _ _ hg2];rfl));have HG1:=qH hg2;have HB1:Hid (Below base w w2):=qH ((HB.out.trans (hba.mono hsw)).trans hbel);have HO2:Hid (Own w2 base 5 1 C1 (pre++data).length c1 ((pre++data).map bv)):=qH (by simpa using hown);have HC1:Hid (∀q,C1.map (·.block)=some q->q≠wo.heap.size):=qH (fun q e=>by
    rcases hor with h|h
    ·rw[h]at e;have:=hgC q e;omega
    rw[h]at e;injection e with e;simp at e;omega)
   clear hown hgr hbel hor hs1 hl1 hob hle hgC hg1 hg2 hoa hba p6 p1 p2 p3 p4 p5;generalize hg:wo.heap.size=g at *
   have HGO:Hid (wo.heap.size=g):=qH hg;clear hg;have e1:(pre++data).length=pre.length+data.length:=by simp
   go_loopw [9,33] (fun v i wr=>∃(j:Nat) (C:OA) (cc:Nat) (o1:LU),j<=n∧i=.int .i64 (j:Int)∧v=.slice C o1.length cc∧Hid (o1=pre++data++(old.drop a).take j)∧Hid (o1.length=pre.length+data.length+j)∧Hid (Own wr base 5 1 C o1.length cc (o1.map bv))∧Hid (∀q,C.map (·.block)=some q->q≠g)∧Hid (wr.heap[g]?=some (.cells #[iv (a:Int),iv (n:Int),.slice D data.length dc] 145 (0,0)))∧Hid (Below base w wr)) (fun _ i _=>n-(intOf i).toNat)
   case atStart=>exact⟨0,C1,c1,pre++data,Nat.zero_le _,rfl,by rw[e1],qH (by simp),qH (by simp),HO2,HC1,HG1,HB1⟩
   case round=>
    clear HO2 HC1 HG1 HB1 q1;rename World=>wi;obtain⟨j,C2,c2,o1,hj,rfl,rfl,HO1,HO1L,HOW,HCG,HG,HB1⟩:=hrel;have ho1l:o1.length<=64:=by have:=HO1L.out;omega
    by_cases hjn:j<n
    ·have haj:a+j<old.length:=by omega
     obtain⟨ab,ao,rfl,hab,hxc⟩:=(HOLD.out.stays (HBE.out▸HB1.out)) (a+j) haj;have HO1':Hid (o1++[old[a+j]]=pre++data++(old.drop a).take (j+1)):=qH (by
      have hjl:j<(old.drop a).length:=by simp;omega
      rw[List.take_succ_eq_append_getElem hjl,HO1.out];simp)
     have q1:wi.cell? ⟨g,0,none⟩=some (iv (a:Int)):=by rw[cell_of_row _ _ _ _ _ _ HG.out];rfl
     have dl:decide ((j:Int)<(n:Int))=true:=decide_eq_true (by omega);have hw1:IntKind.i64.wrap ((a:Int)+(j:Int))=(a:Int)+(j:Int):=IntWalk.i64_in _ (by omega);have hw2:IntKind.i64.wrap ((j:Int)+1)=(j:Int)+1:=IntWalk.i64_in _ (by omega);have hsi:base<=wi.heap.size:=Nat.le_trans (Nat.le_of_eq HBE.out.symm) HB1.out.size;have hoa:=HOW.out.alloc (.cells #[bv old[a+j]] 5);have hs1:Src (wi.alloc (.cells #[bv old[a+j]] 5)) (some ⟨wi.heap.size,0,none⟩) [bv old[a+j]]:=src_blk (blk_top rfl);have hob:o1.length+1<=137438953472:=by omega
     have hle:base<=(wi.alloc (.cells #[bv old[a+j]] 5)).heap.size:=by simp;omega
     go_wp2_with (at_builtin;go_must (refine wpList_app (wi.alloc (.cells #[bv old[a+j]] 5)) rfl _ _ 23 rfl elBytes base C2 o1.length c2 (o1.map bv) rfl hoa (some ⟨wi.heap.size,0,none⟩) 1 1 [bv old[a+j]] rfl hs1 rfl (by simp[Value.oneCell']) hob hle ?_;intro C3 c3 w3 hown hgr hbel hor));have hgl:g<wi.heap.size:=blk_lt HG.out;have HG1:Hid (w3.heap[g]?=some (.cells #[iv (a:Int),iv (n:Int),.slice D data.length dc] 145 (0,0))):=qH ((hgr.block g (by simp;omega) (fun e=>HCG.out g e.symm rfl)).trans ((Below.heap_alloc wi _ g hgl).trans HG.out));have HB2:Hid (Below base w w3):=qH ((HB1.out.alloc hsi _).trans hbel);have HO2:Hid (Own w3 base 5 1 C3 (o1++[old[a+j]]).length c3 ((o1++[old[a+j]]).map bv)):=qH (by simpa using hown);have HC1:Hid (∀q,C3.map (·.block)=some q->q≠g):=qH (fun q e=>by
      rcases hor with h|h
      ·rw[h]at e;exact HCG.out q e
      rw[h]at e;injection e with e;simp at e;omega)
     have HL1:Hid (o1.length+1=(o1++[old[a+j]]).length):=qH (by simp);clear hown hgr hbel hor hs1 hob hle hoa q1 hxc;go_roundw
     case rel=>exact⟨j+1,C3,c3,o1++[old[a+j]],by omega,by go_num,by rw[HL1.out],HO1',qH (by rw[<-HL1.out,HO1L.out];omega),HO2,HC1,HG1,HB2⟩
     case measure=>simp[intOf];omega
    obtain rfl:j=n:=by omega
    have dl:decide ((j:Int)<(j:Int))=false:=by simp
    have hwk:IntKind.i64.wrap ((k:Int)+1)=(k:Int)+1:=IntWalk.i64_in _ (by omega);go_wp2_with fail;go_roundw
    case rel=>exact⟨k+1,C2,c2,o1,by omega,by go_num,rfl,qH (by rw[HNX.out,HO1.out]),HOW,HB1⟩
    case measure=>simp[intOf];omega
  obtain rfl:k=l.length:=by omega
  have dl:decide ((l.length:Int)<(l.length:Int))=false:=by simp
  have hpre:pre=applied old l:=by rw[HPRE.out,List.take_length]
  have HP:=qH hpre;clear hpre HPRE;go_wp2_with fail;go_ret2;exact⟨C,cc,by rw[<-HP.out];rfl,by rw[<-HP.out];exact HO.out.src.bts,by rw[<-HP.out];exact HO.out.le,HBE.out▸HB.out⟩
theorem refApplyAny_calls(A:OA)(c:Nat)(old:LU)(B:OA)(d:Nat)(l:List Stp)(size:Int)(w:World)(hc:old.length<=c)(ho:old.length<=140737488351232)(hA:Bts w A old)(hl:l.length<=3518437208780)(hr:Sps w B l):
  Calls Tryz.prog 112 #[.slice A old.length c,.slice B l.length d,iv size] w (ByRet2 w (axOf old l size).1 (axOf old l size).2):=by
 unfold axOf;by_cases h:deltaCheck l old.length size=0
 ·rw[if_neg (by simpa using h)];exact refApplied_ok A c old B d l size w hc hA hl hr h
 rw[if_pos h];exact(refApplied_bad A c old B d l size w ho hl hr h).mono fun _ _=>byRet2_nil
theorem x2fq(h:Y:=by
 have:=HY.out;unfold axOf at this;by_cases h3:deltaCheck l old.length sz≠0
 ·rw[if_pos h3]at this;injection this with h;rw[<-h];simp
 rw[if_neg h3]at this;injection this with h;have hd:=deltaCheck_ok.1 (Decidable.not_not.1 h3);have:=applied_len (old:=old) (l:=l) (fun o ho=>(hd.each o ho).2);have h4:=hd.sum;have h8:=hd.s1;rw[<-h];omega):Y:=h
theorem x39d(h:Y:=by
 have hz:r=([],1):=by rw[<-HR.out];unfold patDo;rw[HCK.out,if_neg (by simp),if_pos h1]
 subst hz;have q:(64:Int)<(old.length:Int):=by omega
 go_wp2_with fail;go_ret2;exact⟨none,0,rfl,Bts.nil _ _,nl,HB1.out⟩):Y:=h
theorem x3m9(h:Y:=by
 rw[<-HR.out];unfold patDo;have:=HY.out;unfold axOf at this;rw[HCK.out,if_neg (by simp),if_neg h1,HS.out,if_neg (by simp)];by_cases h4:deltaCheck l old.length sz≠0
 ·rw[if_pos h4]at this⊢;injection this with _ h;rw[h]
 rw[if_neg h4]at this;injection this with _ h;exact absurd h.symm h3):Y:=h
theorem x3yb(h:Y:=by
 go_wp2_with fail;go_ret2;exact⟨none,0,rfl,Bts.nil _ _,nl,Below.drewN' HB2.out _⟩):Y:=h
theorem x6jp(h:Y:=by
 go_wp2_with fail;go_ret2;exact⟨A1,c1,rfl,HY1.out.drewN _,hc1,Below.drewN' HB2.out _⟩):Y:=h
theorem x7k2(h:Y:=by
 go_wp2_with fail;go_ret2;exact⟨none,0,rfl,Bts.nil _ _,nl,Below.drewN' HB1.out _⟩):Y:=h
theorem x7ua(h:Y:=by
 have hz:r=([],ck):=by rw[<-HR.out];unfold patDo;rw[HCK.out,if_pos h5]
 subst hz;have q:(ck !=0)=true:=by simp[h5]
 clear h5;go_wp2_with fail;go_ret2;exact⟨none,0,rfl,Bts.nil _ _,nl,HB1.out⟩):Y:=h
theorem x93b(h:Y:=by
 rw[<-HR.out];unfold patDo;rw[HCK.out,if_neg (by simp),if_neg h1,HS.out,if_neg (by simp),hyy.1,if_neg (by simp),<-hyy.2]):Y:=h
theorem x9b4(h:Y:=by
 have:=HY.out;unfold axOf at this;by_cases h4:deltaCheck l old.length sz≠0
 ·rw[if_pos h4]at this;injection this with _ h;exact absurd h h4
 rw[if_neg h4]at this;injection this with h _;exact⟨Decidable.not_not.1 h4,h.symm⟩):Y:=h
theorem patDo_calls(B A:OA)(d c:Nat)(p:Pat)(old:LU)(w:World)(hc:old.length<=c)(ho:old.length<=140737488351232)(hA:Bts w A old)(hp:PatIn w p B d):
  Calls Tryz.prog 74 #[.agg (patA p.from_ p.to_ p.old p.new_ p.size B p.ops.length d),.slice A old.length c] w (ByRet2 w (patDo (sumOn 1) p old).1 (patDo (sumOn 1) p old).2):=by
 obtain⟨f,t,o,n,sz,l⟩:=p;obtain⟨hcap,hlen,hops,-,-,-,-,-⟩:=hp;dsimp only at *
 have hba:=(bW w).alloc nl (.cells (patA f t o n sz B l.length d) 36);have K1:=qH (fun w h=>patCheck_calls B d f t o n sz l w hlen h);have K2:=qH (fun w h=>sumOf_calls A c old w (by omega) h);have HA:=qH hA;have HO:=qH hops;have HBA:=qH hba;clear hA hops hba;obtain⟨r,hr⟩:=eX (patDo (sumOn 1) ⟨f,t,o,n,sz,l⟩ old);rw[hr];have HR:=qH hr;clear hr;obtain⟨ck,hck⟩:=eX (patCheck ⟨f,t,o,n,sz,l⟩);rw[hck]at K1;have HCK:=qH hck;clear hck;go_enter Tryz.func74,Tryz.ntmps74;go_wp2_with fail;refine(K1.out _ (HO.out.stays HBA.out)).mono ?_;rintro e w1 ⟨rfl,hb1⟩;have a1:=kp (w.heap.size) (patA f t o n sz B l.length d) hb1;have HB1:=bT HBA hb1;clear hb1;by_cases h5:ck≠0
 ·exact x7ua
 have h5:=Decidable.not_not.1 h5;subst h5;by_cases h1:64<old.length
 ·exact x39d
 have q1:¬(64:Int)<(old.length:Int):=by omega
 obtain⟨s,hs⟩:=eX (sumOn 1 old);rw[hs]at K2;have HS:=qH hs;clear hs;have HK1:=qH (fun n=>K2.out (w1.drewN n) ((HA.out.stays HB1.out).drewN n));by_cases h2:s≠o
 ·have hz:r=([],6):=by rw[<-HR.out];unfold patDo;rw[HCK.out,if_neg (by simp),if_neg h1,HS.out,if_pos h2]
  subst hz;have q:(s !=o)=true:=by simp[h2]
  clear h2;go_wp2_with fail;go_quiet ((go_at_call 49;with_reducible exact quietRet (HK1.out _)))
  exact x7k2
 have h2:=Decidable.not_not.1 h2;subst h2;have q2:(s !=s)=false:=by simp
 obtain⟨y,e1,hy⟩:∃y e0,axOf old l sz=(y,e0):=⟨_,_,rfl⟩;have K3:=qH (fun w h1 h2=>applyAny_calls A c old B d l sz w hc ho h1 hlen h2);rw[hy]at K3;dsimp only at K3;have HY:=qH hy;clear hy;have HK2:=qH (fun n=>K3.out (w1.drewN n) ((HA.out.stays HB1.out).drewN n) ((HO.out.stays HB1.out).stays (below_drewN _ _)));have hyl:y.length<=140737488351232:=by
  exact x2fq
 go_wp2_with fail;go_quiet ((go_at_call 49;with_reducible exact quietRet (HK1.out _)))
 go_wp2_with fail;refine(HK2.out nq).mono ?_;rintro e w2 ⟨A1,c1,rfl,hy1,hc1,hb1⟩;have b1:=kp (w.heap.size) (patA f t s n sz B l.length d) hb1;have HB2:Hid (Below w.heap.size w w2):=qH ((Below.drewN' HB1.out nq).trans (hb1.mono (by have:=HB1.out.size;simp;omega)));have HY1:=qH hy1;clear hb1 hy1;by_cases h3:e1≠0
 ·have hz:r=([],e1):=by
   exact x3m9
  subst hz;have q:(e1 !=0)=true:=by simp[h3]
  clear h3 HY;go_wp2_with fail;go_ret2;exact⟨none,0,rfl,Bts.nil _ _,nl,HB2.out⟩
 have h3:=Decidable.not_not.1 h3;subst h3;have hyy:deltaCheck l old.length sz=0∧y=applied old l:=by
  exact x9b4
 have K4:=qH (fun m=>sumOf_calls A1 c1 y (w2.drewN m) (by omega) (HY1.out.drewN m));have hrr:r=if sumOn 1 y≠n then ([],6)else (y,0):=by
  exact x93b
 obtain⟨s1,hs1⟩:=eX (sumOn 1 y);rw[hs1]at K4 hrr;have HRR:=qH hrr;clear hrr hs1 hyy HY;by_cases h4:s1≠n
 ·have hz:r=([],6):=by rw[HRR.out,if_pos h4]
  subst hz;have q:(s1 !=n)=true:=by simp[h4]
  clear h4;go_wp2_with fail;go_quiet ((go_at_call 49;with_reducible exact quietRet (K4.out _)))
  exact x3yb
 have h4:=Decidable.not_not.1 h4;subst h4;have hz:r=(y,0):=by rw[HRR.out,if_neg (by simp)]
 subst hz;have q:(s1 !=s1)=false:=by simp
 go_wp2_with fail;go_quiet ((go_at_call 49;with_reducible exact quietRet (K4.out _)))
 exact x6jp
theorem refDone_calls(B A:OA)(d c:Nat)(p:Pat)(old:LU)(w:World)(hc:old.length<=c)(ho:old.length<=140737488351232)(hA:Bts w A old)(hp:PatIn w p B d):
  Calls Tryz.prog 66 #[.agg (patA p.from_ p.to_ p.old p.new_ p.size B p.ops.length d),.slice A old.length c] w (ByRet2 w (patDo (sumOn 1) p old).1 (patDo (sumOn 1) p old).2):=by
 obtain⟨f,t,o,n,sz,l⟩:=p;obtain⟨hcap,hlen,hops,-,-,-,-,-⟩:=hp;dsimp only at *
 have hba:=(bW w).alloc nl (.cells (patA f t o n sz B l.length d) 36);have K1:=qH (fun w h=>refPatCheck_calls B d f t o n sz l w hlen h);have K2:=qH (fun w h=>refSumOf_calls A c old w (by omega) h);have HA:=qH hA;have HO:=qH hops;have HBA:=qH hba;clear hA hops hba;obtain⟨r,hr⟩:=eX (patDo (sumOn 1) ⟨f,t,o,n,sz,l⟩ old);rw[hr];have HR:=qH hr;clear hr;obtain⟨ck,hck⟩:=eX (patCheck ⟨f,t,o,n,sz,l⟩);rw[hck]at K1;have HCK:=qH hck;clear hck;go_enter Tryz.func66,Tryz.ntmps66;go_wp2_with fail;refine(K1.out _ (HO.out.stays HBA.out)).mono ?_;rintro e w1 ⟨rfl,hb1⟩;have a1:=kp (w.heap.size) (patA f t o n sz B l.length d) hb1;have HB1:=bT HBA hb1;clear hb1;by_cases h5:ck≠0
 ·exact x7ua
 have h5:=Decidable.not_not.1 h5;subst h5;by_cases h1:64<old.length
 ·exact x39d
 have q1:¬(64:Int)<(old.length:Int):=by omega
 obtain⟨s,hs⟩:=eX (sumOn 1 old);rw[hs]at K2;have HS:=qH hs;clear hs;have HK1:=qH (fun n=>K2.out (w1.drewN n) ((HA.out.stays HB1.out).drewN n));by_cases h2:s≠o
 ·have hz:r=([],6):=by rw[<-HR.out];unfold patDo;rw[HCK.out,if_neg (by simp),if_neg h1,HS.out,if_pos h2]
  subst hz;have q:(s !=o)=true:=by simp[h2]
  clear h2;go_wp2_with fail;go_quiet ((go_at_call 25;with_reducible exact quietRet (HK1.out _)))
  exact x7k2
 have h2:=Decidable.not_not.1 h2;subst h2;have q2:(s !=s)=false:=by simp
 obtain⟨y,e1,hy⟩:∃y e0,axOf old l sz=(y,e0):=⟨_,_,rfl⟩;have K3:=qH (fun w h1 h2=>refApplyAny_calls A c old B d l sz w hc ho h1 hlen h2);rw[hy]at K3;dsimp only at K3;have HY:=qH hy;clear hy;have HK2:=qH (fun n=>K3.out (w1.drewN n) ((HA.out.stays HB1.out).drewN n) ((HO.out.stays HB1.out).stays (below_drewN _ _)));have hyl:y.length<=140737488351232:=by
  exact x2fq
 go_wp2_with fail;go_quiet ((go_at_call 25;with_reducible exact quietRet (HK1.out _)))
 go_wp2_with fail;refine(HK2.out nq).mono ?_;rintro e w2 ⟨A1,c1,rfl,hy1,hc1,hb1⟩;have b1:=kp (w.heap.size) (patA f t s n sz B l.length d) hb1;have HB2:Hid (Below w.heap.size w w2):=qH ((Below.drewN' HB1.out nq).trans (hb1.mono (by have:=HB1.out.size;simp;omega)));have HY1:=qH hy1;clear hb1 hy1;by_cases h3:e1≠0
 ·have hz:r=([],e1):=by
   exact x3m9
  subst hz;have q:(e1 !=0)=true:=by simp[h3]
  have q3:(e1==0)=false:=by simp[h3]
  clear h3 HY;go_wp2_with fail;go_quiet (fail)
  exact x3yb
 have h3:=Decidable.not_not.1 h3;subst h3;have hyy:deltaCheck l old.length sz=0∧y=applied old l:=by
  exact x9b4
 have K4:=qH (fun m=>refSumOf_calls A1 c1 y (w2.drewN m) (by omega) (HY1.out.drewN m));have hrr:r=if sumOn 1 y≠n then ([],6)else (y,0):=by
  exact x93b
 obtain⟨s1,hs1⟩:=eX (sumOn 1 y);rw[hs1]at K4 hrr;have HRR:=qH hrr;clear hrr hs1 hyy HY;by_cases h4:s1≠n
 ·have hz:r=([],6):=by rw[HRR.out,if_pos h4]
  subst hz;have q:(s1 !=n)=true:=by simp[h4]
  clear h4;go_wp2_with fail;go_quiet ((go_at_call 25;with_reducible exact quietRet (K4.out _)))
  exact x3yb
 have h4:=Decidable.not_not.1 h4;subst h4;have hz:r=(y,0):=by rw[HRR.out,if_neg (by simp)]
 subst hz;have q:(s1 !=s1)=false:=by simp
 go_wp2_with fail;go_quiet ((go_at_call 25;with_reducible exact quietRet (K4.out _)))
 exact x6jp
theorem x3dq(h:Y:=by
 go_wp2_with fail;go_meet
 case rel=>exact⟨rfl,rfl⟩):Y:=h
theorem x92q(h:Y:=by
 clear hb;go_wp2_with fail;refine bodyPost_ret (rC (devA Dev.zero DLoc.zero)) rfl ⟨DLoc.zero,rfl,.const fun v=>DevIn.zero v,bZ HBZ⟩):Y:=h
section
variable {w0 w:World} {ci cd cm e0 e1 a0 a1:Nat} {img b:LU} {n:Int} {dn:Nat->Bool} {cv:Nat->Value}
end
theorem x0yl(h:Y:=by
 unfold Oper.wp execOp;simp only[e1];go_simp
 first|exact h|(rw[hs];exact h)):Y:=h
theorem x7dr(h:Y:=by
 unfold Rec.setOther;rcases (show (a=0∧a'=1)∨(a=1∧a'=0) by omega)with ⟨rfl,rfl⟩|⟨rfl,rfl⟩
 ·rw[if_pos (by simp[ha])];simp[splice,recA,infA]
 rw[if_neg (by simp[ha])];simp[splice,recA,infA]):Y:=h
theorem wp_sb1c{b:Bool}(hx:a.tmps[x]?=some (.pointer (some ⟨g,j,none⟩)))
  (hr:rowOf w g=cs) (hj:j<cs.size) (hf:frOf w g=(0,0)) (h:K a (w.setRow g (cs.setIfInBounds j (.bool b)))):
  Oper.wp Tryz.prog ⟨none,.store 4 (.tmp x) (.const (.bool b)),t,p,af,gd⟩ a w K Q:=by
 have e1:a.eval (.tmp x)=.pointer (some ⟨g,j,none⟩):=by simp[Act.eval,hx]
 obtain⟨t1,hb⟩:=row_blk (w:=w) (g:=g) (by rw[hr];omega);rw[hr,hf]at hb;have hc:w.cell? ⟨g,j,none⟩=some cs[j]:=by rw[cell_of_row _ _ _ _ _ _ hb];simp[hj]
 have hz:w.frozen? ⟨g,j,none⟩=false:=frozen_of_row _ _ _ _ _ hb;have hs:=setCell_eq_setRow w g j cs t1 (0,0) (.bool b) hb;exact x0yl
theorem wp_si1c(hx:a.tmps[x]?=some (.pointer (some ⟨g,j,none⟩)))
  (hr:rowOf w g=cs) (hj:j<cs.size) (hf:frOf w g=(0,0)) (h:K a (w.setRow g (cs.setIfInBounds j (iv 0)))):
  Oper.wp Tryz.prog ⟨none,.store 3 (.tmp x) (.const (iv 0)),t,p,af,gd⟩ a w K Q:=by
 have e1:a.eval (.tmp x)=.pointer (some ⟨g,j,none⟩):=by simp[Act.eval,hx]
 obtain⟨t1,hb⟩:=row_blk (w:=w) (g:=g) (by rw[hr];omega);rw[hr,hf]at hb;have hc:w.cell? ⟨g,j,none⟩=some cs[j]:=by rw[cell_of_row _ _ _ _ _ _ hb];simp[hj]
 have hz:w.frozen? ⟨g,j,none⟩=false:=frozen_of_row _ _ _ _ _ hb;have hs:=setCell_eq_setRow w g j cs t1 (0,0) (iv 0) hb;exact x0yl
theorem wp_sn1c(hx:a.tmps[x]?=some (.pointer (some ⟨g,j,none⟩)))
  (hr:rowOf w g=cs) (hj:j<cs.size) (hf:frOf w g=(0,0)) (h:K a (w.setRow g (cs.setIfInBounds j (.slice none 0 0)))):
  Oper.wp Tryz.prog ⟨none,.store 33 (.tmp x) (.const (.slice none 0 0)),t,p,af,gd⟩ a w K Q:=by
 have e1:a.eval (.tmp x)=.pointer (some ⟨g,j,none⟩):=by simp[Act.eval,hx]
 obtain⟨t1,hb⟩:=row_blk (w:=w) (g:=g) (by rw[hr];omega);rw[hr,hf]at hb;have hc:w.cell? ⟨g,j,none⟩=some cs[j]:=by rw[cell_of_row _ _ _ _ _ _ hb];simp[hj]
 have hz:w.frozen? ⟨g,j,none⟩=false:=frozen_of_row _ _ _ _ _ hb;have hs:=setCell_eq_setRow w g j cs t1 (0,0) (.slice none 0 0) hb;exact x0yl
theorem DevIn.opened{d:Dev}{L:DLoc}(h:DevIn w d L)(p q:Cop){j:Pat}{A:OA}{c:Nat}(hj:PatIn w j A c):DevIn w {d with c0:=p,c1:=q,busy:=true,job:=j,done:=0,got:=[]} {L with aj:=A,cj:=c,ag:=none,cg:=0}:=
 ⟨h.k0,h.l0,h.b0,h.k1,h.l1,h.b1,nl,Nat.zero_le _,Chs.nil _ _,hj,h.ir,⟨by show -9223372036854775808<=(0:Int);omega,by show (0:Int)<=9223372036854775807;omega⟩⟩
theorem Fresh.and'{base:Nat}{P Q:World->Prop}(h:Fresh base w P)(g:Fresh base w Q):Fresh base w (fun v=>P v∧Q v):=fun v hv=>⟨h v hv,g v hv⟩
def opJ(w0:World)(g:Nat)(d:Dev)(L:DLoc)(p:Pat)(A:OA)(c:Nat):Nat->(Nat->Value)->World->Prop
 |0,_,w=>w=w0.drew
 |1,_,w=>w=w0.drew.setRow g (devA {d with busy:=true} L)
 |2,_,w=>w=w0.drew.setRow g (devA {d with busy:=true,job:=p} {L with aj:=A,cj:=c})
 |3,_,w=>w=w0.drew.setRow g (devA {d with busy:=true,job:=p,done:=0} {L with aj:=A,cj:=c})
 |_,_,w=>w=w0.drew.setRow g (devA {d with busy:=true,job:=p,done:=0,got:=[]} {L with aj:=A,cj:=c,ag:=none,cg:=0})
theorem opJ_row{w0:World}{q:Nat}{d:Dev}{L:DLoc}{p:Pat}{A:OA}{c:Nat}{cv:Nat->Value}(hJ:opJ w0 g d L p A c k cv w)(hq:q≠g)(hr:rowOf w0 q=cs)(hf:frOf w0 q=(0,0))(hg:0<(rowOf w0 g).size):rowOf w q=cs∧frOf w q=(0,0):=by
 have key:∀new,w=w0.drew.setRow g new->rowOf w q=cs∧frOf w q=(0,0):=fun new e=>by
  subst e;rw[rowOf_setRow _ _ _ _ (by rw[rowOf_drew];exact hg),if_neg hq,frOf_setRow,rowOf_drew,frOf_drew];exact⟨hr,hf⟩
 match k,hJ with
 |0,hJ=>obtain rfl:w=w0.drew:=hJ;rw[rowOf_drew,frOf_drew];exact⟨hr,hf⟩
 |1,hJ=>exact key _ hJ
 |2,hJ=>exact key _ hJ
 |3,hJ=>exact key _ hJ
 |n+4,hJ=>exact key _ hJ
theorem x2tc(h:Y:=by
 intro done cv k a wq hw h hJ hn;have e3:=mO 3 (.pointer (some ⟨w.heap.size,0,none⟩)) h;go_simp):Y:=h
theorem x30j(h:Y:=by
 go_quiet (fail)
 go_wp2_with fail;go_meet
 case rel=>exact⟨by rw[hres],qH (below_drewN _ _)⟩):Y:=h
theorem splice_other(r:Rec){a a':Nat}(ha:r.active=(a:Int))(h:a+a'=1):splice (recA r) (5+a'*3) (infA Inf.zero)=recA (r.setOther Inf.zero):=by
 exact x7dr
theorem acts_open(S:Nat->Prop)(d:Dev)(L:DLoc)(n f t m o:Int)(B:OA)(bl bc:Nat)(w:World)(hok:DevOk d)(hu:d.up=true)(hd:On S w (fun v=>DevIn v d L)):Calls Tryz.prog 48 #[.agg (devA d L),.agg #[iv 5,iv n],.agg (chkA f t m o B bl bc)] w (AcRet S w (devOpen d).1 (devOpen d).2):=by
 have hrec:=rec_ok hok;have hrd:devReady d=0:=by unfold devReady;rw[if_neg (by simpa using devCheck_ok.2 hok),if_neg (by rw[hu];decide)]
 have KN:=qH (fun w=>newest_calls d.c0 d.c1 w);rw[refNewest_ok hok.cops]at KN;obtain⟨rk,hrk⟩:=eX ((recRead d.c0 d.c1).2);have hre:(recRead d.c0 d.c1).1=d.rec_:=rfl;rw[hrk,hre]at KN;clear hrk hre;have hact:=rec_active hrec;have hdef:devOpen d=if d.busy=true∨d.rec_.trying=true then (Dev.zero,5)else if (chkJoin d.got).2≠0 then (Dev.zero,(chkJoin d.got).2)
   else if (chkJoin d.got).1.from_≠(d.rec_.at_ d.rec_.active).ver∨(chkJoin d.got).1.to_<d.rec_.floor then (Dev.zero,4)
   else if (patDo (sumOn 1) (chkJoin d.got).1 (d.image d.rec_.active d.rec_)).2≠0 then (Dev.zero,(patDo (sumOn 1) (chkJoin d.got).1 (d.image d.rec_.active d.rec_)).2)
   else if (recWrite d.c0 d.c1 (d.rec_.setOther Inf.zero) false).2≠0 then (Dev.zero,(recWrite d.c0 d.c1 (d.rec_.setOther Inf.zero) false).2)
   else ({d.write (d.rec_.setOther Inf.zero) false with busy:=true,job:=(chkJoin d.got).1,done:=0,got:=[]},0):=by
  unfold devOpen;rw[if_neg (by omega)]
 have HD:=qH hdef;have HI:=qH hd;have K1:=qH (fun v (hb:Below w.heap.size w v)=>refJoined_calls L.ag L.cg d.got v hd.now.lg (hd.at_ hb).got);have K2:=qH (fun v (hb:Below w.heap.size w v)=>imageOf_calls d L v (hd.at_ hb) hok.l0 hok.l1 hok.cops);have K3:=qH (fun B A dd c p old w hc ho hA hp=>refDone_calls B A dd c p old w hc ho hA hp);have K4:=qH (fun gd w h1 h2=>actsWrite_calls d L (d.rec_.setOther Inf.zero) false gd w hok.cops h1 h2);have hil:(d.image d.rec_.active d.rec_).length<=140737488351232:=by unfold Dev.image;rw[List.length_take];have:=slot_len hok.l0 hok.l1 d.rec_.active;omega
 generalize d.image d.rec_.active d.rec_=im at *
 obtain⟨⟨p,e1⟩,hp⟩:∃y,chkJoin d.got=y:=⟨_,rfl⟩;rw[hp]at K1 HD;dsimp only at K1 HD;generalize devOpen d=res at *
 clear hrec hrd hok hdef hd hp;generalize d.rec_=r at *
 go_enter Tryz.func48,Tryz.ntmps48;go_wp2_with fail;refine(KN.out _).mono ?_;rintro e w1 ⟨rfl,hb⟩;have a2:=kp (w.heap.size) (devA d L) hb;have a1:=kp (w.heap.size+1) (#[iv 5,iv n]) hb;have a3:=kp (w.heap.size+1+1+1) (devA Dev.zero DLoc.zero) hb;have a4:=kp (w.heap.size+1+1+1+1) (#[.func (Fn.func 88) #[] #[]]) hb;have HB1:Hid (Below w.heap.size w w1):=qH (((((((bW w).alloc nl (.cells (devA d L) 38)).alloc (by simp) (.cells #[iv 5,iv n] 42)).alloc (by simp;omega) (.cells (chkA f t m o B bl bc) 61)).alloc (by simp;omega) (.cells (devA Dev.zero DLoc.zero) 38)).alloc (by simp;omega) _).trans (hb.mono (by simp;omega)));clear hb;by_cases c1:d.busy=true∨r.trying=true
 ·have hz:=HD.out.trans (if_pos c1);subst hz;clear HD K1 K2 K3 K4 KN hact
  cases c2:d.busy
  case true=>
   go_wp2_with fail;refine(actsBad_calls 5 _).mono ?_;rintro e wz ⟨rfl,hb⟩;have z1:=kp (w.heap.size+1+1+1) (devA Dev.zero DLoc.zero) hb;have HBZ:=bU HB1 hb;exact x92q
  case false=>
   have q:r.trying=true:=c1.resolve_left (by rw[c2];decide);clear c1;go_wp2_with fail;refine(actsBad_calls 5 _).mono ?_;rintro e wz ⟨rfl,hb⟩;have z1:=kp (w.heap.size+1+1+1) (devA Dev.zero DLoc.zero) hb;have HBZ:=bU HB1 hb;exact x92q
 have c2:d.busy=false:=by cases h:d.busy;rfl;exact absurd (.inl h) c1
 have c3:r.trying=false:=by cases h:r.trying;rfl;exact absurd (.inr h) c1
 have HD1:=qH (HD.out.trans (if_neg c1));clear c1 HD KN hu;go_wp2_with fail;refine(K1.out _ (by have hs:=HB1.out.size;repeat (first|exact HB1.out|refine bA ?_ _))).mono ?_;rintro e w2 ⟨A1,c2',rfl,hf1,hb⟩;have a2:=kr a2 hb;have a3:=kr a3 hb;have a4:=kr a4 hb;have r1:=kp (w1.heap.size) (recA r) hb;have HB2:=bU HB1 hb;have hs1:w.heap.size+5<=w1.heap.size:=by omega
 have HF1:Hid (Fresh (w1.heap.size+1) w2 (fun v=>PatIn v p A1 c2')):=qH (by simpa using hf1);have hs2:w1.heap.size+1<=w2.heap.size:=by have:=hb.size;simpa using this
 clear hb hf1 K1;by_cases c4:e1≠0
 ·have hz:=HD1.out.trans (if_pos c4);subst hz;have q:(e1 !=0)=true:=by simp[c4]
  clear c4 HD1 K2 K3 K4 HF1 hact;go_wp2_with fail;refine(actsBad_calls e1 _).mono ?_;rintro e wz ⟨rfl,hb⟩;have z1:=kp (w.heap.size+1+1+1) (devA Dev.zero DLoc.zero) hb;have HBZ:=bU HB2 hb;exact x92q
 have c4:=Decidable.not_not.1 c4;subst c4;have HD2:=qH (HD1.out.trans (if_neg (by decide)));clear HD1;go_upto_region 20 with fail
 obtain⟨w3,hw2⟩:=eX (w2.alloc (.cells (patA p.from_ p.to_ p.old p.new_ p.size A1 p.ops.length c2') 36));have hb:Below w2.heap.size w2 w3:=by rw[<-hw2];exact bL _
 have hrr:rowOf w3 w2.heap.size=patA p.from_ p.to_ p.old p.new_ p.size A1 p.ops.length c2'∧frOf w3 w2.heap.size=(0,0):=by rw[<-hw2];exact⟨by rw[rowOf_alloc,if_pos rfl],by rw[frOf_alloc,if_pos rfl]⟩
 have a2:=keep1 (g:=w.heap.size) (cs:=devA d L) hb a2.1 (by first|(go_simp;done)|simp[recA]|simp[patA]) a2.2.1;have a3:=keep1 (g:=w.heap.size+1+1+1) (cs:=devA Dev.zero DLoc.zero) hb a3.1 (by first|(go_simp;done)|simp[recA]|simp[patA]) a3.2.1;have a4:=keep1 (g:=w.heap.size+1+1+1+1) (cs:=#[.func (Fn.func 88) #[] #[]]) hb a4.1 (by first|(go_simp;done)|simp[recA]|simp[patA]) a4.2.1;have r1:=keep1 (g:=w1.heap.size) (cs:=recA r) hb r1.1 (by first|(go_simp;done)|simp[recA]|simp[patA]) r1.2.1;have p1:=keep1 (bW w3) hrr.1 (by simp[patA]) hrr.2;have HB3:=bT HB2 hb;have HF2:Hid (Fresh (w1.heap.size+1) w3 (fun v=>PatIn v p A1 c2')):=qH (HF1.out.below hb nl);have hs3:w2.heap.size<w3.heap.size:=p1.2.2.2.2.2;rw[hw2];clear hw2 hb hrr HB2 HF1;obtain⟨a,ha⟩:∃a:Nat,r.active=(a:Int):=⟨r.active.toNat,by omega⟩;have ha1:a<=1:=by omega
 have pv:=recA_ver r ha1;have HA:=qH ha;rw[ha]at HD2;obtain⟨bad1,hbad⟩:∃b,decide (p.from_≠(r.at_ (a:Int)).ver∨p.to_<r.floor)=b:=⟨_,rfl⟩;have HBAD:=qH hbad;clear hbad;go_cut [110] (fun v wx=>v=.bool bad1∧Hid (Below w3.heap.size w3 wx))
 case first=>
  have k1:(0:Int)<=(a:Int):=by omega
  have k2:(a:Int)<2:=by omega
  have k3:¬(2:Int)<=(a:Int):=by omega
  by_cases c1:p.from_=(r.at_ (a:Int)).ver
  ·have q1:(p.from_ !=(r.at_ (a:Int)).ver)=false:=by simp[c1]
   by_cases c5:p.to_<r.floor
   ·have hres:bad1=true:=by rw[<-HBAD.out];exact decide_eq_true (.inr c5)
    clear c1;exact x30j
   have hres:bad1=false:=by rw[<-HBAD.out];exact decide_eq_false (fun h=>h.elim (fun h=>h c1) c5)
   clear c1;exact x30j
  have q1:(p.from_ !=(r.at_ (a:Int)).ver)=true:=by simp[c1]
  have hres:bad1=true:=by rw[<-HBAD.out];exact decide_eq_true (.inl c1)
  clear c1;exact x30j
 case rest=>
 obtain⟨rfl,hb⟩:=hcut;have a2:=keep1 (g:=w.heap.size) (cs:=devA d L) hb.out a2.1 (by first|(go_simp;done)|simp[recA]|simp[patA]) a2.2.1;have a3:=keep1 (g:=w.heap.size+1+1+1) (cs:=devA Dev.zero DLoc.zero) hb.out a3.1 (by first|(go_simp;done)|simp[recA]|simp[patA]) a3.2.1;have a4:=keep1 (g:=w.heap.size+1+1+1+1) (cs:=#[.func (Fn.func 88) #[] #[]]) hb.out a4.1 (by first|(go_simp;done)|simp[recA]|simp[patA]) a4.2.1;have r1:=keep1 (g:=w1.heap.size) (cs:=recA r) hb.out r1.1 (by first|(go_simp;done)|simp[recA]|simp[patA]) r1.2.1;have p1:=keep1 (g:=w2.heap.size) (cs:=patA p.from_ p.to_ p.old p.new_ p.size A1 p.ops.length c2') hb.out p1.1 (by first|(go_simp;done)|simp[recA]|simp[patA]) p1.2.1;have HB2:=bT HB3 hb.out;have HF1:Hid (Fresh (w1.heap.size+1) wc (fun v=>PatIn v p A1 c2')):=qH (HF2.out.below hb.out nl);have hs4:w3.heap.size<=wc.heap.size:=hb.out.size;clear hb HB3 HF2
 cases hbd:bad1
 case true=>
  have hz:=HD2.out.trans (if_pos (of_decide_eq_true (HBAD.out.trans hbd)));subst hz;clear hbd HD2 K2 K3 K4 HF1 hact;go_wp2_with fail;refine(actsBad_calls 4 _).mono ?_;rintro e wz ⟨rfl,hb⟩;have z1:=kp (w.heap.size+1+1+1) (devA Dev.zero DLoc.zero) hb;have HBZ:=bU HB2 hb;exact x92q
 have HD1:=qH (HD2.out.trans (if_neg (of_decide_eq_false (HBAD.out.trans hbd))));clear HD2 HBAD hbd;obtain⟨⟨b',en⟩,hpd⟩:∃x,patDo (sumOn 1) p im=x:=⟨_,rfl⟩;have KI:Hid (∀wq,Below wc.heap.size wc wq->Calls Tryz.prog 67 #[.agg (devA d L)] wq (ImRet wq im)):=qH (fun wq h=>K2.out wq (HB2.out.trans (h.mono HB2.out.size)));have KD:Hid (∀wq A c,Below wc.heap.size wc wq->im.length<=c->Bts wq A im->Calls Tryz.prog 66 #[.agg (patA p.from_ p.to_ p.old p.new_ p.size A1 p.ops.length c2'),.slice A im.length c] wq (ByRet2 wq b' en)):=qH (fun wq A c h hc hb=>by
  have hq:=K3.out A1 A c2' c p im wq hc hil hb (HF1.out.now.stays h);rw[hpd]at hq;exact hq)
 rw[hpd]at HD1;dsimp only at HD1;clear hpd K2 K3;have RD:Hid (rowOf wc w.heap.size=devA d L):=qH a2.1;have FD:Hid (frOf wc w.heap.size=(0,0)):=qH a2.2.1;have RP:Hid (rowOf wc w2.heap.size=patA p.from_ p.to_ p.old p.new_ p.size A1 p.ops.length c2'):=qH p1.1;have FP:Hid (frOf wc w2.heap.size=(0,0)):=qH p1.2.1;go_wp2_with fail;have hq2:=fun v (h:Below wc.heap.size wc v)=>keep1 h RP.out (by simp[patA]) FP.out;have hq1:=fun v (h:Below wc.heap.size wc v)=>keep1 h RD.out (by go_simp) FD.out
 go_region_held3 (fun v=>Below wc.heap.size wc v) (first|exact hbb|exact(Below.refl _ _).drew)
  (first
    |(go_at_call 67;refine(KI.out _ (by assumption)).mono ?_;rintro e wj ⟨Aj,cj,rfl,h3,h4,h5⟩;have hbb:=(bW wc).drew.trans (h5.mono (by simp)))
    |(go_at_call 66;refine(KD.out _ _ _ (by assumption) h3 h4).mono ?_;rintro e w5 ⟨A5,c5',rfl,g1,g2,g9⟩;have hbb:=hbb.trans (g9.mono hbb.size)))
 have g3:=hbb;clear hbb g9 h3 h4 h5 hq2 hq1;have a2:=keep1 (g:=w.heap.size) (cs:=devA d L) g3 a2.1 (by first|(go_simp;done)|simp[recA]|simp[patA]) a2.2.1;have a3:=keep1 (g:=w.heap.size+1+1+1) (cs:=devA Dev.zero DLoc.zero) g3 a3.1 (by first|(go_simp;done)|simp[recA]|simp[patA]) a3.2.1;have a4:=keep1 (g:=w.heap.size+1+1+1+1) (cs:=#[.func (Fn.func 88) #[] #[]]) g3 a4.1 (by first|(go_simp;done)|simp[recA]|simp[patA]) a4.2.1;have r1:=keep1 (g:=w1.heap.size) (cs:=recA r) g3 r1.1 (by first|(go_simp;done)|simp[recA]|simp[patA]) r1.2.1;have p1:=keep1 (g:=w2.heap.size) (cs:=patA p.from_ p.to_ p.old p.new_ p.size A1 p.ops.length c2') g3 p1.1 (by first|(go_simp;done)|simp[recA]|simp[patA]) p1.2.1;have HB3:Hid (Below w.heap.size w w5):=qH (HB2.out.trans (g3.mono HB2.out.size));have HF2:Hid (Fresh (w1.heap.size+1) w5 (fun v=>PatIn v p A1 c2')):=qH (HF1.out.below g3 nl);have hs5:wc.heap.size<=w5.heap.size:=g3.size;clear g1 g2 g3 KI KD RD FD RP FP HB2 HF1;by_cases c5:en≠0
 ·have hz:=HD1.out.trans (if_pos c5);subst hz;have q:(en !=0)=true:=by simp[c5]
  clear c5 HD1 K4 HF2 hact;go_wp2_with fail;refine(actsBad_calls en _).mono ?_;rintro e wz ⟨rfl,hb⟩;have z1:=kp (w.heap.size+1+1+1) (devA Dev.zero DLoc.zero) hb;have HBZ:=bU HB3 hb;exact x92q
 have c5:=Decidable.not_not.1 c5;subst c5;have HD2:=qH (HD1.out.trans (if_neg (by decide)));clear HD1;obtain⟨a',haa⟩:∃a':Nat,a+a'=1:=⟨1-a,by omega⟩;have hsp:=splice_other r ha haa;generalize r.setOther Inf.zero=r2 at *
 have hle:5+a'*3+3<=11:=by omega
 have hw1:IntKind.i64.wrap ((1:Int)-(a:Int))=(a':Int):=by rw[IntWalk.i64_in _ (by omega)];omega
 have i1:(0:Int)<=(a':Int):=by omega
 have i2:(a':Int)<2:=by omega
 have i3:¬(2:Int)<=(a':Int):=by omega
 clear hact;go_upto_region 26 with fail
 have hp1:0<(rowOf w5 w1.heap.size).size:=by rw[r1.1];simp[recA]
 obtain⟨w4,hw2⟩:=eX (w5.setRow w1.heap.size (recA r2));have hk1:∀k,k≠w1.heap.size->w4.heap[k]?=w5.heap[k]?:=fun k hk=>by rw[<-hw2];exact setRow_other _ _ _ _ hk
 have hs6:w4.heap.size=w5.heap.size:=by rw[<-hw2];simp
 have hrr:rowOf w4 w1.heap.size=recA r2∧frOf w4 w1.heap.size=(0,0):=by rw[<-hw2,rowOf_setRow _ _ _ _ hp1,if_pos rfl,frOf_setRow];exact⟨rfl,r1.2.1⟩
 have HB2:Hid (Below w.heap.size w w4):=qH (by rw[<-hw2];exact below_row HB3.out (by omega) _);have HF1:Hid (Fresh (w1.heap.size+1) w4 (fun v=>PatIn v p A1 c2')):=qH (by rw[<-hw2];exact HF2.out.row (by omega) _);rw[hw2];have a2:=keepH (g:=w.heap.size) (cs:=devA d L) (hk1 _ (by omega)) a2.1 (by first|(go_simp;done)|simp[patA]) a2.2.1;have a3:=keepH (g:=w.heap.size+1+1+1) (cs:=devA Dev.zero DLoc.zero) (hk1 _ (by omega)) a3.1 (by first|(go_simp;done)|simp[patA]) a3.2.1;have a4:=keepH (g:=w.heap.size+1+1+1+1) (cs:=#[.func (Fn.func 88) #[] #[]]) (hk1 _ (by omega)) a4.1 (by first|(go_simp;done)|simp[patA]) a4.2.1;have p1:=keepH (g:=w2.heap.size) (cs:=patA p.from_ p.to_ p.old p.new_ p.size A1 p.ops.length c2') (hk1 _ (by omega)) p1.1 (by first|(go_simp;done)|simp[patA]) p1.2.1;have r1:=keep1 (bW w4) hrr.1 (by simp[recA]) hrr.2;clear hw2 hk1 hp1 hrr hsp hle hw1 i1 i2 i3 haa HB3 HF2 pv;go_wp2_with fail;refine(K4.out _ _ (by go_simp) (by go_simp)).mono ?_;intro e w5 hwt;obtain⟨rfl,⟨x0r,x0f⟩,hbx,hkx⟩:=hwt.row a2.1 a2.2.1;have a3:=keepH (g:=w.heap.size+1+1+1) (cs:=devA Dev.zero DLoc.zero) (hkx _ (by omega) (by omega)) a3.1 (by first|(go_simp;done)|simp[patA]) a3.2.1;have a4:=keepH (g:=w.heap.size+1+1+1+1) (cs:=#[.func (Fn.func 88) #[] #[]]) (hkx _ (by omega) (by omega)) a4.1 (by first|(go_simp;done)|simp[patA]) a4.2.1;have p1:=keepH (g:=w2.heap.size) (cs:=patA p.from_ p.to_ p.old p.new_ p.size A1 p.ops.length c2') (hkx _ (by omega) (by omega)) p1.1 (by first|(go_simp;done)|simp[patA]) p1.2.1;have HB3:Hid (Below w.heap.size w w5):=qH (HB2.out.trans hbx);have HF2:Hid (Fresh (w1.heap.size+1) w5 (fun v=>PatIn v p A1 c2')):=qH (HF1.out.fresh fun k h1 h2=>hkx k h2 (by omega));have hs7:w4.heap.size<=w5.heap.size:=hbx.size;clear hwt hbx hkx HB2 HF1 K4;obtain⟨e2,he1⟩:=eX ((recWrite d.c0 d.c1 r2 false).2);rw[he1]at x0r HD2⊢;obtain⟨dX,hdX⟩:=eX ((if e2=0 then d.write r2 false else d));rw[hdX]at x0r;have HDX:=qH hdX;clear he1 hdX;have RD:Hid (rowOf w5 w.heap.size=devA dX L):=qH x0r;have FD:Hid (frOf w5 w.heap.size=(0,0)):=qH x0f;have RP:Hid (rowOf w5 w2.heap.size=patA p.from_ p.to_ p.old p.new_ p.size A1 p.ops.length c2'):=qH p1.1;have FP:Hid (frOf w5 w2.heap.size=(0,0)):=qH p1.2.1;have HQ1:Hid (w2.heap.size≠w.heap.size):=qH (by omega);have HP1:Hid (0<(rowOf w5 w.heap.size).size):=qH (by rw[RD.out,devA_size];decide);clear x0r x0f;go_wp2_with fail;refine wM (some 138::some 139::none::some 140::none::some 141::none::some 142::none::[]) (none::none::some 0::none::some 1::none::some 2::none::some 3::[]) (.agg (patA p.from_ p.to_ p.old p.new_ p.size A1 p.ops.length c2')::.pointer (some ⟨w.heap.size,29,none⟩)::undef::.pointer (some ⟨w.heap.size,30,none⟩)::undef::.pointer (some ⟨w.heap.size,36,none⟩)::undef::.pointer (some ⟨w.heap.size,28,none⟩)::undef::[]) 4 (opJ w5 w.heap.size dX L p A1 c2') 327 (rfl) ?_ ?_
 ·refine⟨?_,?_,?_,?_,?_,?_,?_,?_,?_,trivial⟩
  ·intro done cv k a wq hw h hJ hn;have e3:=mO 15 (.pointer (some ⟨w2.heap.size,0,none⟩)) h;obtain⟨r_,f_⟩:=opJ_row hJ HQ1.out RP.out FP.out HP1.out;go_simp
  ·exact x2tc
  ·intro done cv a wq hw h hJ;have e3:=mN 1 139 h hw;obtain rfl:wq=w5.drew:=hJ;refine wp_sb1c e3 (cs:=devA dX L) (by rw[rowOf_drew];exact RD.out) (by go_simp) (by rw[frOf_drew];exact FD.out) ⟨undef,rfl,?_⟩
   show _=_;rw[devA_set_busy]
  ·exact x2tc
  ·intro done cv a wq hw h hJ;have e3:=mN 3 140 h hw;have e138:=mN 0 138 h hw;have hJ':wq=w5.drew.setRow w.heap.size (devA {dX with busy:=true} L):=hJ;subst hJ';refine wp_srow e3 e138 (by go_simp) (by go_simp) (cs:=devA {dX with busy:=true} L) (by rw[rowOf_setRow _ _ _ _ (by rw[rowOf_drew];exact HP1.out),if_pos rfl]) (by go_simp) (by rw[frOf_setRow,frOf_drew];exact FD.out) (by go_simp) ⟨undef,rfl,?_⟩
   show _=_;rw[devA_splice_job,setRow_setRow]
  ·exact x2tc
  ·intro done cv a wq hw h hJ;have e3:=mN 5 141 h hw;have hJ':wq=w5.drew.setRow w.heap.size (devA {dX with busy:=true,job:=p} {L with aj:=A1,cj:=c2'}):=hJ;subst hJ';refine wp_si1c e3 (cs:=devA {dX with busy:=true,job:=p} {L with aj:=A1,cj:=c2'}) (by rw[rowOf_setRow _ _ _ _ (by rw[rowOf_drew];exact HP1.out),if_pos rfl]) (by go_simp) (by rw[frOf_setRow,frOf_drew];exact FD.out) ⟨undef,rfl,?_⟩
   show _=_;rw[devA_set_done,setRow_setRow]
  ·exact x2tc
  ·intro done cv a wq hw h hJ;have e3:=mN 7 142 h hw;have hJ':wq=w5.drew.setRow w.heap.size (devA {dX with busy:=true,job:=p,done:=0} {L with aj:=A1,cj:=c2'}):=hJ;subst hJ';refine wp_sn1c e3 (cs:=devA {dX with busy:=true,job:=p,done:=0} {L with aj:=A1,cj:=c2'}) (by rw[rowOf_setRow _ _ _ _ (by rw[rowOf_drew];exact HP1.out),if_pos rfl]) (by go_simp) (by rw[frOf_setRow,frOf_drew];exact FD.out) ⟨undef,rfl,?_⟩
   show _=_;rw[devA_set_got0,setRow_setRow]
 intro cv1 w6 hJ;have hw1:w6=w5.drew.setRow w.heap.size (devA {dX with busy:=true,job:=p,done:=0,got:=[]} {L with aj:=A1,cj:=c2',ag:=none,cg:=0}):=hJ;simp only[mixAll,pA,mA,Nat.reduceAdd];have r3:rowOf w6 w.heap.size=devA {dX with busy:=true,job:=p,done:=0,got:=[]} {L with aj:=A1,cj:=c2',ag:=none,cg:=0}∧frOf w6 w.heap.size=(0,0):=by rw[hw1,rowOf_setRow _ _ _ _ (by rw[rowOf_drew];exact HP1.out),if_pos rfl,frOf_setRow,frOf_drew];exact⟨rfl,FD.out⟩
 have hk1:∀k,k≠w.heap.size->w6.heap[k]?=w5.heap[k]?:=fun k hk=>by rw[hw1];exact setRow_other w5.drew _ _ _ hk
 have hs8:w6.heap.size=w5.heap.size:=by
  have h1:w6.heap.size=w5.drew.heap.size:=by rw[hw1];simp[World.setRow]
  exact h1
 have HB2:Hid (Below w.heap.size w w6):=qH (by rw[hw1];exact below_row HB3.out.drew nl _);have HF1:Hid (Fresh (w1.heap.size+1) w6 (fun v=>PatIn v p A1 c2')):=qH (HF2.out.fresh fun k h1 h2=>hk1 k (by omega));have a3:=keepH (g:=w.heap.size+1+1+1) (cs:=devA Dev.zero DLoc.zero) (hk1 _ (by omega)) a3.1 (by go_simp) a3.2.1;have a4:=keepH (g:=w.heap.size+1+1+1+1) (cs:=#[.func (Fn.func 88) #[] #[]]) (hk1 _ (by omega)) a4.1 (by go_simp) a4.2.1;clear hJ hw1 hk1 RD FD RP FP HP1 HB3 HF2;obtain⟨x0r,x0f,x0n,x0c,x0z,x0l⟩:=keep1 (bW w6) r3.1 (by go_simp) r3.2;clear r3;by_cases c1:e2≠0
 ·have hz:=HD2.out.trans (if_pos c1);subst hz;have KD:=qH (fun gb gd w h1 h2=>actsDone_bad e2 gb gd w c1 h1 h2);clear c1 HD2 HDX HF1;go_wp2_with fail;refine(KD.out _ _ _ (by go_simp) (by go_simp)).mono ?_;rintro e w7 ⟨rfl,hb⟩;have c3k:=kp (w.heap.size+1+1+1) (devA Dev.zero DLoc.zero) hb;have HB3:=bT HB2 hb;clear hb;go_wp2_with fail;refine bodyPost_ret (rC (devA Dev.zero DLoc.zero)) rfl ⟨DLoc.zero,rfl,.const fun v=>DevIn.zero v,?_⟩;exact below_row HB3.out (by omega) _
 have c1:=Decidable.not_not.1 c1;subst c1;have hz:=HD2.out.trans (if_neg (by decide));have hX:d.write r2 false=dX:=by have:=HDX.out;rwa [if_pos rfl]at this
 rw[hX]at hz;subst hz;have hin:∀v,DevIn v d L->PatIn v p A1 c2'->DevIn v {dX with busy:=true,job:=p,done:=0,got:=[]} {L with aj:=A1,cj:=c2',ag:=none,cg:=0}:=fun v h g=>by
  rw[<-hX];exact⟨h.k0,h.l0,h.b0,h.k1,h.l1,h.b1,nl,Nat.zero_le _,Chs.nil _ _,g,h.ir,i64_0⟩
 have HIN:=qH hin;clear hin hX HDX HD2;go_wp2_with fail;refine(actsDone_ok {dX with busy:=true,job:=p,done:=0,got:=[]} {L with aj:=A1,cj:=c2',ag:=none,cg:=0} _ _ _ (by go_simp) (by go_simp)).mono ?_;rintro e w7 ⟨rfl,hb⟩;have c3k:=kp (w.heap.size+1+1+1) (devA Dev.zero DLoc.zero) hb;have HB3:=bT HB2 hb;have HF2:Hid (Fresh (w1.heap.size+1) w7 (fun v=>PatIn v p A1 c2')):=qH (HF1.out.below hb nl);clear hb HF1;have hn2:¬(S (w.heap.size+1+1+1)∧w.heap.size+1+1+1<w.heap.size∨w1.heap.size+1<=w.heap.size+1+1+1):=by rintro (h|h)<;>omega
 have o1:On (fun k=>S k∧k<w.heap.size∨w1.heap.size+1<=k) w7 (fun v=>DevIn v d L):=(HI.out.sub (fun k h1 h2=>.inl ⟨h2,h1⟩)).below HB3.out;have o2:On (fun k=>S k∧k<w.heap.size∨w1.heap.size+1<=k) w7 (fun v=>PatIn v p A1 c2'):=(On.fresh HF2.out).sub fun k _ h=>.inr h;have HON:=qH ((o1.and o2).imp fun v ⟨h,g⟩=>HIN.out v h g);clear o1 o2 HF2 HIN;go_wp2_with fail;refine bodyPost_ret (rC (devA {dX with busy:=true,job:=p,done:=0,got:=[]} {L with aj:=A1,cj:=c2',ag:=none,cg:=0})) rfl ⟨_,rfl,?_,below_row HB3.out (by omega) _⟩;exact(HON.out.row hn2 _).sub fun k _ h=>h.elim .inl fun h=>.inr (by omega)
theorem bts_zeros{n:Nat}{fr:Nat×Nat}(h:w.heap[g]?=some (.cells (Array.replicate n (.int .u8 0)) t fr)):Bts w (some ⟨g,0,none⟩) (List.replicate n 0):=by
 intro j hj;refine⟨g,0,rfl,blk_lt h,?_⟩;rw[cell_of_row _ _ _ _ _ _ h];have hj':j<n:=by simpa using hj
 simp[hj',bv]
theorem made_zeros(n:Nat):madeCells #[Value.int .u8 0] n=Array.replicate n (.int .u8 0):=by
 apply Array.ext'
 rw[toList_madeCells_one];simp
theorem room_calls(A:OA)(c:Nat)(b:LU)(w:World)(hb:b.length<=64)(hB:Bts w A b):
  Calls Tryz.prog 50 #[.slice A b.length c] w (BtRet w (room b)):=by
 obtain⟨m,hm⟩:∃m:Nat,64-b.length=m:=⟨_,rfl⟩;have hm1:(64:Int)-(b.length:Int)=(m:Int):=by omega
 have hwr:IntKind.i64.wrap ((64:Int)-(b.length:Int))=(m:Int):=by rw[hm1];exact IntWalk.i64_in _ (by omega)
 have hmk:∀w:World,(Instr.makeSlice 23 (iv (m:Int)) (iv (m:Int))).run Tryz.prog w=.ok (.slice (some ⟨w.heap.size,0,none⟩) m m) (w.alloc (.cells (Array.replicate m (.int .u8 0)) 5)):=fun w=>by
  have:=run_make_row' (P:=Tryz.prog) 23 5 (.int .u8 0) 1 Tryz.underlying23 (by kernel_rfl) rfl .i64 .i64 m (by omega) (by omega) w;rw[made_zeros]at this;exact this
 have HM:Hid (room b=b++List.replicate m 0):=qH (by unfold room;rw[hm]);have HMB:Hid (b.length+m<=64):=qH (by omega);have hba:=((bW w).alloc nl (.cells (Array.replicate m (.int .u8 0)) 5)).alloc (by simp) (.cells #[.slice A b.length c,.slice (some ⟨w.heap.size,0,none⟩) m m] 23);have K:=qH (concat2_calls (w:=(w.alloc (.cells (Array.replicate m (.int .u8 0)) 5)).alloc (.cells #[.slice A b.length c,.slice (some ⟨w.heap.size,0,none⟩) m m] 23)) (g:=w.heap.size+1) (A:=A) (B:=some ⟨w.heap.size,0,none⟩) (a:=b) (b:=List.replicate m 0) (c:=c) (d:=m)
  (t:=23) (fr:=(0,0)) (by rw[List.length_replicate];exact blk_top (by simp)) (by rw[List.length_replicate];omega) (hB.stays hba) ((bts_zeros (n:=m) (w:=w.alloc (.cells (Array.replicate m (.int .u8 0)) 5)) (blk_top rfl)).stays (bL _)))
 have HBA:=qH hba;rw[HM.out];clear hm hm1 hb hB hba;go_enter Tryz.func50,Tryz.ntmps50;go_wp2_with fail;refine K.out.mono ?_;rintro e w1 ⟨A1,c1,rfl,hown,hb1⟩;have HO:=qH hown;have HB1:=bT HBA hb1;clear hown hb1;go_wp2_with fail;go_ret;exact⟨A1,c1,by simp,HO.out.mono (by simp;omega),HB1.out⟩
def filB(b:LU)(k:Nat):List Value:=(b.take k).map bv++List.replicate (64-k) (.int .u8 0)
theorem filB_len(b:LU)(h:k<=b.length)(hb:b.length<=64):(filB b k).length=64:=by unfold filB;simp;omega
theorem filB_zero(b:LU):filB b 0=List.replicate 64 (.int .u8 0):=by unfold filB;simp
theorem filB_set(b:LU)(h:k<b.length)(hb:b.length<=64):(filB b k).set k (bv b[k])=filB b (k+1):=by
 unfold filB;obtain⟨m,hm⟩:∃m,64-k=m+1:=⟨63-k,by omega⟩;have hl:((b.take k).map bv).length=k:=by simp;omega
 rw[List.set_append_right _ _ (by omega),hl,Nat.sub_self,hm,List.replicate_succ,List.set_cons_zero,List.take_succ_eq_append_getElem h,List.map_append,List.append_assoc,show 64-(k+1)=m by omega];rfl
theorem filB_at(b:LU)(h:k<=b.length)(hk:k<64):(filB b k)[k]?=some (.int .u8 0):=by
 unfold filB;have hl:((b.take k).map bv).length=k:=by simp;omega
 rw[List.getElem?_append_right (by omega),hl,Nat.sub_self,List.getElem?_replicate,if_pos (by omega)]
theorem filB_all(b:LU)(hb:b.length<=64):filB b b.length=(room b).map bv:=by
 unfold filB room;rw[List.take_length,List.map_append,List.map_replicate];rfl
theorem filled_calls(A:OA)(c:Nat)(b:LU)(w:World)(hb:b.length<=64)(hB:Bts w A b):
  Calls Tryz.prog 24 #[.slice A b.length c] w (BtRet w (room b)):=by
 have HB1:=qH hB;have hmk:∀w:World,(Instr.makeSlice 23 (iv 64) (iv 64)).run Tryz.prog w=.ok (.slice (some ⟨w.heap.size,0,none⟩) 64 64) (w.alloc (.cells (filB b 0).toArray 5)):=fun w=>by
  have:=run_make_row' (P:=Tryz.prog) 23 5 (.int .u8 0) 1 Tryz.underlying23 (by kernel_rfl) rfl .i64 .i64 64 (by omega) (by omega) w;rw[made_zeros]at this;rw[filB_zero,List.toArray_replicate];exact this
 clear hB;go_enter Tryz.func24,Tryz.ntmps24;go_wp2_with fail;have HF1:Hid ((w.alloc (.cells (filB b 0).toArray 5)).heap[w.heap.size]?=some (.cells (filB b 0).toArray 5 (0,0))):=qH (blk_top rfl);have HBA:Hid (Below w.heap.size w (w.alloc (.cells (filB b 0).toArray 5))):=qH (bL _);clear hmk;generalize w.alloc (.cells (filB b 0).toArray 5)=w1 at *
 obtain⟨g,hg⟩:=eX (w.heap.size);have HG:=qH hg;rw[hg]at HF1 HBA⊢;clear hg;go_loopw [9] (fun i wr=>∃k:Nat,k<=b.length∧i=iv k∧Hid (wr.heap[g]?=some (.cells (filB b k).toArray 5 (0,0)))∧Hid (Below g w wr)) (fun i _=>b.length-(intOf i).toNat)
 case atStart=>exact⟨0,Nat.zero_le _,rfl,HF1,HBA⟩
 case round=>
  clear HF1 HBA;rename World=>wr;obtain⟨k,hk,rfl,HF,HB⟩:=hrel;by_cases hlt:k<b.length
  ·obtain⟨b',o',rfl,hlt',hcc⟩:=(HB1.out.stays (HG.out.symm▸HB.out)) k hlt;obtain⟨q1,q2,q3,q4,q5⟩:=blkFacts HF.out (by rw[List.size_toArray,filB_len b hk hb];decide);have dl:decide ((k:Int)<(b.length:Int))=true:=decide_eq_true (by omega);have nb:¬(64:Int)<=(k:Int):=by omega
   have hck:=filB_at b hk (by omega);have nb1:¬(b.length:Int)<=(k:Int):=by omega
   have HS:Hid (filB b (k+1)=(filB b k).set k (bv b[k])):=qH (filB_set b hlt hb).symm;generalize b[k]=x at *
   have hw1:IntKind.i64.wrap ((k:Int)+1)=(k:Int)+1:=IntWalk.i64_in _ (by omega);go_wp2_with fail;go_roundw
   case rel=>exact⟨k+1,by omega,by go_num,qH (by rw[HS.out];have:=set_blk (j:=k) (v:=bv x) HF.out;simpa using this),qH (HB.out.setCell (p:=⟨g,k,none⟩) nl _)⟩
   case measure=>simp[intOf];omega
  obtain rfl:k=b.length:=by omega
  have dl:decide ((b.length:Int)<(b.length:Int))=false:=by simp
  go_wp2_with fail;go_ret;have hf:=HF.out;rw[filB_all b hb]at hf;have hl:=room_len hb;have hgo:=HG.out;refine⟨some ⟨g,0,none⟩,64,by rw[hl];rfl,?_,hgo.symm▸HB.out⟩;rw[hl,hgo];exact⟨by simp[hl],Or.inr ⟨g,64,_,rfl,nl,hf,nl,by unfold maxLen;omega,by simp[hl],by simp[List.take_of_length_le,hl]⟩⟩
theorem wp_stu{y:Tmp}{b:UInt8}{u:Value}(hx:a.tmps[x]?=some (.pointer (some ⟨g,j,none⟩)))(hy:a.tmps[y]?=some (bv b))
  (hc:w.cell? ⟨g,j,none⟩=some u) (hf:w.frozen? ⟨g,j,none⟩=false) (h:K a (w.setCell ⟨g,j,none⟩ (bv b))):
  Oper.wp Tryz.prog ⟨none,.store 5 (.tmp x) (.tmp y),t,p,af,gd⟩ a w K Q:=by
 have e1:a.eval (.tmp x)=.pointer (some ⟨g,j,none⟩):=by simp[Act.eval,hx]
 have e2:a.eval (.tmp y)=bv b:=by simp[Act.eval,hy]
 unfold Oper.wp execOp;simp only[e1,e2];go_simp;exact h
def putU(sl rm:LU)(dn k:Nat):List UInt8:=sl.take dn++(rm.drop dn).take k++sl.drop (dn+k)
theorem putU_0(sl rm:LU)(dn:Nat):putU sl rm dn 0=sl:=by unfold putU;simp
theorem putU_len{sl:LU}{dn:Nat}(h:dn+k<=sl.length)(hr:rm.length=sl.length):(putU sl rm dn k).length=sl.length:=by
 unfold putU;simp;omega
theorem putU_succ{sl:LU}{dn:Nat}(h:dn+k<rm.length)(hr:rm.length=sl.length):(putU sl rm dn k).set (dn+k) rm[dn+k]=putU sl rm dn (k+1):=by
 unfold putU;have h1:(sl.take dn++(rm.drop dn).take k).length=dn+k:=by simp;omega
 rw[List.set_append_right _ _ (by omega),h1,Nat.sub_self,List.drop_eq_getElem_cons (show dn+k<sl.length by omega),List.set_cons_zero,List.take_succ_eq_append_getElem (show k<(rm.drop dn).length by simp;omega),List.getElem_drop];simp[Nat.add_assoc]
def wtJ(w0:World)(rm:LU)(g p:Nat)(x:UInt8):Nat->(Nat->Value)->World->Prop
 |0,_,w=>w=w0.drew
 |1,cv,w=>∃A c,cv 6=.slice A rm.length c∧Bts w A rm∧Below w0.heap.size w0 w
 |2,cv,w=>∃b o,cv 11=.pointer (some ⟨b,o,none⟩)∧w.cell? ⟨b,o,none⟩=some (bv x)∧Below w0.heap.size w0 w
 |3,cv,w=>cv 12=bv x∧Below w0.heap.size w0 w
 |_,_,w=>∃w',Below w0.heap.size w0 w'∧w=w'.setCell ⟨g,p,none⟩ (bv x)
theorem wtJ_bel{w0:World}{p:Nat}{x:UInt8}{cv:Nat->Value}(hk:k<=3)(h:wtJ w0 rm g p x k cv w):Below w0.heap.size w0 w:=by
 match k,hk,h with
 |0,_,h=>obtain rfl:w=w0.drew:=h;exact(Below.refl _ _).drew
 |1,_,⟨_,_,_,_,h⟩=>exact h
 |2,_,⟨_,_,_,_,h⟩=>exact h
 |3,_,⟨_,h⟩=>exact h
