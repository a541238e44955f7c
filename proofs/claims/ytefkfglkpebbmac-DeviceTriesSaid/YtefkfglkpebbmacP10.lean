/- Walks of functions, and plain words. No conditions. -/
import Derived.Test.YtefkfglkpebbmacPE4
import Derived.Test.YtefkfglkpebbmacP9
set_option linter.unusedVariables false
set_option linter.unusedSimpArgs false
set_option maxRecDepth 100000
set_option maxHeartbeats 40000000
namespace Go.Proofs.Ytefkfglkpebbmac
open Go.RowKit
variable {Y:Prop}
variable {c:Nat}
theorem x4kf(h:Y:=by
 have e1:=fO 8 (iv (k:Int)) h;exact mx_move (ch_ev e1)):Y:=h
theorem x6gc(h:Y:=by
 have e1:=fO 4 (.slice (some ⟨ab,ao,none⟩) b.length c1) h;exact mx_move (ch_ev e1)):Y:=h
def ctJ(w0:World)(base:Nat)(C:OA)(n c:Nat)(xs bs:List Value)(y:Nat)(mk:Option Addr×Nat->List Value):Nat->(Nat->Value)->World->Prop
 |0,_,w=>w=w0.drew
 |1,cv,w=>∃A5 c5,cv 17=.slice A5 y c5∧Own w w0.heap.size 5 1 A5 y c5 bs∧Below w0.heap.size w0 w
 |2,cv,w=>∃A5 c5,cv 18=.agg (mk (A5,c5)).toArray∧Own w w0.heap.size 5 1 A5 y c5 bs∧Below w0.heap.size w0 w
 |3,cv,w=>∃A5 c5 w1,Own w1 w0.heap.size 5 1 A5 y c5 bs∧Below w0.heap.size w0 w1∧w=w1.alloc (.cells (mk (A5,c5)).toArray 49)∧cv 19=.slice (some ⟨w1.heap.size,0,none⟩) 1 1
 |4,cv,w=>∃A5 c5 w1 A' c',Own w1 w0.heap.size 5 1 A5 y c5 bs∧Below w0.heap.size w0 w1∧cv 20=.slice A' (n+1) c'∧Own w base 49 5 A' (n+1) c' (xs++mk (A5,c5))∧Below base w1 w∧(∀k,k<w1.heap.size->C.map (·.block)≠some k->w.heap[k]?=w1.heap[k]?)∧(A'.map (·.block)=C.map (·.block)∨∀k,A'.map (·.block)=some k->w1.heap.size<=k)
 |_,cv,w=>∃A5 c5 w1 A' c',Own w1 w0.heap.size 5 1 A5 y c5 bs∧Below w0.heap.size w0 w1∧cv 21=.slice A' (n+1) c'∧Own w base 49 5 A' (n+1) c' (xs++mk (A5,c5))∧Below base w1 w∧(∀k,k<w1.heap.size->C.map (·.block)≠some k->w.heap[k]?=w1.heap[k]?)∧(A'.map (·.block)=C.map (·.block)∨∀k,A'.map (·.block)=some k->w1.heap.size<=k)
theorem ctJ_blk{w0 w:World}{base n y k g:Nat}{C:OA}{xs bs:List Value}{mk:Option Addr×Nat->List Value}{cv:Nat->Value}{o:Obj}(hJ:ctJ w0 base C n c xs bs y mk k cv w)(h:w0.heap[g]?=some o)(hg:g<base):w.heap[g]?=some o:=by
 have hl:=blk_lt h
 match k,hJ with
 |0,hJ=>obtain rfl:w=w0.drew:=hJ;exact h
 |1,⟨_,_,_,_,h2⟩=>exact blk_below h h2
 |2,⟨_,_,_,_,h2⟩=>exact blk_below h h2
 |3,⟨_,_,w1,_,h2,h3,_⟩=>subst h3;exact blk_old (blk_below h h2)
 |4,⟨_,_,w1,_,_,_,h2,_,_,h3,_⟩=>exact(h3.block g hg).trans (blk_below h h2)
 |q+5,⟨_,_,w1,_,_,_,h2,_,_,h3,_⟩=>exact(h3.block g hg).trans (blk_below h h2)
theorem ctJ_app{w0 w1 w':World}{base n y c5:Nat}{C A5 A':OA}{c':Nat}{xs bs:List Value}{mk:Option Addr×Nat->List Value}{cv:Nat->Value}(h1:Own w1 w0.heap.size 5 1 A5 y c5 bs)(h2:Below w0.heap.size w0 w1)
  (hown:Own w' base 49 5 A' (n+1) c' (xs++mk (A5,c5))) (hgr:(w1.alloc (.cells (mk (A5,c5)).toArray 49)).grownBy w' (C.map (·.block))) (hbel:Below base (w1.alloc (.cells (mk (A5,c5)).toArray 49)) w')
  (hor:A'.map (·.block)=C.map (·.block)∨A'.map (·.block)=some (w1.alloc (.cells (mk (A5,c5)).toArray 49)).heap.size) (hle:base<=w1.heap.size):
  ctJ w0 base C n c xs bs y mk 4 (fun j=>if j=20 then .slice A' (n+1) c' else cv j) w':=by
 refine⟨A5,c5,w1,A',c',h1,h2,by simp,hown,((Below.refl _ _).alloc hle _).trans hbel,fun k hk hn=>(hgr.block k (by simp;omega) (fun e=>hn e.symm)).trans (Below.heap_alloc w1 _ k hk),?_⟩;exact x9sq
theorem wp_sbc{a:Act}{w:World}{K:Act->World->Prop}{Q:Exit->Act->World->Prop}{t:TypeId}{p:String}{af:Array Edge}{gd:Option (Nat×Bool)}{d s:Tmp}{f t1 n o:Int}{A:OA}{k:Nat}(hs:a.tmps[s]?=some (.agg (chkA f t1 n o A k c)))
  (h:K (a.put (some d) (.slice (some ⟨w.heap.size,0,none⟩) 1 1)) (w.alloc (.cells (chkA f t1 n o A k c) 49))):
  Oper.wp Try.prog ⟨some d,.buildSlice 43 1 #[(0,.tmp s)],t,p,af,gd⟩ a w K Q:=by
 have e1:a.eval (.tmp s)=.agg (chkA f t1 n o A k c):=by simp[Act.eval,hs]
 unfold Oper.wp execOp;simp only[e1,List.map_toArray,List.map_cons,List.map_nil];go_simp
 trace_state
 exact h
theorem chkCut_bad(B:OA)(d:Nat)(p:Pat)(w:World)(hp:PatIn w p B d)(h:patCheck p≠0):
  Calls Try.prog 33 #[.agg (patA p.from_ p.to_ p.old p.new_ p.size B p.ops.length d)] w (ChkRet2 w [] (patCheck p)):=by
 have K1:=qH (fun w hp=>patPut_bad B d p w hp h);have HP:=qH hp;obtain⟨ck,hck⟩:=eX (patCheck p);rw[hck]at h K1;rw[hck];have q:(ck !=0)=true:=by simp[h]
 clear hp h hck;go_enter Try.func33,Try.ntmps33;exact x23q
theorem chkCut_fine(B:OA)(d:Nat)(p:Pat)(w:World)(hp:PatIn w p B d)(h:patCheck p=0):
  Calls Try.prog 33 #[.agg (patA p.from_ p.to_ p.old p.new_ p.size B p.ops.length d)] w (ChkRet2 w (chunksOf p (packed (patBytes p))) 0):=by
 have K1:=qH (fun w hp=>patPut_ok B d p w hp h);have HP:=qH hp;have hl1:=patBytes_len h;obtain⟨hl2,hl3⟩:=packed_patch_len h;obtain⟨pb,hpb⟩:=eX (patBytes p);rw[hpb]at K1 hl1 hl2 hl3⊢;have K2:=qH (fun A c w hc hb=>pack_calls A c pb w hc (by omega) hb);obtain⟨b,hb⟩:=eX (packed pb);rw[hb]at K2 hl2 hl3⊢;obtain⟨m,hm⟩:=eX ((b.length+15) / 16);have HCO:Hid (∀k,k<m->(chunksOf p b)[k]?=some (chunkAt p b m k)):=qH (fun k hk=>by unfold chunksOf;rw[hm];simp[hk]);have HCL1:Hid ((chunksOf p b).length=m):=qH (by unfold chunksOf;rw[hm];simp);have hq:((b.length:Int)+15).tdiv 16=(m:Int):=by rw[Int.tdiv_eq_ediv_of_nonneg (by omega)];omega
 have hm1:m<=10:=by omega
 have HM:=qH hm;clear hp h hpb hb hm;generalize chunksOf p b=cs at *
 have HCA:Hid (∀k,chunkAt p b m k=⟨p.from_,p.to_,k,m,(b.drop (k*16)).take 16⟩):=qH (fun k=>rfl);generalize chunkAt p b m=ca at *
 obtain⟨f,t,o,n,sz,l⟩:=p;dsimp only at *
 have j1:IntKind.i64.wrap ((b.length:Int)+16)=(b.length:Int)+16:=IntWalk.i64_in _ (by omega);have j1:IntKind.i64.wrap ((b.length:Int)+15)=(b.length:Int)+15:=IntWalk.i64_in _ (by omega);have j1:(b.length:Int)+16-1=(b.length:Int)+15:=by omega
 have j1:IntKind.i64.wrap (m:Int)=(m:Int):=IntWalk.i64_in _ (by omega);have j1:decide ((52:Int)<(m:Int))=false:=decide_eq_false (by omega);have j1:¬52<m:=by omega
 go_enter Try.func33,Try.ntmps33;go_wp2_with fail;have hba:=(bW w).alloc nl (.cells (patA f t o n sz B l.length d) 35);refine(K1.out _ (HP.out.stays hba)).mono ?_;rintro e w1 ⟨A1,c1,rfl,ho1,hb1⟩;have hb1':=hba.trans (hb1.mono (by simp));have a1:=kp (w.heap.size) (patA f t o n sz B l.length d) hb1;have HBT:=qH ho1.src.bts;have hc1:=ho1.le;dsimp only at hc1;have HB1:=qH hb1';clear ho1 hb1 hb1';go_wp2_with fail;refine(K2.out _ _ _ hc1 HBT.out).mono ?_;rintro e w2 ⟨A1,c1,rfl,ho1,hb1⟩;obtain⟨tT,hgp⟩:=row_blk (w:=w2) (g:=w.heap.size) (by rw[rowOf_below a1.2.2.2.2.2 hb1,a1.1];simp[patA]);have hpb1:w2.heap[w.heap.size]?=some (.cells (patA f t o n sz B l.length d) tT (0,0)):=by rw[rowOf_below a1.2.2.2.2.2 hb1,a1.1,frOf_below a1.2.2.2.2.2 hb1,a1.2.1]at hgp;exact hgp
 have HPB1:=qH hpb1;have HBB1:=qH ho1.src.bts;have hc1:=ho1.le;have HB1:=bT HB1 hb1;have hg0l:=blk_lt hpb1;have hlb:0<b.length:=by omega
 obtain⟨ab,ao,rfl,hab,_⟩:=HBB1.out 0 hlb;clear ho1 hb1 hgp hpb1 a1 HP K1 K2;go_wp2_with fail;generalize hg0:w.heap.size=g0 at *
 have HGE:=qH hg0;generalize hbase:w2.heap.size=base at *
 have HBE:=qH hbase;clear hg0 hbase;go_loopw [7,27] (fun v i wr=>∃(k:Nat) (acc:List Chk) (ds:List (Option Addr×Nat)) (C:OA) (cc:Nat),k<=m∧i=iv k∧v=.slice C acc.length cc∧acc.length=k∧Hid (acc=cs.take k)∧Hid (GRow kChk wr base acc ds C cc)∧Hid (Each kChk acc ds (fun q=>base<=q))∧Hid (Below base w2 wr)) (fun _ i _=>m-(intOf i).toNat)
 case atStart=>exact⟨0,[],[],none,0,Nat.zero_le _,rfl,rfl,rfl,qH (by simp),qH (GRow.nil _ _),qH Each.nil,qH (Below.refl _ _)⟩
 case round=>
  rename World=>wo;obtain⟨k,acc,ds,C,cc,hk,rfl,rfl,hal,HAC,HR,HE,HB⟩:=hrel;have hbo:base<=wo.heap.size:=Nat.le_trans (Nat.le_of_eq HBE.out.symm) HB.out.size;have hbw:Below w2.heap.size w2 wo:=HBE.out▸HB.out;by_cases hlt:k<m
  ·have dl:decide ((k:Int)<(m:Int))=true:=decide_eq_true (by omega);have hwk:IntKind.i64.wrap ((k:Int)+1)=(k:Int)+1:=IntWalk.i64_in _ (by omega);obtain⟨x,hx⟩:=eX (ca k);have hxe:=HCA.out k;rw[hx]at hxe;obtain⟨y,hy⟩:=eX (x.data.length);have hyk:k*16+y<=b.length∧y<=16∧(y=16∨k*16+y=b.length):=by rw[<-hy,hxe];have:=HM.out;simp;omega
   obtain⟨hy1,hy2,hy3⟩:=hyk;obtain⟨o1,c2,hc2,hB1,hsl1⟩:=mid_slice (z1:=(k:Int)*16) (z2:=(k:Int)*16+(y:Int)) (k*16) y (by simp) (by simp) hc1 hy1 (HBB1.out.stays hbw);have hdt:(b.drop (k*16)).take y=x.data:=by
    rw[<-hy,hxe];dsimp only;rw[List.length_take,List.take_eq_take_iff];omega
   rw[hdt]at hB1;have HNXT:Hid (acc++[x]=cs.take (k+1)):=qH (by
    have h1:=HCO.out k hlt;rw[hx]at h1;obtain⟨h1,h3⟩:=List.getElem?_eq_some_iff.1 h1;rw[List.take_succ_eq_append_getElem h1,h3,HAC.out])
   have HCL:Hid (∀wq,Below wo.heap.size wo wq->Calls Try.prog 100 #[.slice (some ⟨ab,o1,none⟩) y c2] wq (SlRet wq 5 1 y (x.data.map bv))):=qH (fun wq h=>cloneBytes_calls _ _ _ _ wq (by simp[hy]) (by omega) (hB1.stays h).src (bv_one _));have HXE:Hid (∀e:Option Addr×Nat,(kChk.cell x e).toArray=chkA f t (k:Int) (m:Int) e.1 y e.2):=qH (fun e=>by rw[<-hy];rw[show kChk.cell x e=chkC x e.1 e.2 from rfl,hxe];simp[chkA]);have HW1:Hid (IntKind.i64.wrap ((k:Int)*16)=(k:Int)*16):=qH (IntWalk.i64_in _ (by omega));have HW2:Hid (IntKind.i64.wrap ((k:Int)+1)=(k:Int)+1):=qH hwk;have HW3:Hid (IntKind.i64.wrap (((k:Int)+1)*16)=((k:Int)+1)*16):=qH (IntWalk.i64_in _ (by omega));have HMIN:Hid ((if ((k:Int)+1)*16<(b.length:Int)then ((k:Int)+1)*16 else (b.length:Int))=(k:Int)*16+(y:Int)):=qH (by split<;>omega);have HSL:=qH hsl1;have HPB:Hid (wo.heap[g0]?=some (.cells (patA f t o n sz B l.length d) tT (0,0))):=qH ((HB.out.block g0 (by omega)).trans HPB1.out);have hg0b:g0<base:=by omega
   have HY:=qH hy;have HAL:=qH hal;have hk1:k<=10:=by omega
   have hacl:acc.length<=10:=by omega
   clear hx hxe hy3 hB1 hsl1 hdt hbw hal hwk hy;go_wp2_with fail;refine wp_region_free (by kernel_rfl) (some 30::some 31::some 32::some 33::some 34::some 35::some 36::some 37::some 38::some 39::some 40::some 41::some 42::some 43::some 44::some 45::some 46::some 47::some 48::some 49::some 50::some 7::[]) (false::false::false::false::false::false::false::false::false::false::false::false::false::false::false::false::false::true::true::true::true::true::[]) (.slice C acc.length cc::.pointer (some ⟨g0,0,none⟩)::iv f::.pointer (some ⟨g0,1,none⟩)::iv t::iv (k:Int)::iv (m:Int)::.slice (some ⟨ab,ao,none⟩) b.length c1::iv (k:Int)::iv ((k:Int)*16)::.slice (some ⟨ab,ao,none⟩) b.length c1::iv (b.length:Int)::iv (k:Int)::iv ((k:Int)+1)::iv (((k:Int)+1)*16)::iv ((k:Int)*16+(y:Int))::.slice (some ⟨ab,o1,none⟩) y c2::undef::undef::undef::undef::undef::[]) (fun done cv w=>ctJ wo base C acc.length cc (kChk.cells acc ds) (x.data.map bv) y (fun e=>kChk.cell x e) (lvlN [21,20,19,18,17] done) cv w) 53 rfl rfl (by decide+kernel) (by decide+kernel) (by decide+kernel) rfl rfl (rfl) ?_ ?_
   ·refine⟨?_,?_,?_,?_,?_,?_,?_,?_,?_,?_,?_,?_,?_,?_,?_,?_,?_,?_,?_,?_,?_,?_,trivial⟩;all_goals intro done cv a wq hn hw hcl h hJ
    ·have e1:=fr_un (t:=7) (i:=0) (i0:=21) (v:=.slice C acc.length cc) h hcl hn rfl (by decide) (by decide) rfl;exact mx_move (ch_ev e1)
    ·have e1:=fO 1 (.pointer (some ⟨g0,0,none⟩)) h;go_simp
    ·have e1:=fN 1 31 h hw;have hc:=ctJ_blk hJ HPB.out hg0b;have hc1:wq.cell? ⟨g0,0,none⟩=some (iv f):=by rw[cell_of_row _ _ _ _ _ _ hc];rfl
     go_simp
    ·have e1:=fO 1 (.pointer (some ⟨g0,0,none⟩)) h;go_simp
    ·have e1:=fN 3 33 h hw;have hc:=ctJ_blk hJ HPB.out hg0b;have hc1:wq.cell? ⟨g0,1,none⟩=some (iv t):=by rw[cell_of_row _ _ _ _ _ _ hc];rfl
     go_simp
    ·exact x4kf
    ·have e1:=fO 6 (iv (m:Int)) h;exact mx_move (ch_ev e1)
    ·exact x6gc
    ·exact x4kf
    ·have e1:=fN 8 38 h hw;have h1:=HW1.out;go_simp
    ·exact x6gc
    ·have e1:=fN 10 40 h hw;go_simp
    ·exact x4kf
    ·have e1:=fN 12 42 h hw;have h1:=HW2.out;go_simp
    ·have e1:=fN 13 43 h hw;have h1:=HW3.out;go_simp
    ·have e1:=fN 11 41 h hw;have e44:=fN 14 44 h hw;have h1:=HMIN.out
     first|(go_simp;done)|(go_simp;split at h1<;>omega)
    ·have e1:=fN 7 37 h hw;have e39:=fN 9 39 h hw;have e45:=fN 15 45 h hw;have h1:=HSL.out;go_simp
    ·have e1:=fN 16 46 h hw;have n1:=hn;have n2:=nW 18 17 hcl n1;have n3:=nW 19 18 hcl n2;have n4:=nW 20 19 hcl n3;have n5:=nW 21 20 hcl n4;have hl:lvlN [21,20,19,18,17] (maskB [false,false,false,false,false,false,false,false,false,false,false,false,false,false,false,false,false,true,true,true,true,true] done)=0:=by simp[lvlN,maskB,n1,n2,n3,n4,n5]
     have hl1:lvlN [21,20,19,18,17] (fun j=>if j=17 then true else maskB [false,false,false,false,false,false,false,false,false,false,false,false,false,false,false,false,false,true,true,true,true,true] done j)=1:=by simp[lvlN,maskB,n1,n2,n3,n4,n5]
     rw[hl]at hJ;have hK:∀(v:Value) (w':World),ctJ wo base C acc.length cc (kChk.cells acc ds) (x.data.map bv) y (fun e=>kChk.cell x e) 1 (fun j=>if j=17 then v else cv j) w'->ctJ wo base C acc.length cc (kChk.cells acc ds) (x.data.map bv) y (fun e=>kChk.cell x e) (lvlN [21,20,19,18,17] (fun j=>if j=17 then true else maskB [false,false,false,false,false,false,false,false,false,false,false,false,false,false,false,false,false,true,true,true,true,true] done j)) (fun j=>if j=17 then v else cv j) w':=fun v w' h=>by rw[hl1];exact h
     obtain rfl:wq=wo.drew:=hJ;refine wp_call (vals:=#[.slice (some ⟨ab,o1,none⟩) y c2]) (by rw[List.map_toArray,List.map_cons,List.map_nil,ch_ev e1]) (enters_of Try.func100 (by kernel_rfl) rfl _ _) (HCL.out _ ((Below.refl _ _).drew)) ?_;rintro e w' ⟨A1,c1,rfl,hown,hbel⟩;exact⟨_,rfl,_,rfl,hK _ _ ⟨A1,c1,by simp,hown,(Below.refl _ _).drew.trans hbel⟩⟩
    ·have e1:=fN 2 32 h hw;have e34:=fN 4 34 h hw;have e35:=fN 5 35 h hw;have e36:=fN 6 36 h hw;have e47:=fr_cv (i:=17) (t:=47) h (hw 17 (by decide)) rfl rfl;have n1:=hn;have n2:=nW 19 18 hcl n1;have n3:=nW 20 19 hcl n2;have n4:=nW 21 20 hcl n3;have m1:=hw 17 (by decide);have hl:lvlN [21,20,19,18,17] (maskB [false,false,false,false,false,false,false,false,false,false,false,false,false,false,false,false,false,true,true,true,true,true] done)=1:=by simp[lvlN,maskB,n1,n2,n3,n4,m1]
     have hl1:lvlN [21,20,19,18,17] (fun j=>if j=18 then true else maskB [false,false,false,false,false,false,false,false,false,false,false,false,false,false,false,false,false,true,true,true,true,true] done j)=2:=by simp[lvlN,maskB,n1,n2,n3,n4,m1]
     rw[hl]at hJ;have hK:∀(v:Value) (w':World),ctJ wo base C acc.length cc (kChk.cells acc ds) (x.data.map bv) y (fun e=>kChk.cell x e) 2 (fun j=>if j=18 then v else cv j) w'->ctJ wo base C acc.length cc (kChk.cells acc ds) (x.data.map bv) y (fun e=>kChk.cell x e) (lvlN [21,20,19,18,17] (fun j=>if j=18 then true else maskB [false,false,false,false,false,false,false,false,false,false,false,false,false,false,false,false,false,true,true,true,true,true] done j)) (fun j=>if j=18 then v else cv j) w':=fun v w' h=>by rw[hl1];exact h
     obtain⟨A1,c1,y1,hown,hbel⟩:=hJ;rw[y1]at e47;refine wp_val (v:=.agg (chkA f t (k:Int) (m:Int) A1 y c1)) (by go_simp) ⟨_,rfl,hK _ _ ⟨A1,c1,?_,hown,hbel⟩⟩;rw[HXE.out];simp
    ·have e1:=fr_cv (i:=18) (t:=48) h (hw 18 (by decide)) rfl rfl;have n1:=hn;have n2:=nW 20 19 hcl n1;have n3:=nW 21 20 hcl n2;have m1:=hw 18 (by decide);have hl:lvlN [21,20,19,18,17] (maskB [false,false,false,false,false,false,false,false,false,false,false,false,false,false,false,false,false,true,true,true,true,true] done)=2:=by simp[lvlN,maskB,n1,n2,n3,m1]
     have hl1:lvlN [21,20,19,18,17] (fun j=>if j=19 then true else maskB [false,false,false,false,false,false,false,false,false,false,false,false,false,false,false,false,false,true,true,true,true,true] done j)=3:=by simp[lvlN,maskB,n1,n2,n3,m1]
     rw[hl]at hJ;have hK:∀(v:Value) (w':World),ctJ wo base C acc.length cc (kChk.cells acc ds) (x.data.map bv) y (fun e=>kChk.cell x e) 3 (fun j=>if j=19 then v else cv j) w'->ctJ wo base C acc.length cc (kChk.cells acc ds) (x.data.map bv) y (fun e=>kChk.cell x e) (lvlN [21,20,19,18,17] (fun j=>if j=19 then true else maskB [false,false,false,false,false,false,false,false,false,false,false,false,false,false,false,false,false,true,true,true,true,true] done j)) (fun j=>if j=19 then v else cv j) w':=fun v w' h=>by rw[hl1];exact h
     obtain⟨A1,c1,y1,hown,hbel⟩:=hJ;rw[y1]at e1;rw[HXE.out]at e1;refine wp_sbc e1 ⟨_,rfl,hK _ _ ⟨A1,c1,wq,hown,hbel,by rw[HXE.out],by simp⟩⟩
    ·have e1:=fN 0 30 h hw;have e49:=fr_cv (i:=19) (t:=49) h (hw 19 (by decide)) rfl rfl;have n1:=hn;have n2:=nW 21 20 hcl n1;have m1:=hw 19 (by decide);have hl:lvlN [21,20,19,18,17] (maskB [false,false,false,false,false,false,false,false,false,false,false,false,false,false,false,false,false,true,true,true,true,true] done)=3:=by simp[lvlN,maskB,n1,n2,m1]
     have hl1:lvlN [21,20,19,18,17] (fun j=>if j=20 then true else maskB [false,false,false,false,false,false,false,false,false,false,false,false,false,false,false,false,false,true,true,true,true,true] done j)=4:=by simp[lvlN,maskB,n1,n2,m1]
     rw[hl]at hJ;have hK:∀(v:Value) (w':World),ctJ wo base C acc.length cc (kChk.cells acc ds) (x.data.map bv) y (fun e=>kChk.cell x e) 4 (fun j=>if j=20 then v else cv j) w'->ctJ wo base C acc.length cc (kChk.cells acc ds) (x.data.map bv) y (fun e=>kChk.cell x e) (lvlN [21,20,19,18,17] (fun j=>if j=20 then true else maskB [false,false,false,false,false,false,false,false,false,false,false,false,false,false,false,false,false,true,true,true,true,true] done j)) (fun j=>if j=20 then v else cv j) w':=fun v w' h=>by rw[hl1];exact h
     obtain⟨A1,c1,w1,hown,hbel,rfl,y1⟩:=hJ;rw[y1]at e49;refine wp_app _ (.tmp 30) (.tmp 49) 43 rfl elChunks base C acc.length cc (kChk.cells acc ds) (ch_ev e1) ((HR.out.row.below hbel).alloc _) (some ⟨w1.heap.size,0,none⟩) 1 1 (kChk.cell x (A1,c1)) (ch_ev e49) (src_blk (blk_top rfl)) (by simp[kChk]) (kChk.one _ _) (by omega) (by have:=hbel.size;simp;omega) ?_;intro A' c' w' hown1 hgr hbel1 hor;exact⟨_,rfl,hK _ _ (ctJ_app hown hbel hown1 hgr hbel1 hor (Nat.le_trans hbo hbel.size))⟩
    ·have e1:=fr_cv (i:=20) (t:=50) h (hw 20 (by decide)) rfl rfl;have n1:=hn;have m1:=hw 20 (by decide);have hl:lvlN [21,20,19,18,17] (maskB [false,false,false,false,false,false,false,false,false,false,false,false,false,false,false,false,false,true,true,true,true,true] done)=4:=by simp[lvlN,maskB,n1,m1]
     have hl1:lvlN [21,20,19,18,17] (fun j=>if j=21 then true else maskB [false,false,false,false,false,false,false,false,false,false,false,false,false,false,false,false,false,true,true,true,true,true] done j)=5:=by simp[lvlN,maskB,n1,m1]
     rw[hl]at hJ;have hK:∀(v:Value) (w':World),ctJ wo base C acc.length cc (kChk.cells acc ds) (x.data.map bv) y (fun e=>kChk.cell x e) 5 (fun j=>if j=21 then v else cv j) w'->ctJ wo base C acc.length cc (kChk.cells acc ds) (x.data.map bv) y (fun e=>kChk.cell x e) (lvlN [21,20,19,18,17] (fun j=>if j=21 then true else maskB [false,false,false,false,false,false,false,false,false,false,false,false,false,false,false,false,false,true,true,true,true,true] done j)) (fun j=>if j=21 then v else cv j) w':=fun v w' h=>by rw[hl1];exact h
     obtain⟨A1,c1,w1,A',c',hown,hbel,y1,r1,r2,r3,r4⟩:=hJ;rw[y1]at e1;exact wp_asg (ch_ev e1) ⟨_,rfl,hK _ _ ⟨A1,c1,w1,A',c',hown,hbel,by simp,r1,r2,r3,r4⟩⟩
   intro dn cv w1 hall hJ;rw[show lvlN [21,20,19,18,17] dn=5 by simp[lvlN,hall 21 rfl (by decide)]]at hJ;obtain⟨A1,c5,w1',A',c',hown,hbel,y1,r1,r2,r3,r4⟩:=hJ;simp only[freeAll,putAll_some,putAll_none,putAll_nil,List.getD_cons_zero,List.getD_cons_succ,Bool.false_eq_true,if_true,if_false,reduceIte,Nat.zero_add,Nat.reduceAdd,List.setIfInBounds_toArray,List.set_cons_zero,List.set_cons_succ];rw[y1];have hr1:GRow kChk w1' base acc ds C cc:=HR.out.below hbel;have hdb:x.data.length<=c5:=by rw[HY.out];exact hown.le
   have hblk:∀q,A1.map (·.block)=some q->wo.heap.size<=q:=fun q e=>(hown.block q e).1;have hr2:=hr1.push (o:=x) (d:=(A1,c5)) r1 r2 r3 r4 hown.src.bts hdb (fun _ q e e2=>by have h5:=hblk q e;have h6:=(HR.out.row.block q e2).2;omega);have HR1:=qH hr2;have HE1:Hid (Each kChk (acc++[x]) (ds++[(A1,c5)]) (fun q=>base<=q)):=qH (HE.out.push HR.out.len (fun _ q e=>by have h5:=hblk q e;omega));have HB1:Hid (Below base w2 w1):=qH ((HB.out.trans (hbel.mono hbo)).trans r2);have hwk:IntKind.i64.wrap ((k:Int)+1)=(k:Int)+1:=HW2.out;clear hown hbel y1 r1 r2 r3 r4 hr1 hdb hblk hr2;go_wp2_with fail;go_roundw
   case rel=>exact⟨k+1,acc++[x],ds++[(A1,c5)],A',c',by omega,by go_num,by simp,by rw[List.length_append,HAL.out];rfl,HNXT,HR1,HE1,HB1⟩
   case measure=>simp[intOf];omega
  obtain rfl:k=m:=by omega
  have dl:decide ((k:Int)<(k:Int))=false:=by simp
  have hz:acc=cs:=by rw[HAC.out,List.take_of_length_le (by rw[HCL1.out];exact nl)]
  have HZ:=qH hz;clear hz hal;go_wp2_with fail;go_ret2;rw[<-HZ.out];exact⟨C,cc,ds,rfl,HR.out.mono (by rw[HGE.out];omega),HE.out.imp (fun q hq=>by rw[HGE.out];omega),by rw[HGE.out];exact HB1.out.trans (HB.out.mono (by omega))⟩
theorem chkCut_calls(B:OA)(d:Nat)(p:Pat)(w:World)(hp:PatIn w p B d):
  Calls Try.prog 33 #[.agg (patA p.from_ p.to_ p.old p.new_ p.size B p.ops.length d)] w (ChkRet2 w (chkCut p).1 (chkCut p).2):=by
 unfold chkCut;by_cases h:patCheck p=0
 ·obtain⟨h1,h2⟩:=packed_patch_len h;rw[if_neg (by simpa using h),if_neg (by omega)];exact chkCut_fine B d p w hp h
 rw[if_pos h];exact chkCut_bad B d p w hp h
end Go.Proofs.Ytefkfglkpebbmac
