/- Walks of functions, and plain words. No conditions. -/
import Derived.Test.YtefkfglkpebbmacP4
set_option linter.unusedVariables false
set_option linter.unusedSimpArgs false
set_option maxRecDepth 100000
set_option maxHeartbeats 40000000
namespace Go.Proofs.Ytefkfglkpebbmac
open Go.RowKit
variable {Y:Prop}
variable {w:World} {base c:Nat}
theorem x4kf(h:Y:=by
 have e1:=fO 8 (iv (k:Int)) h;exact mx_move (ch_ev e1)):Y:=h
theorem x6gc(h:Y:=by
 have e1:=fO 4 (.slice (some ⟨ab,ao,none⟩) b.length c1) h;exact mx_move (ch_ev e1)):Y:=h
def ctJ(w0:World)(base:Nat)(C:OA)(n c:Nat)(xs bs:List Value)(y:Nat)(mk:Option Addr×Nat->List Value):Nat->(Nat->Value)->World->Prop
 |0,_,w=>w=w0.drew
 |1,cv,w=>∃A5 c5,cv 17=.slice A5 y c5∧Own w w0.heap.size 5 1 A5 y c5 bs∧Below w0.heap.size w0 w
 |2,cv,w=>∃A5 c5,cv 18=.agg (mk (A5,c5)).toArray∧Own w w0.heap.size 5 1 A5 y c5 bs∧Below w0.heap.size w0 w
 |3,cv,w=>∃A5 c5 w1,Own w1 w0.heap.size 5 1 A5 y c5 bs∧Below w0.heap.size w0 w1∧w=w1.alloc (.cells (mk (A5,c5)).toArray 49)∧cv 19=.slice (some ⟨w1.heap.size,0,none⟩) 1 1
 |4,cv,w=>∃A5 c5 w1 A' c',Own w1 w0.heap.size 5 1 A5 y c5 bs∧Below w0.heap.size w0 w1∧cv 20=.slice A' (n+1) c'∧Own w base 49 5 A' (n+1) c' (xs++mk (A5,c5))∧Below base w1 w∧(∀k,k<w1.heap.size->C.map (·.block)≠some k->w.heap[k]?=w1.heap[k]?)∧(A'.map (·.block)=C.map (·.block)∨∀k,A'.map (·.block)=some k->w1.heap.size<=k)
 |_,cv,w=>∃A5 c5 w1 A' c',Own w1 w0.heap.size 5 1 A5 y c5 bs∧Below w0.heap.size w0 w1∧cv 21=.slice A' (n+1) c'∧Own w base 49 5 A' (n+1) c' (xs++mk (A5,c5))∧Below base w1 w∧(∀k,k<w1.heap.size->C.map (·.block)≠some k->w.heap[k]?=w1.heap[k]?)∧(A'.map (·.block)=C.map (·.block)∨∀k,A'.map (·.block)=some k->w1.heap.size<=k)
theorem ctJ_blk{w0:World}{n y k g:Nat}{C:OA}{xs bs:List Value}{mk:Option Addr×Nat->List Value}{cv:Nat->Value}{o:Obj}(hJ:ctJ w0 base C n c xs bs y mk k cv w)(h:w0.heap[g]?=some o)(hg:g<base):w.heap[g]?=some o:=by
 have hl:=blk_lt h
 match k,hJ with
 |0,hJ=>obtain rfl:w=w0.drew:=hJ;exact h
 |1,⟨_,_,_,_,h2⟩=>exact blk_below h h2
 |2,⟨_,_,_,_,h2⟩=>exact blk_below h h2
 |3,⟨_,_,w1,_,h2,h3,_⟩=>subst h3;exact blk_old (blk_below h h2)
 |4,⟨_,_,w1,_,_,_,h2,_,_,h3,_⟩=>exact(h3.block g hg).trans (blk_below h h2)
 |q+5,⟨_,_,w1,_,_,_,h2,_,_,h3,_⟩=>exact(h3.block g hg).trans (blk_below h h2)
theorem ctJ_app{w0 w1 w':World}{n y c5:Nat}{C A5 A':OA}{c':Nat}{xs bs:List Value}{mk:Option Addr×Nat->List Value}{cv:Nat->Value}(h1:Own w1 w0.heap.size 5 1 A5 y c5 bs)(h2:Below w0.heap.size w0 w1)
  (hown:Own w' base 49 5 A' (n+1) c' (xs++mk (A5,c5))) (hgr:(w1.alloc (.cells (mk (A5,c5)).toArray 49)).grownBy w' (C.map (·.block))) (hbel:Below base (w1.alloc (.cells (mk (A5,c5)).toArray 49)) w')
  (hor:A'.map (·.block)=C.map (·.block)∨A'.map (·.block)=some (w1.alloc (.cells (mk (A5,c5)).toArray 49)).heap.size) (hle:base<=w1.heap.size):
  ctJ w0 base C n c xs bs y mk 4 (fun j=>if j=20 then .slice A' (n+1) c' else cv j) w':=by
 refine⟨A5,c5,w1,A',c',h1,h2,by simp,hown,((Below.refl _ _).alloc hle _).trans hbel,fun k hk hn=>(hgr.block k (by simp;omega) (fun e=>hn e.symm)).trans (Below.heap_alloc w1 _ k hk),?_⟩;rcases hor with h|h
 ·exact .inl h
 exact .inr (fun k hk=>by rw[h]at hk;injection hk with hk;simp at hk;omega)
theorem wp_sbc{a:Act}{K:Act->World->Prop}{Q:Exit->Act->World->Prop}{t:TypeId}{p:String}{af:Array Edge}{gd:Option (Nat×Bool)}{d s:Tmp}{f t1 n o:Int}{A:OA}{k:Nat}(hs:a.tmps[s]?=some (.agg (chkA f t1 n o A k c)))
  (h:K (a.put (some d) (.slice (some ⟨w.heap.size,0,none⟩) 1 1)) (w.alloc (.cells (chkA f t1 n o A k c) 49))):
  Oper.wp Try.prog ⟨some d,.buildSlice 43 1 #[(0,.tmp s)],t,p,af,gd⟩ a w K Q:=by
 have e1:a.eval (.tmp s)=.agg (chkA f t1 n o A k c):=by simp[Act.eval,hs]
 unfold Oper.wp execOp;simp only[e1,List.map_toArray,List.map_cons,List.map_nil];go_simp
 trace_state
 exact h
theorem chkCut_bad(B:OA)(d:Nat)(p:Pat)(w:World)(hp:PatIn w p B d)(h:patCheck p≠0):
  Calls Try.prog 33 #[.agg (patA p.from_ p.to_ p.old p.new_ p.size B p.ops.length d)] w (ChkRet2 w [] (patCheck p)):=by
 have K1:=qH (fun w hp=>patPut_bad B d p w hp h);have HP:=qH hp;obtain⟨ck,hck⟩:=eX (patCheck p);rw[hck]at h K1;rw[hck];have q:(ck !=0)=true:=by simp[h]
 clear hp h hck;go_enter Try.func33,Try.ntmps33;exact x1i9
theorem chkCut_fine(B:OA)(d:Nat)(p:Pat)(w:World)(hp:PatIn w p B d)(h:patCheck p=0):
  Calls Try.prog 33 #[.agg (patA p.from_ p.to_ p.old p.new_ p.size B p.ops.length d)] w (ChkRet2 w (chunksOf p (packed (patBytes p))) 0):=by
 have K1:=qH (fun w hp=>patPut_ok B d p w hp h);have HP:=qH hp;have hl1:=patBytes_len h;obtain⟨hl2,hl3⟩:=packed_patch_len h;obtain⟨pb,hpb⟩:=eX (patBytes p);rw[hpb]at K1 hl1 hl2 hl3⊢;have K2:=qH (fun A c w hc hb=>pack_calls A c pb w hc (by omega) hb);obtain⟨b,hb⟩:=eX (packed pb);rw[hb]at K2 hl2 hl3⊢;obtain⟨m,hm⟩:=eX ((b.length+15) / 16);have HCO:Hid (∀k,k<m->(chunksOf p b)[k]?=some (chunkAt p b m k)):=qH (fun k hk=>by unfold chunksOf;rw[hm];simp[hk]);have HCL1:Hid ((chunksOf p b).length=m):=qH (by unfold chunksOf;rw[hm];simp);have hq:((b.length:Int)+15).tdiv 16=(m:Int):=by rw[Int.tdiv_eq_ediv_of_nonneg (by omega)];omega
 have hm1:m<=10:=by omega
 have HM:=qH hm;clear hp h hpb hb hm;generalize chunksOf p b=cs at *
 have HCA:Hid (∀k,chunkAt p b m k=⟨p.from_,p.to_,k,m,(b.drop (k*16)).take 16⟩):=qH (fun k=>rfl);generalize chunkAt p b m=ca at *
 obtain⟨f,t,o,n,sz,l⟩:=p;dsimp only at *
 have j1:IntKind.i64.wrap ((b.length:Int)+16)=(b.length:Int)+16:=IntWalk.i64_in _ (by omega);have j1:IntKind.i64.wrap ((b.length:Int)+15)=(b.length:Int)+15:=IntWalk.i64_in _ (by omega);have j1:(b.length:Int)+16-1=(b.length:Int)+15:=by omega
 have j1:IntKind.i64.wrap (m:Int)=(m:Int):=IntWalk.i64_in _ (by omega);have j1:decide ((52:Int)<(m:Int))=false:=decide_eq_false (by omega);have j1:¬52<m:=by omega
 go_enter Try.func33,Try.ntmps33;go_wp2_with fail;have hba:=(bW w).alloc nl (.cells (patA f t o n sz B l.length d) 35);refine(K1.out _ (HP.out.stays hba)).mono ?_;rintro e w1 ⟨A1,c1,rfl,ho1,hb1⟩;have hb1':=hba.trans (hb1.mono (by simp));have a1:=kp (w.heap.size) (patA f t o n sz B l.length d) hb1;have HBT:=qH ho1.src.bts;have hc1:=ho1.le;dsimp only at hc1;have HB1:=qH hb1';clear ho1 hb1 hb1';go_wp2_with fail;refine(K2.out _ _ _ hc1 HBT.out).mono ?_;rintro e w2 ⟨A1,c1,rfl,ho1,hb1⟩;obtain⟨tT,hgp⟩:=row_blk (w:=w2) (g:=w.heap.size) (by rw[rowOf_below a1.2.2.2.2.2 hb1,a1.1];simp[patA]);have hpb1:w2.heap[w.heap.size]?=some (.cells (patA f t o n sz B l.length d) tT (0,0)):=by rw[rowOf_below a1.2.2.2.2.2 hb1,a1.1,frOf_below a1.2.2.2.2.2 hb1,a1.2.1]at hgp;exact hgp
 have HPB1:=qH hpb1;have HBB1:=qH ho1.src.bts;have hc1:=ho1.le;have HB1:=bT HB1 hb1;have hg0l:=blk_lt hpb1;have hlb:0<b.length:=by omega
 obtain⟨ab,ao,rfl,hab,_⟩:=HBB1.out 0 hlb;clear ho1 hb1 hgp hpb1 a1 HP K1 K2;go_wp2_with fail;generalize hg0:w.heap.size=g0 at *
 have HGE:=qH hg0;generalize hbase:w2.heap.size=base at *
 have HBE:=qH hbase;clear hg0 hbase;go_loopw [7,27] (fun v i wr=>∃(k:Nat) (acc:List Chk) (ds:List (Option Addr×Nat)) (C:OA) (cc:Nat),k<=m∧i=iv k∧v=.slice C acc.length cc∧acc.length=k∧Hid (acc=cs.take k)∧Hid (GRow kChk wr base acc ds C cc)∧Hid (Each kChk acc ds (fun q=>base<=q))∧Hid (Below base w2 wr)) (fun _ i _=>m-(intOf i).toNat)
 case atStart=>exact⟨0,[],[],none,0,Nat.zero_le _,rfl,rfl,rfl,qH (by simp),qH (GRow.nil _ _),qH Each.nil,qH (Below.refl _ _)⟩
 case round=>
  rename World=>wo;obtain⟨k,acc,ds,C,cc,hk,rfl,rfl,hal,HAC,HR,HE,HB⟩:=hrel;have hbo:base<=wo.heap.size:=Nat.le_trans (Nat.le_of_eq HBE.out.symm) HB.out.size;have hbw:Below w2.heap.size w2 wo:=HBE.out▸HB.out;by_cases hlt:k<m
  ·have dl:decide ((k:Int)<(m:Int))=true:=decide_eq_true (by omega);have hwk:IntKind.i64.wrap ((k:Int)+1)=(k:Int)+1:=IntWalk.i64_in _ (by omega);obtain⟨x,hx⟩:=eX (ca k);have hxe:=HCA.out k;rw[hx]at hxe;obtain⟨y,hy⟩:=eX (x.data.length);have hyk:k*16+y<=b.length∧y<=16∧(y=16∨k*16+y=b.length):=by rw[<-hy,hxe];have:=HM.out;simp;omega
   obtain⟨hy1,hy2,hy3⟩:=hyk;obtain⟨o1,c2,hc2,hB1,hsl1⟩:=mid_slice (z1:=(k:Int)*16) (z2:=(k:Int)*16+(y:Int)) (k*16) y (by simp) (by simp) hc1 hy1 (HBB1.out.stays hbw);have hdt:(b.drop (k*16)).take y=x.data:=by
    rw[<-hy,hxe];dsimp only;rw[List.length_take,List.take_eq_take_iff];omega
   rw[hdt]at hB1;have HNXT:Hid (acc++[x]=cs.take (k+1)):=qH (by
    have h1:=HCO.out k hlt;rw[hx]at h1;obtain⟨h1,h3⟩:=List.getElem?_eq_some_iff.1 h1;rw[List.take_succ_eq_append_getElem h1,h3,HAC.out])
   have HCL:Hid (∀wq,Below wo.heap.size wo wq->Calls Try.prog 100 #[.slice (some ⟨ab,o1,none⟩) y c2] wq (SlRet wq 5 1 y (x.data.map bv))):=qH (fun wq h=>cloneBytes_calls _ _ _ _ wq (by simp[hy]) (by omega) (hB1.stays h).src (bv_one _));have HXE:Hid (∀e:Option Addr×Nat,(kChk.cell x e).toArray=chkA f t (k:Int) (m:Int) e.1 y e.2):=qH (fun e=>by rw[<-hy];rw[show kChk.cell x e=chkC x e.1 e.2 from rfl,hxe];simp[chkA]);have HW1:Hid (IntKind.i64.wrap ((k:Int)*16)=(k:Int)*16):=qH (IntWalk.i64_in _ (by omega));have HW2:Hid (IntKind.i64.wrap ((k:Int)+1)=(k:Int)+1):=qH hwk;have HW3:Hid (IntKind.i64.wrap (((k:Int)+1)*16)=((k:Int)+1)*16):=qH (IntWalk.i64_in _ (by omega));have HMIN:Hid ((if ((k:Int)+1)*16<(b.length:Int)then ((k:Int)+1)*16 else (b.length:Int))=(k:Int)*16+(y:Int)):=qH (by split<;>omega);have HSL:=qH hsl1;have HPB:Hid (wo.heap[g0]?=some (.cells (patA f t o n sz B l.length d) tT (0,0))):=qH ((HB.out.block g0 (by omega)).trans HPB1.out);have hg0b:g0<base:=by omega
   have HY:=qH hy;have HAL:=qH hal;have hk1:k<=10:=by omega
   have hacl:acc.length<=10:=by omega
   clear hx hxe hy3 hB1 hsl1 hdt hbw hal hwk hy;go_wp2_with fail;refine wp_region_free (by kernel_rfl) (some 30::some 31::some 32::some 33::some 34::some 35::some 36::some 37::some 38::some 39::some 40::some 41::some 42::some 43::some 44::some 45::some 46::some 47::some 48::some 49::some 50::some 7::[]) (false::false::false::false::false::false::false::false::false::false::false::false::false::false::false::false::false::true::true::true::true::true::[]) (.slice C acc.length cc::.pointer (some ⟨g0,0,none⟩)::iv f::.pointer (some ⟨g0,1,none⟩)::iv t::iv (k:Int)::iv (m:Int)::.slice (some ⟨ab,ao,none⟩) b.length c1::iv (k:Int)::iv ((k:Int)*16)::.slice (some ⟨ab,ao,none⟩) b.length c1::iv (b.length:Int)::iv (k:Int)::iv ((k:Int)+1)::iv (((k:Int)+1)*16)::iv ((k:Int)*16+(y:Int))::.slice (some ⟨ab,o1,none⟩) y c2::undef::undef::undef::undef::undef::[]) (fun done cv w=>ctJ wo base C acc.length cc (kChk.cells acc ds) (x.data.map bv) y (fun e=>kChk.cell x e) (lvlN [21,20,19,18,17] done) cv w) 53 rfl rfl (by decide+kernel) (by decide+kernel) (by decide+kernel) rfl rfl (rfl) ?_ ?_
   ·refine⟨?_,?_,?_,?_,?_,?_,?_,?_,?_,?_,?_,?_,?_,?_,?_,?_,?_,?_,?_,?_,?_,?_,trivial⟩;all_goals intro done cv a wq hn hw hcl h hJ
    ·have e1:=fr_un (t:=7) (i:=0) (i0:=21) (v:=.slice C acc.length cc) h hcl hn rfl (by decide) (by decide) rfl;exact mx_move (ch_ev e1)
    ·have e1:=fO 1 (.pointer (some ⟨g0,0,none⟩)) h;go_simp
    ·have e1:=fN 1 31 h hw;have hc:=ctJ_blk hJ HPB.out hg0b;have hc1:wq.cell? ⟨g0,0,none⟩=some (iv f):=by rw[cell_of_row _ _ _ _ _ _ hc];rfl
     go_simp
    ·have e1:=fO 1 (.pointer (some ⟨g0,0,none⟩)) h;go_simp
    ·have e1:=fN 3 33 h hw;have hc:=ctJ_blk hJ HPB.out hg0b;have hc1:wq.cell? ⟨g0,1,none⟩=some (iv t):=by rw[cell_of_row _ _ _ _ _ _ hc];rfl
     go_simp
    ·exact x4kf
    ·have e1:=fO 6 (iv (m:Int)) h;exact mx_move (ch_ev e1)
    ·exact x6gc
    ·exact x4kf
    ·have e1:=fN 8 38 h hw;have h1:=HW1.out;go_simp
    ·exact x6gc
    ·have e1:=fN 10 40 h hw;go_simp
    ·exact x4kf
    ·have e1:=fN 12 42 h hw;have h1:=HW2.out;go_simp
    ·have e1:=fN 13 43 h hw;have h1:=HW3.out;go_simp
    ·have e1:=fN 11 41 h hw;have e44:=fN 14 44 h hw;have h1:=HMIN.out
     first|(go_simp;done)|(go_simp;split at h1<;>omega)
    ·have e1:=fN 7 37 h hw;have e39:=fN 9 39 h hw;have e45:=fN 15 45 h hw;have h1:=HSL.out;go_simp
    ·have e1:=fN 16 46 h hw;have n1:=hn;have n2:=nW 18 17 hcl n1;have n3:=nW 19 18 hcl n2;have n4:=nW 20 19 hcl n3;have n5:=nW 21 20 hcl n4;have hl:lvlN [21,20,19,18,17] (maskB [false,false,false,false,false,false,false,false,false,false,false,false,false,false,false,false,false,true,true,true,true,true] done)=0:=by simp[lvlN,maskB,n1,n2,n3,n4,n5]
     have hl1:lvlN [21,20,19,18,17] (fun j=>if j=17 then true else maskB [false,false,false,false,false,false,false,false,false,false,false,false,false,false,false,false,false,true,true,true,true,true] done j)=1:=by simp[lvlN,maskB,n1,n2,n3,n4,n5]
     rw[hl]at hJ;have hK:∀(v:Value) (w':World),ctJ wo base C acc.length cc (kChk.cells acc ds) (x.data.map bv) y (fun e=>kChk.cell x e) 1 (fun j=>if j=17 then v else cv j) w'->ctJ wo base C acc.length cc (kChk.cells acc ds) (x.data.map bv) y (fun e=>kChk.cell x e) (lvlN [21,20,19,18,17] (fun j=>if j=17 then true else maskB [false,false,false,false,false,false,false,false,false,false,false,false,false,false,false,false,false,true,true,true,true,true] done j)) (fun j=>if j=17 then v else cv j) w':=fun v w' h=>by rw[hl1];exact h
     obtain rfl:wq=wo.drew:=hJ;refine wp_call (vals:=#[.slice (some ⟨ab,o1,none⟩) y c2]) (by rw[List.map_toArray,List.map_cons,List.map_nil,ch_ev e1]) (enters_of Try.func100 (by kernel_rfl) rfl _ _) (HCL.out _ ((Below.refl _ _).drew)) ?_;rintro e w' ⟨A1,c1,rfl,hown,hbel⟩;exact⟨_,rfl,_,rfl,hK _ _ ⟨A1,c1,by simp,hown,(Below.refl _ _).drew.trans hbel⟩⟩
    ·have e1:=fN 2 32 h hw;have e34:=fN 4 34 h hw;have e35:=fN 5 35 h hw;have e36:=fN 6 36 h hw;have e47:=fr_cv (i:=17) (t:=47) h (hw 17 (by decide)) rfl rfl;have n1:=hn;have n2:=nW 19 18 hcl n1;have n3:=nW 20 19 hcl n2;have n4:=nW 21 20 hcl n3;have m1:=hw 17 (by decide);have hl:lvlN [21,20,19,18,17] (maskB [false,false,false,false,false,false,false,false,false,false,false,false,false,false,false,false,false,true,true,true,true,true] done)=1:=by simp[lvlN,maskB,n1,n2,n3,n4,m1]
     have hl1:lvlN [21,20,19,18,17] (fun j=>if j=18 then true else maskB [false,false,false,false,false,false,false,false,false,false,false,false,false,false,false,false,false,true,true,true,true,true] done j)=2:=by simp[lvlN,maskB,n1,n2,n3,n4,m1]
     rw[hl]at hJ;have hK:∀(v:Value) (w':World),ctJ wo base C acc.length cc (kChk.cells acc ds) (x.data.map bv) y (fun e=>kChk.cell x e) 2 (fun j=>if j=18 then v else cv j) w'->ctJ wo base C acc.length cc (kChk.cells acc ds) (x.data.map bv) y (fun e=>kChk.cell x e) (lvlN [21,20,19,18,17] (fun j=>if j=18 then true else maskB [false,false,false,false,false,false,false,false,false,false,false,false,false,false,false,false,false,true,true,true,true,true] done j)) (fun j=>if j=18 then v else cv j) w':=fun v w' h=>by rw[hl1];exact h
     obtain⟨A1,c1,y1,hown,hbel⟩:=hJ;rw[y1]at e47;refine wp_val (v:=.agg (chkA f t (k:Int) (m:Int) A1 y c1)) (by go_simp) ⟨_,rfl,hK _ _ ⟨A1,c1,?_,hown,hbel⟩⟩;rw[HXE.out];simp
    ·have e1:=fr_cv (i:=18) (t:=48) h (hw 18 (by decide)) rfl rfl;have n1:=hn;have n2:=nW 20 19 hcl n1;have n3:=nW 21 20 hcl n2;have m1:=hw 18 (by decide);have hl:lvlN [21,20,19,18,17] (maskB [false,false,false,false,false,false,false,false,false,false,false,false,false,false,false,false,false,true,true,true,true,true] done)=2:=by simp[lvlN,maskB,n1,n2,n3,m1]
     have hl1:lvlN [21,20,19,18,17] (fun j=>if j=19 then true else maskB [false,false,false,false,false,false,false,false,false,false,false,false,false,false,false,false,false,true,true,true,true,true] done j)=3:=by simp[lvlN,maskB,n1,n2,n3,m1]
     rw[hl]at hJ;have hK:∀(v:Value) (w':World),ctJ wo base C acc.length cc (kChk.cells acc ds) (x.data.map bv) y (fun e=>kChk.cell x e) 3 (fun j=>if j=19 then v else cv j) w'->ctJ wo base C acc.length cc (kChk.cells acc ds) (x.data.map bv) y (fun e=>kChk.cell x e) (lvlN [21,20,19,18,17] (fun j=>if j=19 then true else maskB [false,false,false,false,false,false,false,false,false,false,false,false,false,false,false,false,false,true,true,true,true,true] done j)) (fun j=>if j=19 then v else cv j) w':=fun v w' h=>by rw[hl1];exact h
     obtain⟨A1,c1,y1,hown,hbel⟩:=hJ;rw[y1]at e1;rw[HXE.out]at e1;refine wp_sbc e1 ⟨_,rfl,hK _ _ ⟨A1,c1,wq,hown,hbel,by rw[HXE.out],by simp⟩⟩
    ·have e1:=fN 0 30 h hw;have e49:=fr_cv (i:=19) (t:=49) h (hw 19 (by decide)) rfl rfl;have n1:=hn;have n2:=nW 21 20 hcl n1;have m1:=hw 19 (by decide);have hl:lvlN [21,20,19,18,17] (maskB [false,false,false,false,false,false,false,false,false,false,false,false,false,false,false,false,false,true,true,true,true,true] done)=3:=by simp[lvlN,maskB,n1,n2,m1]
     have hl1:lvlN [21,20,19,18,17] (fun j=>if j=20 then true else maskB [false,false,false,false,false,false,false,false,false,false,false,false,false,false,false,false,false,true,true,true,true,true] done j)=4:=by simp[lvlN,maskB,n1,n2,m1]
     rw[hl]at hJ;have hK:∀(v:Value) (w':World),ctJ wo base C acc.length cc (kChk.cells acc ds) (x.data.map bv) y (fun e=>kChk.cell x e) 4 (fun j=>if j=20 then v else cv j) w'->ctJ wo base C acc.length cc (kChk.cells acc ds) (x.data.map bv) y (fun e=>kChk.cell x e) (lvlN [21,20,19,18,17] (fun j=>if j=20 then true else maskB [false,false,false,false,false,false,false,false,false,false,false,false,false,false,false,false,false,true,true,true,true,true] done j)) (fun j=>if j=20 then v else cv j) w':=fun v w' h=>by rw[hl1];exact h
     obtain⟨A1,c1,w1,hown,hbel,rfl,y1⟩:=hJ;rw[y1]at e49;refine wp_app _ (.tmp 30) (.tmp 49) 43 rfl elChunks base C acc.length cc (kChk.cells acc ds) (ch_ev e1) ((HR.out.row.below hbel).alloc _) (some ⟨w1.heap.size,0,none⟩) 1 1 (kChk.cell x (A1,c1)) (ch_ev e49) (src_blk (blk_top rfl)) (by simp[kChk]) (kChk.one _ _) (by omega) (by have:=hbel.size;simp;omega) ?_;intro A' c' w' hown1 hgr hbel1 hor;exact⟨_,rfl,hK _ _ (ctJ_app hown hbel hown1 hgr hbel1 hor (Nat.le_trans hbo hbel.size))⟩
    ·have e1:=fr_cv (i:=20) (t:=50) h (hw 20 (by decide)) rfl rfl;have n1:=hn;have m1:=hw 20 (by decide);have hl:lvlN [21,20,19,18,17] (maskB [false,false,false,false,false,false,false,false,false,false,false,false,false,false,false,false,false,true,true,true,true,true] done)=4:=by simp[lvlN,maskB,n1,m1]
     have hl1:lvlN [21,20,19,18,17] (fun j=>if j=21 then true else maskB [false,false,false,false,false,false,false,false,false,false,false,false,false,false,false,false,false,true,true,true,true,true] done j)=5:=by simp[lvlN,maskB,n1,m1]
     rw[hl]at hJ;have hK:∀(v:Value) (w':World),ctJ wo base C acc.length cc (kChk.cells acc ds) (x.data.map bv) y (fun e=>kChk.cell x e) 5 (fun j=>if j=21 then v else cv j) w'->ctJ wo base C acc.length cc (kChk.cells acc ds) (x.data.map bv) y (fun e=>kChk.cell x e) (lvlN [21,20,19,18,17] (fun j=>if j=21 then true else maskB [false,false,false,false,false,false,false,false,false,false,false,false,false,false,false,false,false,true,true,true,true,true] done j)) (fun j=>if j=21 then v else cv j) w':=fun v w' h=>by rw[hl1];exact h
     obtain⟨A1,c1,w1,A',c',hown,hbel,y1,r1,r2,r3,r4⟩:=hJ;rw[y1]at e1;exact wp_asg (ch_ev e1) ⟨_,rfl,hK _ _ ⟨A1,c1,w1,A',c',hown,hbel,by simp,r1,r2,r3,r4⟩⟩
   intro dn cv w1 hall hJ;rw[show lvlN [21,20,19,18,17] dn=5 by simp[lvlN,hall 21 rfl (by decide)]]at hJ;obtain⟨A1,c5,w1',A',c',hown,hbel,y1,r1,r2,r3,r4⟩:=hJ;simp only[freeAll,putAll_some,putAll_none,putAll_nil,List.getD_cons_zero,List.getD_cons_succ,Bool.false_eq_true,if_true,if_false,reduceIte,Nat.zero_add,Nat.reduceAdd,List.setIfInBounds_toArray,List.set_cons_zero,List.set_cons_succ];rw[y1];have hr1:GRow kChk w1' base acc ds C cc:=HR.out.below hbel;have hdb:x.data.length<=c5:=by rw[HY.out];exact hown.le
   have hblk:∀q,A1.map (·.block)=some q->wo.heap.size<=q:=fun q e=>(hown.block q e).1;have hr2:=hr1.push (o:=x) (d:=(A1,c5)) r1 r2 r3 r4 hown.src.bts hdb (fun _ q e e2=>by have h5:=hblk q e;have h6:=(HR.out.row.block q e2).2;omega);have HR1:=qH hr2;have HE1:Hid (Each kChk (acc++[x]) (ds++[(A1,c5)]) (fun q=>base<=q)):=qH (HE.out.push HR.out.len (fun _ q e=>by have h5:=hblk q e;omega));have HB1:Hid (Below base w2 w1):=qH ((HB.out.trans (hbel.mono hbo)).trans r2);have hwk:IntKind.i64.wrap ((k:Int)+1)=(k:Int)+1:=HW2.out;clear hown hbel y1 r1 r2 r3 r4 hr1 hdb hblk hr2;go_wp2_with fail;go_roundw
   case rel=>exact⟨k+1,acc++[x],ds++[(A1,c5)],A',c',by omega,by go_num,by simp,by rw[List.length_append,HAL.out];rfl,HNXT,HR1,HE1,HB1⟩
   case measure=>simp[intOf];omega
  obtain rfl:k=m:=by omega
  have dl:decide ((k:Int)<(k:Int))=false:=by simp
  have hz:acc=cs:=by rw[HAC.out,List.take_of_length_le (by rw[HCL1.out];exact nl)]
  have HZ:=qH hz;clear hz hal;go_wp2_with fail;go_ret2;rw[<-HZ.out];exact⟨C,cc,ds,rfl,HR.out.mono (by rw[HGE.out];omega),HE.out.imp (fun q hq=>by rw[HGE.out];omega),by rw[HGE.out];exact HB1.out.trans (HB.out.mono (by omega))⟩
theorem chkCut_calls(B:OA)(d:Nat)(p:Pat)(w:World)(hp:PatIn w p B d):
  Calls Try.prog 33 #[.agg (patA p.from_ p.to_ p.old p.new_ p.size B p.ops.length d)] w (ChkRet2 w (chkCut p).1 (chkCut p).2):=by
 unfold chkCut;by_cases h:patCheck p=0
 ·obtain⟨h1,h2⟩:=packed_patch_len h;rw[if_neg (by simpa using h),if_neg (by omega)];exact chkCut_fine B d p w hp h
 rw[if_pos h];exact chkCut_bad B d p w hp h
def ctC:Chk:=⟨1,2,0,1,packed (patBytes ptP)⟩
def ctD:Chk:=⟨1,2,0,1,[1,2]⟩
theorem ct_cut:chkCut ptP=([ctC],0):=by decide+kernel
theorem ct_len:ctC.data.length=16:=by decide+kernel
theorem ct_head:ctC.data[0]?=some 15:=by decide+kernel
theorem ct_list:chkList [ctC]=0:=by decide+kernel
theorem ct_join:chkJoin [ctC]=(ptP,0):=by decide+kernel
theorem ct_none:chkJoin []=(Pat.zero,5):=by decide+kernel
theorem ct_add:chkAdd [] ctD=([ctD],0):=by decide+kernel
theorem GRow.chs{l:List Chk}{ds:List (Option Addr×Nat)}{A:OA}(h:GRow kChk w base l ds A c)(hb:∀x∈l,ChkB x):Chs w A l:=h.src.chs hb
theorem cut_calls(W:World)(hml:ML W):Calls Try.prog 34 #[] W (RetB W (.bool true)):=by
 have HML:=qH hml;clear hml;have K1:Hid (∀(g h:Nat) w,ML w->Bts w (some ⟨g,0,none⟩) ptOld->Bts w (some ⟨h,0,none⟩) ptNew->Calls Try.prog 26 #[iv 1,iv 2,.slice (some ⟨g,0,none⟩) 8 8,.slice (some ⟨h,0,none⟩) 9 9] w (PaRet w ptP 0)):=qH fun g h w hm h1 h2=>by
  have:=refMade_calls (some ⟨g,0,none⟩) (some ⟨h,0,none⟩) 8 9 1 2 ptOld ptNew w hm (by decide) (by decide) ⟨by decide,by decide⟩ ⟨by decide,by decide⟩ (by decide) (by decide) h1 h2;rwa [pt_make.1]at this
 have K2:Hid (∀B d w,PatIn w ptP B d->Calls Try.prog 33 #[.agg (patA ptP.from_ ptP.to_ ptP.old ptP.new_ ptP.size B ptP.ops.length d)] w (ChkRet2 w [ctC] 0)):=qH fun B d w h=>by
  have:=chkCut_calls B d ptP w h;rwa [ct_cut]at this
 have K3:Hid (∀A c w,Chs w A [ctC]->Calls Try.prog 37 #[.slice A 1 c] w (PaRet w ptP 0)):=qH fun A c w h=>by
  have:=chkJoin_calls A c [ctC] w (by decide) h;rwa [ct_join]at this
 have K4:Hid (∀w,Calls Try.prog 37 #[.slice none 0 0] w (PaRet w Pat.zero 5)):=qH fun w=>by
  have:=chkJoin_calls none 0 [] w (by decide) (Chs.nil _ _);rwa [ct_none]at this
 have K5:Hid (∀g w,Bts w (some ⟨g,0,none⟩) [1,2]->Calls Try.prog 36 #[.slice none 0 0,.agg (chkA 1 2 0 1 (some ⟨g,0,none⟩) 2 2)] w (ChkRet2 w [ctD] 0)):=qH fun g w h=>by
  have:=chkAdd_calls none (some ⟨g,0,none⟩) 0 2 [] ctD w (by decide) (Chs.nil _ _) ⟨by decide,by decide,h,⟨by decide,by decide⟩,⟨by decide,by decide⟩,⟨by decide,by decide⟩,⟨by decide,by decide⟩⟩;rwa [ct_add]at this
 have K6:Hid (∀A B c d w,PatIn w ptP A c->PatIn w ptP B d->Calls Try.prog 31 #[.agg (patA ptP.from_ ptP.to_ ptP.old ptP.new_ ptP.size A ptP.ops.length c),.agg (patA ptP.from_ ptP.to_ ptP.old ptP.new_ ptP.size B ptP.ops.length d)] w (RetB w (.bool true))):=qH fun A B c d w h1 h2=>by
  have:=patSame_calls A B c d ptP ptP w h1 h2;rwa [show decide (ptP=ptP)=true by simp]at this
 have K7:Hid (∀A c w,Chs w A [ctC]->Calls Try.prog 40 #[.slice A 1 c] w (RetB w (iv 0))):=qH fun A c w h=>by
  have:=chkList_calls A c [ctC] w (by decide) h;rwa [ct_list]at this
 have HB1':Hid (∀x∈[ctC],ChkB x):=qH (fun x hx=>by
  rw[List.mem_singleton.1 hx];exact⟨by rw[ct_len];decide,⟨by decide,by decide⟩,⟨by decide,by decide⟩,⟨by decide,by decide⟩,⟨by decide,by decide⟩⟩)
 have HLN:=qH ct_len;have HHD:=qH ct_head;generalize ctC=ch at *
 generalize ptP=p at *
 have kc:=convert_const (P:=Try.prog) 22 5 Try.underlying22 Try.underlying5;go_enter Try.func34,Try.ntmps34;go_wp2_with fail;refine(K1.out _ _ _ (HML.out.stays ((bL _).alloc (by simp) _)) ?_ ?_).mono ?_
 ·exact bts_ex ⟨_,_,_,blk_old (blk_top rfl),rfl⟩
 ·exact bts_ex ⟨_,_,_,blk_top (by simp),rfl⟩
 rintro e w1 ⟨A1,c1,rfl,hp1,hb1⟩;have HP1:=qH hp1.now;have HB1:Hid (Below W.heap.size W w1):=qH (((bL _).alloc (by simp) _).trans (hb1.mono (by simp<;>omega)));clear hp1 hb1 kc;go_wp2_with fail;refine(K2.out _ _ _ (HP1.out.stays (by repeat (first|exact Below.refl _ _|refine bA ?_ _)))).mono ?_;rintro e w2 ⟨A2,c2,ds1,rfl,hg,hn,hb⟩;have a2:=kp (w1.heap.size) (patA p.from_ p.to_ p.old p.new_ p.size A1 p.ops.length c1) hb;have hbx:Below w1.heap.size w1 w2:=Below.trans (by repeat (first|exact Below.refl _ _|refine bA ?_ _)) (hb.mono (by first|omega|(simp<;>omega)));have HB2:=bT HB1 hbx;have HP2:=qH (HP1.out.stays hbx);have HC1:=qH (hg.chs HB1'.out);clear hg hn;clear hb hbx;go_wp2_with fail;refine(K3.out _ _ _ (HC1.out.stays (by repeat (first|exact Below.refl _ _|refine bA ?_ _)))).mono ?_;rintro e w3 ⟨A3,c3,rfl,hq,hb⟩;have a2:=kr a2 hb;have hbx:Below w2.heap.size w2 w3:=Below.trans (by repeat (first|exact Below.refl _ _|refine bA ?_ _)) (hb.mono (by first|omega|(simp<;>omega)));have HB3:=bT HB2 hbx;have HP3:=qH (HP2.out.stays hbx);have HC2:=qH (HC1.out.stays hbx);have HQ1:=qH hq.now;clear hq;clear hb hbx;go_wp2_with fail;refine(K4.out _).mono ?_;rintro e w4 ⟨A4,c4,rfl,hq,hb⟩;have a2:=kr a2 hb;have a1:=kp (w3.heap.size) (patA p.from_ p.to_ p.old p.new_ p.size A3 p.ops.length c3) hb;have hbx:Below w3.heap.size w3 w4:=Below.trans (by repeat (first|exact Below.refl _ _|refine bA ?_ _)) (hb.mono (by first|omega|(simp<;>omega)));have HB4:=bT HB3 hbx;have HP4:=qH (HP3.out.stays hbx);have HC3:=qH (HC2.out.stays hbx);have HQ2:=qH (HQ1.out.stays hbx);clear hq;clear hb hbx;go_wp2_with fail;refine(K5.out _ _ (bts_ex ⟨_,_,_,blk_top (by simp),rfl⟩)).mono ?_;rintro e w5 ⟨A5,c5,ds2,rfl,hg,hn,hb⟩;have nq1:¬w1.heap.size=w4.heap.size+1:=by omega
 have nq2:¬w3.heap.size=w4.heap.size+1:=by omega
 have a2:=kr a2 hb;have a1:=kr a1 hb;have hbx:Below w4.heap.size w4 w5:=Below.trans (by repeat (first|exact Below.refl _ _|refine bA ?_ _)) (hb.mono (by first|omega|(simp<;>omega)));have HB5:=bT HB4 hbx;have HP5:=qH (HP4.out.stays hbx);have HC4:=qH (HC3.out.stays hbx);have HQ3:=qH (HQ2.out.stays hbx);clear hg hn;clear hb hbx;obtain⟨bb,oo,D,dd,rfl,hbl,⟨e5,e1,e2,e3,e4⟩,hin⟩:=HC4.out.chk (i:=0) (by simp);simp only[List.getElem_cons_zero,Nat.zero_mul,Nat.add_zero]at e5 e1 e2 e3 e4 hin;rw[HLN.out]at e4;obtain⟨b1,o1,rfl,hb1,hc1⟩:=hin.data 0 (by rw[HLN.out];decide);have hx1:ch.data[0]'(by rw[HLN.out];decide)=15:=by
  have:=HHD.out;rw[List.getElem?_eq_getElem (by rw[HLN.out];decide)]at this;injection this
 rw[hx1,Nat.add_zero]at hc1;clear hx1 hin;clear HHD HLN HB1' K1 K2 K3 K4 K5;go_wp2_with fail;refine(K6.out _ _ _ _ _ HP5.out HQ3.out).mono ?_;rintro e w6 ⟨rfl,hb⟩;have HB6:=bT HB5 hb;have HC5:=qH (HC4.out.stays hb);clear hb;go_wp2_with fail;refine(K7.out _ _ _ HC5.out).mono ?_;rintro e w7 ⟨rfl,hb⟩;have HB7:=bT HB6 hb;clear hb;go_wp2_with fail;go_ret;exact⟨rfl,HB7.out⟩
theorem x014(h:Y:=by
 have HB1:=bT HB hb;clear hb;go_wp2_with fail;go_ret;exact⟨ret_bool HZ.out,HB1.out⟩):Y:=h
theorem x1zk(h:Y:=by
 have hbx:Below w2.heap.size w2 w3:=Below.trans (by repeat (first|exact Below.refl _ _|refine bA ?_ _)) (hb.mono (by first|omega|(simp<;>omega)));have HB3:=bT HB2 hbx;clear hb hbx;go_wp2_with fail;go_ret;refine⟨ret_bool (by simp),?_⟩;exact bZ HB3):Y:=h
theorem chk_eq_iff{x y:Chk}:x=y↔kin x y∧x.n=y.n∧x.data=y.data:=by
 obtain⟨f,t,n,o,l⟩:=x;obtain⟨f1,t1,n1,o1,l1⟩:=y;unfold kin;simp only[Chk.mk.injEq];constructor
 ·rintro⟨h1,h2,h3,h4,h5⟩;exact⟨⟨h1,h2,h4⟩,h3,h5⟩
 rintro⟨⟨h1,h2,h4⟩,h3,h5⟩;exact⟨h1,h2,h3,h4,h5⟩
theorem kinX_calls(A B:OA)(c d:Nat)(x y:Chk)(w:World):
  Calls Try.prog 102 #[.agg (chkA x.from_ x.to_ x.n x.of_ A x.data.length c),.agg (chkA y.from_ y.to_ y.n y.of_ B y.data.length d)] w (RetB w (.bool (decide (kin x y)))):=
 kin_calls A B c d x.data.length y.data.length x.from_ x.to_ x.n x.of_ y.from_ y.to_ y.n y.of_ x.data y.data w
theorem chkSame1_calls(x y:Chk)(B D:OA)(c d:Nat)(w:World)(hx:ChkIn w x B c)(hy:ChkIn w y D d):
  Calls Try.prog 106 #[.agg (chkA x.from_ x.to_ x.n x.of_ B x.data.length c),.agg (chkA y.from_ y.to_ y.n y.of_ D y.data.length d)] w (RetB w (.bool (decide (x=y)))):=by
 have bl:=((bW w).alloc nl (.cells (chkA x.from_ x.to_ x.n x.of_ B x.data.length c) 49)).alloc (by simp) (.cells (chkA y.from_ y.to_ y.n y.of_ D y.data.length d) 49);have hl:=hx.len;have hl1:=hy.len;have HB:=qH bl;have HK:=qH (fun w=>kinX_calls B D c d x y w);obtain⟨r,hr⟩:=eX (decide (x=y));rw[hr];have hr1:decide (kin x y∧x.n=y.n∧x.data=y.data)=r:=by
  rw[<-hr];exact decide_eq_decide.2 chk_eq_iff.symm
 have HR:=qH hr1;have HC:=qH (fun w h1 h2=>equalBytes_calls B D c d x.data y.data w hl hl1 h1 h2);have HX:=qH hx;have HY:=qH hy;clear hx hy bl hr hr1;by_cases hk:kin x y
 ·have dk:decide (kin x y)=true:=decide_eq_true hk;have HKK:=qH hk;clear hk;by_cases hn:x.n=y.n
  ·have hz:decide (x.data=y.data)=r:=by
    rw[<-HR.out];by_cases e:x.data=y.data
    ·rw[decide_eq_true e,decide_eq_true ⟨HKK.out,hn,e⟩]
    rw[decide_eq_false e,decide_eq_false (fun h=>e h.2.2)]
   have HZ:=qH hz;have q:(x.n==y.n)=true:=by simp[hn]
   clear hn hz;go_enter Try.func106,Try.ntmps106;go_wp2_with fail;refine(HK.out _).mono ?_;rintro e w1 ⟨rfl,hb⟩;have a2:=kp (w.heap.size) (chkA x.from_ x.to_ x.n x.of_ B x.data.length c) hb;have a1:=kp (w.heap.size+1) (chkA y.from_ y.to_ y.n y.of_ D y.data.length d) hb;have HB1:=bT HB hb;clear hb;go_wp2_with fail;refine(HC.out _ (HX.out.data.stays HB1.out) (HY.out.data.stays HB1.out)).mono ?_;rintro e w2 ⟨rfl,n,rfl⟩;go_wp2_with fail;go_ret;exact⟨ret_bool HZ.out,Below.drewN' HB1.out n⟩
  have hz:false=r:=by rw[<-HR.out,decide_eq_false (fun h=>hn h.2.1)]
  have HZ:=qH hz;have q:(x.n==y.n)=false:=by simp[hn]
  clear hn hz;go_enter Try.func106,Try.ntmps106;go_wp2_with fail;refine(HK.out _).mono ?_;rintro e w1 ⟨rfl,hb⟩;have a2:=kp (w.heap.size) (chkA x.from_ x.to_ x.n x.of_ B x.data.length c) hb;have a1:=kp (w.heap.size+1) (chkA y.from_ y.to_ y.n y.of_ D y.data.length d) hb;exact x014
 have dk:decide (kin x y)=false:=decide_eq_false hk;have hz:false=r:=by rw[<-HR.out,decide_eq_false (fun h=>hk h.1)]
 have HZ:=qH hz;clear hk hz;go_enter Try.func106,Try.ntmps106;go_wp2_with fail;refine(HK.out _).mono ?_;rintro e w1 ⟨rfl,hb⟩;exact x014
theorem chkSame_eqf(A B:OA)(c d:Nat)(l m:List Chk)(w:World)(hl:l.length<=2513169434843)(hm:m.length<=2513169434843)(ha:Chs w A l)(hb:Chs w B m):
  Calls Try.prog 105 #[.slice A l.length c,.slice B m.length d,.func (Fn.func 106) #[] #[]] w (RetB w (.bool (decide (l=m)))):=by
 by_cases hne:l.length=m.length
 ·have hdl:((l.length:Int) !=(m.length:Int))=false:=by simp[hne]
  have HE:=qH hne;have hm1:l.length<=m.length:=by omega
  have hm2:m.length<=l.length:=by omega
  clear hne;go_enter Try.func105,Try.ntmps105;go_wp2_with fail;go_loopw [17] (fun i wr=>∃k:Nat,k<=l.length∧i=iv k∧Hid (l.take k=m.take k)∧Hid (Below w.heap.size w wr)) (fun i _=>l.length-(intOf i).toNat)
  case atStart=>exact⟨0,Nat.zero_le _,rfl,qH rfl,qH (Below.refl _ _)⟩
  case round=>
   obtain⟨k,hk,rfl,HT,HB⟩:=hrel;by_cases hlt:k<l.length
   ·obtain⟨b1,o1,B1,c1,rfl,hs1,p6,p1,p2,p3,p4,p5⟩:=(ha.stays HB.out).at_ hlt;obtain⟨b2,o2,B2,c2,rfl,hs2,r6,r1,r2,r3,r4,r5⟩:=(hb.stays HB.out).at_ (i:=k) (by omega);have hsz:=HB.out.size;have HX:Hid (∀e:l[k]=m[k]'(by omega),l.take (k+1)=m.take (k+1)):=qH fun e=>take_eq_succ HT.out hlt (by omega) e;have HN:Hid (∀e:l[k]≠m[k]'(by omega),l≠m):=qH fun e=>ne_of_at hlt (by omega) e;generalize l[k]=x at *
    generalize m[k]'(by omega)=y at *
    have hsb:=fun w2 (h:Below wr.heap.size wr w2)=>chkSame1_calls x y B1 B2 c1 c2 w2 (p5.stays h) (r5.stays h);have HC:=qH hsb;clear hsb p5 r5;go_wp2_with fail;refine(HC.out _ ?_).mono ?_
    ·exact x9o6
    rintro e w1 ⟨rfl,hb1⟩;have HB1:Hid (Below w.heap.size w w1):=by
     exact x7ta
    clear hb1;exact x6ww
   exact x99v
 exact x8mq
theorem chkSame_calls(A B:OA)(c d:Nat)(l m:List Chk)(w:World)(hl:l.length<=2513169434843)(hm:m.length<=2513169434843)(ha:Chs w A l)(hb:Chs w B m):
  Calls Try.prog 39 #[.slice A l.length c,.slice B m.length d] w (RetB w (.bool (decide (l=m)))):=by
 go_enter Try.func39,Try.ntmps39;go_wp2_with fail;refine(chkSame_eqf A B c d l m w hl hm ha hb).mono ?_;exact x3rf
end Go.Proofs.Ytefkfglkpebbmac
