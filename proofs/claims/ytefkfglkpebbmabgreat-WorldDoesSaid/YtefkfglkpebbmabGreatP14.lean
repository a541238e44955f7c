/- Walks. No conditions. -/
import Derived.Test.YtefkfglkpebbmabGreatPE3
import Derived.Test.YtefkfglkpebbmabGreatP5
set_option linter.all false
set_option maxRecDepth 100000
set_option maxHeartbeats 0
namespace Go.Proofs.YtefkfglkpebbmabGreat
open Go.RowKit
variable {Y:Prop}
variable {w w' w0:World} {base n c g k:Nat} {A:OA} {xs ns:List Value} {cv:Nat->Value} {a:Act} {K:Act->World->Prop} {Q:Exit->Act->World->Prop} {t:TypeId} {p:String} {af:Array Edge} {gd:Option (Nat×Bool)}
theorem x0p8(h:Y:=by
 intro done cv k a wq hw h hJ hn;have e1:=mx_new (i:=0) (t:=64) h (hw 0 (by decide)) rfl rfl rfl;have e65:=mx_new (i:=1) (t:=65) h (hw 1 (by decide)) rfl rfl rfl;go_simp):Y:=h
theorem x0s2(h:Y:=by
 intro done cv k a wq hw h hJ hn;have e1:=mx_new (i:=4) (t:=68) h (hw 4 (by decide)) rfl rfl rfl;go_simp):Y:=h
theorem x1by(h:Y:=by
 intro done cv k a wq hw h hJ hn;have e1:=mx_new (i:=5) (t:=69) h (hw 5 (by decide)) rfl rfl rfl;have hk:=hn 12 _ 1 rfl rfl (by decide);have hc:=diffJ_cell2 hk hJ kc2 kg2;go_simp):Y:=h
theorem x1jt(h:Y:=by
 intro done cv k a wq hw h hJ hn;have e1:=mx_old (t:=7) (v:=.int .i64 (i:Int)) h rfl rfl;exact mx_move (ch_ev e1)):Y:=h
theorem x22o(h:Y:=by
 intro done cv k a wq hw h hJ hn;have e1:=mx_new (i:=13) (t:=77) h (hw 13 (by decide)) rfl rfl rfl;go_simp):Y:=h
theorem x2v0(h:Y:=by
 have kf1:wq.frozen? ⟨g2,l.length*3+2,none⟩=false:=by
  have:=KFZ.out (l.length*3+2);unfold World.frozen? at this⊢;rw[hkk];exact this
 have HD1:=HDc.out.below (((Below.refl w1.heap.size w1).drew).alloc (Nat.le_refl _) (.cells #[bv b[i]] 5));have HDn:=HD1.add hown hgr hor;have HBn:Below w.heap.size w wq:=(HBc.out.drew.alloc hsz1 _).trans hbel;exact wp_stb e1 e76 kc1 kf1 ⟨undef,rfl,B',c',HDn,HBn.setCell kg1 _⟩):Y:=h
theorem x2wx(h:Y:=by
 intro done cv k a wq hw h hJ hn;have e1:=mx_new (i:=7) (t:=71) h (hw 7 (by decide)) rfl rfl rfl;have e72:=mx_new (i:=8) (t:=72) h (hw 8 (by decide)) rfl rfl rfl;go_simp):Y:=h
theorem x49r(h:Y:=by
 intro done cv k a wq hw h hJ hn;have e1:=mx_old (t:=6) (v:=.slice (some ⟨g2,0,none⟩) (l.length+1) cc1) h rfl rfl;exact mx_move (ch_ev e1)):Y:=h
theorem x4cb(h:Y:=by
 intro done cv k a wq hw h hJ hn;have e1:=mx_new (i:=9) (t:=73) h (hw 9 (by decide)) rfl rfl rfl;have hk:=hn 11 _ 0 rfl rfl (by decide);obtain rfl:k=0:=by omega
 obtain rfl:wq=w1.drew:=hJ;go_simp):Y:=h
theorem x5i6(h:Y:=by
 intro B' c' w1 hown hgr hbel hor;exact⟨_,rfl,B',c',by simp,hown,hgr,hbel,hor⟩):Y:=h
theorem x5qp(h:Y:=by
 intro done cv k a wq hw h hJ hn;have e1:=mx_old (t:=6) (v:=.slice (some ⟨g,0,none⟩) (l1.length+1) cc) h rfl rfl;exact mx_move (ch_ev e1)):Y:=h
theorem x5y2(h:Y:=by
 have hl:=blk_far HD1.out.row hgr (bb:=bb) hbw (by have:=HB1.out.size;omega);exact(World.cell?_of_block hl).trans HBB.out):Y:=h
theorem x6w3(h:Y:=by
 rintro cv w1 ⟨B',c',HDn',HBn'⟩;have HDn:=qH HDn';have HBn:=qH HBn';clear HDn' HBn' kc2 kg1 kg2 hbx';simp only[mixAll,putAll_some,putAll_none,putAll_nil,List.getElem?_cons_zero,List.getElem?_cons_succ,Nat.zero_add,Nat.reduceAdd,List.setIfInBounds_toArray,List.set_cons_zero,List.set_cons_succ];go_wp2_with fail;go_roundw
 case rel=>
  have hget:b.getD i 0=b[i]:=by rw[List.getD_eq_getElem?_getD,List.getElem?_eq_getElem hlt];rfl
  refine⟨q+1,some ⟨g2,0,none⟩,cc1,ds++[(B',c')],by rw[HQ.out];go_num,by rw[HQ.out];simp,?_,HBn⟩;rw[HQ.out,hget];exact HDn.out
 case measure=>simp[intOf];omega):Y:=h
theorem x75y(h:Y:=by
 intro done cv a wq hw h hJ;have e1:=mx_new (i:=10) (t:=74) h (hw 10 (by decide)) rfl rfl rfl;obtain rfl:wq=w1.drew:=hJ;exact wp_slb e1 ⟨_,rfl,rfl,by simp⟩):Y:=h
theorem x7ji(h:Y:=by
 intro done cv k a wq hw h hJ hn;have e1:=mx_old (t:=12) (v:=.int .i64 (l.length:Int)) h rfl rfl;exact mx_move (ch_ev e1)):Y:=h
theorem x97z(h:Y:=by
 intro done cv k a wq hw h hJ hn;have e1:=mx_new (i:=2) (t:=66) h (hw 2 (by decide)) rfl rfl rfl;have e67:=mx_new (i:=3) (t:=67) h (hw 3 (by decide)) rfl rfl rfl;go_simp):Y:=h
theorem x98c(h:Y:=by
 intro done cv k a wq hw h hJ hn;have e1:=mx_old (t:=1) (v:=.slice (some ⟨bb,bo,none⟩) b.length d) h rfl rfl;exact mx_move (ch_ev e1)):Y:=h
theorem x9eh(h:Y:=by
 rw[((Below.refl (wr.drewN nd).heap.size (wr.drewN nd)).alloc (Nat.le_refl _) (.cells #[iv 0,iv 0,.slice none 0 0] 145)).cell (p:=⟨bb,bo+i,none⟩) hbs];exact hbx'):Y:=h
theorem x9y2(h:Y:=by
 intro done cv k a wq hw h hJ hn;have e1:=mx_old (t:=12) (v:=.int .i64 (l1.length:Int)) h rfl rfl;exact mx_move (ch_ev e1)):Y:=h
theorem blk_far{e size:Nat}(h:Own w base e size A n c xs)(hg:w.grownBy w' (A.map (·.block))){bb:Nat}(hb:bb<base)(hw:base<=w.heap.size):w'.heap[bb]?=w.heap[bb]?:=by
 refine hg.block bb (by omega) ?_;intro e;have:=(h.block bb e.symm).1;omega
def diffJ(w0 w2:World)(l0:List Stp)(o:Stp)(ds0:List (Option Addr×Nat))(d0:Option Addr×Nat)(g cc:Nat)(x:UInt8):Nat->(Nat->Value)->World->Prop
 |0,_,w=>w=w2.drew
 |1,cv,w=>w=w2.drew.alloc (.cells #[bv x] 5)∧cv 11=.slice (some ⟨w2.heap.size,0,none⟩) 1 1
 |2,cv,w=>∃B' c',cv 12=.slice B' (o.data.length+1) c'∧Own w w0.heap.size 5 1 B' (o.data.length+1) c' (o.data.map bv++[bv x])∧(w2.drew.alloc (.cells #[bv x] 5)).grownBy w (d0.1.map (·.block))∧Below w0.heap.size (w2.drew.alloc (.cells #[bv x] 5)) w∧
  (B'.map (·.block)=d0.1.map (·.block)∨B'.map (·.block)=some (w2.drew.alloc (.cells #[bv x] 5)).heap.size)
 |_,_,w=>∃B' c',DRow w w0.heap.size (l0++[⟨o.at_,o.len,o.data++[x]⟩]) (ds0++[(B',c')]) (some ⟨g,0,none⟩) cc∧Below w0.heap.size w0 w
theorem diffJ_cell2{w2:World}{l0:List Stp}{o:Stp}{ds0:List (Option Addr×Nat)}{d0:Option Addr×Nat}{cc:Nat}{x:UInt8}(hk:k<=1)(h:diffJ w0 w2 l0 o ds0 d0 g cc x k cv w){j:Nat}{v:Value}(hc:w2.cell? ⟨g,j,none⟩=some v)(hg:g<w2.heap.size):w.cell? ⟨g,j,none⟩=some v:=by
 match k,hk,h with
 |0,_,h=>obtain rfl:w=w2.drew:=h;exact hc
 |1,_,⟨h,_⟩=>rw[h,(((Below.refl w2.heap.size w2).drew).alloc (Nat.le_refl _) _).cell (p:=⟨g,j,none⟩) hg];exact hc
theorem wp_slb{d s:Tmp}{n:UInt8}(hs:a.tmps[s]?=some (bv n))
  (h:K (a.put (some d) (.slice (some ⟨w.heap.size,0,none⟩) 1 1)) (w.alloc (.cells #[bv n] 5))):
  Oper.wp Tryz.prog ⟨some d,.buildSlice 23 1 #[(0,.tmp s)],t,p,af,gd⟩ a w K Q:=by
 exact x9jn
theorem wp_stb{x y:Tmp}{j:Nat}{B:OA}{u:Value}(hx:a.tmps[x]?=some (.pointer (some ⟨g,j,none⟩)))(hy:a.tmps[y]?=some (.slice B n c))
  (hc:w.cell? ⟨g,j,none⟩=some u) (hf:w.frozen? ⟨g,j,none⟩=false) (h:K a (w.setCell ⟨g,j,none⟩ (.slice B n c))):
  Oper.wp Tryz.prog ⟨none,.store 23 (.tmp x) (.tmp y),t,p,af,gd⟩ a w K Q:=by
 exact x7jp
theorem addByte_last(l:List Stp)(o:Stp)(x:UInt8)(h:¬0<o.len):addByte (l++[o]) x=l++[⟨o.at_,o.len,o.data++[x]⟩]:=by rw[addByte_snoc,if_neg h]
theorem addByte_new(l:List Stp)(o:Stp)(x:UInt8)(h:0<o.len):addByte (l++[o]) x=(l++[o])++[⟨0,0,[]++[x]⟩]:=by rw[addByte_snoc,if_pos h];simp
theorem drow_cell{l:List Stp}{o:Stp}{ds:List (Option Addr×Nat)}(h:DRow w base (l++[o]) ds (some ⟨g,0,none⟩) c):∃ds0 d,ds=ds0++[d]∧ds0.length=l.length∧
  w.cell? ⟨g,l.length*3,none⟩=some (iv o.at_)∧w.cell? ⟨g,l.length*3+1,none⟩=some (iv o.len)∧w.cell? ⟨g,l.length*3+2,none⟩=some (.slice d.1 o.data.length d.2)∧(∀j,w.frozen? ⟨g,j,none⟩=false)∧Own w base 5 1 d.1 o.data.length d.2 (o.data.map bv):=by
 have hne:ds≠[]:=by intro e;have:=h.len;rw[e]at this;simp at this
 obtain⟨ds1,d,rfl⟩:=snoc_of ds hne;have hl:ds1.length=l.length:=by have:=h.len;simpa using this
 have hd:(ds1++[d])[l.length]?=some d:=by rw[<-hl];simp
 have hc:∀j,j<3->w.cell? ⟨g,l.length*3+j,none⟩=(opCell o d)[j]?:=fun j hj=>by
  rw[h.row.cellAt _ (by simp;omega)];exact opCells_at _ _ h.len l.length j o d (by simp) hd hj
 exact⟨ds1,d,rfl,hl,hc 0 (by omega),hc 1 (by omega),hc 2 (by omega),fun j=>h.row.frozenAt j,h.data l.length o d (by simp) hd⟩
theorem diff3_calls(A B:OA)(c d:Nat)(old b:LU)(w:World)(ho:old.length<=64)(hb:b.length<=64)(hA:Bts w A old)(hB:Bts w B b):
  Calls Tryz.prog 129 #[.slice A old.length c,.slice B b.length d] w (OpRet3 w (diffed old b) 0):=by
 have h1:¬(64:Int)<(old.length:Int):=by omega
 have h2:¬(64:Int)<(b.length:Int):=by omega
 go_enter Tryz.func129,Tryz.ntmps129;go_wp2_with fail;go_loopw [6,7] (fun v i wr=>∃(q:Nat) (C:OA) (cc:Nat) (ds:List (Option Addr×Nat)),i=.int .i64 ((diffN old b q).1:Int)∧v=.slice C (diffN old b q).2.length cc∧DRow wr w.heap.size (diffN old b q).2 ds C cc∧Hid (Below w.heap.size w wr)) (fun _ i _=>b.length-(intOf i).toNat)
 case atStart=>exact⟨0,none,0,[],rfl,rfl,DRow.nil _ _,qH (Below.refl _ _)⟩
 case round=>
  obtain⟨q,C,cc,ds,rfl,rfl,hD,HB⟩:=hrel;have hinv:=diffN_inv old b q;have hle:=hinv.le;have hsz:=HB.out.size;by_cases hlt:(diffN old b q).1<b.length
  ·have hlen:(diffN old b q).2.length<=64:=by
    have:=diffN_len old b q;have:=diffN_mono old b q hlt;omega
   have hlong:=fun h4=>diffStep_long (old:=old) (b:=b) hlt h4;have hbyte:=fun h4=>diffStep_byte (old:=old) (b:=b) hlt h4;have hM:∀o∈(diffN old b q).2,o.data.length<=64:=fun o ho=>by
    have h1:=data_le old _ o ho;rw[hinv.gives]at h1;simp at h1;omega
   have HM:=qH hM;clear hM;have hst:diffN old b (q+1)=diffStep old b (diffN old b q):=rfl;have hin:=longest_in old b (diffN old b q).1;have hcl:=fun wq h1 h2=>longest_calls A B c d old b wq (diffN old b q).1 ho hb hle h1 h2;rw[<-hst]at hlong hbyte;clear hst hinv;generalize diffN old b q=p at *
   obtain⟨i,l⟩:=p;dsimp only at *
   generalize longest old b i=lg at *
   obtain⟨wh,m⟩:=lg;dsimp only at *
   have HL:=qH hlong;have HY:=qH hbyte;have HK:=qH hcl;have HD:=qH hD;have hA':=hA.stays HB.out;have hB':=hB.stays HB.out;obtain⟨hi1,hi2⟩:=hin;clear hlong hbyte hcl hD;obtain⟨bb,bo,rfl,hbw,hbx1⟩:=hB i hlt;have hbx:wr.cell? ⟨bb,bo+i,none⟩=some (bv b[i]):=(HB.out.cell (p:=⟨bb,bo+i,none⟩) hbw).trans hbx1;have hbs:bb<wr.heap.size:=Nat.lt_of_lt_of_le hbw hsz;go_wp2_with fail;refine(HK.out _ hA' hB').mono ?_;rintro e w1 ⟨rfl,nd,rfl⟩;clear hA' hB';by_cases h1:4<=m
   ·have h4':(4:Int)<=(m:Int):=by omega
    have HP:=qH (HL.out h1);have hb1:Below w.heap.size w (((wr.drewN nd)).alloc (.cells #[iv wh,iv m,.slice none 0 0] 145)):=(Below.drewN' HB.out nd).alloc hsz _;have hD1:=(HD.out.drewN nd).below ((Below.refl (wr.drewN nd).heap.size (wr.drewN nd)).alloc (Nat.le_refl _) (.cells #[iv wh,iv m,.slice none 0 0] 145));have HB2:=qH hb1;have HD2:=qH hD1;clear hb1 hD1;go_wp2_with (at_builtin;go_must (refine wpList_app _ rfl (.tmp 35) (.tmp 39) 34 rfl elOps w.heap.size C l.length cc (opCells l ds) rfl HD2.out.row (some ⟨wr.heap.size,0,none⟩) 1 1 [iv wh,iv m,.slice none 0 0] rfl (src_blk (blk_top (by simp))) rfl (by simp[Value.oneCell']) (by omega) (by simp;omega) ?_));intro C' cc' w' hown hgr hbel hor;have HD1:=qH (HD2.out.push hown hgr (by simpa using hor));have HB1:Hid (Below w.heap.size w w'):=qH (HB2.out.trans hbel);clear hown hgr hbel hor;go_wp2_with fail;go_roundw
    case rel=>exact⟨q+1,C',cc',_,by rw[HP.out];go_num,by rw[HP.out];simp,by rw[HP.out];exact HD1.out,HB1⟩
    case measure=>simp[intOf];omega
   have h4':¬(4:Int)<=(m:Int):=by omega
   have HP:=qH (HY.out h1);clear HL HY;have hbx':(wr.drewN nd).cell? ⟨bb,bo+i,none⟩=some (bv b[i]):=hbx;by_cases hl2:l=[]
   ·obtain⟨o,ho1⟩:∃o:Stp,o=⟨0,0,[]⟩:=⟨_,rfl⟩;have HQ:Hid (diffN old b (q+1)=(i+1,l++[⟨o.at_,o.len,o.data++[b.getD i 0]⟩])):=by
     rw[ho1];rw[hl2]at HP⊢;exact HP.out
    have hl1:(l.length:Int)-1<0:=by rw[hl2];simp
    have hod:o.data.length<=64:=by rw[ho1];simp
    clear HP hl2;have hb1:Below w.heap.size w (((wr.drewN nd)).alloc (.cells #[iv 0,iv 0,.slice none 0 0] 145)):=(Below.drewN' HB.out nd).alloc hsz _;have hD1:=(HD.out.drewN nd).below ((Below.refl (wr.drewN nd).heap.size (wr.drewN nd)).alloc (Nat.le_refl _) (.cells #[iv 0,iv 0,.slice none 0 0] 145));have HB1:=qH hb1;have HD1:=qH hD1;have hbb:((wr.drewN nd).alloc (.cells #[iv 0,iv 0,.slice none 0 0] 145)).cell? ⟨bb,bo+i,none⟩=some (bv b[i]):=by
     exact x9eh
    have HBB:=qH hbb;clear hb1 hD1 hbb;go_wp2_with (at_builtin;go_must (refine wpList_app _ rfl (.tmp 57) (.tmp 59) 34 rfl elOps w.heap.size C l.length cc (opCells l ds) rfl HD1.out.row (some ⟨wr.heap.size,0,none⟩) 1 1 [iv 0,iv 0,.slice none 0 0] rfl (src_blk (blk_top (by simp))) rfl (by simp[Value.oneCell']) (by omega) (by simp;omega) ?_));intro C' cc1 w1 hown hgr hbel hor;obtain⟨g2,rfl,hg1,hg2⟩:=hown.form (by omega);have HDc:=qH (HD1.out.push hown hgr (by simpa using hor));have HBc:Hid (Below w.heap.size w w1):=qH (HB1.out.trans hbel);have hbx1:w1.cell? ⟨bb,bo+i,none⟩=some (bv b[i]):=by
     exact x5y2
    clear hown hgr hbel hor HBB hbx hbx' HD HD1 HB1 hl1;have hbx':=hbx1;clear hbx1;rw[<-ho1]at HDc;clear ho1;obtain⟨d2,hd2⟩:∃d0:Option Addr×Nat,(none,0)=d0:=⟨_,rfl⟩;rw[hd2]at HDc;clear hd2;obtain⟨ds1,d1,hds,hdl1,kc4,kc1,kc2,kfz,kdo⟩:=drow_cell HDc.out;obtain⟨rfl,hd1⟩:=List.append_inj' hds rfl;obtain rfl:d2=d1:=by simpa using hd1
    have kg:=(HDc.out.row.block g2 rfl);obtain⟨kg1,kg2⟩:=kg;have kne:d2.1.map (·.block)≠some g2:=fun e=>HDc.out.off l.length d2 (by rw[<-hdl1];simp) g2 e rfl;have KNE:=qH kne;have KDO:=qH kdo;have KFZ:=qH kfz;have hsz1:=HBc.out.size;clear hds hd1 kc4 kc1 kdo kne kfz hdl1;have hix:¬(l.length:Int)+1<=(l.length:Int):=by omega
    go_wp2_with fail;refine wp_region_mix (by kernel_rfl) (some 64::some 65::some 66::some 67::some 68::some 69::some 70::some 71::some 72::some 73::some 74::some 75::some 76::some 77::some 78::none::[]) (none::none::none::none::none::none::none::none::none::none::none::some 0::some 1::none::none::some 2::[]) (.slice (some ⟨g2,0,none⟩) (l.length+1) cc1::.int .i64 (l.length:Int)::.slice (some ⟨g2,0,none⟩) (l.length+1) cc1::.int .i64 (l.length:Int)::.pointer (some ⟨g2,l.length*3,none⟩)::.pointer (some ⟨g2,l.length*3+2,none⟩)::.slice d2.1 o.data.length d2.2::.slice (some ⟨bb,bo,none⟩) b.length d::.int .i64 (i:Int)::.pointer (some ⟨bb,bo+i,none⟩)::bv b[i]::undef::undef::.pointer (some ⟨g2,l.length*3,none⟩)::.pointer (some ⟨g2,l.length*3+2,none⟩)::undef::[]) 3 (diffJ w w1 l o ds d2 g2 cc1 b[i]) 82 rfl rfl (by decide+kernel) (by decide+kernel) (by decide+kernel) (by decide+kernel) rfl rfl (by decide+kernel) (by decide+kernel) (rfl) ?_ ?_
    ·refine⟨?_,?_,?_,?_,?_,?_,?_,?_,?_,?_,?_,?_,?_,?_,?_,?_,trivial⟩
     ·exact x49r
     ·exact x7ji
     ·exact x49r
     ·exact x7ji
     ·exact x97z
     ·exact x0s2
     ·exact x1by
     ·exact x98c
     ·exact x1jt
     ·exact x2wx
     ·exact x4cb
     ·exact x75y
     ·intro done cv a wq hw h hJ;have e1:=mx_new (i:=6) (t:=70) h (hw 6 (by decide)) rfl rfl rfl;have e75:=mx_cv (i:=11) (t:=75) h (hw 11 (by decide)) rfl rfl;obtain⟨rfl,hv⟩:=hJ;rw[hv]at e75;refine wp_app _ (.tmp 70) (.tmp 75) 23 rfl elBytes w.heap.size d2.1 o.data.length d2.2 (o.data.map bv) (ch_ev e1) (KDO.out.drew.alloc _) (some ⟨w1.heap.size,0,none⟩) 1 1 [bv b[i]] (ch_ev e75) (src_blk (blk_top (by simp))) rfl (by simp[Value.oneCell']) (by omega) (by simp;omega) ?_;exact x5i6
     ·exact x0p8
     ·exact x22o
     ·intro done cv a wq hw h hJ;have e1:=mx_new (i:=14) (t:=78) h (hw 14 (by decide)) rfl rfl rfl;have e76:=mx_cv (i:=12) (t:=76) h (hw 12 (by decide)) rfl rfl;obtain⟨B',c',hv,hown,hgr,hbel,hor⟩:=hJ;rw[hv]at e76;have hk1:wq.heap[g2]?=(w1.drew.alloc (.cells #[bv b[i]] 5)).heap[g2]?:=hgr.block g2 (by simp;omega) (fun e=>KNE.out e.symm);have hk2:(w1.drew.alloc (.cells #[bv b[i]] 5)).heap[g2]?=w1.heap[g2]?:=Below.heap_alloc w1.drew _ g2 kg2;have hkk:wq.heap[g2]?=w1.heap[g2]?:=hk1.trans hk2;have kc1:wq.cell? ⟨g2,l.length*3+2,none⟩=some (.slice d2.1 o.data.length d2.2):=(World.cell?_of_block hkk).trans kc2;exact x2v0
    exact x6w3
   have hlp:1<=l.length:=by
    rcases l with _|⟨x,l⟩
    ·exact absurd rfl hl2
    simp
   obtain⟨l1,o,hlo⟩:=snoc_of l hl2;have hD1:=HD.out;obtain⟨g,rfl,hg1,hg2⟩:=hD1.row.form hlp;have hD2:=hD1.drewN nd;rw[hlo]at hD2;obtain⟨ds2,d2,hdse,hdl,hc3,hc1,hc2,hfz,hdo⟩:=drow_cell hD2;have hll:l1.length=l.length-1:=by rw[hlo];simp
   rw[hll]at hc1;by_cases hol:0<o.len
   ·obtain⟨o1,ho1⟩:∃o:Stp,o=⟨0,0,[]⟩:=⟨_,rfl⟩;have HQ:Hid (diffN old b (q+1)=(i+1,l++[⟨o1.at_,o1.len,o1.data++[b.getD i 0]⟩])):=qH (HP.out.trans (by rw[ho1,hlo,addByte_new _ _ _ hol]));have hod:o1.data.length<=64:=by rw[ho1];simp
    have hl1:¬(l.length:Int)-1<0:=by omega
    clear HP hl2 hD1 hD2 hlo hdse hdl hc3 hc2 hfz hdo hll;have hb1:Below w.heap.size w (((wr.drewN nd)).alloc (.cells #[iv 0,iv 0,.slice none 0 0] 145)):=(Below.drewN' HB.out nd).alloc hsz _;have hD1:=(HD.out.drewN nd).below ((Below.refl (wr.drewN nd).heap.size (wr.drewN nd)).alloc (Nat.le_refl _) (.cells #[iv 0,iv 0,.slice none 0 0] 145));have HB1:=qH hb1;have HD1:=qH hD1;have hbb:((wr.drewN nd).alloc (.cells #[iv 0,iv 0,.slice none 0 0] 145)).cell? ⟨bb,bo+i,none⟩=some (bv b[i]):=by
     exact x9eh
    have HBB:=qH hbb;clear hb1 hD1 hbb;go_wp2_with (at_builtin;go_must (refine wpList_app _ rfl (.tmp 57) (.tmp 59) 34 rfl elOps w.heap.size _ l.length cc (opCells l ds) rfl HD1.out.row (some ⟨wr.heap.size,0,none⟩) 1 1 [iv 0,iv 0,.slice none 0 0] rfl (src_blk (blk_top (by simp))) rfl (by simp[Value.oneCell']) (by omega) (by simp;omega) ?_));intro C' cc1 w1 hown hgr hbel hor;obtain⟨g2,rfl,hg1,hg2⟩:=hown.form (by omega);have HDc:=qH (HD1.out.push hown hgr (by simpa using hor));have HBc:Hid (Below w.heap.size w w1):=qH (HB1.out.trans hbel);have hbx1:w1.cell? ⟨bb,bo+i,none⟩=some (bv b[i]):=by
     exact x5y2
    clear hown hgr hbel hor HBB hbx hbx' HD HD1 HB1 hl1 hol hlp;have hbx':=hbx1;clear hbx1;rw[<-ho1]at HDc;clear ho1;obtain⟨d2,hd2⟩:∃d9:Option Addr×Nat,(none,0)=d9:=⟨_,rfl⟩;rw[hd2]at HDc;clear hd2;obtain⟨ds1,d1,hds,hdl1,kc4,kc1,kc2,kfz,kdo⟩:=drow_cell HDc.out;obtain⟨rfl,hd1⟩:=List.append_inj' hds rfl;obtain rfl:d2=d1:=by simpa using hd1
    have kg:=(HDc.out.row.block g2 rfl);obtain⟨kg1,kg2⟩:=kg;have kne:d2.1.map (·.block)≠some g2:=fun e=>HDc.out.off l.length d2 (by rw[<-hdl1];simp) g2 e rfl;have KNE:=qH kne;have KDO:=qH kdo;have KFZ:=qH kfz;have hsz1:=HBc.out.size;clear hds hd1 kc4 kc1 kdo kne kfz hdl1;have hix:¬(l.length:Int)+1<=(l.length:Int):=by omega
    go_wp2_with fail;refine wp_region_mix (by kernel_rfl) (some 64::some 65::some 66::some 67::some 68::some 69::some 70::some 71::some 72::some 73::some 74::some 75::some 76::some 77::some 78::none::[]) (none::none::none::none::none::none::none::none::none::none::none::some 0::some 1::none::none::some 2::[]) (.slice (some ⟨g2,0,none⟩) (l.length+1) cc1::.int .i64 (l.length:Int)::.slice (some ⟨g2,0,none⟩) (l.length+1) cc1::.int .i64 (l.length:Int)::.pointer (some ⟨g2,l.length*3,none⟩)::.pointer (some ⟨g2,l.length*3+2,none⟩)::.slice d2.1 o1.data.length d2.2::.slice (some ⟨bb,bo,none⟩) b.length d::.int .i64 (i:Int)::.pointer (some ⟨bb,bo+i,none⟩)::bv b[i]::undef::undef::.pointer (some ⟨g2,l.length*3,none⟩)::.pointer (some ⟨g2,l.length*3+2,none⟩)::undef::[]) 3 (diffJ w w1 l o1 ds d2 g2 cc1 b[i]) 82 rfl rfl (by decide+kernel) (by decide+kernel) (by decide+kernel) (by decide+kernel) rfl rfl (by decide+kernel) (by decide+kernel) (rfl) ?_ ?_
    ·refine⟨?_,?_,?_,?_,?_,?_,?_,?_,?_,?_,?_,?_,?_,?_,?_,?_,trivial⟩
     ·exact x49r
     ·exact x7ji
     ·exact x49r
     ·exact x7ji
     ·exact x97z
     ·exact x0s2
     ·exact x1by
     ·exact x98c
     ·exact x1jt
     ·exact x2wx
     ·exact x4cb
     ·exact x75y
     ·intro done cv a wq hw h hJ;have e1:=mx_new (i:=6) (t:=70) h (hw 6 (by decide)) rfl rfl rfl;have e75:=mx_cv (i:=11) (t:=75) h (hw 11 (by decide)) rfl rfl;obtain⟨rfl,hv⟩:=hJ;rw[hv]at e75;refine wp_app _ (.tmp 70) (.tmp 75) 23 rfl elBytes w.heap.size d2.1 o1.data.length d2.2 (o1.data.map bv) (ch_ev e1) (KDO.out.drew.alloc _) (some ⟨w1.heap.size,0,none⟩) 1 1 [bv b[i]] (ch_ev e75) (src_blk (blk_top (by simp))) rfl (by simp[Value.oneCell']) (by omega) (by simp;omega) ?_;exact x5i6
     ·exact x0p8
     ·exact x22o
     ·intro done cv a wq hw h hJ;have e1:=mx_new (i:=14) (t:=78) h (hw 14 (by decide)) rfl rfl rfl;have e76:=mx_cv (i:=12) (t:=76) h (hw 12 (by decide)) rfl rfl;obtain⟨B',c',hv,hown,hgr,hbel,hor⟩:=hJ;rw[hv]at e76;have hk1:wq.heap[g2]?=(w1.drew.alloc (.cells #[bv b[i]] 5)).heap[g2]?:=hgr.block g2 (by simp;omega) (fun e=>KNE.out e.symm);have hk2:(w1.drew.alloc (.cells #[bv b[i]] 5)).heap[g2]?=w1.heap[g2]?:=Below.heap_alloc w1.drew _ g2 kg2;have hkk:wq.heap[g2]?=w1.heap[g2]?:=hk1.trans hk2;have kc1:wq.cell? ⟨g2,l.length*3+2,none⟩=some (.slice d2.1 o1.data.length d2.2):=(World.cell?_of_block hkk).trans kc2;exact x2v0
    exact x6w3
   subst hlo;have hD3:=HD.out;rw[hdse]at hD3;clear HD;have HD:=qH hD3;have HQ:=qH (HP.out.trans (by rw[addByte_last _ _ _ hol]));have hod:=HM.out o (by simp);simp only[List.length_append,List.length_cons,List.length_nil]at hlen;clear HP hl2 hfz hc3 hc2 hdo hdl hD1 hD2 hD3 hll hlp;have hc1':(wr.drewN nd).cell? ⟨g,l1.length*3+1,none⟩=some (iv o.len):=by simpa using hc1
   clear hc1;have HDc:=qH (HD.out.drewN nd);have HBc:Hid (Below w.heap.size w (wr.drewN nd)):=qH (Below.drewN' HB.out nd);clear hbx HD;subst hdse;generalize wr.drewN nd=w2 at *
   obtain⟨ds1,d1,hds,hdl1,kc4,kc1,kc2,kfz,kdo⟩:=drow_cell HDc.out;obtain⟨rfl,hd1⟩:=List.append_inj' hds rfl;obtain rfl:d2=d1:=by simpa using hd1
   have kg:=(HDc.out.row.block g rfl);obtain⟨kg1,kg2⟩:=kg;have kne:d2.1.map (·.block)≠some g:=fun e=>HDc.out.off l1.length d2 (by rw[<-hdl1];simp) g e rfl;have KNE:=qH kne;have KDO:=qH kdo;have KFZ:=qH kfz;have hsz1:=HBc.out.size;clear hds hd1 kc4 kc1 kdo kne kfz hdl1;have hix:¬(l1.length:Int)+1<=(l1.length:Int):=by omega
   go_wp2_with fail;refine wp_region_mix (by kernel_rfl) (some 64::some 65::some 66::some 67::some 68::some 69::some 70::some 71::some 72::some 73::some 74::some 75::some 76::some 77::some 78::none::[]) (none::none::none::none::none::none::none::none::none::none::none::some 0::some 1::none::none::some 2::[]) (.slice (some ⟨g,0,none⟩) (l1.length+1) cc::.int .i64 (l1.length:Int)::.slice (some ⟨g,0,none⟩) (l1.length+1) cc::.int .i64 (l1.length:Int)::.pointer (some ⟨g,l1.length*3,none⟩)::.pointer (some ⟨g,l1.length*3+2,none⟩)::.slice d2.1 o.data.length d2.2::.slice (some ⟨bb,bo,none⟩) b.length d::.int .i64 (i:Int)::.pointer (some ⟨bb,bo+i,none⟩)::bv b[i]::undef::undef::.pointer (some ⟨g,l1.length*3,none⟩)::.pointer (some ⟨g,l1.length*3+2,none⟩)::undef::[]) 3 (diffJ w w2 l1 o ds2 d2 g cc b[i]) 82 rfl rfl (by decide+kernel) (by decide+kernel) (by decide+kernel) (by decide+kernel) rfl rfl (by decide+kernel) (by decide+kernel) (rfl) ?_ ?_
   ·refine⟨?_,?_,?_,?_,?_,?_,?_,?_,?_,?_,?_,?_,?_,?_,?_,?_,trivial⟩
    ·exact x5qp
    ·exact x9y2
    ·exact x5qp
    ·exact x9y2
    ·exact x97z
    ·exact x0s2
    ·exact x1by
    ·exact x98c
    ·exact x1jt
    ·exact x2wx
    ·intro done cv k a wq hw h hJ hn;have e1:=mx_new (i:=9) (t:=73) h (hw 9 (by decide)) rfl rfl rfl;have hk:=hn 11 _ 0 rfl rfl (by decide);obtain rfl:k=0:=by omega
     obtain rfl:wq=w2.drew:=hJ;go_simp
    ·intro done cv a wq hw h hJ;have e1:=mx_new (i:=10) (t:=74) h (hw 10 (by decide)) rfl rfl rfl;obtain rfl:wq=w2.drew:=hJ;exact wp_slb e1 ⟨_,rfl,rfl,by simp⟩
    ·intro done cv a wq hw h hJ;have e1:=mx_new (i:=6) (t:=70) h (hw 6 (by decide)) rfl rfl rfl;have e75:=mx_cv (i:=11) (t:=75) h (hw 11 (by decide)) rfl rfl;obtain⟨rfl,hv⟩:=hJ;rw[hv]at e75;refine wp_app _ (.tmp 70) (.tmp 75) 23 rfl elBytes w.heap.size d2.1 o.data.length d2.2 (o.data.map bv) (ch_ev e1) (KDO.out.drew.alloc _) (some ⟨w2.heap.size,0,none⟩) 1 1 [bv b[i]] (ch_ev e75) (src_blk (blk_top (by simp))) rfl (by simp[Value.oneCell']) (by omega) (by simp;omega) ?_;exact x5i6
    ·exact x0p8
    ·exact x22o
    ·intro done cv a wq hw h hJ;have e1:=mx_new (i:=14) (t:=78) h (hw 14 (by decide)) rfl rfl rfl;have e76:=mx_cv (i:=12) (t:=76) h (hw 12 (by decide)) rfl rfl;obtain⟨B',c',hv,hown,hgr,hbel,hor⟩:=hJ;rw[hv]at e76;have hk1:wq.heap[g]?=(w2.drew.alloc (.cells #[bv b[i]] 5)).heap[g]?:=hgr.block g (by simp;omega) (fun e=>KNE.out e.symm);have hk2:(w2.drew.alloc (.cells #[bv b[i]] 5)).heap[g]?=w2.heap[g]?:=Below.heap_alloc w2.drew _ g kg2;have hkk:wq.heap[g]?=w2.heap[g]?:=hk1.trans hk2;have kc1:wq.cell? ⟨g,l1.length*3+2,none⟩=some (.slice d2.1 o.data.length d2.2):=(World.cell?_of_block hkk).trans kc2;have kf1:wq.frozen? ⟨g,l1.length*3+2,none⟩=false:=by
      have:=KFZ.out (l1.length*3+2);unfold World.frozen? at this⊢;rw[hkk];exact this
     have HD1:=HDc.out.below (((Below.refl w2.heap.size w2).drew).alloc (Nat.le_refl _) (.cells #[bv b[i]] 5));have HDn:=HD1.add hown hgr hor;have HBn:Below w.heap.size w wq:=(HBc.out.drew.alloc hsz1 _).trans hbel;exact wp_stb e1 e76 kc1 kf1 ⟨undef,rfl,B',c',HDn,HBn.setCell kg1 _⟩
   rintro cv w1 ⟨B',c',HDn',HBn'⟩;have HDn:=qH HDn';have HBn:=qH HBn';clear HDn' HBn' kc2 kg1 kg2 hbx';simp only[mixAll,putAll_some,putAll_none,putAll_nil,List.getElem?_cons_zero,List.getElem?_cons_succ,Nat.zero_add,Nat.reduceAdd,List.setIfInBounds_toArray,List.set_cons_zero,List.set_cons_succ];go_wp2_with fail;go_roundw
   case rel=>
    have hget:b.getD i 0=b[i]:=by rw[List.getD_eq_getElem?_getD,List.getElem?_eq_getElem hlt];rfl
    refine⟨q+1,some ⟨g,0,none⟩,cc,ds2++[(B',c')],by rw[HQ.out];go_num,by rw[HQ.out];simp,?_,HBn⟩;rw[HQ.out,hget];exact HDn.out
   case measure=>simp[intOf];omega
  have hend:=diffN_end old b q hlt;have hsps:Fresh w.heap.size wr (fun v=>Sps v C (diffN old b q).2):=hD.fresh (fun o ho=>by
   have h1:=hinv.each o ho;have h2:=data_le old _ o ho;rw[hinv.gives]at h2;simp at h2;unfold I64;rcases h1 with ⟨e1,e2,_⟩|⟨e1,e2,e3,_⟩
   ·rw[e1,e2];exact⟨by omega,by omega,by omega⟩
   exact⟨by omega,by omega,by omega⟩)
  have HS:=qH hsps;have HE:=qH hend;have HO:=qH hD.row.le;have hlt':¬((diffN old b q).1:Int)<(b.length:Int):=by omega
  clear hsps hend hD hinv hle;go_wp2_with fail;refine bodyPost_ret (results_tmp2 rfl _ _ _) rfl ⟨C,cc,?_,?_,?_,HB.out⟩
  ·rw[<-HE.out];rfl
  ·rw[<-HE.out];exact HS.out
  rw[<-HE.out];exact HO.out
theorem patMake_fit(A B:OA)(c d:Nat)(fr to_:Int)(old b:LU)(w:World)(hf:I64 fr)(ht:I64 to_)(ho:old.length<=64)(hl:b.length<=64)(hA:Bts w A old)(hB:Bts w B b):
  Calls Tryz.prog 100 #[iv fr,iv to_,.slice A old.length c,.slice B b.length d] w (PaRet w (patMake (sumOn 1) fr to_ old b).1 (patMake (sumOn 1) fr to_ old b).2):=by
 have K1:=qH (fun w h1 h2=>diff3_calls A B c d old b w ho hl h1 h2);have K2:=qH (fun w h=>sumOf_calls A c old w (by omega) h);have K3:=qH (fun w h=>sumOf_calls B d b w (by omega) h);have hs1:=sumOn_bd 1 old (by omega);have hs1:=sumOn_bd 1 b (by omega);have hdl:(diffed old b).length<=40:=(diffed_ok old b ho hl).many;have HM:Hid ((patMake (sumOn 1) fr to_ old b)=if patCheck ⟨fr,to_,sumOn 1 old,sumOn 1 b,b.length,diffed old b⟩≠0 then (Pat.zero,patCheck ⟨fr,to_,sumOn 1 old,sumOn 1 b,b.length,diffed old b⟩)else (⟨fr,to_,sumOn 1 old,sumOn 1 b,b.length,diffed old b⟩,0)):=qH (by
  unfold patMake;rw[if_neg (by omega)])
 generalize sumOn 1 old=s1 at *
 generalize sumOn 1 b=s2 at *
 generalize diffed old b=l at *
 have HA:=qH hA;have HB:=qH hB;have HI:Hid (I64 fr∧I64 to_):=qH ⟨hf,ht⟩;clear hA hB hf ht;generalize patMake (sumOn 1) fr to_ old b=r at *
 go_enter Tryz.func100,Tryz.ntmps100;go_wp2_with fail;have hba:=(bW w).alloc nl (.cells (patA 0 0 0 0 0 none 0 0) 36);refine(K1.out _ (HA.out.stays hba) (HB.out.stays hba)).mono ?_;rintro e w1 ⟨A1,c1,rfl,hsp,hc1,hb1⟩;have a1:=kp (w.heap.size) (patA 0 0 0 0 0 none 0 0) hb1;have HB1:=qH (hba.trans (hb1.mono (by simp)));have HSP:=qH hsp;clear hb1 hba hsp;go_wp2_with fail;refine(K2.out _ (HA.out.stays HB1.out)).mono ?_;rintro e w2 ⟨rfl,rfl⟩;go_wp2_with fail;refine(K3.out _ (HB.out.stays HB1.out)).mono ?_;rintro e w2 ⟨rfl,rfl⟩;go_wp2_with fail;have hba:=(bW w1).alloc nl (.cells (patA fr to_ s1 s2 b.length A1 l.length c1) 36);have HS1:=qH (HSP.out.below hba nl);refine(patCheck_calls A1 c1 fr to_ s1 s2 b.length l _ (by omega) HS1.out.now).mono ?_;rintro e w2 ⟨rfl,hb1⟩;have b2:=kp (w.heap.size) (patA 0 0 0 0 0 none 0 0) hb1;have b1:=kp (w1.heap.size) (patA fr to_ s1 s2 b.length A1 l.length c1) hb1;have HB1:Hid (Below w.heap.size w w2):=qH ((HB1.out.alloc HB1.out.size _).trans (hb1.mono (by have:=HB1.out.size;simp;omega)));have HS1:=qH (HS1.out.below hb1 nl);have HPI:Hid (Fresh (w.heap.size+1) w2 (fun v=>PatIn v ⟨fr,to_,s1,s2,b.length,l⟩ A1 c1)):=qH (Fresh.imp (by simpa using HS1.out) fun v hv=>⟨hc1,by dsimp only;omega,hv,HI.out.1,HI.out.2,⟨by dsimp only;omega,by dsimp only;omega⟩,⟨by dsimp only;omega,by dsimp only;omega⟩,⟨by dsimp only;omega,by dsimp only;omega⟩⟩);clear hb1 hba;by_cases hz:patCheck ⟨fr,to_,s1,s2,b.length,l⟩=0
 ·have hr:r=(⟨fr,to_,s1,s2,b.length,l⟩,0):=by rw[HM.out,if_neg (by simpa using hz)]
  have HR:=qH hr;clear hr;go_wp2_with fail;refine bodyPost_ret (rC (patA fr to_ s1 s2 b.length A1 l.length c1)) rfl ?_;rw[HR.out];exact⟨A1,c1,rfl,(HPI.out.row (by omega) _).mono (by omega),below_row HB1.out (by omega) _⟩
 have hr:r=(Pat.zero,patCheck ⟨fr,to_,s1,s2,b.length,l⟩):=by rw[HM.out,if_pos hz]
 have hq:(patCheck ⟨fr,to_,s1,s2,b.length,l⟩ !=0)=true:=by simp[hz]
 have HR:=qH hr;clear hr hz;generalize patCheck ⟨fr,to_,s1,s2,b.length,l⟩=e1 at *
 go_wp2_with fail;refine bodyPost_ret (rC (patA 0 0 0 0 0 none 0 0)) rfl ?_;rw[HR.out];exact⟨none,0,rfl,.const fun v=>patIn_zero v,below_row HB1.out (by omega) _⟩
theorem x6il(h:Y:=by
 have k1:¬c=0:=by omega
 have k2:(i:Int)<=(c:Int):=by omega
 go_simp):Y:=h
theorem x9b5(h:Y:=by
 have fr:=ptJ_frame hJ;have hg1:=(fr.2 g hglt hgC).trans HG.out;have hc:wq.cell? ⟨g,2,none⟩=some (.slice D data.length dc):=by rw[cell_of_row _ _ _ _ _ _ hg1];rfl
 go_simp):Y:=h
def ptJ(w0:World)(base:Nat)(A:OA)(n c:Nat)(xs ns ps:List Value)(i5 i6 i9 i10:Nat)(done:Nat->Bool)(cv:Nat->Value)(w:World):Prop:=
 if done i9=true then (Below base w0 w∧∀k,k<w0.heap.size->A.map (·.block)≠some k->w.heap[k]?=w0.heap[k]?)∧∃A2 c2,cv i9=.slice A2 (n+2+ps.length) c2∧Own w base 5 1 A2 (n+2+ps.length) c2 (xs++ns++ps)∧(done i10=true->cv i10=.slice A2 (n+2+ps.length) c2)
 else if done i6=true then (Below base w0 w∧∀k,k<w0.heap.size->A.map (·.block)≠some k->w.heap[k]?=w0.heap[k]?)∧∃A1 c1,cv i6=.slice A1 (n+2) c1∧Own w base 5 1 A1 (n+2) c1 (xs++ns)∧(A1.map (·.block)=A.map (·.block)∨∀k,A1.map (·.block)=some k->w0.heap.size<=k)
 else if done i5=true then (Below base w0 w∧∀k,k<w0.heap.size->A.map (·.block)≠some k->w.heap[k]?=w0.heap[k]?)∧Own w base 5 1 A n c xs∧∃bb,cv i5=.slice (some ⟨bb,0,none⟩) 2 2∧w.heap[bb]?=some (.cells ns.toArray 5 (0,0))∧w0.heap.size<=bb
 else w=w0.drew
theorem ptJ_frame{i5 i6 i9 i10:Nat}{ps:List Value}{done:Nat->Bool}(h:ptJ w0 base A n c xs ns ps i5 i6 i9 i10 done cv w):Below base w0 w∧∀k,k<w0.heap.size->A.map (·.block)≠some k->w.heap[k]?=w0.heap[k]?:=by
 unfold ptJ at h;split at h
 ·exact h.1
 split at h
 ·exact h.1
 split at h
 ·exact h.1
 subst h;exact⟨(Below.refl _ _).drew,fun _ _ _=>rfl⟩
theorem wp_sb2i{d r:Tmp}{m:Int}(hr:a.tmps[r]?=some (.int .u8 m))
  (h:K (a.put (some d) (.slice (some ⟨w.heap.size,0,none⟩) 2 2)) (w.alloc (.cells #[.int .u8 255,.int .u8 m] 5))):
  Oper.wp Tryz.prog ⟨some d,.buildSlice 23 2 #[(0,.const (.int .u8 255)),(1,.tmp r)],t,p,af,gd⟩ a w K Q:=by
 have e1:a.eval (.const (.int .u8 255))=.int .u8 255:=rfl;have e2:a.eval (.tmp r)=.int .u8 m:=by simp[Act.eval,hr]
 exact x9nx
theorem bts_same{l:LU}(h:Bts w A l)(hk:∀k,A.map (·.block)=some k->k<w.heap.size->w'.heap[k]?=w.heap[k]?):Bts w' A l:=by
 intro i hi;obtain⟨b,o,rfl,hlt,hc⟩:=h i hi;have e:=hk b rfl hlt;refine⟨b,o,rfl,?_,(World.cell?_of_block e).trans hc⟩;rcases Nat.lt_or_ge b w'.heap.size with h|h
 ·exact h
 rw[Array.getElem?_eq_none h,Array.getElem?_eq_getElem hlt]at e;cases e
theorem own_blk{e:Nat}{cs:List Value}(h:w.heap[g]?=some (.cells cs.toArray e (0,0)))(hb:base<=g)(hl:cs.length=n)(hn:n<=140737488351232):Own w base e 1 (some ⟨g,0,none⟩) n n cs:=
 ⟨by omega,Or.inr ⟨g,n,_,rfl,hb,h,nl,by unfold maxLen;omega,by simp;omega,by simp[<-hl]⟩⟩
theorem patPut_bad(B:OA)(d:Nat)(p:Pat)(w:World)(hp:PatIn w p B d)(h:patCheck p≠0):
  Calls Tryz.prog 130 #[.agg (patA p.from_ p.to_ p.old p.new_ p.size B p.ops.length d)] w (RetB w (.tuple #[.slice none 0 0,iv (patCheck p)])):=by
 obtain⟨f,t,o,n,sz,l⟩:=p;obtain⟨hcap,hlen,hops,-,-,-,-,-⟩:=hp;dsimp only at *
 have hba:=(bW w).alloc nl (.cells (patA f t o n sz B l.length d) 36);have K1:=qH (patCheck_calls B d f t o n sz l _ hlen (hops.stays hba));generalize patCheck ⟨f,t,o,n,sz,l⟩=ck at *
 have q:(ck !=0)=true:=by simp[h]
 clear hops h;go_enter Tryz.func130,Tryz.ntmps130;exact x5t4
theorem patPut_ok(B:OA)(d:Nat)(p:Pat)(w:World)(hp:PatIn w p B d)(h:patCheck p=0):
  Calls Tryz.prog 130 #[.agg (patA p.from_ p.to_ p.old p.new_ p.size B p.ops.length d)] w (UnRet w (patBytes p,0)):=by
 have hl1:=patBytes_len h;obtain⟨hr,hd⟩:=patCheck_ok.1 h;have HPB:Hid (patBytes p=patHead p++opsBytes p.ops):=qH rfl;obtain⟨f,t,o,n,sz,l⟩:=p;obtain⟨hcap,hlen,hops,-,-,-,-,-⟩:=hp;unfold Pat.range at hr;dsimp only at *
 obtain⟨r1,r2,r3,r4,r5,r6,r7,r8⟩:=hr;have r1:=hd.s0;have r1:=hd.s1;have r1:=hd.many;have hba:=(bW w).alloc nl (.cells (patA f t o n sz B l.length d) 36);have K1:=qH (patCheck_calls B d f t o n sz l _ hlen (hops.stays hba));rw[h]at K1;have HD:=qH hd;have HS:=qH hops;have HBA:=qH hba;clear hops hd h hba;go_enter Tryz.func130,Tryz.ntmps130;go_wp2_with fail;refine K1.out.mono ?_;rintro e w1 ⟨rfl,hb1⟩;have a1:=kp (w.heap.size) (patA f t o n sz B l.length d) hb1;have HB1:=bT HBA hb1;clear hb1 K1;go_wp2_with fail;generalize hbase:w.heap.size=base at *
 have HBE:=qH hbase;have hsw1:=HB1.out.size;have hlw1:base<=w1.heap.size:=by omega
 have hhd:((patHead ⟨f,t,o,n,sz,l⟩).map bv)=[.int .u8 f,.int .u8 t,.int .u8 (o / 256),.int .u8 (o%256),.int .u8 (n / 256),.int .u8 (n%256),.int .u8 sz,.int .u8 (l.length:Int)]:=by
  unfold patHead;simp only[List.map_cons,List.map_nil];rw[bv_by f (by omega),bv_by t (by omega),bv_by (o / 256) (by omega),bv_by2 o,bv_by (n / 256) (by omega),bv_by2 n,bv_by sz (by omega),bv_by (l.length:Int) (by omega)]
 have hot:=own_blk (w:=w1.alloc (.cells #[.int .u8 f,.int .u8 t,.int .u8 (o / 256),.int .u8 (o%256),.int .u8 (n / 256),.int .u8 (n%256),.int .u8 sz,.int .u8 (l.length:Int)] 5)) (base:=base) (g:=w1.heap.size) (n:=8) (cs:=[.int .u8 f,.int .u8 t,.int .u8 (o / 256),.int .u8 (o%256),.int .u8 (n / 256),.int .u8 (n%256),.int .u8 sz,.int .u8 (l.length:Int)]) (blk_top rfl) hlw1 rfl (by decide);have hot1:=hot;have HOT:Hid (Own (w1.alloc (.cells #[.int .u8 f,.int .u8 t,.int .u8 (o / 256),.int .u8 (o%256),.int .u8 (n / 256),.int .u8 (n%256),.int .u8 sz,.int .u8 (l.length:Int)] 5)) base 5 1 (some ⟨w1.heap.size,0,none⟩) 8 8 ((patHead ⟨f,t,o,n,sz,l⟩).map bv)):=qH (by rw[hhd];exact hot1);have HB2:Hid (Below base w (w1.alloc (.cells #[.int .u8 f,.int .u8 t,.int .u8 (o / 256),.int .u8 (o%256),.int .u8 (n / 256),.int .u8 (n%256),.int .u8 sz,.int .u8 (l.length:Int)] 5))):=qH (HB1.out.alloc hlw1 _);clear hhd hot hot1 a1;have hph1:(patHead ⟨f,t,o,n,sz,l⟩).length=8:=rfl;have HP1:=qH hph1;clear hph1;generalize patHead ⟨f,t,o,n,sz,l⟩=hd at *
 generalize patBytes ⟨f,t,o,n,sz,l⟩=pb at *
 go_loopw [5,44] (fun v i wr=>∃(k:Nat) (C:OA) (cc:Nat) (pre:LU),k<=l.length∧i=iv k∧v=.slice C pre.length cc∧Hid (pre=hd++opsBytes (l.take k))∧Hid (Own wr base 5 1 C pre.length cc (pre.map bv))∧Hid (Below base w wr)) (fun _ i _=>l.length-(intOf i).toNat)
 case atStart=>exact⟨0,_,8,hd,Nat.zero_le _,rfl,by rw[HP1.out],qH (by simp[opsBytes]),by rw[HP1.out];exact HOT,HB2⟩
 case round=>
  clear HOT HB2 HB1 HBA;rename World=>wz;obtain⟨k,C,cc,pre,hk,rfl,rfl,HPRE,HO1,HB1⟩:=hrel;have hbz:base<=wz.heap.size:=Nat.le_trans (Nat.le_of_eq HBE.out.symm) HB1.out.size;have hpl:pre.length+(opsBytes (l.drop k)).length=pb.length:=by
   exact x9ll
  by_cases hlt:k<l.length
  ·have hxo:=HD.out.each l[k] (List.getElem_mem hlt);have hbw:Below w.heap.size w wz:=HBE.out▸HB1.out;obtain⟨sb,so,D,dc,rfl,hsb,q3,q1,q2,p3,p4,p5,-,-⟩:=HS.out.at_ hlt;have p6:=(hbw.cell (p:=⟨sb,so+k*3,none⟩) hsb).trans q3;have p1:=(hbw.cell (p:=⟨sb,so+k*3+1,none⟩) hsb).trans q1;have p2:=(hbw.cell (p:=⟨sb,so+k*3+2,none⟩) hsb).trans q2;clear q3 q1 q2;have hpre1:hd++opsBytes (l.take (k+1))=pre++stpBytes l[k]:=by rw[List.take_succ_eq_append_getElem hlt,opsBytes_append,opsBytes_one,<-List.append_assoc,<-HPRE.out]
   have hdrop:l.drop k=l[k]::l.drop (k+1):=List.drop_eq_getElem_cons hlt;rw[hdrop,opsBytes_cons,List.length_append]at hpl;obtain⟨x,hx⟩:=eX (l[k]);rw[hx]at hxo hpre1 hpl p6 p1 p2 p3 p4 p5;clear hx hdrop;obtain⟨at_,len,data⟩:=x;obtain⟨hform,hin⟩:=hxo;unfold Stp.in_ at hin;dsimp only at *
   obtain⟨j1,j2,j3⟩:=hin;have HDT1:=qH (p5.stays hbw);have HDW:=qH p5;clear hbw;have HPRE1:=qH hpre1;have dl:decide ((k:Int)<(l.length:Int))=true:=decide_eq_true (by omega);have hwk:IntKind.i64.wrap ((k:Int)+1)=(k:Int)+1:=IntWalk.i64_in _ (by omega);clear p5 hpre1;by_cases hl1:0<len
   ·have hst:stpBytes ⟨at_,len,data⟩=[by_ at_,by_ len]:=by unfold stpBytes;rw[if_pos hl1]
    rw[hst]at HPRE1 hpl;have hj1:at_<=64:=by omega
    have hj1:len<=64:=by omega
    have HBV:Hid (([by_ at_,by_ len]:List UInt8).map bv=[.int .u8 at_,.int .u8 len]):=qH (by simp only[List.map_cons,List.map_nil];rw[bv_by at_ (by omega),bv_by len (by omega)]);have hoa:=(HO1.out.alloc (.cells #[iv at_,iv len,.slice D data.length dc] 145)).alloc (.cells #[.int .u8 at_,.int .u8 len] 5);have hs1:Src ((wz.alloc (.cells #[iv at_,iv len,.slice D data.length dc] 145)).alloc (.cells #[.int .u8 at_,.int .u8 len] 5)) (some ⟨wz.heap.size+1,0,none⟩) [.int .u8 at_,.int .u8 len]:=src_blk (blk_top (by simp));have hob:pre.length+2<=137438953472:=by omega
    have hle:base<=((wz.alloc (.cells #[iv at_,iv len,.slice D data.length dc] 145)).alloc (.cells #[.int .u8 at_,.int .u8 len] 5)).heap.size:=by simp;omega
    clear hst hform hpl;go_wp2_with (at_builtin;go_must (refine wpList_app ((wz.alloc (.cells #[iv at_,iv len,.slice D data.length dc] 145)).alloc (.cells #[.int .u8 at_,.int .u8 len] 5)) rfl _ _ 23 rfl elBytes base C pre.length cc (pre.map bv) rfl hoa (some ⟨wz.heap.size+1,0,none⟩) 2 2 [.int .u8 at_,.int .u8 len] rfl hs1 rfl (by simp[Value.oneCell']) hob hle ?_;intro C1 c1 w2 hown hgr hbel hor));have HB1:Hid (Below base w w2):=qH (((HB1.out.alloc hbz _).alloc (by simp;omega) _).trans hbel);have HL:Hid (pre.length+2=(pre++[by_ at_,by_ len]).length):=qH (by simp);have HO1:Hid (Own w2 base 5 1 C1 (pre++[by_ at_,by_ len]).length c1 ((pre++[by_ at_,by_ len]).map bv)):=qH (by rw[List.map_append,HBV.out,<-HL.out];exact hown);clear hown hgr hbel hor hoa hs1 hob hle;go_roundw
    case rel=>exact⟨k+1,C1,c1,pre++[by_ at_,by_ len],by omega,by go_num,by rw[HL.out],qH HPRE1.out.symm,HO1,HB1⟩
    case measure=>simp[intOf];omega
   obtain rfl:len=0:=by omega
   obtain⟨rfl,hd1,hd2⟩:=hform.1 rfl;have hst:stpBytes ⟨0,0,data⟩=255::by_ data.length::data:=by unfold stpBytes;rw[if_neg (by simp)]
   rw[hst]at HPRE1 hpl;simp only[List.length_cons]at hpl;have hdl:data.length<=64:=hd2;have HU1:Hid (IntKind.u8.wrap (data.length:Int)=(data.length:Int)):=qH (by unfold IntKind.wrap;simp[IntKind.signed,IntKind.bits];omega);have HBV:Hid ((255::by_ data.length::data:LU).map bv=[.int .u8 255,.int .u8 (data.length:Int)]++data.map bv):=qH (by simp only[List.map_cons];rw[bv_by (data.length:Int) (by omega)];rfl);have HG:Hid ((wz.alloc (.cells #[iv 0,iv 0,.slice D data.length dc] 145)).heap[wz.heap.size]?=some (.cells #[iv 0,iv 0,.slice D data.length dc] 145 (0,0))):=qH (blk_top rfl);have HO:Hid (Own (wz.alloc (.cells #[iv 0,iv 0,.slice D data.length dc] 145)) base 5 1 C pre.length cc (pre.map bv)):=qH (HO1.out.alloc _);have HBo:Hid (Below base w (wz.alloc (.cells #[iv 0,iv 0,.slice D data.length dc] 145))):=qH (HB1.out.alloc hbz _);have HDT:Hid (Bts (wz.alloc (.cells #[iv 0,iv 0,.slice D data.length dc] 145)) D data):=qH (HDT1.out.stays (bL _));have hgC:C.map (·.block)≠some wz.heap.size:=fun e=>by have:=(HO1.out.block _ e).2;omega
   have hglt:wz.heap.size<(wz.alloc (.cells #[iv 0,iv 0,.slice D data.length dc] 145)).heap.size:=by simp
   have hbo:base<=(wz.alloc (.cells #[iv 0,iv 0,.slice D data.length dc] 145)).heap.size:=by simp;omega
   have HDC:Hid (∀k,D.map (·.block)=some k->C.map (·.block)≠some k):=qH (by
    intro q hq e;have h1:=(HO1.out.block q e).1;obtain⟨b',o',e1,h1,_⟩:=HDW.out 0 (List.length_pos_iff.2 hd1);rw[e1]at hq;have hq:b'=q:=by simpa using hq
    have:=HBE.out;omega)
   clear hst hform hd1;go_wp2_with fail;clear p6 p1 p2 dl;generalize hwo:wz.alloc (.cells #[iv 0,iv 0,.slice D data.length dc] 145)=wo at *
   generalize wz.heap.size=g at *
   refine wF (some 60::some 61::some 62::some 63::some 64::some 65::some 66::some 67::some 68::some 69::some 5::[]) (false::false::false::false::false::true::true::false::false::true::true::[]) (.slice C pre.length cc::.pointer (some ⟨g,2,none⟩)::.slice D data.length dc::iv (data.length:Int)::.int .u8 (data.length:Int)::undef::undef::.pointer (some ⟨g,2,none⟩)::.slice D data.length dc::undef::undef::[]) (ptJ wo base C pre.length cc (pre.map bv) [.int .u8 255,.int .u8 (data.length:Int)] (data.map bv) 5 6 9 10) 75 (by rw[ptJ,if_neg (by simp),if_neg (by simp),if_neg (by simp)]) ?_ ?_
   ·refine⟨?_,?_,?_,?_,?_,?_,?_,?_,?_,?_,?_,trivial⟩;all_goals intro done cv a wq hn hw hcl h hJ
    ·have e1:=fr_un (t:=5) (i:=0) (i0:=10) (v:=.slice C pre.length cc) h hcl hn rfl (by decide) (by decide) rfl;exact mx_move (ch_ev e1)
    ·have e1:=fO 7 (.pointer (some ⟨g,0,none⟩)) h;go_simp
    ·have e1:=fN 1 61 h hw;exact x9b5
    ·have e1:=fN 2 62 h hw;go_simp
    ·have e1:=fN 3 63 h hw;have hu:=HU1.out;go_simp
    ·have e1:=fN 4 64 h hw;have hd1:¬maskB [false,false,false,false,false,true,true,false,false,true,true] done 6=true:=by unfold maskB;rw[show done 6=false from Bool.eq_false_iff.2 (fun e=>by have:=hcl 6 _ rfl e 5 (by decide);rw[hn]at this;cases this)];simp
     have hd2:¬maskB [false,false,false,false,false,true,true,false,false,true,true] done 9=true:=by unfold maskB;rw[show done 9=false from Bool.eq_false_iff.2 (fun e=>hd1 (by unfold maskB;rw[hcl 9 _ rfl e 6 (by decide)];rfl))];simp
     have hd3:¬maskB [false,false,false,false,false,true,true,false,false,true,true] done 5=true:=by unfold maskB;rw[hn];simp
     rw[ptJ,if_neg hd2,if_neg hd1,if_neg hd3]at hJ;obtain rfl:wq=wo.drew:=hJ;refine wp_sb2i e1 ⟨_,rfl,?_⟩;rw[ptJ,if_neg (by simp;simpa using hd2),if_neg (by simp;simpa using hd1),if_pos (by simp)];exact⟨⟨(Below.refl _ _).drew.alloc (by simpa using hbo) _,fun k hk hne=>Below.heap_alloc wo.drew _ k hk⟩,HO.out.drew.alloc _,wo.heap.size,by simp,blk_top (by simp),nl⟩
    ·have e1:=fN 0 60 h hw;have e65:=fr_cv (i:=5) (t:=65) h (hw 5 (by decide)) rfl rfl;have hd1:¬maskB [false,false,false,false,false,true,true,false,false,true,true] done 9=true:=by unfold maskB;rw[show done 9=false from Bool.eq_false_iff.2 (fun e=>by have:=hcl 9 _ rfl e 6 (by decide);rw[hn]at this;cases this)];simp
     have hd2:¬maskB [false,false,false,false,false,true,true,false,false,true,true] done 6=true:=by unfold maskB;rw[hn];simp
     have hd3:maskB [false,false,false,false,false,true,true,false,false,true,true] done 5=true:=by unfold maskB;rw[hw 5 (by decide)];rfl
     rw[ptJ,if_neg hd1,if_neg hd2,if_pos hd3]at hJ;obtain⟨⟨f1,f2⟩,ho,bb,y1,y2,y3⟩:=hJ;rw[y1]at e65;refine wp_app wq (.tmp 60) (.tmp 65) 23 rfl elBytes base C pre.length cc (pre.map bv) (ch_ev e1) ho (some ⟨bb,0,none⟩) 2 2 [.int .u8 255,.int .u8 (data.length:Int)] (ch_ev e65) (src_blk y2) rfl (by simp[Value.oneCell']) (by omega) (Nat.le_trans hbo f1.size) ?_;intro A' c' w' hown hgr hbel hor;refine⟨_,rfl,?_⟩;rw[ptJ,if_neg (by simp;simpa using hd1),if_pos (by simp)];refine⟨⟨f1.trans hbel,fun k hk hne=>(hgr.block k (Nat.lt_of_lt_of_le hk f1.size) (fun e=>hne e.symm)).trans (f2 k hk hne)⟩,A',c',by simp,hown,?_⟩;rcases hor with h|h
     ·exact .inl h
     exact .inr (fun k hk=>by rw[h]at hk;injection hk with hk;have:=f1.size;omega)
    ·have e1:=fO 7 (.pointer (some ⟨g,0,none⟩)) h;go_simp
    ·have e1:=fN 7 67 h hw;exact x9b5
    ·have e1:=fr_cv (i:=6) (t:=66) h (hw 6 (by decide)) rfl rfl;have e68:=fN 8 68 h hw;have hd1:maskB [false,false,false,false,false,true,true,false,false,true,true] done 6=true:=by unfold maskB;rw[hw 6 (by decide)];rfl
     have hd2:¬maskB [false,false,false,false,false,true,true,false,false,true,true] done 9=true:=by unfold maskB;rw[hn];simp
     rw[ptJ,if_neg hd2,if_pos hd1]at hJ;obtain⟨⟨f1,f2⟩,A1,c1,y1,ho,hor1⟩:=hJ;rw[y1]at e1;have hsrc:Src wq D (data.map bv):=(bts_same HDT.out (fun k hk hlt=>f2 k hlt (fun e=>HDC.out k hk e))).src;refine wp_app wq (.tmp 66) (.tmp 68) 23 rfl elBytes base A1 (pre.length+2) c1 (pre.map bv++[.int .u8 255,.int .u8 (data.length:Int)]) (ch_ev e1) ho D data.length dc (data.map bv) (ch_ev e68) hsrc (by simp) (bv_one _) (by omega) (Nat.le_trans hbo f1.size) ?_;intro A' c' w' hown hgr hbel hor;refine⟨_,rfl,?_⟩;rw[ptJ,if_pos (by simp)];refine⟨⟨f1.trans hbel,fun k hk hne=>(hgr.block k (Nat.lt_of_lt_of_le hk f1.size) (fun e=>?_)).trans (f2 k hk hne)⟩,A',c',by simp,by rw[List.length_map];exact hown,fun e=>?_⟩
     ·rcases hor1 with h|h
      ·exact hne (h.symm.trans e.symm)
      ·have:=h k e.symm;omega
     exfalso;have e1:done 10=true:=by simpa[maskB]using e
     have:=hcl 10 _ rfl e1 9 (by decide);rw[hn]at this;cases this
    ·have e1:=fr_cv (i:=9) (t:=69) h (hw 9 (by decide)) rfl rfl;have hd1:maskB [false,false,false,false,false,true,true,false,false,true,true] done 9=true:=by unfold maskB;rw[hw 9 (by decide)];rfl
     rw[ptJ,if_pos hd1]at hJ;obtain⟨fr,A1,c1,y1,ho,_⟩:=hJ;rw[y1]at e1;refine wp_asg (ch_ev e1) ⟨_,rfl,?_⟩;rw[ptJ,if_pos (by simp;simpa using hd1)];exact⟨fr,A1,c1,by simpa using y1,ho,fun _=>by simp⟩
   intro d cv w1 hall hJ;rw[ptJ,if_pos (hall 9 rfl (by decide))]at hJ;obtain⟨⟨f1,f2⟩,A1,c1,y1,ho,y2⟩:=hJ;have y3:=y2 (hall 10 rfl (by decide));have HB1:Hid (Below base w w1):=qH (HBo.out.trans f1);have HL:Hid (pre.length+2+(data.map bv).length=(pre++(255::by_ data.length::data)).length):=qH (by simp;omega);have HO1:Hid (Own w1 base 5 1 A1 (pre++(255::by_ data.length::data)).length c1 ((pre++(255::by_ data.length::data)).map bv)):=qH (by rw[List.map_append,HBV.out,<-HL.out,<-List.append_assoc];exact ho);clear f1 f2 ho y2;simp only[freeAll,pA,fA,Bool.false_eq_true,if_true,if_false,reduceIte,Nat.reduceAdd];rw[y3,HL.out];clear y1 y3;go_wp2_with fail;go_roundw
   case rel=>exact⟨k+1,A1,c1,pre++(255::by_ data.length::data),by omega,by go_num,rfl,qH HPRE1.out.symm,HO1,HB1⟩
   case measure=>simp[intOf];omega
  obtain rfl:k=l.length:=by omega
  have dl:decide ((l.length:Int)<(l.length:Int))=false:=by simp
  have hpre:pre=pb:=by rw[HPB.out,HPRE.out,List.take_length]
  subst hpre;have d1:decide ((400:Int)<(pre.length:Int))=false:=decide_eq_false (by omega);clear hpl;go_wp2_with fail;go_ret2;exact⟨C,cc,rfl,HBE.out▸HO1.out,HBE.out▸HB1.out⟩
theorem x1bo(h:Y:=by
 intro A' c' w' hown hgr hbel hor;exact⟨_,rfl,bxJ_app hown hgr hbel hor hle⟩):Y:=h
theorem x1ql(h:Y:=by
 have e3:=fO 3 (.pointer (some ⟨w.heap.size+1,0,none⟩)) h;go_simp):Y:=h
theorem x21e(h:Y:=by
 go_wp2_with fail;go_quiet (fail)
 go_wp2_with fail;go_roundw
 case rel=>exact⟨m+1,_,by go_num,by omega,by omega,rfl⟩
 case measure=>simp[intOf];omega):Y:=h
theorem x2op(h:Y:=by
 obtain⟨r_,f_,n_,c_,z_,l_⟩:=keep1 (cbJ_bel hJ) RW1.out.1 (by go_simp) RW1.out.2;go_simp):Y:=h
theorem x3tb(h:Y:=by
 obtain⟨r_,f_,n_,c_,z_,l_⟩:=keep1 (cbJ_bel hJ) RH1.out.1 (by simp) RH1.out.2;go_simp):Y:=h
theorem x531(h:Y:=by
 go_wp2_with fail;have hba:=(bW w).alloc nl (.cells (patA p.from_ p.to_ p.old p.new_ p.size B p.ops.length d) 36);refine(K1.out _ (HP.out.stays hba)).mono ?_;rintro e w1 ⟨rfl,hb1⟩;have HB1:=qH (hba.trans (hb1.mono (by simp)));clear hb1;go_wp2_with fail;go_ret2;exact⟨none,0,[],rfl,GRow.nil _ _,Each.nil,HB1.out⟩):Y:=h
theorem x859(h:Y:=by
 obtain rfl:wq=wx.drew:=hJ;exact wp_sb1 e1 ⟨_,rfl,rfl,by simp⟩):Y:=h
theorem x87r(h:Y:=by
 obtain rfl:k1=0:=by omega
 obtain rfl:wq=wx.drew:=hJ;have hx:=HXC.out;go_simp):Y:=h
def bxJ(w0:World)(base:Nat)(A:OA)(n c:Nat)(xs ns:List Value)(ib ia:Nat)(F:World->Prop):Nat->(Nat->Value)->World->Prop
 |0,_,w=>w=w0.drew
 |1,cv,w=>w=w0.drew.alloc (.cells ns.toArray 5)∧cv ib=.slice (some ⟨w0.heap.size,0,none⟩) ns.length ns.length
 |2,cv,w=>∃A' c',cv ia=.slice A' (n+ns.length) c'∧Own w base 5 1 A' (n+ns.length) c' (xs++ns)∧Below base w0 w∧(∀k,k<w0.heap.size->A.map (·.block)≠some k->w.heap[k]?=w0.heap[k]?)∧(A'.map (·.block)=A.map (·.block)∨∀k,A'.map (·.block)=some k->w0.heap.size<=k)
 |_,_,w=>F w
theorem bxJ_box{ib ia:Nat}{F:World->Prop}{T:TypeId}{v:Value}(hk:k<=1)(hJ:bxJ w0 base A n c xs ns ib ia F k cv w)(h:Box w0 g T v):Box w g T v:=by
 match k,hk,hJ with
 |0,_,hJ=>obtain rfl:w=w0.drew:=hJ;exact h
 |1,_,⟨hJ,_⟩=>subst hJ;exact h.drew.alloc _
theorem bxJ_app{A':OA}{c':Nat}{ib ia:Nat}{F:World->Prop}(hown:Own w' base 5 1 A' (n+ns.length) c' (xs++ns))(hgr:(w0.drew.alloc (.cells ns.toArray 5)).grownBy w' (A.map (·.block)))(hbel:Below base (w0.drew.alloc (.cells ns.toArray 5)) w')
  (hor:A'.map (·.block)=A.map (·.block)∨A'.map (·.block)=some (w0.drew.alloc (.cells ns.toArray 5)).heap.size) (hle:base<=w0.heap.size):
  bxJ w0 base A n c xs ns ib ia F 2 (fun j=>if j=ia then .slice A' (n+ns.length) c' else cv j) w':=by
 have hb1:Below base w0 (w0.drew.alloc (.cells ns.toArray 5)):=((Below.refl _ _).drew).alloc hle _;exact x5lc
theorem alike_stop{b:LU}(hk:k<b.length):1<=alike (b.drop k)∧alike (b.drop k)<=127∧k+alike (b.drop k)<=b.length∧(∀m,m<alike (b.drop k)->b[k+m]?=some b[k])∧
  (alike (b.drop k)=127∨(alike (b.drop k)<127∧k+alike (b.drop k)=b.length)∨(alike (b.drop k)<127∧∃h:k+alike (b.drop k)<b.length,b[k+alike (b.drop k)]≠b[k])):=by
 have e:b.drop k=b[k]::b.drop (k+1):=List.drop_eq_getElem_cons hk;have hle:=alike_le (b.drop k);rw[List.length_drop]at hle;have ea:alike (b.drop k)=cntEq b[k] (b.drop (k+1)) 126+1:=by rw[e];rfl
 have hat:=cntEq_at b[k] (b.drop (k+1)) 126;have hst:=cntEq_stop b[k] (b.drop (k+1)) 126;refine⟨by omega,hle.1,by omega,fun m hm=>?_,?_⟩
 ·rcases m with _|m
  ·simp[hk]
  ·have:=(hat m (by omega)).2;rw[List.getElem?_drop]at this;rw[show k+(m+1)=k+1+m by omega];exact this
 by_cases h1:alike (b.drop k)=127
 ·exact .inl h1
 by_cases h1:k+alike (b.drop k)=b.length
 ·exact .inr (.inl ⟨by omega,h1⟩)
 refine .inr (.inr ⟨by omega,by omega,fun e2=>?_⟩);have:=hst (by omega);rw[List.getElem?_drop,show k+1+cntEq b[k] (b.drop (k+1)) 126=k+alike (b.drop k) by omega,List.getElem?_eq_getElem (by omega),e2]at this;exact this rfl
