/- Walks of functions, and plain words. No conditions. -/
import Derived.Test.YtefkfglkpebbmaaGreatPE3
import Derived.Test.YtefkfglkpebbmaaGreatP7
set_option linter.unusedVariables false
set_option linter.unusedSimpArgs false
set_option maxRecDepth 100000
set_option maxHeartbeats 40000000
namespace Go.Proofs.YtefkfglkpebbmaaGreat
open Go.RowKit
variable {Y:Prop}
variable {w:World} {c g:Nat}
theorem x0p8(h:Y:=by
 intro done cv k a wq hw h hJ hn;have e1:=mx_new (i:=0) (t:=64) h (hw 0 (by decide)) rfl rfl rfl;have e65:=mx_new (i:=1) (t:=65) h (hw 1 (by decide)) rfl rfl rfl;go_simp):Y:=h
theorem x0s2(h:Y:=by
 intro done cv k a wq hw h hJ hn;have e1:=mx_new (i:=4) (t:=68) h (hw 4 (by decide)) rfl rfl rfl;go_simp):Y:=h
theorem x1by(h:Y:=by
 intro done cv k a wq hw h hJ hn;have e1:=mx_new (i:=5) (t:=69) h (hw 5 (by decide)) rfl rfl rfl;have hk:=hn 12 _ 1 rfl rfl (by decide);have hc:=diffJ_cell2 hk hJ kc2 kg2;go_simp):Y:=h
theorem x1jt(h:Y:=by
 intro done cv k a wq hw h hJ hn;have e1:=mx_old (t:=7) (v:=.int .i64 (i:Int)) h rfl rfl;exact mx_move (ch_ev e1)):Y:=h
theorem x22o(h:Y:=by
 intro done cv k a wq hw h hJ hn;have e1:=mx_new (i:=13) (t:=77) h (hw 13 (by decide)) rfl rfl rfl;go_simp):Y:=h
theorem x2v0(h:Y:=by
 have kf1:wq.frozen? ⟨g2,l.length*3+2,none⟩=false:=by
  have:=KFZ.out (l.length*3+2);unfold World.frozen? at this⊢;rw[hkk];exact this
 have HD1:=HDc.out.below (((Below.refl w1.heap.size w1).drew).alloc (Nat.le_refl _) (.cells #[bv b[i]] 5));have HDn:=HD1.add hown hgr hor;have HBn:Below w.heap.size w wq:=(HBc.out.drew.alloc hsz1 _).trans hbel;exact wp_stb e1 e76 kc1 kf1 ⟨undef,rfl,B',c',HDn,HBn.setCell kg1 _⟩):Y:=h
theorem x2wx(h:Y:=by
 intro done cv k a wq hw h hJ hn;have e1:=mx_new (i:=7) (t:=71) h (hw 7 (by decide)) rfl rfl rfl;have e72:=mx_new (i:=8) (t:=72) h (hw 8 (by decide)) rfl rfl rfl;go_simp):Y:=h
theorem x49r(h:Y:=by
 intro done cv k a wq hw h hJ hn;have e1:=mx_old (t:=6) (v:=.slice (some ⟨g2,0,none⟩) (l.length+1) cc1) h rfl rfl;exact mx_move (ch_ev e1)):Y:=h
theorem x4cb(h:Y:=by
 intro done cv k a wq hw h hJ hn;have e1:=mx_new (i:=9) (t:=73) h (hw 9 (by decide)) rfl rfl rfl;have hk:=hn 11 _ 0 rfl rfl (by decide);obtain rfl:k=0:=by omega
 obtain rfl:wq=w1.drew:=hJ;go_simp):Y:=h
theorem x5i6(h:Y:=by
 intro B' c' w1 hown hgr hbel hor;exact⟨_,rfl,B',c',by simp,hown,hgr,hbel,hor⟩):Y:=h
theorem x5qp(h:Y:=by
 intro done cv k a wq hw h hJ hn;have e1:=mx_old (t:=6) (v:=.slice (some ⟨g,0,none⟩) (l1.length+1) cc) h rfl rfl;exact mx_move (ch_ev e1)):Y:=h
theorem x5y2(h:Y:=by
 have hl:=blk_far HD1.out.row hgr (bb:=bb) hbw (by have:=HB1.out.size;omega);exact(World.cell?_of_block hl).trans HBB.out):Y:=h
theorem x6w3(h:Y:=by
 rintro cv w1 ⟨B',c',HDn',HBn'⟩;have HDn:=qH HDn';have HBn:=qH HBn';clear HDn' HBn' kc2 kg1 kg2 hbx';simp only[mixAll,putAll_some,putAll_none,putAll_nil,List.getElem?_cons_zero,List.getElem?_cons_succ,Nat.zero_add,Nat.reduceAdd,List.setIfInBounds_toArray,List.set_cons_zero,List.set_cons_succ];go_wp2_with fail;go_roundw
 case rel=>
  have hget:b.getD i 0=b[i]:=by rw[List.getD_eq_getElem?_getD,List.getElem?_eq_getElem hlt];rfl
  refine⟨q+1,some ⟨g2,0,none⟩,cc1,ds++[(B',c')],by rw[HQ.out];go_num,by rw[HQ.out];simp,?_,HBn⟩;rw[HQ.out,hget];exact HDn.out
 case measure=>simp[intOf];omega):Y:=h
theorem x75y(h:Y:=by
 intro done cv a wq hw h hJ;have e1:=mx_new (i:=10) (t:=74) h (hw 10 (by decide)) rfl rfl rfl;obtain rfl:wq=w1.drew:=hJ;exact wp_slb e1 ⟨_,rfl,rfl,by simp⟩):Y:=h
theorem x7ji(h:Y:=by
 intro done cv k a wq hw h hJ hn;have e1:=mx_old (t:=12) (v:=.int .i64 (l.length:Int)) h rfl rfl;exact mx_move (ch_ev e1)):Y:=h
theorem x8rd(h:Y:=by
 rw[((Below.refl (wr.drewN nd).heap.size (wr.drewN nd)).alloc (Nat.le_refl _) (.cells #[iv 0,iv 0,.slice none 0 0] 143)).cell (p:=⟨bb,bo+i,none⟩) hbs];exact hbx'):Y:=h
theorem x97z(h:Y:=by
 intro done cv k a wq hw h hJ hn;have e1:=mx_new (i:=2) (t:=66) h (hw 2 (by decide)) rfl rfl rfl;have e67:=mx_new (i:=3) (t:=67) h (hw 3 (by decide)) rfl rfl rfl;go_simp):Y:=h
theorem x98c(h:Y:=by
 intro done cv k a wq hw h hJ hn;have e1:=mx_old (t:=1) (v:=.slice (some ⟨bb,bo,none⟩) b.length d) h rfl rfl;exact mx_move (ch_ev e1)):Y:=h
theorem x9y2(h:Y:=by
 intro done cv k a wq hw h hJ hn;have e1:=mx_old (t:=12) (v:=.int .i64 (l1.length:Int)) h rfl rfl;exact mx_move (ch_ev e1)):Y:=h
theorem blk_far{w':World}{base e size n:Nat}{A:OA}{xs:List Value}(h:Own w base e size A n c xs)(hg:w.grownBy w' (A.map (·.block))){bb:Nat}(hb:bb<base)(hw:base<=w.heap.size):w'.heap[bb]?=w.heap[bb]?:=by
 refine hg.block bb (by omega) ?_;intro e;have:=(h.block bb e.symm).1;omega
def diffJ(w0 w2:World)(l0:List Stp)(o:Stp)(ds0:List (Option Addr×Nat))(d0:Option Addr×Nat)(g cc:Nat)(x:UInt8):Nat->(Nat->Value)->World->Prop
 |0,_,w=>w=w2.drew
 |1,cv,w=>w=w2.drew.alloc (.cells #[bv x] 5)∧cv 11=.slice (some ⟨w2.heap.size,0,none⟩) 1 1
 |2,cv,w=>∃B' c',cv 12=.slice B' (o.data.length+1) c'∧Own w w0.heap.size 5 1 B' (o.data.length+1) c' (o.data.map bv++[bv x])∧(w2.drew.alloc (.cells #[bv x] 5)).grownBy w (d0.1.map (·.block))∧Below w0.heap.size (w2.drew.alloc (.cells #[bv x] 5)) w∧
  (B'.map (·.block)=d0.1.map (·.block)∨B'.map (·.block)=some (w2.drew.alloc (.cells #[bv x] 5)).heap.size)
 |_,_,w=>∃B' c',DRow w w0.heap.size (l0++[⟨o.at_,o.len,o.data++[x]⟩]) (ds0++[(B',c')]) (some ⟨g,0,none⟩) cc∧Below w0.heap.size w0 w
theorem diffJ_cell2{w0 w2:World}{l0:List Stp}{o:Stp}{ds0:List (Option Addr×Nat)}{d0:Option Addr×Nat}{cc:Nat}{x:UInt8}{k:Nat}{cv:Nat->Value}(hk:k<=1)(h:diffJ w0 w2 l0 o ds0 d0 g cc x k cv w){j:Nat}{v:Value}(hc:w2.cell? ⟨g,j,none⟩=some v)(hg:g<w2.heap.size):w.cell? ⟨g,j,none⟩=some v:=by
 match k,hk,h with
 |0,_,h=>obtain rfl:w=w2.drew:=h;exact hc
 |1,_,⟨h,_⟩=>rw[h,(((Below.refl w2.heap.size w2).drew).alloc (Nat.le_refl _) _).cell (p:=⟨g,j,none⟩) hg];exact hc
theorem wp_slb{a:Act}{K:Act->World->Prop}{Q:Exit->Act->World->Prop}{t:TypeId}{p:String}{af:Array Edge}{gd:Option (Nat×Bool)}{d s:Tmp}{n:UInt8}(hs:a.tmps[s]?=some (bv n))
  (h:K (a.put (some d) (.slice (some ⟨w.heap.size,0,none⟩) 1 1)) (w.alloc (.cells #[bv n] 5))):
  Oper.wp Tryz.prog ⟨some d,.buildSlice 23 1 #[(0,.tmp s)],t,p,af,gd⟩ a w K Q:=by
 exact x9jn
theorem wp_stb{a:Act}{K:Act->World->Prop}{Q:Exit->Act->World->Prop}{t:TypeId}{p:String}{af:Array Edge}{gd:Option (Nat×Bool)}{x y:Tmp}{j:Nat}{B:OA}{n:Nat}{u:Value}(hx:a.tmps[x]?=some (.pointer (some ⟨g,j,none⟩)))(hy:a.tmps[y]?=some (.slice B n c))
  (hc:w.cell? ⟨g,j,none⟩=some u) (hf:w.frozen? ⟨g,j,none⟩=false) (h:K a (w.setCell ⟨g,j,none⟩ (.slice B n c))):
  Oper.wp Tryz.prog ⟨none,.store 23 (.tmp x) (.tmp y),t,p,af,gd⟩ a w K Q:=by
 exact x7jp
theorem addByte_last(l:List Stp)(o:Stp)(x:UInt8)(h:¬0<o.len):addByte (l++[o]) x=l++[⟨o.at_,o.len,o.data++[x]⟩]:=by rw[addByte_snoc,if_neg h]
theorem addByte_new(l:List Stp)(o:Stp)(x:UInt8)(h:0<o.len):addByte (l++[o]) x=(l++[o])++[⟨0,0,[]++[x]⟩]:=by rw[addByte_snoc,if_pos h];simp
theorem drow_cell{base:Nat}{l:List Stp}{o:Stp}{ds:List (Option Addr×Nat)}(h:DRow w base (l++[o]) ds (some ⟨g,0,none⟩) c):∃ds0 d,ds=ds0++[d]∧ds0.length=l.length∧
  w.cell? ⟨g,l.length*3,none⟩=some (iv o.at_)∧w.cell? ⟨g,l.length*3+1,none⟩=some (iv o.len)∧w.cell? ⟨g,l.length*3+2,none⟩=some (.slice d.1 o.data.length d.2)∧(∀j,w.frozen? ⟨g,j,none⟩=false)∧Own w base 5 1 d.1 o.data.length d.2 (o.data.map bv):=by
 have hne:ds≠[]:=by intro e;have:=h.len;rw[e]at this;simp at this
 obtain⟨ds1,d,rfl⟩:=snoc_of ds hne;have hl:ds1.length=l.length:=by have:=h.len;simpa using this
 have hd:(ds1++[d])[l.length]?=some d:=by rw[<-hl];simp
 have hc:∀j,j<3->w.cell? ⟨g,l.length*3+j,none⟩=(opCell o d)[j]?:=fun j hj=>by
  rw[h.row.cellAt _ (by simp;omega)];exact opCells_at _ _ h.len l.length j o d (by simp) hd hj
 exact⟨ds1,d,rfl,hl,hc 0 (by omega),hc 1 (by omega),hc 2 (by omega),fun j=>h.row.frozenAt j,h.data l.length o d (by simp) hd⟩
theorem diff3_calls(A B:OA)(c d:Nat)(old b:LU)(w:World)(ho:old.length<=64)(hb:b.length<=64)(hA:Bts w A old)(hB:Bts w B b):
  Calls Tryz.prog 122 #[.slice A old.length c,.slice B b.length d] w (OpRet3 w (diffed old b) 0):=by
 have h1:¬(64:Int)<(old.length:Int):=by omega
 have h2:¬(64:Int)<(b.length:Int):=by omega
 go_enter Tryz.func122,Tryz.ntmps122;go_wp2_with fail;go_loopw [6,7] (fun v i wr=>∃(q:Nat) (C:OA) (cc:Nat) (ds:List (Option Addr×Nat)),i=.int .i64 ((diffN old b q).1:Int)∧v=.slice C (diffN old b q).2.length cc∧DRow wr w.heap.size (diffN old b q).2 ds C cc∧Hid (Below w.heap.size w wr)) (fun _ i _=>b.length-(intOf i).toNat)
 case atStart=>exact⟨0,none,0,[],rfl,rfl,DRow.nil _ _,qH (Below.refl _ _)⟩
 case round=>
  obtain⟨q,C,cc,ds,rfl,rfl,hD,HB⟩:=hrel;have hinv:=diffN_inv old b q;have hle:=hinv.le;have hsz:=HB.out.size;by_cases hlt:(diffN old b q).1<b.length
  ·have hlen:(diffN old b q).2.length<=64:=by
    have:=diffN_len old b q;have:=diffN_mono old b q hlt;omega
   have hlong:=fun h4=>diffStep_long (old:=old) (b:=b) hlt h4;have hbyte:=fun h4=>diffStep_byte (old:=old) (b:=b) hlt h4;have hM:∀o∈(diffN old b q).2,o.data.length<=64:=fun o ho=>by
    have h1:=data_le old _ o ho;rw[hinv.gives]at h1;simp at h1;omega
   have HM:=qH hM;clear hM;have hst:diffN old b (q+1)=diffStep old b (diffN old b q):=rfl;have hin:=longest_in old b (diffN old b q).1;have hcl:=fun wq h1 h2=>longest_calls A B c d old b wq (diffN old b q).1 ho hb hle h1 h2;rw[<-hst]at hlong hbyte;clear hst hinv;generalize diffN old b q=p at *
   obtain⟨i,l⟩:=p;dsimp only at *
   generalize longest old b i=lg at *
   obtain⟨wh,m⟩:=lg;dsimp only at *
   have HL:=qH hlong;have HY:=qH hbyte;have HK:=qH hcl;have HD:=qH hD;have hA':=hA.stays HB.out;have hB':=hB.stays HB.out;obtain⟨hi1,hi2⟩:=hin;clear hlong hbyte hcl hD;obtain⟨bb,bo,rfl,hbw,hbx1⟩:=hB i hlt;have hbx:wr.cell? ⟨bb,bo+i,none⟩=some (bv b[i]):=(HB.out.cell (p:=⟨bb,bo+i,none⟩) hbw).trans hbx1;have hbs:bb<wr.heap.size:=Nat.lt_of_lt_of_le hbw hsz;go_wp2_with fail;refine(HK.out _ hA' hB').mono ?_;rintro e w1 ⟨rfl,nd,rfl⟩;clear hA' hB';by_cases h1:4<=m
   ·have h4':(4:Int)<=(m:Int):=by omega
    have HP:=qH (HL.out h1);have hb1:Below w.heap.size w (((wr.drewN nd)).alloc (.cells #[iv wh,iv m,.slice none 0 0] 143)):=(Below.drewN' HB.out nd).alloc hsz _;have hD1:=(HD.out.drewN nd).below ((Below.refl (wr.drewN nd).heap.size (wr.drewN nd)).alloc (Nat.le_refl _) (.cells #[iv wh,iv m,.slice none 0 0] 143));have HB2:=qH hb1;have HD2:=qH hD1;clear hb1 hD1;go_wp2_with (at_builtin;go_must (refine wpList_app _ rfl (.tmp 35) (.tmp 39) 34 rfl elOps w.heap.size C l.length cc (opCells l ds) rfl HD2.out.row (some ⟨wr.heap.size,0,none⟩) 1 1 [iv wh,iv m,.slice none 0 0] rfl (src_blk (blk_top (by simp))) rfl (by simp[Value.oneCell']) (by omega) (by simp;omega) ?_));intro C' cc' w' hown hgr hbel hor;have HD1:=qH (HD2.out.push hown hgr (by simpa using hor));have HB1:Hid (Below w.heap.size w w'):=qH (HB2.out.trans hbel);clear hown hgr hbel hor;go_wp2_with fail;go_roundw
    case rel=>exact⟨q+1,C',cc',_,by rw[HP.out];go_num,by rw[HP.out];simp,by rw[HP.out];exact HD1.out,HB1⟩
    case measure=>simp[intOf];omega
   have h4':¬(4:Int)<=(m:Int):=by omega
   have HP:=qH (HY.out h1);clear HL HY;have hbx':(wr.drewN nd).cell? ⟨bb,bo+i,none⟩=some (bv b[i]):=hbx;by_cases hl2:l=[]
   ·obtain⟨o,ho1⟩:∃o:Stp,o=⟨0,0,[]⟩:=⟨_,rfl⟩;have HQ:Hid (diffN old b (q+1)=(i+1,l++[⟨o.at_,o.len,o.data++[b.getD i 0]⟩])):=by
     rw[ho1];rw[hl2]at HP⊢;exact HP.out
    have hl1:(l.length:Int)-1<0:=by rw[hl2];simp
    have hod:o.data.length<=64:=by rw[ho1];simp
    clear HP hl2;have hb1:Below w.heap.size w (((wr.drewN nd)).alloc (.cells #[iv 0,iv 0,.slice none 0 0] 143)):=(Below.drewN' HB.out nd).alloc hsz _;have hD1:=(HD.out.drewN nd).below ((Below.refl (wr.drewN nd).heap.size (wr.drewN nd)).alloc (Nat.le_refl _) (.cells #[iv 0,iv 0,.slice none 0 0] 143));have HB1:=qH hb1;have HD1:=qH hD1;have hbb:((wr.drewN nd).alloc (.cells #[iv 0,iv 0,.slice none 0 0] 143)).cell? ⟨bb,bo+i,none⟩=some (bv b[i]):=by
     exact x8rd
    have HBB:=qH hbb;clear hb1 hD1 hbb;go_wp2_with (at_builtin;go_must (refine wpList_app _ rfl (.tmp 57) (.tmp 59) 34 rfl elOps w.heap.size C l.length cc (opCells l ds) rfl HD1.out.row (some ⟨wr.heap.size,0,none⟩) 1 1 [iv 0,iv 0,.slice none 0 0] rfl (src_blk (blk_top (by simp))) rfl (by simp[Value.oneCell']) (by omega) (by simp;omega) ?_));intro C' cc1 w1 hown hgr hbel hor;obtain⟨g2,rfl,hg1,hg2⟩:=hown.form (by omega);have HDc:=qH (HD1.out.push hown hgr (by simpa using hor));have HBc:Hid (Below w.heap.size w w1):=qH (HB1.out.trans hbel);have hbx1:w1.cell? ⟨bb,bo+i,none⟩=some (bv b[i]):=by
     exact x5y2
    clear hown hgr hbel hor HBB hbx hbx' HD HD1 HB1 hl1;have hbx':=hbx1;clear hbx1;rw[<-ho1]at HDc;clear ho1;obtain⟨d2,hd2⟩:∃d0:Option Addr×Nat,(none,0)=d0:=⟨_,rfl⟩;rw[hd2]at HDc;clear hd2;obtain⟨ds1,d1,hds,hdl1,kc4,kc1,kc2,kfz,kdo⟩:=drow_cell HDc.out;obtain⟨rfl,hd1⟩:=List.append_inj' hds rfl;obtain rfl:d2=d1:=by simpa using hd1
    have kg:=(HDc.out.row.block g2 rfl);obtain⟨kg1,kg2⟩:=kg;have kne:d2.1.map (·.block)≠some g2:=fun e=>HDc.out.off l.length d2 (by rw[<-hdl1];simp) g2 e rfl;have KNE:=qH kne;have KDO:=qH kdo;have KFZ:=qH kfz;have hsz1:=HBc.out.size;clear hds hd1 kc4 kc1 kdo kne kfz hdl1;have hix:¬(l.length:Int)+1<=(l.length:Int):=by omega
    go_wp2_with fail;refine wp_region_mix (by kernel_rfl) (some 64::some 65::some 66::some 67::some 68::some 69::some 70::some 71::some 72::some 73::some 74::some 75::some 76::some 77::some 78::none::[]) (none::none::none::none::none::none::none::none::none::none::none::some 0::some 1::none::none::some 2::[]) (.slice (some ⟨g2,0,none⟩) (l.length+1) cc1::.int .i64 (l.length:Int)::.slice (some ⟨g2,0,none⟩) (l.length+1) cc1::.int .i64 (l.length:Int)::.pointer (some ⟨g2,l.length*3,none⟩)::.pointer (some ⟨g2,l.length*3+2,none⟩)::.slice d2.1 o.data.length d2.2::.slice (some ⟨bb,bo,none⟩) b.length d::.int .i64 (i:Int)::.pointer (some ⟨bb,bo+i,none⟩)::bv b[i]::undef::undef::.pointer (some ⟨g2,l.length*3,none⟩)::.pointer (some ⟨g2,l.length*3+2,none⟩)::undef::[]) 3 (diffJ w w1 l o ds d2 g2 cc1 b[i]) 82 rfl rfl (by decide+kernel) (by decide+kernel) (by decide+kernel) (by decide+kernel) rfl rfl (by decide+kernel) (by decide+kernel) (rfl) ?_ ?_
    ·refine⟨?_,?_,?_,?_,?_,?_,?_,?_,?_,?_,?_,?_,?_,?_,?_,?_,trivial⟩
     ·exact x49r
     ·exact x7ji
     ·exact x49r
     ·exact x7ji
     ·exact x97z
     ·exact x0s2
     ·exact x1by
     ·exact x98c
     ·exact x1jt
     ·exact x2wx
     ·exact x4cb
     ·exact x75y
     ·intro done cv a wq hw h hJ;have e1:=mx_new (i:=6) (t:=70) h (hw 6 (by decide)) rfl rfl rfl;have e75:=mx_cv (i:=11) (t:=75) h (hw 11 (by decide)) rfl rfl;obtain⟨rfl,hv⟩:=hJ;rw[hv]at e75;refine wp_app _ (.tmp 70) (.tmp 75) 23 rfl elBytes w.heap.size d2.1 o.data.length d2.2 (o.data.map bv) (ch_ev e1) (KDO.out.drew.alloc _) (some ⟨w1.heap.size,0,none⟩) 1 1 [bv b[i]] (ch_ev e75) (src_blk (blk_top (by simp))) rfl (by simp[Value.oneCell']) (by omega) (by simp;omega) ?_;exact x5i6
     ·exact x0p8
     ·exact x22o
     ·intro done cv a wq hw h hJ;have e1:=mx_new (i:=14) (t:=78) h (hw 14 (by decide)) rfl rfl rfl;have e76:=mx_cv (i:=12) (t:=76) h (hw 12 (by decide)) rfl rfl;obtain⟨B',c',hv,hown,hgr,hbel,hor⟩:=hJ;rw[hv]at e76;have hk1:wq.heap[g2]?=(w1.drew.alloc (.cells #[bv b[i]] 5)).heap[g2]?:=hgr.block g2 (by simp;omega) (fun e=>KNE.out e.symm);have hk2:(w1.drew.alloc (.cells #[bv b[i]] 5)).heap[g2]?=w1.heap[g2]?:=Below.heap_alloc w1.drew _ g2 kg2;have hkk:wq.heap[g2]?=w1.heap[g2]?:=hk1.trans hk2;have kc1:wq.cell? ⟨g2,l.length*3+2,none⟩=some (.slice d2.1 o.data.length d2.2):=(World.cell?_of_block hkk).trans kc2;exact x2v0
    exact x6w3
   have hlp:1<=l.length:=by
    rcases l with _|⟨x,l⟩
    ·exact absurd rfl hl2
    simp
   obtain⟨l1,o,hlo⟩:=snoc_of l hl2;have hD1:=HD.out;obtain⟨g,rfl,hg1,hg2⟩:=hD1.row.form hlp;have hD2:=hD1.drewN nd;rw[hlo]at hD2;obtain⟨ds2,d2,hdse,hdl,hc3,hc1,hc2,hfz,hdo⟩:=drow_cell hD2;have hll:l1.length=l.length-1:=by rw[hlo];simp
   rw[hll]at hc1;by_cases hol:0<o.len
   ·obtain⟨o1,ho1⟩:∃o:Stp,o=⟨0,0,[]⟩:=⟨_,rfl⟩;have HQ:Hid (diffN old b (q+1)=(i+1,l++[⟨o1.at_,o1.len,o1.data++[b.getD i 0]⟩])):=qH (HP.out.trans (by rw[ho1,hlo,addByte_new _ _ _ hol]));have hod:o1.data.length<=64:=by rw[ho1];simp
    have hl1:¬(l.length:Int)-1<0:=by omega
    clear HP hl2 hD1 hD2 hlo hdse hdl hc3 hc2 hfz hdo hll;have hb1:Below w.heap.size w (((wr.drewN nd)).alloc (.cells #[iv 0,iv 0,.slice none 0 0] 143)):=(Below.drewN' HB.out nd).alloc hsz _;have hD1:=(HD.out.drewN nd).below ((Below.refl (wr.drewN nd).heap.size (wr.drewN nd)).alloc (Nat.le_refl _) (.cells #[iv 0,iv 0,.slice none 0 0] 143));have HB1:=qH hb1;have HD1:=qH hD1;have hbb:((wr.drewN nd).alloc (.cells #[iv 0,iv 0,.slice none 0 0] 143)).cell? ⟨bb,bo+i,none⟩=some (bv b[i]):=by
     exact x8rd
    have HBB:=qH hbb;clear hb1 hD1 hbb;go_wp2_with (at_builtin;go_must (refine wpList_app _ rfl (.tmp 57) (.tmp 59) 34 rfl elOps w.heap.size _ l.length cc (opCells l ds) rfl HD1.out.row (some ⟨wr.heap.size,0,none⟩) 1 1 [iv 0,iv 0,.slice none 0 0] rfl (src_blk (blk_top (by simp))) rfl (by simp[Value.oneCell']) (by omega) (by simp;omega) ?_));intro C' cc1 w1 hown hgr hbel hor;obtain⟨g2,rfl,hg1,hg2⟩:=hown.form (by omega);have HDc:=qH (HD1.out.push hown hgr (by simpa using hor));have HBc:Hid (Below w.heap.size w w1):=qH (HB1.out.trans hbel);have hbx1:w1.cell? ⟨bb,bo+i,none⟩=some (bv b[i]):=by
     exact x5y2
    clear hown hgr hbel hor HBB hbx hbx' HD HD1 HB1 hl1 hol hlp;have hbx':=hbx1;clear hbx1;rw[<-ho1]at HDc;clear ho1;obtain⟨d2,hd2⟩:∃d9:Option Addr×Nat,(none,0)=d9:=⟨_,rfl⟩;rw[hd2]at HDc;clear hd2;obtain⟨ds1,d1,hds,hdl1,kc4,kc1,kc2,kfz,kdo⟩:=drow_cell HDc.out;obtain⟨rfl,hd1⟩:=List.append_inj' hds rfl;obtain rfl:d2=d1:=by simpa using hd1
    have kg:=(HDc.out.row.block g2 rfl);obtain⟨kg1,kg2⟩:=kg;have kne:d2.1.map (·.block)≠some g2:=fun e=>HDc.out.off l.length d2 (by rw[<-hdl1];simp) g2 e rfl;have KNE:=qH kne;have KDO:=qH kdo;have KFZ:=qH kfz;have hsz1:=HBc.out.size;clear hds hd1 kc4 kc1 kdo kne kfz hdl1;have hix:¬(l.length:Int)+1<=(l.length:Int):=by omega
    go_wp2_with fail;refine wp_region_mix (by kernel_rfl) (some 64::some 65::some 66::some 67::some 68::some 69::some 70::some 71::some 72::some 73::some 74::some 75::some 76::some 77::some 78::none::[]) (none::none::none::none::none::none::none::none::none::none::none::some 0::some 1::none::none::some 2::[]) (.slice (some ⟨g2,0,none⟩) (l.length+1) cc1::.int .i64 (l.length:Int)::.slice (some ⟨g2,0,none⟩) (l.length+1) cc1::.int .i64 (l.length:Int)::.pointer (some ⟨g2,l.length*3,none⟩)::.pointer (some ⟨g2,l.length*3+2,none⟩)::.slice d2.1 o1.data.length d2.2::.slice (some ⟨bb,bo,none⟩) b.length d::.int .i64 (i:Int)::.pointer (some ⟨bb,bo+i,none⟩)::bv b[i]::undef::undef::.pointer (some ⟨g2,l.length*3,none⟩)::.pointer (some ⟨g2,l.length*3+2,none⟩)::undef::[]) 3 (diffJ w w1 l o1 ds d2 g2 cc1 b[i]) 82 rfl rfl (by decide+kernel) (by decide+kernel) (by decide+kernel) (by decide+kernel) rfl rfl (by decide+kernel) (by decide+kernel) (rfl) ?_ ?_
    ·refine⟨?_,?_,?_,?_,?_,?_,?_,?_,?_,?_,?_,?_,?_,?_,?_,?_,trivial⟩
     ·exact x49r
     ·exact x7ji
     ·exact x49r
     ·exact x7ji
     ·exact x97z
     ·exact x0s2
     ·exact x1by
     ·exact x98c
     ·exact x1jt
     ·exact x2wx
     ·exact x4cb
     ·exact x75y
     ·intro done cv a wq hw h hJ;have e1:=mx_new (i:=6) (t:=70) h (hw 6 (by decide)) rfl rfl rfl;have e75:=mx_cv (i:=11) (t:=75) h (hw 11 (by decide)) rfl rfl;obtain⟨rfl,hv⟩:=hJ;rw[hv]at e75;refine wp_app _ (.tmp 70) (.tmp 75) 23 rfl elBytes w.heap.size d2.1 o1.data.length d2.2 (o1.data.map bv) (ch_ev e1) (KDO.out.drew.alloc _) (some ⟨w1.heap.size,0,none⟩) 1 1 [bv b[i]] (ch_ev e75) (src_blk (blk_top (by simp))) rfl (by simp[Value.oneCell']) (by omega) (by simp;omega) ?_;exact x5i6
     ·exact x0p8
     ·exact x22o
     ·intro done cv a wq hw h hJ;have e1:=mx_new (i:=14) (t:=78) h (hw 14 (by decide)) rfl rfl rfl;have e76:=mx_cv (i:=12) (t:=76) h (hw 12 (by decide)) rfl rfl;obtain⟨B',c',hv,hown,hgr,hbel,hor⟩:=hJ;rw[hv]at e76;have hk1:wq.heap[g2]?=(w1.drew.alloc (.cells #[bv b[i]] 5)).heap[g2]?:=hgr.block g2 (by simp;omega) (fun e=>KNE.out e.symm);have hk2:(w1.drew.alloc (.cells #[bv b[i]] 5)).heap[g2]?=w1.heap[g2]?:=Below.heap_alloc w1.drew _ g2 kg2;have hkk:wq.heap[g2]?=w1.heap[g2]?:=hk1.trans hk2;have kc1:wq.cell? ⟨g2,l.length*3+2,none⟩=some (.slice d2.1 o1.data.length d2.2):=(World.cell?_of_block hkk).trans kc2;exact x2v0
    exact x6w3
   subst hlo;have hD3:=HD.out;rw[hdse]at hD3;clear HD;have HD:=qH hD3;have HQ:=qH (HP.out.trans (by rw[addByte_last _ _ _ hol]));have hod:=HM.out o (by simp);simp only[List.length_append,List.length_cons,List.length_nil]at hlen;clear HP hl2 hfz hc3 hc2 hdo hdl hD1 hD2 hD3 hll hlp;have hc1':(wr.drewN nd).cell? ⟨g,l1.length*3+1,none⟩=some (iv o.len):=by simpa using hc1
   clear hc1;have HDc:=qH (HD.out.drewN nd);have HBc:Hid (Below w.heap.size w (wr.drewN nd)):=qH (Below.drewN' HB.out nd);clear hbx HD;subst hdse;generalize wr.drewN nd=w2 at *
   obtain⟨ds1,d1,hds,hdl1,kc4,kc1,kc2,kfz,kdo⟩:=drow_cell HDc.out;obtain⟨rfl,hd1⟩:=List.append_inj' hds rfl;obtain rfl:d2=d1:=by simpa using hd1
   have kg:=(HDc.out.row.block g rfl);obtain⟨kg1,kg2⟩:=kg;have kne:d2.1.map (·.block)≠some g:=fun e=>HDc.out.off l1.length d2 (by rw[<-hdl1];simp) g e rfl;have KNE:=qH kne;have KDO:=qH kdo;have KFZ:=qH kfz;have hsz1:=HBc.out.size;clear hds hd1 kc4 kc1 kdo kne kfz hdl1;have hix:¬(l1.length:Int)+1<=(l1.length:Int):=by omega
   go_wp2_with fail;refine wp_region_mix (by kernel_rfl) (some 64::some 65::some 66::some 67::some 68::some 69::some 70::some 71::some 72::some 73::some 74::some 75::some 76::some 77::some 78::none::[]) (none::none::none::none::none::none::none::none::none::none::none::some 0::some 1::none::none::some 2::[]) (.slice (some ⟨g,0,none⟩) (l1.length+1) cc::.int .i64 (l1.length:Int)::.slice (some ⟨g,0,none⟩) (l1.length+1) cc::.int .i64 (l1.length:Int)::.pointer (some ⟨g,l1.length*3,none⟩)::.pointer (some ⟨g,l1.length*3+2,none⟩)::.slice d2.1 o.data.length d2.2::.slice (some ⟨bb,bo,none⟩) b.length d::.int .i64 (i:Int)::.pointer (some ⟨bb,bo+i,none⟩)::bv b[i]::undef::undef::.pointer (some ⟨g,l1.length*3,none⟩)::.pointer (some ⟨g,l1.length*3+2,none⟩)::undef::[]) 3 (diffJ w w2 l1 o ds2 d2 g cc b[i]) 82 rfl rfl (by decide+kernel) (by decide+kernel) (by decide+kernel) (by decide+kernel) rfl rfl (by decide+kernel) (by decide+kernel) (rfl) ?_ ?_
   ·refine⟨?_,?_,?_,?_,?_,?_,?_,?_,?_,?_,?_,?_,?_,?_,?_,?_,trivial⟩
    ·exact x5qp
    ·exact x9y2
    ·exact x5qp
    ·exact x9y2
    ·exact x97z
    ·exact x0s2
    ·exact x1by
    ·exact x98c
    ·exact x1jt
    ·exact x2wx
    ·intro done cv k a wq hw h hJ hn;have e1:=mx_new (i:=9) (t:=73) h (hw 9 (by decide)) rfl rfl rfl;have hk:=hn 11 _ 0 rfl rfl (by decide);obtain rfl:k=0:=by omega
     obtain rfl:wq=w2.drew:=hJ;go_simp
    ·intro done cv a wq hw h hJ;have e1:=mx_new (i:=10) (t:=74) h (hw 10 (by decide)) rfl rfl rfl;obtain rfl:wq=w2.drew:=hJ;exact wp_slb e1 ⟨_,rfl,rfl,by simp⟩
    ·intro done cv a wq hw h hJ;have e1:=mx_new (i:=6) (t:=70) h (hw 6 (by decide)) rfl rfl rfl;have e75:=mx_cv (i:=11) (t:=75) h (hw 11 (by decide)) rfl rfl;obtain⟨rfl,hv⟩:=hJ;rw[hv]at e75;refine wp_app _ (.tmp 70) (.tmp 75) 23 rfl elBytes w.heap.size d2.1 o.data.length d2.2 (o.data.map bv) (ch_ev e1) (KDO.out.drew.alloc _) (some ⟨w2.heap.size,0,none⟩) 1 1 [bv b[i]] (ch_ev e75) (src_blk (blk_top (by simp))) rfl (by simp[Value.oneCell']) (by omega) (by simp;omega) ?_;exact x5i6
    ·exact x0p8
    ·exact x22o
    ·intro done cv a wq hw h hJ;have e1:=mx_new (i:=14) (t:=78) h (hw 14 (by decide)) rfl rfl rfl;have e76:=mx_cv (i:=12) (t:=76) h (hw 12 (by decide)) rfl rfl;obtain⟨B',c',hv,hown,hgr,hbel,hor⟩:=hJ;rw[hv]at e76;have hk1:wq.heap[g]?=(w2.drew.alloc (.cells #[bv b[i]] 5)).heap[g]?:=hgr.block g (by simp;omega) (fun e=>KNE.out e.symm);have hk2:(w2.drew.alloc (.cells #[bv b[i]] 5)).heap[g]?=w2.heap[g]?:=Below.heap_alloc w2.drew _ g kg2;have hkk:wq.heap[g]?=w2.heap[g]?:=hk1.trans hk2;have kc1:wq.cell? ⟨g,l1.length*3+2,none⟩=some (.slice d2.1 o.data.length d2.2):=(World.cell?_of_block hkk).trans kc2;have kf1:wq.frozen? ⟨g,l1.length*3+2,none⟩=false:=by
      have:=KFZ.out (l1.length*3+2);unfold World.frozen? at this⊢;rw[hkk];exact this
     have HD1:=HDc.out.below (((Below.refl w2.heap.size w2).drew).alloc (Nat.le_refl _) (.cells #[bv b[i]] 5));have HDn:=HD1.add hown hgr hor;have HBn:Below w.heap.size w wq:=(HBc.out.drew.alloc hsz1 _).trans hbel;exact wp_stb e1 e76 kc1 kf1 ⟨undef,rfl,B',c',HDn,HBn.setCell kg1 _⟩
   rintro cv w1 ⟨B',c',HDn',HBn'⟩;have HDn:=qH HDn';have HBn:=qH HBn';clear HDn' HBn' kc2 kg1 kg2 hbx';simp only[mixAll,putAll_some,putAll_none,putAll_nil,List.getElem?_cons_zero,List.getElem?_cons_succ,Nat.zero_add,Nat.reduceAdd,List.setIfInBounds_toArray,List.set_cons_zero,List.set_cons_succ];go_wp2_with fail;go_roundw
   case rel=>
    have hget:b.getD i 0=b[i]:=by rw[List.getD_eq_getElem?_getD,List.getElem?_eq_getElem hlt];rfl
    refine⟨q+1,some ⟨g,0,none⟩,cc,ds2++[(B',c')],by rw[HQ.out];go_num,by rw[HQ.out];simp,?_,HBn⟩;rw[HQ.out,hget];exact HDn.out
   case measure=>simp[intOf];omega
  have hend:=diffN_end old b q hlt;have hsps:Fresh w.heap.size wr (fun v=>Sps v C (diffN old b q).2):=hD.fresh (fun o ho=>by
   have h1:=hinv.each o ho;have h2:=data_le old _ o ho;rw[hinv.gives]at h2;simp at h2;unfold I64;rcases h1 with ⟨e1,e2,_⟩|⟨e1,e2,e3,_⟩
   ·rw[e1,e2];exact⟨by omega,by omega,by omega⟩
   exact⟨by omega,by omega,by omega⟩)
  have HS:=qH hsps;have HE:=qH hend;have HO:=qH hD.row.le;have hlt':¬((diffN old b q).1:Int)<(b.length:Int):=by omega
  clear hsps hend hD hinv hle;go_wp2_with fail;refine bodyPost_ret (results_tmp2 rfl _ _ _) rfl ⟨C,cc,?_,?_,?_,HB.out⟩
  ·rw[<-HE.out];rfl
  ·rw[<-HE.out];exact HS.out
  rw[<-HE.out];exact HO.out
theorem patMake_fit(A B:OA)(c d:Nat)(fr to_:Int)(old b:LU)(w:World)(hf:I64 fr)(ht:I64 to_)(ho:old.length<=64)(hl:b.length<=64)(hA:Bts w A old)(hB:Bts w B b):
  Calls Tryz.prog 89 #[iv fr,iv to_,.slice A old.length c,.slice B b.length d] w (PaRet w (patMake (sumOn 1) fr to_ old b).1 (patMake (sumOn 1) fr to_ old b).2):=by
 have K1:=qH (fun w h1 h2=>diff3_calls A B c d old b w ho hl h1 h2);have K2:=qH (fun w h=>sumOf_calls A c old w (by omega) h);have K3:=qH (fun w h=>sumOf_calls B d b w (by omega) h);have hs1:=sumOn_bd 1 old (by omega);have hs1:=sumOn_bd 1 b (by omega);have hdl:(diffed old b).length<=40:=(diffed_ok old b ho hl).many;have HM:Hid ((patMake (sumOn 1) fr to_ old b)=if patCheck ⟨fr,to_,sumOn 1 old,sumOn 1 b,b.length,diffed old b⟩≠0 then (Pat.zero,patCheck ⟨fr,to_,sumOn 1 old,sumOn 1 b,b.length,diffed old b⟩)else (⟨fr,to_,sumOn 1 old,sumOn 1 b,b.length,diffed old b⟩,0)):=qH (by
  unfold patMake;rw[if_neg (by omega)])
 generalize sumOn 1 old=s1 at *
 generalize sumOn 1 b=s2 at *
 generalize diffed old b=l at *
 have HA:=qH hA;have HB:=qH hB;have HI:Hid (I64 fr∧I64 to_):=qH ⟨hf,ht⟩;clear hA hB hf ht;generalize patMake (sumOn 1) fr to_ old b=r at *
 go_enter Tryz.func89,Tryz.ntmps89;go_wp2_with fail;have hba:=(bW w).alloc nl (.cells (patA 0 0 0 0 0 none 0 0) 36);refine(K1.out _ (HA.out.stays hba) (HB.out.stays hba)).mono ?_;rintro e w1 ⟨A1,c1,rfl,hsp,hc1,hb1⟩;have a1:=kp (w.heap.size) (patA 0 0 0 0 0 none 0 0) hb1;have HB1:=qH (hba.trans (hb1.mono (by simp)));have HSP:=qH hsp;clear hb1 hba hsp;go_wp2_with fail;refine(K2.out _ (HA.out.stays HB1.out)).mono ?_;rintro e w2 ⟨rfl,rfl⟩;go_wp2_with fail;refine(K3.out _ (HB.out.stays HB1.out)).mono ?_;rintro e w2 ⟨rfl,rfl⟩;go_wp2_with fail;have hba:=(bW w1).alloc nl (.cells (patA fr to_ s1 s2 b.length A1 l.length c1) 36);have HS1:=qH (HSP.out.below hba nl);refine(patCheck_calls A1 c1 fr to_ s1 s2 b.length l _ (by omega) HS1.out.now).mono ?_;rintro e w2 ⟨rfl,hb1⟩;have b2:=kp (w.heap.size) (patA 0 0 0 0 0 none 0 0) hb1;have b1:=kp (w1.heap.size) (patA fr to_ s1 s2 b.length A1 l.length c1) hb1;have HB1:Hid (Below w.heap.size w w2):=qH ((HB1.out.alloc HB1.out.size _).trans (hb1.mono (by have:=HB1.out.size;simp;omega)));have HS1:=qH (HS1.out.below hb1 nl);have HPI:Hid (Fresh (w.heap.size+1) w2 (fun v=>PatIn v ⟨fr,to_,s1,s2,b.length,l⟩ A1 c1)):=qH (Fresh.imp (by simpa using HS1.out) fun v hv=>⟨hc1,by dsimp only;omega,hv,HI.out.1,HI.out.2,⟨by dsimp only;omega,by dsimp only;omega⟩,⟨by dsimp only;omega,by dsimp only;omega⟩,⟨by dsimp only;omega,by dsimp only;omega⟩⟩);clear hb1 hba;by_cases hz:patCheck ⟨fr,to_,s1,s2,b.length,l⟩=0
 ·have hr:r=(⟨fr,to_,s1,s2,b.length,l⟩,0):=by rw[HM.out,if_neg (by simpa using hz)]
  have HR:=qH hr;clear hr;go_wp2_with fail;refine bodyPost_ret (rC (patA fr to_ s1 s2 b.length A1 l.length c1)) rfl ?_;rw[HR.out];exact⟨A1,c1,rfl,(HPI.out.row (by omega) _).mono (by omega),below_row HB1.out (by omega) _⟩
 have hr:r=(Pat.zero,patCheck ⟨fr,to_,s1,s2,b.length,l⟩):=by rw[HM.out,if_pos hz]
 have hq:(patCheck ⟨fr,to_,s1,s2,b.length,l⟩ !=0)=true:=by simp[hz]
 have HR:=qH hr;clear hr hz;generalize patCheck ⟨fr,to_,s1,s2,b.length,l⟩=e1 at *
 go_wp2_with fail;refine bodyPost_ret (rC (patA 0 0 0 0 0 none 0 0)) rfl ?_;rw[HR.out];exact⟨none,0,rfl,.const fun v=>patIn_zero v,below_row HB1.out (by omega) _⟩
end Go.Proofs.YtefkfglkpebbmaaGreat
