/- Walks of functions, and plain words. No conditions. -/
import Derived.Test.YtefkfglkpebbmacPE2
import Derived.Laws.IdiomStrings
import Derived.Laws.BytesArg
set_option linter.unusedVariables false
set_option linter.unusedSimpArgs false
set_option maxRecDepth 100000
set_option maxHeartbeats 40000000
namespace Go.Proofs.Ytefkfglkpebbmac
open Go.RowKit
variable {Y:Prop}
variable {w w' w0:World} {base n c g k c' go gp m d:Nat} {A B A':OA} {xs ps:List Value} {cv:Nat->Value} {v y:Value} {out:LU}
theorem x0p8(h:Y:=by
 intro done cv k a wq hw h hJ hn;have e1:=mx_new (i:=0) (t:=64) h (hw 0 (by decide)) rfl rfl rfl;have e65:=mx_new (i:=1) (t:=65) h (hw 1 (by decide)) rfl rfl rfl;go_simp):Y:=h
theorem x0s2(h:Y:=by
 intro done cv k a wq hw h hJ hn;have e1:=mx_new (i:=4) (t:=68) h (hw 4 (by decide)) rfl rfl rfl;go_simp):Y:=h
theorem x1by(h:Y:=by
 intro done cv k a wq hw h hJ hn;have e1:=mx_new (i:=5) (t:=69) h (hw 5 (by decide)) rfl rfl rfl;have hk:=hn 12 _ 1 rfl rfl (by decide);have hc:=diffJ_cell2 hk hJ kc2 kg2;go_simp):Y:=h
theorem x1jt(h:Y:=by
 intro done cv k a wq hw h hJ hn;have e1:=mx_old (t:=7) (v:=.int .i64 (i:Int)) h rfl rfl;exact mx_move (ch_ev e1)):Y:=h
theorem x22o(h:Y:=by
 intro done cv k a wq hw h hJ hn;have e1:=mx_new (i:=13) (t:=77) h (hw 13 (by decide)) rfl rfl rfl;go_simp):Y:=h
theorem x2v0(h:Y:=by
 have kf1:wq.frozen? ⟨g2,l.length*3+2,none⟩=false:=by
  have:=KFZ.out (l.length*3+2);unfold World.frozen? at this⊢;rw[hkk];exact this
 have HD1:=HDc.out.below (((Below.refl w1.heap.size w1).drew).alloc (Nat.le_refl _) (.cells #[bv b[i]] 5));have HDn:=HD1.add hown hgr hor;have HBn:Below w.heap.size w wq:=(HBc.out.drew.alloc hsz1 _).trans hbel;exact wp_stb e1 e76 kc1 kf1 ⟨undef,rfl,B',c',HDn,HBn.setCell kg1 _⟩):Y:=h
theorem x2wx(h:Y:=by
 intro done cv k a wq hw h hJ hn;have e1:=mx_new (i:=7) (t:=71) h (hw 7 (by decide)) rfl rfl rfl;have e72:=mx_new (i:=8) (t:=72) h (hw 8 (by decide)) rfl rfl rfl;go_simp):Y:=h
theorem x49r(h:Y:=by
 intro done cv k a wq hw h hJ hn;have e1:=mx_old (t:=6) (v:=.slice (some ⟨g2,0,none⟩) (l.length+1) cc1) h rfl rfl;exact mx_move (ch_ev e1)):Y:=h
theorem x4cb(h:Y:=by
 intro done cv k a wq hw h hJ hn;have e1:=mx_new (i:=9) (t:=73) h (hw 9 (by decide)) rfl rfl rfl;have hk:=hn 11 _ 0 rfl rfl (by decide);obtain rfl:k=0:=by omega
 obtain rfl:wq=w1.drew:=hJ;go_simp):Y:=h
theorem x4pg(h:Y:=by
 rw[((Below.refl (wr.drewN nd).heap.size (wr.drewN nd)).alloc (Nat.le_refl _) (.cells #[iv 0,iv 0,.slice none 0 0] 117)).cell (p:=⟨bb,bo+i,none⟩) hbs];exact hbx'):Y:=h
theorem x5i6(h:Y:=by
 intro B' c' w1 hown hgr hbel hor;exact⟨_,rfl,B',c',by simp,hown,hgr,hbel,hor⟩):Y:=h
theorem x5qp(h:Y:=by
 intro done cv k a wq hw h hJ hn;have e1:=mx_old (t:=6) (v:=.slice (some ⟨g,0,none⟩) (l1.length+1) cc) h rfl rfl;exact mx_move (ch_ev e1)):Y:=h
theorem x5y2(h:Y:=by
 have hl:=blk_far HD1.out.row hgr (bb:=bb) hbw (by have:=HB1.out.size;omega);exact(World.cell?_of_block hl).trans HBB.out):Y:=h
theorem x6w3(h:Y:=by
 rintro cv w1 ⟨B',c',HDn',HBn'⟩;have HDn:=qH HDn';have HBn:=qH HBn';clear HDn' HBn' kc2 kg1 kg2 hbx';simp only[mixAll,putAll_some,putAll_none,putAll_nil,List.getElem?_cons_zero,List.getElem?_cons_succ,Nat.zero_add,Nat.reduceAdd,List.setIfInBounds_toArray,List.set_cons_zero,List.set_cons_succ];go_wp2_with fail;go_roundw
 case rel=>
  have hget:b.getD i 0=b[i]:=by rw[List.getD_eq_getElem?_getD,List.getElem?_eq_getElem hlt];rfl
  refine⟨q+1,some ⟨g2,0,none⟩,cc1,ds++[(B',c')],by rw[HQ.out];go_num,by rw[HQ.out];simp,?_,HBn⟩;rw[HQ.out,hget];exact HDn.out
 case measure=>simp[intOf];omega):Y:=h
theorem x75y(h:Y:=by
 intro done cv a wq hw h hJ;have e1:=mx_new (i:=10) (t:=74) h (hw 10 (by decide)) rfl rfl rfl;obtain rfl:wq=w1.drew:=hJ;exact wp_slb e1 ⟨_,rfl,rfl,by simp⟩):Y:=h
theorem x7ji(h:Y:=by
 intro done cv k a wq hw h hJ hn;have e1:=mx_old (t:=12) (v:=.int .i64 (l.length:Int)) h rfl rfl;exact mx_move (ch_ev e1)):Y:=h
theorem x97z(h:Y:=by
 intro done cv k a wq hw h hJ hn;have e1:=mx_new (i:=2) (t:=66) h (hw 2 (by decide)) rfl rfl rfl;have e67:=mx_new (i:=3) (t:=67) h (hw 3 (by decide)) rfl rfl rfl;go_simp):Y:=h
theorem x98c(h:Y:=by
 intro done cv k a wq hw h hJ hn;have e1:=mx_old (t:=1) (v:=.slice (some ⟨bb,bo,none⟩) b.length d) h rfl rfl;exact mx_move (ch_ev e1)):Y:=h
theorem x9y2(h:Y:=by
 intro done cv k a wq hw h hJ hn;have e1:=mx_old (t:=12) (v:=.int .i64 (l1.length:Int)) h rfl rfl;exact mx_move (ch_ev e1)):Y:=h
theorem blk_far{e size:Nat}(h:Own w base e size A n c xs)(hg:w.grownBy w' (A.map (·.block))){bb:Nat}(hb:bb<base)(hw:base<=w.heap.size):w'.heap[bb]?=w.heap[bb]?:=by
 refine hg.block bb (by omega) ?_;intro e;have:=(h.block bb e.symm).1;omega
def diffJ(w0 w2:World)(l0:List Stp)(o:Stp)(ds0:List (Option Addr×Nat))(d0:Option Addr×Nat)(g cc:Nat)(x:UInt8):Nat->(Nat->Value)->World->Prop
 |0,_,w=>w=w2.drew
 |1,cv,w=>w=w2.drew.alloc (.cells #[bv x] 5)∧cv 11=.slice (some ⟨w2.heap.size,0,none⟩) 1 1
 |2,cv,w=>∃B' c',cv 12=.slice B' (o.data.length+1) c'∧Own w w0.heap.size 5 1 B' (o.data.length+1) c' (o.data.map bv++[bv x])∧(w2.drew.alloc (.cells #[bv x] 5)).grownBy w (d0.1.map (·.block))∧Below w0.heap.size (w2.drew.alloc (.cells #[bv x] 5)) w∧
  (B'.map (·.block)=d0.1.map (·.block)∨B'.map (·.block)=some (w2.drew.alloc (.cells #[bv x] 5)).heap.size)
 |_,_,w=>∃B' c',DRow w w0.heap.size (l0++[⟨o.at_,o.len,o.data++[x]⟩]) (ds0++[(B',c')]) (some ⟨g,0,none⟩) cc∧Below w0.heap.size w0 w
theorem diffJ_cell2{w2:World}{l0:List Stp}{o:Stp}{ds0:List (Option Addr×Nat)}{d0:Option Addr×Nat}{cc:Nat}{x:UInt8}(hk:k<=1)(h:diffJ w0 w2 l0 o ds0 d0 g cc x k cv w){j:Nat}(hc:w2.cell? ⟨g,j,none⟩=some v)(hg:g<w2.heap.size):w.cell? ⟨g,j,none⟩=some v:=by
 match k,hk,h with
 |0,_,h=>obtain rfl:w=w2.drew:=h;exact hc
 |1,_,⟨h,_⟩=>rw[h,(((Below.refl w2.heap.size w2).drew).alloc (Nat.le_refl _) _).cell (p:=⟨g,j,none⟩) hg];exact hc
theorem wp_slb{a:Act}{K:Act->World->Prop}{Q:Exit->Act->World->Prop}{t:TypeId}{p:String}{af:Array Edge}{gd:Option (Nat×Bool)}{d s:Tmp}{n:UInt8}(hs:a.tmps[s]?=some (bv n))
  (h:K (a.put (some d) (.slice (some ⟨w.heap.size,0,none⟩) 1 1)) (w.alloc (.cells #[bv n] 5))):
  Oper.wp Try.prog ⟨some d,.buildSlice 22 1 #[(0,.tmp s)],t,p,af,gd⟩ a w K Q:=by
 exact x9jn
theorem wp_stb{a:Act}{K:Act->World->Prop}{Q:Exit->Act->World->Prop}{t:TypeId}{p:String}{af:Array Edge}{gd:Option (Nat×Bool)}{x y:Tmp}{j:Nat}{u:Value}(hx:a.tmps[x]?=some (.pointer (some ⟨g,j,none⟩)))(hy:a.tmps[y]?=some (.slice B n c))
  (hc:w.cell? ⟨g,j,none⟩=some u) (hf:w.frozen? ⟨g,j,none⟩=false) (h:K a (w.setCell ⟨g,j,none⟩ (.slice B n c))):
  Oper.wp Try.prog ⟨none,.store 22 (.tmp x) (.tmp y),t,p,af,gd⟩ a w K Q:=by
 exact x7jp
theorem addByte_last(l:List Stp)(o:Stp)(x:UInt8)(h:¬0<o.len):addByte (l++[o]) x=l++[⟨o.at_,o.len,o.data++[x]⟩]:=by rw[addByte_snoc,if_neg h]
theorem addByte_new(l:List Stp)(o:Stp)(x:UInt8)(h:0<o.len):addByte (l++[o]) x=(l++[o])++[⟨0,0,[]++[x]⟩]:=by rw[addByte_snoc,if_pos h];simp
theorem drow_cell{l:List Stp}{o:Stp}{ds:List (Option Addr×Nat)}(h:DRow w base (l++[o]) ds (some ⟨g,0,none⟩) c):∃ds0 d,ds=ds0++[d]∧ds0.length=l.length∧
  w.cell? ⟨g,l.length*3,none⟩=some (iv o.at_)∧w.cell? ⟨g,l.length*3+1,none⟩=some (iv o.len)∧w.cell? ⟨g,l.length*3+2,none⟩=some (.slice d.1 o.data.length d.2)∧(∀j,w.frozen? ⟨g,j,none⟩=false)∧Own w base 5 1 d.1 o.data.length d.2 (o.data.map bv):=by
 have hne:ds≠[]:=by intro e;have:=h.len;rw[e]at this;simp at this
 obtain⟨ds1,d,rfl⟩:=snoc_of ds hne;have hl:ds1.length=l.length:=by have:=h.len;simpa using this
 have hd:(ds1++[d])[l.length]?=some d:=by rw[<-hl];simp
 have hc:∀j,j<3->w.cell? ⟨g,l.length*3+j,none⟩=(opCell o d)[j]?:=fun j hj=>by
  rw[h.row.cellAt _ (by simp;omega)];exact opCells_at _ _ h.len l.length j o d (by simp) hd hj
 exact⟨ds1,d,rfl,hl,hc 0 (by omega),hc 1 (by omega),hc 2 (by omega),fun j=>h.row.frozenAt j,h.data l.length o d (by simp) hd⟩
theorem diff3_calls(A B:OA)(c d:Nat)(old b:LU)(w:World)(ho:old.length<=64)(hb:b.length<=64)(hA:Bts w A old)(hB:Bts w B b):
  Calls Try.prog 14 #[.slice A old.length c,.slice B b.length d] w (OpRet3 w (diffed old b) 0):=by
 have h1:¬(64:Int)<(old.length:Int):=by omega
 have h2:¬(64:Int)<(b.length:Int):=by omega
 go_enter Try.func14,Try.ntmps14;go_wp2_with fail;go_loopw [6,7] (fun v i wr=>∃(q:Nat) (C:OA) (cc:Nat) (ds:List (Option Addr×Nat)),i=.int .i64 ((diffN old b q).1:Int)∧v=.slice C (diffN old b q).2.length cc∧DRow wr w.heap.size (diffN old b q).2 ds C cc∧Hid (Below w.heap.size w wr)) (fun _ i _=>b.length-(intOf i).toNat)
 case atStart=>exact⟨0,none,0,[],rfl,rfl,DRow.nil _ _,qH (Below.refl _ _)⟩
 case round=>
  obtain⟨q,C,cc,ds,rfl,rfl,hD,HB⟩:=hrel;have hinv:=diffN_inv old b q;have hle:=hinv.le;have hsz:=HB.out.size;by_cases hlt:(diffN old b q).1<b.length
  ·have hlen:(diffN old b q).2.length<=64:=by
    have:=diffN_len old b q;have:=diffN_mono old b q hlt;omega
   have hlong:=fun h4=>diffStep_long (old:=old) (b:=b) hlt h4;have hbyte:=fun h4=>diffStep_byte (old:=old) (b:=b) hlt h4;have hM:∀o∈(diffN old b q).2,o.data.length<=64:=fun o ho=>by
    have h1:=data_le old _ o ho;rw[hinv.gives]at h1;simp at h1;omega
   have HM:=qH hM;clear hM;have hst:diffN old b (q+1)=diffStep old b (diffN old b q):=rfl;have hin:=longest_in old b (diffN old b q).1;have hcl:=fun wq h1 h2=>longest_calls A B c d old b wq (diffN old b q).1 ho hb hle h1 h2;rw[<-hst]at hlong hbyte;clear hst hinv;generalize diffN old b q=p at *
   obtain⟨i,l⟩:=p;dsimp only at *
   generalize longest old b i=lg at *
   obtain⟨wh,m⟩:=lg;dsimp only at *
   have HL:=qH hlong;have HY:=qH hbyte;have HK:=qH hcl;have HD:=qH hD;have hA':=hA.stays HB.out;have hB':=hB.stays HB.out;obtain⟨hi1,hi2⟩:=hin;clear hlong hbyte hcl hD;obtain⟨bb,bo,rfl,hbw,hbx1⟩:=hB i hlt;have hbx:wr.cell? ⟨bb,bo+i,none⟩=some (bv b[i]):=(HB.out.cell (p:=⟨bb,bo+i,none⟩) hbw).trans hbx1;have hbs:bb<wr.heap.size:=Nat.lt_of_lt_of_le hbw hsz;go_wp2_with fail;refine(HK.out _ hA' hB').mono ?_;rintro e w1 ⟨rfl,nd,rfl⟩;clear hA' hB';by_cases h1:4<=m
   ·have h4':(4:Int)<=(m:Int):=by omega
    have HP:=qH (HL.out h1);have hb1:Below w.heap.size w (((wr.drewN nd)).alloc (.cells #[iv wh,iv m,.slice none 0 0] 117)):=(Below.drewN' HB.out nd).alloc hsz _;have hD1:=(HD.out.drewN nd).below ((Below.refl (wr.drewN nd).heap.size (wr.drewN nd)).alloc (Nat.le_refl _) (.cells #[iv wh,iv m,.slice none 0 0] 117));have HB2:=qH hb1;have HD2:=qH hD1;clear hb1 hD1;go_wp2_with (at_builtin;go_must (refine wpList_app _ rfl (.tmp 35) (.tmp 39) 23 rfl elOps w.heap.size C l.length cc (opCells l ds) rfl HD2.out.row (some ⟨wr.heap.size,0,none⟩) 1 1 [iv wh,iv m,.slice none 0 0] rfl (src_blk (blk_top (by simp))) rfl (by simp[Value.oneCell']) (by omega) (by simp;omega) ?_));intro C' cc' w' hown hgr hbel hor;have HD1:=qH (HD2.out.push hown hgr (by simpa using hor));have HB1:Hid (Below w.heap.size w w'):=qH (HB2.out.trans hbel);clear hown hgr hbel hor;go_wp2_with fail;go_roundw
    case rel=>exact⟨q+1,C',cc',_,by rw[HP.out];go_num,by rw[HP.out];simp,by rw[HP.out];exact HD1.out,HB1⟩
    case measure=>simp[intOf];omega
   have h4':¬(4:Int)<=(m:Int):=by omega
   have HP:=qH (HY.out h1);clear HL HY;have hbx':(wr.drewN nd).cell? ⟨bb,bo+i,none⟩=some (bv b[i]):=hbx;by_cases hl2:l=[]
   ·obtain⟨o,ho1⟩:∃o:Stp,o=⟨0,0,[]⟩:=⟨_,rfl⟩;have HQ:Hid (diffN old b (q+1)=(i+1,l++[⟨o.at_,o.len,o.data++[b.getD i 0]⟩])):=by
     rw[ho1];rw[hl2]at HP⊢;exact HP.out
    have hl1:(l.length:Int)-1<0:=by rw[hl2];simp
    have hod:o.data.length<=64:=by rw[ho1];simp
    clear HP hl2;have hb1:Below w.heap.size w (((wr.drewN nd)).alloc (.cells #[iv 0,iv 0,.slice none 0 0] 117)):=(Below.drewN' HB.out nd).alloc hsz _;have hD1:=(HD.out.drewN nd).below ((Below.refl (wr.drewN nd).heap.size (wr.drewN nd)).alloc (Nat.le_refl _) (.cells #[iv 0,iv 0,.slice none 0 0] 117));have HB1:=qH hb1;have HD1:=qH hD1;have hbb:((wr.drewN nd).alloc (.cells #[iv 0,iv 0,.slice none 0 0] 117)).cell? ⟨bb,bo+i,none⟩=some (bv b[i]):=by
     exact x4pg
    have HBB:=qH hbb;clear hb1 hD1 hbb;go_wp2_with (at_builtin;go_must (refine wpList_app _ rfl (.tmp 57) (.tmp 59) 23 rfl elOps w.heap.size C l.length cc (opCells l ds) rfl HD1.out.row (some ⟨wr.heap.size,0,none⟩) 1 1 [iv 0,iv 0,.slice none 0 0] rfl (src_blk (blk_top (by simp))) rfl (by simp[Value.oneCell']) (by omega) (by simp;omega) ?_));intro C' cc1 w1 hown hgr hbel hor;obtain⟨g2,rfl,hg1,hg2⟩:=hown.form (by omega);have HDc:=qH (HD1.out.push hown hgr (by simpa using hor));have HBc:Hid (Below w.heap.size w w1):=qH (HB1.out.trans hbel);have hbx1:w1.cell? ⟨bb,bo+i,none⟩=some (bv b[i]):=by
     exact x5y2
    clear hown hgr hbel hor HBB hbx hbx' HD HD1 HB1 hl1;have hbx':=hbx1;clear hbx1;rw[<-ho1]at HDc;clear ho1;obtain⟨d2,hd2⟩:∃d0:Option Addr×Nat,(none,0)=d0:=⟨_,rfl⟩;rw[hd2]at HDc;clear hd2;obtain⟨ds1,d1,hds,hdl1,kc4,kc1,kc2,kfz,kdo⟩:=drow_cell HDc.out;obtain⟨rfl,hd1⟩:=List.append_inj' hds rfl;obtain rfl:d2=d1:=by simpa using hd1
    have kg:=(HDc.out.row.block g2 rfl);obtain⟨kg1,kg2⟩:=kg;have kne:d2.1.map (·.block)≠some g2:=fun e=>HDc.out.off l.length d2 (by rw[<-hdl1];simp) g2 e rfl;have KNE:=qH kne;have KDO:=qH kdo;have KFZ:=qH kfz;have hsz1:=HBc.out.size;clear hds hd1 kc4 kc1 kdo kne kfz hdl1;have hix:¬(l.length:Int)+1<=(l.length:Int):=by omega
    go_wp2_with fail;refine wp_region_mix (by kernel_rfl) (some 64::some 65::some 66::some 67::some 68::some 69::some 70::some 71::some 72::some 73::some 74::some 75::some 76::some 77::some 78::none::[]) (none::none::none::none::none::none::none::none::none::none::none::some 0::some 1::none::none::some 2::[]) (.slice (some ⟨g2,0,none⟩) (l.length+1) cc1::.int .i64 (l.length:Int)::.slice (some ⟨g2,0,none⟩) (l.length+1) cc1::.int .i64 (l.length:Int)::.pointer (some ⟨g2,l.length*3,none⟩)::.pointer (some ⟨g2,l.length*3+2,none⟩)::.slice d2.1 o.data.length d2.2::.slice (some ⟨bb,bo,none⟩) b.length d::.int .i64 (i:Int)::.pointer (some ⟨bb,bo+i,none⟩)::bv b[i]::undef::undef::.pointer (some ⟨g2,l.length*3,none⟩)::.pointer (some ⟨g2,l.length*3+2,none⟩)::undef::[]) 3 (diffJ w w1 l o ds d2 g2 cc1 b[i]) 82 rfl rfl (by decide+kernel) (by decide+kernel) (by decide+kernel) (by decide+kernel) rfl rfl (by decide+kernel) (by decide+kernel) (rfl) ?_ ?_
    ·refine⟨?_,?_,?_,?_,?_,?_,?_,?_,?_,?_,?_,?_,?_,?_,?_,?_,trivial⟩
     ·exact x49r
     ·exact x7ji
     ·exact x49r
     ·exact x7ji
     ·exact x97z
     ·exact x0s2
     ·exact x1by
     ·exact x98c
     ·exact x1jt
     ·exact x2wx
     ·exact x4cb
     ·exact x75y
     ·intro done cv a wq hw h hJ;have e1:=mx_new (i:=6) (t:=70) h (hw 6 (by decide)) rfl rfl rfl;have e75:=mx_cv (i:=11) (t:=75) h (hw 11 (by decide)) rfl rfl;obtain⟨rfl,hv⟩:=hJ;rw[hv]at e75;refine wp_app _ (.tmp 70) (.tmp 75) 22 rfl elBytes w.heap.size d2.1 o.data.length d2.2 (o.data.map bv) (ch_ev e1) (KDO.out.drew.alloc _) (some ⟨w1.heap.size,0,none⟩) 1 1 [bv b[i]] (ch_ev e75) (src_blk (blk_top (by simp))) rfl (by simp[Value.oneCell']) (by omega) (by simp;omega) ?_;exact x5i6
     ·exact x0p8
     ·exact x22o
     ·intro done cv a wq hw h hJ;have e1:=mx_new (i:=14) (t:=78) h (hw 14 (by decide)) rfl rfl rfl;have e76:=mx_cv (i:=12) (t:=76) h (hw 12 (by decide)) rfl rfl;obtain⟨B',c',hv,hown,hgr,hbel,hor⟩:=hJ;rw[hv]at e76;have hk1:wq.heap[g2]?=(w1.drew.alloc (.cells #[bv b[i]] 5)).heap[g2]?:=hgr.block g2 (by simp;omega) (fun e=>KNE.out e.symm);have hk2:(w1.drew.alloc (.cells #[bv b[i]] 5)).heap[g2]?=w1.heap[g2]?:=Below.heap_alloc w1.drew _ g2 kg2;have hkk:wq.heap[g2]?=w1.heap[g2]?:=hk1.trans hk2;have kc1:wq.cell? ⟨g2,l.length*3+2,none⟩=some (.slice d2.1 o.data.length d2.2):=(World.cell?_of_block hkk).trans kc2;exact x2v0
    exact x6w3
   have hlp:1<=l.length:=by
    rcases l with _|⟨x,l⟩
    ·exact absurd rfl hl2
    simp
   obtain⟨l1,o,hlo⟩:=snoc_of l hl2;have hD1:=HD.out;obtain⟨g,rfl,hg1,hg2⟩:=hD1.row.form hlp;have hD2:=hD1.drewN nd;rw[hlo]at hD2;obtain⟨ds2,d2,hdse,hdl,hc3,hc1,hc2,hfz,hdo⟩:=drow_cell hD2;have hll:l1.length=l.length-1:=by rw[hlo];simp
   rw[hll]at hc1;by_cases hol:0<o.len
   ·obtain⟨o1,ho1⟩:∃o:Stp,o=⟨0,0,[]⟩:=⟨_,rfl⟩;have HQ:Hid (diffN old b (q+1)=(i+1,l++[⟨o1.at_,o1.len,o1.data++[b.getD i 0]⟩])):=qH (HP.out.trans (by rw[ho1,hlo,addByte_new _ _ _ hol]));have hod:o1.data.length<=64:=by rw[ho1];simp
    have hl1:¬(l.length:Int)-1<0:=by omega
    clear HP hl2 hD1 hD2 hlo hdse hdl hc3 hc2 hfz hdo hll;have hb1:Below w.heap.size w (((wr.drewN nd)).alloc (.cells #[iv 0,iv 0,.slice none 0 0] 117)):=(Below.drewN' HB.out nd).alloc hsz _;have hD1:=(HD.out.drewN nd).below ((Below.refl (wr.drewN nd).heap.size (wr.drewN nd)).alloc (Nat.le_refl _) (.cells #[iv 0,iv 0,.slice none 0 0] 117));have HB1:=qH hb1;have HD1:=qH hD1;have hbb:((wr.drewN nd).alloc (.cells #[iv 0,iv 0,.slice none 0 0] 117)).cell? ⟨bb,bo+i,none⟩=some (bv b[i]):=by
     exact x4pg
    have HBB:=qH hbb;clear hb1 hD1 hbb;go_wp2_with (at_builtin;go_must (refine wpList_app _ rfl (.tmp 57) (.tmp 59) 23 rfl elOps w.heap.size _ l.length cc (opCells l ds) rfl HD1.out.row (some ⟨wr.heap.size,0,none⟩) 1 1 [iv 0,iv 0,.slice none 0 0] rfl (src_blk (blk_top (by simp))) rfl (by simp[Value.oneCell']) (by omega) (by simp;omega) ?_));intro C' cc1 w1 hown hgr hbel hor;obtain⟨g2,rfl,hg1,hg2⟩:=hown.form (by omega);have HDc:=qH (HD1.out.push hown hgr (by simpa using hor));have HBc:Hid (Below w.heap.size w w1):=qH (HB1.out.trans hbel);have hbx1:w1.cell? ⟨bb,bo+i,none⟩=some (bv b[i]):=by
     exact x5y2
    clear hown hgr hbel hor HBB hbx hbx' HD HD1 HB1 hl1 hol hlp;have hbx':=hbx1;clear hbx1;rw[<-ho1]at HDc;clear ho1;obtain⟨d2,hd2⟩:∃d9:Option Addr×Nat,(none,0)=d9:=⟨_,rfl⟩;rw[hd2]at HDc;clear hd2;obtain⟨ds1,d1,hds,hdl1,kc4,kc1,kc2,kfz,kdo⟩:=drow_cell HDc.out;obtain⟨rfl,hd1⟩:=List.append_inj' hds rfl;obtain rfl:d2=d1:=by simpa using hd1
    have kg:=(HDc.out.row.block g2 rfl);obtain⟨kg1,kg2⟩:=kg;have kne:d2.1.map (·.block)≠some g2:=fun e=>HDc.out.off l.length d2 (by rw[<-hdl1];simp) g2 e rfl;have KNE:=qH kne;have KDO:=qH kdo;have KFZ:=qH kfz;have hsz1:=HBc.out.size;clear hds hd1 kc4 kc1 kdo kne kfz hdl1;have hix:¬(l.length:Int)+1<=(l.length:Int):=by omega
    go_wp2_with fail;refine wp_region_mix (by kernel_rfl) (some 64::some 65::some 66::some 67::some 68::some 69::some 70::some 71::some 72::some 73::some 74::some 75::some 76::some 77::some 78::none::[]) (none::none::none::none::none::none::none::none::none::none::none::some 0::some 1::none::none::some 2::[]) (.slice (some ⟨g2,0,none⟩) (l.length+1) cc1::.int .i64 (l.length:Int)::.slice (some ⟨g2,0,none⟩) (l.length+1) cc1::.int .i64 (l.length:Int)::.pointer (some ⟨g2,l.length*3,none⟩)::.pointer (some ⟨g2,l.length*3+2,none⟩)::.slice d2.1 o1.data.length d2.2::.slice (some ⟨bb,bo,none⟩) b.length d::.int .i64 (i:Int)::.pointer (some ⟨bb,bo+i,none⟩)::bv b[i]::undef::undef::.pointer (some ⟨g2,l.length*3,none⟩)::.pointer (some ⟨g2,l.length*3+2,none⟩)::undef::[]) 3 (diffJ w w1 l o1 ds d2 g2 cc1 b[i]) 82 rfl rfl (by decide+kernel) (by decide+kernel) (by decide+kernel) (by decide+kernel) rfl rfl (by decide+kernel) (by decide+kernel) (rfl) ?_ ?_
    ·refine⟨?_,?_,?_,?_,?_,?_,?_,?_,?_,?_,?_,?_,?_,?_,?_,?_,trivial⟩
     ·exact x49r
     ·exact x7ji
     ·exact x49r
     ·exact x7ji
     ·exact x97z
     ·exact x0s2
     ·exact x1by
     ·exact x98c
     ·exact x1jt
     ·exact x2wx
     ·exact x4cb
     ·exact x75y
     ·intro done cv a wq hw h hJ;have e1:=mx_new (i:=6) (t:=70) h (hw 6 (by decide)) rfl rfl rfl;have e75:=mx_cv (i:=11) (t:=75) h (hw 11 (by decide)) rfl rfl;obtain⟨rfl,hv⟩:=hJ;rw[hv]at e75;refine wp_app _ (.tmp 70) (.tmp 75) 22 rfl elBytes w.heap.size d2.1 o1.data.length d2.2 (o1.data.map bv) (ch_ev e1) (KDO.out.drew.alloc _) (some ⟨w1.heap.size,0,none⟩) 1 1 [bv b[i]] (ch_ev e75) (src_blk (blk_top (by simp))) rfl (by simp[Value.oneCell']) (by omega) (by simp;omega) ?_;exact x5i6
     ·exact x0p8
     ·exact x22o
     ·intro done cv a wq hw h hJ;have e1:=mx_new (i:=14) (t:=78) h (hw 14 (by decide)) rfl rfl rfl;have e76:=mx_cv (i:=12) (t:=76) h (hw 12 (by decide)) rfl rfl;obtain⟨B',c',hv,hown,hgr,hbel,hor⟩:=hJ;rw[hv]at e76;have hk1:wq.heap[g2]?=(w1.drew.alloc (.cells #[bv b[i]] 5)).heap[g2]?:=hgr.block g2 (by simp;omega) (fun e=>KNE.out e.symm);have hk2:(w1.drew.alloc (.cells #[bv b[i]] 5)).heap[g2]?=w1.heap[g2]?:=Below.heap_alloc w1.drew _ g2 kg2;have hkk:wq.heap[g2]?=w1.heap[g2]?:=hk1.trans hk2;have kc1:wq.cell? ⟨g2,l.length*3+2,none⟩=some (.slice d2.1 o1.data.length d2.2):=(World.cell?_of_block hkk).trans kc2;exact x2v0
    exact x6w3
   subst hlo;have hD3:=HD.out;rw[hdse]at hD3;clear HD;have HD:=qH hD3;have HQ:=qH (HP.out.trans (by rw[addByte_last _ _ _ hol]));have hod:=HM.out o (by simp);simp only[List.length_append,List.length_cons,List.length_nil]at hlen;clear HP hl2 hfz hc3 hc2 hdo hdl hD1 hD2 hD3 hll hlp;have hc1':(wr.drewN nd).cell? ⟨g,l1.length*3+1,none⟩=some (iv o.len):=by simpa using hc1
   clear hc1;have HDc:=qH (HD.out.drewN nd);have HBc:Hid (Below w.heap.size w (wr.drewN nd)):=qH (Below.drewN' HB.out nd);clear hbx HD;subst hdse;generalize wr.drewN nd=w2 at *
   obtain⟨ds1,d1,hds,hdl1,kc4,kc1,kc2,kfz,kdo⟩:=drow_cell HDc.out;obtain⟨rfl,hd1⟩:=List.append_inj' hds rfl;obtain rfl:d2=d1:=by simpa using hd1
   have kg:=(HDc.out.row.block g rfl);obtain⟨kg1,kg2⟩:=kg;have kne:d2.1.map (·.block)≠some g:=fun e=>HDc.out.off l1.length d2 (by rw[<-hdl1];simp) g e rfl;have KNE:=qH kne;have KDO:=qH kdo;have KFZ:=qH kfz;have hsz1:=HBc.out.size;clear hds hd1 kc4 kc1 kdo kne kfz hdl1;have hix:¬(l1.length:Int)+1<=(l1.length:Int):=by omega
   go_wp2_with fail;refine wp_region_mix (by kernel_rfl) (some 64::some 65::some 66::some 67::some 68::some 69::some 70::some 71::some 72::some 73::some 74::some 75::some 76::some 77::some 78::none::[]) (none::none::none::none::none::none::none::none::none::none::none::some 0::some 1::none::none::some 2::[]) (.slice (some ⟨g,0,none⟩) (l1.length+1) cc::.int .i64 (l1.length:Int)::.slice (some ⟨g,0,none⟩) (l1.length+1) cc::.int .i64 (l1.length:Int)::.pointer (some ⟨g,l1.length*3,none⟩)::.pointer (some ⟨g,l1.length*3+2,none⟩)::.slice d2.1 o.data.length d2.2::.slice (some ⟨bb,bo,none⟩) b.length d::.int .i64 (i:Int)::.pointer (some ⟨bb,bo+i,none⟩)::bv b[i]::undef::undef::.pointer (some ⟨g,l1.length*3,none⟩)::.pointer (some ⟨g,l1.length*3+2,none⟩)::undef::[]) 3 (diffJ w w2 l1 o ds2 d2 g cc b[i]) 82 rfl rfl (by decide+kernel) (by decide+kernel) (by decide+kernel) (by decide+kernel) rfl rfl (by decide+kernel) (by decide+kernel) (rfl) ?_ ?_
   ·refine⟨?_,?_,?_,?_,?_,?_,?_,?_,?_,?_,?_,?_,?_,?_,?_,?_,trivial⟩
    ·exact x5qp
    ·exact x9y2
    ·exact x5qp
    ·exact x9y2
    ·exact x97z
    ·exact x0s2
    ·exact x1by
    ·exact x98c
    ·exact x1jt
    ·exact x2wx
    ·intro done cv k a wq hw h hJ hn;have e1:=mx_new (i:=9) (t:=73) h (hw 9 (by decide)) rfl rfl rfl;have hk:=hn 11 _ 0 rfl rfl (by decide);obtain rfl:k=0:=by omega
     obtain rfl:wq=w2.drew:=hJ;go_simp
    ·intro done cv a wq hw h hJ;have e1:=mx_new (i:=10) (t:=74) h (hw 10 (by decide)) rfl rfl rfl;obtain rfl:wq=w2.drew:=hJ;exact wp_slb e1 ⟨_,rfl,rfl,by simp⟩
    ·intro done cv a wq hw h hJ;have e1:=mx_new (i:=6) (t:=70) h (hw 6 (by decide)) rfl rfl rfl;have e75:=mx_cv (i:=11) (t:=75) h (hw 11 (by decide)) rfl rfl;obtain⟨rfl,hv⟩:=hJ;rw[hv]at e75;refine wp_app _ (.tmp 70) (.tmp 75) 22 rfl elBytes w.heap.size d2.1 o.data.length d2.2 (o.data.map bv) (ch_ev e1) (KDO.out.drew.alloc _) (some ⟨w2.heap.size,0,none⟩) 1 1 [bv b[i]] (ch_ev e75) (src_blk (blk_top (by simp))) rfl (by simp[Value.oneCell']) (by omega) (by simp;omega) ?_;exact x5i6
    ·exact x0p8
    ·exact x22o
    ·intro done cv a wq hw h hJ;have e1:=mx_new (i:=14) (t:=78) h (hw 14 (by decide)) rfl rfl rfl;have e76:=mx_cv (i:=12) (t:=76) h (hw 12 (by decide)) rfl rfl;obtain⟨B',c',hv,hown,hgr,hbel,hor⟩:=hJ;rw[hv]at e76;have hk1:wq.heap[g]?=(w2.drew.alloc (.cells #[bv b[i]] 5)).heap[g]?:=hgr.block g (by simp;omega) (fun e=>KNE.out e.symm);have hk2:(w2.drew.alloc (.cells #[bv b[i]] 5)).heap[g]?=w2.heap[g]?:=Below.heap_alloc w2.drew _ g kg2;have hkk:wq.heap[g]?=w2.heap[g]?:=hk1.trans hk2;have kc1:wq.cell? ⟨g,l1.length*3+2,none⟩=some (.slice d2.1 o.data.length d2.2):=(World.cell?_of_block hkk).trans kc2;have kf1:wq.frozen? ⟨g,l1.length*3+2,none⟩=false:=by
      have:=KFZ.out (l1.length*3+2);unfold World.frozen? at this⊢;rw[hkk];exact this
     have HD1:=HDc.out.below (((Below.refl w2.heap.size w2).drew).alloc (Nat.le_refl _) (.cells #[bv b[i]] 5));have HDn:=HD1.add hown hgr hor;have HBn:Below w.heap.size w wq:=(HBc.out.drew.alloc hsz1 _).trans hbel;exact wp_stb e1 e76 kc1 kf1 ⟨undef,rfl,B',c',HDn,HBn.setCell kg1 _⟩
   rintro cv w1 ⟨B',c',HDn',HBn'⟩;have HDn:=qH HDn';have HBn:=qH HBn';clear HDn' HBn' kc2 kg1 kg2 hbx';simp only[mixAll,putAll_some,putAll_none,putAll_nil,List.getElem?_cons_zero,List.getElem?_cons_succ,Nat.zero_add,Nat.reduceAdd,List.setIfInBounds_toArray,List.set_cons_zero,List.set_cons_succ];go_wp2_with fail;go_roundw
   case rel=>
    have hget:b.getD i 0=b[i]:=by rw[List.getD_eq_getElem?_getD,List.getElem?_eq_getElem hlt];rfl
    refine⟨q+1,some ⟨g,0,none⟩,cc,ds2++[(B',c')],by rw[HQ.out];go_num,by rw[HQ.out];simp,?_,HBn⟩;rw[HQ.out,hget];exact HDn.out
   case measure=>simp[intOf];omega
  have hend:=diffN_end old b q hlt;have hsps:Fresh w.heap.size wr (fun v=>Sps v C (diffN old b q).2):=hD.fresh (fun o ho=>by
   have h1:=hinv.each o ho;have h2:=data_le old _ o ho;rw[hinv.gives]at h2;simp at h2;unfold I64;rcases h1 with ⟨e1,e2,_⟩|⟨e1,e2,e3,_⟩
   ·rw[e1,e2];exact⟨by omega,by omega,by omega⟩
   exact⟨by omega,by omega,by omega⟩)
  have HS:=qH hsps;have HE:=qH hend;have HO:=qH hD.row.le;have hlt':¬((diffN old b q).1:Int)<(b.length:Int):=by omega
  clear hsps hend hD hinv hle;go_wp2_with fail;refine bodyPost_ret (results_tmp2 rfl _ _ _) rfl ⟨C,cc,?_,?_,?_,HB.out⟩
  ·rw[<-HE.out];rfl
  ·rw[<-HE.out];exact HS.out
  rw[<-HE.out];exact HO.out
theorem x9sq(h:Y:=by
 rcases hor with h|h
 ·exact .inl h
 exact .inr (fun k hk=>by rw[h]at hk;injection hk with hk;simp at hk;omega)):Y:=h
def bxJ(w0:World)(base:Nat)(A:OA)(n c:Nat)(xs ns:List Value)(ib ia:Nat)(F:World->Prop):Nat->(Nat->Value)->World->Prop
 |0,_,w=>w=w0.drew
 |1,cv,w=>w=w0.drew.alloc (.cells ns.toArray 5)∧cv ib=.slice (some ⟨w0.heap.size,0,none⟩) ns.length ns.length
 |2,cv,w=>∃A' c',cv ia=.slice A' (n+ns.length) c'∧Own w base 5 1 A' (n+ns.length) c' (xs++ns)∧Below base w0 w∧(∀k,k<w0.heap.size->A.map (·.block)≠some k->w.heap[k]?=w0.heap[k]?)∧(A'.map (·.block)=A.map (·.block)∨∀k,A'.map (·.block)=some k->w0.heap.size<=k)
 |_,_,w=>F w
theorem bxJ_box{ns:List Value}{ib ia:Nat}{F:World->Prop}{T:TypeId}(hk:k<=1)(hJ:bxJ w0 base A n c xs ns ib ia F k cv w)(h:Box w0 g T v):Box w g T v:=by
 match k,hk,hJ with
 |0,_,hJ=>obtain rfl:w=w0.drew:=hJ;exact h
 |1,_,⟨hJ,_⟩=>subst hJ;exact h.drew.alloc _
theorem bxJ_app{ns:List Value}{ib ia:Nat}{F:World->Prop}(hown:Own w' base 5 1 A' (n+ns.length) c' (xs++ns))(hgr:(w0.drew.alloc (.cells ns.toArray 5)).grownBy w' (A.map (·.block)))(hbel:Below base (w0.drew.alloc (.cells ns.toArray 5)) w')
  (hor:A'.map (·.block)=A.map (·.block)∨A'.map (·.block)=some (w0.drew.alloc (.cells ns.toArray 5)).heap.size) (hle:base<=w0.heap.size):
  bxJ w0 base A n c xs ns ib ia F 2 (fun j=>if j=ia then .slice A' (n+ns.length) c' else cv j) w':=by
 have hb1:Below base w0 (w0.drew.alloc (.cells ns.toArray 5)):=((Below.refl _ _).drew).alloc hle _;refine⟨A',c',by simp,hown,hb1.trans hbel,fun k hk hn=>(hgr.block k (by simp;omega) (fun e=>hn e.symm)).trans ((Below.heap_alloc w0.drew _ k hk)),?_⟩;exact x9sq
theorem alike_stop{b:LU}(hk:k<b.length):1<=alike (b.drop k)∧alike (b.drop k)<=127∧k+alike (b.drop k)<=b.length∧(∀m,m<alike (b.drop k)->b[k+m]?=some b[k])∧
  (alike (b.drop k)=127∨(alike (b.drop k)<127∧k+alike (b.drop k)=b.length)∨(alike (b.drop k)<127∧∃h:k+alike (b.drop k)<b.length,b[k+alike (b.drop k)]≠b[k])):=by
 have e:b.drop k=b[k]::b.drop (k+1):=List.drop_eq_getElem_cons hk;have hle:=alike_le (b.drop k);rw[List.length_drop]at hle;have ea:alike (b.drop k)=cntEq b[k] (b.drop (k+1)) 126+1:=by rw[e];rfl
 have hat:=cntEq_at b[k] (b.drop (k+1)) 126;have hst:=cntEq_stop b[k] (b.drop (k+1)) 126;refine⟨by omega,hle.1,by omega,fun m hm=>?_,?_⟩
 ·rcases m with _|m
  ·simp[hk]
  ·have:=(hat m (by omega)).2;rw[List.getElem?_drop]at this;rw[show k+(m+1)=k+1+m by omega];exact this
 by_cases h1:alike (b.drop k)=127
 ·exact .inl h1
 by_cases h1:k+alike (b.drop k)=b.length
 ·exact .inr (.inl ⟨by omega,h1⟩)
 refine .inr (.inr ⟨by omega,by omega,fun e2=>?_⟩);have:=hst (by omega);rw[List.getElem?_drop,show k+1+cntEq b[k] (b.drop (k+1)) 126=k+alike (b.drop k) by omega,List.getElem?_eq_getElem (by omega),e2]at this;exact this rfl
theorem x09t(h:Y:=by
 have c1:=bxJ_box hk hJ HBOX.out;have c1:=c1.cell;go_simp):Y:=h
theorem x1od(h:Y:=by
 obtain rfl:k1=0:=by omega
 obtain rfl:wq=wx.drew:=hJ;have hx:=HXC.out;go_simp):Y:=h
theorem x56y(h:Y:=by
 intro A' c' w' hown hgr hbel hor;exact⟨_,rfl,bxJ_app hown hgr hbel hor hle⟩):Y:=h
theorem x678(h:Y:=by
 intro done cv k1 a wq hw h hJ hn;have e1:=mx_old (t:=6) (v:=.int .i64 (k:Int)) h rfl rfl;exact mx_move (ch_ev e1)):Y:=h
theorem x6qp(h:Y:=by
 have hk:=hn 8 _ 3 rfl rfl (by decide);obtain⟨b1,b2⟩:=flJ_box HNA.out hk hJ HCO.out HCP.out;have c1:=b1.cell;have c1:=b2.cell;go_simp):Y:=h
theorem x6s8(h:Y:=by
 obtain⟨b1,o1,e1,_,hc1⟩:=hxc;injection e1 with e1;injection e1 with e3 e4;subst e3 e4;exact hc1):Y:=h
theorem x73e(h:Y:=by
 intro done cv k1 a wq hw h hJ hn;have e1:=mx_old (t:=0) (v:=.slice (some ⟨ab,ao,none⟩) b.length cb) h rfl rfl;exact mx_move (ch_ev e1)):Y:=h
structure PkAt(w:World)(base go gp:Nat)(out plain:LU)(A:OA)(c:Nat)(B:OA)(d:Nat):Prop where
 co:Box w go 22 (.slice A out.length c)
 cp:Box w gp 22 (.slice B plain.length d)
 oo:Own w base 5 1 A out.length c (out.map bv)
 op:Own w base 5 1 B plain.length d (plain.map bv)
 ne:∀k,A.map (·.block)=some k->B.map (·.block)≠some k
 lo:go<base
 lp:gp<base
 no:go≠gp
 le:base<=w.heap.size
def flJ(w0:World)(base go:Nat)(A:OA)(n c:Nat)(xs:List Value)(y:Value)(ps:List Value)(gp:Nat)(B:OA)(m d:Nat):Nat->(Nat->Value)->World->Prop
 |0,_,w=>Below base w0 w∧(∀k,k<w0.heap.size->A.map (·.block)≠some k->w.heap[k]?=w0.heap[k]?)∧Own w base 5 1 A n c xs
 |1,cv,w=>Below base w0 w∧(∀k,k<w0.heap.size->A.map (·.block)≠some k->w.heap[k]?=w0.heap[k]?)∧Own w base 5 1 A n c xs∧∃bb,cv 4=.slice (some ⟨bb,0,none⟩) 1 1∧w.heap[bb]?=some (.cells #[y] 5 (0,0))∧w0.heap.size<=bb
 |2,cv,w=>Below base w0 w∧(∀k,k<w0.heap.size->A.map (·.block)≠some k->w.heap[k]?=w0.heap[k]?)∧∃A1 c1,cv 5=.slice A1 (n+1) c1∧Own w base 5 1 A1 (n+1) c1 (xs++[y])∧(A1.map (·.block)=A.map (·.block)∨∀k,A1.map (·.block)=some k->w0.heap.size<=k)
 |3,cv,w=>Below base w0 w∧(∀k,k<w0.heap.size->A.map (·.block)≠some k->w.heap[k]?=w0.heap[k]?)∧∃A2 c2,cv 7=.slice A2 (n+1+m) c2∧Own w base 5 1 A2 (n+1+m) c2 (xs++[y]++ps)∧(A2.map (·.block)=A.map (·.block)∨∀k,A2.map (·.block)=some k->w0.heap.size<=k)
 |_,_,w=>∃A2 c2,Box w go 22 (.slice A2 (n+1+m) c2)∧Box w gp 22 (.slice B m d)∧Own w base 5 1 A2 (n+1+m) c2 (xs++[y]++ps)∧Below go w0 w
theorem flJ_box{u:Value}{T:TypeId}(hA:A.map (·.block)≠some go∧A.map (·.block)≠some gp)(hk:k<=3)(hJ:flJ w0 base go A n c xs y ps gp B m d k cv w)(h1:Box w0 go T v)(h2:Box w0 gp T u):Box w go T v∧Box w gp T u:=by
 have key:∀k,k<w0.heap.size->A.map (·.block)≠some k->w.heap[k]?=w0.heap[k]?:=by
  match k,hk,hJ with
  |0,_,⟨_,h,_⟩=>exact h
  |1,_,⟨_,h,_⟩=>exact h
  |2,_,⟨_,h,_⟩=>exact h
  |3,_,⟨_,h,_⟩=>exact h
 exact⟨(key go h1.lt hA.1).trans h1,(key gp h2.lt hA.2).trans h2⟩
theorem flJ_one(hJ:flJ w0 base go A n c xs y ps gp B m d 0 cv w)(hle:base<=w0.heap.size):
  flJ w0 base go A n c xs y ps gp B m d 1 (fun j=>if j=4 then .slice (some ⟨w.heap.size,0,none⟩) 1 1 else cv j) (w.alloc (.cells #[y] 5)):=by
 obtain⟨k1,k2,k3⟩:=hJ;have hs:=k1.size;exact⟨k1.alloc (by omega) _,fun k hk hn=>(Below.heap_alloc w _ k (by omega)).trans (k2 k hk hn),k3.alloc _,_,rfl,blk_top rfl,hs⟩
theorem flJ_app1(k1:Below base w0 w)(k2:∀k,k<w0.heap.size->A.map (·.block)≠some k->w.heap[k]?=w0.heap[k]?)
  (hown:Own w' base 5 1 A' (n+1) c' (xs++[y])) (hgr:w.grownBy w' (A.map (·.block))) (hbel:Below base w w') (hor:A'.map (·.block)=A.map (·.block)∨A'.map (·.block)=some w.heap.size):
  flJ w0 base go A n c xs y ps gp B m d 2 (fun j=>if j=5 then .slice A' (n+1) c' else cv j) w':=by
 have hs:=k1.size;refine⟨k1.trans hbel,fun k hk hn=>(hgr.block k (by omega) (fun e=>hn e.symm)).trans (k2 k hk hn),A',c',rfl,hown,?_⟩;rcases hor with h|h
 ·exact .inl h
 exact x55s
theorem flJ_app2{A1:OA}(k1:Below base w0 w)(k2:∀k,k<w0.heap.size->A.map (·.block)≠some k->w.heap[k]?=w0.heap[k]?)
  (k4:A1.map (·.block)=A.map (·.block)∨∀k,A1.map (·.block)=some k->w0.heap.size<=k)
  (hown:Own w' base 5 1 A' (n+1+m) c' (xs++[y]++ps)) (hgr:w.grownBy w' (A1.map (·.block))) (hbel:Below base w w') (hor:A'.map (·.block)=A1.map (·.block)∨A'.map (·.block)=some w.heap.size):
  flJ w0 base go A n c xs y ps gp B m d 3 (fun j=>if j=7 then .slice A' (n+1+m) c' else cv j) w':=by
 have hs:=k1.size;refine⟨k1.trans hbel,fun k hk hn=>(hgr.block k (by omega) (fun e=>?_)).trans (k2 k hk hn),A',c',rfl,hown,?_⟩
 ·rcases k4 with h|h
  ·exact hn (h.symm.trans e.symm)
  ·have:=h k e.symm;omega
 rcases hor with h|h
 ·rcases k4 with h4|h4
  ·exact .inl (h.trans h4)
  ·exact .inr (fun k hk=>h4 k (h.symm.trans hk))
 exact x55s
theorem flJ_src{e:Nat}(h:Own w0 base e 1 B m d ps)(hne:∀k,A.map (·.block)=some k->B.map (·.block)≠some k)(k2:∀k,k<w0.heap.size->A.map (·.block)≠some k->w.heap[k]?=w0.heap[k]?):Src w B ps:=by
 intro i hi;obtain⟨b,o,rfl,hlt,hc⟩:=h.src i hi;have hk:=k2 b hlt (fun e=>hne b e rfl);refine⟨b,o,rfl,?_,(World.cell?_of_block hk).trans hc⟩;rcases Nat.lt_or_ge b w.heap.size with h|h
 ·exact h
 rw[Array.getElem?_eq_none h,Array.getElem?_eq_getElem hlt]at hk;cases hk
def FlRet(w:World)(base go gp:Nat)(out:LU):Ending->World->Prop:=fun e w'=>e=.returned (.tuple #[])∧∃A c,PkAt w' base go gp out [] A c none 0∧Below go w w'
theorem PkAt.noPlain(h1:Box w go 22 (.slice A out.length c))(h2:Box w gp 22 v)(h3:Own w base 5 1 A out.length c (out.map bv))(lo:go<base)(lp:gp<base)(no:go≠gp)(le:base<=w.heap.size):
  PkAt (w.setCell ⟨gp,0,none⟩ (.slice none 0 0)) base go gp out [] A c none 0:=
 ⟨h1.other (by show gp≠go;omega) _,h2.set _,h3.setCell_other (own_far h3 lp) _,Own.nil_ _ _ _ _,(fun k hk e=>by cases e),lo,lp,no,by simpa using le⟩
theorem flush_calls{plain:LU}(h:PkAt w base go gp out plain A c B d)(hog:go<gp)(hl:plain.length<=127)(ho:out.length<=67108864):
  Calls Try.prog 141 #[.pointer (some ⟨gp,0,none⟩),.pointer (some ⟨go,0,none⟩)] w (FlRet w base go gp (out++flushed plain)):=by
 obtain⟨h1,h2,h3,h4,h5,h6,h7,h8,h9⟩:=h;have HCO:=qH h1;have HCP:=qH h2;have HOO:=qH h3;have HOP:=qH h4;have HNE:=qH h5;have HLE:=qH h9;have c1:=h1.cell;have c2:=h2.cell;have f1:=h1.free;have f2:=h2.free;have hgo:go<w.heap.size:=h1.lt;have hgp:gp<w.heap.size:=h2.lt;clear h1 h2 h3 h4 h5 h9;by_cases hp:plain=[]
 ·subst hp;have e:out++flushed []=out:=by simp[flushed]
  rw[e];simp only[List.length_nil,Int.ofNat_eq_natCast,Int.natCast_zero]at *
  go_enter Try.func141,Try.ntmps141;go_wp2_with fail;exact bodyPost_end (results_none rfl _ _ _) rfl ⟨rfl,A,c,PkAt.noPlain HCO.out HCP.out HOO.out h6 h7 h8 HLE.out,(Below.refl _ _).setCell (p:=⟨gp,0,none⟩) (by show go<=gp;omega) _⟩
 have e:out++flushed plain=out++(UInt8.ofNat plain.length::plain):=by unfold flushed;rw[if_neg hp]
 rw[e];have hp1:1<=plain.length:=by rcases plain with _|⟨x,r⟩;exact absurd rfl hp;simp
 have hp1:(0:Int)<(plain.length:Int):=by omega
 have HBV:Hid (bv (UInt8.ofNat plain.length)=.int .u8 (plain.length:Int)):=qH (by unfold bv;rw[ofNat_toNat _ (by omega)]);have HL1:Hid (IntKind.u8.wrap (plain.length:Int)=(plain.length:Int)):=qH (by unfold IntKind.wrap;simp[IntKind.signed,IntKind.bits];omega);have HNA:=qH (And.intro (own_far HOO.out h6) (own_far HOO.out h7));clear hp e;go_enter Try.func141,Try.ntmps141;go_wp2_with fail;refine wp_region_mix (by kernel_rfl) (some 5::some 6::some 7::some 8::some 9::some 10::some 11::some 12::none::[]) (none::none::none::none::some 0::some 1::none::some 2::some 3::[]) (.slice A out.length c::.slice B plain.length d::.int .i64 (plain.length:Int)::bv (UInt8.ofNat plain.length)::undef::undef::.slice B plain.length d::undef::undef::[]) 4 (flJ w base go A out.length c (out.map bv) (bv (UInt8.ofNat plain.length)) (plain.map bv) gp B plain.length d) 13 rfl rfl (by decide+kernel) (by decide+kernel) (by decide+kernel) (by decide+kernel) rfl rfl (by decide+kernel) (by decide+kernel) (⟨(Below.refl _ _).drew,fun _ _ _=>rfl,HOO.out.drew⟩) ?_ ?_
 ·refine⟨?_,?_,?_,?_,?_,?_,?_,?_,?_,trivial⟩
  ·intro done cv k a wq hw h hJ hn;have e1:=mx_old (t:=1) (v:=.pointer (some ⟨go,0,none⟩)) h rfl rfl;exact x6qp
  ·intro done cv k a wq hw h hJ hn;have e1:=mx_old (t:=0) (v:=.pointer (some ⟨gp,0,none⟩)) h rfl rfl;exact x6qp
  ·intro done cv k a wq hw h hJ hn;have e1:=mx_new (i:=1) (t:=6) h (hw 1 (by decide)) rfl rfl rfl;go_simp
  ·intro done cv k a wq hw h hJ hn;have e1:=mx_new (i:=2) (t:=7) h (hw 2 (by decide)) rfl rfl rfl;have hl1:=HL1.out;have hbv:=HBV.out;rw[hbv];go_simp
  ·intro done cv a wq hw h hJ;have e1:=mx_new (i:=3) (t:=8) h (hw 3 (by decide)) rfl rfl rfl;obtain⟨k1,k2,k3⟩:=hJ;exact wp_sb1 e1 ⟨_,rfl,flJ_one ⟨k1,k2,k3⟩ HLE.out⟩
  ·intro done cv a wq hw h hJ;have e1:=mx_new (i:=0) (t:=5) h (hw 0 (by decide)) rfl rfl rfl;have e9:=mx_cv (i:=4) (t:=9) h (hw 4 (by decide)) rfl rfl;obtain⟨k1,k2,k3,bb,y1,y2,y3⟩:=hJ;rw[y1]at e9;refine wp_app wq (.tmp 5) (.tmp 9) 22 rfl elBytes base A out.length c (out.map bv) (ch_ev e1) k3 (some ⟨bb,0,none⟩) 1 1 [bv (UInt8.ofNat plain.length)] (ch_ev e9) (src_blk y2) rfl (by simp[Value.oneCell']) (by omega) (Nat.le_trans HLE.out k1.size) ?_;intro A' c' w' hown hgr hbel hor;exact⟨_,rfl,flJ_app1 k1 k2 hown hgr hbel hor⟩
  ·intro done cv k a wq hw h hJ hn;have e1:=mx_old (t:=0) (v:=.pointer (some ⟨gp,0,none⟩)) h rfl rfl;exact x6qp
  ·intro done cv a wq hw h hJ;have e1:=mx_cv (i:=5) (t:=10) h (hw 5 (by decide)) rfl rfl;have e11:=mx_new (i:=6) (t:=11) h (hw 6 (by decide)) rfl rfl rfl;obtain⟨k1,k2,A1,c1,y1,k3,k4⟩:=hJ;rw[y1]at e1;have hsrc:=flJ_src HOP.out HNE.out k2;refine wp_app wq (.tmp 10) (.tmp 11) 22 rfl elBytes base A1 (out.length+1) c1 (out.map bv++[bv (UInt8.ofNat plain.length)]) (ch_ev e1) k3 B plain.length d (plain.map bv) (ch_ev e11) hsrc (by simp) (bv_one _) (by omega) (Nat.le_trans HLE.out k1.size) ?_;intro A' c' w' hown hgr hbel hor;exact⟨_,rfl,flJ_app2 k1 k2 k4 hown hgr hbel hor⟩
  ·intro done cv a wq hw h hJ;have e1:=mx_old (t:=1) (v:=.pointer (some ⟨go,0,none⟩)) h rfl rfl;have e12:=mx_cv (i:=7) (t:=12) h (hw 7 (by decide)) rfl rfl;obtain⟨b1,b2⟩:=flJ_box HNA.out (k:=3) (by omega) hJ HCO.out HCP.out;obtain⟨k1,k2,A1,c1,y1,k3,k4⟩:=hJ;rw[y1]at e12;exact wp_ssl e1 e12 b1.cell b1.free ⟨undef,rfl,A1,c1,b1.set _,b2.other (by show go≠gp;omega) _,k3.setCell_other (own_far k3 (by omega)) _,(k1.mono (Nat.le_of_lt h6)).setCell (p:=⟨go,0,none⟩) (Nat.le_refl _) _⟩
 rintro cv w1 ⟨A1,d1,g1,g2,g3,g4⟩;have hl1:out.length+1+plain.length=(out++(UInt8.ofNat plain.length::plain)).length:=by simp;omega
 rw[hl1]at g1 g3;have g3':Own w1 base 5 1 A1 (out++(UInt8.ofNat plain.length::plain)).length d1 ((out++(UInt8.ofNat plain.length::plain)).map bv):=by simpa using g3
 have H1:=qH g1;have H2:=qH g2;have H3:=qH g3';have H4:=qH g4;have q1:=g2.cell;have q1:=g2.free;have hgp1:gp<w1.heap.size:=g2.lt;clear g1 g2 g3 g3' g4 hl1 c1 c2 f1 f2;simp only[mixAll,putAll_some,putAll_none,putAll_nil,List.getElem?_cons_zero,List.getElem?_cons_succ,Nat.zero_add,Nat.reduceAdd,List.setIfInBounds_toArray,List.set_cons_zero,List.set_cons_succ];go_wp2_with fail;exact bodyPost_end (results_none rfl _ _ _) rfl ⟨rfl,A1,d1,PkAt.noPlain H1.out H2.out H3.out h6 h7 h8 (Nat.le_trans HLE.out H4.out.size),H4.out.setCell (p:=⟨gp,0,none⟩) (by show go<=gp;omega) _⟩
theorem PkAt.drewN{plain:LU}(h:PkAt w base go gp out plain A c B d)(n:Nat):PkAt (w.drewN n) base go gp out plain A c B d:=
 ⟨h.co.drewN n,h.cp.drewN n,h.oo.drewN n,h.op.drewN n,h.ne,h.lo,h.lp,h.no,h.le⟩
theorem pack_calls(Ab:OA)(cb:Nat)(b:LU)(w:World)(hc:b.length<=cb)(hl:b.length<=1048576)(hB:Bts w Ab b):
  Calls Try.prog 99 #[.slice Ab b.length cb] w (BtRet w (packed b)):=by
 have hpl:=packed_len b;have HPL:Hid (∀(out:LU) (r pl:LU),out++packAt r pl=packed b->out.length<=67108000):=qH (fun out r pl e=>by have:=congrArg List.length e;simp at this;omega);have HBT:=qH hB;clear hB hpl;go_enter Try.func99,Try.ntmps99;go_wp2_with fail;have hpk:PkAt ((w.alloc (.cells #[.slice none 0 0] 22)).alloc (.cells #[.slice none 0 0] 22)) (w.heap.size+2) w.heap.size (w.heap.size+1) [] [] none 0 none 0:=
  ⟨blk_old (blk_top rfl),blk_top (by simp),Own.nil_ _ _ _ _,Own.nil_ _ _ _ _,(fun k hk e=>by cases e),by omega,by omega,by omega,by simp⟩
 have HPK:=qH hpk;have HB1:Hid (Below w.heap.size w ((w.alloc (.cells #[.slice none 0 0] 22)).alloc (.cells #[.slice none 0 0] 22))):=qH (((Below.refl _ _).alloc (Nat.le_refl _) _).alloc (by simp) _);clear hpk;generalize (w.alloc (.cells #[.slice none 0 0] 22)).alloc (.cells #[.slice none 0 0] 22)=w0 at *
 generalize hgo:w.heap.size=go at *
 have hog:go<go+1:=by omega
 generalize hgp:go+1=gp at *
 have hlo:go<go+2:=by omega
 have hlp:gp<go+2:=by omega
 have hno:go≠gp:=by omega
 have hgb:go<=go+2:=by omega
 generalize hba:go+2=base at *
 have HGO:=qH hgo;clear hgo hgp hba;go_loopw [6] (fun i wr=>∃(k:Nat) (out plain:LU) (A B:OA) (c d:Nat),i=.int .i64 k∧k<=b.length∧plain.length<127∧Hid (out++packAt (b.drop k) plain=packed b)∧Hid (PkAt wr base go gp out plain A c B d)∧Hid (Below go w wr)) (fun i _=>b.length-(intOf i).toNat)
 case atStart=>exact⟨0,[],[],none,none,0,0,rfl,Nat.zero_le _,by simp,qH rfl,HPK,HB1⟩
 case round=>
  clear HPK HB1;rename World=>wo;obtain⟨k,out,plain,A,B,c,d,rfl,hk,hpn,HE,HP,HB⟩:=hrel;by_cases hlt:k<b.length
  ·have dk:decide ((k:Int)<(b.length:Int))=true:=by simp;omega
   have ebd:b.drop k=b[k]::b.drop (k+1):=List.drop_eq_getElem_cons hlt;obtain⟨a1,a2,a3,a4,a5⟩:=alike_stop hlt;have HEB:=qH ebd;have HA1:=qH a4;obtain⟨ab,ao,rfl,hsb,hxk⟩:=(HBT.out.stays (HGO.out▸HB.out)) k hlt;have hbt:=HBT.out.stays (HGO.out▸HB.out);have HBO:=qH hbt;clear ebd a4 hbt;have HAL:Hid (alike (b.drop k)=alike (b.drop k)):=qH rfl;generalize hal:alike (b.drop k)=al at *
   have HALE:=qH hal;clear hal HAL;go_wp2_with fail;go_loopw [7] (fun n wr=>∃(m nd:Nat),n=.int .i64 (m:Int)∧1<=m∧m<=al∧wo.drewN nd=wr) (fun n _=>al-(intOf n).toNat)
   case atStart=>exact⟨1,0,rfl,by omega,a1,rfl⟩
   case round=>
    obtain⟨m,nd,rfl,hm1,hm2,rfl⟩:=hrel;by_cases hml:m<al
    ·have hx1:=HA1.out m hml;have hkm:k+m<b.length:=by omega
     rw[List.getElem?_eq_getElem hkm]at hx1;obtain⟨b1,o1,e1,hs1,hc1⟩:=HBO.out (k+m) hkm;injection e1 with e1;injection e1 with e3 e4;subst e3 e4;have hx2:b[k+m]=b[k]:=by injection hx1
     rw[hx2]at hc1;have d1:decide ((m:Int)<127)=true:=by simp;omega
     have d1:decide ((k:Int)+(m:Int)<(b.length:Int))=true:=by simp;omega
     have d1:((b[k].toNat:Int)==(b[k].toNat:Int))=true:=by simp
     have hw1:IntKind.i64.wrap ((k:Int)+(m:Int))=(k:Int)+(m:Int):=IntWalk.i64_in _ (by omega);clear hx1 hx2;go_wp2_with fail;go_quiet (fail)
     go_wp2_with fail;go_roundw
     case rel=>exact⟨m+1,_,by go_num,by omega,by omega,rfl⟩
     case measure=>simp[intOf];omega
    obtain rfl:m=al:=by omega
    have hw1:IntKind.i64.wrap ((k:Int)+(m:Int))=(k:Int)+(m:Int):=IntWalk.i64_in _ (by omega);by_cases h3:3<=m
    ·have hrun:=packAt_run (x:=b[k]) (r:=b.drop (k+1)) (plain:=plain) (by rw[<-HEB.out,HALE.out];exact h3);rw[<-HEB.out,HALE.out,List.drop_drop]at hrun;have hE1:(out++flushed plain++[UInt8.ofNat (128+m),b[k]])++packAt (b.drop (k+m)) []=packed b:=by
      rw[<-HE.out,hrun];simp
     have ho1:out.length<=67108000:=HPL.out _ _ _ HE.out;have ho1:(out++flushed plain).length<=67108000:=HPL.out (out++flushed plain) [] ([UInt8.ofNat (128+m),b[k]]++[]) |> fun h=>by
      have:=congrArg List.length hE1;have hq:=HPL.out (out++flushed plain++[UInt8.ofNat (128+m),b[k]]) _ _ hE1;simp at hq⊢;omega
     have HE1:=qH hE1;have HBV:Hid (bv (UInt8.ofNat (128+m))=.int .u8 (128+(m:Int))):=qH (by unfold bv;rw[ofNat_toNat _ (by omega)];simp);have HL1:Hid (IntKind.u8.wrap (m:Int)=(m:Int)):=qH (by unfold IntKind.wrap;simp[IntKind.signed,IntKind.bits];omega);have HL2:Hid (IntKind.u8.wrap (128+(m:Int))=128+(m:Int)):=qH (by unfold IntKind.wrap;simp[IntKind.signed,IntKind.bits];omega);clear hrun hE1 HE;rcases a5 with h|⟨h0,h⟩|⟨h0,h1,h2⟩;all_goals (first
      |(have d1:decide ((m:Int)<127)=false:=by simp;omega
        clear h hm2 hml;go_wp2_with fail;go_quiet (fail)
        go_wp2_with fail)
      |(have d1:decide ((m:Int)<127)=true:=by simp;omega
        have d2:decide ((k:Int)+(m:Int)<(b.length:Int))=false:=by simp;omega
        clear h hm2 hml;go_wp2_with fail;go_quiet (fail)
        go_wp2_with fail)
      |(have d1:decide ((m:Int)<127)=true:=by simp;omega
        have d2:decide ((k:Int)+(m:Int)<(b.length:Int))=true:=by simp;omega
        have d3:((b[k+m].toNat:Int)==(b[k].toNat:Int))=false:=by simp;exact fun e=>h2 (UInt8.toNat_inj.1 (by omega))
        have hc2:wo.cell? ⟨ab,ao+(k+m),none⟩=some (bv b[k+m]):=by
         obtain⟨b2,o2,e2,hs2,hc2⟩:=HBO.out (k+m) h1;injection e2 with e2;injection e2 with e3 e4;subst e3 e4;exact hc2
        clear h2 hm2 hml;go_wp2_with fail;go_quiet (fail)
        go_wp2_with fail))
     all_goals (
      have HPx:Hid (∀n,PkAt (wo.drewN n) base go gp out plain A c B d∧Below go w (wo.drewN n)):=qH (fun n=>⟨HP.out.drewN n,Below.drewN' HB.out n⟩);refine(flush_calls (HPx.out _).1 hog (by omega) (by omega)).mono ?_;rintro e wx ⟨rfl,A1,c1,hp1,hb1⟩;have HBx:Hid (Below go w wx):=qH ((HPx.out _).2.trans hb1);have hxc:=(HBT.out.stays (HGO.out▸HBx.out)) k hlt;have HXC:Hid (wx.cell? ⟨ab,ao+k,none⟩=some (bv b[k])):=qH (by
       exact x6s8)
      obtain⟨p1,p2,p3,p4,p5,p6,p7,p8,p9⟩:=hp1;have HCO:=qH p1;have HCP:=qH p2;have HOW:=qH p3;have HBOX:=qH p1;have HNA:=qH (And.intro (own_far p3 p6) (own_far p3 p7));have hle:=p9;clear hb1 hxc p1 p2 p3 p4 p5 HPx;go_wp2_with fail;refine wp_region_mix (by kernel_rfl) (some 42::some 43::some 44::some 45::some 46::some 47::some 48::some 49::some 50::some 51::none::[]) (none::none::none::none::none::none::none::none::some 0::some 1::some 2::[]) (.slice A1 (out++flushed plain).length c1::.int .i64 ((m:Nat):Int)::.int .u8 (m:Int)::bv (UInt8.ofNat (128+m))::.slice (some ⟨ab,ao,none⟩) b.length cb::.int .i64 (k:Int)::.pointer (some ⟨ab,ao+k,none⟩)::bv b[k]::undef::undef::undef::[]) 3 (bxJ wx base A1 (out++flushed plain).length c1 ((out++flushed plain).map bv) [bv (UInt8.ofNat (128+m)),bv b[k]] 8 9 (fun w=>∃A2 c2,Box w go 22 (.slice A2 ((out++flushed plain).length+2) c2)∧Box w gp 22 (.slice none 0 0)∧Own w base 5 1 A2 ((out++flushed plain).length+2) c2 ((out++flushed plain).map bv++[bv (UInt8.ofNat (128+m)),bv b[k]])∧Below go wx w)) 70 rfl rfl (by decide+kernel) (by decide+kernel) (by decide+kernel) (by decide+kernel) rfl rfl (by decide+kernel) (by decide+kernel) (rfl) ?_ ?_
      ·refine⟨?_,?_,?_,?_,?_,?_,?_,?_,?_,?_,?_,trivial⟩
       ·intro done cv k1 a wq hw h hJ hn;have e1:=mx_old (t:=3) (v:=.pointer (some ⟨go,0,none⟩)) h rfl rfl;have hk:=hn 9 _ 1 rfl rfl (by decide);exact x09t
       ·intro done cv k1 a wq hw h hJ hn;have e1:=mx_old (t:=7) (v:=.int .i64 ((m:Nat):Int)) h rfl rfl;exact mx_move (ch_ev e1)
       ·intro done cv k1 a wq hw h hJ hn;have e1:=mx_new (i:=1) (t:=43) h (hw 1 (by decide)) rfl rfl rfl;have hl1:=HL1.out;go_simp
       ·intro done cv k1 a wq hw h hJ hn;have e1:=mx_new (i:=2) (t:=44) h (hw 2 (by decide)) rfl rfl rfl;have hl1:=HL2.out;have hbv:=HBV.out;rw[hbv];go_simp
       ·exact x73e
       ·exact x678
       ·intro done cv k1 a wq hw h hJ hn;have e1:=mx_new (i:=4) (t:=46) h (hw 4 (by decide)) rfl rfl rfl;have e47:=mx_new (i:=5) (t:=47) h (hw 5 (by decide)) rfl rfl rfl;go_simp
       ·intro done cv k1 a wq hw h hJ hn;have e1:=mx_new (i:=6) (t:=48) h (hw 6 (by decide)) rfl rfl rfl;have hk:=hn 8 _ 0 rfl rfl (by decide);exact x1od
       ·intro done cv a wq hw h hJ;have e1:=mx_new (i:=3) (t:=45) h (hw 3 (by decide)) rfl rfl rfl;have e49:=mx_new (i:=7) (t:=49) h (hw 7 (by decide)) rfl rfl rfl;obtain rfl:wq=wx.drew:=hJ;exact wp_sb2 e1 e49 ⟨_,rfl,rfl,by simp⟩
       ·intro done cv a wq hw h hJ;have e1:=mx_new (i:=0) (t:=42) h (hw 0 (by decide)) rfl rfl rfl;have e50:=mx_cv (i:=8) (t:=50) h (hw 8 (by decide)) rfl rfl;obtain⟨rfl,y1⟩:=hJ;rw[y1]at e50;refine wp_app _ (.tmp 42) (.tmp 50) 22 rfl elBytes base A1 (out++flushed plain).length c1 ((out++flushed plain).map bv) (ch_ev e1) (HOW.out.drew.alloc _) (some ⟨wx.heap.size,0,none⟩) 2 2 [bv (UInt8.ofNat (128+m)),bv b[k]] (ch_ev e50) (src_blk (blk_top (by simp))) rfl (by simp[Value.oneCell']) (by omega) (by simp;omega) ?_;exact x56y
       ·intro done cv a wq hw h hJ;have e1:=mx_old (t:=3) (v:=.pointer (some ⟨go,0,none⟩)) h rfl rfl;have e51:=mx_cv (i:=9) (t:=51) h (hw 9 (by decide)) rfl rfl;obtain⟨A1,c1,y1,k3,k1,k2,k4⟩:=hJ;rw[y1]at e51;have b1:Box wq go _ _:=(k2 go HCO.out.lt HNA.out.1).trans HCO.out;have b2:Box wq gp _ _:=(k2 gp HCP.out.lt HNA.out.2).trans HCP.out;exact wp_ssl e1 e51 b1.cell b1.free ⟨undef,rfl,A1,c1,b1.set _,b2.other (by show go≠gp;omega) _,k3.setCell_other (own_far k3 hlo) _,(k1.mono (Nat.le_of_lt hlo)).setCell (p:=⟨go,0,none⟩) (Nat.le_refl _) _⟩
      rintro cv w1 ⟨A1,c1,q1,q2,q3,q4⟩;have e1:(out++flushed plain++[UInt8.ofNat (128+m),b[k]]).length=(out++flushed plain).length+2:=by rw[List.length_append];rfl
      have hP1:PkAt w1 base go gp (out++flushed plain++[UInt8.ofNat (128+m),b[k]]) [] A1 c1 none 0:=
       ⟨by rw[e1];exact q1,q2,by rw[e1,List.map_append];exact q3,Own.nil_ _ _ _ _,(fun k hk e=>by cases e),hlo,hlp,hno,Nat.le_trans hle q4.size⟩
      have HP1:=qH hP1;have HB1:Hid (Below go w w1):=qH (HBx.out.trans q4);clear q1 q2 q3 q4 hP1 e1;simp only[mixAll,putAll_some,putAll_none,putAll_nil,List.getElem?_cons_zero,List.getElem?_cons_succ,Nat.zero_add,Nat.reduceAdd,List.setIfInBounds_toArray,List.set_cons_zero,List.set_cons_succ];go_wp2_with fail;go_roundw
      case rel=>exact⟨k+m,_,[],A1,none,c1,0,by go_num,by omega,by simp,HE1,HP1,HB1⟩
      case measure=>simp[intOf];omega)
    have HPX:Hid (∀n,PkAt (wo.drewN n) base go gp out plain A c B d∧Below go w (wo.drewN n)):=qH (fun n=>⟨HP.out.drewN n,Below.drewN' HB.out n⟩);have ho1:out.length<=67108000:=HPL.out _ _ _ HE.out;have h3':¬3<=alike (b[k]::b.drop (k+1)):=by rw[<-HEB.out,HALE.out];exact h3
    have HF:Hid (plain.length+1=127->(out++flushed (plain++[b[k]]))++packAt (b.drop (k+1)) []=packed b):=qH (fun e=>by rw[<-HE.out,HEB.out,packAt_full h3' e];simp);have HG:Hid (plain.length+1≠127->out++packAt (b.drop (k+1)) (plain++[b[k]])=packed b):=qH (fun e=>by rw[<-HE.out,HEB.out,packAt_byte h3' e]);clear HE h3';rcases a5 with h|⟨h0,h⟩|⟨h0,h1,h2⟩;all_goals (first
     |(have d1:decide ((m:Int)<127)=false:=by simp;omega
       clear h hm2 hml;go_wp2_with fail;go_quiet (fail)
       go_wp2_with fail)
     |(have d1:decide ((m:Int)<127)=true:=by simp;omega
       have d2:decide ((k:Int)+(m:Int)<(b.length:Int))=false:=by simp;omega
       clear h hm2 hml;go_wp2_with fail;go_quiet (fail)
       go_wp2_with fail)
     |(have d1:decide ((m:Int)<127)=true:=by simp;omega
       have d2:decide ((k:Int)+(m:Int)<(b.length:Int))=true:=by simp;omega
       have d3:((b[k+m].toNat:Int)==(b[k].toNat:Int))=false:=by simp;exact fun e=>h2 (UInt8.toNat_inj.1 (by omega))
       have hc2:wo.cell? ⟨ab,ao+(k+m),none⟩=some (bv b[k+m]):=by
        obtain⟨b2,o2,e2,hs2,hc2⟩:=HBO.out (k+m) h1;injection e2 with e2;injection e2 with e3 e4;subst e3 e4;exact hc2
       clear h2 hm2 hml;go_wp2_with fail;go_quiet (fail)
       go_wp2_with fail))
    all_goals (
     generalize hwx:wo.drewN _=wx;obtain⟨hpx,hbx⟩:PkAt wx base go gp out plain A c B d∧Below go w wx:=by rw[<-hwx];exact HPX.out _
     have HBx:=qH hbx;have hxc:=(HBT.out.stays (HGO.out▸HBx.out)) k hlt;have HXC:Hid (wx.cell? ⟨ab,ao+k,none⟩=some (bv b[k])):=qH (by
      exact x6s8)
     obtain⟨p1,p2,p3,p4,p5,p6,p7,p8,p9⟩:=hpx;have HCO:=qH p1;have HCP:=qH p2;have HOA:=qH p3;have HOW:=qH p4;have HNE:=qH p5;have HBOX:=qH p2;have HNB:=qH (And.intro (own_far p4 p6) (own_far p4 p7));have hle:=p9;clear hbx hxc p1 p2 p3 p4 p5 hwx;refine wp_region_mix (by kernel_rfl) (some 52::some 53::some 54::some 55::some 56::some 57::some 58::none::[]) (none::none::none::none::none::some 0::some 1::some 2::[]) (.slice B plain.length d::.slice (some ⟨ab,ao,none⟩) b.length cb::.int .i64 (k:Int)::.pointer (some ⟨ab,ao+k,none⟩)::bv b[k]::undef::undef::undef::[]) 3 (bxJ wx base B plain.length d (plain.map bv) [bv b[k]] 5 6 (fun w=>∃A2 c2,Box w go 22 (.slice A out.length c)∧Box w gp 22 (.slice A2 (plain.length+1) c2)∧Own w base 5 1 A out.length c (out.map bv)∧Own w base 5 1 A2 (plain.length+1) c2 (plain.map bv++[bv b[k]])∧(∀q,A.map (·.block)=some q->A2.map (·.block)≠some q)∧Below go wx w)) 70 rfl rfl (by decide+kernel) (by decide+kernel) (by decide+kernel) (by decide+kernel) rfl rfl (by decide+kernel) (by decide+kernel) (rfl) ?_ ?_
     ·refine⟨?_,?_,?_,?_,?_,?_,?_,?_,trivial⟩
      ·intro done cv k1 a wq hw h hJ hn;have e1:=mx_old (t:=4) (v:=.pointer (some ⟨gp,0,none⟩)) h rfl rfl;have hk:=hn 6 _ 1 rfl rfl (by decide);exact x09t
      ·exact x73e
      ·exact x678
      ·intro done cv k1 a wq hw h hJ hn;have e1:=mx_new (i:=1) (t:=53) h (hw 1 (by decide)) rfl rfl rfl;have e54:=mx_new (i:=2) (t:=54) h (hw 2 (by decide)) rfl rfl rfl;go_simp
      ·intro done cv k1 a wq hw h hJ hn;have e1:=mx_new (i:=3) (t:=55) h (hw 3 (by decide)) rfl rfl rfl;have hk:=hn 5 _ 0 rfl rfl (by decide);exact x1od
      ·intro done cv a wq hw h hJ;have e1:=mx_new (i:=4) (t:=56) h (hw 4 (by decide)) rfl rfl rfl;obtain rfl:wq=wx.drew:=hJ;exact wp_sb1 e1 ⟨_,rfl,rfl,by simp⟩
      ·intro done cv a wq hw h hJ;have e1:=mx_new (i:=0) (t:=52) h (hw 0 (by decide)) rfl rfl rfl;have e57:=mx_cv (i:=5) (t:=57) h (hw 5 (by decide)) rfl rfl;obtain⟨rfl,y1⟩:=hJ;rw[y1]at e57;refine wp_app _ (.tmp 52) (.tmp 57) 22 rfl elBytes base B plain.length d (plain.map bv) (ch_ev e1) (HOW.out.drew.alloc _) (some ⟨wx.heap.size,0,none⟩) 1 1 [bv b[k]] (ch_ev e57) (src_blk (blk_top (by simp))) rfl (by simp[Value.oneCell']) (by omega) (by simp;omega) ?_;exact x56y
      ·intro done cv a wq hw h hJ;have e1:=mx_old (t:=4) (v:=.pointer (some ⟨gp,0,none⟩)) h rfl rfl;have e58:=mx_cv (i:=6) (t:=58) h (hw 6 (by decide)) rfl rfl;obtain⟨A1,c1,y1,k3,k1,k2,k4⟩:=hJ;rw[y1]at e58;have b1:Box wq go _ _:=(k2 go HCO.out.lt HNB.out.1).trans HCO.out;have b2:Box wq gp _ _:=(k2 gp HCP.out.lt HNB.out.2).trans HCP.out;have o1:=HOA.out.same (w':=wq) (fun k hk=>k2 k (HOA.out.block k hk).2 (HNE.out k hk));have hne1:∀q,A.map (·.block)=some q->A1.map (·.block)≠some q:=fun q hq e=>by
        rcases k4 with h|h
        ·rw[h]at e;exact HNE.out q hq e
        have:=h q e;have:=(HOA.out.block q hq).2;omega
       exact wp_ssl e1 e58 b2.cell b2.free ⟨undef,rfl,A1,c1,b1.other (by show gp≠go;omega) _,b2.set _,o1.setCell_other (own_far o1 hlp) _,k3.setCell_other (own_far k3 hlp) _,hne1,(k1.mono (Nat.le_of_lt hlo)).setCell (p:=⟨gp,0,none⟩) (by show go<=gp;omega) _⟩
     rintro cv w1 ⟨A1,c2,q1,q2,q3,q4,q5,q6⟩;have e1:(plain++[b[k]]).length=plain.length+1:=by simp
     have hP1:PkAt w1 base go gp out (plain++[b[k]]) A c A1 c2:=
      ⟨q1,by rw[e1];exact q2,q3,by rw[e1,List.map_append];exact q4,q5,hlo,hlp,hno,Nat.le_trans hle q6.size⟩
     have HP1:=qH hP1;have HB1:Hid (Below go w w1):=qH (HBx.out.trans q6);have g1:=q2.cell;clear q1 q2 q3 q4 q5 q6 hP1 HXC HCO HCP HOA HOW HNE HBOX HNB;simp only[mixAll,putAll_some,putAll_none,putAll_nil,List.getElem?_cons_zero,List.getElem?_cons_succ,Nat.zero_add,Nat.reduceAdd,List.setIfInBounds_toArray,List.set_cons_zero,List.set_cons_succ];by_cases hf:plain.length+1=127
     ·have f1:((plain.length:Int)+1==127)=true:=by simp;omega
      have hfl:=flush_calls HP1.out hog (by rw[e1];omega) (by omega);have HFL:=qH hfl;have HF1:=qH (HF.out hf);clear hf hfl HF HG e1;go_wp2_with fail;refine HFL.out.mono ?_;rintro e w1 ⟨rfl,A1,c1,hp1,hb1⟩;have HP1:=qH hp1;have HB1:Hid (Below go w w1):=qH (HB1.out.trans hb1);clear hp1 hb1;go_wp2_with fail;go_roundw
      case rel=>exact⟨k+1,_,[],A1,none,c1,0,by go_num,by omega,by simp,HF1,HP1,HB1⟩
      case measure=>simp[intOf];omega
     have f1:((plain.length:Int)+1==127)=false:=by simp;omega
     have HG1:=qH (HG.out hf);have hl1:(plain++[b[k]]).length<127:=by omega
     clear hf HF HG e1;go_wp2_with fail;go_roundw
     case rel=>exact⟨k+1,out,plain++[b[k]],A,A1,c,c2,by go_num,by omega,hl1,HG1,HP1,HB1⟩
     case measure=>simp[intOf];omega)
  obtain rfl:k=b.length:=by omega
  have e1:b.drop b.length=[]:=List.drop_length;have hE:out++flushed plain=packed b:=by rw[<-HE.out,e1,packAt_nil]
  have hfl:=flush_calls HP.out hog (by omega) (by have:=HPL.out _ _ _ HE.out;omega);rw[hE]at hfl;have HFL:=qH hfl;clear hE hfl e1 HE;go_wp2_with fail;refine HFL.out.mono ?_;rintro e w1 ⟨rfl,A1,c1,hp1,hb1⟩;have g1:=hp1.co.cell;have HO1:Hid (Own w1 w.heap.size 5 1 A1 (packed b).length c1 ((packed b).map bv)):=qH (hp1.oo.mono (by have:=HGO.out;have:=hp1.lo;omega));have HB1:Hid (Below w.heap.size w w1):=qH (by rw[HGO.out];exact HB.out.trans hb1);clear hp1 hb1;go_wp2_with fail;go_ret;exact⟨A1,c1,rfl,HO1.out,HB1.out⟩
theorem elRowsB:El Try.prog 86 22 1 5864062014805:=⟨Try.underlying86,by
 obtain⟨i,h⟩:=info_parts (P:=Try.prog) (e:=22) (z:=.slice none 0 0) (size:=1) (bytes:=24) (by kernel_rfl);exact⟨i,_,h.1,h.2.1,h.2.2.1,by omega,rfl⟩,by omega⟩
theorem cloneRows_calls(A:OA)(n c:Nat)(cs:List Value)(w:World)(hl:cs.length=n*1)(hn0:n<=5864062014805)(hr:Src w A cs)(h1:∀u∈cs,u.oneCell'=true):
  Calls Try.prog 165 #[.slice A n c] w (SlRet w 22 1 n cs):=by
 rcases A with _|ad
 ·have h1:cs.length=0:=by
   exact x5fs
  obtain rfl:n=0:=by omega
  obtain rfl:cs=[]:=List.eq_nil_of_length_eq_zero h1;have hn:=fun (wx:World) (a:OA) (n c n' c':Nat)=>Lib.run_eql_slice_nil (P:=Try.prog) wx 86 22 a n c n' c' Try.underlying86;clear h1 hl;go_enter Try.func165,Try.ntmps165;exact x4d9
 have hn:=fun (wx:World) (a:OA) (n c n' c':Nat)=>Lib.run_eql_slice_nil (P:=Try.prog) wx 86 22 a n c n' c' Try.underlying86;have ho:Own (w.alloc (.cells #[] 22)) w.heap.size 22 1 (some ⟨w.heap.size,0,none⟩) 0 0 []:=own_zero w _ _;have hs:=hr.stays ((Below.refl w.heap.size w).alloc (Nat.le_refl _) (.cells #[] 22));have hb1:0+n<=5864062014805:=by omega
 have hb2:w.heap.size<=(w.alloc (.cells #[] 22)).heap.size:=by simp
 have HL:=qH hl;clear hl;go_enter Try.func165,Try.ntmps165;go_wp2_with (at_builtin;refine wpList_app _ rfl _ _ 86 rfl elRowsB w.heap.size (some ⟨w.heap.size,0,none⟩) 0 0 [] rfl ho (some ad) n c cs rfl hs HL.out h1 hb1 hb2 ?_;intro A' c' w1 hown hg hb hx);exact x6v2
theorem elErrs:El Try.prog 90 24 1:=⟨Try.underlying90,by
 obtain⟨i,h⟩:=info_parts (P:=Try.prog) (e:=24) (z:=.int .i64 0) (size:=1) (bytes:=8) (by kernel_rfl);exact⟨i,_,h.1,h.2.1,h.2.2.1,by omega,rfl⟩,by omega⟩
theorem conv_str(A:OA)(c:Nat)(l:LU)(w:World)(hc:l.length<=c)(h:Bts w A l):(convert 22 9 (.slice A l.length c)).run Try.prog w=.ok (.string ⟨l.toArray⟩) w:=by
 by_cases e:l=[]
 ·subst e
  cases A with
  |none=>exact run_convert_bytes_nil (P:=Try.prog) w 22 5 Try.underlying22 Try.underlying5 0 c 9 Try.underlying9
  |some a=>exact run_convert_bytes_back (P:=Try.prog) w 22 9 5 a c [] Try.underlying22 Try.underlying5 Try.underlying9 (fun j hj=>by simp at hj)
 obtain⟨b,o,rfl,-,-⟩:=h 0 (by rcases l with _|⟨x,l⟩;exact absurd rfl e;simp);refine run_convert_bytes_back (P:=Try.prog) w 22 9 5 ⟨b,o,none⟩ c l Try.underlying22 Try.underlying5 Try.underlying9 (fun j hj=>?_);obtain⟨b',o',e,-,hc⟩:=h j hj;injection e with e;injection e with e1 e2;subst e1 e2;rw[show (⟨b,o,none⟩:Addr).add j=⟨b,o+j,none⟩ by simp[Addr.add]];exact hc
theorem bytesEqual_calls(A B:OA)(c d:Nat)(l m:LU)(w:World)(hc:l.length<=c)(hd:m.length<=d)(ha:Bts w A l)(hb:Bts w B m):
  Calls Try.prog 23 #[.slice A l.length c,.slice B m.length d] w (Ret w (.bool (decide (l=m)))):=by
 have k1:=conv_str A c l w hc ha;have k1:=conv_str B d m w hd hb;go_enter Try.func23,Try.ntmps23;go_wp2_with fail;go_ret;exact⟨ret_bool (by by_cases e:l=m<;>simp[e]),rfl⟩
end Go.Proofs.Ytefkfglkpebbmac
