/- The walk of the law DeviceInstalls: its closure that installs. No conditions. -/
import Derived.Test.YtefkfglkpebbmacP8
import Derived.Test.YtefkfglkpebbmacPMDevBox
import Derived.Test.YtefkfglkpebbmacPXInstallsLaw
import Derived.Deep.Cut
set_option linter.unusedVariables false
set_option linter.unusedSimpArgs false
set_option maxRecDepth 100000
set_option maxHeartbeats 40000000
namespace Go.Proofs.Ytefkfglkpebbmac
open Go.RowKit
variable {Y:Prop}
variable {d:Dev}
theorem DS.cell{W w5 wr:World}{bs g q g':Nat}{L:DLoc}(h:DS W w5 bs g q d L wr)(hg:W.heap.size<=g)(hbs:g'<bs)(h1:g<g')(h2:g'<q)(v:Value):DS W w5 bs g q d L (wr.setCell ⟨g',0,none⟩ v):=by
 have e:∀k,k≠g'->(wr.setCell ⟨g',0,none⟩ v).heap[k]?=wr.heap[k]?:=fun k hk=>Below.heap_setCell _ _ _ _ hk;have r:=rowH (e g (by omega));exact⟨⟨r.1.trans h.box.row,r.2.trans h.box.fr,h.box.lt,by simpa using h.box.le,fun u hu=>h.box.in_ u fun k h3 h4=>(hu k h3 (by simpa using h4)).trans (e k (by omega))⟩,
  h.bel.setCell (p:=⟨g',0,none⟩) (by show _<=g';omega) v,h.kp.cell (p:=⟨g',0,none⟩) (.inl hbs) v,by simpa using h.le⟩
structure IS(W w5:World)(bs g:Nat)(d:Dev)(L:DLoc)(wr:World):Prop where
 ds:DS W w5 bs g (g+2) d L wr
 er:rowOf wr (g+1)=#[iv 0]
 ef:frOf wr (g+1)=(0,0)
section
variable {W w5 wr w':World} {bs g:Nat} {d e:Dev} {L L':DLoc}
theorem IS.below(h:IS W w5 bs g d L wr)(hb:Below wr.heap.size wr w'):IS W w5 bs g d L w':=by
 have hl:g+1<wr.heap.size:=by have:=h.ds.box.le;omega
 exact⟨h.ds.below hb,(rowOf_below hl hb).trans h.er,(frOf_below hl hb).trans h.ef⟩
theorem IS.step(h:IS W w5 bs g d L wr)(hg:W.heap.size<=g)(hbs:g+2<=bs)(hb:Below wr.heap.size wr w')(hf:Fresh wr.heap.size w' (fun v=>DevIn v e L')):IS W w5 bs g e L' ((w'.setRow g (devA e L')).setCell ⟨g+1,0,none⟩ (iv 0)):=by
 have hh:=h.below hb;have r:=rowH (setRow_other w' g (g+1) (devA e L') (by omega));have r1:rowOf (w'.setRow g (devA e L')) (g+1)=#[iv 0]:=r.1.trans hh.er;have r2:frOf (w'.setRow g (devA e L')) (g+1)=(0,0):=r.2.trans hh.ef;refine⟨(h.ds.step hg (by omega) hb hf).cell hg (by omega) (by omega) (by omega) _,?_,?_⟩
 ·rw[rowOf_setCell,if_pos rfl,r1];rfl
 rw[frOf_setCell];exact r2
end
theorem TrW.mono{old b:LU}{to_ G G' n:Int}(h:TrW old b to_ G n d)(hG:G<=G'):TrW old b to_ G' n d:=by
 obtain⟨r1,h1,h2,h3,h4,h5⟩:=h;exact⟨r1,h1,h2,h3,h4,Int.le_trans h5 hG⟩
def InRet(W w5:World)(bs g:Nat)(old b:LU)(to_ G z:Int):Ending->World->Prop:=fun en w'=>
 en=.returned (.bool true)∧∃d' L',IS W w5 bs g d' L' w'∧(0<=z∧z<b.length∧TrO old b (G+1) d'∨(z<0∨(b.length:Int)<=z)∧∃n,(b.length:Int)<=n∧TrW old b to_ G n d')
theorem install_calls{old b:LU}{to_ G z keep:Int}{l:List Chk}{W w5 w:World}{bs g gl gb gk ab ao c5 e0:Nat}{B:OA}{L:DLoc}(hg:W.heap.size<=g)(hbs:g+2<=bs)(hbl:b.length<=64)(hz:z= -1∨0<=z∧z%8=0)(hz2:z<=64)
  (TH:∀k d,TrB old b to_ G k d->∀hk:k<l.length,∃e,devHear d (l[k])=(e,0)∧TrB old b to_ G (k+1) e) (TO:∀k d,TrB old b to_ G k d->l.length<=k->∃e,devOpen d=(e,0)∧TrW old b to_ G 0 e)
  (hrb:rowOf W gb=#[.slice B b.length e0]∧frOf W gb=(0,0)) (hrk:rowOf W gk=#[iv keep]∧frOf W gk=(0,0)) (hrl:rowOf w5 gl=#[.slice (some ⟨ab,ao,none⟩) l.length c5]∧frOf w5 gl=(0,0)) (hgl:bs<=gl)
  (hch:∀v,Kp bs w5 v->Chs v (some ⟨ab,ao,none⟩) l) (hc5:l.length<=c5) (hl2:l.length<=100) (HS0:IS W w5 bs g d L w) (HT0:TrB old b to_ G 0 d):
  Calls Try.prog 70 #[iv z,.pointer (some ⟨gl,0,none⟩),.pointer (some ⟨g,0,none⟩),.pointer (some ⟨g+1,0,none⟩),.pointer (some ⟨gb,0,none⟩),.pointer (some ⟨gk,0,none⟩)] w
   (InRet W w5 bs g old b to_ G z):=by
 have HS:=qH HS0;have HT:=qH HT0;have HTH:=qH TH;have HTO:=qH TO;have HRB:=qH hrb;have HRK:=qH hrk;have HRL:=qH hrl;have HCH:=qH hch;have HGLT:Hid (gl<w5.heap.size):=qH (row_lt (w:=w5) (by rw[hrl.1];simp));have HLW:Hid (∀wr,Kp bs w5 wr->rowOf wr gl=#[.slice (some ⟨ab,ao,none⟩) l.length c5]∧frOf wr gl=(0,0)):=qH (fun wr hk=>by
  have r:=rowH (hk gl hgl HGLT.out);exact⟨r.1.trans HRL.out.1,r.2.trans HRL.out.2⟩)
 clear HS0 HT0 hrb hrk hrl hch TH TO;obtain⟨f0r,f0f⟩:=HLW.out w HS.out.ds.kp;have l1:=keep1 (bW w) f0r (by go_simp) f0f;clear f0r f0f;go_enter Try.func70,Try.ntmps70;go_wp2_with fail;clear l1;go_loopw [13] (fun i wr=>∃(j:Nat) (d:Dev) (L:DLoc),j<=l.length∧i=iv j∧Hid (TrB old b to_ G j d)∧Hid (IS W w5 bs g d L wr)) (fun i _=>l.length-(intOf i).toNat)
 case atStart=>exact⟨0,d,L,Nat.zero_le _,rfl,HT,HS⟩
 case round=>
  clear HT HS;rename World=>wr;obtain⟨j,d,L,hj,rfl,HT,HS⟩:=hrel;have a2:=keep1 (bW wr) HS.out.ds.box.row (by go_simp) HS.out.ds.box.fr;have a1:=keep1 (bW wr) HS.out.er (by go_simp) HS.out.ef;by_cases hlj:j<l.length
  ·obtain⟨b',o',D,e,hAe,hbl',hat,hin⟩:=(HCH.out wr HS.out.ds.kp).chk hlj;injection hAe with hAe;injection hAe with h1 h2;subst h1 h2;obtain⟨dn,h1,h2⟩:=HTH.out _ _ HT.out hlj;obtain⟨x,hx⟩:=eX (l[j]);rw[hx]at h1 hat hin;have HX:=qH h1;have HT1:=qH h2;obtain⟨q5,q1,q2,q3,q4⟩:=hat;have hba:Below wr.heap.size wr (wr.alloc (.cells (chkA x.from_ x.to_ x.n x.of_ D x.data.length e) 49)):=bL _;have HS1:=qH (HS.out.below hba);have HIN:=qH (hin.stays hba);have dj:decide ((j:Int)<(l.length:Int))=true:=decide_eq_true (by omega);have nb:¬(l.length:Int)<=(j:Int):=by omega
   have hwj:IntKind.i64.wrap ((j:Int)+1)=(j:Int)+1:=IntWalk.i64_in _ (by omega);clear h1 h2 hx hin hba HT HS;go_wp2_with fail;have KH:=qH (devHear_calls d L x D e _ HS1.out.ds.box.now HIN.out);rw[HX.out]at KH;refine KH.out.mono ?_;rintro en w1 ⟨L1,rfl,hf1,hb1⟩;have HS2:=qH (HS1.out.step hg hbs hb1 hf1);have a2:=kp g (devA d L) hb1;have a1:=kp (g+1) (#[iv 0]) hb1;clear hb1 hf1 KH HS1 HIN;go_upto_region 5 with fail
   generalize (w1.setRow g (devA dn L1)).setCell ⟨g+1,0,none⟩ (iv 0)=wa at *
   have a2:=keep1 (bW wa) HS2.out.ds.box.row (by go_simp) HS2.out.ds.box.fr;have a1:=keep1 (bW wa) HS2.out.er (by go_simp) HS2.out.ef;go_wp2_with fail;go_roundw
   case rel=>exact⟨j+1,dn,L1,by omega,by go_num,HT1,HS2⟩
   case measure=>simp[intOf];omega
  obtain rfl:j=l.length:=by omega
  have dj:decide ((l.length:Int)<(l.length:Int))=false:=by simp
  obtain⟨dn,h1,h2⟩:=HTO.out _ _ HT.out nl;have HX:=qH h1;have HT1:=qH h2;clear h1 h2 HT;go_wp2_with fail;have KH:=qH (devOpen_calls d L _ HS.out.ds.box.now);rw[HX.out]at KH;refine KH.out.mono ?_;rintro en w1 ⟨L1,rfl,hf1,hb1⟩;have HS1:=qH (HS.out.step hg hbs hb1 hf1);have a2:=kp g (devA d L) hb1;have a1:=kp (g+1) (#[iv 0]) hb1;clear hb1 hf1 KH HS HX;go_upto_region 9 with fail
  generalize (w1.setRow g (devA dn L1)).setCell ⟨g+1,0,none⟩ (iv 0)=wa at *
  have a2:=keep1 (bW wa) HS1.out.ds.box.row (by go_simp) HS1.out.ds.box.fr;have a1:=keep1 (bW wa) HS1.out.er (by go_simp) HS1.out.ef;go_wp2_with fail;clear a2 a1;go_loopw [10] (fun nv wr=>∃(n:Int) (d:Dev) (L:DLoc),nv=iv n∧0<=n∧n%8=0∧n<=71∧(z<0∨n<=z)∧Hid (TrW old b to_ G n d)∧Hid (IS W w5 bs g d L wr)) (fun nv _=>(80-intOf nv).toNat)
  case atStart=>exact⟨0,dn,L1,rfl,by omega,by omega,by omega,by omega,HT1,HS1⟩
  case round=>
   clear HT1 HS1;rename World=>wr;obtain⟨n,d,L,rfl,hn1,hn2,hn3,hnz,HT,HS⟩:=hrel;have a2:=keep1 (bW wr) HS.out.ds.box.row (by go_simp) HS.out.ds.box.fr;have a1:=keep1 (bW wr) HS.out.er (by go_simp) HS.out.ef;have b1:=keep1 HS.out.ds.bel HRB.out.1 (by go_simp) HRB.out.2;have k1:=keep1 HS.out.ds.bel HRK.out.1 (by go_simp) HRK.out.2;have hwn:IntKind.i64.wrap (n+8)=n+8:=IntWalk.i64_in _ (by omega);by_cases hn:n<b.length
   ·have dn1:decide (n<(b.length:Int))=true:=decide_eq_true hn;by_cases hnt:n=z
    ·subst hnt;have q1:(n==n)=true:=by simp
     obtain⟨dn,h1,h2⟩:=tr_torn HT.out hn keep;have HX:=qH h1;have HT1:=qH h2;clear h1 h2 HT;go_wp2_with fail;have KH:=qH (devWrite_calls d L true keep _ HS.out.ds.box.now);rw[HX.out]at KH;refine KH.out.mono ?_;rintro en w2 ⟨L2,rfl,hf1,hb1⟩;have HS1:=qH (HS.out.step hg hbs hb1 hf1);have a2:=kp g (devA d L) hb1;have a1:=kp (g+1) (#[iv 0]) hb1;clear hb1 hf1 KH HS HX;go_upto_region 15 with fail
     generalize (w2.setRow g (devA dn L2)).setCell ⟨g+1,0,none⟩ (iv 0)=wa at *
     have a2:=keep1 (bW wa) HS1.out.ds.box.row (by go_simp) HS1.out.ds.box.fr;have a1:=keep1 (bW wa) HS1.out.er (by go_simp) HS1.out.ef;go_wp2_with fail;go_ret;exact⟨rfl,dn,L2,HS1.out,.inl ⟨hn1,hn,HT1.out⟩⟩
    have q1:(n==z)=false:=by simp[hnt]
    obtain⟨dn,h1,h2⟩:=tr_write HT.out hn keep;have HX:=qH h1;have HT1:=qH h2;clear h1 h2 HT;go_wp2_with fail;have KH:=qH (devWrite_calls d L false keep _ HS.out.ds.box.now);rw[HX.out]at KH;refine KH.out.mono ?_;rintro en w2 ⟨L2,rfl,hf1,hb1⟩;have HS1:=qH (HS.out.step hg hbs hb1 hf1);have a2:=kp g (devA d L) hb1;have a1:=kp (g+1) (#[iv 0]) hb1;clear hb1 hf1 KH HS HX;go_upto_region 15 with fail
    generalize (w2.setRow g (devA dn L2)).setCell ⟨g+1,0,none⟩ (iv 0)=wa at *
    have a2:=keep1 (bW wa) HS1.out.ds.box.row (by go_simp) HS1.out.ds.box.fr;have a1:=keep1 (bW wa) HS1.out.er (by go_simp) HS1.out.ef;go_wp2_with fail;go_roundw
    case rel=>exact⟨n+8,dn,L2,rfl,by omega,by omega,by omega,by omega,HT1,HS1⟩
    case measure=>simp[intOf];omega
   have dn1:decide (n<(b.length:Int))=false:=decide_eq_false hn;go_wp2_with fail;go_ret;exact⟨rfl,d,L,HS.out,.inr ⟨by omega,n,by omega,HT.out⟩⟩
end Go.Proofs.Ytefkfglkpebbmac
