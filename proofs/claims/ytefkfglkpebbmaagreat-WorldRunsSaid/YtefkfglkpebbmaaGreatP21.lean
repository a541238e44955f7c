/- Walks of functions, and plain words. No conditions. -/
import Derived.Test.YtefkfglkpebbmaaGreatP20
import Derived.Test.YtefkfglkpebbmaaGreatP16
import Derived.Test.YtefkfglkpebbmaaGreatP40
set_option linter.unusedVariables false
set_option linter.unusedSimpArgs false
set_option maxRecDepth 100000
set_option maxHeartbeats 40000000
namespace Go.Proofs.YtefkfglkpebbmaaGreat
open Go.RowKit
variable {Y:Prop}
variable {w:World} {n c b o:Nat}
theorem x13p(h:Y:=by
 have hk_:=hn 14 _ 2 rfl rfl (by decide);obtain⟨r_,f_,n_,c_,z_,l_⟩:=keep1 (hcJ_bel hk_ hJ) RW.out.1 (by go_simp) RW.out.2;have h_:=HAM.out;go_simp):Y:=h
theorem x83h(h:Y:=by
 have hk_:=hn 14 _ 2 rfl rfl (by decide);obtain⟨r_,f_,n_,c_,z_,l_⟩:=keep1 (hcJ_bel hk_ hJ) RH.out.1 (by simp) RH.out.2;have h_:=HNI.out;go_simp):Y:=h
theorem x9yi(h:Y:=by
 have e1:=mO 2 (.pointer (some ⟨w.heap.size,0,none⟩)) h;go_simp):Y:=h
def hcJ(S:Nat->Prop)(w0:World)(g:Nat)(v1 v2:Value)(l:List Chk):Nat->(Nat->Value)->World->Prop
 |0,_,w=>w=w0.drew
 |1,cv,w=>cv 11=.slice (some ⟨w0.heap.size,0,none⟩) 2 2∧w=w0.drew.alloc (.cells #[v1,v2] 33)
 |2,cv,w=>∃A c,cv 12=.slice A l.length c∧l.length<=c∧On S w (fun v=>Chs v A l)∧Below w0.heap.size w0 w
 |_,_,w=>∃w1 A c,l.length<=c∧On S w1 (fun v=>Chs v A l)∧Below w0.heap.size w0 w1∧w=w1.setCell ⟨g,38,none⟩ (.slice A l.length c)
theorem hcJ_bel{S:Nat->Prop}{w0:World}{g k:Nat}{v1 v2:Value}{l:List Chk}{cv:Nat->Value}(hk:k<=2)(h:hcJ S w0 g v1 v2 l k cv w):Below w0.heap.size w0 w:=by
 match k,hk,h with
 |0,_,h=>obtain rfl:w=w0.drew:=h;exact(Below.refl _ _).drew
 |1,_,h=>obtain⟨_,rfl⟩:=h;exact(Below.refl _ _).drew.alloc nl _
 |2,_,⟨_,_,_,_,_,h⟩=>exact h
theorem wp_slc2{a:Act}{K:Act->World->Prop}{Q:Exit->Act->World->Prop}{t:TypeId}{p:String}{af:Array Edge}{gd:Option (Nat×Bool)}{d s r:Tmp}{A B:OA}{m e:Nat}(hs:a.tmps[s]?=some (.slice A n c))(hr:a.tmps[r]?=some (.slice B m e))
  (h:K (a.put (some d) (.slice (some ⟨w.heap.size,0,none⟩) 2 2)) (w.alloc (.cells #[.slice A n c,.slice B m e] 33))):
  Oper.wp Tryz.prog ⟨some d,.buildSlice 115 2 #[(0,.tmp s),(1,.tmp r)],t,p,af,gd⟩ a w K Q:=by
 have e1:a.eval (.tmp s)=.slice A n c:=by simp[Act.eval,hs]
 have e2:a.eval (.tmp r)=.slice B m e:=by simp[Act.eval,hr]
 exact x9nx
theorem wp_stv{a:Act}{K:Act->World->Prop}{Q:Exit->Act->World->Prop}{t:TypeId}{p:String}{af:Array Edge}{gd:Option (Nat×Bool)}{x y:Tmp}{g j:Nat}{A:OA}{u:Value}(hx:a.tmps[x]?=some (.pointer (some ⟨g,j,none⟩)))(hy:a.tmps[y]?=some (.slice A n c))
  (hc:w.cell? ⟨g,j,none⟩=some u) (hf:w.frozen? ⟨g,j,none⟩=false) (h:K a (w.setCell ⟨g,j,none⟩ (.slice A n c))):
  Oper.wp Tryz.prog ⟨none,.store 33 (.tmp x) (.tmp y),t,p,af,gd⟩ a w K Q:=by
 have e1:a.eval (.tmp x)=.pointer (some ⟨g,j,none⟩):=by simp[Act.eval,hx]
 have e2:a.eval (.tmp y)=.slice A n c:=by simp[Act.eval,hy]
 unfold Oper.wp execOp;simp only[e1,e2];go_simp;exact h
theorem Chs.drop{l:List Chk}(h:Chs w (some ⟨b,o,none⟩) l)(k:Nat):Chs w (some ⟨b,o+k*5,none⟩) (l.drop k):=by
 intro i hi;have hi':k+i<l.length:=by simp only[List.length_drop]at hi;omega
 obtain⟨b',o',hA,hlt,cs,hl,hc,hr⟩:=h (k+i) hi';injection hA with hA;injection hA with e1 e2;subst e1 e2;refine⟨b,o+k*5,rfl,hlt,cs,hl,fun j hj=>?_,by simpa using hr⟩;have:=hc j hj;rwa [show o+(k+i)*5+j=o+k*5+i*5+j by omega]at this
theorem chk_ahead{i:Nat}(hi:i<n)(hc:n<=c)(W:World):(Instr.slice 33 (.slice (some ⟨b,o,none⟩) n c) none (some (iv (i:Int))) none).run Tryz.prog W=.ok (.slice (some ⟨b,o,none⟩) i c) W:=by
 exact x6il
theorem chk_behind{i:Nat}(hi:i<n)(hc:n<=c):∃o2 c2,(∀W,(Instr.slice 33 (.slice (some ⟨b,o,none⟩) n c) (some (iv ((i:Int)+1))) none none).run Tryz.prog W=.ok (.slice (some ⟨b,o2,none⟩) (n-(i+1)) c2) W)∧∀(w:World) (l:List Chk),l.length=n->Chs w (some ⟨b,o,none⟩) l->Chs w (some ⟨b,o2,none⟩) (l.drop (i+1)):=by
 have k1:(i:Int)+1<=(n:Int):=by omega
 have k2:((i:Int)+1).toNat=i+1:=by omega
 have k3:(0:Int)<=(i:Int)+1:=by omega
 by_cases e:c=i+1
 ·refine⟨o,0,fun W=>?_,fun w l hl h=>?_⟩
  ·have k4:n=i+1:=by omega
   subst k4;subst e;go_simp
  ·rw[List.drop_eq_nil_of_le (by omega)];exact Chs.nil _ _
 refine⟨o+(i+1)*5,c-(i+1),fun W=>?_,fun w l _ h=>h.drop _⟩;go_simp
theorem hap_hear(S:Nat->Prop)(x:Wor)(L:WLoc)(kd n:Int)(w:World)(hok:WorOk x)(hn:I64 n)(hx:On S w (fun v=>WorIn v x L))(hk:kd=2∨kd=3∨kd=4):Calls Tryz.prog 8 #[.agg (worA x L),.agg #[iv kd,iv n]] w (HpRet S w (worHear x kd n).1 (worHear x kd n).2):=by
 have HBA:Hid (Below w.heap.size w (((w.alloc (.cells (worA x L) 40)).alloc (.cells #[iv kd,iv n] 50)).alloc (.cells (worA Wor.zero WLoc.zero) 40))):=qH ((((bW w).alloc nl _).alloc (by simp) _).alloc (by simp;omega) _);have HX:=qH hx;have q1:(kd==1)=false:=by simp;omega
 have hnl:=hx.now.ln;have hcn:=hx.now.kn;obtain⟨res,hw1⟩:=eX (worHear x kd n);rw[hw1];have HW:=qH hw1;clear hw1;go_enter Tryz.func8,Tryz.ntmps8;go_upto_region 18 with fail
 have hs1:(((w.alloc (.cells (worA x L) 40)).alloc (.cells #[iv kd,iv n] 50)).alloc (.cells (worA Wor.zero WLoc.zero) 40)).heap.size=w.heap.size+3:=by simp
 obtain⟨a0r,a0f,a0n,a0c,a0z,a0l⟩:=keep1 (g:=w.heap.size) (cs:=worA x L) (Below.refl (((w.alloc (.cells (worA x L) 40)).alloc (.cells #[iv kd,iv n] 50)).alloc (.cells (worA Wor.zero WLoc.zero) 40)).heap.size (((w.alloc (.cells (worA x L) 40)).alloc (.cells #[iv kd,iv n] 50)).alloc (.cells (worA Wor.zero WLoc.zero) 40))) (by first|(go_simp;done)|(go_simp;rfl)) (by go_simp) (by go_simp);obtain⟨a1r,a1f,a1n,a1c,a1z,a1l⟩:=keep1 (g:=w.heap.size+1) (cs:=#[iv kd,iv n]) (Below.refl (((w.alloc (.cells (worA x L) 40)).alloc (.cells #[iv kd,iv n] 50)).alloc (.cells (worA Wor.zero WLoc.zero) 40)).heap.size (((w.alloc (.cells (worA x L) 40)).alloc (.cells #[iv kd,iv n] 50)).alloc (.cells (worA Wor.zero WLoc.zero) 40))) (by first|(go_simp;done)|(go_simp;rfl)) (by go_simp) (by go_simp);obtain⟨a2r,a2f,a2n,a2c,a2z,a2l⟩:=keep1 (g:=w.heap.size+1+1) (cs:=worA Wor.zero WLoc.zero) (Below.refl (((w.alloc (.cells (worA x L) 40)).alloc (.cells #[iv kd,iv n] 50)).alloc (.cells (worA Wor.zero WLoc.zero) 40)).heap.size (((w.alloc (.cells (worA x L) 40)).alloc (.cells #[iv kd,iv n] 50)).alloc (.cells (worA Wor.zero WLoc.zero) 40))) (by first|(go_simp;done)|(go_simp;rfl)) (by go_simp) (by go_simp);generalize ((w.alloc (.cells (worA x L) 40)).alloc (.cells #[iv kd,iv n] 50)).alloc (.cells (worA Wor.zero WLoc.zero) 40)=w1 at *
 go_upto_if 109 with fail
 go_cut [109] (fun v wx=>v=.bool true∧w1=wx)
 case first=>
  by_cases k1:kd=2
  ·have q2:(kd==2)=true:=by simp[k1]
   go_wp2_with fail;go_meet
   case rel=>exact⟨by simp[*],rfl⟩
  have q2:(kd==2)=false:=by simp[k1]
  by_cases k2:kd=3
  ·have q3:(kd==3)=true:=by simp[k2]
   exact x3dq
  have q3:(kd==3)=false:=by simp[k2]
  have q4:(kd==4)=true:=by simp;omega
  exact x3dq
 case rest=>
 obtain⟨rfl,rfl⟩:=hcut;by_cases c1:n<0∨(x.net.length:Int)<=n
 ·have hz:res=(Wor.zero,4):=HW.out.symm.trans (if_pos c1);subst hz;by_cases d1:n<0
  ·clear c1;go_wp2_with fail;refine(hapBad_calls 4 _).mono ?_;rintro e wz ⟨rfl,hb⟩;have z1:=kp (w.heap.size+1+1) (worA Wor.zero WLoc.zero) hb;have HBZ:=bU HBA hb;exact x3rt
  have d2:=c1.resolve_left d1;clear c1;go_wp2_with fail;refine(hapBad_calls 4 _).mono ?_;rintro e wz ⟨rfl,hb⟩;have z1:=kp (w.heap.size+1+1) (worA Wor.zero WLoc.zero) hb;have HBZ:=bU HBA hb;exact x3rt
 obtain⟨i,hni⟩:∃i:Nat,n=(i:Int):=⟨n.toNat,by omega⟩;have d1:¬n<0:=fun h=>c1 (.inl h);have d2:¬(x.net.length:Int)<=n:=fun h=>c1 (.inr h);have hil:i<x.net.length:=by omega
 obtain⟨gn,on,B,e,hAn,hbn,hck,hci⟩:=hx.now.net.chk hil;have hcon:=On.chk_on ((hx.imp fun v h=>h.net).sub fun k h1 h2=>(And.intro h2 h1:(fun k=>S k∧k<w.heap.size) k)) hil hAn hck hci;obtain⟨y,hy⟩:=eX (x.net[i]);obtain⟨⟨d2',e1⟩,hd1⟩:∃z,devHear x.d y=z:=⟨_,rfl⟩;rw[hy]at hck hcon;have hdef:worHear x kd n=if kd≠4∧e1≠0 then (Wor.zero,e1)else (⟨x.rel,if kd≠4 then d2' else x.d,if kd≠3 then x.net.eraseIdx i else x.net⟩,0):=by
  unfold worHear;rw[if_neg c1,show n.toNat=i by omega,show x.net.getD i Chk.zero=y by rw[<-hy];simp[hil],hd1]
 have HD:=qH (HW.out.symm.trans hdef);have KA:Hid (∀wq,Below w.heap.size w wq->Calls Tryz.prog 33 #[.agg (devA x.d L.l),.agg #[iv 2,iv 0],.agg (chkA y.from_ y.to_ y.n y.of_ B y.data.length e)] wq (AcRet (fun k=>S k∧k<w.heap.size) wq d2' e1)):=qH (fun wq hb=>by
  have h:=acts_calls (fun k=>S k∧k<w.heap.size) x.d L.l 2 0 y B e wq (.inl rfl) hok.dev ⟨by decide,by decide⟩ (((hx.imp fun v h=>h.dev).sub fun k h1 h2=>⟨h2,h1⟩).below hb) (hcon.below hb);rwa [show devActs x.d y 2 0=devHear x.d y from if_pos rfl,hd1]at h)
 obtain⟨x1,hx1⟩:=eX ((⟨x.rel,if kd≠4 then d2' else x.d,x.net⟩:Wor));have hres:(⟨x.rel,if kd≠4 then d2' else x.d,if kd≠3 then x.net.eraseIdx i else x.net⟩:Wor)={x1 with net:=if kd≠3 then x1.net.eraseIdx i else x1.net}:=by rw[<-hx1]
 rw[hres]at HD;have hnx:x1.net=x.net:=by rw[<-hx1]
 have HNX:=qH hnx;have HX1:=qH hx1;have HAN:=qH hAn;have HNI:=qH hni;have HCK:Hid (ChkAt w1 gn (on+i*5) y B e):=qH (hck.stays hbn HBA.out);have RW1:=qH (And.intro a0r a0f);have RH1:=qH (And.intro a1r a1f);have RZ1:=qH (And.intro a2r a2f);clear HW hdef hres hnx hx1 hAn hni hck hci hcon hy hd1 c1 hk hok;go_upto_if 130 with fail
 go_cut [] (fun wx=>∃L1,Hid (rowOf wx w.heap.size=worA x1 L1∧frOf wx w.heap.size=(0,0))∧Hid (rowOf wx (w.heap.size+1)=#[iv kd,iv n]∧frOf wx (w.heap.size+1)=(0,0))∧Hid (rowOf wx (w.heap.size+1+1)=worA Wor.zero WLoc.zero∧frOf wx (w.heap.size+1+1)=(0,0))∧Hid (On (fun q=>S q∧q<w.heap.size∨(w.heap.size+3<=q∧q<wx.heap.size)) wx (fun v=>WorIn v x1 L1))∧Hid (Below w.heap.size w wx)∧Hid (kd≠4->e1=0))
 case first=>
  by_cases k1:kd=4
  ·have q2:(kd !=4)=false:=by simp[k1]
   have K1:=qH k1;clear k1;go_wp2_with fail;go_meet
   case rel=>
    have hxx:x1=x:=by rw[<-HX1.out,if_neg (by simpa using K1.out)]
    refine⟨L,?_,RH1,RZ1,?_,HBA,qH fun h=>absurd K1.out h⟩
    ·rw[hxx];exact RW1
    rw[hxx];exact qH ((HX.out.sub fun k h1 h2=>.inl ⟨h2,h1⟩).below HBA.out)
  have q2:(kd !=4)=true:=by simp[k1]
  have hxx:x1={x with d:=d2'}:=by rw[<-HX1.out,if_pos k1]
  subst hxx;generalize d2'=dq at *
  go_wp2_with fail;refine wp_region_free (by kernel_rfl) (some 132::some 133::some 134::some 135::some 136::some 137::some 138::some 139::some 140::some 141::some 131::some 142::some 143::some 13::none::some 14::[]) (false::false::false::false::false::false::false::false::false::true::true::true::true::true::true::true::[]) (.pointer (some ⟨w.heap.size,1,none⟩)::.agg (devA x.d L.l)::.agg #[iv 2,iv 0]::.pointer (some ⟨w.heap.size,38,none⟩)::.slice L.an x.net.length L.cn::.pointer (some ⟨w.heap.size+1,1,none⟩)::iv n::.pointer (some ⟨gn,on+i*5,none⟩)::.agg (chkA y.from_ y.to_ y.n y.of_ B y.data.length e)::undef::undef::undef::undef::undef::undef::undef::[]) (cbJ w1 9 10 11 12 13 14 15 (fun K=>devA dq K) (devA Dev.zero DLoc.zero) e1 (fun K b v=>Below w1.heap.size w1 v∧On (fun q=>S q∧q<w.heap.size∨b<=q) v (fun u=>DevIn u dq K))) 197 rfl rfl (by decide+kernel) (by decide+kernel) (by decide+kernel) rfl rfl (cbJ_start DLoc.zero) ?_ ?_
  ·refine⟨?_,?_,?_,?_,?_,?_,?_,?_,?_,?_,?_,?_,?_,?_,?_,?_,trivial⟩;all_goals intro done cv a wq hn hw hcl h hJ
   ·have e1:=fO 2 (.pointer (some ⟨w.heap.size,0,none⟩)) h;go_simp
   ·have e2:=fN 0 132 h hw;exact x2op
   ·go_simp
   ·have e1:=fO 2 (.pointer (some ⟨w.heap.size,0,none⟩)) h;go_simp
   ·have e2:=fN 3 135 h hw;exact x2op
   ·exact x1ql
   ·have e2:=fN 5 137 h hw;exact x3tb
   ·have e3:=fN 4 136 h hw;have e138:=fN 6 138 h hw;have h_:=HAN.out;have h1_:=HNI.out;have h2_:(i:Int)<(x.net.length:Int):=by omega
    have h3_:(x.net.length:Int)<=(L.cn:Int):=by omega
    go_simp
   ·have e2:=fN 7 139 h hw;have hk_:=HCK.out.stays (by omega) (cbJ_bel hJ);obtain⟨k0_,k1_,k2_,k3_,k4_⟩:=hk_;go_simp
   ·have e3:=fN 1 133 h hw;have e134:=fN 2 134 h hw;have e140:=fN 8 140 h hw;have n1:=hn;have n2:=nW 10 9 hcl n1;have n3:=nW 11 10 hcl n2;have n4:=nW 12 10 hcl n2;have n5:=nW 15 12 hcl n4;have n6:=nW 14 11 hcl n3;have hbq:=cbJ_bel hJ;refine wp_call (vals:=#[.agg (devA x.d L.l),.agg #[iv 2,iv 0],.agg (chkA y.from_ y.to_ y.n y.of_ B y.data.length e)]) (by rw[List.map_toArray,List.map_cons,List.map_cons,List.map_cons,List.map_nil,ch_ev e3,ch_ev e134,ch_ev e140]) (enters_of Tryz.func33 (by kernel_rfl) rfl _ _) (KA.out _ (HBA.out.trans (hbq.mono HBA.out.size))) ?_;rintro e w' ⟨K,rfl,hon,hbel⟩;exact⟨_,rfl,_,rfl,cbJ_c (by simp[maskB,n2]) (by simp[maskB,n3]) (by simp[maskB,n4]) (by simp[maskB,n5]) (by simp[maskB,n6]) (by decide) (by decide) (by decide) (by decide) (by decide) (by decide) hJ (x:=K) ⟨hbq.trans (hbel.mono hbq.size),hon.sub fun k h1 h2=>by
     rcases h2 with h2|h2
     ·exact .inl h2.1
     exact .inr h2⟩ hbel⟩
   ·have e2:=fr_cv (i:=9) (t:=141) h (hw 9 (by decide)) rfl rfl;have m1:=hw 9 (by decide);refine wp_val (v:=cv 9) (mx_move (ch_ev e2)) ⟨_,rfl,cbJ_k (by decide) (by decide) (by decide) hJ (fun x q _ _ _=>⟨fun _=>q (by simp[maskB,m1]),fun h=>absurd h (by decide),fun h=>absurd h (by decide),fun h=>absurd h (by decide)⟩)⟩
   ·have e3:=fr_cv (i:=10) (t:=131) h (hw 10 (by decide)) rfl rfl;have m1:=hw 10 (by decide);obtain⟨x,b_,gb_,w2_,hj_⟩:=hJ;have y:=hj_.v1 (by simp[maskB,m1]);rw[y]at e3;refine wp_val (v:=.agg ((fun K=>devA dq K) x)) (by go_simp) ⟨_,rfl,cbJ_k (by decide) (by decide) (by decide) ⟨x,b_,gb_,w2_,hj_⟩ (fun x3 _ h8 _ _=>⟨fun h=>absurd h (by decide),fun _=>by have q9:=h8 (by simp[maskB,m1]);rw[y]at q9;simp at q9⊢;first|exact q9|exact q9.symm|trivial,fun h=>absurd h (by decide),fun h=>absurd h (by decide)⟩)⟩
   ·have e2:=fr_cv (i:=10) (t:=131) h (hw 10 (by decide)) rfl rfl;have m1:=hw 10 (by decide);obtain⟨x,b_,gb_,w2_,hj_⟩:=hJ;have y:=hj_.v1 (by simp[maskB,m1]);rw[y]at e2;refine wp_val (v:=iv e1) (by go_simp) ⟨_,rfl,cbJ_k (by decide) (by decide) (by decide) ⟨x,b_,gb_,w2_,hj_⟩ (fun x3 _ h8 _ _=>⟨fun h=>absurd h (by decide),fun h=>absurd h (by decide),fun _=>rfl,fun h=>absurd h (by decide)⟩)⟩
   ·have n1:=hn;have n2:=nW 14 13 hcl n1;refine wp_alloc (zr:=devA Dev.zero DLoc.zero) (fun ev=>by go_simp) ⟨_,rfl,cbJ_a (by go_simp) (by simp[maskB,n1]) (by simp[maskB,n2]) (by decide) (by decide) (by decide) (by decide) (by decide) (by decide) hJ⟩
   ·have e2:=fr_cv (i:=13) (t:=13) h (hw 13 (by decide)) rfl rfl;have e142:=fr_cv (i:=11) (t:=142) h (hw 11 (by decide)) rfl rfl;have n1:=hn;have m1:=hw 13 (by decide);have m2:=hw 11 (by decide);have m3:=hcl 11 _ rfl m2 10 (by decide);have m4:=hcl 10 _ rfl m3 9 (by decide);obtain⟨x,gb_,y1,y2,r_,f_,hJ1⟩:=cbJ_s (v:=undef) (by go_simp) (by simp[maskB,m4]) (by simp[maskB,n1]) (by simp[maskB,m1]) (by simp[maskB,m2]) (by decide) (by decide) (by decide) (by decide) (by decide) (by decide) hJ;rw[y1]at e2;rw[y2]at e142;refine wp_srow e2 e142 (by go_simp) (by go_simp) r_ (by go_simp) f_ (by go_simp) ⟨undef,rfl,?_⟩;rw[splice_all _ _ (by go_simp)];exact hJ1
   ·have e3:=fr_cv (i:=12) (t:=143) h (hw 12 (by decide)) rfl rfl;have m1:=hw 12 (by decide);obtain⟨x,b_,gb_,w2_,hj_⟩:=hJ;have y:=hj_.v3 (by simp[maskB,m1]);rw[y]at e3;refine wp_asg (v:=iv e1) (ch_ev e3) ⟨_,rfl,cbJ_k (by decide) (by decide) (by decide) ⟨x,b_,gb_,w2_,hj_⟩ (fun x3 _ _ _ _=>⟨fun h=>absurd h (by decide),fun h=>absurd h (by decide),fun h=>absurd h (by decide),fun _=>rfl⟩)⟩
  intro dn cv w2 hall hJ;obtain⟨K,b1,gb,w3,y1,g1,g2,g3,g7,g8,rb,fb,hgb1,hgb2,hbel,hb1,⟨hbw,hon⟩,hkp,hsz1,hap⟩:=cbJ_end (hall 9 rfl (by decide)) (hall 10 rfl (by decide)) (hall 11 rfl (by decide)) (hall 12 rfl (by decide)) (hall 15 rfl (by decide)) (hall 13 rfl (by decide)) (hall 14 rfl (by decide)) hJ;simp only[freeAll,putAll_some,putAll_none,putAll_nil,List.getD_cons_zero,List.getD_cons_succ,Bool.false_eq_true,if_true,if_false,reduceIte,Nat.zero_add,Nat.reduceAdd,List.setIfInBounds_toArray,List.set_cons_zero,List.set_cons_succ];rw[y1,g1,g2,g3,g7,g8];obtain⟨a0r,a0f,a0n,a0c,a0z,a0l⟩:=keep1 (g:=w.heap.size) (cs:=worA x L) hbel RW1.out.1 (by go_simp) RW1.out.2;obtain⟨a1r,a1f,a1n,a1c,a1z,a1l⟩:=keep1 (g:=w.heap.size+1) (cs:=#[iv kd,iv n]) hbel RH1.out.1 (by go_simp) RH1.out.2;obtain⟨a2r,a2f,a2n,a2c,a2z,a2l⟩:=keep1 (g:=w.heap.size+1+1) (cs:=worA Wor.zero WLoc.zero) hbel RZ1.out.1 (by go_simp) RZ1.out.2;have HB1:=bT HBA hbel;have hs2:=hbel.size;have hon1:On (fun q=>S q∧q<w.heap.size∨(w.heap.size+3<=q∧q<w2.heap.size∧q≠gb)) w2 (fun u=>DevIn u dq K):=fun v h1 h2=>hon v ⟨h1.os.trans (hbel.os.trans hbw.os.symm),h1.tape.trans (hbel.tape.trans hbw.tape.symm),h1.output.trans (hbel.output.trans hbw.output.symm),Nat.le_trans hsz1 h1.size,fun _ h=>absurd h (Nat.not_lt_zero _)⟩ fun k h3 h4=>by
   rcases h3 with h3|h3
   ·exact(h2 k (.inl h3) (by omega)).trans ((hbel.block k (by omega)).trans (hbw.block k (by omega)).symm)
   exact(h2 k (.inr (by omega)) (by omega)).trans (hkp k h3 h4)
  have HON:Hid (On (fun q=>S q∧q<w.heap.size∨(w.heap.size+3<=q∧q<w2.heap.size∧q≠gb)) w2 (fun v=>WorIn v {x with d:=dq} {L with l:=K})):=qH (((HX.out.sub fun k h1 h2=>.inl ⟨h2,h1⟩).below HB1.out).worDev hon1);have hgg:¬gb=w.heap.size:=by omega
  have hgg1:¬w.heap.size=gb:=by omega
  clear hJ hall y1 g1 g2 g3 g7 g8 hbel hbw hon hkp hap KA hon1;by_cases c1:e1≠0
  ·have q:(e1 !=0)=true:=by simp[c1]
   obtain rfl:=HD.out.trans (if_pos ⟨k1,c1⟩);clear c1;go_wp2_with fail;refine(hapBad_calls e1 _).mono ?_;rintro e wz ⟨rfl,hb⟩;have z1:=kp (w.heap.size+1+1) (worA Wor.zero WLoc.zero) hb;have HBZ:=bU HB1 hb;exact x3rt
  have c1:=Decidable.not_not.1 c1;subst c1;go_wp2_with fail;go_meet
  case rel=>
   have hp1:0<(rowOf w2 w.heap.size).size:=by rw[a0r];simp[worA]
   have ho:On (fun q=>S q∧q<w.heap.size∨(w.heap.size+3<=q∧q<w2.heap.size∧q≠gb)) w2 (fun v=>WorIn v {x with d:=dq} {L with l:=K}):=HON.out;refine⟨{L with l:=K},qH ⟨by rw[rowOf_setRow _ _ _ _ hp1,if_pos rfl],by rw[frOf_setRow];exact a0f⟩,qH ⟨by rw[rowOf_setRow _ _ _ _ hp1,if_neg (by omega)];exact a1r,by rw[frOf_setRow];exact a1f⟩,qH ⟨by rw[rowOf_setRow _ _ _ _ hp1,if_neg (by omega)];exact a2r,by rw[frOf_setRow];exact a2f⟩,qH ?_,qH (below_row HB1.out nl _),qH (by first|exact fun _=>rfl|trivial|simp)⟩;refine On.sub (S:=fun q=>S q∧q<w.heap.size∨(w.heap.size+3<=q∧q<w2.heap.size∧q≠gb)) (ho.row (by rintro (h|h)<;>omega) _) fun q h1 h2=>?_;rcases h2 with h2|h2
   ·exact .inl h2
   exact .inr ⟨h2.1,by simp[World.setRow];exact h2.2.1⟩
 case rest=>
 obtain⟨L1,h1,h2,h3,h4,h5,h6⟩:=hcut;have HB:=h5;have HON:=h4;have RW:=h1;have RH:=h2;have hsb:=HB.out.size;have hh1:=h1.out;have hh2:=h2.out;have hh3:=h3.out;obtain⟨a0r,a0f,a0n,a0c,a0z,a0l⟩:=keep1 (g:=w.heap.size) (cs:=worA x1 L1) (bW wc) hh1.1 (by go_simp) hh1.2;obtain⟨a1r,a1f,a1n,a1c,a1z,a1l⟩:=keep1 (g:=w.heap.size+1) (cs:=#[iv kd,iv n]) (bW wc) hh2.1 (by go_simp) hh2.2;obtain⟨a2r,a2f,a2n,a2c,a2z,a2l⟩:=keep1 (g:=w.heap.size+1+1) (cs:=worA Wor.zero WLoc.zero) (bW wc) hh3.1 (by go_simp) hh3.2;have hz:=HD.out.trans (if_neg (fun h=>h.2 (h6.out h.1)));clear hh1 hh2 hh3 h1 h2 h3 h4 h5 h6;by_cases k1:kd=3
 ·have q2:(kd !=3)=false:=by simp[k1]
  rw[if_neg (by simpa using k1)]at hz;subst hz;clear k1;go_wp2_with fail;refine bodyPost_ret (rC (worA x1 L1)) rfl ⟨L1,rfl,?_,?_⟩
  ·have ho:On (fun q=>S q∧q<w.heap.size∨(w.heap.size+3<=q∧q<wc.heap.size)) wc (fun v=>WorIn v x1 L1):=HON.out;refine On.sub (S:=fun q=>S q∧q<w.heap.size∨(w.heap.size+3<=q∧q<wc.heap.size)) ?_ (fun q _ h=>h.elim .inl (fun h=>.inr (by omega)));exact x2ed
  exact bZ HB
 have q2:(kd !=3)=true:=by simp[k1]
 rw[if_pos k1]at hz;subst hz;have hil1:i<x1.net.length:=by rw[HNX.out];exact hil
 have hkn1:=HON.out.now.kn;have hln1:=HON.out.now.ln;obtain⟨gm,om,_,_,hAm,_⟩:=HON.out.now.net.chk hil1;obtain⟨o1,c1,hs2,hch⟩:=chk_behind (b:=gm) (o:=om) hil1 hkn1;have HS1:=qH (fun W=>chk_ahead (b:=gm) (o:=om) hil1 hkn1 W);have HS2:=qH hs2;have HAM:=qH hAm;have hnet:On (fun q=>S q∧q<w.heap.size∨(w.heap.size+3<=q∧q<wc.heap.size)) wc (fun v=>Chs v (some ⟨gm,om,none⟩) x1.net):=HON.out.imp fun v h=>by have:=h.net;rwa [hAm]at this
 have hbq:Below wc.heap.size wc (wc.drew.alloc (.cells #[.slice (some ⟨gm,om,none⟩) i L1.cn,.slice (some ⟨gm,o1,none⟩) (x1.net.length-(i+1)) c1] 33)):=(Below.refl _ _).drew.alloc nl _;have KC:=qH (chkConcat_calls (g:=wc.heap.size) (A:=some ⟨gm,om,none⟩) (B:=some ⟨gm,o1,none⟩) (c:=L1.cn) (d:=c1) (l:=x1.net.take i) (m:=x1.net.drop (i+1)) (w:=wc.drew.alloc (.cells #[.slice (some ⟨gm,om,none⟩) i L1.cn,.slice (some ⟨gm,o1,none⟩) (x1.net.length-(i+1)) c1] 33)) (by
  rw[List.length_take,List.length_drop,Nat.min_eq_left (by omega)];exact blk_top rfl) (by rw[List.length_take,List.length_drop];omega) ((hnet.imp fun v h=>h.take i).below hbq) ((hnet.imp fun v h=>hch v _ rfl h).below hbq))
 rw[<-List.eraseIdx_eq_take_drop_succ]at KC;have hel:(x1.net.eraseIdx i).length<=2513169434843:=by rw[List.length_eraseIdx_of_lt hil1];omega
 clear hs2 hAm hnet hbq k1 HNX HCK HAN HX1 HBA;go_wp2_with fail;refine wp_region_mix (by kernel_rfl) (some 156::some 157::some 158::some 159::some 160::some 161::some 162::some 163::some 164::some 165::some 166::some 167::some 168::some 169::none::[]) (none::none::none::none::none::none::none::none::none::none::none::some 0::some 1::none::some 2::[]) (.pointer (some ⟨w.heap.size,38,none⟩)::.slice (some ⟨gm,om,none⟩) x1.net.length L1.cn::.pointer (some ⟨w.heap.size+1,1,none⟩)::iv (i:Int)::.slice (some ⟨gm,om,none⟩) i L1.cn::.pointer (some ⟨w.heap.size,38,none⟩)::.slice (some ⟨gm,om,none⟩) x1.net.length L1.cn::.pointer (some ⟨w.heap.size+1,1,none⟩)::iv (i:Int)::iv ((i:Int)+1)::.slice (some ⟨gm,o1,none⟩) (x1.net.length-(i+1)) c1::undef::undef::.pointer (some ⟨w.heap.size,38,none⟩)::undef::[]) 3 (hcJ (fun q=>(S q∧q<w.heap.size∨(w.heap.size+3<=q∧q<wc.heap.size))∧q<wc.heap.size+1∨wc.heap.size+1<=q) wc w.heap.size (.slice (some ⟨gm,om,none⟩) i L1.cn) (.slice (some ⟨gm,o1,none⟩) (x1.net.length-(i+1)) c1) (x1.net.eraseIdx i)) 197 rfl rfl (by decide+kernel) (by decide+kernel) (by decide+kernel) (by decide+kernel) rfl rfl (by decide+kernel) (by decide+kernel) (rfl) ?_ ?_
 ·refine⟨?_,?_,?_,?_,?_,?_,?_,?_,?_,?_,?_,?_,?_,?_,?_,trivial⟩
  ·intro done cv k1 a wq hw h hJ hn;exact x9yi
  ·intro done cv k2 a wq hw h hJ hn;have e2:=mN 0 156 h hw;exact x13p
  ·intro done cv k1 a wq hw h hJ hn;have e2:=mO 3 (.pointer (some ⟨w.heap.size+1,0,none⟩)) h;go_simp
  ·intro done cv k2 a wq hw h hJ hn;have e2:=mN 2 158 h hw;exact x83h
  ·intro done cv k1 a wq hw h hJ hn;have e2:=mN 1 157 h hw;have e159:=mN 3 159 h hw;have h_:=HS1.out;go_simp
  ·intro done cv k2 a wq hw h hJ hn;exact x9yi
  ·intro done cv k1 a wq hw h hJ hn;have e2:=mN 5 161 h hw;exact x13p
  ·intro done cv k2 a wq hw h hJ hn;have e2:=mO 3 (.pointer (some ⟨w.heap.size+1,0,none⟩)) h;go_simp
  ·intro done cv k1 a wq hw h hJ hn;have e2:=mN 7 163 h hw;exact x83h
  ·intro done cv k2 a wq hw h hJ hn;have e2:=mN 8 164 h hw;have h_:IntKind.i64.wrap ((i:Int)+1)=(i:Int)+1:=IntWalk.i64_in _ (by omega);go_simp
  ·intro done cv k1 a wq hw h hJ hn;have e2:=mN 6 162 h hw;have e165:=mN 9 165 h hw;have h_:=HS2.out;go_simp
  ·intro done cv a wq hw h hJ;have e2:=mN 4 160 h hw;have e166:=mN 10 166 h hw;obtain rfl:wq=wc.drew:=hJ;exact wp_slc2 e2 e166 ⟨_,rfl,by simp,rfl⟩
  ·intro done cv a wq hw h hJ;have e2:=mx_cv (i:=11) (t:=167) h (hw 11 (by decide)) rfl rfl;obtain⟨y1,rfl⟩:=hJ;rw[y1]at e2;refine wp_call (vals:=#[.slice (some ⟨wc.heap.size,0,none⟩) 2 2]) (by rw[List.map_toArray,List.map_cons,List.map_nil,ch_ev e2]) (enters_of Tryz.func32 (by kernel_rfl) rfl _ _) (KC.out) ?_;rintro e w' ⟨A,c,rfl,h1,h2,h3⟩;exact⟨_,rfl,_,rfl,A,c,by simp,h1,h2.sub fun k _ h=>by simpa using h,((Below.refl _ _).drew.alloc nl _).trans (h3.mono (by simp))⟩
  ·intro done cv k1 a wq hw h hJ hn;exact x9yi
  ·intro done cv a wq hw h hJ;have e2:=mN 13 169 h hw;have e168:=mx_cv (i:=12) (t:=168) h (hw 12 (by decide)) rfl rfl;obtain⟨A,c,y1,h1,h2,h3⟩:=hJ;rw[y1]at e168;obtain⟨r_,f_,n_,c_,z_,l_⟩:=keep1 h3 RW.out.1 (by go_simp) RW.out.2;refine wp_stv e2 e168 (u:=.slice L1.an x1.net.length L1.cn) (by rw[c_];simp[worA]) (z_ _) ⟨undef,rfl,wq,A,c,h1,h2,h3,rfl⟩
 intro cv w2 hJ;obtain⟨w3,A1,c2,hle1,hon1,hb1,rfl⟩:=hJ;simp only[mixAll,putAll_some,putAll_none,putAll_nil,List.getElem?_cons_zero,List.getElem?_cons_succ,Nat.zero_add,Nat.reduceAdd,List.setIfInBounds_toArray,List.set_cons_zero,List.set_cons_succ];obtain⟨a0r,a0f,a0n,a0c,a0z,a0l⟩:=keep1 (g:=w.heap.size) (cs:=worA x1 L1) hb1 RW.out.1 (by go_simp) RW.out.2;obtain⟨a2r,a2f,a2n,a2c,a2z,a2l⟩:=keep1 (g:=w.heap.size+1+1) (cs:=worA Wor.zero WLoc.zero) hb1 a2r (by go_simp) a2f;have hr1:rowOf (w3.setCell ⟨w.heap.size,38,none⟩ (.slice A1 (x1.net.eraseIdx i).length c2)) w.heap.size=worA {x1 with net:=x1.net.eraseIdx i} {L1 with an:=A1,cn:=c2}:=by rw[rowOf_setCell,if_pos rfl,a0r,worA_set_net]
 have hf1:frOf (w3.setCell ⟨w.heap.size,38,none⟩ (.slice A1 (x1.net.eraseIdx i).length c2)) w.heap.size=(0,0):=by rw[frOf_setCell];exact a0f
 have hr2:rowOf (w3.setCell ⟨w.heap.size,38,none⟩ (.slice A1 (x1.net.eraseIdx i).length c2)) (w.heap.size+1+1)=worA Wor.zero WLoc.zero:=by rw[rowOf_setCell,if_neg (by show ¬_=_;omega)];exact a2r
 have hf2:frOf (w3.setCell ⟨w.heap.size,38,none⟩ (.slice A1 (x1.net.eraseIdx i).length c2)) (w.heap.size+1+1)=(0,0):=by rw[frOf_setCell];exact a2f
 have HB1:Hid (Below w.heap.size w (w3.setCell ⟨w.heap.size,38,none⟩ (.slice A1 (x1.net.eraseIdx i).length c2))):=qH ((HB.out.trans (hb1.mono HB.out.size)).setCell nl _);have HO1:Hid (On (fun q=>S q∧q<w.heap.size∨(w.heap.size+3<=q∧q<(w3.setCell ⟨w.heap.size,38,none⟩ (.slice A1 (x1.net.eraseIdx i).length c2)).heap.size)) (w3.setCell ⟨w.heap.size,38,none⟩ (.slice A1 (x1.net.eraseIdx i).length c2)) (fun v=>WorIn v {x1 with net:=x1.net.eraseIdx i} {L1 with an:=A1,cn:=c2})):=qH (by
  have hs2:=hb1.size;have es:(w3.setCell ⟨w.heap.size,38,none⟩ (.slice A1 (x1.net.eraseIdx i).length c2)).heap.size=w3.heap.size:=by simp
  rw[es];refine On.cell2 (On.worNet ((HON.out.sub fun k h1 h2=>h2.imp id fun h=>⟨h.1,by omega⟩).below hb1) hle1 hel (hon1.sub fun k h1 h2=>?_)) (by rintro (h|h)<;>omega) _;rcases h2 with ⟨h2|h2,_⟩|h2
  ·exact .inl h2
  ·exact .inr ⟨h2.1,h1⟩
  exact .inr ⟨by omega,h1⟩)
 have hs2:=hb1.size;have hss:(w3.setCell ⟨w.heap.size,38,none⟩ (.slice A1 (x1.net.eraseIdx i).length c2)).heap.size=w3.heap.size:=by simp
 clear hb1 hon1 a0r a0f a0n a0c a0z a0l a1r a1f a1n a1c a1z a1l a2r a2f a2n a2c a2z a2l;generalize w3.setCell ⟨w.heap.size,38,none⟩ (.slice A1 (x1.net.eraseIdx i).length c2)=w2 at *
 obtain⟨a0r,a0f,a0n,a0c,a0z,a0l⟩:=keep1 (g:=w.heap.size) (cs:=worA {x1 with net:=x1.net.eraseIdx i} {L1 with an:=A1,cn:=c2}) (bW w2) hr1 (by go_simp) hf1;obtain⟨a2r,a2f,a2n,a2c,a2z,a2l⟩:=keep1 (g:=w.heap.size+1+1) (cs:=worA Wor.zero WLoc.zero) (bW w2) hr2 (by go_simp) hf2;generalize hx2:({x1 with net:=x1.net.eraseIdx i}:Wor)=x2 at *
 generalize ({L1 with an:=A1,cn:=c2}:WLoc)=L2 at *
 clear hr1 hf1 hr2 hf2;go_wp2_with fail;refine bodyPost_ret (rC (worA x2 L2)) rfl ⟨L2,rfl,?_,?_⟩
 ·have ho:On (fun q=>S q∧q<w.heap.size∨(w.heap.size+3<=q∧q<w2.heap.size)) w2 (fun v=>WorIn v x2 L2):=HO1.out;refine On.sub (S:=fun q=>S q∧q<w.heap.size∨(w.heap.size+3<=q∧q<w2.heap.size)) ?_ (fun q _ h=>h.elim .inl (fun h=>.inr (by omega)));exact x2ed
 exact bZ HB1
end Go.Proofs.YtefkfglkpebbmaaGreat
