/- Walks. No conditions. -/
import Derived.Test.YtefkfglkpebbmabGreatP15
import Derived.Test.YtefkfglkpebbmabGreatP42
import Derived.Test.YtefkfglkpebbmabGreatP13
set_option linter.all false
set_option maxRecDepth 100000
set_option maxHeartbeats 0
namespace Go.Proofs.YtefkfglkpebbmabGreat
open Go.RowKit
variable {Y:Prop}
variable {w:World} {n c b o:Nat}
theorem x13p(h:Y:=by
 have hk_:=hn 14 _ 2 rfl rfl (by decide);obtain⟨r_,f_,n_,c_,z_,l_⟩:=keep1 (hcJ_bel hk_ hJ) RW.out.1 (by go_simp) RW.out.2;have h_:=HAM.out;go_simp):Y:=h
theorem x83h(h:Y:=by
 have hk_:=hn 14 _ 2 rfl rfl (by decide);obtain⟨r_,f_,n_,c_,z_,l_⟩:=keep1 (hcJ_bel hk_ hJ) RH.out.1 (by simp) RH.out.2;have h_:=HNI.out;go_simp):Y:=h
theorem x9yi(h:Y:=by
 have e1:=mO 2 (.pointer (some ⟨w.heap.size,0,none⟩)) h;go_simp):Y:=h
def hcJ(S:Nat->Prop)(w0:World)(g:Nat)(v1 v2:Value)(l:List Chk):Nat->(Nat->Value)->World->Prop
 |0,_,w=>w=w0.drew
 |1,cv,w=>cv 11=.slice (some ⟨w0.heap.size,0,none⟩) 2 2∧w=w0.drew.alloc (.cells #[v1,v2] 33)
 |2,cv,w=>∃A c,cv 12=.slice A l.length c∧l.length<=c∧On S w (fun v=>Chs v A l)∧Below w0.heap.size w0 w
 |_,_,w=>∃w1 A c,l.length<=c∧On S w1 (fun v=>Chs v A l)∧Below w0.heap.size w0 w1∧w=w1.setCell ⟨g,38,none⟩ (.slice A l.length c)
theorem hcJ_bel{S:Nat->Prop}{w0:World}{g k:Nat}{v1 v2:Value}{l:List Chk}{cv:Nat->Value}(hk:k<=2)(h:hcJ S w0 g v1 v2 l k cv w):Below w0.heap.size w0 w:=by
 match k,hk,h with
 |0,_,h=>obtain rfl:w=w0.drew:=h;exact(Below.refl _ _).drew
 |1,_,h=>obtain⟨_,rfl⟩:=h;exact(Below.refl _ _).drew.alloc nl _
 |2,_,⟨_,_,_,_,_,h⟩=>exact h
theorem wp_slc2{a:Act}{K:Act->World->Prop}{Q:Exit->Act->World->Prop}{t:TypeId}{p:String}{af:Array Edge}{gd:Option (Nat×Bool)}{d s r:Tmp}{A B:OA}{m e:Nat}(hs:a.tmps[s]?=some (.slice A n c))(hr:a.tmps[r]?=some (.slice B m e))
  (h:K (a.put (some d) (.slice (some ⟨w.heap.size,0,none⟩) 2 2)) (w.alloc (.cells #[.slice A n c,.slice B m e] 33))):
  Oper.wp Tryz.prog ⟨some d,.buildSlice 120 2 #[(0,.tmp s),(1,.tmp r)],t,p,af,gd⟩ a w K Q:=by
 have e1:a.eval (.tmp s)=.slice A n c:=by simp[Act.eval,hs]
 have e2:a.eval (.tmp r)=.slice B m e:=by simp[Act.eval,hr]
 exact x9nx
theorem wp_stv{a:Act}{K:Act->World->Prop}{Q:Exit->Act->World->Prop}{t:TypeId}{p:String}{af:Array Edge}{gd:Option (Nat×Bool)}{x y:Tmp}{g j:Nat}{A:OA}{u:Value}(hx:a.tmps[x]?=some (.pointer (some ⟨g,j,none⟩)))(hy:a.tmps[y]?=some (.slice A n c))
  (hc:w.cell? ⟨g,j,none⟩=some u) (hf:w.frozen? ⟨g,j,none⟩=false) (h:K a (w.setCell ⟨g,j,none⟩ (.slice A n c))):
  Oper.wp Tryz.prog ⟨none,.store 33 (.tmp x) (.tmp y),t,p,af,gd⟩ a w K Q:=by
 have e1:a.eval (.tmp x)=.pointer (some ⟨g,j,none⟩):=by simp[Act.eval,hx]
 have e2:a.eval (.tmp y)=.slice A n c:=by simp[Act.eval,hy]
 unfold Oper.wp execOp;simp only[e1,e2];go_simp;exact h
theorem Chs.drop{l:List Chk}(h:Chs w (some ⟨b,o,none⟩) l)(k:Nat):Chs w (some ⟨b,o+k*5,none⟩) (l.drop k):=by
 intro i hi;have hi':k+i<l.length:=by simp only[List.length_drop]at hi;omega
 obtain⟨b',o',hA,hlt,cs,hl,hc,hr⟩:=h (k+i) hi';injection hA with hA;injection hA with e1 e2;subst e1 e2;refine⟨b,o+k*5,rfl,hlt,cs,hl,fun j hj=>?_,by simpa using hr⟩;have:=hc j hj;rwa [show o+(k+i)*5+j=o+k*5+i*5+j by omega]at this
theorem chk_ahead{i:Nat}(hi:i<n)(hc:n<=c)(W:World):(Instr.slice 33 (.slice (some ⟨b,o,none⟩) n c) none (some (iv (i:Int))) none).run Tryz.prog W=.ok (.slice (some ⟨b,o,none⟩) i c) W:=by
 exact x6il
theorem chk_behind{i:Nat}(hi:i<n)(hc:n<=c):∃o2 c2,(∀W,(Instr.slice 33 (.slice (some ⟨b,o,none⟩) n c) (some (iv ((i:Int)+1))) none none).run Tryz.prog W=.ok (.slice (some ⟨b,o2,none⟩) (n-(i+1)) c2) W)∧∀(w:World) (l:List Chk),l.length=n->Chs w (some ⟨b,o,none⟩) l->Chs w (some ⟨b,o2,none⟩) (l.drop (i+1)):=by
 have k1:(i:Int)+1<=(n:Int):=by omega
 have k2:((i:Int)+1).toNat=i+1:=by omega
 have k3:(0:Int)<=(i:Int)+1:=by omega
 by_cases e:c=i+1
 ·refine⟨o,0,fun W=>?_,fun w l hl h=>?_⟩
  ·have k4:n=i+1:=by omega
   subst k4;subst e;go_simp
  ·rw[List.drop_eq_nil_of_le (by omega)];exact Chs.nil _ _
 refine⟨o+(i+1)*5,c-(i+1),fun W=>?_,fun w l _ h=>h.drop _⟩;go_simp
theorem hap_hear(S:Nat->Prop)(x:Wor)(L:WLoc)(kd n:Int)(w:World)(hok:WorOk x)(hn:I64 n)(hx:On S w (fun v=>WorIn v x L))(hk:kd=2∨kd=3∨kd=4):Calls Tryz.prog 13 #[.agg (worA x L),.agg #[iv kd,iv n]] w (HpRet S w (worHear x kd n).1 (worHear x kd n).2):=by
 have HBA:Hid (Below w.heap.size w (((w.alloc (.cells (worA x L) 40)).alloc (.cells #[iv kd,iv n] 42)).alloc (.cells (worA Wor.zero WLoc.zero) 40))):=qH ((((bW w).alloc nl _).alloc (by simp) _).alloc (by simp;omega) _);have HX:=qH hx;have q1:(kd==1)=false:=by simp;omega
 have hnl:=hx.now.ln;have hcn:=hx.now.kn;obtain⟨res,hw1⟩:=eX (worHear x kd n);rw[hw1];have HW:=qH hw1;clear hw1;go_enter Tryz.func13,Tryz.ntmps13;go_upto_region 18 with fail
 have hs1:(((w.alloc (.cells (worA x L) 40)).alloc (.cells #[iv kd,iv n] 42)).alloc (.cells (worA Wor.zero WLoc.zero) 40)).heap.size=w.heap.size+3:=by simp
 obtain⟨a0r,a0f,a0n,a0c,a0z,a0l⟩:=keep1 (g:=w.heap.size) (cs:=worA x L) (Below.refl (((w.alloc (.cells (worA x L) 40)).alloc (.cells #[iv kd,iv n] 42)).alloc (.cells (worA Wor.zero WLoc.zero) 40)).heap.size (((w.alloc (.cells (worA x L) 40)).alloc (.cells #[iv kd,iv n] 42)).alloc (.cells (worA Wor.zero WLoc.zero) 40))) (by first|(go_simp;done)|(go_simp;rfl)) (by go_simp) (by go_simp);obtain⟨a1r,a1f,a1n,a1c,a1z,a1l⟩:=keep1 (g:=w.heap.size+1) (cs:=#[iv kd,iv n]) (Below.refl (((w.alloc (.cells (worA x L) 40)).alloc (.cells #[iv kd,iv n] 42)).alloc (.cells (worA Wor.zero WLoc.zero) 40)).heap.size (((w.alloc (.cells (worA x L) 40)).alloc (.cells #[iv kd,iv n] 42)).alloc (.cells (worA Wor.zero WLoc.zero) 40))) (by first|(go_simp;done)|(go_simp;rfl)) (by go_simp) (by go_simp);obtain⟨a2r,a2f,a2n,a2c,a2z,a2l⟩:=keep1 (g:=w.heap.size+1+1) (cs:=worA Wor.zero WLoc.zero) (Below.refl (((w.alloc (.cells (worA x L) 40)).alloc (.cells #[iv kd,iv n] 42)).alloc (.cells (worA Wor.zero WLoc.zero) 40)).heap.size (((w.alloc (.cells (worA x L) 40)).alloc (.cells #[iv kd,iv n] 42)).alloc (.cells (worA Wor.zero WLoc.zero) 40))) (by first|(go_simp;done)|(go_simp;rfl)) (by go_simp) (by go_simp);generalize ((w.alloc (.cells (worA x L) 40)).alloc (.cells #[iv kd,iv n] 42)).alloc (.cells (worA Wor.zero WLoc.zero) 40)=w1 at *
 go_upto_if 109 with fail
 go_cut [109] (fun v wx=>v=.bool true∧w1=wx)
 case first=>
  by_cases k1:kd=2
  ·have q2:(kd==2)=true:=by simp[k1]
   go_wp2_with fail;go_meet
   case rel=>exact⟨by simp[*],rfl⟩
  have q2:(kd==2)=false:=by simp[k1]
  by_cases k2:kd=3
  ·have q3:(kd==3)=true:=by simp[k2]
   exact x3dq
  have q3:(kd==3)=false:=by simp[k2]
  have q4:(kd==4)=true:=by simp;omega
  exact x3dq
 case rest=>
 obtain⟨rfl,rfl⟩:=hcut;by_cases c1:n<0∨(x.net.length:Int)<=n
 ·have hz:res=(Wor.zero,4):=HW.out.symm.trans (if_pos c1);subst hz;by_cases d1:n<0
  ·clear c1;go_wp2_with fail;refine(hapBad_calls 4 _).mono ?_;rintro e wz ⟨rfl,hb⟩;have z1:=kp (w.heap.size+1+1) (worA Wor.zero WLoc.zero) hb;have HBZ:=bU HBA hb;exact x3rt
  have d2:=c1.resolve_left d1;clear c1;go_wp2_with fail;refine(hapBad_calls 4 _).mono ?_;rintro e wz ⟨rfl,hb⟩;have z1:=kp (w.heap.size+1+1) (worA Wor.zero WLoc.zero) hb;have HBZ:=bU HBA hb;exact x3rt
 obtain⟨i,hni⟩:∃i:Nat,n=(i:Int):=⟨n.toNat,by omega⟩;have d1:¬n<0:=fun h=>c1 (.inl h);have d2:¬(x.net.length:Int)<=n:=fun h=>c1 (.inr h);have hil:i<x.net.length:=by omega
 obtain⟨gn,on,B,e,hAn,hbn,hck,hci⟩:=hx.now.net.chk hil;have hcon:=On.chk_on ((hx.imp fun v h=>h.net).sub fun k h1 h2=>(And.intro h2 h1:(fun k=>S k∧k<w.heap.size) k)) hil hAn hck hci;obtain⟨y,hy⟩:=eX (x.net[i]);obtain⟨⟨d2',e1⟩,hd1⟩:∃z,devHear x.d y=z:=⟨_,rfl⟩;rw[hy]at hck hcon;have hdef:worHear x kd n=if kd≠4∧e1≠0 then (Wor.zero,e1)else (⟨x.rel,if kd≠4 then d2' else x.d,if kd≠3 then x.net.eraseIdx i else x.net⟩,0):=by
  unfold worHear;rw[if_neg c1,show n.toNat=i by omega,show x.net.getD i Chk.zero=y by rw[<-hy];simp[hil],hd1]
 have HD:=qH (HW.out.symm.trans hdef);have KA:Hid (∀wq,Below w.heap.size w wq->Calls Tryz.prog 48 #[.agg (devA x.d L.l),.agg #[iv 2,iv 0],.agg (chkA y.from_ y.to_ y.n y.of_ B y.data.length e)] wq (AcRet (fun k=>S k∧k<w.heap.size) wq d2' e1)):=qH (fun wq hb=>by
  have h:=acts_calls (fun k=>S k∧k<w.heap.size) x.d L.l 2 0 y B e wq (.inl rfl) hok.dev ⟨by decide,by decide⟩ (((hx.imp fun v h=>h.dev).sub fun k h1 h2=>⟨h2,h1⟩).below hb) (hcon.below hb);rwa [show devActs x.d y 2 0=devHear x.d y from if_pos rfl,hd1]at h)
 obtain⟨x1,hx1⟩:=eX ((⟨x.rel,if kd≠4 then d2' else x.d,x.net⟩:Wor));have hres:(⟨x.rel,if kd≠4 then d2' else x.d,if kd≠3 then x.net.eraseIdx i else x.net⟩:Wor)={x1 with net:=if kd≠3 then x1.net.eraseIdx i else x1.net}:=by rw[<-hx1]
 rw[hres]at HD;have hnx:x1.net=x.net:=by rw[<-hx1]
 have HNX:=qH hnx;have HX1:=qH hx1;have HAN:=qH hAn;have HNI:=qH hni;have HCK:Hid (ChkAt w1 gn (on+i*5) y B e):=qH (hck.stays hbn HBA.out);have RW1:=qH (And.intro a0r a0f);have RH1:=qH (And.intro a1r a1f);have RZ1:=qH (And.intro a2r a2f);clear HW hdef hres hnx hx1 hAn hni hck hci hcon hy hd1 c1 hk hok;go_upto_if 130 with fail
 go_cut [] (fun wx=>∃L1,Hid (rowOf wx w.heap.size=worA x1 L1∧frOf wx w.heap.size=(0,0))∧Hid (rowOf wx (w.heap.size+1)=#[iv kd,iv n]∧frOf wx (w.heap.size+1)=(0,0))∧Hid (rowOf wx (w.heap.size+1+1)=worA Wor.zero WLoc.zero∧frOf wx (w.heap.size+1+1)=(0,0))∧Hid (On (fun q=>S q∧q<w.heap.size∨(w.heap.size+3<=q∧q<wx.heap.size)) wx (fun v=>WorIn v x1 L1))∧Hid (Below w.heap.size w wx)∧Hid (kd≠4->e1=0))
 case first=>
  by_cases k1:kd=4
  ·have q2:(kd !=4)=false:=by simp[k1]
   have K1:=qH k1;clear k1;go_wp2_with fail;go_meet
   case rel=>
    have hxx:x1=x:=by rw[<-HX1.out,if_neg (by simpa using K1.out)]
    refine⟨L,?_,RH1,RZ1,?_,HBA,qH fun h=>absurd K1.out h⟩
    ·rw[hxx];exact RW1
    rw[hxx];exact qH ((HX.out.sub fun k h1 h2=>.inl ⟨h2,h1⟩).below HBA.out)
  have q2:(kd !=4)=true:=by simp[k1]
  have hxx:x1={x with d:=d2'}:=by rw[<-HX1.out,if_pos k1]
  subst hxx;generalize d2'=dq at *
  go_wp2_with fail;refine wF (some 132::some 133::some 134::some 135::some 136::some 137::some 138::some 139::some 140::some 141::some 131::some 142::some 143::some 13::none::some 14::[]) (false::false::false::false::false::false::false::false::false::true::true::true::true::true::true::true::[]) (.pointer (some ⟨w.heap.size,1,none⟩)::.agg (devA x.d L.l)::.agg #[iv 2,iv 0]::.pointer (some ⟨w.heap.size,38,none⟩)::.slice L.an x.net.length L.cn::.pointer (some ⟨w.heap.size+1,1,none⟩)::iv n::.pointer (some ⟨gn,on+i*5,none⟩)::.agg (chkA y.from_ y.to_ y.n y.of_ B y.data.length e)::undef::undef::undef::undef::undef::undef::undef::[]) (cbJ w1 9 10 11 12 13 14 15 (fun K=>devA dq K) (devA Dev.zero DLoc.zero) e1 (fun K b v=>Below w1.heap.size w1 v∧On (fun q=>S q∧q<w.heap.size∨b<=q) v (fun u=>DevIn u dq K))) 197 (cbJ_start DLoc.zero) ?_ ?_
  ·refine⟨?_,?_,?_,?_,?_,?_,?_,?_,?_,?_,?_,?_,?_,?_,?_,?_,trivial⟩;all_goals intro done cv a wq hn hw hcl h hJ
   ·have e1:=fO 2 (.pointer (some ⟨w.heap.size,0,none⟩)) h;go_simp
   ·have e2:=fN 0 132 h hw;exact x2op
   ·go_simp
   ·have e1:=fO 2 (.pointer (some ⟨w.heap.size,0,none⟩)) h;go_simp
   ·have e2:=fN 3 135 h hw;exact x2op
   ·exact x1ql
   ·have e2:=fN 5 137 h hw;exact x3tb
   ·have e3:=fN 4 136 h hw;have e138:=fN 6 138 h hw;have h_:=HAN.out;have h1_:=HNI.out;have h2_:(i:Int)<(x.net.length:Int):=by omega
    have h3_:(x.net.length:Int)<=(L.cn:Int):=by omega
    go_simp
   ·have e2:=fN 7 139 h hw;have hk_:=HCK.out.stays (by omega) (cbJ_bel hJ);obtain⟨k0_,k1_,k2_,k3_,k4_⟩:=hk_;go_simp
   ·have e3:=fN 1 133 h hw;have e134:=fN 2 134 h hw;have e140:=fN 8 140 h hw;have n1:=hn;have n2:=nW 10 9 hcl n1;have n3:=nW 11 10 hcl n2;have n4:=nW 12 10 hcl n2;have n5:=nW 15 12 hcl n4;have n6:=nW 14 11 hcl n3;have hbq:=cbJ_bel hJ;refine wp_call (vals:=#[.agg (devA x.d L.l),.agg #[iv 2,iv 0],.agg (chkA y.from_ y.to_ y.n y.of_ B y.data.length e)]) (by rw[List.map_toArray,List.map_cons,List.map_cons,List.map_cons,List.map_nil,ch_ev e3,ch_ev e134,ch_ev e140]) (enters_of Tryz.func48 (by kernel_rfl) rfl _ _) (KA.out _ (HBA.out.trans (hbq.mono HBA.out.size))) ?_;rintro e w' ⟨K,rfl,hon,hbel⟩;exact⟨_,rfl,_,rfl,cbJ_c (by simp[maskB,n2]) (by simp[maskB,n3]) (by simp[maskB,n4]) (by simp[maskB,n5]) (by simp[maskB,n6]) (by decide) (by decide) (by decide) (by decide) (by decide) (by decide) hJ (x:=K) ⟨hbq.trans (hbel.mono hbq.size),hon.sub fun k h1 h2=>by
     rcases h2 with h2|h2
     ·exact .inl h2.1
     exact .inr h2⟩ hbel⟩
   ·have e2:=fr_cv (i:=9) (t:=141) h (hw 9 (by decide)) rfl rfl;have m1:=hw 9 (by decide);refine wp_val (v:=cv 9) (mx_move (ch_ev e2)) ⟨_,rfl,cbJ_k (by decide) (by decide) (by decide) hJ (fun x q _ _ _=>⟨fun _=>q (by simp[maskB,m1]),fun h=>absurd h (by decide),fun h=>absurd h (by decide),fun h=>absurd h (by decide)⟩)⟩
   ·have e3:=fr_cv (i:=10) (t:=131) h (hw 10 (by decide)) rfl rfl;have m1:=hw 10 (by decide);obtain⟨x,b_,gb_,w2_,hj_⟩:=hJ;have y:=hj_.v1 (by simp[maskB,m1]);rw[y]at e3;refine wp_val (v:=.agg ((fun K=>devA dq K) x)) (by go_simp) ⟨_,rfl,cbJ_k (by decide) (by decide) (by decide) ⟨x,b_,gb_,w2_,hj_⟩ (fun x3 _ h8 _ _=>⟨fun h=>absurd h (by decide),fun _=>by have q9:=h8 (by simp[maskB,m1]);rw[y]at q9;simp at q9⊢;first|exact q9|exact q9.symm|trivial,fun h=>absurd h (by decide),fun h=>absurd h (by decide)⟩)⟩
   ·have e2:=fr_cv (i:=10) (t:=131) h (hw 10 (by decide)) rfl rfl;have m1:=hw 10 (by decide);obtain⟨x,b_,gb_,w2_,hj_⟩:=hJ;have y:=hj_.v1 (by simp[maskB,m1]);rw[y]at e2;refine wp_val (v:=iv e1) (by go_simp) ⟨_,rfl,cbJ_k (by decide) (by decide) (by decide) ⟨x,b_,gb_,w2_,hj_⟩ (fun x3 _ h8 _ _=>⟨fun h=>absurd h (by decide),fun h=>absurd h (by decide),fun _=>rfl,fun h=>absurd h (by decide)⟩)⟩
   ·have n1:=hn;have n2:=nW 14 13 hcl n1;refine wp_alloc (zr:=devA Dev.zero DLoc.zero) (fun ev=>by go_simp) ⟨_,rfl,cbJ_a (by go_simp) (by simp[maskB,n1]) (by simp[maskB,n2]) (by decide) (by decide) (by decide) (by decide) (by decide) (by decide) hJ⟩
   ·have e2:=fr_cv (i:=13) (t:=13) h (hw 13 (by decide)) rfl rfl;have e142:=fr_cv (i:=11) (t:=142) h (hw 11 (by decide)) rfl rfl;have n1:=hn;have m1:=hw 13 (by decide);have m2:=hw 11 (by decide);have m3:=hcl 11 _ rfl m2 10 (by decide);have m4:=hcl 10 _ rfl m3 9 (by decide);obtain⟨x,gb_,y1,y2,r_,f_,hJ1⟩:=cbJ_s (v:=undef) (by go_simp) (by simp[maskB,m4]) (by simp[maskB,n1]) (by simp[maskB,m1]) (by simp[maskB,m2]) (by decide) (by decide) (by decide) (by decide) (by decide) (by decide) hJ;rw[y1]at e2;rw[y2]at e142;refine wp_srow e2 e142 (by go_simp) (by go_simp) r_ (by go_simp) f_ (by go_simp) ⟨undef,rfl,?_⟩;rw[splice_all _ _ (by go_simp)];exact hJ1
   ·have e3:=fr_cv (i:=12) (t:=143) h (hw 12 (by decide)) rfl rfl;have m1:=hw 12 (by decide);obtain⟨x,b_,gb_,w2_,hj_⟩:=hJ;have y:=hj_.v3 (by simp[maskB,m1]);rw[y]at e3;refine wp_asg (v:=iv e1) (ch_ev e3) ⟨_,rfl,cbJ_k (by decide) (by decide) (by decide) ⟨x,b_,gb_,w2_,hj_⟩ (fun x3 _ _ _ _=>⟨fun h=>absurd h (by decide),fun h=>absurd h (by decide),fun h=>absurd h (by decide),fun _=>rfl⟩)⟩
  intro dn cv w2 hall hJ;obtain⟨K,b1,gb,w3,y1,g1,g2,g3,g7,g8,rb,fb,hgb1,hgb2,hbel,hb1,⟨hbw,hon⟩,hkp,hsz1,hap⟩:=cbJ_end (hall 9 rfl (by decide)) (hall 10 rfl (by decide)) (hall 11 rfl (by decide)) (hall 12 rfl (by decide)) (hall 15 rfl (by decide)) (hall 13 rfl (by decide)) (hall 14 rfl (by decide)) hJ;simp only[freeAll,pA,fA,Bool.false_eq_true,if_true,if_false,reduceIte,Nat.reduceAdd];rw[y1,g1,g2,g3,g7,g8];obtain⟨a0r,a0f,a0n,a0c,a0z,a0l⟩:=keep1 (g:=w.heap.size) (cs:=worA x L) hbel RW1.out.1 (by go_simp) RW1.out.2;obtain⟨a1r,a1f,a1n,a1c,a1z,a1l⟩:=keep1 (g:=w.heap.size+1) (cs:=#[iv kd,iv n]) hbel RH1.out.1 (by go_simp) RH1.out.2;obtain⟨a2r,a2f,a2n,a2c,a2z,a2l⟩:=keep1 (g:=w.heap.size+1+1) (cs:=worA Wor.zero WLoc.zero) hbel RZ1.out.1 (by go_simp) RZ1.out.2;have HB1:=bT HBA hbel;have hs2:=hbel.size;have hon1:On (fun q=>S q∧q<w.heap.size∨(w.heap.size+3<=q∧q<w2.heap.size∧q≠gb)) w2 (fun u=>DevIn u dq K):=fun v h1 h2=>hon v ⟨h1.os.trans (hbel.os.trans hbw.os.symm),h1.tape.trans (hbel.tape.trans hbw.tape.symm),h1.output.trans (hbel.output.trans hbw.output.symm),Nat.le_trans hsz1 h1.size,fun _ h=>absurd h (Nat.not_lt_zero _)⟩ fun k h3 h4=>by
   rcases h3 with h3|h3
   ·exact(h2 k (.inl h3) (by omega)).trans ((hbel.block k (by omega)).trans (hbw.block k (by omega)).symm)
   exact(h2 k (.inr (by omega)) (by omega)).trans (hkp k h3 h4)
  have HON:Hid (On (fun q=>S q∧q<w.heap.size∨(w.heap.size+3<=q∧q<w2.heap.size∧q≠gb)) w2 (fun v=>WorIn v {x with d:=dq} {L with l:=K})):=qH (((HX.out.sub fun k h1 h2=>.inl ⟨h2,h1⟩).below HB1.out).worDev hon1);have hgg:¬gb=w.heap.size:=by omega
  have hgg1:¬w.heap.size=gb:=by omega
  clear hJ hall y1 g1 g2 g3 g7 g8 hbel hbw hon hkp hap KA hon1;by_cases c1:e1≠0
  ·have q:(e1 !=0)=true:=by simp[c1]
   obtain rfl:=HD.out.trans (if_pos ⟨k1,c1⟩);clear c1;go_wp2_with fail;refine(hapBad_calls e1 _).mono ?_;rintro e wz ⟨rfl,hb⟩;have z1:=kp (w.heap.size+1+1) (worA Wor.zero WLoc.zero) hb;have HBZ:=bU HB1 hb;exact x3rt
  have c1:=Decidable.not_not.1 c1;subst c1;go_wp2_with fail;go_meet
  case rel=>
   have hp1:0<(rowOf w2 w.heap.size).size:=by rw[a0r];simp[worA]
   have ho:On (fun q=>S q∧q<w.heap.size∨(w.heap.size+3<=q∧q<w2.heap.size∧q≠gb)) w2 (fun v=>WorIn v {x with d:=dq} {L with l:=K}):=HON.out;refine⟨{L with l:=K},qH ⟨by rw[rowOf_setRow _ _ _ _ hp1,if_pos rfl],by rw[frOf_setRow];exact a0f⟩,qH ⟨by rw[rowOf_setRow _ _ _ _ hp1,if_neg (by omega)];exact a1r,by rw[frOf_setRow];exact a1f⟩,qH ⟨by rw[rowOf_setRow _ _ _ _ hp1,if_neg (by omega)];exact a2r,by rw[frOf_setRow];exact a2f⟩,qH ?_,qH (below_row HB1.out nl _),qH (by first|exact fun _=>rfl|trivial|simp)⟩;refine On.sub (S:=fun q=>S q∧q<w.heap.size∨(w.heap.size+3<=q∧q<w2.heap.size∧q≠gb)) (ho.row (by rintro (h|h)<;>omega) _) fun q h1 h2=>?_;rcases h2 with h2|h2
   ·exact .inl h2
   exact .inr ⟨h2.1,by simp[World.setRow];exact h2.2.1⟩
 case rest=>
 obtain⟨L1,h1,h2,h3,h4,h5,h6⟩:=hcut;have HB:=h5;have HON:=h4;have RW:=h1;have RH:=h2;have hsb:=HB.out.size;have hh1:=h1.out;have hh2:=h2.out;have hh3:=h3.out;obtain⟨a0r,a0f,a0n,a0c,a0z,a0l⟩:=keep1 (g:=w.heap.size) (cs:=worA x1 L1) (bW wc) hh1.1 (by go_simp) hh1.2;obtain⟨a1r,a1f,a1n,a1c,a1z,a1l⟩:=keep1 (g:=w.heap.size+1) (cs:=#[iv kd,iv n]) (bW wc) hh2.1 (by go_simp) hh2.2;obtain⟨a2r,a2f,a2n,a2c,a2z,a2l⟩:=keep1 (g:=w.heap.size+1+1) (cs:=worA Wor.zero WLoc.zero) (bW wc) hh3.1 (by go_simp) hh3.2;have hz:=HD.out.trans (if_neg (fun h=>h.2 (h6.out h.1)));clear hh1 hh2 hh3 h1 h2 h3 h4 h5 h6;by_cases k1:kd=3
 ·have q2:(kd !=3)=false:=by simp[k1]
  rw[if_neg (by simpa using k1)]at hz;subst hz;clear k1;go_wp2_with fail;refine bodyPost_ret (rC (worA x1 L1)) rfl ⟨L1,rfl,?_,?_⟩
  ·have ho:On (fun q=>S q∧q<w.heap.size∨(w.heap.size+3<=q∧q<wc.heap.size)) wc (fun v=>WorIn v x1 L1):=HON.out;refine On.sub (S:=fun q=>S q∧q<w.heap.size∨(w.heap.size+3<=q∧q<wc.heap.size)) ?_ (fun q _ h=>h.elim .inl (fun h=>.inr (by omega)));exact x2ed
  exact bZ HB
 have q2:(kd !=3)=true:=by simp[k1]
 rw[if_pos k1]at hz;subst hz;have hil1:i<x1.net.length:=by rw[HNX.out];exact hil
 have hkn1:=HON.out.now.kn;have hln1:=HON.out.now.ln;obtain⟨gm,om,_,_,hAm,_⟩:=HON.out.now.net.chk hil1;obtain⟨o1,c1,hs2,hch⟩:=chk_behind (b:=gm) (o:=om) hil1 hkn1;have HS1:=qH (fun W=>chk_ahead (b:=gm) (o:=om) hil1 hkn1 W);have HS2:=qH hs2;have HAM:=qH hAm;have hnet:On (fun q=>S q∧q<w.heap.size∨(w.heap.size+3<=q∧q<wc.heap.size)) wc (fun v=>Chs v (some ⟨gm,om,none⟩) x1.net):=HON.out.imp fun v h=>by have:=h.net;rwa [hAm]at this
 have hbq:Below wc.heap.size wc (wc.drew.alloc (.cells #[.slice (some ⟨gm,om,none⟩) i L1.cn,.slice (some ⟨gm,o1,none⟩) (x1.net.length-(i+1)) c1] 33)):=(Below.refl _ _).drew.alloc nl _;have KC:=qH (chkConcat_calls (g:=wc.heap.size) (A:=some ⟨gm,om,none⟩) (B:=some ⟨gm,o1,none⟩) (c:=L1.cn) (d:=c1) (l:=x1.net.take i) (m:=x1.net.drop (i+1)) (w:=wc.drew.alloc (.cells #[.slice (some ⟨gm,om,none⟩) i L1.cn,.slice (some ⟨gm,o1,none⟩) (x1.net.length-(i+1)) c1] 33)) (by
  rw[List.length_take,List.length_drop,Nat.min_eq_left (by omega)];exact blk_top rfl) (by rw[List.length_take,List.length_drop];omega) ((hnet.imp fun v h=>h.take i).below hbq) ((hnet.imp fun v h=>hch v _ rfl h).below hbq))
 rw[<-List.eraseIdx_eq_take_drop_succ]at KC;have hel:(x1.net.eraseIdx i).length<=2513169434843:=by rw[List.length_eraseIdx_of_lt hil1];omega
 clear hs2 hAm hnet hbq k1 HNX HCK HAN HX1 HBA;go_wp2_with fail;refine wM (some 156::some 157::some 158::some 159::some 160::some 161::some 162::some 163::some 164::some 165::some 166::some 167::some 168::some 169::none::[]) (none::none::none::none::none::none::none::none::none::none::none::some 0::some 1::none::some 2::[]) (.pointer (some ⟨w.heap.size,38,none⟩)::.slice (some ⟨gm,om,none⟩) x1.net.length L1.cn::.pointer (some ⟨w.heap.size+1,1,none⟩)::iv (i:Int)::.slice (some ⟨gm,om,none⟩) i L1.cn::.pointer (some ⟨w.heap.size,38,none⟩)::.slice (some ⟨gm,om,none⟩) x1.net.length L1.cn::.pointer (some ⟨w.heap.size+1,1,none⟩)::iv (i:Int)::iv ((i:Int)+1)::.slice (some ⟨gm,o1,none⟩) (x1.net.length-(i+1)) c1::undef::undef::.pointer (some ⟨w.heap.size,38,none⟩)::undef::[]) 3 (hcJ (fun q=>(S q∧q<w.heap.size∨(w.heap.size+3<=q∧q<wc.heap.size))∧q<wc.heap.size+1∨wc.heap.size+1<=q) wc w.heap.size (.slice (some ⟨gm,om,none⟩) i L1.cn) (.slice (some ⟨gm,o1,none⟩) (x1.net.length-(i+1)) c1) (x1.net.eraseIdx i)) 197 (rfl) ?_ ?_
 ·refine⟨?_,?_,?_,?_,?_,?_,?_,?_,?_,?_,?_,?_,?_,?_,?_,trivial⟩
  ·intro done cv k1 a wq hw h hJ hn;exact x9yi
  ·intro done cv k2 a wq hw h hJ hn;have e2:=mN 0 156 h hw;exact x13p
  ·intro done cv k1 a wq hw h hJ hn;have e2:=mO 3 (.pointer (some ⟨w.heap.size+1,0,none⟩)) h;go_simp
  ·intro done cv k2 a wq hw h hJ hn;have e2:=mN 2 158 h hw;exact x83h
  ·intro done cv k1 a wq hw h hJ hn;have e2:=mN 1 157 h hw;have e159:=mN 3 159 h hw;have h_:=HS1.out;go_simp
  ·intro done cv k2 a wq hw h hJ hn;exact x9yi
  ·intro done cv k1 a wq hw h hJ hn;have e2:=mN 5 161 h hw;exact x13p
  ·intro done cv k2 a wq hw h hJ hn;have e2:=mO 3 (.pointer (some ⟨w.heap.size+1,0,none⟩)) h;go_simp
  ·intro done cv k1 a wq hw h hJ hn;have e2:=mN 7 163 h hw;exact x83h
  ·intro done cv k2 a wq hw h hJ hn;have e2:=mN 8 164 h hw;have h_:IntKind.i64.wrap ((i:Int)+1)=(i:Int)+1:=IntWalk.i64_in _ (by omega);go_simp
  ·intro done cv k1 a wq hw h hJ hn;have e2:=mN 6 162 h hw;have e165:=mN 9 165 h hw;have h_:=HS2.out;go_simp
  ·intro done cv a wq hw h hJ;have e2:=mN 4 160 h hw;have e166:=mN 10 166 h hw;obtain rfl:wq=wc.drew:=hJ;exact wp_slc2 e2 e166 ⟨_,rfl,by simp,rfl⟩
  ·intro done cv a wq hw h hJ;have e2:=mx_cv (i:=11) (t:=167) h (hw 11 (by decide)) rfl rfl;obtain⟨y1,rfl⟩:=hJ;rw[y1]at e2;refine wp_call (vals:=#[.slice (some ⟨wc.heap.size,0,none⟩) 2 2]) (by rw[List.map_toArray,List.map_cons,List.map_nil,ch_ev e2]) (enters_of Tryz.func47 (by kernel_rfl) rfl _ _) (KC.out) ?_;rintro e w' ⟨A,c,rfl,h1,h2,h3⟩;exact⟨_,rfl,_,rfl,A,c,by simp,h1,h2.sub fun k _ h=>by simpa using h,((Below.refl _ _).drew.alloc nl _).trans (h3.mono (by simp))⟩
  ·intro done cv k1 a wq hw h hJ hn;exact x9yi
  ·intro done cv a wq hw h hJ;have e2:=mN 13 169 h hw;have e168:=mx_cv (i:=12) (t:=168) h (hw 12 (by decide)) rfl rfl;obtain⟨A,c,y1,h1,h2,h3⟩:=hJ;rw[y1]at e168;obtain⟨r_,f_,n_,c_,z_,l_⟩:=keep1 h3 RW.out.1 (by go_simp) RW.out.2;refine wp_stv e2 e168 (u:=.slice L1.an x1.net.length L1.cn) (by rw[c_];simp[worA]) (z_ _) ⟨undef,rfl,wq,A,c,h1,h2,h3,rfl⟩
 intro cv w2 hJ;obtain⟨w3,A1,c2,hle1,hon1,hb1,rfl⟩:=hJ;simp only[mixAll,pA,mA,Nat.reduceAdd];obtain⟨a0r,a0f,a0n,a0c,a0z,a0l⟩:=keep1 (g:=w.heap.size) (cs:=worA x1 L1) hb1 RW.out.1 (by go_simp) RW.out.2;obtain⟨a2r,a2f,a2n,a2c,a2z,a2l⟩:=keep1 (g:=w.heap.size+1+1) (cs:=worA Wor.zero WLoc.zero) hb1 a2r (by go_simp) a2f;have hr1:rowOf (w3.setCell ⟨w.heap.size,38,none⟩ (.slice A1 (x1.net.eraseIdx i).length c2)) w.heap.size=worA {x1 with net:=x1.net.eraseIdx i} {L1 with an:=A1,cn:=c2}:=by rw[rowOf_setCell,if_pos rfl,a0r,worA_set_net]
 have hf1:frOf (w3.setCell ⟨w.heap.size,38,none⟩ (.slice A1 (x1.net.eraseIdx i).length c2)) w.heap.size=(0,0):=by rw[frOf_setCell];exact a0f
 have hr2:rowOf (w3.setCell ⟨w.heap.size,38,none⟩ (.slice A1 (x1.net.eraseIdx i).length c2)) (w.heap.size+1+1)=worA Wor.zero WLoc.zero:=by rw[rowOf_setCell,if_neg (by show ¬_=_;omega)];exact a2r
 have hf2:frOf (w3.setCell ⟨w.heap.size,38,none⟩ (.slice A1 (x1.net.eraseIdx i).length c2)) (w.heap.size+1+1)=(0,0):=by rw[frOf_setCell];exact a2f
 have HB1:Hid (Below w.heap.size w (w3.setCell ⟨w.heap.size,38,none⟩ (.slice A1 (x1.net.eraseIdx i).length c2))):=qH ((HB.out.trans (hb1.mono HB.out.size)).setCell nl _);have HO1:Hid (On (fun q=>S q∧q<w.heap.size∨(w.heap.size+3<=q∧q<(w3.setCell ⟨w.heap.size,38,none⟩ (.slice A1 (x1.net.eraseIdx i).length c2)).heap.size)) (w3.setCell ⟨w.heap.size,38,none⟩ (.slice A1 (x1.net.eraseIdx i).length c2)) (fun v=>WorIn v {x1 with net:=x1.net.eraseIdx i} {L1 with an:=A1,cn:=c2})):=qH (by
  have hs2:=hb1.size;have es:(w3.setCell ⟨w.heap.size,38,none⟩ (.slice A1 (x1.net.eraseIdx i).length c2)).heap.size=w3.heap.size:=by simp
  rw[es];refine On.cell2 (On.worNet ((HON.out.sub fun k h1 h2=>h2.imp id fun h=>⟨h.1,by omega⟩).below hb1) hle1 hel (hon1.sub fun k h1 h2=>?_)) (by rintro (h|h)<;>omega) _;rcases h2 with ⟨h2|h2,_⟩|h2
  ·exact .inl h2
  ·exact .inr ⟨h2.1,h1⟩
  exact .inr ⟨by omega,h1⟩)
 have hs2:=hb1.size;have hss:(w3.setCell ⟨w.heap.size,38,none⟩ (.slice A1 (x1.net.eraseIdx i).length c2)).heap.size=w3.heap.size:=by simp
 clear hb1 hon1 a0r a0f a0n a0c a0z a0l a1r a1f a1n a1c a1z a1l a2r a2f a2n a2c a2z a2l;generalize w3.setCell ⟨w.heap.size,38,none⟩ (.slice A1 (x1.net.eraseIdx i).length c2)=w2 at *
 obtain⟨a0r,a0f,a0n,a0c,a0z,a0l⟩:=keep1 (g:=w.heap.size) (cs:=worA {x1 with net:=x1.net.eraseIdx i} {L1 with an:=A1,cn:=c2}) (bW w2) hr1 (by go_simp) hf1;obtain⟨a2r,a2f,a2n,a2c,a2z,a2l⟩:=keep1 (g:=w.heap.size+1+1) (cs:=worA Wor.zero WLoc.zero) (bW w2) hr2 (by go_simp) hf2;generalize hx2:({x1 with net:=x1.net.eraseIdx i}:Wor)=x2 at *
 generalize ({L1 with an:=A1,cn:=c2}:WLoc)=L2 at *
 clear hr1 hf1 hr2 hf2;go_wp2_with fail;refine bodyPost_ret (rC (worA x2 L2)) rfl ⟨L2,rfl,?_,?_⟩
 ·have ho:On (fun q=>S q∧q<w.heap.size∨(w.heap.size+3<=q∧q<w2.heap.size)) w2 (fun v=>WorIn v x2 L2):=HO1.out;refine On.sub (S:=fun q=>S q∧q<w.heap.size∨(w.heap.size+3<=q∧q<w2.heap.size)) ?_ (fun q _ h=>h.elim .inl (fun h=>.inr (by omega)));exact x2ed
 exact bZ HB1
theorem good_range{d:Dev}(h:DevOk d):1<=d.good∧d.good<=30:=by
 have hrec:=rec_ok h;have hp:=recCheck_parts hrec;have hv:=hp.2.2.2.1;unfold Dev.good;rcases rec_active hrec with hk|hk
 ·have hi:=hp.2.1;rw[hk,at_0]at hv⊢;unfold infCheck at hi;by_cases hh:InfRange d.rec_.a
  ·unfold InfRange at hh;omega
  rw[if_neg hh]at hi;exact absurd hi (by decide)
 have hi:=hp.2.2.1;rw[hk,at_1]at hv⊢;unfold infCheck at hi;by_cases hh:InfRange d.rec_.b
 ·unfold InfRange at hh;omega
 rw[if_neg hh]at hi;exact absurd hi (by decide)
theorem cut_100(p:Pat):(chkCut p).1.length<=100:=by
 unfold chkCut;split
 ·simp
 split
 ·simp
 rename_i h;unfold chunksOf;simp;omega
theorem hap_send(S:Nat->Prop)(x:Wor)(L:WLoc)(kd n:Int)(w:World)(hok:WorOk x)(hn:I64 n)(hx:On S w (fun v=>WorIn v x L))(hml:ML w)(hk:kd=1):Calls Tryz.prog 13 #[.agg (worA x L),.agg #[iv kd,iv n]] w (HpRet S w (worSend x n).1 (worSend x n).2):=by
 have HBA:Hid (Below w.heap.size w (((w.alloc (.cells (worA x L) 40)).alloc (.cells #[iv kd,iv n] 42)).alloc (.cells (worA Wor.zero WLoc.zero) 40))):=qH ((((bW w).alloc nl _).alloc (by simp) _).alloc (by simp;omega) _);have HX:=qH hx;have HML:=qH hml;have q1:(kd==1)=true:=by simp[hk]
 have hrec:=rec_ok hok.dev;have hact:=rec_active hrec;have hgr:=good_range hok.dev;have HRE:=qH (relCheck_ok.1 hok.rel).2;have KN:=qH (fun w=>newest_calls x.d.c0 x.d.c1 w);rw[refNewest_ok hok.dev.cops]at KN;obtain⟨rk,hrk⟩:=eX ((recRead x.d.c0 x.d.c1).2);have hre:(recRead x.d.c0 x.d.c1).1=x.d.rec_:=rfl;rw[hrk,hre]at KN;obtain⟨ka,ha⟩:∃ka:Nat,x.d.rec_.active=(ka:Int):=⟨x.d.rec_.active.toNat,by omega⟩;have ha1:ka<=1:=by omega
 have pv:=recA_ver x.d.rec_ ha1;have hgd:x.d.good=(x.d.rec_.at_ (ka:Int)).ver:=by unfold Dev.good;rw[ha]
 rw[<-hgd]at pv;obtain⟨fv,hfv⟩:=eX (x.d.good);rw[hfv]at pv hgr;have hdef:worSend x n=if n<1∨(x.rel.length:Int)<n∨(x.rel.length:Int)<fv then (Wor.zero,4)
   else if (patMake (sumOn 1) fv n (relAt x.rel fv) (relAt x.rel n)).2≠0 then (Wor.zero,(patMake (sumOn 1) fv n (relAt x.rel fv) (relAt x.rel n)).2)
   else if (chkCut (patMake (sumOn 1) fv n (relAt x.rel fv) (relAt x.rel n)).1).2≠0 then (Wor.zero,(chkCut (patMake (sumOn 1) fv n (relAt x.rel fv) (relAt x.rel n)).1).2)
   else if 120<x.net.length+(chkCut (patMake (sumOn 1) fv n (relAt x.rel fv) (relAt x.rel n)).1).1.length then (Wor.zero,1)
   else ({x with net:=x.net++(chkCut (patMake (sumOn 1) fv n (relAt x.rel fv) (relAt x.rel n)).1).1},0):=by rw[<-hfv];rfl
 have HD:=qH hdef;generalize worSend x n=res at *
 generalize hr:x.d.rec_=r at *
 have hkr:=hx.now.kr;have hnl:=hok.few;have hrl:=HRE.out.1;clear hdef hrec hrk hre hgd hfv hr hok hk hml;obtain⟨pq,hpq⟩:∃p,within n 1 x.rel.length=p:=⟨_,rfl⟩;have KI:Hid (∀w,Calls Tryz.prog 21 #[iv n,iv 1,iv x.rel.length] w (Ret w (.bool pq))):=qH (fun w=>by rw[<-hpq];exact in_calls n 1 x.rel.length w);go_enter Tryz.func13,Tryz.ntmps13;go_wp2_with fail;refine(KN.out _).mono ?_;rintro e w1 ⟨rfl,hb⟩;obtain⟨a0r,a0f,a0n,a0c,a0z,a0l⟩:=kp (w.heap.size) (worA x L) hb;obtain⟨a1r,a1f,a1n,a1c,a1z,a1l⟩:=kp (w.heap.size+1) (#[iv kd,iv n]) hb;obtain⟨a2r,a2f,a2n,a2c,a2z,a2l⟩:=kp (w.heap.size+1+1) (worA Wor.zero WLoc.zero) hb;have HB1:=bT HBA hb;have hs1:w.heap.size+3<=w1.heap.size:=by have:=hb.size;simpa using this
 clear hb;go_upto_region 5 with fail
 obtain⟨w3,hw1⟩:=eX (w1.alloc (.cells (recA r) 29));have hb:Below w1.heap.size w1 w3:=by rw[<-hw1];exact bL _
 have hrr:rowOf w3 w1.heap.size=recA r∧frOf w3 w1.heap.size=(0,0):=by rw[<-hw1];exact⟨by rw[rowOf_alloc,if_pos rfl],by rw[frOf_alloc,if_pos rfl]⟩
 obtain⟨a0r,a0f,a0n,a0c,a0z,a0l⟩:=keep1 (g:=w.heap.size) (cs:=worA x L) hb a0r (by first|(go_simp;done)|simp[recA]) a0f;obtain⟨a1r,a1f,a1n,a1c,a1z,a1l⟩:=keep1 (g:=w.heap.size+1) (cs:=#[iv kd,iv n]) hb a1r (by first|(go_simp;done)|simp[recA]) a1f;obtain⟨a2r,a2f,a2n,a2c,a2z,a2l⟩:=keep1 (g:=w.heap.size+1+1) (cs:=worA Wor.zero WLoc.zero) hb a2r (by first|(go_simp;done)|simp[recA]) a2f;have r1:=keep1 (bW w3) hrr.1 (by simp[recA]) hrr.2;have HB2:=bT HB1 hb;have hs2:w.heap.size+3<=w3.heap.size:=by have:=hb.size;omega
 rw[hw1];clear hw1 hb hrr;have k1:(0:Int)<=(ka:Int):=by omega
 have k2:(ka:Int)<2:=by omega
 have k3:¬(2:Int)<=(ka:Int):=by omega
 go_wp2_with fail;refine(KI.out _).mono ?_;rintro e w2 ⟨rfl,rfl⟩;by_cases c1:n<1∨(x.rel.length:Int)<n∨(x.rel.length:Int)<fv
 ·have hz:res=(Wor.zero,4):=HD.out.trans (if_pos c1);subst hz
  cases pq
  ·clear c1;go_wp2_with fail;refine(hapBad_calls 4 _).mono ?_;rintro e wz ⟨rfl,hb⟩;have z1:=kp (w.heap.size+1+1) (worA Wor.zero WLoc.zero) hb;have HBZ:=bU HB2 hb;exact x3rt
  have d1:(x.rel.length:Int)<fv:=by
   unfold within at hpq;simp at hpq;omega
  clear c1;go_wp2_with fail;refine(hapBad_calls 4 _).mono ?_;rintro e wz ⟨rfl,hb⟩;have z1:=kp (w.heap.size+1+1) (worA Wor.zero WLoc.zero) hb;have HBZ:=bU HB2 hb;exact x3rt
 have hp1:pq=true:=by rw[<-hpq];unfold within;simp;omega
 subst hp1;have HD1:=qH (HD.out.trans (if_neg c1));have d1:¬n<1:=fun e=>c1 (.inl e);have d2:¬(x.rel.length:Int)<n:=fun e=>c1 (.inr (.inl e));have d3:¬(x.rel.length:Int)<fv:=fun e=>c1 (.inr (.inr e));clear c1 HD hpq;obtain⟨fi,hfi⟩:∃fi:Nat,fv=(fi:Int)+1:=⟨(fv-1).toNat,by omega⟩;obtain⟨ti,hti⟩:∃ti:Nat,n=(ti:Int)+1:=⟨(n-1).toNat,by omega⟩;have hfl:fi<x.rel.length:=by omega
 have htl:ti<x.rel.length:=by omega
 have hr1:relAt x.rel fv=x.rel[fi]:=by unfold relAt;rw[show (fv-1).toNat=fi by omega];simp[hfl]
 have hr2:relAt x.rel n=x.rel[ti]:=by unfold relAt;rw[show (n-1).toNat=ti by omega];simp[htl]
 rw[hr1,hr2]at HD1;have HWF:Hid (IntKind.i64.wrap (fv-1)=(fi:Int)):=qH (by rw[hfi,show (fi:Int)+1-1=(fi:Int) by omega];exact IntWalk.i64_in _ (by omega));have HWT:Hid (IntKind.i64.wrap (n-1)=(ti:Int)):=qH (by rw[hti,show (ti:Int)+1-1=(ti:Int) by omega];exact IntWalk.i64_in _ (by omega));clear hfi hti hr1 hr2;go_wp2_with fail;have hrel1:=(HX.out.at_ HB2.out).rel;obtain⟨br,orr,hAr,hbr,cs1,hcl1,hcc1,B1,e1,rfl,hd1,hd2,hd3⟩:=hrel1 fi hfl;obtain⟨br1,orr1,hAr1,hbr1,cs2,hcl2,hcc2,B2,e2,rfl,hd4,hd5,hd6⟩:=hrel1 ti htl;rw[hAr]at hAr1;injection hAr1 with hAr1;injection hAr1 with q5 q6;subst q5 q6;have hl1:=HRE.out.2 _ (List.getElem_mem hfl);have hl2:=HRE.out.2 _ (List.getElem_mem htl);obtain⟨b1,hb1⟩:=eX (x.rel[fi]);obtain⟨b2,hb2⟩:=eX (x.rel[ti]);rw[hb1]at hcc1 hd1 hd3 HD1 hl1;rw[hb2]at hcc2 hd4 hd6 HD1 hl2;have HC1:Hid (w3.cell? ⟨br,orr+fi,none⟩=some (.slice B1 b1.length e1)):=qH (by have:=hcc1 0 (by simp);simpa using this);have HC2:Hid (w3.cell? ⟨br,orr+ti,none⟩=some (.slice B2 b2.length e2)):=qH (by have:=hcc2 0 (by simp);simpa using this);have HAR:=qH hAr;have HBR:=qH hbr;obtain⟨⟨p,en⟩,hpm⟩:∃z,patMake (sumOn 1) fv n b1 b2=z:=⟨_,rfl⟩;rw[hpm]at HD1;have KM:Hid (∀wq,Below w3.heap.size w3 wq->Calls Tryz.prog 45 #[iv fv,iv n,.slice B1 b1.length e1,.slice B2 b2.length e2] wq (PaRet wq p en)):=qH (fun wq hq=>by
  have h1:=refMade_calls B1 B2 e1 e2 fv n b1 b2 wq ((HML.out.stays HB2.out).stays hq) hd1 hd4 ⟨by omega,by omega⟩ hn (by omega) (by omega) (hd3.stays hq) (hd6.stays hq);rw[hpm]at h1;exact h1)
 have RW1:=qH (And.intro a0r a0f);have RH1:=qH (And.intro a1r a1f);have RZ1:=qH (And.intro a2r a2f);clear hcc1 hcc2 hd1 hd2 hd3 hd4 hd5 hd6 hcl1 hcl2 hAr hbr hbr1 hb1 hb2 hpm hrel1 KI KN a0r a0f a0n a0c a0z a0l a1r a1f a1n a1c a1z a1l a2r a2f a2n a2c a2z a2l r1 ha pv;refine wF (some 53::some 54::some 55::some 56::some 57::some 58::some 59::some 60::some 61::some 62::some 63::some 64::some 65::some 66::some 67::some 68::some 69::some 52::some 70::some 71::some 10::none::some 11::[]) (false::false::false::false::false::false::false::false::false::false::false::false::false::false::false::false::true::true::true::true::true::true::true::[]) (iv fv::.pointer (some ⟨w.heap.size+1,1,none⟩)::iv n::.pointer (some ⟨w.heap.size,0,none⟩)::.slice L.ar x.rel.length L.cr::iv fv::iv (fi:Int)::.pointer (some ⟨br,orr+fi,none⟩)::.slice B1 b1.length e1::.pointer (some ⟨w.heap.size,0,none⟩)::.slice L.ar x.rel.length L.cr::.pointer (some ⟨w.heap.size+1,1,none⟩)::iv n::iv (ti:Int)::.pointer (some ⟨br,orr+ti,none⟩)::.slice B2 b2.length e2::undef::undef::undef::undef::undef::undef::undef::[]) (cbJ w3 16 17 18 19 20 21 22 (fun q:Option Addr×Nat=>patA p.from_ p.to_ p.old p.new_ p.size q.1 p.ops.length q.2) (patA 0 0 0 0 0 none 0 0) en (fun q b v=>Fresh b v (fun u=>PatIn u p q.1 q.2))) 197 (cbJ_start ((none,0):Option Addr×Nat)) ?_ ?_
 ·refine⟨?_,?_,?_,?_,?_,?_,?_,?_,?_,?_,?_,?_,?_,?_,?_,?_,?_,?_,?_,?_,?_,?_,?_,trivial⟩;all_goals intro done cv a wq hn hw hcl h hJ
  ·have e3:=fO 9 (iv fv) h;exact mx_move (ch_ev e3)
  ·exact x1ql
  ·have e4:=fN 1 54 h hw;exact x3tb
  ·have e2:=fO 2 (.pointer (some ⟨w.heap.size,0,none⟩)) h;go_simp
  ·have e3:=fN 3 56 h hw;exact x2op
  ·have e4:=fO 9 (iv fv) h;exact mx_move (ch_ev e4)
  ·have e3:=fN 5 58 h hw;have h_:=HWF.out;go_simp
  ·have e4:=fN 4 57 h hw;have e59:=fN 6 59 h hw;have h_:=HAR.out;have h2_:(fi:Int)<(x.rel.length:Int):=by omega
   have h3_:(x.rel.length:Int)<=(L.cr:Int):=by omega
   go_simp
  ·have e3:=fN 7 60 h hw;have hq_:=((cbJ_bel hJ).cell (p:=⟨br,orr+fi,none⟩) HBR.out).trans HC1.out;go_simp
  ·have e2:=fO 2 (.pointer (some ⟨w.heap.size,0,none⟩)) h;go_simp
  ·have e3:=fN 9 62 h hw;exact x2op
  ·exact x1ql
  ·have e4:=fN 11 64 h hw;exact x3tb
  ·have e3:=fN 12 65 h hw;have h_:=HWT.out;go_simp
  ·have e4:=fN 10 63 h hw;have e66:=fN 13 66 h hw;have h_:=HAR.out;have h2_:(ti:Int)<(x.rel.length:Int):=by omega
   have h3_:(x.rel.length:Int)<=(L.cr:Int):=by omega
   go_simp
  ·have e3:=fN 14 67 h hw;have hq_:=((cbJ_bel hJ).cell (p:=⟨br,orr+ti,none⟩) HBR.out).trans HC2.out;go_simp
  ·have e4:=fN 0 53 h hw;have e55:=fN 2 55 h hw;have e61:=fN 8 61 h hw;have e68:=fN 15 68 h hw;have n1:=hn;have n2:=nW 17 16 hcl n1;have n3:=nW 18 17 hcl n2;have n4:=nW 19 17 hcl n2;have n5:=nW 22 19 hcl n4;have n6:=nW 21 18 hcl n3;have hbq:=cbJ_bel hJ;refine wp_call (vals:=#[iv fv,iv n,.slice B1 b1.length e1,.slice B2 b2.length e2]) (by rw[List.map_toArray,List.map_cons,List.map_cons,List.map_cons,List.map_cons,List.map_nil,ch_ev e4,ch_ev e55,ch_ev e61,ch_ev e68]) (enters_of Tryz.func45 (by kernel_rfl) rfl _ _) (KM.out _ hbq) ?_;rintro e w' ⟨A1,c1,rfl,hfr,hbel⟩;exact⟨_,rfl,_,rfl,cbJ_c (by simp[maskB,n2]) (by simp[maskB,n3]) (by simp[maskB,n4]) (by simp[maskB,n5]) (by simp[maskB,n6]) (by decide) (by decide) (by decide) (by decide) (by decide) (by decide) hJ (x:=(A1,c1)) hfr hbel⟩
  ·have e3:=fr_cv (i:=16) (t:=69) h (hw 16 (by decide)) rfl rfl;have m1:=hw 16 (by decide);refine wp_val (v:=cv 16) (mx_move (ch_ev e3)) ⟨_,rfl,cbJ_k (by decide) (by decide) (by decide) hJ (fun x q _ _ _=>⟨fun _=>q (by simp[maskB,m1]),fun h=>absurd h (by decide),fun h=>absurd h (by decide),fun h=>absurd h (by decide)⟩)⟩
  ·have e4:=fr_cv (i:=17) (t:=52) h (hw 17 (by decide)) rfl rfl;have m1:=hw 17 (by decide);obtain⟨x,b_,gb_,w2_,hj_⟩:=hJ;have y:=hj_.v1 (by simp[maskB,m1]);rw[y]at e4;refine wp_val (v:=.agg ((fun q:Option Addr×Nat=>patA p.from_ p.to_ p.old p.new_ p.size q.1 p.ops.length q.2) x)) (by go_simp) ⟨_,rfl,cbJ_k (by decide) (by decide) (by decide) ⟨x,b_,gb_,w2_,hj_⟩ (fun x3 _ h8 _ _=>⟨fun h=>absurd h (by decide),fun _=>by have q9:=h8 (by simp[maskB,m1]);rw[y]at q9;simp at q9⊢;first|exact q9|exact q9.symm|trivial,fun h=>absurd h (by decide),fun h=>absurd h (by decide)⟩)⟩
  ·have e3:=fr_cv (i:=17) (t:=52) h (hw 17 (by decide)) rfl rfl;have m1:=hw 17 (by decide);obtain⟨x,b_,gb_,w2_,hj_⟩:=hJ;have y:=hj_.v1 (by simp[maskB,m1]);rw[y]at e3;refine wp_val (v:=iv en) (by go_simp) ⟨_,rfl,cbJ_k (by decide) (by decide) (by decide) ⟨x,b_,gb_,w2_,hj_⟩ (fun x3 _ h8 _ _=>⟨fun h=>absurd h (by decide),fun h=>absurd h (by decide),fun _=>rfl,fun h=>absurd h (by decide)⟩)⟩
  ·have n1:=hn;have n2:=nW 21 20 hcl n1;refine wp_alloc (zr:=patA 0 0 0 0 0 none 0 0) (fun ev=>by go_simp) ⟨_,rfl,cbJ_a (by go_simp) (by simp[maskB,n1]) (by simp[maskB,n2]) (by decide) (by decide) (by decide) (by decide) (by decide) (by decide) hJ⟩
  ·have e3:=fr_cv (i:=20) (t:=10) h (hw 20 (by decide)) rfl rfl;have e70:=fr_cv (i:=18) (t:=70) h (hw 18 (by decide)) rfl rfl;have n1:=hn;have m1:=hw 20 (by decide);have m2:=hw 18 (by decide);have m3:=hcl 18 _ rfl m2 17 (by decide);have m4:=hcl 17 _ rfl m3 16 (by decide);obtain⟨x,gb_,y1,y2,r_,f_,hJ1⟩:=cbJ_s (v:=undef) (by go_simp) (by simp[maskB,m4]) (by simp[maskB,n1]) (by simp[maskB,m1]) (by simp[maskB,m2]) (by decide) (by decide) (by decide) (by decide) (by decide) (by decide) hJ;rw[y1]at e3;rw[y2]at e70;refine wp_srow e3 e70 (by go_simp) (by go_simp) r_ (by go_simp) f_ (by go_simp) ⟨undef,rfl,?_⟩;rw[splice_all _ _ (by go_simp)];exact hJ1
  ·have e4:=fr_cv (i:=19) (t:=71) h (hw 19 (by decide)) rfl rfl;have m1:=hw 19 (by decide);obtain⟨x,b_,gb_,w2_,hj_⟩:=hJ;have y:=hj_.v3 (by simp[maskB,m1]);rw[y]at e4;refine wp_asg (v:=iv en) (ch_ev e4) ⟨_,rfl,cbJ_k (by decide) (by decide) (by decide) ⟨x,b_,gb_,w2_,hj_⟩ (fun x3 _ _ _ _=>⟨fun h=>absurd h (by decide),fun h=>absurd h (by decide),fun h=>absurd h (by decide),fun _=>rfl⟩)⟩
 intro dn cv w4 hall hJ;obtain⟨⟨A1,c1⟩,b3,gb,w2,y1,g1,g2,g3,g7,g8,rb,fb,hgb1,hgb2,hbel,hb1,hfr,hkp,hsz1,hap⟩:=cbJ_end (hall 16 rfl (by decide)) (hall 17 rfl (by decide)) (hall 18 rfl (by decide)) (hall 19 rfl (by decide)) (hall 22 rfl (by decide)) (hall 20 rfl (by decide)) (hall 21 rfl (by decide)) hJ;simp only[freeAll,pA,fA,Bool.false_eq_true,if_true,if_false,reduceIte,Nat.reduceAdd];rw[y1,g1,g2,g3,g7,g8];dsimp only at rb hfr;have hs3:=hbel.size;obtain⟨a0r,a0f,a0n,a0c,a0z,a0l⟩:=keep1 (g:=w.heap.size) (cs:=worA x L) hbel RW1.out.1 (by first|(go_simp;done)|simp[recA]) RW1.out.2;obtain⟨a1r,a1f,a1n,a1c,a1z,a1l⟩:=keep1 (g:=w.heap.size+1) (cs:=#[iv kd,iv n]) hbel RH1.out.1 (by first|(go_simp;done)|simp[recA]) RH1.out.2;obtain⟨a2r,a2f,a2n,a2c,a2z,a2l⟩:=keep1 (g:=w.heap.size+1+1) (cs:=worA Wor.zero WLoc.zero) hbel RZ1.out.1 (by first|(go_simp;done)|simp[recA]) RZ1.out.2;have HB3:=bT HB2 hbel;have HP1:Hid (PatIn w4 p A1 c1):=qH (Fresh.kp hfr hkp nl hsz1).now;clear hJ hall y1 g1 g2 g3 g7 g8 hfr hbel KM RW1 RH1 RZ1 hkp hap;by_cases c2:en≠0
 ·have hz:res=(Wor.zero,en):=HD1.out.trans (if_pos c2);subst hz;have q:(en !=0)=true:=by simp[c2]
  clear c2;go_wp2_with fail;refine(hapBad_calls en _).mono ?_;rintro e wz ⟨rfl,hb⟩;have z1:=kp (w.heap.size+1+1) (worA Wor.zero WLoc.zero) hb;have HBZ:=bU HB3 hb;exact x3rt
 have c2:=Decidable.not_not.1 c2;subst c2;have HD2:=qH (HD1.out.trans (if_neg (by simp)));clear HD1;dsimp only at HD2;have KC:=qH (refChunks_calls A1 c1 p w4 HP1.out);have hl3:=cut_100 p;have HBL:=qH (fun y (hy:y∈(chkCut p).1)=>cut_bound hy);generalize hct:chkCut p=ct at *
 obtain⟨l,e3⟩:=ct;clear hct;dsimp only at HD2 hl3 HBL KC;have q2:((0:Int) !=0)=false:=rfl;go_wp2_with fail;refine KC.out.mono ?_;rintro e w5 ⟨A2,c3,ds1,rfl,hrow,heach,hb⟩;obtain⟨a0r,a0f,a0n,a0c,a0z,a0l⟩:=keep1 (g:=w.heap.size) (cs:=worA x L) hb a0r (by first|(go_simp;done)|simp[recA]) a0f;obtain⟨a1r,a1f,a1n,a1c,a1z,a1l⟩:=keep1 (g:=w.heap.size+1) (cs:=#[iv kd,iv n]) hb a1r (by first|(go_simp;done)|simp[recA]) a1f;obtain⟨a2r,a2f,a2n,a2c,a2z,a2l⟩:=keep1 (g:=w.heap.size+1+1) (cs:=worA Wor.zero WLoc.zero) hb a2r (by first|(go_simp;done)|simp[recA]) a2f;have HB4:=bT HB3 hb;have hs4:=hb.size;have hcl:On (fun q=>S q∧q<w.heap.size∨w4.heap.size<=q) w5 (fun v=>Chs v A2 l):=fun v h1 h2=>(hrow.ex (fun k e=>h2 k (.inr (hrow.row.block k e).1) (hrow.row.block k e).2) (fun i o d h3 h4 hx k hk=>h2 k (.inr (heach i o d h3 h4 hx k hk)) (hrow.src.each i o d h3 h4 hx k hk))).src.chs HBL.out;have HCL:=qH hcl;clear hb hrow heach KC hcl;by_cases k4:e3≠0
 ·have hz:res=(Wor.zero,e3):=HD2.out.trans (if_pos k4);subst hz;have q:(e3 !=0)=true:=by simp[k4]
  have q':(e3==0)=false:=by simp[k4]
  clear k4;go_wp2_with fail;refine(hapBad_calls e3 _).mono ?_;rintro e wz ⟨rfl,hb⟩;have z1:=kp (w.heap.size+1+1) (worA Wor.zero WLoc.zero) hb;have HBZ:=bU HB4 hb;exact x3rt
 have k4:=Decidable.not_not.1 k4;subst k4;have HD1:=qH (HD2.out.trans (if_neg (by simp)));clear HD2;have hwr:IntKind.i64.wrap ((x.net.length:Int)+(l.length:Int))=(x.net.length:Int)+(l.length:Int):=IntWalk.i64_in _ (by omega);have q3:((0:Int)==0)=true:=rfl;have q4:((1:Int) !=0)=true:=rfl;by_cases k5:120<x.net.length+l.length
 ·have hz:res=(Wor.zero,1):=HD1.out.trans (if_pos k5);subst hz;have q:(120:Int)<(x.net.length:Int)+(l.length:Int):=by omega
  go_wp2_with fail;refine(hapBad_calls 1 _).mono ?_;rintro e wz ⟨rfl,hb⟩;have z1:=kp (w.heap.size+1+1) (worA Wor.zero WLoc.zero) hb;have HBZ:=bU HB4 hb;exact x3rt
 have hz:res=({x with net:=x.net++l},0):=HD1.out.trans (if_neg k5);subst hz;have q:¬(120:Int)<(x.net.length:Int)+(l.length:Int):=by omega
 have hnet:On (fun q=>S q∧q<w.heap.size∨w4.heap.size<=q) w5 (fun v=>Chs v L.an x.net):=((HX.out.imp fun v h=>h.net).sub fun k h1 h2=>.inl ⟨h2,h1⟩).below HB4.out;have hbb:Below w5.heap.size w5 (w5.alloc (.cells #[.slice L.an x.net.length L.cn,.slice A2 l.length c3] 33)):=bL _;have KK:=qH (chkConcat_calls (g:=w5.heap.size) (A:=L.an) (B:=A2) (c:=L.cn) (d:=c3) (w:=w5.alloc (.cells #[.slice L.an x.net.length L.cn,.slice A2 l.length c3] 33)) (blk_top rfl) (by omega) (hnet.below hbb) (HCL.out.below hbb));have HBW:=bT HB4 hbb;clear hnet hbb HCL HD1;go_wp2_with fail;refine KK.out.mono ?_;rintro e w6 ⟨A3,c4,rfl,hle1,hon1,hb2⟩;obtain⟨a0r,a0f,a0n,a0c,a0z,a0l⟩:=keep1 (g:=w.heap.size) (cs:=worA x L) hb2 (by first|(go_simp;done)|(go_simp;rfl)) (by first|(go_simp;done)|simp[recA]) (by go_simp);obtain⟨a2r,a2f,a2n,a2c,a2z,a2l⟩:=keep1 (g:=w.heap.size+1+1) (cs:=worA Wor.zero WLoc.zero) hb2 (by first|(go_simp;done)|(go_simp;rfl)) (by first|(go_simp;done)|simp[recA]) (by go_simp);have HB5:=bT HBW hb2;have hs5:=hb2.size;have hs7':w5.heap.size+1<=w6.heap.size:=by simpa using hs5
 have hnl1:(x.net++l).length=x.net.length+l.length:=List.length_append;have HO1:Hid (On (fun q=>S q∧q<w.heap.size∨(w.heap.size+3<=q∧q<w6.heap.size)) w6 (fun v=>WorIn v {x with net:=x.net++l} {L with an:=A3,cn:=c4})):=qH (((HX.out.sub fun k h1 h2=>.inl ⟨h2,h1⟩).below HB5.out).worNet hle1 (by omega) (hon1.sub fun k h1 h2=>by
  rcases h2 with ⟨h2|h2,_⟩|h2
  ·exact .inl h2
  ·exact .inr ⟨by omega,h1⟩
  exact .inr ⟨by have h3:w5.heap.size+1<=k:=(by simpa using h2);omega,h1⟩))
 clear hon1 hb2 KK;go_upto_region 17 with fail
 have hr1:rowOf (w6.setCell ⟨w.heap.size,38,none⟩ (.slice A3 (x.net++l).length c4)) w.heap.size=worA {x with net:=x.net++l} {L with an:=A3,cn:=c4}:=by rw[rowOf_setCell,if_pos rfl,a0r,worA_set_net]
 have hf1:frOf (w6.setCell ⟨w.heap.size,38,none⟩ (.slice A3 (x.net++l).length c4)) w.heap.size=(0,0):=by rw[frOf_setCell];exact a0f
 have hr2:rowOf (w6.setCell ⟨w.heap.size,38,none⟩ (.slice A3 (x.net++l).length c4)) (w.heap.size+1+1)=worA Wor.zero WLoc.zero:=by rw[rowOf_setCell,if_neg (by show ¬_=_;omega)];exact a2r
 have hf2:frOf (w6.setCell ⟨w.heap.size,38,none⟩ (.slice A3 (x.net++l).length c4)) (w.heap.size+1+1)=(0,0):=by rw[frOf_setCell];exact a2f
 have HB6:Hid (Below w.heap.size w (w6.setCell ⟨w.heap.size,38,none⟩ (.slice A3 (x.net++l).length c4))):=qH (HB5.out.setCell nl _);have HO2:Hid (On (fun q=>S q∧q<w.heap.size∨(w.heap.size+3<=q∧q<(w6.setCell ⟨w.heap.size,38,none⟩ (.slice A3 (x.net++l).length c4)).heap.size)) (w6.setCell ⟨w.heap.size,38,none⟩ (.slice A3 (x.net++l).length c4)) (fun v=>WorIn v {x with net:=x.net++l} {L with an:=A3,cn:=c4})):=qH (by
  rw[show (w6.setCell ⟨w.heap.size,38,none⟩ (.slice A3 (x.net++l).length c4)).heap.size=w6.heap.size by simp];exact HO1.out.cell2 (by rintro (h|h)<;>omega) _)
 have hs6:(w6.setCell ⟨w.heap.size,38,none⟩ (.slice A3 (x.net++l).length c4)).heap.size=w6.heap.size:=by simp
 clear a0r a0f a0n a0c a0z a0l a2r a2f a2n a2c a2z a2l HO1;try rw[<-hnl1]
 generalize (w6.setCell ⟨w.heap.size,38,none⟩ (.slice A3 (x.net++l).length c4))=w8 at *
 obtain⟨a0r,a0f,a0n,a0c,a0z,a0l⟩:=keep1 (g:=w.heap.size) (cs:=worA {x with net:=x.net++l} {L with an:=A3,cn:=c4}) (bW w8) hr1 (by first|(go_simp;done)|simp[recA]) hf1;obtain⟨a2r,a2f,a2n,a2c,a2z,a2l⟩:=keep1 (g:=w.heap.size+1+1) (cs:=worA Wor.zero WLoc.zero) (bW w8) hr2 (by first|(go_simp;done)|simp[recA]) hf2;generalize ({x with net:=x.net++l}:Wor)=x2 at *
 generalize ({L with an:=A3,cn:=c4}:WLoc)=L2 at *
 clear hr1 hf1 hr2 hf2;go_wp2_with fail;refine bodyPost_ret (rC (worA x2 L2)) rfl ⟨L2,rfl,?_,?_⟩
 ·have ho:On (fun q=>S q∧q<w.heap.size∨(w.heap.size+3<=q∧q<w8.heap.size)) w8 (fun v=>WorIn v x2 L2):=HO2.out;refine On.sub (S:=fun q=>S q∧q<w.heap.size∨(w.heap.size+3<=q∧q<w8.heap.size)) ?_ (fun q _ h=>h.elim .inl (fun h=>.inr (by omega)));exact x2ed
 exact bZ HB6
theorem refHap_calls(S:Nat->Prop)(x:Wor)(L:WLoc)(kd n:Int)(w:World)(hok:WorOk x)(hn:I64 n)(hx:On S w (fun v=>WorIn v x L))(hml:ML w):Calls Tryz.prog 13 #[.agg (worA x L),.agg #[iv kd,iv n]] w (HpRet S w (worHappen x kd n).1 (worHappen x kd n).2):=by
 unfold worHappen;by_cases k1:kd=1
 ·rw[if_pos k1];exact hap_send S x L kd n w hok hn hx hml k1
 rw[if_neg k1];by_cases k2:kd=2∨kd=3∨kd=4
 ·rw[if_pos k2];exact hap_hear S x L kd n w hok hn hx k2
 rw[if_neg k2];exact hap_dev S x L kd n w hok hn hx (by omega)
