/- Walks of functions, and plain words. No conditions. -/
import Derived.Test.YtefkfglkpebbmaaGreatP17
set_option linter.unusedVariables false
set_option linter.unusedSimpArgs false
set_option maxRecDepth 100000
set_option maxHeartbeats 40000000
namespace Go.Proofs.YtefkfglkpebbmaaGreat
open Go.RowKit
variable {Y:Prop}
variable {w0 w:World} {base n c:Nat} {A:OA} {xs ns:List Value} {cv:Nat->Value}
theorem x6il(h:Y:=by
 have k1:¬c=0:=by omega
 have k2:(i:Int)<=(c:Int):=by omega
 go_simp):Y:=h
theorem x9b5(h:Y:=by
 have fr:=ptJ_frame hJ;have hg1:=(fr.2 g hglt hgC).trans HG.out;have hc:wq.cell? ⟨g,2,none⟩=some (.slice D data.length dc):=by rw[cell_of_row _ _ _ _ _ _ hg1];rfl
 go_simp):Y:=h
def ptJ(w0:World)(base:Nat)(A:OA)(n c:Nat)(xs ns ps:List Value)(i5 i6 i9 i10:Nat)(done:Nat->Bool)(cv:Nat->Value)(w:World):Prop:=
 if done i9=true then (Below base w0 w∧∀k,k<w0.heap.size->A.map (·.block)≠some k->w.heap[k]?=w0.heap[k]?)∧∃A2 c2,cv i9=.slice A2 (n+2+ps.length) c2∧Own w base 5 1 A2 (n+2+ps.length) c2 (xs++ns++ps)∧(done i10=true->cv i10=.slice A2 (n+2+ps.length) c2)
 else if done i6=true then (Below base w0 w∧∀k,k<w0.heap.size->A.map (·.block)≠some k->w.heap[k]?=w0.heap[k]?)∧∃A1 c1,cv i6=.slice A1 (n+2) c1∧Own w base 5 1 A1 (n+2) c1 (xs++ns)∧(A1.map (·.block)=A.map (·.block)∨∀k,A1.map (·.block)=some k->w0.heap.size<=k)
 else if done i5=true then (Below base w0 w∧∀k,k<w0.heap.size->A.map (·.block)≠some k->w.heap[k]?=w0.heap[k]?)∧Own w base 5 1 A n c xs∧∃bb,cv i5=.slice (some ⟨bb,0,none⟩) 2 2∧w.heap[bb]?=some (.cells ns.toArray 5 (0,0))∧w0.heap.size<=bb
 else w=w0.drew
theorem ptJ_frame{i5 i6 i9 i10:Nat}{ps:List Value}{done:Nat->Bool}(h:ptJ w0 base A n c xs ns ps i5 i6 i9 i10 done cv w):Below base w0 w∧∀k,k<w0.heap.size->A.map (·.block)≠some k->w.heap[k]?=w0.heap[k]?:=by
 unfold ptJ at h;split at h
 ·exact h.1
 split at h
 ·exact h.1
 split at h
 ·exact h.1
 subst h;exact⟨(Below.refl _ _).drew,fun _ _ _=>rfl⟩
theorem wp_sb2i{a:Act}{K:Act->World->Prop}{Q:Exit->Act->World->Prop}{t:TypeId}{p:String}{af:Array Edge}{gd:Option (Nat×Bool)}{d r:Tmp}{m:Int}(hr:a.tmps[r]?=some (.int .u8 m))
  (h:K (a.put (some d) (.slice (some ⟨w.heap.size,0,none⟩) 2 2)) (w.alloc (.cells #[.int .u8 255,.int .u8 m] 5))):
  Oper.wp Tryz.prog ⟨some d,.buildSlice 23 2 #[(0,.const (.int .u8 255)),(1,.tmp r)],t,p,af,gd⟩ a w K Q:=by
 have e1:a.eval (.const (.int .u8 255))=.int .u8 255:=rfl;have e2:a.eval (.tmp r)=.int .u8 m:=by simp[Act.eval,hr]
 exact x9nx
theorem bts_same{w':World}{l:LU}(h:Bts w A l)(hk:∀k,A.map (·.block)=some k->k<w.heap.size->w'.heap[k]?=w.heap[k]?):Bts w' A l:=by
 intro i hi;obtain⟨b,o,rfl,hlt,hc⟩:=h i hi;have e:=hk b rfl hlt;refine⟨b,o,rfl,?_,(World.cell?_of_block e).trans hc⟩;rcases Nat.lt_or_ge b w'.heap.size with h|h
 ·exact h
 rw[Array.getElem?_eq_none h,Array.getElem?_eq_getElem hlt]at e;cases e
theorem own_blk{e g:Nat}{cs:List Value}(h:w.heap[g]?=some (.cells cs.toArray e (0,0)))(hb:base<=g)(hl:cs.length=n)(hn:n<=140737488351232):Own w base e 1 (some ⟨g,0,none⟩) n n cs:=
 ⟨by omega,Or.inr ⟨g,n,_,rfl,hb,h,nl,by unfold maxLen;omega,by simp;omega,by simp[<-hl]⟩⟩
theorem patPut_bad(B:OA)(d:Nat)(p:Pat)(w:World)(hp:PatIn w p B d)(h:patCheck p≠0):
  Calls Tryz.prog 123 #[.agg (patA p.from_ p.to_ p.old p.new_ p.size B p.ops.length d)] w (RetB w (.tuple #[.slice none 0 0,iv (patCheck p)])):=by
 obtain⟨f,t,o,n,sz,l⟩:=p;obtain⟨hcap,hlen,hops,-,-,-,-,-⟩:=hp;dsimp only at *
 have hba:=(bW w).alloc nl (.cells (patA f t o n sz B l.length d) 36);have K1:=qH (patCheck_calls B d f t o n sz l _ hlen (hops.stays hba));generalize patCheck ⟨f,t,o,n,sz,l⟩=ck at *
 have q:(ck !=0)=true:=by simp[h]
 clear hops h;go_enter Tryz.func123,Tryz.ntmps123;exact x5t4
theorem patPut_ok(B:OA)(d:Nat)(p:Pat)(w:World)(hp:PatIn w p B d)(h:patCheck p=0):
  Calls Tryz.prog 123 #[.agg (patA p.from_ p.to_ p.old p.new_ p.size B p.ops.length d)] w (UnRet w (patBytes p,0)):=by
 have hl1:=patBytes_len h;obtain⟨hr,hd⟩:=patCheck_ok.1 h;have HPB:Hid (patBytes p=patHead p++opsBytes p.ops):=qH rfl;obtain⟨f,t,o,n,sz,l⟩:=p;obtain⟨hcap,hlen,hops,-,-,-,-,-⟩:=hp;unfold Pat.range at hr;dsimp only at *
 obtain⟨r1,r2,r3,r4,r5,r6,r7,r8⟩:=hr;have r1:=hd.s0;have r1:=hd.s1;have r1:=hd.many;have hba:=(bW w).alloc nl (.cells (patA f t o n sz B l.length d) 36);have K1:=qH (patCheck_calls B d f t o n sz l _ hlen (hops.stays hba));rw[h]at K1;have HD:=qH hd;have HS:=qH hops;have HBA:=qH hba;clear hops hd h hba;go_enter Tryz.func123,Tryz.ntmps123;go_wp2_with fail;refine K1.out.mono ?_;rintro e w1 ⟨rfl,hb1⟩;have a1:=kp (w.heap.size) (patA f t o n sz B l.length d) hb1;have HB1:=bT HBA hb1;clear hb1 K1;go_wp2_with fail;generalize hbase:w.heap.size=base at *
 have HBE:=qH hbase;have hsw1:=HB1.out.size;have hlw1:base<=w1.heap.size:=by omega
 have hhd:((patHead ⟨f,t,o,n,sz,l⟩).map bv)=[.int .u8 f,.int .u8 t,.int .u8 (o / 256),.int .u8 (o%256),.int .u8 (n / 256),.int .u8 (n%256),.int .u8 sz,.int .u8 (l.length:Int)]:=by
  unfold patHead;simp only[List.map_cons,List.map_nil];rw[bv_by f (by omega),bv_by t (by omega),bv_by (o / 256) (by omega),bv_by2 o,bv_by (n / 256) (by omega),bv_by2 n,bv_by sz (by omega),bv_by (l.length:Int) (by omega)]
 have hot:=own_blk (w:=w1.alloc (.cells #[.int .u8 f,.int .u8 t,.int .u8 (o / 256),.int .u8 (o%256),.int .u8 (n / 256),.int .u8 (n%256),.int .u8 sz,.int .u8 (l.length:Int)] 5)) (base:=base) (g:=w1.heap.size) (n:=8) (cs:=[.int .u8 f,.int .u8 t,.int .u8 (o / 256),.int .u8 (o%256),.int .u8 (n / 256),.int .u8 (n%256),.int .u8 sz,.int .u8 (l.length:Int)]) (blk_top rfl) hlw1 rfl (by decide);have hot1:=hot;have HOT:Hid (Own (w1.alloc (.cells #[.int .u8 f,.int .u8 t,.int .u8 (o / 256),.int .u8 (o%256),.int .u8 (n / 256),.int .u8 (n%256),.int .u8 sz,.int .u8 (l.length:Int)] 5)) base 5 1 (some ⟨w1.heap.size,0,none⟩) 8 8 ((patHead ⟨f,t,o,n,sz,l⟩).map bv)):=qH (by rw[hhd];exact hot1);have HB2:Hid (Below base w (w1.alloc (.cells #[.int .u8 f,.int .u8 t,.int .u8 (o / 256),.int .u8 (o%256),.int .u8 (n / 256),.int .u8 (n%256),.int .u8 sz,.int .u8 (l.length:Int)] 5))):=qH (HB1.out.alloc hlw1 _);clear hhd hot hot1 a1;have hph1:(patHead ⟨f,t,o,n,sz,l⟩).length=8:=rfl;have HP1:=qH hph1;clear hph1;generalize patHead ⟨f,t,o,n,sz,l⟩=hd at *
 generalize patBytes ⟨f,t,o,n,sz,l⟩=pb at *
 go_loopw [5,44] (fun v i wr=>∃(k:Nat) (C:OA) (cc:Nat) (pre:LU),k<=l.length∧i=iv k∧v=.slice C pre.length cc∧Hid (pre=hd++opsBytes (l.take k))∧Hid (Own wr base 5 1 C pre.length cc (pre.map bv))∧Hid (Below base w wr)) (fun _ i _=>l.length-(intOf i).toNat)
 case atStart=>exact⟨0,_,8,hd,Nat.zero_le _,rfl,by rw[HP1.out],qH (by simp[opsBytes]),by rw[HP1.out];exact HOT,HB2⟩
 case round=>
  clear HOT HB2 HB1 HBA;rename World=>wz;obtain⟨k,C,cc,pre,hk,rfl,rfl,HPRE,HO1,HB1⟩:=hrel;have hbz:base<=wz.heap.size:=Nat.le_trans (Nat.le_of_eq HBE.out.symm) HB1.out.size;have hpl:pre.length+(opsBytes (l.drop k)).length=pb.length:=by
   exact x9ll
  by_cases hlt:k<l.length
  ·have hxo:=HD.out.each l[k] (List.getElem_mem hlt);have hbw:Below w.heap.size w wz:=HBE.out▸HB1.out;obtain⟨sb,so,D,dc,rfl,hsb,q3,q1,q2,p3,p4,p5,-,-⟩:=HS.out.at_ hlt;have p6:=(hbw.cell (p:=⟨sb,so+k*3,none⟩) hsb).trans q3;have p1:=(hbw.cell (p:=⟨sb,so+k*3+1,none⟩) hsb).trans q1;have p2:=(hbw.cell (p:=⟨sb,so+k*3+2,none⟩) hsb).trans q2;clear q3 q1 q2;have hpre1:hd++opsBytes (l.take (k+1))=pre++stpBytes l[k]:=by rw[List.take_succ_eq_append_getElem hlt,opsBytes_append,opsBytes_one,<-List.append_assoc,<-HPRE.out]
   have hdrop:l.drop k=l[k]::l.drop (k+1):=List.drop_eq_getElem_cons hlt;rw[hdrop,opsBytes_cons,List.length_append]at hpl;obtain⟨x,hx⟩:=eX (l[k]);rw[hx]at hxo hpre1 hpl p6 p1 p2 p3 p4 p5;clear hx hdrop;obtain⟨at_,len,data⟩:=x;obtain⟨hform,hin⟩:=hxo;unfold Stp.in_ at hin;dsimp only at *
   obtain⟨j1,j2,j3⟩:=hin;have HDT1:=qH (p5.stays hbw);have HDW:=qH p5;clear hbw;have HPRE1:=qH hpre1;have dl:decide ((k:Int)<(l.length:Int))=true:=decide_eq_true (by omega);have hwk:IntKind.i64.wrap ((k:Int)+1)=(k:Int)+1:=IntWalk.i64_in _ (by omega);clear p5 hpre1;by_cases hl1:0<len
   ·have hst:stpBytes ⟨at_,len,data⟩=[by_ at_,by_ len]:=by unfold stpBytes;rw[if_pos hl1]
    rw[hst]at HPRE1 hpl;have hj1:at_<=64:=by omega
    have hj1:len<=64:=by omega
    have HBV:Hid (([by_ at_,by_ len]:List UInt8).map bv=[.int .u8 at_,.int .u8 len]):=qH (by simp only[List.map_cons,List.map_nil];rw[bv_by at_ (by omega),bv_by len (by omega)]);have hoa:=(HO1.out.alloc (.cells #[iv at_,iv len,.slice D data.length dc] 143)).alloc (.cells #[.int .u8 at_,.int .u8 len] 5);have hs1:Src ((wz.alloc (.cells #[iv at_,iv len,.slice D data.length dc] 143)).alloc (.cells #[.int .u8 at_,.int .u8 len] 5)) (some ⟨wz.heap.size+1,0,none⟩) [.int .u8 at_,.int .u8 len]:=src_blk (blk_top (by simp));have hob:pre.length+2<=137438953472:=by omega
    have hle:base<=((wz.alloc (.cells #[iv at_,iv len,.slice D data.length dc] 143)).alloc (.cells #[.int .u8 at_,.int .u8 len] 5)).heap.size:=by simp;omega
    clear hst hform hpl;go_wp2_with (at_builtin;go_must (refine wpList_app ((wz.alloc (.cells #[iv at_,iv len,.slice D data.length dc] 143)).alloc (.cells #[.int .u8 at_,.int .u8 len] 5)) rfl _ _ 23 rfl elBytes base C pre.length cc (pre.map bv) rfl hoa (some ⟨wz.heap.size+1,0,none⟩) 2 2 [.int .u8 at_,.int .u8 len] rfl hs1 rfl (by simp[Value.oneCell']) hob hle ?_;intro C1 c1 w2 hown hgr hbel hor));have HB1:Hid (Below base w w2):=qH (((HB1.out.alloc hbz _).alloc (by simp;omega) _).trans hbel);have HL:Hid (pre.length+2=(pre++[by_ at_,by_ len]).length):=qH (by simp);have HO1:Hid (Own w2 base 5 1 C1 (pre++[by_ at_,by_ len]).length c1 ((pre++[by_ at_,by_ len]).map bv)):=qH (by rw[List.map_append,HBV.out,<-HL.out];exact hown);clear hown hgr hbel hor hoa hs1 hob hle;go_roundw
    case rel=>exact⟨k+1,C1,c1,pre++[by_ at_,by_ len],by omega,by go_num,by rw[HL.out],qH HPRE1.out.symm,HO1,HB1⟩
    case measure=>simp[intOf];omega
   obtain rfl:len=0:=by omega
   obtain⟨rfl,hd1,hd2⟩:=hform.1 rfl;have hst:stpBytes ⟨0,0,data⟩=255::by_ data.length::data:=by unfold stpBytes;rw[if_neg (by simp)]
   rw[hst]at HPRE1 hpl;simp only[List.length_cons]at hpl;have hdl:data.length<=64:=hd2;have HU1:Hid (IntKind.u8.wrap (data.length:Int)=(data.length:Int)):=qH (by unfold IntKind.wrap;simp[IntKind.signed,IntKind.bits];omega);have HBV:Hid ((255::by_ data.length::data:LU).map bv=[.int .u8 255,.int .u8 (data.length:Int)]++data.map bv):=qH (by simp only[List.map_cons];rw[bv_by (data.length:Int) (by omega)];rfl);have HG:Hid ((wz.alloc (.cells #[iv 0,iv 0,.slice D data.length dc] 143)).heap[wz.heap.size]?=some (.cells #[iv 0,iv 0,.slice D data.length dc] 143 (0,0))):=qH (blk_top rfl);have HO:Hid (Own (wz.alloc (.cells #[iv 0,iv 0,.slice D data.length dc] 143)) base 5 1 C pre.length cc (pre.map bv)):=qH (HO1.out.alloc _);have HBo:Hid (Below base w (wz.alloc (.cells #[iv 0,iv 0,.slice D data.length dc] 143))):=qH (HB1.out.alloc hbz _);have HDT:Hid (Bts (wz.alloc (.cells #[iv 0,iv 0,.slice D data.length dc] 143)) D data):=qH (HDT1.out.stays (bL _));have hgC:C.map (·.block)≠some wz.heap.size:=fun e=>by have:=(HO1.out.block _ e).2;omega
   have hglt:wz.heap.size<(wz.alloc (.cells #[iv 0,iv 0,.slice D data.length dc] 143)).heap.size:=by simp
   have hbo:base<=(wz.alloc (.cells #[iv 0,iv 0,.slice D data.length dc] 143)).heap.size:=by simp;omega
   have HDC:Hid (∀k,D.map (·.block)=some k->C.map (·.block)≠some k):=qH (by
    intro q hq e;have h1:=(HO1.out.block q e).1;obtain⟨b',o',e1,h1,_⟩:=HDW.out 0 (List.length_pos_iff.2 hd1);rw[e1]at hq;have hq:b'=q:=by simpa using hq
    have:=HBE.out;omega)
   clear hst hform hd1;go_wp2_with fail;clear p6 p1 p2 dl;generalize hwo:wz.alloc (.cells #[iv 0,iv 0,.slice D data.length dc] 143)=wo at *
   generalize wz.heap.size=g at *
   refine wp_region_free (by kernel_rfl) (some 60::some 61::some 62::some 63::some 64::some 65::some 66::some 67::some 68::some 69::some 5::[]) (false::false::false::false::false::true::true::false::false::true::true::[]) (.slice C pre.length cc::.pointer (some ⟨g,2,none⟩)::.slice D data.length dc::iv (data.length:Int)::.int .u8 (data.length:Int)::undef::undef::.pointer (some ⟨g,2,none⟩)::.slice D data.length dc::undef::undef::[]) (ptJ wo base C pre.length cc (pre.map bv) [.int .u8 255,.int .u8 (data.length:Int)] (data.map bv) 5 6 9 10) 75 rfl rfl (by decide+kernel) (by decide+kernel) (by decide+kernel) rfl rfl (by rw[ptJ,if_neg (by simp),if_neg (by simp),if_neg (by simp)]) ?_ ?_
   ·refine⟨?_,?_,?_,?_,?_,?_,?_,?_,?_,?_,?_,trivial⟩;all_goals intro done cv a wq hn hw hcl h hJ
    ·have e1:=fr_un (t:=5) (i:=0) (i0:=10) (v:=.slice C pre.length cc) h hcl hn rfl (by decide) (by decide) rfl;exact mx_move (ch_ev e1)
    ·have e1:=fO 7 (.pointer (some ⟨g,0,none⟩)) h;go_simp
    ·have e1:=fN 1 61 h hw;exact x9b5
    ·have e1:=fN 2 62 h hw;go_simp
    ·have e1:=fN 3 63 h hw;have hu:=HU1.out;go_simp
    ·have e1:=fN 4 64 h hw;have hd1:¬maskB [false,false,false,false,false,true,true,false,false,true,true] done 6=true:=by unfold maskB;rw[show done 6=false from Bool.eq_false_iff.2 (fun e=>by have:=hcl 6 _ rfl e 5 (by decide);rw[hn]at this;cases this)];simp
     have hd2:¬maskB [false,false,false,false,false,true,true,false,false,true,true] done 9=true:=by unfold maskB;rw[show done 9=false from Bool.eq_false_iff.2 (fun e=>hd1 (by unfold maskB;rw[hcl 9 _ rfl e 6 (by decide)];rfl))];simp
     have hd3:¬maskB [false,false,false,false,false,true,true,false,false,true,true] done 5=true:=by unfold maskB;rw[hn];simp
     rw[ptJ,if_neg hd2,if_neg hd1,if_neg hd3]at hJ;obtain rfl:wq=wo.drew:=hJ;refine wp_sb2i e1 ⟨_,rfl,?_⟩;rw[ptJ,if_neg (by simp;simpa using hd2),if_neg (by simp;simpa using hd1),if_pos (by simp)];exact⟨⟨(Below.refl _ _).drew.alloc (by simpa using hbo) _,fun k hk hne=>Below.heap_alloc wo.drew _ k hk⟩,HO.out.drew.alloc _,wo.heap.size,by simp,blk_top (by simp),nl⟩
    ·have e1:=fN 0 60 h hw;have e65:=fr_cv (i:=5) (t:=65) h (hw 5 (by decide)) rfl rfl;have hd1:¬maskB [false,false,false,false,false,true,true,false,false,true,true] done 9=true:=by unfold maskB;rw[show done 9=false from Bool.eq_false_iff.2 (fun e=>by have:=hcl 9 _ rfl e 6 (by decide);rw[hn]at this;cases this)];simp
     have hd2:¬maskB [false,false,false,false,false,true,true,false,false,true,true] done 6=true:=by unfold maskB;rw[hn];simp
     have hd3:maskB [false,false,false,false,false,true,true,false,false,true,true] done 5=true:=by unfold maskB;rw[hw 5 (by decide)];rfl
     rw[ptJ,if_neg hd1,if_neg hd2,if_pos hd3]at hJ;obtain⟨⟨f1,f2⟩,ho,bb,y1,y2,y3⟩:=hJ;rw[y1]at e65;refine wp_app wq (.tmp 60) (.tmp 65) 23 rfl elBytes base C pre.length cc (pre.map bv) (ch_ev e1) ho (some ⟨bb,0,none⟩) 2 2 [.int .u8 255,.int .u8 (data.length:Int)] (ch_ev e65) (src_blk y2) rfl (by simp[Value.oneCell']) (by omega) (Nat.le_trans hbo f1.size) ?_;intro A' c' w' hown hgr hbel hor;refine⟨_,rfl,?_⟩;rw[ptJ,if_neg (by simp;simpa using hd1),if_pos (by simp)];refine⟨⟨f1.trans hbel,fun k hk hne=>(hgr.block k (Nat.lt_of_lt_of_le hk f1.size) (fun e=>hne e.symm)).trans (f2 k hk hne)⟩,A',c',by simp,hown,?_⟩;rcases hor with h|h
     ·exact .inl h
     exact .inr (fun k hk=>by rw[h]at hk;injection hk with hk;have:=f1.size;omega)
    ·have e1:=fO 7 (.pointer (some ⟨g,0,none⟩)) h;go_simp
    ·have e1:=fN 7 67 h hw;exact x9b5
    ·have e1:=fr_cv (i:=6) (t:=66) h (hw 6 (by decide)) rfl rfl;have e68:=fN 8 68 h hw;have hd1:maskB [false,false,false,false,false,true,true,false,false,true,true] done 6=true:=by unfold maskB;rw[hw 6 (by decide)];rfl
     have hd2:¬maskB [false,false,false,false,false,true,true,false,false,true,true] done 9=true:=by unfold maskB;rw[hn];simp
     rw[ptJ,if_neg hd2,if_pos hd1]at hJ;obtain⟨⟨f1,f2⟩,A1,c1,y1,ho,hor1⟩:=hJ;rw[y1]at e1;have hsrc:Src wq D (data.map bv):=(bts_same HDT.out (fun k hk hlt=>f2 k hlt (fun e=>HDC.out k hk e))).src;refine wp_app wq (.tmp 66) (.tmp 68) 23 rfl elBytes base A1 (pre.length+2) c1 (pre.map bv++[.int .u8 255,.int .u8 (data.length:Int)]) (ch_ev e1) ho D data.length dc (data.map bv) (ch_ev e68) hsrc (by simp) (bv_one _) (by omega) (Nat.le_trans hbo f1.size) ?_;intro A' c' w' hown hgr hbel hor;refine⟨_,rfl,?_⟩;rw[ptJ,if_pos (by simp)];refine⟨⟨f1.trans hbel,fun k hk hne=>(hgr.block k (Nat.lt_of_lt_of_le hk f1.size) (fun e=>?_)).trans (f2 k hk hne)⟩,A',c',by simp,by rw[List.length_map];exact hown,fun e=>?_⟩
     ·rcases hor1 with h|h
      ·exact hne (h.symm.trans e.symm)
      ·have:=h k e.symm;omega
     exfalso;have e1:done 10=true:=by simpa[maskB]using e
     have:=hcl 10 _ rfl e1 9 (by decide);rw[hn]at this;cases this
    ·have e1:=fr_cv (i:=9) (t:=69) h (hw 9 (by decide)) rfl rfl;have hd1:maskB [false,false,false,false,false,true,true,false,false,true,true] done 9=true:=by unfold maskB;rw[hw 9 (by decide)];rfl
     rw[ptJ,if_pos hd1]at hJ;obtain⟨fr,A1,c1,y1,ho,_⟩:=hJ;rw[y1]at e1;refine wp_asg (ch_ev e1) ⟨_,rfl,?_⟩;rw[ptJ,if_pos (by simp;simpa using hd1)];exact⟨fr,A1,c1,by simpa using y1,ho,fun _=>by simp⟩
   intro d cv w1 hall hJ;rw[ptJ,if_pos (hall 9 rfl (by decide))]at hJ;obtain⟨⟨f1,f2⟩,A1,c1,y1,ho,y2⟩:=hJ;have y3:=y2 (hall 10 rfl (by decide));have HB1:Hid (Below base w w1):=qH (HBo.out.trans f1);have HL:Hid (pre.length+2+(data.map bv).length=(pre++(255::by_ data.length::data)).length):=qH (by simp;omega);have HO1:Hid (Own w1 base 5 1 A1 (pre++(255::by_ data.length::data)).length c1 ((pre++(255::by_ data.length::data)).map bv)):=qH (by rw[List.map_append,HBV.out,<-HL.out,<-List.append_assoc];exact ho);clear f1 f2 ho y2;simp only[freeAll,putAll_some,putAll_none,putAll_nil,List.getD_cons_zero,List.getD_cons_succ,Bool.false_eq_true,if_true,if_false,reduceIte,Nat.zero_add,Nat.reduceAdd,List.setIfInBounds_toArray,List.set_cons_zero,List.set_cons_succ];rw[y3,HL.out];clear y1 y3;go_wp2_with fail;go_roundw
   case rel=>exact⟨k+1,A1,c1,pre++(255::by_ data.length::data),by omega,by go_num,rfl,qH HPRE1.out.symm,HO1,HB1⟩
   case measure=>simp[intOf];omega
  obtain rfl:k=l.length:=by omega
  have dl:decide ((l.length:Int)<(l.length:Int))=false:=by simp
  have hpre:pre=pb:=by rw[HPB.out,HPRE.out,List.take_length]
  subst hpre;have d1:decide ((400:Int)<(pre.length:Int))=false:=decide_eq_false (by omega);clear hpl;go_wp2_with fail;go_ret2;exact⟨C,cc,rfl,HBE.out▸HO1.out,HBE.out▸HB1.out⟩
theorem x1bo(h:Y:=by
 intro A' c' w' hown hgr hbel hor;exact⟨_,rfl,bxJ_app hown hgr hbel hor hle⟩):Y:=h
theorem x1ql(h:Y:=by
 have e3:=fO 3 (.pointer (some ⟨w.heap.size+1,0,none⟩)) h;go_simp):Y:=h
theorem x21e(h:Y:=by
 go_wp2_with fail;go_quiet (fail)
 go_wp2_with fail;go_roundw
 case rel=>exact⟨m+1,_,by go_num,by omega,by omega,rfl⟩
 case measure=>simp[intOf];omega):Y:=h
theorem x2op(h:Y:=by
 obtain⟨r_,f_,n_,c_,z_,l_⟩:=keep1 (cbJ_bel hJ) RW1.out.1 (by go_simp) RW1.out.2;go_simp):Y:=h
theorem x3tb(h:Y:=by
 obtain⟨r_,f_,n_,c_,z_,l_⟩:=keep1 (cbJ_bel hJ) RH1.out.1 (by simp) RH1.out.2;go_simp):Y:=h
theorem x531(h:Y:=by
 go_wp2_with fail;have hba:=(bW w).alloc nl (.cells (patA p.from_ p.to_ p.old p.new_ p.size B p.ops.length d) 36);refine(K1.out _ (HP.out.stays hba)).mono ?_;rintro e w1 ⟨rfl,hb1⟩;have HB1:=qH (hba.trans (hb1.mono (by simp)));clear hb1;go_wp2_with fail;go_ret2;exact⟨none,0,[],rfl,GRow.nil _ _,Each.nil,HB1.out⟩):Y:=h
theorem x859(h:Y:=by
 obtain rfl:wq=wx.drew:=hJ;exact wp_sb1 e1 ⟨_,rfl,rfl,by simp⟩):Y:=h
theorem x87r(h:Y:=by
 obtain rfl:k1=0:=by omega
 obtain rfl:wq=wx.drew:=hJ;have hx:=HXC.out;go_simp):Y:=h
def bxJ(w0:World)(base:Nat)(A:OA)(n c:Nat)(xs ns:List Value)(ib ia:Nat)(F:World->Prop):Nat->(Nat->Value)->World->Prop
 |0,_,w=>w=w0.drew
 |1,cv,w=>w=w0.drew.alloc (.cells ns.toArray 5)∧cv ib=.slice (some ⟨w0.heap.size,0,none⟩) ns.length ns.length
 |2,cv,w=>∃A' c',cv ia=.slice A' (n+ns.length) c'∧Own w base 5 1 A' (n+ns.length) c' (xs++ns)∧Below base w0 w∧(∀k,k<w0.heap.size->A.map (·.block)≠some k->w.heap[k]?=w0.heap[k]?)∧(A'.map (·.block)=A.map (·.block)∨∀k,A'.map (·.block)=some k->w0.heap.size<=k)
 |_,_,w=>F w
theorem bxJ_box{g:Nat}{ib ia k:Nat}{F:World->Prop}{T:TypeId}{v:Value}(hk:k<=1)(hJ:bxJ w0 base A n c xs ns ib ia F k cv w)(h:Box w0 g T v):Box w g T v:=by
 match k,hk,hJ with
 |0,_,hJ=>obtain rfl:w=w0.drew:=hJ;exact h
 |1,_,⟨hJ,_⟩=>subst hJ;exact h.drew.alloc _
theorem bxJ_app{w':World}{A':OA}{c':Nat}{ib ia:Nat}{F:World->Prop}(hown:Own w' base 5 1 A' (n+ns.length) c' (xs++ns))(hgr:(w0.drew.alloc (.cells ns.toArray 5)).grownBy w' (A.map (·.block)))(hbel:Below base (w0.drew.alloc (.cells ns.toArray 5)) w')
  (hor:A'.map (·.block)=A.map (·.block)∨A'.map (·.block)=some (w0.drew.alloc (.cells ns.toArray 5)).heap.size) (hle:base<=w0.heap.size):
  bxJ w0 base A n c xs ns ib ia F 2 (fun j=>if j=ia then .slice A' (n+ns.length) c' else cv j) w':=by
 have hb1:Below base w0 (w0.drew.alloc (.cells ns.toArray 5)):=((Below.refl _ _).drew).alloc hle _;exact x5lc
theorem alike_stop{b:LU}{k:Nat}(hk:k<b.length):1<=alike (b.drop k)∧alike (b.drop k)<=127∧k+alike (b.drop k)<=b.length∧(∀m,m<alike (b.drop k)->b[k+m]?=some b[k])∧
  (alike (b.drop k)=127∨(alike (b.drop k)<127∧k+alike (b.drop k)=b.length)∨(alike (b.drop k)<127∧∃h:k+alike (b.drop k)<b.length,b[k+alike (b.drop k)]≠b[k])):=by
 have e:b.drop k=b[k]::b.drop (k+1):=List.drop_eq_getElem_cons hk;have hle:=alike_le (b.drop k);rw[List.length_drop]at hle;have ea:alike (b.drop k)=cntEq b[k] (b.drop (k+1)) 126+1:=by rw[e];rfl
 have hat:=cntEq_at b[k] (b.drop (k+1)) 126;have hst:=cntEq_stop b[k] (b.drop (k+1)) 126;refine⟨by omega,hle.1,by omega,fun m hm=>?_,?_⟩
 ·rcases m with _|m
  ·simp[hk]
  ·have:=(hat m (by omega)).2;rw[List.getElem?_drop]at this;rw[show k+(m+1)=k+1+m by omega];exact this
 by_cases h1:alike (b.drop k)=127
 ·exact .inl h1
 by_cases h1:k+alike (b.drop k)=b.length
 ·exact .inr (.inl ⟨by omega,h1⟩)
 refine .inr (.inr ⟨by omega,by omega,fun e2=>?_⟩);have:=hst (by omega);rw[List.getElem?_drop,show k+1+cntEq b[k] (b.drop (k+1)) 126=k+alike (b.drop k) by omega,List.getElem?_eq_getElem (by omega),e2]at this;exact this rfl
end Go.Proofs.YtefkfglkpebbmaaGreat
