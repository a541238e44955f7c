/- Walks of functions, and plain words. No conditions. -/
import Derived.Test.YtefkfglkpebbmacGreatP2
import Derived.Test.YtefkfglkpebbmacGreatP3
set_option linter.unusedVariables false
set_option linter.unusedSimpArgs false
set_option maxRecDepth 100000
set_option maxHeartbeats 40000000
namespace Go.Proofs.YtefkfglkpebbmacGreat
open Go.RowKit
variable {Y:Prop}
variable {l:LU}
theorem refPatCheckR_calls(A:OA)(c:Nat)(f t o n sz:Int)(l:List Stp)(w:World)(hl:l.length<=3518437208780)(hs:Sps w A l):
  Calls Tryz.prog 65 #[.agg (patA f t o n sz A l.length c)] w (RetB w (iv (patCheck ⟨f,t,o,n,sz,l⟩))):=refPatCheckA_calls A c f t o n sz l w hl hs
theorem u8wrap(n:Int):IntKind.u8.wrap n=n%256:=by unfold IntKind.wrap;simp[IntKind.signed,IntKind.bits]
theorem bv_by3(n:Int):bv (by_ n)=.int .u8 (IntKind.u8.wrap n):=by rw[u8wrap];exact bv_by2 n
theorem refPatPut_bad(B:OA)(d:Nat)(p:Pat)(w:World)(hp:PatIn w p B d)(h:patCheck p≠0):
  Calls Tryz.prog 68 #[.agg (patA p.from_ p.to_ p.old p.new_ p.size B p.ops.length d)] w (RetB w (.tuple #[.slice none 0 0,iv (patCheck p)])):=by
 obtain⟨f,t,o,n,sz,l⟩:=p;obtain⟨hcap,hlen,hops,-,-,-,-,-⟩:=hp;dsimp only at *
 have hba:=(bW w).alloc nl (.cells (patA f t o n sz B l.length d) 35);have K1:=qH (refPatCheckR_calls B d f t o n sz l _ hlen (hops.stays hba));generalize patCheck ⟨f,t,o,n,sz,l⟩=ck at *
 have q:(ck !=0)=true:=by simp[h]
 clear hops h;go_enter Tryz.func68,Tryz.ntmps68;go_wp2_with fail;refine K1.out.mono ?_;rintro e w1 ⟨rfl,hb1⟩;go_wp2_with fail;go_ret2;exact⟨rfl,hba.trans (hb1.mono (by simp))⟩
theorem refPatPut_ok(B:OA)(d:Nat)(p:Pat)(w:World)(hp:PatIn w p B d)(h:patCheck p=0):
  Calls Tryz.prog 68 #[.agg (patA p.from_ p.to_ p.old p.new_ p.size B p.ops.length d)] w (UnRet w (patBytes p,0)):=by
 have hl1:=patBytes_len h;obtain⟨hr,hd⟩:=patCheck_ok.1 h;have HPB:Hid (patBytes p=patHead p++opsBytes p.ops):=qH rfl;obtain⟨f,t,o,n,sz,l⟩:=p;obtain⟨hcap,hlen,hops,-,-,-,-,-⟩:=hp;unfold Pat.range at hr;dsimp only at *
 obtain⟨r1,r2,r3,r4,r5,r6,r7,r8⟩:=hr;have r1:=hd.s0;have r1:=hd.s1;have r1:=hd.many;have hba:=(bW w).alloc nl (.cells (patA f t o n sz B l.length d) 35);have K1:=qH (refPatCheckR_calls B d f t o n sz l _ hlen (hops.stays hba));rw[h]at K1;have HD:=qH hd;have HS:=qH hops;have HBA:=qH hba;have t1:o.tdiv 256=o / 256:=Int.tdiv_eq_ediv_of_nonneg (by omega);have t2:o.tmod 256=o%256:=Int.tmod_eq_emod_of_nonneg (by omega);have t3:n.tdiv 256=n / 256:=Int.tdiv_eq_ediv_of_nonneg (by omega);have t4:n.tmod 256=n%256:=Int.tmod_eq_emod_of_nonneg (by omega);have u1:IntKind.i64.wrap (o / 256)=o / 256:=IntWalk.i64_in _ (by omega);have u2:IntKind.i64.wrap (n / 256)=n / 256:=IntWalk.i64_in _ (by omega);clear hops hd h hba;go_enter Tryz.func68,Tryz.ntmps68;go_wp2_with fail;refine K1.out.mono ?_;rintro e w1 ⟨rfl,hb1⟩;have a1:=kp (w.heap.size) (patA f t o n sz B l.length d) hb1;have HB1:=bT HBA hb1;clear hb1 K1;go_wp2_with fail;obtain⟨ns,hns⟩:∃ns:List Int,[f,t,o / 256,o%256,n / 256,n%256,sz,(l.length:Int)]=ns:=⟨_,rfl⟩;have HHD:Hid ((patHead ⟨f,t,o,n,sz,l⟩)=ns.map by_):=qH (by
  have e:∀m:Int,by_ (m%256)=by_ m:=fun m=>by unfold by_;rw[Int.emod_emod_of_dvd _ (Int.dvd_refl _)]
  rw[<-hns];unfold patHead;simp only[List.map_cons,List.map_nil,e])
 have hn1:ns.length=8:=by rw[<-hns];rfl
 have HNT:Hid (Nts (w1.alloc (.cells #[iv f,iv t,iv (o / 256),iv (o%256),iv (n / 256),iv (n%256),iv sz,iv (l.length:Int)] 3)) (some ⟨w1.heap.size,0,none⟩) ns):=qH (nts_top rfl (by rw[<-hns];rfl));have HB2:Hid (Below w.heap.size w (w1.alloc (.cells #[iv f,iv t,iv (o / 256),iv (o%256),iv (n / 256),iv (n%256),iv sz,iv (l.length:Int)] 3))):=qH (HB1.out.alloc HB1.out.size _);obtain⟨b0r,b0f,b0n,b0c,b0z,b0l⟩:=keep1 (g:=w.heap.size) (cs:=patA f t o n sz B l.length d) (bL (.cells #[iv f,iv t,iv (o / 256),iv (o%256),iv (n / 256),iv (n%256),iv sz,iv (l.length:Int)] 3)) a1.1 (by simp[patA]) a1.2.1;have HR1:=qH b0r;have HF1:=qH b0f;have hsw:=HB2.out.size;clear hns t1 t2 t3 t4 u1 u2 a1 b0r b0f b0n b0c b0z;generalize w1.alloc (.cells #[iv f,iv t,iv (o / 256),iv (o%256),iv (n / 256),iv (n%256),iv sz,iv (l.length:Int)] 3)=w2 at *
 generalize hg1:w1.heap.size=g1 at *
 clear hg1;generalize hbase:w2.heap.size=base at *
 have HBE:=qH hbase;have HS1:Hid (∀w',Below base w2 w'->Sps w' B l):=qH (fun w' hb=>(HS.out.stays HB2.out).stays (HBE.out.symm▸hb));generalize hg0:w.heap.size=g0 at *
 have HG1:=qH hg0;clear hg0 hbase HB1 HBA;have HFIN:Hid (∀w' A c (x:LU),Own w' base 5 1 A x.length c (x.map bv)->Below base w2 w'->Own w' w.heap.size 5 1 A x.length c (x.map bv)∧Below w.heap.size w w'):=qH (fun w' A c x h1 h2=>⟨h1.mono (by rw[HG1.out];omega),by rw[HG1.out];exact HB2.out.trans (h2.mono (by omega))⟩);have hph1:(patHead ⟨f,t,o,n,sz,l⟩).length=8:=rfl;have HP1:=qH hph1;clear hph1;generalize patHead ⟨f,t,o,n,sz,l⟩=hd at *
 generalize patBytes ⟨f,t,o,n,sz,l⟩=pb at *
 go_loopw [5,38] (fun v i wr=>∃(k:Nat) (C:OA) (cc:Nat) (pre:LU),k<=8∧i=iv k∧v=.slice C pre.length cc∧Hid (pre=hd.take k)∧Hid (Own wr base 5 1 C pre.length cc (pre.map bv))∧Hid (Below base w2 wr)) (fun _ i _=>8-(intOf i).toNat)
 case atStart=>exact⟨0,none,0,[],Nat.zero_le _,rfl,rfl,qH (by simp),qH (Own.nil_ _ _ _ _),qH (Below.refl _ _)⟩
 case round=>
  rename World=>wz;obtain⟨k,C,cc,pre,hk,rfl,rfl,HPRE,HO1,HB1⟩:=hrel;have hbz:base<=wz.heap.size:=Nat.le_trans (Nat.le_of_eq HBE.out.symm) HB1.out.size;have hpl:pre.length=k:=by rw[HPRE.out,List.length_take,HP1.out];omega
  by_cases hlt:k<8
  ·have hbw:Below w2.heap.size w2 wz:=HBE.out▸HB1.out;have hkn:k<ns.length:=by omega
   obtain⟨sb,so,e1,hsb,hc⟩:=(HNT.out.stays hbw) k hkn;injection e1 with e1;injection e1 with e1 e2;subst e1 e2;have hpre1:hd.take (k+1)=pre++[by_ ns[k]]:=by
    rw[List.take_succ_eq_append_getElem (by rw[HP1.out];omega),<-HPRE.out];congr 2;simp[HHD.out]
   obtain⟨x,hx⟩:=eX (ns[k]);rw[hx]at hc hpre1;clear hx;simp only[Nat.zero_add]at hc;have HPRE1:=qH hpre1;have dl:decide ((k:Int)<8)=true:=decide_eq_true (by omega);have HBV:Hid (([by_ x]:List UInt8).map bv=[.int .u8 (IntKind.u8.wrap x)]):=qH (by simp only[List.map_cons,List.map_nil];rw[bv_by3]);clear hpre1 hbw;rw[u8wrap]at HBV;have hoa:=HO1.out.alloc (.cells #[.int .u8 (x%256)] 5);have hs1:Src (wz.alloc (.cells #[.int .u8 (x%256)] 5)) (some ⟨wz.heap.size,0,none⟩) [.int .u8 (x%256)]:=src_blk (blk_top rfl);have hob:pre.length+1<=137438953472:=by omega
   clear hpl;have hle:base<=(wz.alloc (.cells #[.int .u8 (x%256)] 5)).heap.size:=by simp;omega
   go_wp2_with (at_builtin;go_must (refine wpList_app (wz.alloc (.cells #[.int .u8 (x%256)] 5)) rfl _ _ 22 rfl elBytes base C pre.length cc (pre.map bv) rfl hoa (some ⟨wz.heap.size,0,none⟩) 1 1 [.int .u8 (x%256)] rfl hs1 rfl (by simp[Value.oneCell']) hob hle ?_;intro C1 c1 w3 hown hgr hbel hor));have HB1:Hid (Below base w2 w3):=qH ((HB1.out.alloc hbz _).trans hbel);have HL:Hid (pre.length+1=(pre++[by_ x]).length):=qH (by simp);have HO1:Hid (Own w3 base 5 1 C1 (pre++[by_ x]).length c1 ((pre++[by_ x]).map bv)):=qH (by rw[List.map_append,HBV.out,<-HL.out];exact hown);clear hown hgr hbel hor hoa hs1 hob hle;go_roundw
   case rel=>exact⟨k+1,C1,c1,pre++[by_ x],by omega,by go_num,by rw[HL.out],qH HPRE1.out.symm,HO1,HB1⟩
   case measure=>simp[intOf];omega
  obtain rfl:k=8:=by omega
  have dl:decide ((8:Int)<8)=false:=by decide
  have e1:((8:Nat):Int)=8:=rfl;rw[e1];clear e1;have hpre:pre=hd:=by rw[HPRE.out,List.take_of_length_le (by rw[HP1.out];omega)]
  subst hpre;clear hpl;obtain⟨b0r,b0f,b0n,b0c,b0z,b0l'⟩:=keep1 (W:=w2) (w':=wz) (g:=g0) (cs:=patA f t o n sz B l.length d) (HBE.out▸HB1.out) HR1.out (by simp[patA]) HF1.out;go_wp2_with fail;go_loopw [5,51] (fun v i wr=>∃(k:Nat) (C:OA) (cc:Nat) (p2:LU),k<=l.length∧i=iv k∧v=.slice C p2.length cc∧Hid (p2=pre++opsBytes (l.take k))∧Hid (Own wr base 5 1 C p2.length cc (p2.map bv))∧Hid (Below base w2 wr)) (fun _ i _=>l.length-(intOf i).toNat)
  case atStart=>exact⟨0,C,cc,pre,Nat.zero_le _,rfl,rfl,qH (by simp[opsBytes]),HO1,HB1⟩
  case round=>
   clear HO1 HB1 b0r b0f b0n b0c b0z b0l';rename World=>wx;obtain⟨k,C,cc,p2,hk,rfl,rfl,HPRE,HO1,HB1⟩:=hrel;have hbx:base<=wx.heap.size:=Nat.le_trans (Nat.le_of_eq HBE.out.symm) HB1.out.size;have hpl:p2.length+(opsBytes (l.drop k)).length=pb.length:=by
    rw[HPB.out,HPRE.out,<-List.length_append,List.append_assoc,<-opsBytes_append,List.take_append_drop]
   by_cases hlt:k<l.length
   ·have hxo:=HD.out.each l[k] (List.getElem_mem hlt);have hbw:Below w2.heap.size w2 wx:=HBE.out▸HB1.out;obtain⟨sb,so,D,dc,rfl,hsb,q3,q1,q2,p3,p4,p5,-,-⟩:=(HS1.out w2 (Below.refl _ _)).at_ hlt;have p6:=(hbw.cell (p:=⟨sb,so+k*3,none⟩) hsb).trans q3;have p1:=(hbw.cell (p:=⟨sb,so+k*3+1,none⟩) hsb).trans q1;have p2c:=(hbw.cell (p:=⟨sb,so+k*3+2,none⟩) hsb).trans q2;clear q3 q1 q2;have hpre1:pre++opsBytes (l.take (k+1))=p2++stpBytes l[k]:=by rw[List.take_succ_eq_append_getElem hlt,opsBytes_append,opsBytes_one,<-List.append_assoc,<-HPRE.out]
    have hdrop:l.drop k=l[k]::l.drop (k+1):=List.drop_eq_getElem_cons hlt;rw[hdrop,opsBytes_cons,List.length_append]at hpl;obtain⟨x,hx⟩:=eX (l[k]);rw[hx]at hxo hpre1 hpl p6 p1 p2c p3 p4 p5;clear hx hdrop;obtain⟨at_,len,data⟩:=x;obtain⟨hform,hin⟩:=hxo;unfold Stp.in_ at hin;dsimp only at *
    obtain⟨j1,j2,j3⟩:=hin;have HDT1:Hid (∀w',Below base w2 w'->Bts w' D data):=qH (fun w' hb=>p5.stays (HBE.out▸hb));have HPRE1:=qH hpre1;have dl:decide ((k:Int)<(l.length:Int))=true:=decide_eq_true (by omega);have hwk:IntKind.i64.wrap ((k:Int)+1)=(k:Int)+1:=IntWalk.i64_in _ (by omega);clear p5 hpre1 hbw;by_cases hl1:0<len
    ·have hst:stpBytes ⟨at_,len,data⟩=[by_ at_,by_ len]:=by unfold stpBytes;rw[if_pos hl1]
     rw[hst]at HPRE1 hpl;have hj1:at_<=64:=by omega
     have hj1:len<=64:=by omega
     have dz:(len==0)=false:=by simp;omega
     have v1:at_%256=at_:=by omega
     have v1:len%256=len:=by omega
     have HBV:Hid (([by_ at_,by_ len]:List UInt8).map bv=[.int .u8 at_,.int .u8 len]):=qH (by simp only[List.map_cons,List.map_nil];rw[bv_by at_ (by omega),bv_by len (by omega)]);have hoa:=(HO1.out.alloc (.cells #[iv at_,iv len,.slice D data.length dc] 121)).alloc (.cells #[.int .u8 at_,.int .u8 len] 5);have hs1:Src ((wx.alloc (.cells #[iv at_,iv len,.slice D data.length dc] 121)).alloc (.cells #[.int .u8 at_,.int .u8 len] 5)) (some ⟨wx.heap.size+1,0,none⟩) [.int .u8 at_,.int .u8 len]:=src_blk (blk_top (by simp));have hob:p2.length+2<=137438953472:=by omega
     have hle:base<=((wx.alloc (.cells #[iv at_,iv len,.slice D data.length dc] 121)).alloc (.cells #[.int .u8 at_,.int .u8 len] 5)).heap.size:=by simp;omega
     clear hst hform hpl;go_wp2_with (at_builtin;go_must (refine wpList_app ((wx.alloc (.cells #[iv at_,iv len,.slice D data.length dc] 121)).alloc (.cells #[.int .u8 at_,.int .u8 len] 5)) rfl _ _ 22 rfl elBytes base C p2.length cc (p2.map bv) rfl hoa (some ⟨wx.heap.size+1,0,none⟩) 2 2 [.int .u8 at_,.int .u8 len] rfl hs1 rfl (by simp[Value.oneCell']) hob hle ?_;intro C1 c1 w3 hown hgr hbel hor));have HB1:Hid (Below base w2 w3):=qH (((HB1.out.alloc hbx _).alloc (by simp;omega) _).trans hbel);have HL:Hid (p2.length+2=(p2++[by_ at_,by_ len]).length):=qH (by simp);have HO1:Hid (Own w3 base 5 1 C1 (p2++[by_ at_,by_ len]).length c1 ((p2++[by_ at_,by_ len]).map bv)):=qH (by rw[List.map_append,HBV.out,<-HL.out];exact hown);clear hown hgr hbel hor hoa hs1 hob hle;go_roundw
     case rel=>exact⟨k+1,C1,c1,p2++[by_ at_,by_ len],by omega,by go_num,by rw[HL.out],qH HPRE1.out.symm,HO1,HB1⟩
     case measure=>simp[intOf];omega
    obtain rfl:len=0:=by omega
    obtain⟨rfl,hd1,hd2⟩:=hform.1 rfl;have hst:stpBytes ⟨0,0,data⟩=255::by_ data.length::data:=by unfold stpBytes;rw[if_neg (by simp)]
    rw[hst]at HPRE1 hpl;simp only[List.length_cons]at hpl;have hdl:data.length<=64:=hd2;have v1:(data.length:Int)%256=(data.length:Int):=by omega
    have HBV:Hid ((255::by_ data.length::data:LU).map bv=[.int .u8 255,.int .u8 (data.length:Int)]++data.map bv):=qH (by simp only[List.map_cons];rw[bv_by (data.length:Int) (by omega)];rfl);have HG0':Hid ((wx.alloc (.cells #[iv 0,iv 0,.slice D data.length dc] 121)).heap[wx.heap.size]?=some (.cells #[iv 0,iv 0,.slice D data.length dc] 121 (0,0))):=qH (blk_top rfl);have hoa:=(HO1.out.alloc (.cells #[iv 0,iv 0,.slice D data.length dc] 121)).alloc (.cells #[.int .u8 255,.int .u8 (data.length:Int)] 5);have hs1:Src ((wx.alloc (.cells #[iv 0,iv 0,.slice D data.length dc] 121)).alloc (.cells #[.int .u8 255,.int .u8 (data.length:Int)] 5)) (some ⟨wx.heap.size+1,0,none⟩) [.int .u8 255,.int .u8 (data.length:Int)]:=src_blk (blk_top (by simp));have hob:p2.length+2<=137438953472:=by omega
    have hob1:p2.length+2+data.length<=137438953472:=by omega
    have hle:base<=((wx.alloc (.cells #[iv 0,iv 0,.slice D data.length dc] 121)).alloc (.cells #[.int .u8 255,.int .u8 (data.length:Int)] 5)).heap.size:=by simp;omega
    have hgC:C.map (·.block)≠some wx.heap.size:=fun e=>by have:=(HO1.out.block _ e).2;omega
    clear hst hform hpl;go_wp2_with (at_builtin;go_must (refine wpList_app ((wx.alloc (.cells #[iv 0,iv 0,.slice D data.length dc] 121)).alloc (.cells #[.int .u8 255,.int .u8 (data.length:Int)] 5)) rfl _ _ 22 rfl elBytes base C p2.length cc (p2.map bv) rfl hoa (some ⟨wx.heap.size+1,0,none⟩) 2 2 [.int .u8 255,.int .u8 (data.length:Int)] rfl hs1 rfl (by simp[Value.oneCell']) hob hle ?_));intro C1 c1 w1 hown hgr hbel hor;have hg1:w1.heap[wx.heap.size]?=some (.cells #[iv 0,iv 0,.slice D data.length dc] 121 (0,0)):=(hgr.block wx.heap.size (by simp;omega) (fun e=>hgC e.symm)).trans (blk_old HG0'.out);obtain⟨g1c,g2c,g3c,g4c,g5c⟩:=blkFacts hg1 (by simp);have HB1:Hid (Below base w2 w1):=qH (((HB1.out.alloc hbx _).alloc (by simp;omega) _).trans hbel);have hbz1:base<=w1.heap.size:=Nat.le_trans (Nat.le_of_eq HBE.out.symm) HB1.out.size;have HO1:Hid (Own w1 base 5 1 C1 (p2.length+2) c1 (p2.map bv++[.int .u8 255,.int .u8 (data.length:Int)])):=qH hown;have hsd:=(HDT1.out w1 HB1.out).src;clear hown hgr hbel hor hoa hs1 hob hle hg1 hgC;go_wp2_with (at_builtin;go_must (refine wpList_app w1 rfl _ _ 22 rfl elBytes base C1 (p2.length+2) c1 (p2.map bv++[.int .u8 255,.int .u8 (data.length:Int)]) rfl HO1.out D data.length dc (data.map bv) rfl hsd (by simp) (bv_one _) hob1 hbz1 ?_));intro C1 c1 w1 hown hgr hbel hor;have HB1:Hid (Below base w2 w1):=qH (HB1.out.trans hbel);have HL:Hid (p2.length+2+data.length=(p2++(255::by_ data.length::data)).length):=qH (by simp;omega);have HO1:Hid (Own w1 base 5 1 C1 (p2++(255::by_ data.length::data)).length c1 ((p2++(255::by_ data.length::data)).map bv)):=qH (by rw[List.map_append,HBV.out,<-HL.out];simpa using hown);clear hown hgr hbel hor hsd hob1;go_wp2_with fail;go_roundw
    case rel=>exact⟨k+1,C1,c1,p2++(255::by_ data.length::data),by omega,by go_num,by rw[HL.out],qH HPRE1.out.symm,HO1,HB1⟩
    case measure=>simp[intOf];omega
   obtain rfl:k=l.length:=by omega
   have dl:decide ((l.length:Int)<(l.length:Int))=false:=by simp
   have hpre:p2=pb:=by rw[HPB.out,HPRE.out,List.take_length]
   subst hpre;have d1:decide ((400:Int)<(p2.length:Int))=false:=decide_eq_false (by omega);clear hpl;go_wp2_with fail;go_ret2;obtain⟨z1,z2⟩:=HFIN.out _ C cc p2 HO1.out HB1.out;exact⟨C,cc,rfl,z1,z2⟩
theorem x1jz(h:Y:=by
 have HB1:Hid (Below base w w3):=qH (((hbx.alloc hsx _).trans hbel1).trans hbel);have HLO:Hid (out.length+1+K=(out++[UInt8.ofNat K]++(x::r).take K).length):=qH (by have:=HLN.out;simp at this⊢;omega);have HO1:Hid (Own w3 base 5 1 A' (out++[UInt8.ofNat K]++(x::r).take K).length c' ((out++[UInt8.ofNat K]++(x::r).take K).map bv)):=qH (by rw[<-HLO.out,List.map_append,List.map_append];show Own _ _ _ _ _ _ _ (_++[bv _]++_);rw[HBV.out];exact hown);have HLD:Hid (ln-K=((x::r).drop K).length):=qH (by rw[List.length_drop,HLN.out]);clear hown hgr hbel hor hown1 hgr1 hbel1 hor1 hs1 hle hox hbx hox1 hob1 hob2 hls
 go_roundg (ln-K)
 case measure=>omega
 case rel=>first
  |(have h9:¬c=K:=by assumption
    exact⟨(x::r).drop K,out++[UInt8.ofNat K]++(x::r).take K,some ⟨ab,ao+K,none⟩,A',c-K,c',by rw[HLD.out],by rw[HLO.out],by rw[<-HLD.out];omega,Nat.le_of_eq HLD.out.symm,by rw[<-HLD.out];omega,HE1,qH (mid_at HBt.out K),HO1,HB1⟩)
  |exact⟨(x::r).drop K,out++[UInt8.ofNat K]++(x::r).take K,some ⟨ab,ao,none⟩,A',0,c',by rw[HLD.out],by rw[HLO.out],by rw[<-HLD.out];omega,Nat.le_of_eq HLD.out.symm,by rw[<-HLD.out];omega,HE1,qH (by rw[List.eq_nil_of_length_eq_zero (show ((x::r).drop K).length=0 by rw[<-HLD.out];omega)];exact Bts.nil _ _),HO1,HB1⟩):Y:=h
theorem plainTo_step{k:Nat}(h:k<l.length)(h7:k<127)(h3:alike (l.drop k)<3):plainTo l.length l k=plainTo l.length l (k+1):=by
 obtain⟨f,hf⟩:∃f,l.length=f+1:=⟨l.length-1,by omega⟩;have e:plainTo l.length l k=plainTo f l (k+1):=by
  rw[hf]
  conv=>lhs;unfold plainTo
  rw[if_pos ⟨by omega,h7,h3⟩]
 rw[e];exact plainTo_fuel f l.length l (k+1) (by omega) (by omega)
theorem plainTo_stop{k:Nat}(h:¬(k<l.length∧k<127∧alike (l.drop k)<3)):plainTo l.length l k=k:=by
 cases hl:l.length with
 |zero=>rfl
 |succ f=>unfold plainTo;rw[if_neg h]
theorem packAt_one{x:UInt8}{r:LU}(h3:¬3<=alike (x::r)):packAt (x::r) []=UInt8.ofNat (plainTo (x::r).length (x::r) 1)::((x::r).take (plainTo (x::r).length (x::r) 1)++packAt ((x::r).drop (plainTo (x::r).length (x::r) 1)) []):=by
 rw[packAt_byte h3 (by simp)];have:=packAt_plain (x::r).length (x::r) 1 (by simp) (by omega) (by simp) (by omega);simpa using this
theorem refPacked_calls(Ab:OA)(cb:Nat)(b:LU)(w:World)(hc:b.length<=cb)(hl:b.length<=1048576)(hB:Bts w Ab b):
  Calls Tryz.prog 71 #[.slice Ab b.length cb] w (BtRet w (packed b)):=by
 have hpl:=packed_len b;have HPL:Hid (∀(out r:LU),out++packAt r []=packed b->out.length<=67108000):=qH (fun out r e=>by have:=congrArg List.length e;simp at this;omega);have HB1:=qH hB;have HBB:Hid (Below w.heap.size w w):=qH (Below.refl _ _);have HO1:Hid (Own w w.heap.size 5 1 none 0 0 (([]:List UInt8).map bv)):=qH (Own.nil_ _ _ _ _);clear hB hpl;go_enter Tryz.func71,Tryz.ntmps71;go_wp2_with fail;generalize hbase:w.heap.size=base at *
 have HBE:=qH hbase;clear hbase
 go_loopg [0,3] b.length (fun g y o wr=>∃(l out:LU) (A B:OA) (c d:Nat),y=.slice A l.length c∧o=.slice B out.length d∧l.length<=c∧l.length<=g∧l.length<=1048576∧Hid (out++packAt l []=packed b)∧Hid (Bts w A l)∧Hid (Own wr base 5 1 B out.length d (out.map bv))∧Hid (Below base w wr))
 case atStart=>exact⟨b,[],Ab,none,cb,0,rfl,rfl,hc,nl,hl,qH rfl,HB1,HO1,HBB⟩
 case round=>
  clear HB1 HO1 HBB;rename World=>wo;obtain⟨l,out,A,B,c,d,rfl,rfl,hlc,hlg,hll,HE,HBt,HO,HB⟩:=hrel;rcases l with _|⟨x,r⟩
  ·have hz:out=packed b:=by rw[<-HE.out,packAt_nil];simp[flushed]
   have HZ:=qH hz;simp only[List.length_nil,Int.ofNat_eq_natCast,Int.natCast_zero]at *
   clear hz;go_wp2_with fail;go_ret;exact x433
  obtain⟨ln,hln⟩:=eX ((x::r).length);have hln1:0<ln:=by rw[<-hln];simp
  have HBW:Hid (∀w1,Below base w w1->Bts w1 A (x::r)):=qH (fun w1 h=>HBt.out.stays (HBE.out▸h));have hab:=(HBW.out wo HB.out) 0 (by simp);obtain⟨ab,ao,rfl,hab,hx⟩:=hab;simp only[Nat.add_zero,List.getElem_cons_zero]at hx;have hal:=alike_le (x::r);have hK:1<=plainTo (x::r).length (x::r) 1∧plainTo (x::r).length (x::r) 1<=(x::r).length∧plainTo (x::r).length (x::r) 1<=127:=by
   have h1:=plainTo_ge (x::r).length (x::r) 1;have h2:=plainTo_le (x::r).length (x::r) 1 (by simp) (by omega);exact⟨h1,h2⟩
  have HCA:Hid (∀(w1:World) (A1:OA) (c1:Nat) (l1:LU),0<l1.length->l1.length<=c1->l1.length<=ln->Bts w1 A1 l1->Calls Tryz.prog 99 #[.slice A1 l1.length c1] w1 (RetN w1 (iv (alike l1:Nat)))):=qH (fun w1 A1 c1 l1 h0 h1 h2 h3=>refAlike_calls A1 c1 l1 w1 h0 h1 (by omega) h3);have hb1:=HBW.out wo HB.out;have hca1:=HCA.out wo _ c (x::r) (by simp) hlc (Nat.le_of_eq hln) hb1;rw[hln]at hlc hlg hll hal hK hca1⊢;clear hb1;have HCA1:=qH hca1;clear hca1;have HLN:=qH hln;clear hln;obtain⟨n,hn⟩:=eX (alike (x::r));obtain⟨K,hKe⟩:=eX (plainTo ln (x::r) 1);rw[hn]at hal HCA1;rw[hKe]at hK;have HNE:=qH hn;have HKE:=qH hKe;clear hn hKe;obtain⟨hal1,hal2⟩:=hal;obtain⟨hK1,hK2,hK3⟩:=hK;have dl:decide ((0:Int)<(ln:Int))=true:=decide_eq_true (by omega);go_wp2_with fail;refine HCA1.out.mono ?_;rintro e w1 ⟨rfl,nd,rfl⟩;have HBd:Hid (Below base w (wo.drewN nd)):=qH (Below.drewN' HB.out nd);have HOd:=qH (HO.out.drewN nd);have hxd:(wo.drewN nd).cell? ⟨ab,ao,none⟩=some (bv x):=hx;have hsd:base<=(wo.drewN nd).heap.size:=Nat.le_trans (Nat.le_of_eq HBE.out.symm) HBd.out.size;have habd:ab<(wo.drewN nd).heap.size:=hab;clear HB HO hx hab HCA1;generalize wo.drewN nd=w1 at *
  by_cases h1:3<=n
  ·have hrun:=packAt_run (x:=x) (r:=r) (plain:=[]) (by rw[HNE.out];exact h1);rw[HNE.out]at hrun;have hE1:(out++[UInt8.ofNat (128+n),x])++packAt ((x::r).drop n) []=packed b:=by
    rw[<-HE.out,hrun];simp[flushed]
   have ho1:out.length<=67108000:=by have:=HPL.out _ _ hE1;simp at this;omega
   have HE1:=qH hE1;clear hE1 hrun HE;have d1:decide ((3:Int)<=(n:Int))=true:=decide_eq_true (by omega);have HBV:Hid (bv (UInt8.ofNat (128+n))=.int .u8 (128+(n:Int))):=qH (by unfold bv;rw[ofNat_toNat _ (by omega)];simp);have hw1:IntKind.i64.wrap (128+(n:Int))=128+(n:Int):=IntWalk.i64_in _ (by omega);have hw2:IntKind.u8.wrap (128+(n:Int))=128+(n:Int):=by unfold IntKind.wrap;simp[IntKind.signed,IntKind.bits];omega
   have j1:(n:Int)<=(ln:Int):=by omega
   have HOA:=qH (HOd.out.alloc (.cells #[bv (UInt8.ofNat (128+n)),bv x] 5));rw[HBV.out]at HOA;have hs1:Src (w1.alloc (.cells #[.int .u8 (128+(n:Int)),bv x] 5)) (some ⟨w1.heap.size,0,none⟩) [.int .u8 (128+(n:Int)),bv x]:=src_blk (blk_top rfl);have hob1:out.length+2<=137438953472:=by omega
   have hle:base<=(w1.alloc (.cells #[.int .u8 (128+(n:Int)),bv x] 5)).heap.size:=by simp;omega
   have hoa:=HOA.out;go_wp2_with (at_builtin;go_must (refine wpList_app (w1.alloc (.cells #[.int .u8 (128+(n:Int)),bv x] 5)) rfl _ _ 22 rfl elBytes base B out.length d (out.map bv) rfl hoa (some ⟨w1.heap.size,0,none⟩) 2 2 [.int .u8 (128+(n:Int)),bv x] rfl hs1 rfl (by simp[Value.oneCell']) hob1 hle ?_;intro A' c' w2 hown hgr hbel hor));all_goals (
    have HB1:Hid (Below base w w2):=qH ((HBd.out.alloc hsd _).trans hbel);have HO1:Hid (Own w2 base 5 1 A' (out++[UInt8.ofNat (128+n),x]).length c' ((out++[UInt8.ofNat (128+n),x]).map bv)):=qH (by rw[List.map_append,List.length_append];show Own _ _ _ _ _ _ _ (_++[bv _,bv x]);rw[HBV.out];exact hown);have HLD:Hid (ln-n=((x::r).drop n).length):=qH (by rw[List.length_drop,HLN.out]);have HLO:Hid (out.length+2=(out++[UInt8.ofNat (128+n),x]).length):=qH (by rw[List.length_append];rfl);clear hown hgr hbel hor hs1 hle hob1 hoa
    go_roundg (ln-n)
    case measure=>omega
    case rel=>first
     |(have h9:¬c=n:=by assumption
       exact⟨(x::r).drop n,out++[UInt8.ofNat (128+n),x],some ⟨ab,ao+n,none⟩,A',c-n,c',by rw[HLD.out],by rw[HLO.out],by rw[<-HLD.out];omega,Nat.le_of_eq HLD.out.symm,by rw[<-HLD.out];omega,HE1,qH (mid_at HBt.out n),HO1,HB1⟩)
     |exact⟨(x::r).drop n,out++[UInt8.ofNat (128+n),x],some ⟨ab,ao,none⟩,A',0,c',by rw[HLD.out],by rw[HLO.out],by rw[<-HLD.out];omega,Nat.le_of_eq HLD.out.symm,by rw[<-HLD.out];omega,HE1,qH (by rw[List.eq_nil_of_length_eq_zero (show ((x::r).drop n).length=0 by rw[<-HLD.out];omega)];exact Bts.nil _ _),HO1,HB1⟩)
  have hone:=packAt_one (x:=x) (r:=r) (by rw[HNE.out];exact h1);rw[HLN.out,HKE.out]at hone;have hE1:(out++[UInt8.ofNat K]++(x::r).take K)++packAt ((x::r).drop K) []=packed b:=by
   rw[<-HE.out,hone];simp
  have ho1:out.length<=67108000:=by have:=HPL.out _ _ hE1;simp at this;omega
  have HE1:=qH hE1;clear hE1 hone HE;have d3:decide ((3:Int)<=(n:Int))=false:=decide_eq_false (by omega);have HBV:Hid (bv (UInt8.ofNat K)=.int .u8 (K:Int)):=qH (by unfold bv;rw[ofNat_toNat _ (by omega)]);have HOX:Hid (∀nd,Own (w1.drewN nd) base 5 1 B out.length d (out.map bv)∧Below base w (w1.drewN nd)):=qH (fun nd=>⟨HOd.out.drewN nd,Below.drewN' HBd.out nd⟩);go_wp2_with fail;go_loopw [5] (fun y wr=>∃(k nd:Nat),y=iv (k:Int)∧1<=k∧k<=K∧Hid (plainTo ln (x::r) k=K)∧w1.drewN nd=wr) (fun y _=>K-(intOf y).toNat)
  case atStart=>exact⟨1,0,rfl,by omega,hK1,HKE,rfl⟩
  case round=>
   obtain⟨k,nd,rfl,hk1,hk2,HPK,rfl⟩:=hrel;by_cases hcond:k<ln∧k<127∧alike ((x::r).drop k)<3
   ·obtain⟨e1,e2,e3⟩:=hcond;have hst:=plainTo_step (l:=x::r) (k:=k) (by rw[HLN.out];exact e1) e2 e3;rw[HLN.out,HPK.out]at hst;have hge:=plainTo_ge ln (x::r) (k+1);rw[<-hst]at hge;have HST:=qH hst;have hcal:=HCA.out (w1.drewN nd) (some ⟨ab,ao+k,none⟩) (c-k) ((x::r).drop k) (by rw[List.length_drop,HLN.out];omega) (by rw[List.length_drop,HLN.out];omega) (by rw[List.length_drop,HLN.out];omega) (mid_at (HBW.out _ (HOX.out nd).2) k);rw[List.length_drop,HLN.out]at hcal;have HCAL:=qH hcal;clear hst hcal HPK;generalize alike ((x::r).drop k)=m at *
    have d1:k<ln:=e1;have d2:decide ((k:Int)<127)=true:=decide_eq_true (by omega);have d4:decide ((m:Int)<3)=true:=decide_eq_true (by omega);have hck:¬c=k:=by omega
    have j1:(k:Int)<=(ln:Int):=by omega
    have hw1:IntKind.i64.wrap ((k:Int)+1)=(k:Int)+1:=IntWalk.i64_in _ (by omega);go_wp2_with fail;refine HCAL.out.mono ?_;rintro e w2 ⟨rfl,n1,rfl⟩;go_wp2_with fail;go_roundw
    case rel=>exact⟨k+1,nd+n1,by go_num,by omega,by omega,qH HST.out.symm,by rw[<-World.drewN_drewN]⟩
    case measure=>simp[intOf];omega
   have hst:=plainTo_stop (l:=x::r) (k:=k) (by rw[HLN.out];exact hcond);rw[HLN.out,HPK.out]at hst;subst hst;have hu1:IntKind.u8.wrap (K:Int)=(K:Int):=by unfold IntKind.wrap;simp[IntKind.signed,IntKind.bits];omega
   have hob1:out.length+1<=137438953472:=by omega
   have hob2:out.length+1+K<=137438953472:=by omega
   have hls:(((x::r).take K).map bv).length=K*1:=by have:=HLN.out;simp at this⊢;omega
   have jK:(K:Int)<=(ln:Int):=by omega
   have jC:(K:Int)<=(c:Int):=by omega
   clear HPK;by_cases e1:K<ln
   ·by_cases e2:K<127
    ·have e3:¬alike ((x::r).drop K)<3:=fun e=>hcond ⟨e1,e2,e⟩;have hcal:=HCA.out (w1.drewN nd) (some ⟨ab,ao+K,none⟩) (c-K) ((x::r).drop K) (by rw[List.length_drop,HLN.out];omega) (by rw[List.length_drop,HLN.out];omega) (by rw[List.length_drop,HLN.out];omega) (mid_at (HBW.out _ (HOX.out nd).2) K);rw[List.length_drop,HLN.out]at hcal;have HCAL:=qH hcal;clear hcal hcond;generalize alike ((x::r).drop K)=m at *
     have d1:decide ((K:Int)<127)=true:=decide_eq_true (by omega);have d2:decide ((m:Int)<3)=false:=decide_eq_false (by omega);have hck:¬c=K:=by omega
     go_wp2_with fail;refine HCAL.out.mono ?_;rintro e w2 ⟨rfl,n1,rfl⟩;simp only[World.drewN_drewN];obtain⟨hox,hbx⟩:=HOX.out (nd+n1);have hsx:base<=(w1.drewN (nd+n1)).heap.size:=Nat.le_trans (Nat.le_of_eq HBE.out.symm) hbx.size;have hox1:=hox.alloc (.cells #[.int .u8 (K:Int)] 5);have hs1:Src ((w1.drewN (nd+n1)).alloc (.cells #[.int .u8 (K:Int)] 5)) (some ⟨(w1.drewN (nd+n1)).heap.size,0,none⟩) [.int .u8 (K:Int)]:=src_blk (blk_top rfl);have hle:base<=((w1.drewN (nd+n1)).alloc (.cells #[.int .u8 (K:Int)] 5)).heap.size:=by simp at hsx⊢;omega
     go_wp2_with (at_builtin;first
      |(refine wpList_app ((w1.drewN (nd+n1)).alloc (.cells #[.int .u8 (K:Int)] 5)) rfl _ _ 22 rfl elBytes base B out.length d (out.map bv) rfl hox1 (some ⟨(w1.drewN (nd+n1)).heap.size,0,none⟩) 1 1 [.int .u8 (K:Int)] rfl hs1 rfl (by simp[Value.oneCell']) hob1 hle ?_;intro A1 c1 w2 hown1 hgr1 hbel1 hor1)
      |go_must (refine wpList_app w2 rfl _ _ 22 rfl elBytes base A1 (out.length+1) c1 (out.map bv++[.int .u8 (K:Int)]) rfl hown1 (some ⟨ab,ao,none⟩) K c (((x::r).take K).map bv) rfl ((mid_take (HBW.out w2 ((hbx.alloc hsx _).trans hbel1)) K).src) hls (bv_one _) hob2 (Nat.le_trans hle hbel1.size) ?_;intro A' c' w3 hown hgr hbel hor))
     all_goals (
      exact x1jz)
    ·have d2:decide ((K:Int)<127)=false:=decide_eq_false (by omega);have hck:¬c=K:=by omega
     clear hcond;obtain⟨hox,hbx⟩:=HOX.out (nd);have hsx:base<=(w1.drewN (nd)).heap.size:=Nat.le_trans (Nat.le_of_eq HBE.out.symm) hbx.size;have hox1:=hox.alloc (.cells #[.int .u8 (K:Int)] 5);have hs1:Src ((w1.drewN (nd)).alloc (.cells #[.int .u8 (K:Int)] 5)) (some ⟨(w1.drewN (nd)).heap.size,0,none⟩) [.int .u8 (K:Int)]:=src_blk (blk_top rfl);have hle:base<=((w1.drewN (nd)).alloc (.cells #[.int .u8 (K:Int)] 5)).heap.size:=by simp at hsx⊢;omega
     go_wp2_with (at_builtin;first
      |(refine wpList_app ((w1.drewN (nd)).alloc (.cells #[.int .u8 (K:Int)] 5)) rfl _ _ 22 rfl elBytes base B out.length d (out.map bv) rfl hox1 (some ⟨(w1.drewN (nd)).heap.size,0,none⟩) 1 1 [.int .u8 (K:Int)] rfl hs1 rfl (by simp[Value.oneCell']) hob1 hle ?_;intro A1 c1 w2 hown1 hgr1 hbel1 hor1)
      |go_must (refine wpList_app w2 rfl _ _ 22 rfl elBytes base A1 (out.length+1) c1 (out.map bv++[.int .u8 (K:Int)]) rfl hown1 (some ⟨ab,ao,none⟩) K c (((x::r).take K).map bv) rfl ((mid_take (HBW.out w2 ((hbx.alloc hsx _).trans hbel1)) K).src) hls (bv_one _) hob2 (Nat.le_trans hle hbel1.size) ?_;intro A' c' w3 hown hgr hbel hor))
     all_goals (
      exact x1jz)
   have d1:¬(K:Int)<(ln:Int):=by omega
   clear hcond;obtain⟨hox,hbx⟩:=HOX.out (nd);have hsx:base<=(w1.drewN (nd)).heap.size:=Nat.le_trans (Nat.le_of_eq HBE.out.symm) hbx.size;have hox1:=hox.alloc (.cells #[.int .u8 (K:Int)] 5);have hs1:Src ((w1.drewN (nd)).alloc (.cells #[.int .u8 (K:Int)] 5)) (some ⟨(w1.drewN (nd)).heap.size,0,none⟩) [.int .u8 (K:Int)]:=src_blk (blk_top rfl);have hle:base<=((w1.drewN (nd)).alloc (.cells #[.int .u8 (K:Int)] 5)).heap.size:=by simp at hsx⊢;omega
   go_wp2_with (at_builtin;first
    |(refine wpList_app ((w1.drewN (nd)).alloc (.cells #[.int .u8 (K:Int)] 5)) rfl _ _ 22 rfl elBytes base B out.length d (out.map bv) rfl hox1 (some ⟨(w1.drewN (nd)).heap.size,0,none⟩) 1 1 [.int .u8 (K:Int)] rfl hs1 rfl (by simp[Value.oneCell']) hob1 hle ?_;intro A1 c1 w2 hown1 hgr1 hbel1 hor1)
    |go_must (refine wpList_app w2 rfl _ _ 22 rfl elBytes base A1 (out.length+1) c1 (out.map bv++[.int .u8 (K:Int)]) rfl hown1 (some ⟨ab,ao,none⟩) K c (((x::r).take K).map bv) rfl ((mid_take (HBW.out w2 ((hbx.alloc hsx _).trans hbel1)) K).src) hls (bv_one _) hob2 (Nat.le_trans hle hbel1.size) ?_;intro A' c' w3 hown hgr hbel hor))
   all_goals (
    exact x1jz)
theorem x14j(h:Y:=by
 have hdl:((l.length:Int) !=(m.length:Int))=true:=by simp;omega
 have HX:=qH hne;clear hne;go_enter Tryz.func78,Tryz.ntmps78;go_wp2_with fail;go_ret;exact⟨ret_bool (by rw[decide_eq_false (fun e=>HX.out (by rw[e]))]),Below.refl _ _⟩):Y:=h
theorem x7ta(h:Y:=by
 refine qH (HB.out.trans (Below.trans ?_ (hb1.mono (by first|omega|(simp<;>omega)))));repeat (first|exact Below.refl _ _|refine bA ?_ _)):Y:=h
def chkA(f t n o:Int)(A:OA)(k c:Nat):Array Value:=#[iv f,iv t,iv n,iv o,.slice A k c]
@[go_sem] theorem chkA_size(f t n o:Int)(A:OA)(k c:Nat):(chkA f t n o A k c).size=5:=by simp[chkA]
@[go_sem] theorem chkA_one(f t n o:Int)(A:OA)(k c:Nat):allOne (chkA f t n o A k c)=true:=by simp[chkA,allOne,Value.oneCell']
@[go_sem] theorem chkA_at0(f t n o:Int)(A:OA)(k c:Nat)(h:0<(chkA f t n o A k c).size):(chkA f t n o A k c)[0]'h=iv f:=by simp[chkA]
@[go_sem] theorem chkA_at1(f t n o:Int)(A:OA)(k c:Nat)(h:1<(chkA f t n o A k c).size):(chkA f t n o A k c)[1]'h=iv t:=by simp[chkA]
@[go_sem] theorem chkA_at2(f t n o:Int)(A:OA)(k c:Nat)(h:2<(chkA f t n o A k c).size):(chkA f t n o A k c)[2]'h=iv n:=by simp[chkA]
@[go_sem] theorem chkA_at3(f t n o:Int)(A:OA)(k c:Nat)(h:3<(chkA f t n o A k c).size):(chkA f t n o A k c)[3]'h=iv o:=by simp[chkA]
@[go_sem] theorem chkA_at4(f t n o:Int)(A:OA)(k c:Nat)(h:4<(chkA f t n o A k c).size):(chkA f t n o A k c)[4]'h=.slice A k c:=by simp[chkA]
@[go_sem] theorem chkA_all(f t n o:Int)(A:OA)(k c:Nat):(chkA f t n o A k c).extract 0 5=chkA f t n o A k c:=by simp[chkA]
@[go_sem] theorem chk_lit(f t n o:Int)(A:OA)(k c:Nat):Value.agg #[iv f,iv t,iv n,iv o,.slice A k c]=Value.agg (chkA f t n o A k c):=by simp[chkA]
@[go_sem] theorem chkA_set4(f t n o:Int)(A:OA)(k c:Nat)(B:OA)(m d:Nat):(chkA f t n o A k c).setIfInBounds 4 (.slice B m d)=chkA f t n o B m d:=by simp[chkA]
@[go_sem] theorem aggSzChk:aggSz Tryz.prog 39=5:=by kernel_rfl
@[go_sem] theorem chkA_set0(f t n o:Int)(A:OA)(k c:Nat)(x:Int):(chkA f t n o A k c).setIfInBounds 0 (iv x)=chkA x t n o A k c:=by simp[chkA]
@[go_sem] theorem chkA_set1(f t n o:Int)(A:OA)(k c:Nat)(x:Int):(chkA f t n o A k c).setIfInBounds 1 (iv x)=chkA f x n o A k c:=by simp[chkA]
@[go_sem] theorem chkA_set2(f t n o:Int)(A:OA)(k c:Nat)(x:Int):(chkA f t n o A k c).setIfInBounds 2 (iv x)=chkA f t x o A k c:=by simp[chkA]
@[go_sem] theorem chkA_set3(f t n o:Int)(A:OA)(k c:Nat)(x:Int):(chkA f t n o A k c).setIfInBounds 3 (iv x)=chkA f t n x A k c:=by simp[chkA]
@[go_sem] theorem chkA_ne(f t n o:Int)(A:OA)(k c:Nat):(chkA f t n o A k c=#[])=False:=by simp[chkA]
theorem chkA_list(x:Chk)(A:OA)(c:Nat):(chkA x.from_ x.to_ x.n x.of_ A x.data.length c).toList=chkC x A c:=by simp[chkA]
def ChkRet2(w:World)(l:List Chk)(n:Int):Ending->World->Prop:=fun en w'=>
 ∃A c ds,en=.returned (.tuple #[.slice A l.length c,iv n])∧GRow kChk w' w.heap.size l ds A c∧Each kChk l ds (fun k=>w.heap.size<=k)∧Below w.heap.size w w'
theorem x98w(h:Y:=by
 clear hb1;go_wp2_with fail;go_ret2;exact⟨none,0,[],rfl,GRow.nil _ _,Each.nil,HB1.out⟩):Y:=h
theorem mid_slice{w:World}{ab ao:Nat}{c:Nat}{z1 z2:Int}(i y:Nat)(h1:z1=(i:Int))(h2:z2=(i:Int)+(y:Int))(hc:l.length<=c)(hy:i+y<=l.length)(hB:Bts w (some ⟨ab,ao,none⟩) l):∃o' c',y<=c'∧Bts w (some ⟨ab,o',none⟩) ((l.drop i).take y)∧
  ∀W,(Instr.slice 22 (.slice (some ⟨ab,ao,none⟩) l.length c) (some (iv z1)) (some (iv z2)) none).run Tryz.prog W=.ok (.slice (some ⟨ab,o',none⟩) y c') W:=by
 subst h1 h2;have q1:(i:Int)+(y:Int)<=(c:Int):=by omega
 have q1:(i:Int)<=(i:Int)+(y:Int):=by omega
 have q1:i+y-i=y:=by omega
 by_cases e:c=i
 ·have hy1:y=0:=by omega
  subst hy1;refine⟨ao,c-i,by omega,by simpa using Bts.nil _ _,fun W=>?_⟩;go_simp
 refine⟨ao+i,c-i,by omega,mid_take (mid_at hB i) y,fun W=>?_⟩;go_simp;omega
theorem refChunks_bad(B:OA)(d:Nat)(p:Pat)(w:World)(hp:PatIn w p B d)(h:patCheck p≠0):
  Calls Tryz.prog 33 #[.agg (patA p.from_ p.to_ p.old p.new_ p.size B p.ops.length d)] w (ChkRet2 w [] (patCheck p)):=by
 have K1:=qH (fun w hp=>refPatPut_bad B d p w hp h);have HP:=qH hp;obtain⟨ck,hck⟩:=eX (patCheck p);rw[hck]at h K1;rw[hck];have q:(ck !=0)=true:=by simp[h]
 clear hp h hck;go_enter Tryz.func33,Tryz.ntmps33;go_wp2_with fail;have hba:=(bW w).alloc nl (.cells (patA p.from_ p.to_ p.old p.new_ p.size B p.ops.length d) 35);refine(K1.out _ (HP.out.stays hba)).mono ?_;rintro e w1 ⟨rfl,hb1⟩;have HB1:=qH (hba.trans (hb1.mono (by simp)));exact x98w
theorem part_bts{w:World}{ab ao:Nat}{b:LU}(h:Bts w (some ⟨ab,ao,none⟩) b)(k:Nat):Bts w (some ⟨ab,ao+16*k,none⟩) ((b.drop (k*16)).take 16):=by
 intro i hi;have hi1:k*16+i<b.length:=by simp at hi;omega
 obtain⟨b',o',e,hl,hc⟩:=h (k*16+i) hi1
 cases e;refine⟨_,_,rfl,hl,?_⟩;rw[show ao+16*k+i=ao+(k*16+i) by omega,hc];simp
theorem refChunks_fine(B:OA)(d:Nat)(p:Pat)(w:World)(hp:PatIn w p B d)(h:patCheck p=0):
  Calls Tryz.prog 33 #[.agg (patA p.from_ p.to_ p.old p.new_ p.size B p.ops.length d)] w (ChkRet2 w (chunksOf p (packed (patBytes p))) 0):=by
 have K1:=qH (fun w hp=>refPatPut_ok B d p w hp h);have HP:=qH hp;have hl1:=patBytes_len h;obtain⟨hl2,hl3⟩:=packed_patch_len h;obtain⟨pb,hpb⟩:=eX (patBytes p);rw[hpb]at K1 hl1 hl2 hl3⊢;have K2:=qH (fun A c w hc hb=>refPacked_calls A c pb w hc (by omega) hb);obtain⟨b,hb⟩:=eX (packed pb);rw[hb]at K2 hl2 hl3⊢;obtain⟨m,hm⟩:=eX ((b.length+15) / 16);have HCO:Hid (∀k,k<m->(chunksOf p b)[k]?=some (chunkAt p b m k)):=qH (fun k hk=>by unfold chunksOf;rw[hm];simp[hk]);have HCL1:Hid ((chunksOf p b).length=m):=qH (by unfold chunksOf;rw[hm];simp);have hm1:m<=10:=by omega
 have hm2:0<m:=by omega
 have HM:=qH hm;clear hp h hpb hb hm;generalize chunksOf p b=cs at *
 have HCA:Hid (∀k,chunkAt p b m k=⟨p.from_,p.to_,k,m,(b.drop (k*16)).take 16⟩):=qH (fun k=>rfl);generalize chunkAt p b m=ca at *
 obtain⟨f,t,o,n,sz,l⟩:=p;dsimp only at *
 have j1:decide ((52:Int)<(m:Int))=false:=decide_eq_false (by omega);have j2:¬52<m:=by omega
 have hba:=(bW w).alloc nl (.cells (patA f t o n sz B l.length d) 35);go_enter Tryz.func33,Tryz.ntmps33;go_wp2_with fail;refine(K1.out _ (HP.out.stays hba)).mono ?_;rintro e w1 ⟨A1,c1,rfl,ho1,hb1⟩;have hb1':=hba.trans (hb1.mono (by simp));have a1:=kp (w.heap.size) (patA f t o n sz B l.length d) hb1;have HBT:=qH ho1.src.bts;have hc1:=ho1.le;dsimp only at hc1;have HB1:=qH hb1';clear ho1 hb1 hb1' hba;go_wp2_with fail;refine(K2.out _ _ _ hc1 HBT.out).mono ?_;rintro e w2 ⟨A2,c2,rfl,ho1,hb1⟩;have a1:=kr a1 hb1;have HBB1:=qH ho1.src.bts;have HO1:=qH ho1;have hc2:=ho1.le;have HB2:=bT HB1 hb1;have hlb:0<b.length:=by omega
 obtain⟨ab,ao,rfl,hab,_⟩:=HBB1.out 0 hlb;have hab1:w1.heap.size<=ab:=(ho1.block ab rfl).1;clear ho1 hb1 HP K1 K2;go_wp2_with fail;refine(chunk_calls _ _ _ _).mono ?_;rintro e w3 ⟨rfl,hw1⟩;have hs1:w3.heap.size=w2.heap.size+2:=by rw[hw1];simp
 have hb1:Below w2.heap.size w2 w3:=by rw[hw1];exact(bL _).alloc (by simp) _
 have k1:w3.cell? ⟨w2.heap.size,0,none⟩=some (.slice (some ⟨ab,ao,none⟩) b.length c2):=by
  rw[hw1];exact((Box.new w2 22 (.slice (some ⟨ab,ao,none⟩) b.length c2)).alloc _).cell
 have k2:w3.cell? ⟨w2.heap.size+1,0,none⟩=some (iv 16):=by
  rw[hw1];have:=(Box.new (w2.alloc (.cells #[.slice (some ⟨ab,ao,none⟩) b.length c2] 22)) 3 (iv 16)).cell;simp
 have K1:=qH (collectChunk_calls w2.heap.size (w2.heap.size+1) ab ao b.length c2 hc2 (by omega) w3 (by omega) (by omega) k1 k2);have a1:=kr a1 hb1;have HB3:=bT HB2 hb1;have HB5:=qH hb1;clear hw1 hb1 k1 k2;go_wp2_with fail;refine K1.out.mono ?_;rintro e w4 ⟨v,rfl,hrow,hb1⟩;rw[HM.out]at hrow;obtain⟨A3,c4,rfl⟩:∃A4 c4,v=.slice A4 m c4:=by
  rcases hrow.2 with ⟨rfl,h0⟩|⟨g,cap,_,rfl,_⟩
  ·omega
  exact⟨_,_,rfl⟩
 have ho1:Own w4 w3.heap.size 22 1 A3 m c4 ((List.range m).map (partV ab ao b.length)):=hrow;have hsr:=ho1.src;obtain⟨gl,ol,rfl,hgl,_⟩:=hsr 0 (by simpa using hm2);have HLC:Hid (∀k,k<m->w4.cell? ⟨gl,ol+k,none⟩=some (partV ab ao b.length k)):=qH (fun k hk=>by
  obtain⟨b',o',e,_,hc⟩:=hsr k (by simpa using hk)
  cases e;simpa using hc)
 have hmc:m<=c4:=ho1.le;have a1:=kr a1 hb1;have HB4:=bT HB3 hb1;have HBB2:Hid (Bts w4 (some ⟨ab,ao,none⟩) b):=qH ((HBB1.out.stays HB5.out).stays hb1);have HR1:Hid (rowOf w4 w.heap.size=patA f t o n sz B l.length d∧frOf w4 w.heap.size=(0,0)):=qH ⟨a1.1,a1.2.1⟩;have hab2:ab<w4.heap.size:=Nat.lt_of_lt_of_le hab (by have h1:=HB5.out.size;have h2:=hb1.size;omega);have hab3:w.heap.size<=ab:=Nat.le_trans HB1.out.size hab1;have hg1:=a1.2.2.2.2.2;clear hrow ho1 hsr hb1 K1 HBT HB1 HB2 HO1 HBB1 HB5 HB3 hab hab1 a1 hs1;go_wp2_with fail;generalize hg0:w.heap.size=g0 at *
 have HGE:=qH hg0;generalize hbase:w4.heap.size=base at *
 have HBE:=qH hbase;clear hg0 hbase;go_loopw [7,27] (fun v i wr=>∃(k:Nat) (acc:List Chk) (ds:List (Option Addr×Nat)) (C:OA) (cc:Nat),k<=m∧i=iv k∧v=.slice C acc.length cc∧acc.length=k∧Hid (acc=cs.take k)∧Hid (GRow kChk wr base acc ds C cc)∧Hid (Each kChk acc ds (fun q=>q=ab))∧Hid (Below base w4 wr)) (fun _ i _=>m-(intOf i).toNat)
 case atStart=>exact⟨0,[],[],none,0,Nat.zero_le _,rfl,rfl,rfl,qH (by simp),qH (GRow.nil _ _),qH Each.nil,qH (Below.refl _ _)⟩
 case round=>
  rename World=>wo;obtain⟨k,acc,ds,C,cc,hk,rfl,rfl,hal,HAC,HR,HE,HB⟩:=hrel;have hbo:base<=wo.heap.size:=Nat.le_trans (Nat.le_of_eq HBE.out.symm) HB.out.size;have hbw:Below w4.heap.size w4 wo:=HBE.out▸HB.out;have a1:=keep1 (g:=g0) (cs:=patA f t o n sz B l.length d) hbw HR1.out.1 (by go_simp) HR1.out.2;by_cases hlt:k<m
  ·have dl:decide ((k:Int)<(m:Int))=true:=decide_eq_true (by omega);have hwk:IntKind.i64.wrap ((k:Int)+1)=(k:Int)+1:=IntWalk.i64_in _ (by omega);obtain⟨x,hx⟩:=eX (ca k);have hxe:=HCA.out k;rw[hx]at hxe;obtain⟨y,hy⟩:=eX (min 16 (b.length-16*k));have hxd:x.data=(b.drop (k*16)).take 16:=by rw[hxe]
   have hxl:x.data.length=y:=by rw[hxd,<-hy];simp;omega
   have hB1:=part_bts (HBB2.out.stays hbw) k;rw[<-hxd]at hB1;have p1:wo.cell? ⟨gl,ol+k,none⟩=some (.slice (some ⟨ab,ao+16*k,none⟩) y y):=by
    have h1:=(World.cell?_of_block (HB.out.block gl hgl)).trans (HLC.out k hlt);rw[h1,<-hy];rfl
   have HNXT:Hid (acc++[x]=cs.take (k+1)):=qH (by
    have h1:=HCO.out k hlt;rw[hx]at h1;obtain⟨h2,h3⟩:=List.getElem?_eq_some_iff.1 h1;rw[List.take_succ_eq_append_getElem h2,h3,HAC.out])
   have HXE:Hid (kChk.cell x (some ⟨ab,ao+16*k,none⟩,y)=[iv f,iv t,iv k,iv m,.slice (some ⟨ab,ao+16*k,none⟩) y y]):=qH (by rw[show kChk.cell x (some ⟨ab,ao+16*k,none⟩,y)=chkC x (some ⟨ab,ao+16*k,none⟩) y from rfl];unfold chkC;rw[hxl,hxe]);have HBX:=qH hB1;have HXL:=qH hxl;have HAL:=qH hal;have hk1:k<=10:=by omega
   have hacl:acc.length<=10:=by omega
   have hrow:=HR.out.row;have hbelA:Below wo.heap.size wo (wo.alloc (.cells #[iv f,iv t,iv k,iv m,.slice (some ⟨ab,ao+16*k,none⟩) y y] 39)):=bL _;have hoa:=hrow.below hbelA;have hsd:Src (wo.alloc (.cells #[iv f,iv t,iv k,iv m,.slice (some ⟨ab,ao+16*k,none⟩) y y] 39)) (some ⟨wo.heap.size,0,none⟩) [iv f,iv t,iv k,iv m,.slice (some ⟨ab,ao+16*k,none⟩) y y]:=src_blk (blk_top rfl);have hone:∀u∈[iv f,iv t,iv k,iv m,Value.slice (some ⟨ab,ao+16*k,none⟩) y y],u.oneCell'=true:=by simp[Value.oneCell']
   have hle:base<=(wo.alloc (.cells #[iv f,iv t,iv k,iv m,.slice (some ⟨ab,ao+16*k,none⟩) y y] 39)).heap.size:=by simp;omega
   clear hx hxe hy hxd hxl hB1 hal hrow;go_wp2_with (at_builtin;go_must (refine wpList_app (wo.alloc (.cells #[iv f,iv t,iv k,iv m,.slice (some ⟨ab,ao+16*k,none⟩) y y] 39)) rfl _ _ 32 rfl elChunks base C acc.length cc (kChk.cells acc ds) rfl hoa (some ⟨wo.heap.size,0,none⟩) 1 1 [iv f,iv t,iv k,iv m,.slice (some ⟨ab,ao+16*k,none⟩) y y] rfl hsd rfl hone (by omega) hle ?_;intro C1 cc1 w5 hown hgr hbel hor));have HOWN:=qH hown;have HGR:=qH hgr;have HBEL:=qH hbel;have HOR:=qH hor;clear hown hgr hbel hor hoa hsd hone hle;go_roundw
   case rel=>
    have hbA:Below wo.heap.size wo (wo.alloc (.cells #[iv f,iv t,iv k,iv m,.slice (some ⟨ab,ao+16*k,none⟩) y y] 39)):=bL _;refine⟨k+1,acc++[x],ds++[(some ⟨ab,ao+16*k,none⟩,y)],C1,cc1,by omega,by go_num,by simp,by rw[List.length_append,HAL.out];rfl,HNXT,qH ?_,qH ?_,qH ?_⟩
    ·refine(HR.out.below hbA).push (o:=x) (d:=(some ⟨ab,ao+16*k,none⟩,y)) (by rw[HXE.out];exact HOWN.out) HBEL.out (fun q hq hn=>HGR.out.block q hq (fun e=>hn e.symm)) ?_ (HBX.out.stays hbA) (Nat.le_of_eq HXL.out) (fun _ q e e2=>?_)
     ·rcases HOR.out with h|h
      ·exact .inl h
      ·exact .inr (fun q hq=>by rw[h]at hq;injection hq with hq;omega)
     ·have h1:=(HR.out.row.block q e2).1;have h2:ab=q:=by simpa using e
      omega
    ·exact HE.out.push HR.out.len (fun _ q e=>by simpa using e.symm)
    exact(HB.out.alloc hbo _).trans HBEL.out
   case measure=>simp[intOf];omega
  obtain rfl:k=m:=by omega
  have dl:decide ((k:Int)<(k:Int))=false:=by simp
  have hz:acc=cs:=by rw[HAC.out,List.take_of_length_le (by rw[HCL1.out];exact nl)]
  have HZ:=qH hz;clear hz hal;go_wp2_with fail;go_ret2;rw[<-HZ.out];exact⟨C,cc,ds,rfl,HR.out.mono (by rw[HGE.out];omega),HE.out.imp (fun q hq=>by rw[HGE.out,hq];omega),by rw[HGE.out];exact HB4.out.trans (HB.out.mono (by omega))⟩
theorem refChunks_calls(B:OA)(d:Nat)(p:Pat)(w:World)(hp:PatIn w p B d):
  Calls Tryz.prog 33 #[.agg (patA p.from_ p.to_ p.old p.new_ p.size B p.ops.length d)] w (ChkRet2 w (chkCut p).1 (chkCut p).2):=by
 unfold chkCut;by_cases h:patCheck p=0
 ·obtain⟨h1,h2⟩:=packed_patch_len h;rw[if_neg (by simpa using h),if_neg (by omega)];exact refChunks_fine B d p w hp h
 rw[if_pos h];exact refChunks_bad B d p w hp h
end Go.Proofs.YtefkfglkpebbmacGreat
