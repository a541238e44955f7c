/- The walk of the document's PatchBytes. No conditions. -/
import Derived.Test.YtefkfglkpebbmacP2
set_option linter.unusedVariables false
set_option linter.unusedSimpArgs false
set_option maxRecDepth 100000
set_option maxHeartbeats 40000000
namespace Go.Proofs.Ytefkfglkpebbmac
open Go.RowKit
variable {Y:Prop}
theorem refPatCheckR_calls(A:OA)(c:Nat)(f t o n sz:Int)(l:List Stp)(w:World)(hl:l.length<=3518437208780)(hs:Sps w A l):
  Calls Try.prog 30 #[.agg (patA f t o n sz A l.length c)] w (RetB w (iv (patCheck ⟨f,t,o,n,sz,l⟩))):=refPatCheckA_calls A c f t o n sz l w hl hs
theorem u8wrap(n:Int):IntKind.u8.wrap n=n%256:=by unfold IntKind.wrap;simp[IntKind.signed,IntKind.bits]
theorem bv_by3(n:Int):bv (by_ n)=.int .u8 (IntKind.u8.wrap n):=by rw[u8wrap];exact bv_by2 n
theorem refPatPut_bad(B:OA)(d:Nat)(p:Pat)(w:World)(hp:PatIn w p B d)(h:patCheck p≠0):
  Calls Try.prog 108 #[.agg (patA p.from_ p.to_ p.old p.new_ p.size B p.ops.length d)] w (RetB w (.tuple #[.slice none 0 0,iv (patCheck p)])):=by
 obtain⟨f,t,o,n,sz,l⟩:=p;obtain⟨hcap,hlen,hops,-,-,-,-,-⟩:=hp;dsimp only at *
 have hba:=(bW w).alloc nl (.cells (patA f t o n sz B l.length d) 35);have K1:=qH (refPatCheckR_calls B d f t o n sz l _ hlen (hops.stays hba));generalize patCheck ⟨f,t,o,n,sz,l⟩=ck at *
 have q:(ck !=0)=true:=by simp[h]
 clear hops h;go_enter Try.func108,Try.ntmps108;exact x7gj
theorem refPatPut_ok(B:OA)(d:Nat)(p:Pat)(w:World)(hp:PatIn w p B d)(h:patCheck p=0):
  Calls Try.prog 108 #[.agg (patA p.from_ p.to_ p.old p.new_ p.size B p.ops.length d)] w (UnRet w (patBytes p,0)):=by
 have hl1:=patBytes_len h;obtain⟨hr,hd⟩:=patCheck_ok.1 h;have HPB:Hid (patBytes p=patHead p++opsBytes p.ops):=qH rfl;obtain⟨f,t,o,n,sz,l⟩:=p;obtain⟨hcap,hlen,hops,-,-,-,-,-⟩:=hp;unfold Pat.range at hr;dsimp only at *
 obtain⟨r1,r2,r3,r4,r5,r6,r7,r8⟩:=hr;have r1:=hd.s0;have r1:=hd.s1;have r1:=hd.many;have hba:=(bW w).alloc nl (.cells (patA f t o n sz B l.length d) 35);have K1:=qH (refPatCheckR_calls B d f t o n sz l _ hlen (hops.stays hba));rw[h]at K1;have HD:=qH hd;have HS:=qH hops;have HBA:=qH hba;have t1:o.tdiv 256=o / 256:=Int.tdiv_eq_ediv_of_nonneg (by omega);have t2:o.tmod 256=o%256:=Int.tmod_eq_emod_of_nonneg (by omega);have t3:n.tdiv 256=n / 256:=Int.tdiv_eq_ediv_of_nonneg (by omega);have t4:n.tmod 256=n%256:=Int.tmod_eq_emod_of_nonneg (by omega);have u1:IntKind.i64.wrap (o / 256)=o / 256:=IntWalk.i64_in _ (by omega);have u2:IntKind.i64.wrap (n / 256)=n / 256:=IntWalk.i64_in _ (by omega);clear hops hd h hba;go_enter Try.func108,Try.ntmps108;go_wp2_with fail;refine K1.out.mono ?_;rintro e w1 ⟨rfl,hb1⟩;have a1:=kp (w.heap.size) (patA f t o n sz B l.length d) hb1;have HB1:=bT HBA hb1;clear hb1 K1;go_wp2_with fail;obtain⟨ns,hns⟩:∃ns:List Int,[f,t,o / 256,o%256,n / 256,n%256,sz,(l.length:Int)]=ns:=⟨_,rfl⟩;have HHD:Hid ((patHead ⟨f,t,o,n,sz,l⟩)=ns.map by_):=qH (by
  have e:∀m:Int,by_ (m%256)=by_ m:=fun m=>by unfold by_;rw[Int.emod_emod_of_dvd _ (Int.dvd_refl _)]
  rw[<-hns];unfold patHead;simp only[List.map_cons,List.map_nil,e])
 have hn1:ns.length=8:=by rw[<-hns];rfl
 have HNT:Hid (Nts (w1.alloc (.cells #[iv f,iv t,iv (o / 256),iv (o%256),iv (n / 256),iv (n%256),iv sz,iv (l.length:Int)] 3)) (some ⟨w1.heap.size,0,none⟩) ns):=qH (nts_top rfl (by rw[<-hns];rfl));have HB2:Hid (Below w.heap.size w (w1.alloc (.cells #[iv f,iv t,iv (o / 256),iv (o%256),iv (n / 256),iv (n%256),iv sz,iv (l.length:Int)] 3))):=qH (HB1.out.alloc HB1.out.size _);obtain⟨b0r,b0f,b0n,b0c,b0z,b0l⟩:=keep1 (g:=w.heap.size) (cs:=patA f t o n sz B l.length d) (bL (.cells #[iv f,iv t,iv (o / 256),iv (o%256),iv (n / 256),iv (n%256),iv sz,iv (l.length:Int)] 3)) a1.1 (by simp[patA]) a1.2.1;have HR1:=qH b0r;have HF1:=qH b0f;have hsw:=HB2.out.size;clear hns t1 t2 t3 t4 u1 u2 a1 b0r b0f b0n b0c b0z;generalize w1.alloc (.cells #[iv f,iv t,iv (o / 256),iv (o%256),iv (n / 256),iv (n%256),iv sz,iv (l.length:Int)] 3)=w2 at *
 generalize hg1:w1.heap.size=g1 at *
 clear hg1;generalize hbase:w2.heap.size=base at *
 have HBE:=qH hbase;have HS1:Hid (∀w',Below base w2 w'->Sps w' B l):=qH (fun w' hb=>(HS.out.stays HB2.out).stays (HBE.out.symm▸hb));generalize hg0:w.heap.size=g0 at *
 have HG1:=qH hg0;clear hg0 hbase HB1 HBA;have HFIN:Hid (∀w' A c (x:LU),Own w' base 5 1 A x.length c (x.map bv)->Below base w2 w'->Own w' w.heap.size 5 1 A x.length c (x.map bv)∧Below w.heap.size w w'):=qH (fun w' A c x h1 h2=>⟨h1.mono (by rw[HG1.out];omega),by rw[HG1.out];exact HB2.out.trans (h2.mono (by omega))⟩);have hph1:(patHead ⟨f,t,o,n,sz,l⟩).length=8:=rfl;have HP1:=qH hph1;clear hph1;generalize patHead ⟨f,t,o,n,sz,l⟩=hd at *
 generalize patBytes ⟨f,t,o,n,sz,l⟩=pb at *
 go_loopw [5,38] (fun v i wr=>∃(k:Nat) (C:OA) (cc:Nat) (pre:LU),k<=8∧i=iv k∧v=.slice C pre.length cc∧Hid (pre=hd.take k)∧Hid (Own wr base 5 1 C pre.length cc (pre.map bv))∧Hid (Below base w2 wr)) (fun _ i _=>8-(intOf i).toNat)
 case atStart=>exact⟨0,none,0,[],Nat.zero_le _,rfl,rfl,qH (by simp),qH (Own.nil_ _ _ _ _),qH (Below.refl _ _)⟩
 case round=>
  rename World=>wz;obtain⟨k,C,cc,pre,hk,rfl,rfl,HPRE,HO1,HB1⟩:=hrel;have hbz:base<=wz.heap.size:=Nat.le_trans (Nat.le_of_eq HBE.out.symm) HB1.out.size;have hpl:pre.length=k:=by rw[HPRE.out,List.length_take,HP1.out];omega
  by_cases hlt:k<8
  ·have hbw:Below w2.heap.size w2 wz:=HBE.out▸HB1.out;have hkn:k<ns.length:=by omega
   obtain⟨sb,so,e1,hsb,hc⟩:=(HNT.out.stays hbw) k hkn;injection e1 with e1;injection e1 with e1 e2;subst e1 e2;have hpre1:hd.take (k+1)=pre++[by_ ns[k]]:=by
    rw[List.take_succ_eq_append_getElem (by rw[HP1.out];omega),<-HPRE.out];congr 2;simp[HHD.out]
   obtain⟨x,hx⟩:=eX (ns[k]);rw[hx]at hc hpre1;clear hx;simp only[Nat.zero_add]at hc;have HPRE1:=qH hpre1;have dl:decide ((k:Int)<8)=true:=decide_eq_true (by omega);have HBV:Hid (([by_ x]:List UInt8).map bv=[.int .u8 (IntKind.u8.wrap x)]):=qH (by simp only[List.map_cons,List.map_nil];rw[bv_by3]);clear hpre1 hbw;rw[u8wrap]at HBV;have hoa:=HO1.out.alloc (.cells #[.int .u8 (x%256)] 5);have hs1:Src (wz.alloc (.cells #[.int .u8 (x%256)] 5)) (some ⟨wz.heap.size,0,none⟩) [.int .u8 (x%256)]:=src_blk (blk_top rfl);have hob:pre.length+1<=137438953472:=by omega
   clear hpl;have hle:base<=(wz.alloc (.cells #[.int .u8 (x%256)] 5)).heap.size:=by simp;omega
   go_wp2_with (at_builtin;go_must (refine wpList_app (wz.alloc (.cells #[.int .u8 (x%256)] 5)) rfl _ _ 22 rfl elBytes base C pre.length cc (pre.map bv) rfl hoa (some ⟨wz.heap.size,0,none⟩) 1 1 [.int .u8 (x%256)] rfl hs1 rfl (by simp[Value.oneCell']) hob hle ?_;intro C1 c1 w3 hown hgr hbel hor));have HB1:Hid (Below base w2 w3):=qH ((HB1.out.alloc hbz _).trans hbel);have HL:Hid (pre.length+1=(pre++[by_ x]).length):=qH (by simp);have HO1:Hid (Own w3 base 5 1 C1 (pre++[by_ x]).length c1 ((pre++[by_ x]).map bv)):=qH (by rw[List.map_append,HBV.out,<-HL.out];exact hown);clear hown hgr hbel hor hoa hs1 hob hle;go_roundw
   case rel=>exact⟨k+1,C1,c1,pre++[by_ x],by omega,by go_num,by rw[HL.out],qH HPRE1.out.symm,HO1,HB1⟩
   case measure=>simp[intOf];omega
  obtain rfl:k=8:=by omega
  have dl:decide ((8:Int)<8)=false:=by decide
  have e1:((8:Nat):Int)=8:=rfl;rw[e1];clear e1;have hpre:pre=hd:=by rw[HPRE.out,List.take_of_length_le (by rw[HP1.out];omega)]
  subst hpre;clear hpl;obtain⟨b0r,b0f,b0n,b0c,b0z,b0l'⟩:=keep1 (W:=w2) (w':=wz) (g:=g0) (cs:=patA f t o n sz B l.length d) (HBE.out▸HB1.out) HR1.out (by simp[patA]) HF1.out;go_wp2_with fail;go_loopw [5,51] (fun v i wr=>∃(k:Nat) (C:OA) (cc:Nat) (p2:LU),k<=l.length∧i=iv k∧v=.slice C p2.length cc∧Hid (p2=pre++opsBytes (l.take k))∧Hid (Own wr base 5 1 C p2.length cc (p2.map bv))∧Hid (Below base w2 wr)) (fun _ i _=>l.length-(intOf i).toNat)
  case atStart=>exact⟨0,C,cc,pre,Nat.zero_le _,rfl,rfl,qH (by simp[opsBytes]),HO1,HB1⟩
  case round=>
   clear HO1 HB1 b0r b0f b0n b0c b0z b0l';rename World=>wx;obtain⟨k,C,cc,p2,hk,rfl,rfl,HPRE,HO1,HB1⟩:=hrel;have hbx:base<=wx.heap.size:=Nat.le_trans (Nat.le_of_eq HBE.out.symm) HB1.out.size;have hpl:p2.length+(opsBytes (l.drop k)).length=pb.length:=by
    exact x2h2
   by_cases hlt:k<l.length
   ·have hxo:=HD.out.each l[k] (List.getElem_mem hlt);have hbw:Below w2.heap.size w2 wx:=HBE.out▸HB1.out;obtain⟨sb,so,D,dc,rfl,hsb,q3,q1,q2,p3,p4,p5,-,-⟩:=(HS1.out w2 (Below.refl _ _)).at_ hlt;have p6:=(hbw.cell (p:=⟨sb,so+k*3,none⟩) hsb).trans q3;have p1:=(hbw.cell (p:=⟨sb,so+k*3+1,none⟩) hsb).trans q1;have p2c:=(hbw.cell (p:=⟨sb,so+k*3+2,none⟩) hsb).trans q2;clear q3 q1 q2;have hpre1:pre++opsBytes (l.take (k+1))=p2++stpBytes l[k]:=by rw[List.take_succ_eq_append_getElem hlt,opsBytes_append,opsBytes_one,<-List.append_assoc,<-HPRE.out]
    have hdrop:l.drop k=l[k]::l.drop (k+1):=List.drop_eq_getElem_cons hlt;rw[hdrop,opsBytes_cons,List.length_append]at hpl;obtain⟨x,hx⟩:=eX (l[k]);rw[hx]at hxo hpre1 hpl p6 p1 p2c p3 p4 p5;clear hx hdrop;obtain⟨at_,len,data⟩:=x;obtain⟨hform,hin⟩:=hxo;unfold Stp.in_ at hin;dsimp only at *
    obtain⟨j1,j2,j3⟩:=hin;have HDT1:Hid (∀w',Below base w2 w'->Bts w' D data):=qH (fun w' hb=>p5.stays (HBE.out▸hb));have HPRE1:=qH hpre1;have dl:decide ((k:Int)<(l.length:Int))=true:=decide_eq_true (by omega);have hwk:IntKind.i64.wrap ((k:Int)+1)=(k:Int)+1:=IntWalk.i64_in _ (by omega);clear p5 hpre1 hbw;by_cases hl1:0<len
    ·have hst:stpBytes ⟨at_,len,data⟩=[by_ at_,by_ len]:=by unfold stpBytes;rw[if_pos hl1]
     rw[hst]at HPRE1 hpl;have hj1:at_<=64:=by omega
     have hj1:len<=64:=by omega
     have dz:(len==0)=false:=by simp;omega
     have v1:at_%256=at_:=by omega
     have v1:len%256=len:=by omega
     have HBV:Hid (([by_ at_,by_ len]:List UInt8).map bv=[.int .u8 at_,.int .u8 len]):=qH (by simp only[List.map_cons,List.map_nil];rw[bv_by at_ (by omega),bv_by len (by omega)]);have hoa:=(HO1.out.alloc (.cells #[iv at_,iv len,.slice D data.length dc] 117)).alloc (.cells #[.int .u8 at_,.int .u8 len] 5);have hs1:Src ((wx.alloc (.cells #[iv at_,iv len,.slice D data.length dc] 117)).alloc (.cells #[.int .u8 at_,.int .u8 len] 5)) (some ⟨wx.heap.size+1,0,none⟩) [.int .u8 at_,.int .u8 len]:=src_blk (blk_top (by simp));have hob:p2.length+2<=137438953472:=by omega
     have hle:base<=((wx.alloc (.cells #[iv at_,iv len,.slice D data.length dc] 117)).alloc (.cells #[.int .u8 at_,.int .u8 len] 5)).heap.size:=by simp;omega
     clear hst hform hpl;go_wp2_with (at_builtin;go_must (refine wpList_app ((wx.alloc (.cells #[iv at_,iv len,.slice D data.length dc] 117)).alloc (.cells #[.int .u8 at_,.int .u8 len] 5)) rfl _ _ 22 rfl elBytes base C p2.length cc (p2.map bv) rfl hoa (some ⟨wx.heap.size+1,0,none⟩) 2 2 [.int .u8 at_,.int .u8 len] rfl hs1 rfl (by simp[Value.oneCell']) hob hle ?_;intro C1 c1 w3 hown hgr hbel hor));have HB1:Hid (Below base w2 w3):=qH (((HB1.out.alloc hbx _).alloc (by simp;omega) _).trans hbel);have HL:Hid (p2.length+2=(p2++[by_ at_,by_ len]).length):=qH (by simp);have HO1:Hid (Own w3 base 5 1 C1 (p2++[by_ at_,by_ len]).length c1 ((p2++[by_ at_,by_ len]).map bv)):=qH (by rw[List.map_append,HBV.out,<-HL.out];exact hown);clear hown hgr hbel hor hoa hs1 hob hle;go_roundw
     case rel=>exact⟨k+1,C1,c1,p2++[by_ at_,by_ len],by omega,by go_num,by rw[HL.out],qH HPRE1.out.symm,HO1,HB1⟩
     case measure=>simp[intOf];omega
    obtain rfl:len=0:=by omega
    obtain⟨rfl,hd1,hd2⟩:=hform.1 rfl;have hst:stpBytes ⟨0,0,data⟩=255::by_ data.length::data:=by unfold stpBytes;rw[if_neg (by simp)]
    rw[hst]at HPRE1 hpl;simp only[List.length_cons]at hpl;have hdl:data.length<=64:=hd2;have v1:(data.length:Int)%256=(data.length:Int):=by omega
    have HBV:Hid ((255::by_ data.length::data:LU).map bv=[.int .u8 255,.int .u8 (data.length:Int)]++data.map bv):=qH (by simp only[List.map_cons];rw[bv_by (data.length:Int) (by omega)];rfl);have HG0':Hid ((wx.alloc (.cells #[iv 0,iv 0,.slice D data.length dc] 117)).heap[wx.heap.size]?=some (.cells #[iv 0,iv 0,.slice D data.length dc] 117 (0,0))):=qH (blk_top rfl);have hoa:=(HO1.out.alloc (.cells #[iv 0,iv 0,.slice D data.length dc] 117)).alloc (.cells #[.int .u8 255,.int .u8 (data.length:Int)] 5);have hs1:Src ((wx.alloc (.cells #[iv 0,iv 0,.slice D data.length dc] 117)).alloc (.cells #[.int .u8 255,.int .u8 (data.length:Int)] 5)) (some ⟨wx.heap.size+1,0,none⟩) [.int .u8 255,.int .u8 (data.length:Int)]:=src_blk (blk_top (by simp));have hob:p2.length+2<=137438953472:=by omega
    have hob1:p2.length+2+data.length<=137438953472:=by omega
    have hle:base<=((wx.alloc (.cells #[iv 0,iv 0,.slice D data.length dc] 117)).alloc (.cells #[.int .u8 255,.int .u8 (data.length:Int)] 5)).heap.size:=by simp;omega
    have hgC:C.map (·.block)≠some wx.heap.size:=fun e=>by have:=(HO1.out.block _ e).2;omega
    clear hst hform hpl;go_wp2_with (at_builtin;go_must (refine wpList_app ((wx.alloc (.cells #[iv 0,iv 0,.slice D data.length dc] 117)).alloc (.cells #[.int .u8 255,.int .u8 (data.length:Int)] 5)) rfl _ _ 22 rfl elBytes base C p2.length cc (p2.map bv) rfl hoa (some ⟨wx.heap.size+1,0,none⟩) 2 2 [.int .u8 255,.int .u8 (data.length:Int)] rfl hs1 rfl (by simp[Value.oneCell']) hob hle ?_));intro C1 c1 w1 hown hgr hbel hor;have hg1:w1.heap[wx.heap.size]?=some (.cells #[iv 0,iv 0,.slice D data.length dc] 117 (0,0)):=(hgr.block wx.heap.size (by simp;omega) (fun e=>hgC e.symm)).trans (blk_old HG0'.out);obtain⟨g1c,g2c,g3c,g4c,g5c⟩:=blkFacts hg1 (by simp);have HB1:Hid (Below base w2 w1):=qH (((HB1.out.alloc hbx _).alloc (by simp;omega) _).trans hbel);have hbz1:base<=w1.heap.size:=Nat.le_trans (Nat.le_of_eq HBE.out.symm) HB1.out.size;have HO1:Hid (Own w1 base 5 1 C1 (p2.length+2) c1 (p2.map bv++[.int .u8 255,.int .u8 (data.length:Int)])):=qH hown;have hsd:=(HDT1.out w1 HB1.out).src;clear hown hgr hbel hor hoa hs1 hob hle hg1 hgC;go_wp2_with (at_builtin;go_must (refine wpList_app w1 rfl _ _ 22 rfl elBytes base C1 (p2.length+2) c1 (p2.map bv++[.int .u8 255,.int .u8 (data.length:Int)]) rfl HO1.out D data.length dc (data.map bv) rfl hsd (by simp) (bv_one _) hob1 hbz1 ?_));intro C1 c1 w1 hown hgr hbel hor;have HB1:Hid (Below base w2 w1):=qH (HB1.out.trans hbel);have HL:Hid (p2.length+2+data.length=(p2++(255::by_ data.length::data)).length):=qH (by simp;omega);have HO1:Hid (Own w1 base 5 1 C1 (p2++(255::by_ data.length::data)).length c1 ((p2++(255::by_ data.length::data)).map bv)):=qH (by rw[List.map_append,HBV.out,<-HL.out];simpa using hown);clear hown hgr hbel hor hsd hob1;go_wp2_with fail;go_roundw
    case rel=>exact⟨k+1,C1,c1,p2++(255::by_ data.length::data),by omega,by go_num,by rw[HL.out],qH HPRE1.out.symm,HO1,HB1⟩
    case measure=>simp[intOf];omega
   obtain rfl:k=l.length:=by omega
   have dl:decide ((l.length:Int)<(l.length:Int))=false:=by simp
   have hpre:p2=pb:=by rw[HPB.out,HPRE.out,List.take_length]
   subst hpre;have d1:decide ((400:Int)<(p2.length:Int))=false:=decide_eq_false (by omega);clear hpl;go_wp2_with fail;go_ret2;obtain⟨z1,z2⟩:=HFIN.out _ C cc p2 HO1.out HB1.out;exact⟨C,cc,rfl,z1,z2⟩
end Go.Proofs.Ytefkfglkpebbmac
